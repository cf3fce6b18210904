/- Part 3 of the proof: 45 texts, one behind the other. -/
import Derived.Test.YtgmbfohkpfineaaGreatDoorShelf
import Derived.Lib.Overlaps
import Derived.Lib.AppendZerosOnto
import Derived.Laws.IdiomCopy
import Derived.Lib.ItoaNum
import Derived.Lib.Bytealg
import Derived.Lib.Strings
import Derived.Lib.LaidTab
import Derived.Lib.ItoaMem
import Derived.Test.YtgmbfohkpfineaaGreatDoorM2
set_option maxRecDepth 100000
set_option maxHeartbeats 8000000
set_option linter.all false
set_option linter.unusedVariables false
set_option linter.unusedSimpArgs false
namespace Go.Proofs.YtgmbfohkpfineaaGreatDoor
open Go.RowKit
theorem nodup_apt {A B:List Nat} (h:(A++B).Nodup) {b:Nat} (ha:b∈A) (hb:b∈B):False:=(List.nodup_append.1 h).2.2 b ha b hb rfl
section
variable {c:Cx} {fr:Fr} {H:List Pc} {k:List It} {Φ:Gl} {ops:Array Oper} {rest:List Oper} {d:Nat} {o:Op} {ty:TypeId} {pos:String} {aft:Array Edge} {v u:Value} {x y:Operand}
theorem ap {α:Type} {E:Elem α} {t e m b:Nat} {z:Value} [hS:SlC c.P t e m] [hE:ElT c.P e z m b] {xs ys:List α} {F Fy:List Nat} {ao:Option Addr} {n cp:Nat} {gd:Option (Nat × Bool)} {R S:List Pc} (one:One E) (hz:0 < E.sz) (hm:E.sz=m)
  (hp:Pick H (.ow E e v xs F) R) (hx:ev fr x=some v) (hy:ev fr y=some (.slice ao n cp)) (hn:n=ys.length)
  (hsrc:∀w,St c.G c.D c.w0 (.ow E e v xs F::R) w→∃news,Flat E w news ys Fy∧((ao=none∧cp=0∧ys=[])∨∃ad,ao=some ad∧∀j u,news[j]?=some u→w.cell? (ad.add j)=some u)∧(∀b∈Fy,b ∉ F)∧Fy.Nodup)
  (hFy:∀w v' F',St c.G c.D c.w0 (.ow E e v xs F::R) w→(∀b∈F',b∈F∨b∈Fy∨b=w.heap.size)→∀w',Keep F w w'→(Pc.ow E e v' (xs++ys) F').P w'→St c.G c.D c.w0 (.ow E e v' (xs++ys) F'::S) w')
  (h63:xs.length+ys.length≤maxLen) (hby:(xs.length+ys.length) * b≤140737488355328)
  (h:∀a' c' F',T c ((d,.slice a' (xs++ys).length c')::fr) (.ow E e (.slice a' (xs++ys).length c') (xs++ys) F'::S) Φ) (hd:Nat.blt d c.n=true) :
  Ef c fr H ⟨some d,.call { callee:=.builtin .append,args:=#[x,y],argTypes:=#[t,t] },ty,pos,aft,gd⟩ Φ:=.mk fun Q a w s g=>by
 have s1:=s.pick hp
 obtain ⟨hnd,how⟩:=s1.on (.ow E e v xs F) (by simp)
 obtain ⟨news,hfl,hsr,hdis,hny⟩:=hsrc w s1
 subst hn
 refine wp_apd (P:=c.P) one hz x y t rfl e z b hS.u (by rw [hE.i,hm]) (by rw [hE.s,hm]) v xs F (g.ev hx) how (Hd.of hnd) ao ys cp (g.ev hy) news Fy hfl hsr (fun b hb e=>hdis b hb (how.own_mem b e)) h63 hby fun v' w' F' hA=>?_
 obtain ⟨a',c',rfl⟩:=hA.val
 rw [←List.length_append] at hA ⊢
 have hw:=hA.ow
 exact (h a' c' F').h _ _ (hFy w _ F' s1 hA.mem w' hA.keep ⟨hA.nodup hnd hny hdis,hw⟩) (g.put hd)
theorem ap1 {α:Type} {E:Elem α} {t e m b:Nat} {z:Value} [hS:SlC c.P t e m] [hE:ElT c.P e z m b] {xs ys:List α} {F:List Nat} {g n cp tt:Nat} {cs:List Value} {R S:List Pc}
  (hfl:∀w,Flat E w cs ys []) (one:One E) (h:∀a' c' F',T c ((d,.slice a' (xs++ys).length c')::fr) (.ow E e (.slice a' (xs++ys).length c') (xs++ys) F'::S) Φ)
  (hx:ev fr x=some v:=by rfl) (hy:ev fr y=some (.slice (some ⟨g,0,none⟩) n cp):=by rfl) (hp:Pick H (.ow E e v xs F) R:=by (repeat (first|exact .here|apply Pick.there));first|done|fail) (hp2:Pick R (.row g tt 0 [] cs []) S:=by (repeat (first|exact .here|apply Pick.there));first|done|fail) (hn:n=ys.length:=by rfl) (hz:0 < E.sz:=by decide) (hm:E.sz=m:=by rfl)
  (h63:xs.length+ys.length≤9223372036854775807:=by simp only [List.length_cons,List.length_nil];omega) (hby:(xs.length+ys.length) * b≤140737488355328:=by simp only [List.length_cons,List.length_nil];omega) (hd:Nat.blt d c.n=true:=by rfl) :
  On c fr H (some d) (.call { callee:=.builtin .append,args:=#[x,y],argTypes:=#[t,t] }) ty Φ :=
 ⟨fun _ _ _=>ap one hz hm hp hx hy hn (Fy:=[]) (fun w s=>⟨cs,hfl w,.inr ⟨_,rfl,fun j u hu=>by
   have hr:=(s.on (.row g tt 0 [] cs []) (by simp [hp2.mem])).2
   have:=hr.cell j
   simp only [List.nil_append,List.append_nil] at this
   rw [hu] at this
   unfold Addr.add
   split
   ·rename_i e;subst e;exact this
   ·simpa using this⟩,by simp,by simp⟩)
  (fun w v' F' s hF w' hk hv=>by
   have s2:St c.G c.D c.w0 (.ow E e v xs F::S) w:=⟨s.keep,fun q hq=>s.on q (by rcases List.mem_cons.1 hq with rfl|hq;simp;simp [hp2.sub q hq]),⟨fun q hq=>s.sep.1 q (hp2.sub q hq),(hp2.sep s.sep.2).2⟩,fun q hq=>s.mine q (by rcases List.mem_cons.1 hq with rfl|hq;simp;simp [hp2.sub q hq])⟩
   exact St.turn (M:=[.ow E e v xs F]) (N:=[.ow E e v' (xs++ys) F']) s2 (by simpa [List.filter,Pc.mu,fp,Pc.F] using hk) (by intro q hq;simp at hq;subst hq;exact hv) ⟨by simp,trivial⟩ (by
    intro q hq b hb
    simp at hq;subst hq
    rcases hF b hb with h|h|h
    ·exact .inr (.inl ⟨.ow E e v xs F,by simp,rfl,h⟩)
    ·simp at h
    ·exact .inl (by omega)))
  (by unfold maxLen;exact h63) hby h hd⟩
theorem aps {α:Type} {E:Elem α} {t e m b:Nat} {z:Value} [hS:SlC c.P t e m] [hE:ElT c.P e z m b] {xs ys:List α} {F G:List Nat} {ao:Option Addr} {n cp:Nat} {R:List Pc}
  (one:One E) (sc:∀{w cs x F},E.rep w cs x F→F=[]) (h:∀a' c' F',T c ((d,.slice a' (xs++ys).length c')::fr) (.ow E e (.slice a' (xs++ys).length c') (xs++ys) F'::R) Φ)
  (hx:ev fr x=some v:=by rfl) (hy:ev fr y=some (.slice ao n cp):=by rfl) (hp:Pick H (.ow E e v xs F) R:=by (repeat (first|exact .here|apply Pick.there));first|done|fail) (hp2:.sl E (.slice ao n cp) ys G∈R:=by (repeat (first|exact .head _|apply List.Mem.tail));first|done|fail) (hn:n=ys.length:=by rfl) (hz:0 < E.sz:=by decide) (hm:E.sz=m:=by rfl)
  (h63:xs.length+ys.length≤9223372036854775807:=by first|omega|(simp only [List.length_cons,List.length_nil];omega)) (hby:(xs.length+ys.length) * b≤140737488355328:=by first|omega|(simp only [List.length_cons,List.length_nil];omega)) (hd:Nat.blt d c.n=true:=by rfl) :
  On c fr H (some d) (.call { callee:=.builtin .append,args:=#[x,y],argTypes:=#[t,t] }) ty Φ :=
 have flat0:∀{w cs zs G},Flat E w cs zs G→G=[]:=fun {w cs zs G}=>by
  induction zs generalizing cs G with
  | nil=>intro h;exact h.2
  | cons z r ih=>intro h;obtain ⟨c1,c2,F1,F2,_,rfl,h1,h2⟩:=h;rw [sc h1,ih h2];rfl
 ⟨fun _ _ _=>ap one hz hm hp hx hy hn (Fy:=[]) (fun w s=>by
   obtain ⟨-,hs⟩:=s.on (.sl E (.slice ao n cp) ys G) (by simp [hp2])
   obtain ⟨ao',cc,news,Fy,he, -,hfy, -,hsrc⟩:=hs.src
   simp only [Value.slice.injEq] at he
   obtain ⟨rfl, -,rfl⟩:=he
   obtain rfl:=flat0 hfy
   exact ⟨news,hfy,hsrc,by simp,by simp⟩)
  (fun w v' F' s hF w' hk hv=>St.turn (M:=[.ow E e v xs F]) (N:=[.ow E e v' (xs++ys) F']) s (by simpa [List.filter,Pc.mu,fp,Pc.F] using hk) (by intro q hq;simp at hq;subst hq;exact hv) ⟨by simp,trivial⟩ (by
    intro q hq b hb
    simp at hq;subst hq
    rcases hF b hb with h|h|h
    ·exact .inr (.inl ⟨.ow E e v xs F,by simp,rfl,h⟩)
    ·simp at h
    ·exact .inl (by omega)))
  (by unfold maxLen;exact h63) hby h hd⟩
/-! parts of slices that read -/
theorem elem_of {P:Program} {t e m:Nat} (hS:SlC P t e m):P.elem t=e:=by simp [Program.elem,hS.u]
theorem sld {α:Type} {E:Elem α} {t e m:Nat} [hS:SlC c.P t e m] {a:Option Addr} {n cp:Nat} {xs:List α} {F:List Nat} {i:Int} (j:Nat) (h:∀a' c' F',T c ((d,.slice a' (xs.drop j).length c')::fr) (.sl E (.slice a' (xs.drop j).length c') (xs.drop j) F'::H) Φ)
  (hx:ev fr x=some (.slice a n cp):=by rfl) (hy:ev fr y=some (.int .i64 i):=by rfl) (hm:.sl E (.slice a n cp) xs F∈H:=by (repeat (first|exact .head _|apply List.Mem.tail));first|done|fail) (hi:i=(j:Int):=by first|rfl|omega) (hj:j≤xs.length:=by omega) (he:E.sz=m:=by rfl) (hd:Nat.blt d c.n=true:=by rfl):On c fr H (some d) (.slice t x (some y) none none) ty Φ:=⟨fun pos aft gd=>ef_of fun Q ac w s g=>by
 subst hi
 obtain ⟨hz,hs⟩:=s.get hm
 have he2:=elem_of hS
 obtain ⟨a2,c2,F',hr,hF,h2⟩:=hs.dropS t (by rw [he2];exact hS.u) j hj (fun W=>by rw [he2,he];exact size_of hS.s W)
 have e1:(execOp ac.eval ⟨some d,.slice t x (some y) none none,ty,pos,aft,gd⟩).run c.P w=.ok (.value (.slice a2 (xs.drop j).length c2)) w:=by
  simp [execOp,g.ev hx,g.ev hy,hr]
 rw [e1]
 rw [←List.length_drop] at h2
 exact (h a2 c2 F').h _ w (s.ro hm rfl rfl ⟨hz,h2⟩ hF) (g.put hd)⟩
/-! one element of an owned slice, of elements without blocks of their own -/
def Hole {α:Type} (E:Elem α) (t:TypeId) (g:Nat) (v:Value) (xs:List α) (i:Nat) (A B:List Value):Prop:=∀w cs y,Row w g t (A++cs++B)→E.rep w cs y []→Ow E t w v (xs.set i y) [g]
theorem focF {α:Type} {E:Elem α} {t:TypeId} {a:Option Addr} {n cp m:Nat} {xs:List α} {F:List Nat} {S:List Pc} (sc:Scal E) (i:Nat) (h:∀(_:i < xs.length) g A cs B,a=some ⟨g,0,none⟩→F=[g]→(∀w,E.rep w cs xs[i] [])→Hole E t g (.slice (some ⟨g,0,none⟩) n cp) xs i A B→T c fr (.row g t (0+i * m) A cs B::S) Φ)
  (hp:Pick H (.ow E t (.slice a n cp) xs F) S) (hm:E.sz=m) (hi:i < xs.length):T c fr H Φ:=.mk fun ac w s g=>by
 have z1:=s.pick hp
 obtain ⟨-,ho⟩:=z1.on (.ow E t (.slice a n cp) xs F) (by simp)
 obtain ⟨g0,cap,A,cs,B,G1,Fi,G2,hv,hr,hA, -,hx,rfl, -,hW⟩:=ho.focus i hi
 cases hv
 obtain rfl:=sc hx
 have hG:∀b,b ∉ G1++G2:=by
  intro b hb
  have:=ho.scal sc
  simp only [Value.ownBlock,Option.toList_some,List.append_nil,List.cons.injEq,true_and] at this
  rw [this] at hb;simp at hb
 have hG0:G1++G2=[]:=List.eq_nil_iff_forall_not_mem.2 hG
 subst hm
 refine (h hi g0 A cs B rfl (by simpa using hG0) (fun w'=>E.frame hx (by simp)) (fun w' c' y hr' hy=>?_)).h ac w (z1.conv rfl ⟨by omega,hr⟩ (by intro b hb;simp [Pc.F] at hb;subst hb;simp [Pc.F])) g
 have:=hW w' c' y [] hr' hy (fun b hb=>absurd hb (hG b))
 simpa [hG0] using this
theorem unfF {α:Type} {E:Elem α} {t:TypeId} {g o:Nat} {v:Value} {xs:List α} {i:Nat} {A cs B:List Value} {S:List Pc} (y:α) (hh:Hole E t g v xs i A B) (hy:∀w,E.rep w cs y []) (h:T c fr (.ow E t v (xs.set i y) [g]::S) Φ) (hp:Pick H (.row g t o A cs B) S:=by (repeat (first|exact .here|apply Pick.there));first|done|fail):T c fr H Φ:=.mk fun ac w s ag=>by
 have z1:=s.pick hp
 obtain ⟨-,hr⟩:=z1.on (.row g t o A cs B) (by simp)
 exact h.h ac w (z1.conv rfl ⟨by simp,hh w cs y hr (hy w)⟩ (fun b hb=>hb)) ag
/-! calls by the elder contracts -/
theorem cn {α:Type} {E:Elem α} {t:TypeId} {xs:List α} {f:Nat} {vs:List Value} (hc:∀w,St c.G c.D c.w0 H w→Calls c.P f vs.toArray w (RetNew E t xs w)) (h:∀a cp F,T c ((d,.slice a xs.length cp)::fr) (.ow E t (.slice a xs.length cp) xs F::H) Φ):Cl c fr H d f vs Φ :=
 cl_of hc (fun w e w' s hR=>by
  obtain ⟨v,F,he,ho,hn,hF,hB⟩:=hR
  obtain ⟨a,cp,rfl⟩:=ho.slice
  exact ⟨_,he,fun ac g=>(h a cp F).h ac w' (s.add (N:=[.ow E t (.slice a xs.length cp) xs F]) hB (by intro q hq;simp at hq;subst hq;exact ⟨hn,ho⟩) ⟨by simp,trivial⟩ (by intro q hq b hb;simp at hq;subst hq;exact .inl (hF b hb))) g⟩)
theorem cr {α:Type} {E:Elem α} {z:α} {f:Nat} {vs:List Value} (hc:∀w,St c.G c.D c.w0 H w→Calls c.P f vs.toArray w (RetR E z w)) (h:∀v F,T c ((d,v)::fr) (.isv E v z F::H) Φ):Cl c fr H d f vs Φ :=
 cl_of hc (fun w e w' s hR=>by
  obtain ⟨v,F,he,ho,hF,hB⟩:=hR
  exact ⟨_,he,fun ac g=>(h v F).h ac w' (s.add (N:=[.isv E v z F]) hB (by intro q hq;simp at hq;subst hq;exact ho) ⟨by simp,trivial⟩ (by intro q hq b hb;simp at hq;subst hq;exact .inl (hF b hb))) g⟩)
theorem cv {α:Type} {E:Elem α} {z:α} {f:Nat} {vs:List Value} (hc:∀w,St c.G c.D c.w0 H w→Calls c.P f vs.toArray w (RetV E z w)) (h:∀v F,T c ((d,v)::fr) (.own E v z F::H) Φ):Cl c fr H d f vs Φ :=
 cl_of hc (fun w e w' s hR=>by
  obtain ⟨v,F,he,ho,hn,hF,hB⟩:=hR
  exact ⟨_,he,fun ac g=>(h v F).h ac w' (s.add (N:=[.own E v z F]) hB (by intro q hq;simp at hq;subst hq;exact ⟨hn,ho⟩) ⟨by simp,trivial⟩ (by intro q hq b hb;simp at hq;subst hq;exact .inl (hF b hb))) g⟩)
/-! regions that draw their order -/
inductive Nth:List Pc→Nat→Pc→Prop
 | zero {p R}:Nth (p::R) 0 p
 | succ {x p R i}:Nth R i p→Nth (x::R) (i+1) p
inductive Sel (H:List Pc):List Nat→List Pc→Prop
 | nil:Sel H [] []
 | cons {i is p R}:Nth H i p→Sel H is R→Sel H (i::is) (p::R)
theorem Nth.mem {H i p} (h:Nth H i p):p∈H:=by
 induction h with
 | zero=>simp
 | succ _ ih=>simp [ih]
variable {H0:List Pc} {X:List Nat} {f:Nat} {listed:Array Bool}
theorem d_start {id:Nat} {l:List Oper} (is X:List Nat) (h:T c fr H (.dx k H0 X l.toArray l.length (Array.replicate l.length false))) (_hsel:Sel H is H0:=by repeat constructor) (hm:c.P.follows .mixedOrders=true:=by kernel_rfl):T c fr H (.code k (Code.region id l.toArray true)):=.mk fun a w s g=>by
 refine AnyX.start (S:=Hol H0) (X:=fun i=>X.contains i) hm ?_
 have:=h.h a w.drew (s.below (belowDrewN (Below.refl _ _) 1)) g
 simpa [Gl.sem] using this
def PanOk (c:Cx):Prop:=∀ch d v a w,c.R (.panic ch) (Act.put a d v) w→c.R (.panic ch) a w
theorem panOk {P:Program} {D G:List Nat} {w0:World} {n:Nat} {fn:Func} {R:Ending→World→Prop}:PanOk ⟨P,G,D,w0,n,bodyPost P fn R⟩:=fun ch d v a w h=>by
 cases d <;> exact h
theorem dt (i:Nat) (h:T c ((d,v)::fr) H (.dx k H0 X ops f (listed.setIfInBounds i true))) (ho:ops[i]?=some ⟨some d,o,ty,pos,aft,none⟩:=by rw [List.getElem?_toArray];rfl) (hy:Yd c.P c.n fr H0 o ty v:=by exact ydE) (hs:Mems H0 H:=by repeat (first|exact Mems.nil|refine Mems.cons (by (repeat (first|exact .head _|apply List.Mem.tail));first|done|fail) ?_))
  (h1:Region.noSelect ops=true:=by kernel_rfl) (h2:Region.free .any ops listed i=true:=by kernel_rfl) (h3:(Region.ready .any ops listed).contains i=true:=by kernel_rfl) (h4:waitsAll .any ops (fun i=>X.contains i) i=true:=by kernel_rfl) (h5:closedB .any ops listed=true:=by kernel_rfl) (hR:PanOk c:=by exact panOk) (hd:Nat.blt d c.n=true:=by rfl) :
  T c fr H (.dx k H0 X ops (f+1) listed):=.mk fun a w s g =>
 AnyX.take (v:=v) ho h1 h2 h3 h4 h5 (fun ch a w hp=>by rw [run_panic] at hp ⊢;exact hR _ _ _ _ _ hp) (.inl ⟨rfl,fun w' hw'=>hy.h a w' _ _ _ _ g hw'⟩) (fun p hp=>s.on p (hs.all p hp)) (h.h _ _ s (g.put hd))
theorem dsld (i j:Nat) {α:Type} {E:Elem α} {t e m:Nat} [hS:SlC c.P t e m] {a:Option Addr} {n cp:Nat} {xs:List α} {F:List Nat} {z:Int} (h:∀a' c' F',T c ((d,.slice a' (xs.drop j).length c')::fr) (.sl E (.slice a' (xs.drop j).length c') (xs.drop j) F'::H) (.dx k H0 X ops f (listed.setIfInBounds i true))) (ho:ops[i]?=some ⟨some d,.slice t x (some y) none none,ty,pos,aft,none⟩:=by rw [List.getElem?_toArray];rfl)
  (hx:ev fr x=some (.slice a n cp):=by rfl) (hy:ev fr y=some (.int .i64 z):=by rfl) (hm:.sl E (.slice a n cp) xs F∈H:=by (repeat (first|exact .head _|apply List.Mem.tail));first|done|fail) (hi:z=(j:Int):=by first|rfl|omega) (hj:j≤xs.length:=by omega) (he:E.sz=m:=by rfl) (hs:Mems H0 H:=by repeat (first|exact Mems.nil|refine Mems.cons (by (repeat (first|exact .head _|apply List.Mem.tail));first|done|fail) ?_))
  (h1:Region.noSelect ops=true:=by kernel_rfl) (h2:Region.free .any ops listed i=true:=by kernel_rfl) (h3:(Region.ready .any ops listed).contains i=true:=by kernel_rfl) (h4:waitsAll .any ops (fun i=>X.contains i) i=true:=by kernel_rfl) (h5:closedB .any ops listed=true:=by kernel_rfl) (hR:PanOk c:=by exact panOk) (hd:Nat.blt d c.n=true:=by rfl) :
  T c fr H (.dx k H0 X ops (f+1) listed):=.mk fun ac w s g=>by
 subst hi
 obtain ⟨hz,hs'⟩:=s.get hm
 have he2:=elem_of hS
 obtain ⟨a2,c2,F',hr,hF,h2'⟩:=hs'.dropS t (by rw [he2];exact hS.u) j hj (fun W=>by rw [he2,he];exact size_of hS.s W)
 rw [←List.length_drop] at h2' hr
 refine AnyX.take (v:=.slice a2 (xs.drop j).length c2) ho h1 h2 h3 h4 h5 (fun ch a w hp=>by rw [run_panic] at hp ⊢;exact hR _ _ _ _ _ hp) (.inl ⟨rfl,fun w' _=>?_⟩) (fun p hp=>s.on p (hs.all p hp)) ((h a2 c2 F').h _ w (s.ro hm rfl rfl ⟨hz,h2'⟩ hF) (g.put hd))
 simp only [execOp,Option.map_none,Option.map_some,g.ev hx,g.ev hy,Sem.run_bind,hr,Result.andThen_ok,Sem.run_pure]
theorem dtg (i:Nat) {j t:Nat} {b:Bool} (h:T c ((d,v)::fr) H (.dx k H0 X ops f (listed.setIfInBounds i true))) (ho:ops[i]?=some ⟨some d,o,ty,pos,aft,some (j,b)⟩:=by rw [List.getElem?_toArray];rfl) (ht:(ops[j]?).bind (·.dst)=some t:=by rfl) (hl:look fr t=some (.bool b):=by rfl) (hy:Yd c.P c.n fr H0 o ty v:=by exact ydE) (hs:Mems H0 H:=by repeat (first|exact Mems.nil|refine Mems.cons (by (repeat (first|exact .head _|apply List.Mem.tail));first|done|fail) ?_))
  (h1:Region.noSelect ops=true:=by kernel_rfl) (h2:Region.free .any ops listed i=true:=by kernel_rfl) (h3:(Region.ready .any ops listed).contains i=true:=by kernel_rfl) (h4:waitsAll .any ops (fun i=>X.contains i) i=true:=by kernel_rfl) (h5:closedB .any ops listed=true:=by kernel_rfl) (hR:PanOk c:=by exact panOk) (hd:Nat.blt d c.n=true:=by rfl) :
  T c fr H (.dx k H0 X ops (f+1) listed):=.mk fun a w s g =>
 AnyX.take (v:=v) ho h1 h2 h3 h4 h5 (fun ch a w hp=>by rw [run_panic] at hp ⊢;exact hR _ _ _ _ _ hp) (.inl ⟨by rw [wanted_eq (c:=c) ht hl g];simp,fun w' hw'=>hy.h a w' _ _ _ _ g hw'⟩) (fun p hp=>s.on p (hs.all p hp)) (h.h _ _ s (g.put hd))
theorem ds (i:Nat) {j t:Nat} {b b':Bool} (h:T c ((d,undef)::fr) H (.dx k H0 X ops f (listed.setIfInBounds i true))) (ho:ops[i]?=some ⟨some d,o,ty,pos,aft,some (j,b)⟩:=by rw [List.getElem?_toArray];rfl) (ht:(ops[j]?).bind (·.dst)=some t:=by rfl) (hl:look fr t=some (.bool b'):=by rfl) (hb:(b' == b)=false:=by rfl) (hs:Mems H0 H:=by repeat (first|exact Mems.nil|refine Mems.cons (by (repeat (first|exact .head _|apply List.Mem.tail));first|done|fail) ?_))
  (h1:Region.noSelect ops=true:=by kernel_rfl) (h2:Region.free .any ops listed i=true:=by kernel_rfl) (h3:(Region.ready .any ops listed).contains i=true:=by kernel_rfl) (h4:waitsAll .any ops (fun i=>X.contains i) i=true:=by kernel_rfl) (h5:closedB .any ops listed=true:=by kernel_rfl) (hR:PanOk c:=by exact panOk) (hd:Nat.blt d c.n=true:=by rfl) :
  T c fr H (.dx k H0 X ops (f+1) listed):=.mk fun a w s g =>
 AnyX.take (v:=undef) ho h1 h2 h3 h4 h5 (fun ch a w hp=>by rw [run_panic] at hp ⊢;exact hR _ _ _ _ _ hp) (.inr ⟨by rw [wanted_eq (c:=c) ht hl g];exact hb,rfl⟩) (fun p hp=>s.on p (hs.all p hp)) (h.h _ _ s (g.put hd))
theorem dsu (i:Nat) {j t:Nat} {b:Bool} (h:T c ((d,undef)::fr) H (.dx k H0 X ops f (listed.setIfInBounds i true))) (ho:ops[i]?=some ⟨some d,o,ty,pos,aft,some (j,b)⟩:=by rw [List.getElem?_toArray];rfl) (ht:(ops[j]?).bind (·.dst)=some t:=by rfl) (hl:look fr t=some undef:=by rfl) (hs:Mems H0 H:=by repeat (first|exact Mems.nil|refine Mems.cons (by (repeat (first|exact .head _|apply List.Mem.tail));first|done|fail) ?_))
  (h1:Region.noSelect ops=true:=by kernel_rfl) (h2:Region.free .any ops listed i=true:=by kernel_rfl) (h3:(Region.ready .any ops listed).contains i=true:=by kernel_rfl) (h4:waitsAll .any ops (fun i=>X.contains i) i=true:=by kernel_rfl) (h5:closedB .any ops listed=true:=by kernel_rfl) (hR:PanOk c:=by exact panOk) (hd:Nat.blt d c.n=true:=by rfl) :
  T c fr H (.dx k H0 X ops (f+1) listed):=.mk fun a w s g =>
 AnyX.take (v:=undef) ho h1 h2 h3 h4 h5 (fun ch a w hp=>by rw [run_panic] at hp ⊢;exact hR _ _ _ _ _ hp) (.inr ⟨by simp only [Region.wanted,yielded,ht,Option.bind_some,g.at_ t _ hl];rfl,rfl⟩) (fun p hp=>s.on p (hs.all p hp)) (h.h _ _ s (g.put hd))
theorem dk {i:Nat} (h:T c fr H (.dx k H0 X ops f listed)) (hs:Mems H0 H:=by repeat (first|exact Mems.nil|refine Mems.cons (by (repeat (first|exact .head _|apply List.Mem.tail));first|done|fail) ?_)):T c fr H (.dk i k H0 X ops f listed):=.mk fun a w s g=>⟨fun _ p hp=>s.on p (hs.all p hp),h.h a w s g⟩
theorem dkx {i:Nat} (h:T c fr H (.dx k H0 X ops f listed)) (hi:X.contains i=true:=by rfl):T c fr H (.dk i k H0 X ops f listed):=.mk fun a w s g=>⟨fun h0=>(by rw [hi] at h0;cases h0),h.h a w s g⟩
theorem d1 (i:Nat) {o:Oper} (h:Ef c fr H o (.dk i k H0 X ops f (listed.setIfInBounds i true))) (hr:Region.ready .any ops listed=[i]:=by kernel_rfl) (ho:ops[i]?=some o:=by rw [List.getElem?_toArray];rfl) (hg:o.guard=none:=by rfl):T c fr H (.dx k H0 X ops (f+1) listed):=.mk fun a w s g =>
 AnyX.only hr ho fun K hK=>by
  rw [if_pos (by simp [Region.wanted,hg])]
  exact Oper.wp_mono (fun a' w' h'=>hK a' w' h'.1 h'.2) (h.h _ a w s g)
theorem d1g (i:Nat) {od:Option Tmp} {j t:Nat} {b:Bool} (h:Ef c fr H ⟨od,o,ty,pos,aft,some (j,b)⟩ (.dk i k H0 X ops f (listed.setIfInBounds i true))) (hr:Region.ready .any ops listed=[i]:=by kernel_rfl) (ho:ops[i]?=some ⟨od,o,ty,pos,aft,some (j,b)⟩:=by rw [List.getElem?_toArray];rfl) (ht:(ops[j]?).bind (·.dst)=some t:=by rfl) (hl:look fr t=some (.bool b):=by rfl):T c fr H (.dx k H0 X ops (f+1) listed):=.mk fun a w s g =>
 AnyX.only hr ho fun K hK=>by
  rw [if_pos (by rw [wanted_eq (c:=c) ht hl g];simp)]
  exact Oper.wp_mono (fun a' w' h'=>hK a' w' h'.1 h'.2) (h.h _ a w s g)
theorem d2 (i j:Nat) {o o2:Oper} (h:Ef c fr H o (.dk i k H0 X ops f (listed.setIfInBounds i true))) (h':Ef c fr H o2 (.dk j k H0 X ops f (listed.setIfInBounds j true)))
  (hr:Region.ready .any ops listed=[i,j]:=by kernel_rfl) (ho:ops[i]?=some o:=by rw [List.getElem?_toArray];rfl) (ho2:ops[j]?=some o2:=by rw [List.getElem?_toArray];rfl) (hg:o.guard=none:=by rfl) (hg2:o2.guard=none:=by rfl):T c fr H (.dx k H0 X ops (f+1) listed):=.mk fun a w s g =>
 AnyX.two hr ho ho2 (fun K hK=>by
  rw [if_pos (by simp [Region.wanted,hg])]
  exact Oper.wp_mono (fun a' w' h'=>hK a' w' h'.1 h'.2) (h.h _ a w s g)) (fun K hK=>by
  rw [if_pos (by simp [Region.wanted,hg2])]
  exact Oper.wp_mono (fun a' w' h''=>hK a' w' h''.1 h''.2) (h'.h _ a w s g))
theorem dO (i:Nat) {od:Option Tmp} (hr:Region.ready .any ops listed=[i]) (ho:ops[i]?=some ⟨od,o,ty,pos,aft,none⟩) (h:On c fr H od o ty (.dk i k H0 X ops f (listed.setIfInBounds i true))):T c fr H (.dx k H0 X ops (f+1) listed):=d1 i (h.h pos aft none) hr ho rfl
theorem dO2 (i j:Nat) {od od2:Option Tmp} {o2:Op} {ty2:TypeId} {pos2:String} {aft2:Array Edge} (hr:Region.ready .any ops listed=[i,j]) (ho:ops[i]?=some ⟨od,o,ty,pos,aft,none⟩) (ho2:ops[j]?=some ⟨od2,o2,ty2,pos2,aft2,none⟩) (h:On c fr H od o ty (.dk i k H0 X ops f (listed.setIfInBounds i true))) (h':On c fr H od2 o2 ty2 (.dk j k H0 X ops f (listed.setIfInBounds j true))):T c fr H (.dx k H0 X ops (f+1) listed):=d2 i j (h.h pos aft none) (h'.h pos2 aft2 none) hr ho ho2 rfl rfl
theorem dd (h:T c fr H (.norm k)) (hr:Region.ready .any ops listed=[]:=by kernel_rfl):T c fr H (.dx k H0 X ops f listed):=.mk fun a w s g=>AnyX.done hr (h.h a w s g) f
theorem ey {gd:Option (Nat × Bool)} (h:T c ((d,v)::fr) H Φ) (hy:Yd c.P c.n fr H o ty v:=by exact ydE) (hd:Nat.blt d c.n=true:=by rfl):Ef c fr H ⟨some d,o,ty,pos,aft,gd⟩ Φ:=ef_yd hy hd h
end
inductive Kf (fr:Fr):List Nat→Fr→Prop
 | nil:Kf fr [] []
 | cons {t v ts r}:look fr t=some v→Kf fr ts r→Kf fr (t::ts) ((t,v)::r)
theorem Kf.sub {fr ts r} (h:Kf fr ts r):FrSub fr r:=by
 induction h with
 | nil=>exact .nil
 | cons h _ ih=>exact .cons h ih
theorem FrSub.app {fr a b:Fr} (h:FrSub fr a) (h2:FrSub fr b):FrSub fr (a++b):=by
 induction h with
 | nil=>exact h2
 | cons h _ ih=>exact .cons h ih
theorem Picks.hsub {H M R:List Pc} (h:Picks H M R):HSub H (M++R):=by
 have all:∀(H:List Pc),HSub H H:=by
  intro H
  induction H with
  | nil=>exact .nil
  | cons p H ih=>exact .cons .here ih
 induction h with
 | nil=>exact all _
 | cons hp _ ih=>exact .cons hp ih
theorem c_loopS {c:Cx} {fr:Fr} {H:List Pc} {k:List It} {x:Code} {σ:Type} {cst:Fr} {rest:List Pc} (ks:List Nat) (upd:σ→Fr) (chg:σ→List Pc) (C:σ→Prop) (μ:σ→Nat) (s0:σ) (h0:C s0)
  (round:∀s,C s→T c (upd s++cst) (chg s++rest) (.code (.lp (LpN c (fun s=>upd s++cst) (fun s=>chg s++rest) C μ (μ s))::k) x)) (hk:Kf fr ks cst:=by repeat (first|exact Kf.nil|apply Kf.cons (by rfl))) (hf:FrSub fr (upd s0):=by exact frE) (hH:Picks H (chg s0) rest:=by exact picksE):T c fr H (.code k (Code.loop x)) :=
 c_loop (fun s=>upd s++cst) (fun s=>chg s++rest) C μ s0 h0 round (hf.app hk.sub) hH.hsub
theorem c_loopR {c:Cx} {fr:Fr} {H:List Pc} {k:List It} {x:Code} {σ:Type} {cst:Fr} (ks:List Nat) (upd:σ→Fr) (C:σ→Prop) (μ:σ→Nat) (s0:σ) (h0:C s0)
  (round:∀s,C s→T c (upd s++cst) H (.code (.lp (LpN c (fun s=>upd s++cst) (fun _=>H) C μ (μ s))::k) x)) (hk:Kf fr ks cst:=by repeat (first|exact Kf.nil|apply Kf.cons (by rfl))) (hf:FrSub fr (upd s0):=by exact frE):T c fr H (.code k (Code.loop x)) :=
 c_loop (fun s=>upd s++cst) (fun _=>H) C μ s0 h0 round (hf.app hk.sub) (by
  have all:∀(H:List Pc),HSub H H:=by
   intro H
   induction H with
   | nil=>exact .nil
   | cons p H ih=>exact .cons .here ih
  exact all _)
def Jn {σ:Type} (c:Cx) (fr':σ→Fr) (H':σ→List Pc) (C:σ→Prop) (a:Act) (w:World):Prop:=∃s,C s∧St c.G c.D c.w0 (H' s) w∧Ag c.n (fr' s) a
theorem c_join {c:Cx} {fr:Fr} {H:List Pc} {k:List It} {x:Code} {σ:Type} (fr':σ→Fr) (H':σ→List Pc) (C:σ→Prop) (h:T c fr H (.code (.lp (Jn c fr' H' C)::k) x)) (h2:∀s,C s→T c (fr' s) (H' s) (.norm k)):T c fr H (.code k x):=.mk fun a w s g =>
 wp_mono (h.h a w s g) fun e a' w' he=>by
  cases e with
  | normal=>obtain ⟨z,hz,hs,hg⟩:=he;exact (h2 z hz).h a' w' hs hg
  | _=>exact he
theorem n_join {c:Cx} {fr:Fr} {H:List Pc} {k:List It} {σ:Type} {fr':σ→Fr} {H':σ→List Pc} {C:σ→Prop} (s:σ) (hC:C s) (hf:FrSub fr (fr' s):=by repeat (first|exact FrSub.nil|refine FrSub.cons (by rfl) ?_)) (hH:HSub H (H' s):=by repeat (first|exact HSub.nil|refine HSub.cons (by (repeat (first|exact .here|apply Pick.there));first|done|fail) ?_)):T c fr H (.norm (.lp (Jn c fr' H' C)::k)) :=
 .mk fun _ _ st g=>⟨s,hC,st.sub hH,g.sub hf⟩
theorem c_joinS {c:Cx} {fr:Fr} {H:List Pc} {k:List It} {x:Code} {σ:Type} {cst:Fr} {rest:List Pc} (ks rs:List Nat) (upd:σ→Fr) (chg:σ→List Pc) (C:σ→Prop) (h:T c fr H (.code (.lp (Jn c (fun s=>upd s++cst) (fun s=>chg s++rest) C)::k) x)) (h2:∀s,C s→T c (upd s++cst) (chg s++rest) (.norm k)) (_hk:Kf fr ks cst:=by repeat (first|exact Kf.nil|apply Kf.cons (by rfl))) (_hr:Sel H rs rest:=by repeat constructor):T c fr H (.code k x) :=
 c_join _ _ C h h2
theorem enter {P:Program} {f:FuncId} {fn:Func} {cd:Code} {args:List Value} {A M H:List Pc} {σ:Type} {C:σ→Prop} {v:σ→Value} {N:σ→List Pc} {n:Nat} (hf:P.funcs[f]?=some fn) (hb:fn.body=some cd) (hn:fn.ntmps=n)
  (h:∀w,T ⟨P,fp M,fp A,w,n,bodyPost P fn (FnPost P w A M C v N)⟩ (args0 0 args) H (.code [] cd))
  (hl:Nat.ble args.length n=true:=by rfl) (hmA:A.all (fun p=>!p.mu)=true:=by rfl) (hH:AppL M A H:=by repeat constructor):Fn P f args A M C v N:=by
 subst hn
 exact fn_enter hf hb (fun w=>by rw [hH.eq];exact h w) (by simpa using hl) hmA
theorem ret {P:Program} {fn:Func} {G D:List Nat} {w0:World} {n:Nat} {A M:List Pc} {σ:Type} {C:σ→Prop} {v:σ→Value} {N:σ→List Pc} {fr:Fr} {H:List Pc} {rs:List ResultVar} {vs:List Value} (s:σ) (hC:C s) (hv:tup vs=v s)
  (hr:fn.results=rs.toArray:=by rfl) (h:Res P fr H rs vs:=by repeat (first|exact Res.nil|apply Res.tmp (by rfl)|apply Res.agg inferInstance (by rfl) (by (repeat (first|exact .head _|apply List.Mem.tail));first|done|fail) (by rfl)|apply Res.one inferInstance (by rfl) (by (repeat (first|exact .head _|apply List.Mem.tail));first|done|fail))) (hN:HSub H (N s):=by repeat (first|exact HSub.nil|refine HSub.cons (by (repeat (first|exact .here|apply Pick.there));first|done|fail) ?_)) (hG:G=fp M:=by rfl) (hD:D=fp A:=by rfl):T ⟨P,G,D,w0,n,bodyPost P fn (FnPost P w0 A M C v N)⟩ fr H (.fin .ret):=fn_ret s hC hr h hv hN hG hD
theorem Fn.val {P:Program} {f:FuncId} {args:List Value} {A:List Pc} {C:Unit→Prop} {v:Value} (h:Fn P f args A [] C (fun _=>v) (fun _=>[])) (w:World) (hA:Hol A w) (hm:A.all (fun p=>!p.mu)=true:=by rfl):Calls P f args.toArray w fun e w'=>e=.returned v∧Below w.heap.size w w' :=
 have hs:∀(A:List Pc),A.all (fun p=>!p.mu)=true→Sep A:=by
  intro A
  induction A with
  | nil=>intro _;trivial
  | cons p A ih =>
   intro h
   simp only [List.all_cons,Bool.and_eq_true,Bool.not_eq_true'] at h
   exact ⟨fun q hq hm=>by have:=List.all_eq_true.1 h.2 q hq;simp [h.1] at hm;simp [hm] at this,ih h.2⟩
 (h w (by simpa using hA) (by simpa using hs A hm)).mono fun e w' ⟨_,_,he,_,_,hk,_⟩=>⟨he,hk.below (Nat.le_refl _) (by simp [fp])⟩
theorem sep_ro:∀(A:List Pc),A.all (fun p=>!p.mu)=true→Sep A
 | [],_=>trivial
 | p::A,h=>by
  simp only [List.all_cons,Bool.and_eq_true,Bool.not_eq_true'] at h
  exact ⟨fun q hq hm=>by have:=List.all_eq_true.1 h.2 q hq;simp [h.1] at hm;simp [hm] at this,sep_ro A h.2⟩
theorem Pc.nd {p:Pc} (hm:p.mu=true) {w:World} (h:p.P w):p.F.Nodup:=by
 cases p with
 | row g t o A cs B=>simp [Pc.F]
 | ow E t v xs F=>exact h.1
 | own E v x F=>exact h.1
 | flat E cs xs F=>exact h.1
 | _=>cases hm
theorem fp_nd {w:World}:∀{N:List Pc},N.all (·.mu)=true→Hol N w→Sep N→(fp N).Nodup
 | [],_,_,_=>by simp [fp]
 | p::N,hm,hH,hs=>by
  simp only [List.all_cons,Bool.and_eq_true] at hm
  refine List.nodup_append.2 ⟨Pc.nd hm.1 (hH p (by simp)),fp_nd hm.2 (fun q hq=>hH q (by simp [hq])) hs.2,fun b hb b' hb' e=>?_⟩
  subst e
  obtain ⟨q,hq,hqb⟩:=mem_fp.1 hb'
  exact hs.1 q hq (by simp [hm.1]) b hb hqb
theorem Fn.made {P:Program} {f:FuncId} {args:List Value} {A:List Pc} {σ:Type} {C:σ→Prop} {v:σ→Value} {N:σ→List Pc} (h:Fn P f args A [] C v N) (w:World) (hA:Hol A w) (hN:∀s,(N s).all (·.mu)=true) (hm:A.all (fun p=>!p.mu)=true:=by rfl) :
  Calls P f args.toArray w fun e w'=>∃s,C s∧e=.returned (v s)∧Hol (N s) w'∧(fp (N s)).Nodup∧(∀b∈fp (N s),w.heap.size≤b)∧Below w.heap.size w w' :=
 (h w (by simpa using hA) (by simpa using sep_ro A hm)).mono fun e w' ⟨s,hC,he,hH,hS,hk,hF⟩=>⟨s,hC,he,hH,fp_nd (hN s) hH hS,(fun b hb=>by
  obtain ⟨p,hp,hpb⟩:=mem_fp.1 hb
  rcases hF p hp b hpb with h|⟨q,hq,_⟩|⟨h,_⟩
  ·exact h
  ·simp at hq
  ·have:=List.all_eq_true.1 (hN s) p hp;rw [h] at this;cases this),hk.below (Nat.le_refl _) (by simp [fp])⟩
theorem Fn.read {P:Program} {f:FuncId} {args:List Value} {A:List Pc} {σ:Type} {C:σ→Prop} {v:σ→Value} {N:σ→List Pc} (h:Fn P f args A [] C v N) (w:World) (hA:Hol A w) (hm:A.all (fun p=>!p.mu)=true:=by rfl) :
  Calls P f args.toArray w fun e w'=>∃s,C s∧e=.returned (v s)∧Hol (N s) w'∧Below w.heap.size w w' :=
 (h w (by simpa using hA) (by simpa using sep_ro A hm)).mono fun e w' ⟨s,hC,he,hH,hS,hk,hF⟩=>⟨s,hC,he,hH,hk.below (Nat.le_refl _) (by simp [fp])⟩
theorem hol2 {p q:Pc} {w:World} (h:p.P w) (h2:q.P w):Hol [p,q] w:=fun r hr=>by
 simp only [List.mem_cons,List.not_mem_nil,or_false] at hr
 rcases hr with rfl|rfl <;> assumption
structure Kp (X:Prop):Prop where
 h:X
section
variable {c:Cx} {fr:Fr} {H:List Pc} {d:Nat} {ty:TypeId} {v:Value} {x:Operand} {Φ:Gl}
theorem o_boxX {Y:Nat→Prop} {t:TypeId} {l:List Value} (hd:Nat.blt d c.n=true) (hx:ev fr x=some v) (hv:v.cells=l.toArray) (hX:Kp (∀g,Y g)) (h:∀g,Kp (Y g)→T c ((d,ptr g 0 0)::fr) (.row g t 0 [] l []::H) Φ):On c fr H (some d) (.box t x) ty Φ:=o_box hd hx hv fun g=>h g ⟨hX.h g⟩
theorem o_allocX {Y:Nat→Prop} {t:TypeId} {zs:List Value} [ZC c.P t zs] (hd:Nat.blt d c.n=true) (hX:Kp (∀g,Y g)) (h:∀g,Kp (Y g)→T c ((d,ptr g 0 0)::fr) (.row g t 0 [] zs []::H) Φ):On c fr H (some d) (.alloc t) ty Φ:=o_alloc hd fun g=>h g ⟨hX.h g⟩
theorem o_bs0X {Y:Nat→Prop} {t e m:Nat} [SlC c.P t e m] (hd:Nat.blt d c.n=true) (hX:Kp (∀g,Y g)) (h:∀g,Kp (Y g)→T c ((d,.slice (some ⟨g,0,none⟩) 0 0)::fr) (.row g e 0 [] [] []::H) Φ):On c fr H (some d) (.buildSlice t 0 #[]) ty Φ:=o_bs0 hd fun g=>h g ⟨hX.h g⟩
theorem o_bsX {Y:Nat→Prop} {t e m b len:Nat} {z:Value} {zs cs q:List Value} {ps:List (Nat × Operand)} [SlC c.P t e m] [ElT c.P e z m b] [ZC c.P e zs] (hd:Nat.blt d c.n=true) (hlen:Nat.blt 0 len=true) (hm:Nat.blt 0 m=true) (hl:Nat.ble (len * m) 1000=true) (hc:Rpt zs len cs) (hf:Fil (fun i=>some (i * m,m)) fr cs ps q) (hX:Kp (∀g,Y g)) (h:∀g,Kp (Y g)→T c ((d,.slice (some ⟨g,0,none⟩) len len)::fr) (.row g e 0 [] q []::H) Φ) :
  On c fr H (some d) (.buildSlice t len ps.toArray) ty Φ:=o_bs hd hlen hm hl hc hf fun g=>h g ⟨hX.h g⟩
end
theorem go {X:Prop} {c:Cx} {fr:Fr} {H:List Pc} {Φ:Gl} (h:X) (hs:Kp X→T c fr H Φ:=by intro hX;(repeat (first|apply c_seq|apply c_reg|(apply wO;apply oc;rfl;exact ydE)|apply w_nil|apply n_cd|(apply wg_t;rfl;rfl)|(apply wg_f;rfl;rfl;rfl;rfl)|(apply wg_u;rfl;rfl;rfl)|(apply c_t;rfl)|(apply c_f;rfl)|apply c_skip|apply c_block|apply n_blk|apply c_exit|apply e_hit|apply e_cd|apply e_lp|(apply e_miss;rfl)|apply c_ret|(apply wO;apply o_boxX;rfl;rfl;rfl;exact hX;clear hX;intro _ hX)|(apply wO;apply o_allocX;rfl;exact hX;clear hX;intro _ hX)|(apply wO;apply o_st;rfl;rfl;rfl;(first|exact AggC.s|exact OneC.s);rfl;exact rplE;exact putE;rfl)|(apply wO;apply o_bs0X;rfl;exact hX;clear hX;intro _ hX)|(apply wO;apply o_bsX;rfl;rfl;rfl;rfl;exact rptE;exact filE;exact hX;clear hX;intro _ hX)|(apply wO;apply o_call;rfl;kernel_rfl;exact evsE)));exact hX.h):T c fr H Φ:=hs ⟨h⟩
theorem goN {X:Prop} {c:Cx} {fr:Fr} {H:List Pc} {Φ:Gl} (h:X) (hs:Kp X→T c fr H Φ:=by intro hX;(repeat (first|apply c_seq|apply c_reg|(apply wO;apply oc;rfl;exact ydE)|apply w_nil|apply n_cd|(apply wg_t;rfl;rfl)|(apply wg_f;rfl;rfl;rfl;rfl)|(apply wg_u;rfl;rfl;rfl)|(apply c_t;rfl)|(apply c_f;rfl)|apply c_skip|apply c_block|apply n_blk|apply c_exit|apply e_hit|apply e_cd|apply e_lp|(apply e_miss;rfl)|apply c_ret|(apply wO;apply o_boxX;rfl;rfl;rfl;exact hX;clear hX;intro _ hX)|(apply wO;apply o_allocX;rfl;exact hX;clear hX;intro _ hX)|(apply wO;apply o_st;rfl;rfl;rfl;(first|exact AggC.s|exact OneC.s);rfl;exact rplE;exact putE;rfl)|(apply wO;apply o_bs0X;rfl;exact hX;clear hX;intro _ hX)|(apply wO;apply o_bsX;rfl;rfl;rfl;rfl;exact rptE;exact filE;exact hX;clear hX;intro _ hX)));exact hX.h):T c fr H Φ:=hs ⟨h⟩
section
variable {c:Cx} {fr:Fr} {H:List Pc} {k:List It} {Φ:Gl} {ops:Array Oper} {rest:List Oper} {d:Nat} {o:Op} {ty:TypeId} {pos:String} {aft:Array Edge} {v u:Value} {x y:Operand} {H0:List Pc} {X:List Nat} {f:Nat} {listed:Array Bool}
theorem oC {f:Nat} {aS:List Operand} {ts:Array TypeId} {vs:List Value} (h:Cl c fr H d f vs Φ) (hd:Nat.blt d c.n=true:=by rfl) (hb:bodyB c.P f=true:=by kernel_rfl) (ha:Evs fr aS vs:=by exact evsE):On c fr H (some d) (.call { callee:=.value (.func f),args:=aS.toArray,argTypes:=ts }) ty Φ:=o_call hd hb ha h
theorem oS {t g tt o' j m:Nat} {A cs B l r:List Value} {S:List Pc} (h:T c fr S Φ) (hx:ev fr x=some (ptr g o' j):=by rfl) (hy:ev fr y=some v:=by rfl) (hv:v.cells=l.toArray:=by rfl) (hs:(c.P.info? t).map (·.size)=some m:=by first|exact AggC.s|exact OneC.s) (hl:l.length=m:=by rfl) (hr:Rpl H (.row g tt o' A cs B) (.row g tt o' A r B) S:=by exact rplE) (hp:Put cs j l r:=by exact putE) (h1:l.all (·.oneCell')=true:=by rfl):On c fr H none (.store t x y) ty Φ:=o_st hx hy hv hs hl hr hp h1 h
theorem dN (i:Nat) {od:Option Tmp} (h:On c fr H od o ty (.dk i k H0 X ops f (listed.setIfInBounds i true))) (hr:Region.ready .any ops listed=[i]:=by kernel_rfl) (ho:ops[i]?=some ⟨od,o,ty,pos,aft,none⟩:=by rw [List.getElem?_toArray];rfl):T c fr H (.dx k H0 X ops (f+1) listed):=dO i hr ho h
theorem dM (i j:Nat) {od od2:Option Tmp} {o2:Op} {ty2:TypeId} {pos2:String} {aft2:Array Edge} (h:On c fr H od o ty (.dk i k H0 X ops f (listed.setIfInBounds i true))) (h':On c fr H od2 o2 ty2 (.dk j k H0 X ops f (listed.setIfInBounds j true))) (hr:Region.ready .any ops listed=[i,j]:=by kernel_rfl) (ho:ops[i]?=some ⟨od,o,ty,pos,aft,none⟩:=by rw [List.getElem?_toArray];rfl) (ho2:ops[j]?=some ⟨od2,o2,ty2,pos2,aft2,none⟩:=by rw [List.getElem?_toArray];rfl):T c fr H (.dx k H0 X ops (f+1) listed):=dO2 i j hr ho ho2 h h'
theorem dt2 (i0 i1:Nat) {d0:Nat} {o0:Op} {t0:TypeId} {p0:String} {a0:Array Edge} {v0:Value} {d1:Nat} {o1:Op} {t1:TypeId} {p1:String} {a1:Array Edge} {v1:Value} (h:T c ((d1,v1)::((d0,v0)::fr)) H (.dx k H0 X ops f ((listed.setIfInBounds i0 true).setIfInBounds i1 true))) (hs:Mems H0 H:=by repeat (first|exact Mems.nil|refine Mems.cons (by (repeat (first|exact .head _|apply List.Mem.tail));first|done|fail) ?_)) (h1:Region.noSelect ops=true:=by kernel_rfl) (hR:PanOk c:=by exact panOk) (ho0:ops[i0]?=some ⟨some d0,o0,t0,p0,a0,none⟩:=by rw [List.getElem?_toArray];rfl) (hy0:Yd c.P c.n fr H0 o0 t0 v0:=by exact ydE) (w0:Region.free .any ops listed i0=true:=by kernel_rfl) (x0:(Region.ready .any ops listed).contains i0=true:=by kernel_rfl) (y0:waitsAll .any ops (fun i=>X.contains i) i0=true:=by kernel_rfl) (z0:closedB .any ops listed=true:=by kernel_rfl) (e0:Nat.blt d0 c.n=true:=by rfl) (ho1:ops[i1]?=some ⟨some d1,o1,t1,p1,a1,none⟩:=by rw [List.getElem?_toArray];rfl) (hy1:Yd c.P c.n ((d0,v0)::fr) H0 o1 t1 v1:=by exact ydE) (w1:Region.free .any ops (listed.setIfInBounds i0 true) i1=true:=by kernel_rfl) (x1:(Region.ready .any ops (listed.setIfInBounds i0 true)).contains i1=true:=by kernel_rfl) (y1:waitsAll .any ops (fun i=>X.contains i) i1=true:=by kernel_rfl) (z1:closedB .any ops (listed.setIfInBounds i0 true)=true:=by kernel_rfl) (e1:Nat.blt d1 c.n=true:=by rfl):T c fr H (.dx k H0 X ops (f+1+1) listed):=dt i0 (dt i1 h ho1 hy1 hs h1 w1 x1 y1 z1 hR e1) ho0 hy0 hs h1 w0 x0 y0 z0 hR e0
theorem dt4 (i0 i1 i2 i3:Nat) {d0:Nat} {o0:Op} {t0:TypeId} {p0:String} {a0:Array Edge} {v0:Value} {d1:Nat} {o1:Op} {t1:TypeId} {p1:String} {a1:Array Edge} {v1:Value} {d2:Nat} {o2:Op} {t2:TypeId} {p2:String} {a2:Array Edge} {v2:Value} {d3:Nat} {o3:Op} {t3:TypeId} {p3:String} {a3:Array Edge} {v3:Value} (h:T c ((d3,v3)::((d2,v2)::((d1,v1)::((d0,v0)::fr)))) H (.dx k H0 X ops f ((((listed.setIfInBounds i0 true).setIfInBounds i1 true).setIfInBounds i2 true).setIfInBounds i3 true))) (hs:Mems H0 H:=by repeat (first|exact Mems.nil|refine Mems.cons (by (repeat (first|exact .head _|apply List.Mem.tail));first|done|fail) ?_)) (h1:Region.noSelect ops=true:=by kernel_rfl) (hR:PanOk c:=by exact panOk) (ho0:ops[i0]?=some ⟨some d0,o0,t0,p0,a0,none⟩:=by rw [List.getElem?_toArray];rfl) (hy0:Yd c.P c.n fr H0 o0 t0 v0:=by exact ydE) (w0:Region.free .any ops listed i0=true:=by kernel_rfl) (x0:(Region.ready .any ops listed).contains i0=true:=by kernel_rfl) (y0:waitsAll .any ops (fun i=>X.contains i) i0=true:=by kernel_rfl) (z0:closedB .any ops listed=true:=by kernel_rfl) (e0:Nat.blt d0 c.n=true:=by rfl) (ho1:ops[i1]?=some ⟨some d1,o1,t1,p1,a1,none⟩:=by rw [List.getElem?_toArray];rfl) (hy1:Yd c.P c.n ((d0,v0)::fr) H0 o1 t1 v1:=by exact ydE) (w1:Region.free .any ops (listed.setIfInBounds i0 true) i1=true:=by kernel_rfl) (x1:(Region.ready .any ops (listed.setIfInBounds i0 true)).contains i1=true:=by kernel_rfl) (y1:waitsAll .any ops (fun i=>X.contains i) i1=true:=by kernel_rfl) (z1:closedB .any ops (listed.setIfInBounds i0 true)=true:=by kernel_rfl) (e1:Nat.blt d1 c.n=true:=by rfl) (ho2:ops[i2]?=some ⟨some d2,o2,t2,p2,a2,none⟩:=by rw [List.getElem?_toArray];rfl) (hy2:Yd c.P c.n ((d1,v1)::((d0,v0)::fr)) H0 o2 t2 v2:=by exact ydE) (w2:Region.free .any ops ((listed.setIfInBounds i0 true).setIfInBounds i1 true) i2=true:=by kernel_rfl) (x2:(Region.ready .any ops ((listed.setIfInBounds i0 true).setIfInBounds i1 true)).contains i2=true:=by kernel_rfl) (y2:waitsAll .any ops (fun i=>X.contains i) i2=true:=by kernel_rfl) (z2:closedB .any ops ((listed.setIfInBounds i0 true).setIfInBounds i1 true)=true:=by kernel_rfl) (e2:Nat.blt d2 c.n=true:=by rfl) (ho3:ops[i3]?=some ⟨some d3,o3,t3,p3,a3,none⟩:=by rw [List.getElem?_toArray];rfl) (hy3:Yd c.P c.n ((d2,v2)::((d1,v1)::((d0,v0)::fr))) H0 o3 t3 v3:=by exact ydE) (w3:Region.free .any ops (((listed.setIfInBounds i0 true).setIfInBounds i1 true).setIfInBounds i2 true) i3=true:=by kernel_rfl) (x3:(Region.ready .any ops (((listed.setIfInBounds i0 true).setIfInBounds i1 true).setIfInBounds i2 true)).contains i3=true:=by kernel_rfl) (y3:waitsAll .any ops (fun i=>X.contains i) i3=true:=by kernel_rfl) (z3:closedB .any ops (((listed.setIfInBounds i0 true).setIfInBounds i1 true).setIfInBounds i2 true)=true:=by kernel_rfl) (e3:Nat.blt d3 c.n=true:=by rfl):T c fr H (.dx k H0 X ops (f+1+1+1+1) listed):=dt i0 (dt i1 (dt i2 (dt i3 h ho3 hy3 hs h1 w3 x3 y3 z3 hR e3) ho2 hy2 hs h1 w2 x2 y2 z2 hR e2) ho1 hy1 hs h1 w1 x1 y1 z1 hR e1) ho0 hy0 hs h1 w0 x0 y0 z0 hR e0
end
section
variable {c:Cx} {fr:Fr} {H:List Pc} {Φ:Gl}
theorem openReceiveWindow {v:Value} {x:ReceiveWindow} {F:List Nat} (h:∀(a1:Option Addr) (c1:Nat) (F1:List Nat),v=.agg #[.int .i64 x.next,.slice a1 x.slots.length c1]→x.slots.length≤maxLen→T c fr (.sl ESlot (.slice a1 x.slots.length c1) x.slots F1::H) Φ) (hm:.isv EReceiveWindow v x F∈H:=by (repeat (first|exact .head _|apply List.Mem.tail));first|done|fail):T c fr H Φ:=.mk fun a w s g=>by
 obtain ⟨cs,rfl,v1,rfl,h1⟩:=s.get hm
 obtain ⟨a1,c1,rfl⟩:=h1.slice;have l1:=h1.len
 have t1:=s.ro (p:=.sl ESlot (.slice a1 x.slots.length c1) x.slots F) hm rfl rfl ⟨by decide,h1⟩ fun b hb=>hb
 exact (h a1 c1 F rfl  l1).h a w t1 g
theorem closeReceiveWindow (x:ReceiveWindow) {a1:Option Addr} {c1:Nat} {F1:List Nat}  (h:T c fr (.isv EReceiveWindow (.agg #[.int .i64 x.next,.slice a1 x.slots.length c1]) x (F1)::H) Φ) (m1:.sl ESlot (.slice a1 x.slots.length c1) x.slots F1∈H:=by (repeat (first|exact .head _|apply List.Mem.tail));first|done|fail):T c fr H Φ:=.mk fun a w s g=>by
 have hP:IsV EReceiveWindow w (.agg #[.int .i64 x.next,.slice a1 x.slots.length c1]) x (F1):=⟨_,rfl,_,rfl,(s.get m1).2⟩
 refine h.h a w (s.add (N:=[.isv EReceiveWindow (.agg #[.int .i64 x.next,.slice a1 x.slots.length c1]) x (F1)]) (Below.refl _ _) (by intro q hq;simp at hq;subst hq;exact hP) ⟨by simp,trivial⟩ fun q hq b hb=>?_) g
 simp at hq;subst hq
 simp only [Pc.F,List.mem_append] at hb
 exact .inr ⟨rfl,_,m1,rfl,hb⟩
end
section
variable {c:Cx} {fr:Fr} {H:List Pc} {Φ:Gl}
theorem openSlot {v:Value} {x:Slot} {F:List Nat} (h:∀(_:Unit),v=.agg #[.bool x.hav,.string x.item]→x.item.size≤maxLen→T c fr (H) Φ) (hm:.isv ESlot v x F∈H:=by (repeat (first|exact .head _|apply List.Mem.tail));first|done|fail):T c fr H Φ:=.mk fun a w s g=>by
 obtain ⟨cs,rfl,rfl,s1,rfl⟩:=s.get hm
 exact (h () rfl s1 ).h a w s g
theorem atSlot {a:Option Addr} {n cp:Nat} {xs:List Slot} {F:List Nat} (i:Nat) (h:∀(hi:i < xs.length) (b o:Nat),a=some ⟨b,o,none⟩→xs[i].item.size≤maxLen→T c fr (.cel b (o+i * 2) [.bool xs[i].hav,.string xs[i].item]::H) Φ) (hm:.sl ESlot (.slice a n cp) xs F∈H:=by (repeat (first|exact .head _|apply List.Mem.tail));first|done|fail) (hi:i < xs.length:=by omega):T c fr H Φ:=.mk fun ac w s g=>by
 obtain ⟨b,o,cs,G,ha,hrep,hG,hb,hne,hr⟩:=sl_at (s.get hm) i hi
 obtain ⟨rfl,s1,rfl⟩:=hrep
 exact (h hi b o  ha s1 ).h ac w (s.ro hm rfl rfl ⟨hne,hr⟩ (by intro x hx;simp [Pc.F] at hx;subst hx;exact hb)) g
theorem focSlot {t:TypeId} {a:Option Addr} {n cp:Nat} {xs:List Slot} {F:List Nat} {S:List Pc} (i:Nat) (h:∀(_:i < xs.length) g A B,a=some ⟨g,0,none⟩→F=[g]→xs[i].item.size≤maxLen→Hole ESlot t g (.slice (some ⟨g,0,none⟩) n cp) xs i A B→T c fr (.row g t (0+i * 2) A [.bool xs[i].hav,.string xs[i].item] B::S) Φ) (hp:Pick H (.ow ESlot t (.slice a n cp) xs F) S:=by (repeat (first|exact .here|apply Pick.there));first|done|fail) (hi:i < xs.length:=by omega):T c fr H Φ :=
 focF scal_ESlot i (fun hi g A cs B ha hF hr hh=>by obtain ⟨rfl,s1, -⟩:=hr default;exact h hi g A B ha hF s1 hh) hp rfl hi
end
theorem isSer_iff {x:Int}:isSer x=true↔0≤x∧x≤65535:=by unfold isSer btw;simp
def aft (x n:Int):Int:=(x+n) % 65536
def gp (a b:Int):Int:=(b - a) % 65536
def bef (a b:Int):Bool:=btw 1 (gp a b) 32767
theorem gp_bd (a b:Int):0≤gp a b∧gp a b≤65535:=by unfold gp;omega
theorem aft_bd (a b:Int):0≤aft a b∧aft a b≤65535:=by unfold aft;omega
theorem aft_ser (a b:Int):isSer (aft a b)=true:=isSer_iff.2 (aft_bd a b)
theorem tmod_twice (z:Int):((z.tmod 65536)+65536).tmod 65536=z % 65536:=by
 rw [Int.tmod_eq_emod (a:=z.tmod 65536+65536),Int.tmod_eq_emod]
 split <;> split <;> omega
theorem tmod_bd (z:Int):-65535≤z.tmod 65536∧z.tmod 65536≤65535:=by
 rw [Int.tmod_eq_emod]
 split <;> omega
theorem after_c (x n:Int) (w:World) (h0:-4611686018427387904≤x+n) (h1:x+n≤4611686018427387904) :
  Calls Tryz.prog 209 #[.int .i64 x,.int .i64 n] w fun e w'=>e=.returned (.int .i64 (aft x n))∧w=w':=by
 have hb:=tmod_bd (x+n)
 have hb1:=hb.1
 have hb2:=hb.2
 clear hb
 by_cases hz:0≤x+n
 ·go_enter Tryz.func209,Tryz.ntmps209
  go_wp2
  go_ret
  exact ⟨ret_int (by unfold aft;omega),rfl⟩
 ·have ht:=tmod_twice (x+n)
  have ht:=Lib.hid ht
  go_enter Tryz.func209,Tryz.ntmps209
  go_wp2
  go_ret
  refine ⟨ret_int ?_,rfl⟩
  have:=ht.out
  rw [Int.tmod_eq_emod (a:=(x+n).tmod 65536+65536)] at this
  unfold aft
  split at this <;> omega
theorem gap_c (a b:Int) (w:World) (h0:-4611686018427387904≤b - a) (h1:b - a≤4611686018427387904) (ha:-4611686018427387904≤a) (ha':a≤4611686018427387904) :
  Calls Tryz.prog 176 #[.int .i64 a,.int .i64 b] w fun e w'=>e=.returned (.int .i64 (gp a b))∧w=w':=by
 go_enter Tryz.func176,Tryz.ntmps176
 go_wp2_with fail
 refine (after_c b (-a) _ (by omega) (by omega)).mono ?_
 rintro e w' ⟨rfl,rfl⟩
 go_wp2_with fail
 go_ret
 exact ⟨ret_int (by unfold aft gp;omega),rfl⟩
theorem isBefore_c (a b:Int) (w:World) (h0:-4611686018427387904≤b - a) (h1:b - a≤4611686018427387904) (ha:-4611686018427387904≤a) (ha':a≤4611686018427387904) :
  Calls Tryz.prog 273 #[.int .i64 a,.int .i64 b] w fun e w'=>e=.returned (.bool (bef a b))∧w=w':=by
 go_enter Tryz.func273,Tryz.ntmps273
 go_wp2_with fail
 refine (gap_c a b _ h0 h1 ha ha').mono ?_
 rintro e w' ⟨rfl,rfl⟩
 go_wp2_with fail
 refine (within_c _ _ _ _).mono ?_
 rintro e w' ⟨rfl,rfl⟩
 go_wp2_with fail
 go_ret
 exact ⟨rfl,rfl⟩
theorem l2After_c (x n:Int) (w:World) (h0:-131072≤x+n) (h1:x+n≤4611686018427387904) :
  Calls Tryz.prog 213 #[.int .i64 x,.int .i64 n] w fun e w'=>e=.returned (.int .i64 (aft x n))∧w=w':=by
 have h2:0≤x+n+131072:=by omega
 go_enter Tryz.func213,Tryz.ntmps213
 go_wp2
 go_ret
 exact ⟨ret_int (by unfold aft;omega),rfl⟩
theorem l2Gap_c (a b:Int) (w:World) (h0:-65536≤b - a) (h1:b - a≤4611686018427387904) :
  Calls Tryz.prog 150 #[.int .i64 a,.int .i64 b] w fun e w'=>e=.returned (.int .i64 (gp a b))∧w=w':=by
 have h2:0≤b - a+65536:=by omega
 go_enter Tryz.func150,Tryz.ntmps150
 go_wp2
 go_ret
 exact ⟨ret_int (by unfold gp;omega),rfl⟩
theorem l2Before_c (a b:Int) (w:World) (h0:-65536≤b - a) (h1:b - a≤4611686018427387904) :
  Calls Tryz.prog 281 #[.int .i64 a,.int .i64 b] w fun e w'=>e=.returned (.bool (bef a b))∧w=w':=by
 go_enter Tryz.func281,Tryz.ntmps281
 go_wp2_with fail
 refine (l2Gap_c a b _ h0 h1).mono ?_
 rintro e w' ⟨rfl,rfl⟩
 go_wp2_with fail
 refine (l1In_c _ _ _ _).mono ?_
 rintro e w' ⟨rfl,rfl⟩
 go_wp2_with fail
 go_ret
 exact ⟨rfl,rfl⟩
end Go.Proofs.YtgmbfohkpfineaaGreatDoor
namespace Go.Proofs.YtgmbfohkpfineaaGreatDoor
open Go.RowKit Go.Shelf
def low (b:UInt8):Bool:=btw 97 b.toNat 122
def lows (l:List UInt8):Bool:=l.all low
def itm (s:ByteArray):Bool:=decide ((s.size:Int)≤8) && lows s.data.toList
def abc:List UInt8:=[97,98,99,100,101,102,103,104,105,106,107,108,109,110,111,112,113,114,115,116,117,118,119,120,121,122]
theorem abc_low (b:UInt8):abc.contains b=low b:=by
 have h:∀n:Fin 256,abc.contains (UInt8.ofNat n.val)=low (UInt8.ofNat n.val):=by decide +kernel
 have:=h ⟨b.toNat,b.toNat_lt⟩
 simpa using this
theorem dropWhile_nil {α:Type} (p:α→Bool) (l:List α):l.dropWhile p=[]↔l.all p=true:=by
 induction l with
 | nil=>simp
 | cons x r ih=>rw [List.dropWhile_cons];cases h:p x <;> simp [h,ih]
theorem all_dropWhile {α:Type} (p:α→Bool) (l:List α):(l.dropWhile p).all p=l.all p:=by
 induction l with
 | nil=>simp
 | cons x r ih=>rw [List.dropWhile_cons];cases h:p x <;> simp [h,ih]
theorem trimS_nil (l cs:List UInt8):(Lib.trimS l cs=[])↔l.all (cs.contains ·)=true:=by
 unfold Lib.trimS Lib.trimLeftS Lib.trimRightS
 rw [dropWhile_nil,List.all_reverse,all_dropWhile,List.all_reverse]
theorem trim_abc (l:List UInt8):(Lib.trimS l abc == [])=lows l:=by
 rw [Bool.eq_iff_iff,beq_iff_eq,trimS_nil]
 unfold lows
 rw [show (fun b=>abc.contains b)=low from funext abc_low]
theorem isItem_c (s:ByteArray) (w:World) (hs:s.size≤maxLen) :
  Calls Tryz.prog 95 #[.string s] w fun e w'=>e=.returned (.bool (itm s))∧Below w.heap.size w w':=by
 unfold maxLen at hs
 have hc:=fun w=>Any.strings_Trim_laid Tryz.lays160 (by kernel_rfl) s ⟨abc.toArray⟩ w hs (by decide) (ascii_of_all (by decide))
 change ∀w,Calls Tryz.prog 184 #[.string s,.string ⟨abc.toArray⟩] w (fun e w'=>e=.returned (.string ⟨(Lib.trimS s.data.toList abc).toArray⟩)∧Below w.heap.size w w') at hc
 have ht:=trim_abc s.data.toList
 replace hc:=Lib.hid hc
 by_cases h8:s.size≤8
 ·generalize Lib.trimS s.data.toList abc=t at *
  have hi:itm s=(t == []):=by unfold itm;rw [ht,decide_eq_true (by omega)];rfl
  replace hi:=Lib.hid hi
  clear ht
  cases t with
  | nil =>
   go_enter Tryz.func95,Tryz.ntmps95
   go_wp2_with fail
   refine (hc.out _).mono ?_
   rintro e w1 ⟨rfl,hb⟩
   go_wp2_with fail
   go_ret
   exact ⟨ret_bool hi.out.symm,hb⟩
  | cons a r =>
   go_enter Tryz.func95,Tryz.ntmps95
   go_wp2_with fail
   refine (hc.out _).mono ?_
   rintro e w1 ⟨rfl,hb⟩
   go_wp2_with fail
   go_ret
   exact ⟨ret_bool hi.out.symm,hb⟩
 ·have hi:itm s=false:=by unfold itm;rw [decide_eq_false (by omega)];rfl
  replace hi:=Lib.hid hi
  go_enter Tryz.func95,Tryz.ntmps95
  go_wp2_with fail
  go_ret
  exact ⟨ret_bool hi.out.symm,Below.refl _ _⟩
theorem lows_drop (s:ByteArray) (k:Nat) (h:k < s.size):lows (s.data.toList.drop k)=(low s[k] && lows (s.data.toList.drop (k+1))):=by rw [drop_at s k h];rfl
theorem l4Letters_c (s:ByteArray) (n:Int) (w:World) (hs:s.size≤maxLen) :
  Calls Tryz.prog 79 #[.string s,.int .i64 n] w fun e w'=>e=.returned (.bool (decide ((s.size:Int)≤n) && lows s.data.toList))∧w=w':=by
 unfold maxLen at hs
 go_enter Tryz.func79,Tryz.ntmps79
 go_wp2
 go_loop [5] (fun i=>∃k:Nat,k≤s.size∧i=.int .i64 k∧Hid (lows s.data.toList=lows (s.data.toList.drop k))) (fun i=>s.size - (intOf i).toNat)
 case atStart=>exact ⟨0,Nat.zero_le _,rfl,rfl⟩
 case round =>
  obtain ⟨k,hk,rfl,hz⟩:=hrel
  by_cases hlt:k < s.size
  ·have hz:=Lib.hid (hz.out.trans (lows_drop s k hlt))
   have hb:(s[k].toNat:Int)≤255:=by have:=s[k].toNat_lt;omega
   cases hl:low s[k]
   ·have hl1:low s[k]=false:=hl
    unfold low btw at hl
    by_cases h1:(s[k].toNat:Int) < 97
    ·clear hl
     go_wp2
     go_ret
     exact ⟨ret_bool (by rw [hz.out,hl1];simp),rfl⟩
    ·have h2:(122:Int) < s[k].toNat:=by simp at hl;omega
     clear hl
     go_wp2
     go_ret
     exact ⟨ret_bool (by rw [hz.out,hl1];simp),rfl⟩
   ·have hl1:low s[k]=true:=hl
    unfold low btw at hl
    simp only [Bool.and_eq_true,decide_eq_true_eq] at hl
    have h1:¬(s[k].toNat:Int) < 97:=by omega
    have h2:¬(122:Int) < s[k].toNat:=by omega
    clear hl
    replace hl1:=Lib.hid hl1
    go_wp2
    go_round
    case rel=>exact ⟨k+1,by omega,by go_num,by refine Lib.hid ?_;rw [hz.out,hl1.out];rfl⟩
    case measure=>simp [intOf];omega
  ·go_wp2
   go_ret
   exact ⟨ret_bool (by rw [hz.out,drop_end s k hlt];simp [lows]),rfl⟩
end Go.Proofs.YtgmbfohkpfineaaGreatDoor
namespace Go.Proofs.YtgmbfohkpfineaaGreatDoor
open Go.RowKit
theorem IndexFunc_Slot (fid:FuncId) (hbd:Body Tryz.prog fid) (caps:Array Value) (v:Value) (xs:List Slot) (F:List Nat) (p:Slot→Bool) (w:World) (h:Sl ESlot w v xs F)
  (hp:∀(k:Nat) (hk:k < xs.length) (wr:World) (u:Value) (G:List Nat),Below w.heap.size w wr→IsV ESlot wr u xs[k] G→Calls Tryz.prog fid (#[u]++caps) wr fun e w'=>e=.returned (.bool (p xs[k]))∧Below wr.heap.size wr w') :
  Calls Tryz.prog 314 #[v,.func (.func fid) #[] caps] w fun e w'=>e=.returned (.int .i64 (fidx p xs))∧Below w.heap.size w w':=by
 obtain ⟨a,cap,rfl⟩:=h.slice
 have hl:=h.len
 unfold maxLen at hl
 go_enter Tryz.func314,Tryz.ntmps314
 go_wp2
 go_loopw [5,8] (fun _ i wr=>∃k:Nat,k≤xs.length∧i=.int .i64 k∧Hid (∀j,j < k→∀hj:j < xs.length,p xs[j]=false)∧Below w.heap.size w wr) (fun _ i _=>xs.length - (intOf i).toNat)
 case atStart=>exact ⟨0,Nat.zero_le _,rfl,fun j hj=>by omega,Below.refl _ _⟩
 case round =>
  obtain ⟨k,hk,rfl,hz,hB⟩:=hrel
  by_cases hlt:k < xs.length
  ·have hz0:=hz;clear hz
   obtain ⟨b,off,_,F1,rfl,hx, -,ja⟩:=(h.below (by decide) hB).at k hlt
   obtain ⟨rfl,s1,rfl⟩:=id hx
   have a0:=ja 0 (by decide)
   have a1:=ja 1 (by decide)
   simp only [show ESlot.sz=2 from rfl,Nat.mul_one,Nat.add_zero,List.getElem?_cons_zero,List.getElem?_cons_succ] at a0 a1
   clear ja
   have hr:=hp k hlt wr _ _ hB ⟨_,rfl,hx⟩
   have hp:=Lib.hid hp
   cases hpk:p xs[k]
   all_goals
    rw [hpk] at hr
    have hpk:=Lib.hid hpk
    have hr:=Lib.hid hr
    go_wp2_with fail
    refine hbd.upon hr.out ?_
    rintro e w1 ⟨rfl,hb1⟩
    refine ⟨_,rfl,?_⟩
    have hB:=tr hB hb1 (Nat.le_refl _)
    clear hb1
    go_wp2_with fail
   ·exact ⟨⟨k+1,by omega,by go_num,fun j hj hl=>by rcases Nat.lt_or_eq_of_le (Nat.le_of_lt_succ hj) with h|h;exact hz0.out j h hl;subst h;exact hpk.out,hB⟩,by simp [intOf];omega⟩
   ·go_ret
    exact ⟨ret_int (fidx_hit hlt hz0.out hpk.out).symm,hB⟩
  ·go_wp2
   go_ret
   exact ⟨ret_int (fidx_none (fun j hj=>hz.out j (by omega) hj)).symm,hB⟩
theorem ContainsFunc_Slot (fid:FuncId) (hbd:Body Tryz.prog fid) (caps:Array Value) (v:Value) (xs:List Slot) (F:List Nat) (p:Slot→Bool) (w:World) (h:Sl ESlot w v xs F)
  (hp:∀(k:Nat) (hk:k < xs.length) (wr:World) (u:Value) (G:List Nat),Below w.heap.size w wr→IsV ESlot wr u xs[k] G→Calls Tryz.prog fid (#[u]++caps) wr fun e w'=>e=.returned (.bool (p xs[k]))∧Below wr.heap.size wr w') :
  Calls Tryz.prog 292 #[v,.func (.func fid) #[] caps] w fun e w'=>e=.returned (.bool (xs.any p))∧Below w.heap.size w w':=by
 have hp:=Lib.hid hp
 go_enter Tryz.func292,Tryz.ntmps292
 go_wp2_with fail
 refine (IndexFunc_Slot fid hbd caps v xs F p _ h hp.out).mono ?_
 rintro e w1 ⟨rfl,hb1⟩
 go_wp2_with fail
 go_ret
 exact ⟨ret_bool (fidx_any p xs),hb1⟩
theorem Clone_Slot (v:Value) (xs:List Slot) (F:List Nat) (w:World) (h:Sl ESlot w v xs F) (hm:xs.length≤4294967296) :
  Calls Tryz.prog 258 #[v] w (RetNew ESlot 247 xs w):=by
 obtain ⟨ao,c,news,Fy,rfl,hl,hfy,hFy,hsrc⟩:=h.src
 have hFl:=hfy.lt
 have he:=fun w (a:Option Addr) (n c:Nat)=>Lib.run_eql_slice_nil (P:=Tryz.prog) w 144 _ a n c 0 0 Tryz.underlying144
 go_enter Tryz.func258,Tryz.ntmps258
 rcases hsrc with ⟨rfl,rfl,rfl⟩|⟨ad,rfl,hn⟩
 ·go_wp2
  go_ret
  exact ⟨.slice none 0 0,[],rfl,.inl ⟨rfl,rfl,rfl⟩,by simp,by simp,Below.refl _ _⟩
 ·go_wp2_with (at_builtin;refine wpList_apd one_ESlot (by decide) (by rfl) _ _ _ (by rfl) 247 (.agg #[.bool false,.string ⟨#[]⟩]) 24 Tryz.underlying144 info_Slot rfl (.slice (some ⟨w.heap.size,0,none⟩) 0 0) [] [w.heap.size] (by rfl) (Ow.empty (Row.made _ _ _)) (Hd.one _) (some ad) xs c (by rfl) news Fy (hfy.frame fun b hb=>Below.heap_alloc _ _ _ (hFl b hb)) (.inr ⟨ad,rfl,fun j u hu=>kc ((Below.refl _ _).alloc (Nat.le_refl _) _) (hn j u hu)⟩) (fun b hb e=>by have:=hFl b hb;simp [Value.ownBlock] at e;omega) (by simpa using hl) (by unfold maxLen at hl;simp;omega) ?_)
  intro v2 w2 F2 hA
  go_wp2_with fail
  go_ret
  have hB:Below w.heap.size w w2:=((Below.refl _ _).alloc (Nat.le_refl _) _).trans (hA.keep.below (by simp) (by simp))
  have hs:∀b,v2.ownBlock=some b→w.heap.size≤b:=fun b hb=>by rcases hA.same with e|e <;> rw [e] at hb <;> simp [Value.ownBlock] at hb <;> omega
  refine ⟨v2,F2,rfl,by simpa using hA.ow,hA.ow.scal scal_ESlot▸?_,fun b hb=>?_,hB⟩
  ·cases v2.ownBlock <;> simp
  ·rw [hA.ow.scal scal_ESlot] at hb;exact hs b (by simpa using hb)
def okSlot (s:Slot):Bool:=itm s.item && (s.hav || decide (s.item=⟨#[]⟩))
def havAt (l:List Slot) (k:Nat):Bool:=match l[k]? with|some s=>s.hav|none=>false
def ends (l:List Slot):Bool:=decide (l.length=0) || (!havAt l 0 && havAt l (l.length - 1))
def goodRW (x:ReceiveWindow):Bool:=isSer x.next && decide ((x.slots.length:Int)≤8) && x.slots.all okSlot && ends x.slots
theorem havAt_lt {l:List Slot} {k:Nat} (h:k < l.length):havAt l k=l[k].hav:=by unfold havAt;rw [List.getElem?_eq_getElem h]
theorem havAt_ge {l:List Slot} {k:Nat} (h:l.length≤k):havAt l k=false:=by unfold havAt;rw [List.getElem?_eq_none h]
def hasB (x:ReceiveWindow) (k:Int):Bool:=havAt x.slots (gp x.next k).toNat
theorem RWhas_f (x:ReceiveWindow) (k:Int) (v:Value) (F:List Nat) (h0:0≤x.next) (h1:x.next≤65535) (h2:0≤k) (h3:k≤65535) :
  Fn Tryz.prog 246 [v,.int .i64 k] [.isv EReceiveWindow v x F] [] (fun (_:Unit)=>True) (fun _=>.bool (hasB x k)) (fun _=>[]):=by
 refine enter Tryz.func246 rfl Tryz.ntmps246 fun w0=>?_
 refine openReceiveWindow ?_
 rintro a1 c1 F1 rfl l1
 unfold maxLen at l1
 have hg:=gp_bd x.next k
 refine go ?_;intros
 refine ce (fun w s=>gap_c _ _ _ (by omega) (by omega) (by omega) (by omega)) ?_
 refine go ?_;intros
 refine wg_if rfl rfl (fun h=>?_) (fun h=>?_)
 ·refine atSlot (gp x.next k).toNat ?_
  rintro hi b o rfl s1
  refine go ?_;intros
  refine ret () trivial ?_
  unfold hasB;rw [havAt_lt hi];rfl
 ·refine go ?_;intros
  refine ret () trivial ?_
  unfold hasB;rw [havAt_ge (by omega)];rfl
theorem RWok_f (x:Slot) (v:Value) (F:List Nat):Fn Tryz.prog 293 [v] [.isv ESlot v x F] [] (fun (_:Unit)=>True) (fun _=>.bool (!okSlot x)) (fun _=>[]):=by
 refine enter Tryz.func293 rfl Tryz.ntmps293 fun w0=>?_
 refine openSlot ?_
 rintro _ rfl s1
 refine go ?_;intros
 refine cb (fun w s=>isItem_c _ _ s1) ?_
 cases g:itm x.item
 ·refine go ?_;intros
  refine ret () trivial ?_
  simp [okSlot,g,tup]
 refine go ?_;intros
 cases g2:x.hav
 ·refine go ?_;intros
  refine ret () trivial ?_
  simp [okSlot,g,g2,tup]
 ·refine go ?_;intros
  refine ret () trivial ?_
  simp [okSlot,g,g2,tup]
theorem RWgood_f (x:ReceiveWindow) (v:Value) (F:List Nat):Fn Tryz.prog 242 [v] [.isv EReceiveWindow v x F] [] (fun (_:Unit)=>True) (fun _=>.bool (goodRW x)) (fun _=>[]):=by
 refine enter Tryz.func242 rfl Tryz.ntmps242 fun w0=>?_
 refine openReceiveWindow ?_
 rintro a1 c1 F1 rfl l1
 unfold maxLen at l1
 refine go ?_;intros
 refine ce (fun w s=>IsSerial_c _ _) ?_
 cases g1:isSer x.next
 ·refine go ?_;intros
  refine ret () trivial ?_
  simp [goodRW,g1,tup]
 refine go ?_;intros
 refine c_if rfl (fun h=>?_) (fun h=>?_)
 ·refine go ?_;intros
  refine ret () trivial ?_
  simp [goodRW,g1,tup];omega
 refine go ?_;intros
 refine cb (fun w s=>ContainsFunc_Slot _ (.mk' Tryz.func293 rfl rfl) #[] _ x.slots F1 (fun s=>!okSlot s) _ (s.get (p:=.sl ESlot (.slice a1 x.slots.length c1) x.slots F1) (by simp)).2 ?_) ?_
 ·intro k hk wr u G _ hu
  exact (RWok_f x.slots[k] u G).val wr (hol1 hu)
 cases g2:x.slots.all okSlot
 ·have:(x.slots.any fun s=>!okSlot s)=true:=by rw [←List.not_all_eq_any_not,g2];rfl
  rw [this]
  refine go ?_;intros
  refine ret () trivial ?_
  simp [goodRW,g2,tup]
 have hx:(x.slots.any fun s=>!okSlot s)=false:=by rw [←List.not_all_eq_any_not,g2];rfl
 rw [hx]
 refine go ?_;intros
 have g3:goodRW x=ends x.slots:=by simp [goodRW,g1,g2];omega
 refine wg_if rfl rfl (fun h=>?_) (fun h=>?_)
 ·refine go ?_;intros
  refine ret () trivial ?_
  rw [g3];have:x.slots.length=0:=by omega
  simp [ends,this,tup]
 refine atSlot 0 ?_
 rintro hi b o rfl s1
 refine go ?_;intros
 cases g4:x.slots[0].hav
 rotate_left
 ·refine go ?_;intros
  refine ret () trivial ?_
  rw [g3];unfold ends;rw [havAt_lt hi,g4,decide_eq_false (by omega)];rfl
 refine atSlot (x.slots.length - 1) ?_
 rintro hi2 b2 o2 e s2
 cases e
 refine go ?_;intros
 have hl:((x.slots.length:Int) - 1).toNat=x.slots.length - 1:=by omega
 rw [hl]
 refine go ?_;intros
 refine ret () trivial ?_
 rw [g3];unfold ends;rw [havAt_lt hi,havAt_lt hi2,g4,decide_eq_false (by omega)];rfl
theorem itm_8 (s:ByteArray):(decide ((s.size:Int)≤8) && lows s.data.toList)=itm s:=rfl
theorem all_take_succ {α:Type} {p:α→Bool} {l:List α} {k:Nat} (h:k < l.length):(l.take (k+1)).all p=((l.take k).all p && p l[k]):=by
 rw [List.take_succ_eq_append_getElem h,List.all_append];simp
theorem all_of_not {α:Type} {p:α→Bool} {l:List α} {k:Nat} (h:k < l.length) (hp:p l[k]=false):l.all p=false:=by
 rw [List.all_eq_false];exact ⟨l[k],List.getElem_mem h,by simp [hp]⟩
theorem l10Good_f (x:ReceiveWindow) (v:Value) (F:List Nat):Fn Tryz.prog 218 [v] [.isv EReceiveWindow v x F] [] (fun (_:Unit)=>True) (fun _=>.bool (goodRW x)) (fun _=>[]):=by
 refine enter Tryz.func218 rfl Tryz.ntmps218 fun w0=>?_
 refine openReceiveWindow ?_
 rintro a1 c1 F1 rfl l1
 unfold maxLen at l1
 refine go ?_;intros
 refine ce (fun w s=>l2Good_c _ _) ?_
 cases g1:isSer x.next
 ·refine go ?_;intros
  refine ret () trivial ?_
  simp [goodRW,g1,tup]
 refine go ?_;intros
 refine c_if rfl (fun h=>?_) (fun h=>?_)
 ·refine go ?_;intros
  refine ret () trivial ?_
  simp [goodRW,g1,tup];omega
 refine go ?_;intros
 refine c_loopR [1,2,3] (fun k:Nat=>[(4,.int .i64 k)]) (fun k=>k≤x.slots.length∧(x.slots.take k).all okSlot=true) (fun k=>x.slots.length - k) 0 ⟨Nat.zero_le _,rfl⟩ fun k hk=>?_
 obtain ⟨hk1,hk2⟩:=hk
 refine go ?_;intros
 refine c_if rfl (fun h3=>?_) (fun h3=>?_)
 ·have hk3:k < x.slots.length:=by omega
  refine atSlot k ?_
  rintro hi b o e s1
  cases e
  refine go ?_;intros
  refine ce (fun w s=>l4Letters_c _ _ _ s1) ?_
  rw [itm_8]
  cases g2:itm x.slots[k].item
  ·refine go ?_;intros
   refine ret () trivial ?_
   have:x.slots.all okSlot=false:=all_of_not hk3 (by simp [okSlot,g2])
   simp [goodRW,this,tup]
  refine go ?_;intros
  cases g3:x.slots[k].hav
  rotate_left
  ·refine go ?_;intros
   refine n_lp (k+1) ⟨by omega,by rw [all_take_succ hk3,hk2];simp [okSlot,g2,g3]⟩ (by omega)
  refine go ?_;intros
  refine c_if rfl (fun g4=>?_) (fun g4=>?_)
  ·refine go ?_;intros
   refine ret () trivial ?_
   have:x.slots.all okSlot=false:=all_of_not hk3 (by simp [okSlot,g2,g3,g4])
   simp [goodRW,this,tup]
  ·refine go ?_;intros
   simp only [Decidable.not_not] at g4
   have ho:okSlot x.slots[k]=true:=by unfold okSlot;rw [g2,g3,decide_eq_true g4];rfl
   refine n_lp (k+1) ⟨by omega,by rw [all_take_succ hk3,hk2,ho];rfl⟩ (by omega)
 have hkl:k=x.slots.length:=by omega
 subst hkl
 rw [List.take_length] at hk2
 have g3:goodRW x=ends x.slots:=by simp [goodRW,g1,hk2];omega
 refine go ?_;intros
 refine wg_if rfl rfl (fun h4=>?_) (fun h4=>?_)
 ·refine go ?_;intros
  refine ret () trivial ?_
  rw [g3];have:x.slots.length=0:=by omega
  simp [ends,this,tup]
 refine atSlot 0 ?_
 rintro hi b o e s1
 cases e
 refine go ?_;intros
 cases g4:x.slots[0].hav
 rotate_left
 ·refine go ?_;intros
  refine ret () trivial ?_
  rw [g3];unfold ends;rw [havAt_lt hi,g4,decide_eq_false (by omega)];rfl
 refine atSlot (x.slots.length - 1) ?_
 rintro hi2 b2 o2 e s2
 cases e
 refine go ?_;intros
 have hl:((x.slots.length:Int) - 1).toNat=x.slots.length - 1:=by omega
 rw [hl]
 refine go ?_;intros
 refine ret () trivial ?_
 rw [g3];unfold ends;rw [havAt_lt hi,havAt_lt hi2,g4,decide_eq_false (by omega)];rfl
def plus (s:ByteArray):ByteArray:=⟨#[43]⟩++s
def minus:ByteArray:=⟨#[45]⟩
def shiftEv (l:List Slot):ByteArray:=match l with|[]=>minus|s::_=>if s.hav then plus s.item else minus
theorem shiftEv_t {l:List Slot} (hi:0 < l.length) (h:l[0].hav=true):shiftEv l=plus l[0].item:=by
 cases l with
 | nil=>simp at hi
 | cons s r=>simp at h;simp [shiftEv,h]
theorem shiftEv_f {l:List Slot} (hi:0 < l.length) (h:l[0].hav=false):shiftEv l=minus:=by
 cases l with
 | nil=>simp at hi
 | cons s r=>simp at h;simp [shiftEv,h]
def rel:Int→List Slot→Int × List Slot × List ByteArray
 | n,[]=>(n,[],[])
 | n,s::r=>if s.hav then ((rel (aft n 1) r).1,(rel (aft n 1) r).2.1,plus s.item::(rel (aft n 1) r).2.2) else (n,s::r,[])
theorem rel_no {n:Int} {l:List Slot} (h:havAt l 0=false):rel n l=(n,l,[]):=by
 cases l with
 | nil=>rfl
 | cons s r=>have:s.hav=false:=h;simp [rel,this]
theorem rel_yes {n:Int} {l:List Slot} (h:havAt l 0=true):rel n l=((rel (aft n 1) (l.drop 1)).1,(rel (aft n 1) (l.drop 1)).2.1,shiftEv l::(rel (aft n 1) (l.drop 1)).2.2):=by
 cases l with
 | nil=>cases h
 | cons s r=>have:s.hav=true:=h;simp [rel,shiftEv,this]
theorem rdRW {w:World} {a:Option Addr} {c:Nat} {x:ReceiveWindow} {F:List Nat} (h:(Pc.ow ESlot 247 (.slice a x.slots.length c) x.slots F).P w):∃F',(Pc.isv EReceiveWindow (.agg #[.int .i64 x.next,.slice a x.slots.length c]) x F').P w:=by
 obtain ⟨F', -,hs⟩:=h.2.read
 exact ⟨F',_,rfl,_,rfl,hs⟩
theorem RWclone_f (x:ReceiveWindow) (v:Value) (F:List Nat) (hl:x.slots.length≤4294967296):Fn Tryz.prog 189 [v] [.isv EReceiveWindow v x F] [] (fun (_:Option Addr × Nat × List Nat)=>True)
  (fun s=>.agg #[.int .i64 x.next,.slice s.1 x.slots.length s.2.1]) (fun s=>[.ow ESlot 247 (.slice s.1 x.slots.length s.2.1) x.slots s.2.2]):=by
 refine enter Tryz.func189 rfl Tryz.ntmps189 fun w0=>?_
 refine openReceiveWindow ?_
 rintro a1 c1 F1 rfl l1
 refine go ?_;intros
 refine cn (fun w s=>Clone_Slot _ _ _ _ (s.get (p:=.sl ESlot (.slice a1 x.slots.length c1) x.slots F1) (by simp)).2 hl) fun a cp F'=>?_
 refine go ?_;intros
 refine ret (a,cp,F') trivial rfl
theorem RWshift_f (x:ReceiveWindow) (g t o:Nat) (A B:List Value) (a:Option Addr) (cc:Nat) (F:List Nat) (h0:0≤x.next) (h1:x.next≤65535) (hl:x.slots.length≤4294967296) (hs:∀s∈x.slots,s.item.size≤8) :
  Fn Tryz.prog 274 [ptr g o 0] [] [.row g t o A [.int .i64 x.next,.slice a x.slots.length cc] B,.ow ESlot 247 (.slice a x.slots.length cc) x.slots F] (fun (_:Option Addr × Nat × List Nat)=>True)
   (fun _=>.string (shiftEv x.slots)) (fun s=>[.row g t o A [.int .i64 (aft x.next 1),.slice s.1 (x.slots.drop 1).length s.2.1] B,.ow ESlot 247 (.slice s.1 (x.slots.drop 1).length s.2.1) (x.slots.drop 1) s.2.2]):=by
 refine enter Tryz.func274 rfl Tryz.ntmps274 fun w0=>?_
 refine go ?_;intros
 refine c_if rfl (fun h=>?_) (fun h=>?_)
 ·refine t_read fun F'=>?_
  refine atSlot 0 ?_
  rintro hi b o2 e s1
  cases e
  refine go ?_;intros
  have s8:=hs _ (List.getElem_mem hi)
  have s9:(⟨#[43]⟩:ByteArray).size=1:=rfl
  cases g1:x.slots[0].hav
  ·refine go ?_;intros
   apply wO
   refine sld 1 fun a2 c2 F2=>?_
   refine go ?_;intros
   refine cn (fun w s=>Clone_Slot _ _ _ _ (s.get (p:=.sl ESlot (.slice a2 (x.slots.drop 1).length c2) (x.slots.drop 1) F2) (by simp)).2 (by simp;omega)) fun a3 c3 F3=>?_
   refine go ?_;intros
   refine ce (fun w s=>after_c _ _ _ (by omega) (by omega)) ?_
   refine go ?_;intros
   refine ret (a3,c3,F3) trivial ?_
   rw [shiftEv_f hi g1];rfl
  ·refine go ?_;intros
   apply wO
   refine sld 1 fun a2 c2 F2=>?_
   refine go ?_;intros
   refine cn (fun w s=>Clone_Slot _ _ _ _ (s.get (p:=.sl ESlot (.slice a2 (x.slots.drop 1).length c2) (x.slots.drop 1) F2) (by simp)).2 (by simp;omega)) fun a3 c3 F3=>?_
   refine go ?_;intros
   refine ce (fun w s=>after_c _ _ _ (by omega) (by omega)) ?_
   refine go ?_;intros
   refine ret (a3,c3,F3) trivial ?_
   rw [shiftEv_t hi g1];rfl
 ·obtain ⟨n,l⟩:=x
  obtain rfl:l=[]:=List.eq_nil_of_length_eq_zero (by simpa using h)
  refine go ?_;intros
  refine ce (fun w s=>after_c _ _ _ (by omega) (by omega)) ?_
  refine go ?_;intros
  refine ret (a,cc,F) trivial rfl
def relW (x:ReceiveWindow):ReceiveWindow:=⟨(rel x.next x.slots).1,(rel x.next x.slots).2.1⟩
def relE (x:ReceiveWindow):List ByteArray:=(rel x.next x.slots).2.2
def shW (x:ReceiveWindow):ReceiveWindow:=⟨aft x.next 1,x.slots.drop 1⟩
theorem rel_stop {x:ReceiveWindow} (h:havAt x.slots 0=false):relW x=x∧relE x=[]:=by unfold relW relE;rw [rel_no h];exact ⟨rfl,rfl⟩
theorem rel_go {x:ReceiveWindow} (h:havAt x.slots 0=true):relW x=relW (shW x)∧relE x=shiftEv x.slots::relE (shW x):=by unfold relW relE;rw [rel_yes h];exact ⟨rfl,rfl⟩
theorem shiftEv_size {l:List Slot} (h:∀s∈l,s.item.size≤8):(shiftEv l).size≤9:=by
 cases l with
 | nil=>decide
 | cons s r =>
  have:=h s (by simp)
  unfold shiftEv;dsimp only
  split
  ·unfold plus;rw [ByteArray.size_append];show 1+s.item.size≤9;omega
  ·decide
theorem hasB_next (y:ReceiveWindow):hasB y y.next=havAt y.slots 0:=by
 unfold hasB gp;rw [Int.sub_self];rfl
theorem rep_str (s:ByteArray) (h:s.size≤maxLen) (w:World):Flat EStr w [.string s] [s] []:=⟨_,[],[],[],by simp,by simp,⟨rfl,h,rfl⟩,rfl,rfl⟩
structure RelS where
 es:List ByteArray
 y:ReceiveWindow
 a:Option Addr
 c:Nat
 F:List Nat
 ae:Option Addr
 ce:Nat
 Fe:List Nat
structure RelOk (x:ReceiveWindow) (s:RelS):Prop where
 n0:0≤s.y.next
 n1:s.y.next≤65535
 it:∀z∈s.y.slots,z.item.size≤8
 ln:s.es.length+s.y.slots.length≤x.slots.length
 w:relW x=relW s.y
 e:relE x=s.es++relE s.y
theorem RWrelease_f (x:ReceiveWindow) (g t o:Nat) (A B:List Value) (a:Option Addr) (cc:Nat) (F:List Nat) (h0:0≤x.next) (h1:x.next≤65535) (hl:x.slots.length≤1000000) (hs:∀s∈x.slots,s.item.size≤8) :
  Fn Tryz.prog 275 [ptr g o 0] [] [.row g t o A [.int .i64 x.next,.slice a x.slots.length cc] B,.ow ESlot 247 (.slice a x.slots.length cc) x.slots F] (fun (s:RelS)=>s.y=relW x∧s.es=relE x)
   (fun s=>.slice s.ae s.es.length s.ce) (fun s=>[.row g t o A [.int .i64 s.y.next,.slice s.a s.y.slots.length s.c] B,.ow ESlot 247 (.slice s.a s.y.slots.length s.c) s.y.slots s.F,.ow EStr 9 (.slice s.ae s.es.length s.ce) s.es s.Fe]):=by
 refine enter Tryz.func275 rfl Tryz.ntmps275 fun w0=>?_
 refine go ?_;intros
 refine t_nilow EStr 9 ?_
 refine c_loopS [0,2] (fun s:RelS=>[(3,.slice s.ae s.es.length s.ce)]) (fun s=>[.row g t o A [.int .i64 s.y.next,.slice s.a s.y.slots.length s.c] B,.ow ESlot 247 (.slice s.a s.y.slots.length s.c) s.y.slots s.F,.ow EStr 9 (.slice s.ae s.es.length s.ce) s.es s.Fe]) (RelOk x) (fun s=>s.y.slots.length) ⟨[],x,a,cc,F,none,0,[]⟩ ⟨h0,h1,hs,by simp,rfl,rfl⟩ fun s hC=>?_
 obtain ⟨n0,n1,hit,hln,hw,he⟩:=hC
 refine go ?_;intros
 refine d_start [0] [] ?_
 refine dt4 0 1 2 3 ?_
 refine dt2 4 5 ?_
 refine dt 6 ?_
 refine dN 7 ?_
 refine oC ?_
 refine cb (fun w st=>by
  obtain ⟨F',h⟩:=rdRW (st.get (p:=.ow ESlot 247 (.slice s.a s.y.slots.length s.c) s.y.slots s.F) (by simp))
  exact (RWhas_f s.y s.y.next _ F' n0 n1 n0 n1).val w (hol1 h)) ?_
 refine dk ?_
 refine dd ?_
 rw [hasB_next]
 cases hv:havAt s.y.slots 0
 ·refine go ?_;intros
  refine ret s ⟨by rw [hw,(rel_stop hv).1],by rw [he,(rel_stop hv).2,List.append_nil]⟩ rfl
 refine go ?_;intros
 refine cf (RWshift_f s.y g t o A B s.a s.c s.F n0 n1 (by omega) hit) fun z _=>?_
 obtain ⟨az,cz,Fz⟩:=z
 refine t_app ?_
 have hsz:=shiftEv_size hit
 have hmx:(shiftEv s.y.slots).size≤maxLen:=by unfold maxLen;omega
 have hlt:0 < s.y.slots.length:=by
  rcases Nat.eq_zero_or_pos s.y.slots.length with h|h
  ·rw [havAt_ge (by omega)] at hv;cases hv
  ·exact h
 have hll:s.es.length+1≤1000000:=by omega
 refine go ?_;intros
 apply wO
 refine ap1 (rep_str _ hmx) one_EStr fun a' c' F'=>?_
 refine go ?_;intros
 refine n_lp ⟨s.es++[shiftEv s.y.slots],shW s.y,az,cz,Fz,a',c',F'⟩ ⟨(aft_bd _ _).1,(aft_bd _ _).2,fun z hz=>hit z (List.mem_of_mem_drop hz),by simp [shW];omega,by rw [hw,(rel_go hv).1],by rw [he,(rel_go hv).2];simp⟩ (by simp [shW];omega)
def zsl:Slot:=⟨false,⟨#[]⟩⟩
def padL (x:ReceiveWindow) (j:Nat):List Slot:=x.slots++List.replicate j zsl
theorem padL_len (x:ReceiveWindow) (j:Nat):(padL x j).length=x.slots.length+j:=by simp [padL]
def putL (x:ReceiveWindow) (k:Nat) (s:Slot):List Slot:=(padL x (k+1 - x.slots.length)).set k s
def takeNo (x:ReceiveWindow) (n:Int):Bool:=bef n x.next || hasB x n
def takeOk (x:ReceiveWindow) (n:Int):Bool:=takeNo x n || decide (gp x.next n < 8)
def putW (x:ReceiveWindow) (n:Int) (s:ByteArray):ReceiveWindow:=⟨x.next,putL x (gp x.next n).toNat ⟨true,s⟩⟩
def takeW (x:ReceiveWindow) (n:Int) (s:ByteArray):ReceiveWindow:=if takeNo x n || !decide (gp x.next n < 8) then x else relW (putW x n s)
def takeE (x:ReceiveWindow) (n:Int) (s:ByteArray):List ByteArray:=if takeNo x n || !decide (gp x.next n < 8) then [] else relE (putW x n s)
def stepsN (a b:Int):Nat:=if bef a b then (gp a b).toNat else 0
def giveW:Nat→ReceiveWindow→ReceiveWindow
 | 0,y=>y
 | k+1,y=>giveW k (shW y)
def giveE:Nat→ReceiveWindow→List ByteArray
 | 0,_=>[]
 | k+1,y=>shiftEv y.slots::giveE k (shW y)
theorem stepsN_no {a b:Int} (h:bef a b=false):stepsN a b=0:=by unfold stepsN;rw [h];rfl
theorem stepsN_yes {a b:Int} (h:bef a b=true):stepsN a b=stepsN (aft a 1) b+1:=by
 unfold stepsN
 rw [h]
 unfold bef btw gp aft at *
 simp only [Bool.and_eq_true,decide_eq_true_eq,if_true] at h ⊢
 split <;> omega
theorem stepsN_le (a b:Int):stepsN a b≤32767:=by
 unfold stepsN
 split
 ·rename_i h;unfold bef btw at h;simp only [Bool.and_eq_true,decide_eq_true_eq] at h;omega
 ·omega
theorem rep_slot (s:Slot) (h:s.item.size≤maxLen) (w:World):Flat ESlot w [.bool s.hav,.string s.item] [s] []:=⟨_,[],[],[],by simp,by simp,⟨rfl,h,rfl⟩,rfl,rfl⟩
theorem putL_items {x:ReceiveWindow} {k:Nat} (hs:∀s∈x.slots,s.item.size≤8) {s:Slot} (hi:s.item.size≤8):∀z∈putL x k s,z.item.size≤8:=fun z hz=>by
 unfold putL at hz
 rcases List.mem_or_eq_of_mem_set hz with h|rfl
 ·unfold padL at h
  rcases List.mem_append.1 h with h|h
  ·exact hs z h
  ·rw [(List.mem_replicate.1 h).2];decide
 ·exact hi
structure PadS where
 j:Nat
 a:Option Addr
 c:Nat
 F:List Nat
theorem RWtake_f (x:ReceiveWindow) (n:Int) (item:ByteArray) (g t o:Nat) (A B:List Value) (a:Option Addr) (cc:Nat) (F:List Nat) (h0:0≤x.next) (h1:x.next≤65535) (h2:0≤n) (h3:n≤65535) (hl:x.slots.length≤8) (hs:∀s∈x.slots,s.item.size≤8) (hi:item.size≤8) :
  Fn Tryz.prog 318 [ptr g o 0,.int .i64 n,.string item] [] [.row g t o A [.int .i64 x.next,.slice a x.slots.length cc] B,.ow ESlot 247 (.slice a x.slots.length cc) x.slots F] (fun (s:RelS)=>s.y=takeW x n item∧s.es=takeE x n item)
   (fun s=>.tuple #[.slice s.ae s.es.length s.ce,.bool (takeOk x n)]) (fun s=>[.row g t o A [.int .i64 s.y.next,.slice s.a s.y.slots.length s.c] B,.ow ESlot 247 (.slice s.a s.y.slots.length s.c) s.y.slots s.F,.ow EStr 9 (.slice s.ae s.es.length s.ce) s.es s.Fe]):=by
 have hg:=gp_bd x.next n
 refine enter Tryz.func318 rfl Tryz.ntmps318 fun w0=>?_
 refine go ?_;intros
 refine ce (fun w s=>isBefore_c _ _ _ (by omega) (by omega) (by omega) (by omega)) ?_
 cases g1:bef n x.next
 rotate_left
 ·refine go ?_;intros
  refine t_nilow EStr 9 ?_
  refine ret ⟨[],x,a,cc,F,none,0,[]⟩ ⟨by simp [takeW,takeNo,g1],by simp [takeE,takeNo,g1]⟩ ?_
  simp [takeOk,takeNo,g1,tup]
 refine go ?_;intros
 refine cb (fun w st=>by
  obtain ⟨F',h⟩:=rdRW (st.get (p:=.ow ESlot 247 (.slice a x.slots.length cc) x.slots F) (by simp))
  exact (RWhas_f x n _ F' h0 h1 h2 h3).val w (hol1 h)) ?_
 cases g2:hasB x n
 rotate_left
 ·refine go ?_;intros
  refine t_nilow EStr 9 ?_
  refine ret ⟨[],x,a,cc,F,none,0,[]⟩ ⟨by simp [takeW,takeNo,g1,g2],by simp [takeE,takeNo,g1,g2]⟩ ?_
  simp [takeOk,takeNo,g1,g2,tup]
 refine go ?_;intros
 refine ce (fun w s=>gap_c _ _ _ (by omega) (by omega) (by omega) (by omega)) ?_
 refine go ?_;intros
 refine c_if rfl (fun h8=>?_) (fun h8=>?_)
 ·refine go ?_;intros
  refine t_nilow EStr 9 ?_
  have h9:¬gp x.next n < 8:=by omega
  refine ret ⟨[],x,a,cc,F,none,0,[]⟩ ⟨by simp [takeW,h9],by simp [takeE,h9]⟩ ?_
  simp [takeOk,takeNo,g1,g2,h9,tup]
 have hW:takeW x n item=relW (putW x n item):=by unfold takeW takeNo;rw [g1,g2,decide_eq_true (by omega)];rfl
 have hE:takeE x n item=relE (putW x n item):=by unfold takeE takeNo;rw [g1,g2,decide_eq_true (by omega)];rfl
 have hO:takeOk x n=true:=by unfold takeOk;rw [decide_eq_true (show gp x.next n < 8 by omega)];simp
 unfold putW at hW hE
 obtain ⟨k,hk⟩:∃k:Nat,gp x.next n=k:=⟨(gp x.next n).toNat,by omega⟩
 rw [hk] at hW hE ⊢
 rw [Int.toNat_natCast] at hW hE
 refine go ?_;intros
 refine c_loopS [0,2,6,7,8] (fun s:PadS=>[]) (fun s=>[.row g t o A [.int .i64 x.next,.slice s.a (padL x s.j).length s.c] B,.ow ESlot 247 (.slice s.a (padL x s.j).length s.c) (padL x s.j) s.F]) (fun s=>s.j≤k+1 - x.slots.length) (fun s=>k+1 - x.slots.length - s.j) ⟨0,a,cc,F⟩ (Nat.zero_le _) (fun s hj=>?_) (hH:=by simp only [padL,List.replicate_zero,List.append_nil];exact picksE)
 have hpl:=padL_len x s.j
 refine go ?_;intros
 refine c_if rfl (fun h9=>?_) (fun h9=>?_)
 ·refine go ?_;intros
  apply wO
  refine ap1 (rep_slot zsl (by decide)) one_ESlot fun a' c' F'=>?_
  refine go ?_;intros
  have e:padL x s.j++[zsl]=padL x (s.j+1):=by simp [padL,List.replicate_succ']
  rw [e]
  refine n_lp ⟨s.j+1,a',c',F'⟩ (by show s.j+1≤_;omega) (by show _ - (s.j+1) < _;omega)
 have hjk:s.j=k+1 - x.slots.length:=by omega
 refine go ?_;intros
 have hkl:k < (padL x s.j).length:=by omega
 refine focSlot k ?_
 rintro hi2 g2 A2 B2 e eF hs2 hh
 rw [e]
 refine goN ?_;intros
 refine unfF (⟨true,item⟩:Slot) hh (fun w=>⟨rfl,by show item.size≤maxLen;unfold maxLen;omega,rfl⟩) ?_
 have hsl:(padL x s.j).length=((padL x s.j).set k ⟨true,item⟩).length:=by rw [List.length_set]
 rw [hsl]
 have hpu:(padL x s.j).set k ⟨true,item⟩=putL x k ⟨true,item⟩:=by unfold putL;rw [hjk]
 rw [hpu]
 have hpl2:(putL x k ⟨true,item⟩).length≤1000:=by unfold putL;rw [List.length_set,padL_len];omega
 have hps:=putL_items (x:=x) (k:=k) hs (s:=⟨true,item⟩) hi
 refine go ?_;intros
 refine cf (RWrelease_f ⟨x.next,putL x k ⟨true,item⟩⟩ g t o A B _ _ _ h0 h1 (by show (putL x k ⟨true,item⟩).length≤_;omega) hps) fun z hz=>?_
 refine t_app ?_
 refine go ?_;intros
 refine ret z ⟨by rw [hz.1,hW],by rw [hz.2,hE]⟩ ?_
 rw [hO];rfl
structure GiveOk (x:ReceiveWindow) (n:Int) (s:RelS):Prop where
 n0:0≤s.y.next
 n1:s.y.next≤65535
 it:∀z∈s.y.slots,z.item.size≤8
 ln:s.y.slots.length≤x.slots.length
 le:s.es.length+stepsN s.y.next n≤stepsN x.next n
 w:giveW (stepsN x.next n) x=giveW (stepsN s.y.next n) s.y
 e:giveE (stepsN x.next n) x=s.es++giveE (stepsN s.y.next n) s.y
theorem relE_len (x:ReceiveWindow):(relE x).length≤x.slots.length:=by
 unfold relE
 have:∀(l:List Slot) n,(rel n l).2.2.length≤l.length:=by
  intro l
  induction l with
  | nil=>intro n;simp [rel]
  | cons s r ih=>intro n;unfold rel;split;simp;exact ih _;simp
 exact this _ _
theorem RWgive_f (x:ReceiveWindow) (n:Int) (g t o:Nat) (A B:List Value) (a:Option Addr) (cc:Nat) (F:List Nat) (h0:0≤x.next) (h1:x.next≤65535) (h2:0≤n) (h3:n≤65535) (hl:x.slots.length≤8) (hs:∀s∈x.slots,s.item.size≤8) :
  Fn Tryz.prog 208 [ptr g o 0,.int .i64 n] [] [.row g t o A [.int .i64 x.next,.slice a x.slots.length cc] B,.ow ESlot 247 (.slice a x.slots.length cc) x.slots F] (fun (s:RelS)=>s.y=relW (giveW (stepsN x.next n) x)∧s.es=giveE (stepsN x.next n) x++relE (giveW (stepsN x.next n) x))
   (fun s=>.slice s.ae s.es.length s.ce) (fun s=>[.row g t o A [.int .i64 s.y.next,.slice s.a s.y.slots.length s.c] B,.ow ESlot 247 (.slice s.a s.y.slots.length s.c) s.y.slots s.F,.ow EStr 9 (.slice s.ae s.es.length s.ce) s.es s.Fe]):=by
 have hgn:=stepsN_le x.next n
 refine enter Tryz.func208 rfl Tryz.ntmps208 fun w0=>?_
 refine go ?_;intros
 refine t_nilow EStr 9 ?_
 refine c_loopS [0,1,4] (fun s:RelS=>[(5,.slice s.ae s.es.length s.ce)]) (fun s=>[.row g t o A [.int .i64 s.y.next,.slice s.a s.y.slots.length s.c] B,.ow ESlot 247 (.slice s.a s.y.slots.length s.c) s.y.slots s.F,.ow EStr 9 (.slice s.ae s.es.length s.ce) s.es s.Fe]) (GiveOk x n) (fun s=>stepsN s.y.next n) ⟨[],x,a,cc,F,none,0,[]⟩ ⟨h0,h1,hs,Nat.le_refl _,by simp,rfl,rfl⟩ fun s hC=>?_
 obtain ⟨n0,n1,hit,hln,hle,hw,he⟩:=hC
 refine go ?_;intros
 refine ce (fun w s=>isBefore_c _ _ _ (by omega) (by omega) (by omega) (by omega)) ?_
 cases hb:bef s.y.next n
 ·refine go ?_;intros
  rw [stepsN_no hb] at hw he
  refine cf (RWrelease_f s.y g t o A B s.a s.c s.F n0 n1 (by omega) hit) fun z hz=>?_
  refine t_app ?_
  refine go ?_;intros
  have hr:=relE_len s.y
  have hzl:z.es.length≤s.y.slots.length:=by rw [hz.2];exact hr
  refine t_read (xs:=z.es) fun F'=>?_
  apply wO
  refine aps one_EStr scal_EStr fun a' c' F2=>?_
  refine go ?_;intros
  refine ret ⟨s.es++z.es,z.y,z.a,z.c,z.F,a',c',F2⟩ ⟨by rw [hz.1,hw];rfl,by rw [hz.2,he,hw];simp [giveE,giveW]⟩ rfl
 have hst:=stepsN_yes hb
 refine go ?_;intros
 refine cf (RWshift_f s.y g t o A B s.a s.c s.F n0 n1 (by omega) hit) fun z _=>?_
 obtain ⟨az,cz,Fz⟩:=z
 refine t_app ?_
 have hsz:=shiftEv_size hit
 have hmx:(shiftEv s.y.slots).size≤maxLen:=by unfold maxLen;omega
 refine go ?_;intros
 apply wO
 refine ap1 (rep_str _ hmx) one_EStr fun a' c' F'=>?_
 refine go ?_;intros
 refine n_lp ⟨s.es++[shiftEv s.y.slots],shW s.y,az,cz,Fz,a',c',F'⟩ ⟨(aft_bd _ _).1,(aft_bd _ _).2,fun z hz=>hit z (List.mem_of_mem_drop hz),by simp [shW];omega,by simp [shW];omega,by rw [hw,hst];rfl,by rw [he,hst];simp [giveE,shW]⟩ (by show stepsN (aft s.y.next 1) n < _;omega)
def zRW:ReceiveWindow:=⟨0,[]⟩
def okTakeItem (x:ReceiveWindow) (n:Int) (s:ByteArray):Bool:=goodRW x && isSer n && itm s && takeOk x n
def resTakeItem (x:ReceiveWindow) (n:Int) (s:ByteArray):ReceiveWindow × List ByteArray × Bool:=if okTakeItem x n s then (takeW x n s,takeE x n s,true) else (zRW,[],false)
theorem okSlot_size {s:Slot} (h:okSlot s=true):s.item.size≤8:=by
 unfold okSlot itm at h
 simp only [Bool.and_eq_true,decide_eq_true_eq] at h
 omega
structure GoodRW (x:ReceiveWindow):Prop where
 n0:0≤x.next
 n1:x.next≤65535
 l:x.slots.length≤8
 it:∀s∈x.slots,s.item.size≤8
theorem good_of {x:ReceiveWindow} (h:goodRW x=true):GoodRW x:=by
 unfold goodRW at h
 simp only [Bool.and_eq_true,decide_eq_true_eq] at h
 have hs:=isSer_iff.1 h.1.1.1
 exact ⟨hs.1,hs.2,by omega,fun s hs=>okSlot_size (List.all_eq_true.1 h.1.2 s hs)⟩
theorem itm_size {s:ByteArray} (h:itm s=true):s.size≤8:=by unfold itm at h;simp only [Bool.and_eq_true,decide_eq_true_eq] at h;omega
structure CpS where
 g:Nat
 a:Option Addr
 c:Nat
 F:List Nat
theorem l10Release_f (x:ReceiveWindow) (v:Value) (F:List Nat) (h0:0≤x.next) (h1:x.next≤65535) (hl:x.slots.length≤1000000) (hs:∀s∈x.slots,s.item.size≤8) :
  Fn Tryz.prog 282 [v] [.isv EReceiveWindow v x F] [] (fun (s:RelS)=>s.y=relW x∧s.es=relE x)
   (fun s=>.tuple #[.agg #[.int .i64 s.y.next,.slice s.a s.y.slots.length s.c],.slice s.ae s.es.length s.ce]) (fun s=>[.isv EReceiveWindow (.agg #[.int .i64 s.y.next,.slice s.a s.y.slots.length s.c]) s.y s.F,.ow EStr 9 (.slice s.ae s.es.length s.ce) s.es s.Fe]):=by
 refine enter Tryz.func282 rfl Tryz.ntmps282 fun w0=>?_
 refine openReceiveWindow ?_
 rintro a1 c1 F1 rfl l1
 unfold maxLen at l1
 refine go ?_;intros
 refine c_joinS [2,3] [0] (fun s:CpS=>[(4,ptr s.g 0 0)]) (fun s=>[.row s.g 146 0 [] [.int .i64 x.next,.slice s.a x.slots.length s.c] [],.ow ESlot 247 (.slice s.a x.slots.length s.c) x.slots s.F]) (fun _=>True) ?_ fun s _=>?_
 ·refine d_start [0,1] [8] ?_
  refine dt4 0 1 3 4 ?_
  refine dM 2 7 ?_ ?_
  ·apply o_bs0;rfl;intro _
   refine t_emp ESlot ?_
   refine dk ?_
   refine dM 5 7 ?_ ?_
   ·refine aps one_ESlot scal_ESlot fun a2 c2 F2=>?_
    refine dk ?_
    refine dt 6 ?_
    refine dN 7 ?_
    apply o_alloc;rfl;intro _
    refine dk ?_
    refine dN 8 ?_
    refine oS ?_
    refine dkx ?_
    refine dd ?_
    refine n_join (⟨_,a2,c2,F2⟩:CpS) trivial
   ·apply o_alloc;rfl;intro _
    refine dk ?_
    refine dN 5 ?_
    refine aps one_ESlot scal_ESlot fun a2 c2 F2=>?_
    refine dk ?_
    refine dt 6 ?_
    refine dN 8 ?_
    refine oS ?_
    refine dkx ?_
    refine dd ?_
    refine n_join (⟨_,a2,c2,F2⟩:CpS) trivial
  ·apply o_alloc;rfl;intro _
   refine dk ?_
   refine dN 2 ?_
   apply o_bs0;rfl;intro _
   refine t_emp ESlot ?_
   refine dk ?_
   refine dN 5 ?_
   refine aps one_ESlot scal_ESlot fun a2 c2 F2=>?_
   refine dk ?_
   refine dt 6 ?_
   refine dN 8 ?_
   refine oS ?_
   refine dkx ?_
   refine dd ?_
   refine n_join (⟨_,a2,c2,F2⟩:CpS) trivial
 obtain ⟨gg,a2,c2,F2⟩:=s
 refine t_read (xs:=x.slots) fun F3=>?_
 refine go ?_;intros
 refine t_emp EStr ?_
 refine c_loopS [2,3,4] (fun s:RelS=>[(5,.slice s.ae s.es.length s.ce)]) (fun s=>[.row gg 146 0 [] [.int .i64 s.y.next,.slice s.a s.y.slots.length s.c] [],.sl ESlot (.slice s.a s.y.slots.length s.c) s.y.slots s.F,.ow EStr 9 (.slice s.ae s.es.length s.ce) s.es s.Fe]) (RelOk x) (fun s=>s.y.slots.length) ⟨[],x,a2,c2,F3,_,0,_⟩ ⟨h0,h1,hs,by simp,rfl,rfl⟩ fun s hC=>?_
 obtain ⟨n0,n1,hit,hln,hw,he⟩:=hC
 have stop:havAt s.y.slots 0=false→s.y=relW x∧s.es=relE x:=fun h=>⟨by rw [hw,(rel_stop h).1],by rw [he,(rel_stop h).2,List.append_nil]⟩
 refine go ?_;intros
 refine wg_if rfl rfl (fun h4=>?_) (fun h4=>?_)
 rotate_left
 ·refine go ?_;intros
  have hv:havAt s.y.slots 0=false:=havAt_ge (by omega)
  refine closeReceiveWindow s.y ?_
  refine ret s (stop hv) rfl
 refine atSlot 0 ?_
 rintro hi b o e s1
 rw [e]
 refine go ?_;intros
 cases g1:s.y.slots[0].hav
 ·refine go ?_;intros
  rw [←e]
  refine closeReceiveWindow s.y ?_
  refine ret s (stop (by rw [havAt_lt hi,g1])) rfl
 have hv:havAt s.y.slots 0=true:=by rw [havAt_lt hi,g1]
 have hz:=hit _ (List.getElem_mem hi)
 have h43:(⟨#[43]⟩:ByteArray).size=1:=rfl
 have hpl:(⟨#[43]⟩++s.y.slots[0].item:ByteArray)=shiftEv s.y.slots:=(shiftEv_t hi g1).symm
 have hmx:(shiftEv s.y.slots).size≤maxLen:=by have:=shiftEv_size hit;unfold maxLen;omega
 have hll:s.es.length+1≤1000000:=by omega
 refine go ?_;intros
 rw [hpl]
 apply wO
 refine ap1 (rep_str _ hmx) one_EStr fun a' c' F'=>?_
 refine go ?_;intros
 refine d_start [1,2] [7] ?_
 refine dt4 0 1 3 4 ?_
 refine dsld 5 1 fun a5 c5 F5=>?_
 refine dN 2 ?_
 refine oC ?_
 refine ce (fun w s=>l2After_c _ _ _ (by omega) (by omega)) ?_
 refine dk ?_
 refine dt 6 ?_
 refine dN 7 ?_
 refine oS ?_
 refine dkx ?_
 refine dd ?_
 refine go ?_;intros
 refine n_lp ⟨s.es++[shiftEv s.y.slots],shW s.y,a5,c5,F5,a',c',F'⟩ ⟨(aft_bd _ _).1,(aft_bd _ _).2,fun z hz=>hit z (List.mem_of_mem_drop hz),by simp [shW];omega,by rw [hw,(rel_go hv).1],by rw [he,(rel_go hv).2];simp⟩ (by simp [shW];omega)
theorem l10Reach_f (x:ReceiveWindow) (n:Int) (v:Value) (F:List Nat) (h0:0≤x.next) (h1:x.next≤65535) (h2:0≤n) (h3:n≤65535) (hl:x.slots.length≤8) :
  Fn Tryz.prog 284 [v,.int .i64 n] [.isv EReceiveWindow v x F] [] (fun (_:Unit)=>True) (fun _=>.bool (takeOk x n)) (fun _=>[]):=by
 have hg:=gp_bd x.next n
 have hh:¬gp x.next n < 8→hasB x n=false:=fun h=>havAt_ge (by omega)
 refine enter Tryz.func284 rfl Tryz.ntmps284 fun w0=>?_
 refine openReceiveWindow ?_
 rintro a1 c1 F1 rfl l1
 refine go ?_;intros
 refine ce (fun w s=>l2Before_c _ _ _ (by omega) (by omega)) ?_
 cases g1:bef n x.next
 ·refine go ?_;intros
  refine ce (fun w s=>l2Gap_c _ _ _ (by omega) (by omega)) ?_
  refine go ?_;intros
  refine ret () trivial ?_
  unfold takeOk takeNo
  rw [g1]
  by_cases h8:gp x.next n < 8
  ·simp [h8,tup]
  ·simp [h8,hh h8,tup]
 ·refine go ?_;intros
  refine ret () trivial ?_
  simp [takeOk,takeNo,g1,tup]
theorem l10Take_f (x:ReceiveWindow) (n:Int) (item:ByteArray) (v:Value) (F:List Nat) (h0:0≤x.next) (h1:x.next≤65535) (h2:0≤n) (h3:n≤65535) (hl:x.slots.length≤8) (hs:∀s∈x.slots,s.item.size≤8) (hi:item.size≤8) (hok:takeOk x n=true) :
  Fn Tryz.prog 285 [v,.int .i64 n,.string item] [.isv EReceiveWindow v x F] [] (fun (s:RelS)=>s.y=takeW x n item∧s.es=takeE x n item)
   (fun s=>.tuple #[.agg #[.int .i64 s.y.next,.slice s.a s.y.slots.length s.c],.slice s.ae s.es.length s.ce]) (fun s=>[.isv EReceiveWindow (.agg #[.int .i64 s.y.next,.slice s.a s.y.slots.length s.c]) s.y s.F,.ow EStr 9 (.slice s.ae s.es.length s.ce) s.es s.Fe]):=by
 have hg:=gp_bd x.next n
 refine enter Tryz.func285 rfl Tryz.ntmps285 fun w0=>?_
 refine openReceiveWindow ?_
 rintro a1 c1 F1 rfl l1
 refine go ?_;intros
 refine ce (fun w s=>l2Gap_c _ _ _ (by omega) (by omega)) ?_
 obtain ⟨k,hk⟩:∃k:Nat,gp x.next n=k:=⟨(gp x.next n).toNat,by omega⟩
 rw [hk]
 refine go ?_;intros
 refine c_joinS [1,2,3,6,7,8] [0,1,2] (fun s:CpS=>[(9,ptr s.g 0 0)]) (fun s=>[.row s.g 146 0 [] [.int .i64 x.next,.slice s.a x.slots.length s.c] [],.ow ESlot 247 (.slice s.a x.slots.length s.c) x.slots s.F]) (fun _=>True) ?_ fun s _=>?_
 ·refine d_start [0,1] [8] ?_
  refine dt4 0 1 3 4 ?_
  refine dM 2 7 ?_ ?_
  ·apply o_bs0;rfl;intro _
   refine t_emp ESlot ?_
   refine dk ?_
   refine dM 5 7 ?_ ?_
   ·refine aps one_ESlot scal_ESlot fun a2 c2 F2=>?_
    refine dk ?_
    refine dt 6 ?_
    refine dN 7 ?_
    apply o_alloc;rfl;intro _
    refine dk ?_
    refine dN 8 ?_
    refine oS ?_
    refine dkx ?_
    refine dd ?_
    refine n_join (⟨_,a2,c2,F2⟩:CpS) trivial
   ·apply o_alloc;rfl;intro _
    refine dk ?_
    refine dN 5 ?_
    refine aps one_ESlot scal_ESlot fun a2 c2 F2=>?_
    refine dk ?_
    refine dt 6 ?_
    refine dN 8 ?_
    refine oS ?_
    refine dkx ?_
    refine dd ?_
    refine n_join (⟨_,a2,c2,F2⟩:CpS) trivial
  ·apply o_alloc;rfl;intro _
   refine dk ?_
   refine dN 2 ?_
   apply o_bs0;rfl;intro _
   refine t_emp ESlot ?_
   refine dk ?_
   refine dN 5 ?_
   refine aps one_ESlot scal_ESlot fun a2 c2 F2=>?_
   refine dk ?_
   refine dt 6 ?_
   refine dN 8 ?_
   refine oS ?_
   refine dkx ?_
   refine dd ?_
   refine n_join (⟨_,a2,c2,F2⟩:CpS) trivial
 obtain ⟨gg,a2,c2,F2⟩:=s
 refine go ?_;intros
 refine ce (fun w s=>l2Before_c _ _ _ (by omega) (by omega)) ?_
 cases g1:bef n x.next
 rotate_left
 ·refine go ?_;intros
  refine t_emp EStr ?_
  refine t_read (xs:=x.slots) fun F3=>?_
  refine closeReceiveWindow x ?_
  refine ret ⟨[],x,a2,c2,F3,_,0,_⟩ ⟨by simp [takeW,takeNo,g1],by simp [takeE,takeNo,g1]⟩ rfl
 refine go ?_;intros
 refine wg_if rfl rfl (fun h4=>?_) (fun h4=>?_)
 ·refine atSlot k ?_
  rintro hi2 b2 o2 e s1
  cases e
  refine go ?_;intros
  cases g4:x.slots[k].hav
  rotate_left
  ·have hb:hasB x n=true:=by unfold hasB;rw [hk,Int.toNat_natCast,havAt_lt hi2];exact g4
   refine go ?_;intros
   refine t_emp EStr ?_
   refine t_read (xs:=x.slots) fun F3=>?_
   refine closeReceiveWindow x ?_
   refine ret ⟨[],x,a2,c2,F3,_,0,_⟩ ⟨by simp [takeW,takeNo,hb],by simp [takeE,takeNo,hb]⟩ rfl
  have hpad:hasB x n=false:=by unfold hasB;rw [hk,Int.toNat_natCast,havAt_lt hi2];exact g4
  have hno:takeNo x n=false:=by unfold takeNo;rw [g1,hpad];rfl
  have h8:gp x.next n < 8:=by unfold takeOk at hok;rw [hno] at hok;simpa using hok
  have hW:takeW x n item=relW (putW x n item):=by unfold takeW;rw [hno,decide_eq_true h8];rfl
  have hE:takeE x n item=relE (putW x n item):=by unfold takeE;rw [hno,decide_eq_true h8];rfl
  unfold putW at hW hE
  rw [hk,Int.toNat_natCast] at hW hE
  refine go ?_;intros
  refine c_loopS [2,6,7,8,9] (fun s:PadS=>[]) (fun s=>[.row gg 146 0 [] [.int .i64 x.next,.slice s.a (padL x s.j).length s.c] [],.ow ESlot 247 (.slice s.a (padL x s.j).length s.c) (padL x s.j) s.F]) (fun s=>s.j≤k+1 - x.slots.length) (fun s=>k+1 - x.slots.length - s.j) ⟨0,a2,c2,F2⟩ (Nat.zero_le _) (fun s hj=>?_) (hH:=by simp only [padL,List.replicate_zero,List.append_nil];exact picksE)
  have hpl:=padL_len x s.j
  refine go ?_;intros
  refine c_if rfl (fun h9=>?_) (fun h9=>?_)
  ·refine go ?_;intros
   apply wO
   refine ap1 (rep_slot zsl (by decide)) one_ESlot fun a' c' F'=>?_
   refine go ?_;intros
   have e:padL x s.j++[zsl]=padL x (s.j+1):=by simp [padL,List.replicate_succ']
   rw [e]
   refine n_lp ⟨s.j+1,a',c',F'⟩ (by show s.j+1≤_;omega) (by show _ - (s.j+1) < _;omega)
  have hjk:s.j=k+1 - x.slots.length:=by omega
  refine go ?_;intros
  have hkl:k < (padL x s.j).length:=by omega
  refine focSlot k ?_
  rintro hi2 g2 A2 B2 e eF hs2 hh
  rw [e]
  refine goN ?_;intros
  refine unfF (⟨true,item⟩:Slot) hh (fun w=>⟨rfl,by show item.size≤maxLen;unfold maxLen;omega,rfl⟩) ?_
  have hsl:(padL x s.j).length=((padL x s.j).set k ⟨true,item⟩).length:=by rw [List.length_set]
  rw [hsl]
  have hpu:(padL x s.j).set k ⟨true,item⟩=putL x k ⟨true,item⟩:=by unfold putL;rw [hjk]
  rw [hpu]
  have hpl2:(putL x k ⟨true,item⟩).length≤1000:=by unfold putL;rw [List.length_set,padL_len];omega
  have hps:=putL_items (x:=x) (k:=k) hs (s:=⟨true,item⟩) hi
  refine t_read (xs:=putL x k ⟨true,item⟩) fun F4=>?_
  refine closeReceiveWindow ⟨x.next,putL x k ⟨true,item⟩⟩ ?_
  refine go ?_;intros
  refine cf (l10Release_f ⟨x.next,putL x k ⟨true,item⟩⟩ _ _ h0 h1 (by show (putL x k ⟨true,item⟩).length≤_;omega) hps) fun z hz=>?_
  refine t_app ?_
  refine go ?_;intros
  refine ret z ⟨by rw [hz.1,hW],by rw [hz.2,hE]⟩ rfl
 ·have hpad:hasB x n=false:=havAt_ge (by omega)
  have hno:takeNo x n=false:=by unfold takeNo;rw [g1,hpad];rfl
  have h8:gp x.next n < 8:=by unfold takeOk at hok;rw [hno] at hok;simpa using hok
  have hW:takeW x n item=relW (putW x n item):=by unfold takeW;rw [hno,decide_eq_true h8];rfl
  have hE:takeE x n item=relE (putW x n item):=by unfold takeE;rw [hno,decide_eq_true h8];rfl
  unfold putW at hW hE
  rw [hk,Int.toNat_natCast] at hW hE
  refine go ?_;intros
  refine c_loopS [2,6,7,8,9] (fun s:PadS=>[]) (fun s=>[.row gg 146 0 [] [.int .i64 x.next,.slice s.a (padL x s.j).length s.c] [],.ow ESlot 247 (.slice s.a (padL x s.j).length s.c) (padL x s.j) s.F]) (fun s=>s.j≤k+1 - x.slots.length) (fun s=>k+1 - x.slots.length - s.j) ⟨0,a2,c2,F2⟩ (Nat.zero_le _) (fun s hj=>?_) (hH:=by simp only [padL,List.replicate_zero,List.append_nil];exact picksE)
  have hpl:=padL_len x s.j
  refine go ?_;intros
  refine c_if rfl (fun h9=>?_) (fun h9=>?_)
  ·refine go ?_;intros
   apply wO
   refine ap1 (rep_slot zsl (by decide)) one_ESlot fun a' c' F'=>?_
   refine go ?_;intros
   have e:padL x s.j++[zsl]=padL x (s.j+1):=by simp [padL,List.replicate_succ']
   rw [e]
   refine n_lp ⟨s.j+1,a',c',F'⟩ (by show s.j+1≤_;omega) (by show _ - (s.j+1) < _;omega)
  have hjk:s.j=k+1 - x.slots.length:=by omega
  refine go ?_;intros
  have hkl:k < (padL x s.j).length:=by omega
  refine focSlot k ?_
  rintro hi2 g2 A2 B2 e eF hs2 hh
  rw [e]
  refine goN ?_;intros
  refine unfF (⟨true,item⟩:Slot) hh (fun w=>⟨rfl,by show item.size≤maxLen;unfold maxLen;omega,rfl⟩) ?_
  have hsl:(padL x s.j).length=((padL x s.j).set k ⟨true,item⟩).length:=by rw [List.length_set]
  rw [hsl]
  have hpu:(padL x s.j).set k ⟨true,item⟩=putL x k ⟨true,item⟩:=by unfold putL;rw [hjk]
  rw [hpu]
  have hpl2:(putL x k ⟨true,item⟩).length≤1000:=by unfold putL;rw [List.length_set,padL_len];omega
  have hps:=putL_items (x:=x) (k:=k) hs (s:=⟨true,item⟩) hi
  refine t_read (xs:=putL x k ⟨true,item⟩) fun F4=>?_
  refine closeReceiveWindow ⟨x.next,putL x k ⟨true,item⟩⟩ ?_
  refine go ?_;intros
  refine cf (l10Release_f ⟨x.next,putL x k ⟨true,item⟩⟩ _ _ h0 h1 (by show (putL x k ⟨true,item⟩).length≤_;omega) hps) fun z hz=>?_
  refine t_app ?_
  refine go ?_;intros
  refine ret z ⟨by rw [hz.1,hW],by rw [hz.2,hE]⟩ rfl
theorem l10GiveUp_f (x:ReceiveWindow) (n:Int) (v:Value) (F:List Nat) (h0:0≤x.next) (h1:x.next≤65535) (h2:0≤n) (h3:n≤65535) (hl:x.slots.length≤8) (hs:∀s∈x.slots,s.item.size≤8) :
  Fn Tryz.prog 225 [v,.int .i64 n] [.isv EReceiveWindow v x F] [] (fun (s:RelS)=>s.y=relW (giveW (stepsN x.next n) x)∧s.es=giveE (stepsN x.next n) x++relE (giveW (stepsN x.next n) x))
   (fun s=>.tuple #[.agg #[.int .i64 s.y.next,.slice s.a s.y.slots.length s.c],.slice s.ae s.es.length s.ce]) (fun s=>[.isv EReceiveWindow (.agg #[.int .i64 s.y.next,.slice s.a s.y.slots.length s.c]) s.y s.F,.ow EStr 9 (.slice s.ae s.es.length s.ce) s.es s.Fe]):=by
 have hgn:=stepsN_le x.next n
 refine enter Tryz.func225 rfl Tryz.ntmps225 fun w0=>?_
 refine openReceiveWindow ?_
 rintro a1 c1 F1 rfl l1
 refine go ?_;intros
 refine c_joinS [1,4,5] [0] (fun s:CpS=>[(6,ptr s.g 0 0)]) (fun s=>[.row s.g 146 0 [] [.int .i64 x.next,.slice s.a x.slots.length s.c] [],.ow ESlot 247 (.slice s.a x.slots.length s.c) x.slots s.F]) (fun _=>True) ?_ fun s _=>?_
 ·refine d_start [0,1] [8] ?_
  refine dt4 0 1 3 4 ?_
  refine dM 2 7 ?_ ?_
  ·apply o_bs0;rfl;intro _
   refine t_emp ESlot ?_
   refine dk ?_
   refine dM 5 7 ?_ ?_
   ·refine aps one_ESlot scal_ESlot fun a2 c2 F2=>?_
    refine dk ?_
    refine dt 6 ?_
    refine dN 7 ?_
    apply o_alloc;rfl;intro _
    refine dk ?_
    refine dN 8 ?_
    refine oS ?_
    refine dkx ?_
    refine dd ?_
    refine n_join (⟨_,a2,c2,F2⟩:CpS) trivial
   ·apply o_alloc;rfl;intro _
    refine dk ?_
    refine dN 5 ?_
    refine aps one_ESlot scal_ESlot fun a2 c2 F2=>?_
    refine dk ?_
    refine dt 6 ?_
    refine dN 8 ?_
    refine oS ?_
    refine dkx ?_
    refine dd ?_
    refine n_join (⟨_,a2,c2,F2⟩:CpS) trivial
  ·apply o_alloc;rfl;intro _
   refine dk ?_
   refine dN 2 ?_
   apply o_bs0;rfl;intro _
   refine t_emp ESlot ?_
   refine dk ?_
   refine dN 5 ?_
   refine aps one_ESlot scal_ESlot fun a2 c2 F2=>?_
   refine dk ?_
   refine dt 6 ?_
   refine dN 8 ?_
   refine oS ?_
   refine dkx ?_
   refine dd ?_
   refine n_join (⟨_,a2,c2,F2⟩:CpS) trivial
 obtain ⟨gg,a2,c2,F2⟩:=s
 refine t_read (xs:=x.slots) fun F3=>?_
 refine go ?_;intros
 refine t_emp EStr ?_
 refine c_loopS [1,4,5,6] (fun s:RelS=>[(7,.slice s.ae s.es.length s.ce)]) (fun s=>[.row gg 146 0 [] [.int .i64 s.y.next,.slice s.a s.y.slots.length s.c] [],.sl ESlot (.slice s.a s.y.slots.length s.c) s.y.slots s.F,.ow EStr 9 (.slice s.ae s.es.length s.ce) s.es s.Fe]) (GiveOk x n) (fun s=>stepsN s.y.next n) ⟨[],x,a2,c2,F3,_,0,_⟩ ⟨h0,h1,hs,Nat.le_refl _,by simp,rfl,rfl⟩ fun s hC=>?_
 obtain ⟨n0,n1,hit,hln,hle,hw,he⟩:=hC
 refine go ?_;intros
 refine ce (fun w s=>l2Before_c _ _ _ (by omega) (by omega)) ?_
 cases hb:bef s.y.next n
 ·refine goN ?_;intros
  refine closeReceiveWindow s.y ?_
  refine go ?_;intros
  rw [stepsN_no hb] at hw he
  refine cf (l10Release_f s.y _ _ n0 n1 (by omega) hit) fun z hz=>?_
  refine t_app ?_
  refine go ?_;intros
  have hr:=relE_len s.y
  have hzl:z.es.length≤s.y.slots.length:=by rw [hz.2];exact hr
  refine t_read (xs:=z.es) fun F'=>?_
  refine d_start [1] [] ?_
  refine dt2 0 1 ?_
  refine dt 2 ?_
  refine dN 3 ?_
  refine aps one_EStr scal_EStr fun a' c' F2=>?_
  refine dk ?_
  refine dN 4 ?_
  refine oS ?_
  refine dk ?_
  refine dt 5 ?_
  refine dd ?_
  refine go ?_;intros
  refine ret ⟨s.es++z.es,z.y,z.a,z.c,z.F,a',c',F2⟩ ⟨by rw [hz.1,hw];rfl,by rw [hz.2,he,hw];simp [giveE,giveW]⟩ rfl
 have hst:=stepsN_yes hb
 have hmx:(shiftEv s.y.slots).size≤maxLen:=by have:=shiftEv_size hit;unfold maxLen;omega
 refine go ?_;intros
 refine t_emp ESlot ?_
 refine c_if rfl (fun h4=>?_) (fun h4=>?_)
 ·refine atSlot 0 ?_
  rintro hi b o e s1
  rw [e]
  refine go ?_;intros
  cases g1:s.y.slots[0].hav
  ·have hpl1:(⟨#[45]⟩:ByteArray)=shiftEv s.y.slots:=(shiftEv_f hi g1).symm
   refine go ?_;intros
   apply wO
   refine sld 1 fun a5 c5 F5=>?_
   refine go ?_;intros
   rw [hpl1]
   apply wO
   refine ap1 (rep_str _ hmx) one_EStr fun a' c' F'=>?_
   refine go ?_;intros
   refine ce (fun w s=>l2After_c _ _ _ (by omega) (by omega)) ?_
   refine go ?_;intros
   refine n_lp ⟨s.es++[shiftEv s.y.slots],shW s.y,a5,c5,F5,a',c',F'⟩ ⟨(aft_bd _ _).1,(aft_bd _ _).2,fun z hz=>hit z (List.mem_of_mem_drop hz),by simp [shW];omega,by simp [shW];omega,by rw [hw,hst];rfl,by rw [he,hst];simp [giveE,shW]⟩ (by show stepsN (aft s.y.next 1) n < _;omega)
  ·have hz:=hit _ (List.getElem_mem hi)
   have h43:(⟨#[43]⟩:ByteArray).size=1:=rfl
   have hpl2:(⟨#[43]⟩++s.y.slots[0].item:ByteArray)=shiftEv s.y.slots:=(shiftEv_t hi g1).symm
   refine go ?_;intros
   apply wO
   refine sld 1 fun a5 c5 F5=>?_
   refine go ?_;intros
   rw [hpl2]
   apply wO
   refine ap1 (rep_str _ hmx) one_EStr fun a' c' F'=>?_
   refine go ?_;intros
   refine ce (fun w s=>l2After_c _ _ _ (by omega) (by omega)) ?_
   refine go ?_;intros
   refine n_lp ⟨s.es++[shiftEv s.y.slots],shW s.y,a5,c5,F5,a',c',F'⟩ ⟨(aft_bd _ _).1,(aft_bd _ _).2,fun z hz=>hit z (List.mem_of_mem_drop hz),by simp [shW];omega,by simp [shW];omega,by rw [hw,hst];rfl,by rw [he,hst];simp [giveE,shW]⟩ (by show stepsN (aft s.y.next 1) n < _;omega)
 ·have hnil:s.y.slots=[]:=List.eq_nil_of_length_eq_zero (by omega)
  have hpl3:(⟨#[45]⟩:ByteArray)=shiftEv s.y.slots:=by rw [hnil];rfl
  have hd:([]:List Slot)=s.y.slots.drop 1:=by rw [hnil];rfl
  ·refine go ?_;intros
   refine t_read (E:=ESlot) (xs:=[]) fun F6=>?_
   rw [show (Value.slice (some _) 0 0:Value)=Value.slice _ ([]:List Slot).length 0 from rfl]
   rw [hpl3]
   apply wO
   refine ap1 (rep_str _ hmx) one_EStr fun a' c' F'=>?_
   refine go ?_;intros
   refine ce (fun w s=>l2After_c _ _ _ (by omega) (by omega)) ?_
   refine go ?_;intros
   rw [hd]
   refine n_lp ⟨s.es++[shiftEv s.y.slots],shW s.y,_,0,F6,a',c',F'⟩ ⟨(aft_bd _ _).1,(aft_bd _ _).2,fun z hz=>hit z (List.mem_of_mem_drop hz),by simp [shW];omega,by simp [shW];omega,by rw [hw,hst];rfl,by rw [he,hst];simp [giveE,shW]⟩ (by show stepsN (aft s.y.next 1) n < _;omega)
end Go.Proofs.YtgmbfohkpfineaaGreatDoor
namespace Go.Proofs.YtgmbfohkpfineaaGreatDoor

open Go.RowKit
end Go.Proofs.YtgmbfohkpfineaaGreatDoor
namespace Go.Proofs.YtgmbfohkpfineaaGreatDoor
open Go.RowKit
theorem l10Have_f (x:ReceiveWindow) (n:Int) (v:Value) (F:List Nat) (h0:0≤x.next) (h1:x.next≤65535) (h2:0≤n) (h3:n≤65535) :
  Fn Tryz.prog 220 [v,.int .i64 n] [.isv EReceiveWindow v x F] [] (fun (_:Unit)=>True) (fun _=>.bool (takeNo x n)) (fun _=>[]):=by
 have hg:=gp_bd x.next n
 refine enter Tryz.func220 rfl Tryz.ntmps220 fun w0=>?_
 refine openReceiveWindow ?_
 rintro a1 c1 F1 rfl l1
 refine go ?_;intros
 refine ce (fun w s=>l2Gap_c _ _ _ (by omega) (by omega)) ?_
 obtain ⟨k,hk⟩:∃k:Nat,gp x.next n=k:=⟨(gp x.next n).toNat,by omega⟩
 have hh:hasB x n=havAt x.slots k:=by unfold hasB;rw [hk,Int.toNat_natCast]
 rw [hk]
 refine go ?_;intros
 refine ce (fun w s=>l2Before_c _ _ _ (by omega) (by omega)) ?_
 cases g1:bef n x.next
 ·refine go ?_;intros
  refine wg_if rfl rfl (fun h4=>?_) (fun h4=>?_)
  ·refine atSlot (xs:=x.slots) k ?_
   rintro hi2 b2 o2 e s1
   rw [e]
   refine go ?_;intros
   refine ret () trivial ?_
   simp [takeNo,g1,hh,havAt_lt hi2,tup]
  ·refine go ?_;intros
   refine ret () trivial ?_
   simp [takeNo,g1,hh,havAt_ge (show x.slots.length≤k by omega),tup]
 ·refine go ?_;intros
  refine ret () trivial ?_
  simp [takeNo,g1,tup]
theorem aft_aftN (n:Int) (j:Nat):aft (aft n 1) j=aft n ((j+1:Nat):Int):=by unfold aft;omega
theorem aft_zeroN {n:Int} (h0:0≤n) (h1:n≤65535):aft n ((0:Nat):Int)=n:=by unfold aft;omega
theorem rel_next:∀(l:List Slot) (n:Int),0≤n→n≤65535→(rel n l).1=aft n ((rel n l).2.2.length:Nat)
 | [],n,h0,h1=>(aft_zeroN h0 h1).symm
 | s::r,n,h0,h1=>by
  have ih:=rel_next r (aft n 1) (aft_bd _ _).1 (aft_bd _ _).2
  unfold rel
  split
  ·dsimp only
   rw [ih,aft_aftN,List.length_cons]
  ·exact (aft_zeroN h0 h1).symm
theorem give_next:∀(k:Nat) (x:ReceiveWindow),0≤x.next→x.next≤65535→(giveW k x).next=aft x.next (k:Nat)∧0≤(giveW k x).next∧(giveW k x).next≤65535
 | 0,x,h0,h1=>⟨(aft_zeroN h0 h1).symm,h0,h1⟩
 | k+1,x,h0,h1=>by
  obtain ⟨a,b,c⟩:=give_next k (shW x) (aft_bd _ _).1 (aft_bd _ _).2
  unfold giveW
  exact ⟨by rw [a];show aft (aft x.next 1) k=_;rw [aft_aftN],b,c⟩
theorem aft_add (n:Int) (i j:Nat):aft (aft n i) j=aft n ((i+j:Nat):Int):=by unfold aft;omega
theorem giveUp_next (k:Nat) (x:ReceiveWindow) (h0:0≤x.next) (h1:x.next≤65535):(relW (giveW k x)).next=aft x.next ((giveE k x++relE (giveW k x)).length:Nat):=by
 obtain ⟨a,b,c⟩:=give_next k x h0 h1
 have d:(relW (giveW k x)).next=aft (giveW k x).next ((relE (giveW k x)).length:Nat):=rel_next (giveW k x).slots (giveW k x).next b c
 have e:∀(k:Nat) (x:ReceiveWindow),(giveE k x).length=k:=by
  intro k
  induction k with
  | zero=>intro x;rfl
  | succ k ih=>intro x;unfold giveE;rw [List.length_cons,ih]
 rw [d,a,aft_add,List.length_append,e]
theorem gp_aft (n:Int) (j:Nat) (hj:j≤65535):gp n (aft n j)=j:=by unfold gp aft;omega
theorem rel_drop:∀(l:List Slot) (n:Int),(rel n l).2.1=l.drop (rel n l).2.2.length∧havAt (rel n l).2.1 0=false
 | [],n=>⟨rfl,rfl⟩
 | s::r,n=>by
  have ih:=rel_drop r (aft n 1)
  unfold rel
  split
  ·dsimp only
   rw [List.length_cons,List.drop_succ_cons]
   exact ih
  ·rename_i h
   exact ⟨rfl,by simpa [havAt] using h⟩
theorem giveW_drop:∀(k:Nat) (x:ReceiveWindow),(giveW k x).slots=x.slots.drop k
 | 0,_=>rfl
 | k+1,x=>by unfold giveW;rw [giveW_drop k (shW x)];simp [shW,Nat.add_comm]
theorem havAt_drop (l:List Slot) (m i:Nat):havAt (l.drop m) i=havAt l (m+i):=by unfold havAt;rw [List.getElem?_drop]
theorem giveUp_good (k:Nat) (x:ReceiveWindow) (hg:goodRW x=true):goodRW (relW (giveW k x))=true:=by
 have g:=good_of hg
 unfold goodRW at hg
 simp only [Bool.and_eq_true,decide_eq_true_eq] at hg
 obtain ⟨⟨⟨h1,h2⟩,h3⟩,h4⟩:=hg
 obtain ⟨d1,d2⟩:=rel_drop (giveW k x).slots (giveW k x).next
 rw [giveW_drop,List.drop_drop] at d1
 have hs:(relW (giveW k x)).slots=x.slots.drop (k+(rel (giveW k x).next (x.slots.drop k)).2.2.length):=by
  unfold relW;dsimp only;rw [giveW_drop,d1]
 have hn:=giveUp_next k x g.n0 g.n1
 generalize k+(rel (giveW k x).next (x.slots.drop k)).2.2.length=m at hs
 have h0:havAt (relW (giveW k x)).slots 0=false:=d2
 rw [hs] at h0
 have e1:isSer (relW (giveW k x)).next=true:=by rw [hn];exact aft_ser _ _
 have e2:(x.slots.drop m).all okSlot=true:=List.all_eq_true.2 fun z hz=>List.all_eq_true.1 h3 z (List.mem_of_mem_drop hz)
 have e3:ends (x.slots.drop m)=true:=by
  unfold ends
  by_cases hz:(x.slots.drop m).length=0
  ·rw [decide_eq_true hz];rfl
  ·rw [decide_eq_false hz,h0,havAt_drop]
   unfold ends at h4
   rw [List.length_drop] at hz ⊢
   rw [decide_eq_false (show ¬x.slots.length=0 by omega)] at h4
   simp only [Bool.false_or,Bool.and_eq_true] at h4
   rw [show m+(x.slots.length - m - 1)=x.slots.length - 1 by omega,h4.2]
   rfl
 unfold goodRW
 rw [e1,hs,e2,e3,decide_eq_true (by simp;omega)]
 rfl
theorem good_first {x:ReceiveWindow} (hg:goodRW x=true):havAt x.slots 0=false:=by
 unfold goodRW ends at hg
 simp only [Bool.and_eq_true,Bool.or_eq_true,decide_eq_true_eq,Bool.not_eq_true'] at hg
 rcases hg.2 with h|h
 ·exact havAt_ge (by omega)
 ·exact h.1
theorem relE_le (x:ReceiveWindow):(relE x).length≤x.slots.length:=by
 unfold relE
 have:∀(l:List Slot) n,(rel n l).2.2.length≤l.length:=by
  intro l
  induction l with
  | nil=>intro n;exact Nat.le_refl _
  | cons s r ih =>
   intro n
   unfold rel
   split
   ·dsimp only;rw [List.length_cons,List.length_cons];exact Nat.succ_le_succ (ih _)
   ·exact Nat.zero_le _
 exact this _ _
theorem havAt_set (l:List Slot) (k i:Nat) (s:Slot) (hk:k < l.length):havAt (l.set k s) i=if i=k then s.hav else havAt l i:=by
 unfold havAt
 rw [List.getElem?_set]
 by_cases h:k=i
 ·subst h;simp [hk]
 ·rw [if_neg h,if_neg (fun e=>h e.symm)]
theorem putL_len (x:ReceiveWindow) (k:Nat) (s:Slot):(putL x k s).length=max x.slots.length (k+1):=by
 unfold putL;rw [List.length_set,padL_len];omega
theorem putL_at (x:ReceiveWindow) (k:Nat) (s:Slot):havAt (putL x k s) k=s.hav:=by
 unfold putL;rw [havAt_set _ _ _ _ (by rw [padL_len];omega),if_pos rfl]
theorem putL_get (x:ReceiveWindow) (k:Nat) (s:Slot):(putL x k s)[k]?=some s:=by
 unfold putL;rw [List.getElem?_set_self (by rw [padL_len];omega)]
theorem putL_ok {x:ReceiveWindow} {k:Nat} {s:Slot} (hx:x.slots.all okSlot=true) (hs:okSlot s=true):(putL x k s).all okSlot=true:=by
 rw [List.all_eq_true] at hx ⊢
 intro z hz
 unfold putL at hz
 rcases List.mem_or_eq_of_mem_set hz with h|rfl
 ·unfold padL at h
  rcases List.mem_append.1 h with h|h
  ·exact hx z h
  ·rw [(List.mem_replicate.1 h).2];decide
 ·exact hs
theorem putL_last {x:ReceiveWindow} {k:Nat} {s:Slot} (hx:ends x.slots=true) (hs:s.hav=true):havAt (putL x k s) ((putL x k s).length - 1)=true:=by
 rw [putL_len]
 by_cases h:x.slots.length≤k+1
 ·rw [show max x.slots.length (k+1) - 1=k by omega,putL_at];exact hs
 ·unfold putL
  rw [havAt_set _ _ _ _ (by rw [padL_len];omega),if_neg (by omega)]
  unfold ends at hx
  rw [decide_eq_false (by omega)] at hx
  simp only [Bool.false_or,Bool.and_eq_true] at hx
  rw [show max x.slots.length (k+1) - 1=x.slots.length - 1 by omega]
  unfold padL
  rw [show k+1 - x.slots.length=0 by omega]
  simpa using hx.2
theorem rel_good {n:Int} {L:List Slot} (hn:isSer n=true) (ho:L.all okSlot=true) (hl:L.length≤8) (he:havAt L (L.length - 1)=true∨L=[]):goodRW (relW ⟨n,L⟩)=true:=by
 obtain ⟨d1,d2⟩:=rel_drop L n
 have hs:(relW ⟨n,L⟩).slots=L.drop (rel n L).2.2.length:=d1
 obtain ⟨p0,p1⟩:=isSer_iff.1 hn
 have hnx:(relW ⟨n,L⟩).next=aft n ((rel n L).2.2.length:Nat):=rel_next L n p0 p1
 generalize (rel n L).2.2.length=m at hs hnx
 have h0:havAt (relW ⟨n,L⟩).slots 0=false:=d2
 rw [hs] at h0
 have e1:isSer (relW ⟨n,L⟩).next=true:=by rw [hnx];exact aft_ser _ _
 have e2:(L.drop m).all okSlot=true:=List.all_eq_true.2 fun z hz=>List.all_eq_true.1 ho z (List.mem_of_mem_drop hz)
 have e3:ends (L.drop m)=true:=by
  unfold ends
  by_cases hz:(L.drop m).length=0
  ·rw [decide_eq_true hz];rfl
  ·rw [decide_eq_false hz,h0,havAt_drop]
   rw [List.length_drop] at hz ⊢
   rcases he with he|he
   ·rw [show m+(L.length - m - 1)=L.length - 1 by omega,he];rfl
   ·subst he;simp at hz
 unfold goodRW
 rw [e1,hs,e2,e3,decide_eq_true (by simp;omega)]
 rfl
theorem law_take (x:ReceiveWindow) (n:Int) (s:ByteArray):(resTakeItem x n s).2.2=true→goodRW x=true∧isSer n=true∧goodRW (resTakeItem x n s).1=true∧gp x.next (resTakeItem x n s).1.next=((resTakeItem x n s).2.1.length:Nat)∧takeNo (resTakeItem x n s).1 n=true∧(n=x.next→∃r,(resTakeItem x n s).2.1=plus s::r)∧(resTakeItem x n s).2.1.length≤8∧s.size≤8:=by
 unfold resTakeItem
 split
 rotate_left
 ·intro h;cases h
 rename_i h
 intro _
 unfold okTakeItem at h
 simp only [Bool.and_eq_true] at h
 obtain ⟨⟨⟨h1,h2⟩,h3⟩,h4⟩:=h
 have g:=good_of h1
 have p0:=g.n0
 have p1:=g.n1
 have pl:=g.l
 obtain ⟨n0,n1⟩:=isSer_iff.1 h2
 refine ⟨h1,h2,?_⟩
 dsimp only
 cases ht:takeNo x n with
 | true =>
  have eW:takeW x n s=x:=by unfold takeW;rw [ht];rfl
  have eE:takeE x n s=[]:=by unfold takeE;rw [ht];rfl
  rw [eW,eE]
  refine ⟨h1,?_,ht,fun e=>?_,by simp,itm_size h3⟩
  ·unfold gp;simp
  ·subst e
   exfalso
   unfold takeNo at ht
   rw [Bool.or_eq_true] at ht
   rcases ht with h|h
   ·unfold bef gp at h;simp at h;exact absurd h (by decide)
   ·unfold hasB at h
    rw [show gp x.next x.next=0 by unfold gp;omega] at h
    rw [show (0:Int).toNat=0 from rfl,good_first h1] at h
    cases h
 | false =>
  have hk8:gp x.next n < 8:=by unfold takeOk at h4;rw [ht] at h4;simpa using h4
  have hgb:=gp_bd x.next n
  obtain ⟨k,hk⟩:∃k:Nat,gp x.next n=k:=⟨(gp x.next n).toNat,by omega⟩
  have eW:takeW x n s=relW ⟨x.next,putL x k ⟨true,s⟩⟩:=by unfold takeW;rw [ht,decide_eq_true hk8];unfold putW;rw [hk,Int.toNat_natCast];rfl
  have eE:takeE x n s=(rel x.next (putL x k ⟨true,s⟩)).2.2:=by unfold takeE;rw [ht,decide_eq_true hk8];unfold putW;rw [hk,Int.toNat_natCast];rfl
  have hx:x.slots.all okSlot=true∧ends x.slots=true:=by
   unfold goodRW at h1
   simp only [Bool.and_eq_true] at h1
   exact ⟨h1.1.2,h1.2⟩
  have hos:okSlot ⟨true,s⟩=true:=by unfold okSlot;rw [h3];rfl
  have hL:=putL_len x k ⟨true,s⟩
  have hat:=putL_at x k ⟨true,s⟩
  have hget:=putL_get x k ⟨true,s⟩
  have ho:=putL_ok (k:=k) hx.1 hos
  have hla:=putL_last (k:=k) (s:=⟨true,s⟩) hx.2 rfl
  rw [eW,eE]
  generalize putL x k ⟨true,s⟩=L at *
  have hl8:L.length≤8:=by omega
  have hrl:(rel x.next L).2.2.length≤L.length:=by
   have:=relE_le ⟨x.next,L⟩
   unfold relE at this;dsimp only at this;omega
  obtain ⟨d1,d2⟩:=rel_drop L x.next
  have hnx:=rel_next L x.next p0 p1
  have hn:n=aft x.next (k:Nat):=by rw [←hk];unfold gp aft;omega
  refine ⟨rel_good (isSer_iff.2 ⟨p0,p1⟩) ho hl8 (.inl hla),?_,?_,?_,by omega,itm_size h3⟩
  ·show gp x.next (rel x.next L).1=_
   rw [hnx];exact gp_aft _ _ (by omega)
  ·unfold takeNo
   show (bef n (rel x.next L).1 || havAt (rel x.next L).2.1 (gp (rel x.next L).1 n).toNat)=true
   rw [hnx,d1]
   generalize (rel x.next L).2.2.length=m at *
   by_cases hkm:k < m
   ·rw [show bef n (aft x.next (m:Nat))=true by rw [hn];unfold bef btw gp aft;rw [Bool.and_eq_true];simp only [decide_eq_true_eq];omega];rfl
   ·rw [show gp (aft x.next (m:Nat)) n=((k - m:Nat):Int) by rw [hn];unfold gp aft;omega,Int.toNat_natCast,havAt_drop,show m+(k - m)=k by omega,hat]
    simp
  ·intro e
   have hk0:k=0:=by rw [e] at hk;unfold gp at hk;omega
   subst hk0
   cases L with
   | nil=>simp at hget
   | cons z r =>
    simp at hget
    subst hget
    exact ⟨(rel (aft x.next 1) r).2.2,by simp [rel]⟩
theorem rep_s {s:ByteArray} (h:s.size≤maxLen) (w:World):Flat EStr w [.string s] [s] []:=⟨_,[],[],[],by simp,by simp,⟨rfl,h,rfl⟩,rfl,rfl⟩
theorem t_sl {c:Cx} {fr:Fr} {H:List Pc} {Φ:Gl} {α:Type} {E:Elem α} {v:Value} {xs:List α} {F:List Nat} (h:∀a cp,v=.slice a xs.length cp→xs.length≤cp→cp≤9223372036854775807→T c fr H Φ) (hm:.sl E v xs F∈H:=by (repeat (first|exact .head _|apply List.Mem.tail));first|done|fail):T c fr H Φ:=.mk fun ac w s g=>by
 obtain ⟨-,hs⟩:=s.get hm
 obtain ⟨a,cp,rfl⟩:=hs.slice
 obtain ⟨-,h2,h3⟩:=hs.caps
 exact (h a cp rfl h2 (by unfold maxLen at h3;omega)).h ac w s g
theorem t_row {c:Cx} {fr:Fr} {H:List Pc} {Φ:Gl} {α:Type} {E:Elem α} {t g:Nat} {cs:List Value} {xs:List α} {S:List Pc} (hfl:∀w,Flat E w cs xs []) (h:T c fr (.ow E t (.slice (some ⟨g,0,none⟩) xs.length xs.length) xs [g]::S) Φ) (hl:xs.length≤1000000) (hp:Pick H (.row g t 0 [] cs []) S:=by (repeat (first|exact .here|apply Pick.there));first|done|fail):T c fr H Φ:=.mk fun a w s g'=>by
 have s1:=s.pick hp
 have hr:=(s1.on (.row g t 0 [] cs []) (by simp)).2
 have hlen:=(hfl w).len
 refine h.h a w (s1.conv rfl ⟨by simp,.inr ⟨g,xs.length,cs,[],[],rfl,by simpa using hr,Nat.le_refl _,by unfold maxLen;omega,by simpa using hlen,hfl w,rfl⟩⟩ (by simp [Pc.F])) g'
theorem fn_made {P:Program} {f:FuncId} {args:List Value} {A:List Pc} {σ:Type} {C:σ→Prop} {v:σ→Value} {N:σ→Pc}
  (h:∀w,Hol A w→Calls P f args.toArray w fun e w'=>∃s,C s∧e=.returned (v s)∧(N s).P w'∧(∀b∈(N s).F,w.heap.size≤b)∧Below w.heap.size w w'):Fn P f args A [] C v (fun s=>[N s]):=fun w hA _=>by
 refine (h w (by simpa using hA)).mono ?_
 rintro e w' ⟨s,hC,he,hN,hF,hB⟩
 refine ⟨s,hC,he,hol1 hN,⟨by simp,trivial⟩,Keep.ofBelow hB,fun p hp b hb=>?_⟩
 simp at hp
 subst hp
 exact .inl (hF b hb)
def spanL (t:Int) (k:Nat):List Int:=(List.range k).map fun i=>aft t (i:Nat)
theorem spanL_succ (t:Int) (k:Nat):spanL t (k+1)=spanL t k++[aft t (k:Nat)]:=by unfold spanL;rw [List.range_succ,List.map_append];rfl
theorem spanL_len (t:Int) (k:Nat):(spanL t k).length=k:=by unfold spanL;simp
theorem rep_int (n:Int) (w:World):Flat EInt w [.int .i64 n] [n] []:=⟨_,[],[],[],by simp,by simp,⟨rfl,rfl⟩,rfl,rfl⟩
structure SpS where
 k:Nat
 a:Option Addr
 c:Nat
 F:List Nat
theorem span_f (t:Int) (n:Nat) (t0:0≤t) (t1:t≤65535) (hn:n≤65536):Fn Tryz.prog 354 [.int .i64 t,.int .i64 (n:Nat)] [] [] (fun (_:Option Addr × Nat × List Nat)=>True) (fun s=>.slice s.1 (spanL t n).length s.2.1) (fun s=>[.ow EInt 3 (.slice s.1 (spanL t n).length s.2.1) (spanL t n) s.2.2]):=by
 refine enter Tryz.func354 rfl Tryz.ntmps354 fun w0=>?_
 refine go ?_;intros
 refine t_nilow EInt 3 ?_
 refine c_loopS [0,4,7] (fun s:SpS=>[(5,.slice s.a (spanL t s.k).length s.c),(8,.int .i64 (s.k:Nat))]) (fun s=>[.ow EInt 3 (.slice s.a (spanL t s.k).length s.c) (spanL t s.k) s.F]) (fun s=>s.k≤n) (fun s=>n - s.k) ⟨0,none,0,[]⟩ (Nat.zero_le _) fun s hs=>?_
 obtain ⟨k,a,c,F⟩:=s
 dsimp only at hs ⊢
 have hl:=spanL_len t k
 refine go ?_;intros
 refine c_if rfl (fun h1=>?_) (fun h1=>?_)
 ·refine go ?_;intros
  refine ce (fun w s=>after_c _ _ _ (by omega) (by omega)) ?_
  refine go ?_;intros
  apply wO
  refine ap1 (rep_int _) one_EInt fun a2 c2 F2=>?_
  refine go ?_;intros
  rw [←spanL_succ]
  refine n_lp ⟨k+1,a2,c2,F2⟩ (by show k+1≤n;omega) (by show n - (k+1) < n - k;omega)
 ·have hk:k=n:=by omega
  subst hk
  refine go ?_;intros
  refine ret (a,c,F) trivial rfl
section
variable {P:Program} {n:Nat} {fr:Fr} {H:List Pc} {ty:TypeId} {x y z:Operand}
end
section
variable {c:Cx} {fr:Fr} {H:List Pc} {k:List It} {Φ:Gl} {ops:Array Oper} {rest:List Oper} {d:Nat} {o:Op} {ty:TypeId} {v u:Value} {x y:Operand}
theorem o_ms {t e m b:Nat} {z:Value} [hS:SlC c.P t e m] [hE:ElT c.P e z m b] (k:Nat) {kl kc:IntKind} {cs:List Value} (hd:Nat.blt d c.n=true) (hx:ev fr x=some (.int kl (k:Nat))) (hy:ev fr y=some (.int kc (k:Nat))) (hcs:madeCells z.cells (k * m)=cs.toArray) (hb:b * k≤281474976710656) (h63:k≤9223372036854775807)
  (h:∀g,T c ((d,.slice (some ⟨g,0,none⟩) k k)::fr) (.row g e 0 [] cs []::H) Φ):On c fr H (some d) (.makeSlice t x y) ty Φ:=⟨fun _ _ _=>ef_of fun Q a w s g=>by
 obtain ⟨i,hi,hiz⟩:=Option.map_eq_some_iff.1 hE.i
 simp only [Prod.mk.injEq] at hiz
 obtain ⟨i1,i2,i3⟩:=hiz
 have hb':(i.bytes:Int) * ((k:Nat):Int)≤281474976710656:=by rw [i3];have:((b * k:Nat):Int)≤281474976710656:=by omega
                                                            rwa [Int.natCast_mul] at this
 have hr:=run_make (P:=c.P) w t e i z hS.u hi i1 kl kc (k:Nat) (k:Nat) (by omega) (by omega) hb' (by omega)
 simp only [Int.toNat_natCast,i2,hcs] at hr
 have e1:∀pos aft gd,(execOp a.eval ⟨some d,.makeSlice t x y,ty,pos,aft,gd⟩).run c.P w=.ok (.value (.slice (some ⟨w.heap.size,0,none⟩) k k)) (w.alloc (.cells cs.toArray e)):=by
  intro pos aft gd
  simp [execOp,g.ev hx,g.ev hy,hr]
 rw [e1]
 exact (h _).h _ _ (s.new e cs) (g.put hd)⟩
theorem o_callv {fo:Operand} {f:Nat} {caps:List Value} {aS:List Operand} {ts:Array TypeId} {vs:List Value} (hd:Nat.blt d c.n=true) (hf:ev fr fo=some (.func (.func f) #[] caps.toArray)) (hb:bodyB c.P f=true) (ha:Evs fr aS vs) (h:Cl c fr H d f (vs++caps) Φ):On c fr H (some d) (.call { callee:=.value fo,args:=aS.toArray,argTypes:=ts }) ty Φ:=⟨fun _ _ _=>ef_of fun Q a w s g=>by
 have e:∀pos aft gd,(execOp a.eval ⟨some d,.call { callee:=.value fo,args:=aS.toArray,argTypes:=ts },ty,pos,aft,gd⟩).run c.P w=(callFunc f (vs++caps).toArray).run c.P w:=by
  intro pos aft gd
  simp [execOp,resolve,Deferred.ofValue,g.ev hf,invoke,g.evs ha]
 rw [e]
 obtain ⟨R,hc,hk⟩:=h.h w s
 refine (body_of hb).upon hc fun e w' hR=>?_
 obtain ⟨v,he,hv⟩:=hk e w' hR
 exact ⟨v,he,hv _ (g.put hd)⟩⟩
theorem t_rtake {α:Type} {E:Elem α} {a:Option Addr} {n cp:Nat} {xs:List α} {F:List Nat} (k:Nat) (h:∀F',T c fr (.sl E (.slice a (xs.take k).length cp) (xs.take k) F'::H) Φ) (hk:k≤xs.length) (hm:.sl E (.slice a n cp) xs F∈H:=by (repeat (first|exact .head _|apply List.Mem.tail));first|done|fail):T c fr H Φ:=.mk fun ac w s g=>by
 obtain ⟨hz,hs⟩:=s.get hm
 obtain ⟨F',hF,h2⟩:=hs.takeS k hk
 have hl:(xs.take k).length=k:=by simp [Nat.min_eq_left hk]
 have h':=h F'
 rw [hl] at h'
 exact h'.h _ w (s.ro hm rfl rfl ⟨hz,h2⟩ hF) g
end
theorem hsub_refl:∀(H:List Pc),HSub H H
 | []=>.nil
 | _::R=>.cons .here (hsub_refl R)
theorem Flat.all {α:Type} {E:Elem α} {w:World} {cs:List Value} {xs:List α} (h:Flat E w cs xs []) (w':World):Flat E w' cs xs []:=h.frame (by simp)
theorem Flat.cutL {α:Type} {E:Elem α} {w:World} {cs:List Value} {xs:List α} (h:Flat E w cs xs []) (i:Nat) (hi:i≤xs.length):Flat E w (cs.take (i * E.sz)) (xs.take i) []∧Flat E w (cs.drop (i * E.sz)) (xs.drop i) []:=by
 rw [←List.take_append_drop i xs] at h
 obtain ⟨c1,c2,G1,G2,rfl,hG,h1,h2⟩:=h.split
 obtain ⟨rfl,rfl⟩:=List.append_eq_nil_iff.1 hG.symm
 have hl:=h1.len
 rw [List.length_take,Nat.min_eq_left hi] at hl
 rw [List.take_left' hl,List.drop_left' hl]
 exact ⟨h1,h2⟩
theorem Flat.insL {α:Type} {E:Elem α} {w:World} {cs c1:List Value} {xs:List α} {x:α} (h:Flat E w cs xs []) (h1:Flat E w c1 [x] []) (i:Nat) (hi:i≤xs.length):Flat E w (cs.take (i * E.sz)++c1++cs.drop (i * E.sz)) (xs.take i++x::xs.drop i) []:=by
 obtain ⟨ha,hb⟩:=h.cutL i hi
 have:=(ha.append h1).append hb
 simpa using this
section
variable {P:Program} {n:Nat} {fr:Fr} {H:List Pc} {ty:TypeId} {x y z:Operand}
theorem yd_slv {t e m i g o len cp:Nat} {kd:IntKind} {q:Int} [hS:SlC P t e m] (hx:ev fr x=some (.slice (some ⟨g,o,none⟩) len cp)) (hy:ev fr y=some (.int kd q)) (hq:q=(i:Int)) (hi:i≤len) (hc:i < cp) (hlc:len≤cp):Yd P n fr H (.slice t x (some y) none none) ty (.slice (some ⟨g,o+i * m,none⟩) (len - i) (cp - i)):=.mk fun ac w d pos aft gd hA _=>by
 subst hq
 have he2:P.elem t=e:=by simp [Program.elem,hS.u]
 have h3:(Instr.sliceAt t (.slice (some ⟨g,o,none⟩) len cp) (some (.int kd (i:Int))) none none).run P w=.ok (.slice (some ⟨g,o+i * m,none⟩) (len - i) (cp - i)) w:=by
  rw [run_sliceAt_slice (h:=by rw [he2];exact hS.u),run_slice_l (ht:=by rw [he2];exact hS.u) (h0:=by omega) (h1:=by omega),he2,size_of hS.s]
  have h0:¬(cp - i=0):=by omega
  have h0':¬(cp=i):=by omega
  simp [Result.andThen,sliced,h0,h0',Addr.add_lit]
 simp only [execOp,Option.map_none,Option.map_some,hA.ev hx,hA.ev hy,Sem.run_bind,h3,Result.andThen_ok,Sem.run_pure]
theorem yd_cvu {k:IntKind} {a:Int} {s t:TypeId} [hS:IntC P s k] [hD:IntC P t .u64] (hx:ev fr x=some (.int k a)) (h0:0≤a) (h1:a≤18446744073709551615):Yd P n fr H (.convert s t x) ty (.int .u64 a):=.mk fun c w d pos aft gd hA _=>by
 simp [execOp,hA.ev hx,convert,run_underlying hS.u,run_underlying hD.u,Conv.intToInt,IntWalk.u64_in _ ⟨h0,h1⟩]
theorem yd_shr1 {a:Int} {t t':TypeId} (hx:ev fr x=some (.int .u64 a)):Yd P n fr H (.binOp .shr t x (.const (.int .u64 1)) t') ty (.int .u64 (a / 2)):=.mk fun c w d pos aft gd hA _=>by
 have e:Op.shift .shr .u64 a .u64 1=pure (.int .u64 (a / 2)):=by rw [shift_shr .u64 .u64 a 1 (by decide) (by decide)];rfl
 have e2:binOp .shr t (.int .u64 a) (.int .u64 1)=Op.shift .shr .u64 a .u64 1:=rfl
 have e3:c.eval (.const (.int .u64 1))=.int .u64 1:=rfl
 simp only [execOp,hA.ev hx,e3,eqGuard_shr,e2,e,Sem.run_bind,Sem.run_pure,Result.andThen_ok]
theorem yd_cap {a:Option Addr} {len cp t e m:Nat} [hS:SlC P t e m] (hx:ev fr x=some (.slice a len cp)):Yd P n fr H (.call { callee:=.builtin .cap,args:=#[x],argTypes:=#[t] }) ty (.int .i64 cp):=.mk fun ac w d pos aft gd hA _=>by
 simp [execOp,hA.ev hx,resolve,invoke,builtin,Builtin.cap_,run_underlying hS.u,goInt]
end
section
variable {c:Cx} {fr:Fr} {H k':List Pc} {k:List It} {Φ:Gl} {d:Nat} {o:Op} {ty:TypeId} {v u:Value} {x y:Operand}
theorem t_rowof {α:Type} {E:Elem α} (sc:Scal E) {t n cp:Nat} {a:Option Addr} {xs:List α} {F:List Nat} {S:List Pc} (h0:xs≠[])
  (h:∀g cs rest,a=some ⟨g,0,none⟩→n=xs.length→xs.length≤cp→cp≤9223372036854775807→cs.length=xs.length * E.sz→cs.length+rest.length=cp * E.sz→(∀w,Flat E w cs xs [])→T c fr (.row g t 0 [] (cs++rest) []::S) Φ)
  (hp:Pick H (.ow E t (.slice a n cp) xs F) S:=by (repeat (first|exact .here|apply Pick.there));first|done|fail):T c fr H Φ:=.mk fun ac w s g'=>by
 have s1:=s.pick hp
 obtain ⟨hnd,ho⟩:=s1.on (.ow E t (.slice a n cp) xs F) (by simp)
 have hF:=ho.scal sc
 rcases ho with ⟨-,h2, -⟩|⟨g,cap,cs,rest,G,h1,h2,h3,h4,h5,h6,h7⟩
 ·exact absurd h2 h0
 ·cases h1
  have hG:G=[]:=by rw [h7] at hF;simpa [Value.ownBlock] using hF
  subst hG h7
  have hl:=h6.len
  refine (h g cs rest rfl rfl h3 (by unfold maxLen at h4;omega) hl h5 (fun w'=>h6.all w')).h ac w (s1.conv rfl ⟨rfl,by simpa using h2⟩ (by simp [Pc.F])) g'
theorem t_owof {α:Type} {E:Elem α} {t g:Nat} {L cs rest:List Value} {xs:List α} {S:List Pc} (cp:Nat) (hL:L=cs++rest) (hf:∀w,Flat E w cs xs []) (h1:xs.length≤cp) (h2:cp≤9223372036854775807) (h3:L.length=cp * E.sz)
  (h:T c fr (.ow E t (.slice (some ⟨g,0,none⟩) xs.length cp) xs [g]::S) Φ) (hp:Pick H (.row g t 0 [] L []) S:=by (repeat (first|exact .here|apply Pick.there));first|done|fail):T c fr H Φ:=.mk fun ac w s g'=>by
 subst hL
 have s1:=s.pick hp
 have hr:=(s1.on (.row g t 0 [] (cs++rest) []) (by simp)).2
 exact h.h ac w (s1.conv rfl ⟨by simp,.inr ⟨g,cp,cs,rest,[],rfl,by simpa using hr,h1,by unfold maxLen;omega,by simpa using h3,hf w,rfl⟩⟩ (by simp [Pc.F])) g'
theorem o_ext {f:Nat} {aS:List Operand} {ts:Array TypeId} {vs:List Value} (hd:Nat.blt d c.n=true) (ha:Evs fr aS vs) (hv:∀w,St c.G c.D c.w0 H w→(callFunc f vs.toArray).run c.P w=.ok (.value v) w) (h:T c ((d,v)::fr) H Φ):On c fr H (some d) (.call { callee:=.value (.func f),args:=aS.toArray,argTypes:=ts }) ty Φ:=⟨fun _ _ _=>ef_of fun Q a w s g=>by
 have e:∀pos aft gd,(execOp a.eval ⟨some d,.call { callee:=.value (.func f),args:=aS.toArray,argTypes:=ts },ty,pos,aft,gd⟩).run c.P w=.ok (.value v) w:=by
  intro pos aft gd
  simp [execOp,resolve,Deferred.ofValue,Act.eval,invoke,g.evs ha,hv w s]
 rw [e]
 exact h.h _ _ s (g.put hd)⟩
theorem shape_row {w:World} {g:Nat} {t:TypeId} {cs:List Value} (h:Row w g t cs):w.shape? g=some (t,cs.length):=by
 unfold World.shape?;rw [show w.heap[g]?=_ from h];simp
theorem ovl {f:Nat} {tS tR e m:Nat} [hS:SlC c.P tS e m] {g o g2 o2 la ca lb cb t1 t2:Nat} {L L2:List Value}
  (he:∀(args:Array Value) (w:World),(callFunc f args).run c.P w=((Extern.SlicesOverlaps.overlaps #[tS,tS] #[tR] args).run c.P w).andThen fun v w=>.ok (.value v) w)
  (h1:Pick H (.row g t1 0 [] L []) k') (h2:.row g2 t2 0 [] L2 []∈k') (hL:L2≠[]) (w:World) (s:St c.G c.D c.w0 H w) :
  (callFunc f [Value.slice (some ⟨g,o,none⟩) la ca,.slice (some ⟨g2,o2,none⟩) lb cb].toArray).run c.P w=.ok (.value (.bool false)) w:=by
 have s1:=s.pick h1
 have r1:=(s1.on (.row g t1 0 [] L []) (by simp)).2
 have r2:=(s1.on (.row g2 t2 0 [] L2 []) (by simp [h2])).2
 have hne:g≠g2:=fun e'=>s1.sep.1 (.row g2 t2 0 [] L2 []) h2 (by simp [Pc.mu]) g (by simp [Pc.F]) (by simp [Pc.F,e'])
 simp only [List.nil_append,List.append_nil] at r1 r2
 rw [he,Lib.run_overlaps_apart w tS tR e hS.u m (fun w=>size_of hS.s w) ⟨g,o,none⟩ ⟨g2,o2,none⟩ la ca lb cb hne t1 t2 L.length L2.length (shape_row r1) (shape_row r2) (by simpa using hL) (r1.frozen _) (r1.frozen _)]
 rfl
theorem cpyM {P M Q d L:List Value} {o:Nat} (hL:L=P++M++Q) (ho:o=P.length) (hd:M.length=d.length):P++d++Q=L.take o++d++L.drop (o+d.length):=by
 subst hL ho
 rw [List.append_assoc P M Q,List.take_left,←hd,←List.append_assoc,←List.length_append,List.drop_left]
theorem shiftL {B R:List Value} (m:Nat) (h:m≤R.length):∃X Y,B++R=X++Y++R.drop m∧X.length=m∧Y.length=B.length:=by
 refine ⟨(B++R).take m,((B++R).drop m).take B.length,?_,by simp;omega,by simp;omega⟩
 have:R.drop m=((B++R).drop m).drop B.length:=by rw [List.drop_drop,Nat.add_comm,←List.drop_drop,List.drop_left]
 rw [this,List.append_assoc,List.take_append_drop,List.take_append_drop]
theorem src_row {g t o m:Nat} {L cs:List Value} (h1:.row g t 0 [] L []∈H) (hc:cs=(L.drop o).take m) (w:World) (s:St c.G c.D c.w0 H w):∀j u,cs[j]?=some u→w.cell? ((⟨g,o,none⟩:Addr).add j)=some u:=fun j u hu=>by
 subst hc
 have r1:=(s.on (.row g t 0 [] L []) h1).2
 simp only [List.nil_append,List.append_nil] at r1
 rw [Addr.add_lit,r1.cell]
 rw [List.getElem?_take] at hu
 split at hu
 ·rw [List.getElem?_drop] at hu;exact hu
 ·cases hu
theorem run_copyN {P:Program} (w:World) (dT sT ty elem m:TypeId) (b o dLen dCap:Nat) (a:Addr) (sLen sCap:Nat) (cs:List Value)
  (hu:P.underlying dT=some (.slice elem)) (hs:(P.info? elem).map (·.size)=some m) (hn:cs.length=Nat.min sLen dLen * m)
  (hsrc:∀j v,cs[j]?=some v→w.cell? (a.add j)=some v) (hc:∀j,j < cs.length→(w.cell? ⟨b,o+j,none⟩).isSome=true) (hf:∀j,j < cs.length→w.frozen? ⟨b,o+j,none⟩=false) (h1:∀v∈cs,v.oneCell'=true) :
  (Builtin.copy_ #[dT,sT] ty #[.slice (some ⟨b,o,none⟩) dLen dCap,.slice (some a) sLen sCap]).run P w=.ok (goInt (Nat.min sLen dLen:Nat)) (w.setCells b o cs):=by
 have hl:=run_loadCells_list (P:=P) w a cs hsrc
 have hst:=run_storeCells_cells (P:=P) b o cs 0 w (by simpa using hc) (by simpa using hf) h1
 cases hq:P.info? elem with
 | none=>simp [hq] at hs
 | some i =>
  have hi:i.size=m:=by simpa [hq] using hs
  simp [Builtin.copy_,run_underlying hu,Builtin.lenOf,Builtin.firstCells,sizeOf,typeInfo,hq,hi,←hn,hl,hst]
theorem o_cpy {dT sT e m g t oo dn dc sn sc:Nat} {ad:Addr} {L L' cs:List Value} {S:List Pc} [hS:SlC c.P dT e m] (hd:Nat.blt d c.n=true) (hx:ev fr x=some (.slice (some ⟨g,oo,none⟩) dn dc)) (hy:ev fr y=some (.slice (some ad) sn sc))
  (hsrc:∀w,St c.G c.D c.w0 H w→∀j u,cs[j]?=some u→w.cell? (ad.add j)=some u) (hr:Rpl H (.row g t 0 [] L []) (.row g t 0 [] L' []) S)
  (hL:L'=L.take oo++cs++L.drop (oo+cs.length)) (hn:cs.length=Nat.min sn dn * m) (hfit:oo+cs.length≤L.length) (h1:∀v∈cs,v.oneCell'=true) (h:T c ((d,.int .i64 (Nat.min sn dn:Nat))::fr) S Φ) :
  On c fr H (some d) (.call { callee:=.builtin .copy,args:=#[x,y],argTypes:=#[dT,sT] }) ty Φ:=⟨fun _ _ _=>ef_of fun Q a w s ag=>by
 have hP:(Pc.row g t 0 [] L []).P w:=by obtain ⟨R,h1,_⟩:=hr.picks;exact s.on _ h1.mem
 have r1:=hP.2
 simp only [List.nil_append,List.append_nil] at r1
 have hrun:=fun ty=>run_copyN (P:=c.P) w dT sT ty e m g oo dn dc ad sn sc cs hS.u hS.s hn (hsrc w s) (fun j hj=>by rw [r1.cell,List.getElem?_eq_getElem (by omega)];rfl) (fun j hj=>r1.frozen _) h1
 have e1:∀pos aft gd,(execOp a.eval ⟨some d,.call { callee:=.builtin .copy,args:=#[x,y],argTypes:=#[dT,sT] },ty,pos,aft,gd⟩).run c.P w=.ok (.value (goInt (Nat.min sn dn:Nat))) (w.setCells g oo cs):=by
  intro pos aft gd
  simp only [execOp,resolve,invoke,builtin,Sem.run_bind,Sem.run_pure,Result.andThen_ok,List.map_toArray,List.map_cons,List.map_nil,ag.ev hx,ag.ev hy,hrun]
 rw [e1]
 have hsplit:L=L.take oo++(L.drop oo).take cs.length++L.drop (oo+cs.length):=by
  rw [←List.drop_drop,List.append_assoc,List.take_append_drop,List.take_append_drop]
 have r2:=r1
 rw [hsplit] at r2
 have r3:=Row.put cs _ r2 (p:=oo) (by simp;omega) (by simp;omega)
 have hk:=putCells_keep (g:=g) cs w oo
 rw [putCells_eq w g cs w] at r3 hk
 rw [←hL] at r3
 refine h.h _ _ (s.rpl hr rfl (fun b hb=>.inl hb) hk ⟨rfl,by simpa using r3⟩) (ag.put hd)⟩
theorem o_apgz {t tn e m b g oo n cp k:Nat} {zv:Value} {olds:List Value} {q:Int} [hS:SlC c.P t e m] [hE:ElT c.P e zv m b] [hI:IntC c.P tn .i64] (hd:Nat.blt d c.n=true) (hx:ev fr x=some (.slice (some ⟨g,oo,none⟩) n cp)) (hy:ev fr y=some (.int .i64 q)) (hq:q=(k:Int))
  (hso:∀w,St c.G c.D c.w0 H w→∀j u,olds[j]?=some u→w.cell? ((⟨g,oo,none⟩:Addr).add j)=some u)
  (hlo:olds.length=n * m) (hm:0 < m) (hk:0 < k) (hg:cp < n+k) (h63:n+k≤4294967296) (hby:(n+k) * b≤140737488355328)
  (h:∀g' cp' Z rest,n+k≤cp'→cp'≤9223372036854775807→Z.length=k * m→(olds++Z++rest).length=cp' * m→T c ((d,.slice (some ⟨g',0,none⟩) ((n+k:Nat)) cp')::fr) (.row g' e 0 [] (olds++Z++rest) []::H) Φ) :
  On c fr H (some d) (.call { callee:=.builtin .append,args:=#[x,y],argTypes:=#[t,tn] }) ty Φ:=⟨fun _ _ _=>ef_of fun Q a w s ag=>by
 subst hq
 obtain ⟨i,hi,hiz⟩:=Option.map_eq_some_iff.1 hE.i
 simp only [Prod.mk.injEq] at hiz
 obtain ⟨i1,i2,i3⟩:=hiz
 subst i2 i3
 have hold:(Builtin.firstCells i.size n (.slice (some ⟨g,oo,none⟩) n cp)).run c.P w.drew=.ok olds.toArray w.drew:=run_firstCells_some w.drew i.size n ⟨g,oo,none⟩ n cp olds hlo (fun j v hj=>hso w s j v hj)
 have hr:=fun ty=>Lib.run_append_grow_zeros (P:=c.P) w t tn ty e i zv .i64 .i64 hS.u hI.u hi i1 (some ⟨g,oo,none⟩) n cp olds hold k hk hm hg (by omega) (Nat.le_trans (Nat.mul_le_mul_right _ (by omega)) (Nat.le_trans hby (by decide))) (growslice_fits hg hby)
 have e1:∀pos aft gd,(execOp a.eval ⟨some d,.call { callee:=.builtin .append,args:=#[x,y],argTypes:=#[t,tn] },ty,pos,aft,gd⟩).run c.P w=.ok (.value (.slice (some ⟨w.heap.size,0,none⟩) (n+k) (grownCap w (n+k) cp e))) (w.drew.alloc (.cells (olds.toArray++Builtin.zeroCells zv.cells k++Builtin.zeroCells zv.cells (grownCap w (n+k) cp e - (n+k))) e)):=by
  intro pos aft gd
  simp only [execOp,resolve,invoke,builtin,Sem.run_bind,Sem.run_pure,Result.andThen_ok,List.map_toArray,List.map_cons,List.map_nil,ag.ev hx,ag.ev hy,hr]
 rw [e1]
 have hge:=grownCap_ge w (n+k) cp e
 have hle:=grownCap_le_maxLen w (n+k) cp e (by unfold maxLen;omega)
 have hBel:Below w.heap.size w (w.drew.alloc (.cells (olds.toArray++Builtin.zeroCells zv.cells k++Builtin.zeroCells zv.cells (grownCap w (n+k) cp e - (n+k))) e)):=(belowDrewN (Below.refl w.heap.size w) 1).alloc (Nat.le_refl _) _
 have hz:∀q,(Builtin.zeroCells zv.cells q).toList.length=q * i.size:=fun q=>by rw [zeroCells_len,hE.s]
 refine (h w.heap.size (grownCap w (n+k) cp e) (Builtin.zeroCells zv.cells k).toList (Builtin.zeroCells zv.cells (grownCap w (n+k) cp e - (n+k))).toList hge (by unfold maxLen at hle;omega) (hz k) ?_).h _ _ (s.add (N:=[.row w.heap.size e 0 [] (olds++(Builtin.zeroCells zv.cells k).toList++(Builtin.zeroCells zv.cells (grownCap w (n+k) cp e - (n+k))).toList) []]) hBel ?_ ⟨by simp,trivial⟩ ?_) (ag.put hd)
 ·rw [List.length_append,List.length_append,hz,hz,hlo,←Nat.add_mul,←Nat.add_mul];congr 1;omega
 ·intro p hp
  rw [List.mem_singleton] at hp;subst hp
  refine ⟨rfl,?_⟩
  have:=Row.made w.drew e (olds++(Builtin.zeroCells zv.cells k).toList++(Builtin.zeroCells zv.cells (grownCap w (n+k) cp e - (n+k))).toList)
  rw [List.nil_append,List.append_nil]
  have e2:(olds++(Builtin.zeroCells zv.cells k).toList++(Builtin.zeroCells zv.cells (grownCap w (n+k) cp e - (n+k))).toList).toArray=olds.toArray++Builtin.zeroCells zv.cells k++Builtin.zeroCells zv.cells (grownCap w (n+k) cp e - (n+k)):=by apply Array.ext';simp
  rw [e2] at this
  exact this
 ·intro p hp b hb
  rw [List.mem_singleton] at hp;subst hp
  simp [Pc.F] at hb;subst hb
  exact .inl (Nat.le_refl _)⟩
theorem o_slany {t e m n cp i:Nat} {a:Option Addr} {q:Int} [hS:SlC c.P t e m] (hd:Nat.blt d c.n=true) (hx:ev fr x=some (.slice a n cp)) (hy:ev fr y=some (.int .i64 q)) (hq:q=(i:Int)) (hi:i≤n) (h:∀v,T c ((d,v)::fr) H Φ) (hlc:n≤cp:=by omega):On c fr H (some d) (.slice t x (some y) none none) ty Φ:=⟨fun _ _ _=>ef_of fun Q ac w s g=>by
 subst hq
 have he2:=elem_of hS
 obtain ⟨v,h3⟩:∃v,(Instr.sliceAt t (.slice a n cp) (some (.int .i64 (i:Int))) none none).run c.P w=.ok v w:=by
  rw [run_sliceAt_slice (h:=by rw [he2];exact hS.u),run_slice_l (ht:=by rw [he2];exact hS.u) (h0:=by omega) (h1:=by omega),he2,size_of hS.s]
  exact ⟨_,rfl⟩
 have e1:∀pos aft gd,(execOp ac.eval ⟨some d,.slice t x (some y) none none,ty,pos,aft,gd⟩).run c.P w=.ok (.value v) w:=by
  intro pos aft gd
  simp only [execOp,Option.map_none,Option.map_some,g.ev hx,g.ev hy,Sem.run_bind,h3,Result.andThen_ok,Sem.run_pure]
 rw [e1]
 exact (h v).h _ w s (g.put hd)⟩
end
section
variable {P:Program} {n:Nat} {fr:Fr} {H:List Pc} {ty:TypeId}
theorem yd_fnb {f:Nat} {bs caps:List Operand} {us vs:List Value} (hb:Evs fr bs us) (hc:Evs fr caps vs):Yd P n fr H (.makeFunc (.func f) bs.toArray caps.toArray) ty (.func (.func f) us.toArray vs.toArray):=.mk fun c w d pos aft gd hA _=>by
 simp [execOp,Instr.makeFunc,hA.evs hb,hA.evs hc]
end
section
variable {c:Cx} {fr:Fr} {H:List Pc} {k:List It} {Φ:Gl} {d:Nat} {ty:TypeId} {x:Operand}
theorem o_callb {fo:Operand} {f:Nat} {bd caps:List Value} {aS:List Operand} {ts:Array TypeId} {vs:List Value} (hd:Nat.blt d c.n=true) (hf:ev fr fo=some (.func (.func f) bd.toArray caps.toArray)) (hb:bodyB c.P f=true) (ha:Evs fr aS vs) (h:Cl c fr H d f (bd++vs++caps) Φ):On c fr H (some d) (.call { callee:=.value fo,args:=aS.toArray,argTypes:=ts }) ty Φ:=⟨fun _ _ _=>ef_of fun Q a w s g=>by
 have e:∀pos aft gd,(execOp a.eval ⟨some d,.call { callee:=.value fo,args:=aS.toArray,argTypes:=ts },ty,pos,aft,gd⟩).run c.P w=(callFunc f (bd++vs++caps).toArray).run c.P w:=by
  intro pos aft gd
  simp [execOp,resolve,Deferred.ofValue,g.ev hf,invoke,g.evs ha]
 rw [e]
 obtain ⟨R,hc,hk⟩:=h.h w s
 refine (body_of hb).upon hc fun e w' hR=>?_
 obtain ⟨v,he,hv⟩:=hk e w' hR
 exact ⟨v,he,hv _ (g.put hd)⟩⟩
theorem t_head {α:Type} {E:Elem α} (sc:Scal E) {t n cp:Nat} {a:Option Addr} {xs:List α} {F:List Nat} (h0:xs≠[])
  (h:∀g,a=some ⟨g,0,none⟩→F=[g]→n=xs.length→n≤cp→cp≤9223372036854775807→T c fr H Φ) (hm:.ow E t (.slice a n cp) xs F∈H:=by (repeat (first|exact .head _|apply List.Mem.tail));first|done|fail):T c fr H Φ:=.mk fun ac w s g'=>by
 obtain ⟨hnd,ho⟩:=s.get hm
 have hF:=ho.scal sc
 rcases ho with ⟨-,h2, -⟩|⟨g,cap,cs,rest,G,h1,h2,h3,h4,h5,h6,h7⟩
 ·exact absurd h2 h0
 ·cases h1
  exact (h g rfl (by simpa [Value.ownBlock] using hF) rfl h3 (by unfold maxLen at h4;omega)).h ac w s g'
theorem Flat.rep0 {α:Type} {E:Elem α} {w:World} {zs:List Value} {z:α} (h:E.rep w zs z []):∀n,Flat E w (List.replicate n zs).flatten (List.replicate n z) []
 | 0=>⟨rfl,rfl⟩
 | n+1=>⟨zs,(List.replicate n zs).flatten,[],[],by simp [List.replicate_succ],by simp,h,Flat.rep0 h n⟩
theorem zeroCells_flat (z:Array Value) (n:Nat):(Builtin.zeroCells z n).toList=(List.replicate n z.toList).flatten:=by
 have:=madeCells_flat z n
 exact this
theorem o_clr {α:Type} {E:Elem α} (sc:Scal E) {t e m b g n cp i:Nat} {zv:Value} {z0:α} [hS:SlC c.P t e m] [hE:ElT c.P e zv m b] (hz:∀w,E.rep w zv.cells.toList z0 []) (one:∀u∈zv.cells,u.oneCell'=true) (hm:E.sz=m) {xs:List α} {F:List Nat} {S:List Pc}
  (hx:ev fr x=some (.slice (some ⟨g,0+i * m,none⟩) (n - i) (cp - i))) (hi:i < n) (hn:n=xs.length) (hp:Pick H (.ow E e (.slice (some ⟨g,0,none⟩) n cp) xs F) S) (h:T c fr (.ow E e (.slice (some ⟨g,0,none⟩) n cp) (xs.take i++List.replicate (n - i) z0) F::S) Φ) :
  On c fr H none (.call { callee:=.builtin .clear,args:=#[x],argTypes:=#[t] }) ty Φ:=⟨fun _ _ _=>ef_of fun Q a w s ag=>by
 subst hm
 have s1:=s.pick hp
 obtain ⟨hnd,ho⟩:=s1.on (.ow E e (.slice (some ⟨g,0,none⟩) n cp) xs F) (by simp)
 have hF:=ho.scal sc
 rcases ho with ⟨h1, -, -⟩|⟨g2,cap,cs,rest,G,h1,h2,h3,h4,h5,h6,h7⟩
 ·cases h1
 cases h1
 have hG:G=[]:=by rw [h7] at hF;simpa [Value.ownBlock] using hF
 subst hG h7
 have hl:=h6.len
 obtain ⟨f1,f2⟩:=h6.cutL i (by omega)
 have hcs:=List.take_append_drop (i * E.sz) cs
 have hd1:(cs.take (i * E.sz)).length=i * E.sz:=by have:=f1.len;rw [List.length_take (l:=xs),Nat.min_eq_left (by omega)] at this;exact this
 have hd2:(cs.drop (i * E.sz)).length=(xs.length - i) * E.sz:=by have:=f2.len;rwa [List.length_drop (l:=xs)] at this
 have hr:=fun ty=>run_clear_rows (P:=c.P) w t e ty zv hS.u (zeroValue_of hE.i) one g (0+i * E.sz) (xs.length - i) (cp - i) (by omega)
  (fun j hj=>by rw [hE.s] at hj;rw [h2.cell,List.getElem?_eq_getElem (by rw [List.length_append,←hcs,List.length_append,hd1,hd2];omega)];rfl) (fun j _=>h2.frozen _)
 have e1:∀pos aft gd,(execOp a.eval ⟨none,.call { callee:=.builtin .clear,args:=#[x],argTypes:=#[t] },ty,pos,aft,gd⟩).run c.P w=.ok (.value (.tuple #[])) (w.setCells g (0+i * E.sz) (Builtin.zeroCells zv.cells (xs.length - i)).toList):=by
  intro pos aft gd
  simp only [execOp,resolve,invoke,builtin,Sem.run_bind,Sem.run_pure,Result.andThen_ok,List.map_toArray,List.map_cons,List.map_nil,ag.ev hx,hr]
 rw [e1]
 have hzl:(Builtin.zeroCells zv.cells (xs.length - i)).toList.length=(xs.length - i) * E.sz:=by rw [zeroCells_len,hE.s]
 have R0:Row w g e (cs.take (i * E.sz)++cs.drop (i * E.sz)++rest):=by rw [hcs];exact h2
 have R1:=Row.put (Builtin.zeroCells zv.cells (xs.length - i)).toList _ R0 (p:=0+i * E.sz) (by omega) (by rw [hzl,hd2])
 have hk:=putCells_keep (g:=g) (Builtin.zeroCells zv.cells (xs.length - i)).toList w (0+i * E.sz)
 rw [putCells_eq w g] at R1 hk
 have hW:(Pc.ow E e (.slice (some ⟨g,0,none⟩) xs.length cp) (xs.take i++List.replicate (xs.length - i) z0) [g]).P (w.setCells g (0+i * E.sz) (Builtin.zeroCells zv.cells (xs.length - i)).toList):=by
  have hll:(xs.take i++List.replicate (xs.length - i) z0).length=xs.length:=by rw [List.length_append,List.length_take,List.length_replicate];omega
  have hfl:Flat E (w.setCells g (0+i * E.sz) (Builtin.zeroCells zv.cells (xs.length - i)).toList) (cs.take (i * E.sz)++(Builtin.zeroCells zv.cells (xs.length - i)).toList) (xs.take i++List.replicate (xs.length - i) z0) []:=by
   rw [zeroCells_flat]
   exact (f1.all _).append (Flat.rep0 (hz _) _)
  refine ⟨by simp,.inr ⟨g,cp,cs.take (i * E.sz)++(Builtin.zeroCells zv.cells (xs.length - i)).toList,rest,[],by rw [hll],R1,by rw [hll];exact h3,h4,?_,hfl,rfl⟩⟩
  rw [List.length_append,hzl,hd1,←Nat.add_mul]
  rw [←h5,hl]
  congr 2
  omega
 exact h.h _ _ (St.turn (M:=[.ow E e (.slice (some ⟨g,0,none⟩) xs.length cp) xs [g]]) (N:=[.ow E e (.slice (some ⟨g,0,none⟩) xs.length cp) (xs.take i++List.replicate (xs.length - i) z0) [g]]) s1 (by simpa [List.filter,Pc.mu,fp,Pc.F] using hk) (by intro q hq;rw [List.mem_singleton] at hq;subst hq;exact hW) ⟨by simp,trivial⟩ (by
   intro q hq b hb
   rw [List.mem_singleton] at hq;subst hq
   exact .inr (.inl ⟨_,List.mem_singleton.2 rfl,rfl,hb⟩))) ag⟩
end
theorem IdxInt_f (fid:FuncId) (bd caps:List Value) (A:List Pc) (hA:A.all (fun p=>!p.mu)=true) (xs:List Int) (a:Option Addr) (c:Nat) (F:List Nat) (p:Int→Bool) (hb:bodyB Tryz.prog fid=true) (hl:xs.length≤1000000000)
  (hp:∀x∈xs,∀w,Hol A w→Calls Tryz.prog fid (bd++[(.int .i64 x:Value)]++caps).toArray w fun e w'=>e=.returned (.bool (p x))∧Below w.heap.size w w') :
  Fn Tryz.prog 324 [.slice a xs.length c,.func (.func fid) bd.toArray caps.toArray] (.sl EInt (.slice a xs.length c) xs F::A) [] (fun (_:Unit)=>True) (fun _=>.int .i64 (fidx p xs)) (fun _=>[]):=by
 refine enter Tryz.func324 rfl Tryz.ntmps324 (fun w0=>?_) rfl (by simpa [Pc.mu] using hA) .nil
 refine go ?_;intros
 refine c_loopR [0,1,4,7] (fun k:Nat=>[(8,.int .i64 (k:Nat))]) (fun k=>k≤xs.length∧∀j (_:j < k) (hj:j < xs.length),p xs[j]=false) (fun k=>xs.length - k) 0 ⟨Nat.zero_le _,fun j h=>by omega⟩ fun k hk=>?_
 obtain ⟨hk1,hk2⟩:=hk
 refine go ?_;intros
 refine c_if rfl (fun h5=>?_) (fun h5=>?_)
 ·have hh:k < xs.length:=by omega
  refine go ?_;intros
  refine at_int (xs:=xs) k ?_
  rintro hi b o e
  rw [e]
  refine go ?_;intros
  apply wO
  refine o_callb rfl rfl hb evsE ?_
  refine cb (fun w st=>hp xs[k] (List.getElem_mem hh) w (fun q hq=>st.on q (by simp [hq]))) ?_
  cases hpk:p xs[k]
  ·refine go ?_;intros
   refine t_drop ?_
   refine n_lp (hH:=hsub_refl _) (k+1) ⟨hh,fun j hj h=>?_⟩ (by omega)
   rcases Nat.lt_or_eq_of_le (Nat.lt_succ_iff.1 hj) with h2|rfl
   ·exact hk2 j h2 h
   ·exact hpk
  ·refine go ?_;intros
   refine ret () trivial ?_
   rw [fidx_hit hh hk2 hpk];rfl
 ·obtain rfl:k=xs.length:=by omega
  refine go ?_;intros
  refine ret () trivial ?_
  rw [fidx_none (fun j hj=>hk2 j hj hj)];rfl
structure DfInt where
 i:Nat
 j:Nat
 zs:List Int
theorem DelInt_f (fid:FuncId) (bd caps:List Value) (A:List Pc) (hA:A.all (fun p=>!p.mu)=true) (xs:List Int) (a:Option Addr) (c:Nat) (F:List Nat) (p:Int→Bool) (hb:bodyB Tryz.prog fid=true) (hl:xs.length≤1000000000)
  (hp:∀x∈xs,∀w,Hol A w→Calls Tryz.prog fid (bd++[(.int .i64 x:Value)]++caps).toArray w fun e w'=>e=.returned (.bool (p x))∧Below w.heap.size w w') :
  Fn Tryz.prog 303 [.slice a xs.length c,.func (.func fid) bd.toArray caps.toArray] A [.ow EInt 3 (.slice a xs.length c) xs F] (fun (_:Option Addr × Nat × List Nat)=>True)
   (fun z=>.slice z.1 (xs.filter fun x=>!p x).length z.2.1) (fun z=>[.ow EInt 3 (.slice z.1 (xs.filter fun x=>!p x).length z.2.1) (xs.filter fun x=>!p x) z.2.2]):=by
 refine enter Tryz.func303 rfl Tryz.ntmps303 (fun w0=>?_) rfl (by simpa [Pc.mu] using hA) (.cons .nil)
 refine go ?_;intros
 refine cb (fun w st=>by
  obtain ⟨Fw, -,hw⟩:=(st.get (p:=.ow EInt 3 (.slice a xs.length c) xs F) (by simp)).2.read
  refine (IdxInt_f fid bd caps A hA xs a c Fw p hb hl hp).val w ?_ (by simpa [Pc.mu] using hA)
  intro q hq
  rcases List.mem_cons.1 hq with rfl|hq
  ·exact ⟨by decide,hw⟩
  ·exact st.on q (by simp [hq])) ?_
 by_cases hany:xs.any p=true
 ·obtain ⟨i0,hi0,hfx,hpi,hfl⟩:=fidx_some hany
  rw [hfx]
  refine t_head (xs:=xs) scal_EInt (by rintro rfl;simp at hi0) ?_
  rintro g rfl rfl - hc1 hc2
  refine go ?_;intros
  refine c_loopS [0,1,4] (fun s:DfInt=>[(5,.int .i64 (s.i:Nat)),(6,.int .i64 (s.j:Nat))]) (fun s=>[.ow EInt 3 (.slice (some ⟨g,0,none⟩) xs.length c) s.zs [g]]) (fun s=>s.zs.length=xs.length∧s.j≤xs.length∧s.i < s.j∧s.zs.take s.i=(xs.take s.j).filter (fun x=>!p x)∧s.zs.drop s.j=xs.drop s.j) (fun s=>xs.length - s.j) ⟨i0,i0+1,xs⟩ ⟨rfl,hi0,Nat.lt_succ_self _,by rw [filter_take_no hi0 (by simp [hpi]),hfl],rfl⟩ fun s hs=>?_
  obtain ⟨i,j,zs⟩:=s
  obtain ⟨h1,h2,h3,h4,h5⟩:=hs
  dsimp only at h1 h2 h3 h4 h5 ⊢
  refine go ?_;intros
  refine c_if rfl (fun h6=>?_) (fun h6=>?_)
  ·have hj:j < xs.length:=by omega
   have hjz:j < zs.length:=by omega
   have hx:zs[j]=xs[j]:=by
    have a1:=List.drop_eq_getElem_cons hjz
    have a2:=List.drop_eq_getElem_cons hj
    rw [h5,a2] at a1
    exact (List.cons.inj a1).1.symm
   have hdz:zs.drop (j+1)=xs.drop (j+1):=by
    rw [←List.drop_drop,h5,List.drop_drop]
   refine go ?_;intros
   refine focF (m:=1) scal_EInt j ?_ (by repeat (first|exact .here|apply Pick.there)) rfl hjz
   rintro _ g2 A2 cs2 B2 e1 e2 hc3 hh
   cases e1
   obtain ⟨rfl, -⟩:=hc3 w0
   refine go ?_;intros
   refine unfF zs[j] hh hc3 ?_
   rw [List.set_getElem_self,hx]
   apply wO
   refine o_callb rfl rfl hb evsE ?_
   refine cb (fun w st=>hp xs[j] (List.getElem_mem hj) w (fun q hq=>st.on q (by simp [hq]))) ?_
   cases hpj:p xs[j]
   ·refine go ?_;intros
    refine focF (m:=1) scal_EInt i ?_ (by repeat (first|exact .here|apply Pick.there)) rfl (by omega)
    rintro _ g3 A3 cs3 B3 e1 e2 hc4 hh3
    cases e1
    obtain ⟨rfl, -⟩:=hc4 w0
    refine go ?_;intros
    refine unfF xs[j] hh3 (fun w=>⟨rfl,rfl⟩) ?_
    refine n_lp (hH:=hsub_refl _) (⟨i+1,j+1,zs.set i xs[j]⟩:DfInt) ⟨by simp [h1],hj,Nat.succ_lt_succ h3,?_,?_⟩ (by dsimp only;omega)
    ·dsimp only
     rw [filter_take_yes hj (by simp [hpj]),←h4,List.take_add_one,List.getElem?_set_self (by omega),List.take_set_of_le (Nat.le_refl _)]
     rfl
    ·dsimp only
     rw [List.drop_set_of_lt (by omega),hdz]
   ·refine go ?_;intros
    refine n_lp (hH:=hsub_refl _) (⟨i,j+1,zs⟩:DfInt) ⟨h1,hj,Nat.lt_succ_of_lt h3,?_,hdz⟩ (by dsimp only;omega)
    dsimp only
    rw [filter_take_no hj (by simp [hpj]),h4]
  ·obtain rfl:j=xs.length:=by omega
   have h4':zs.take i=xs.filter fun x=>!p x:=by rw [h4,List.take_length]
   have hil:(xs.filter fun x=>!p x).length=i:=by rw [←h4',List.length_take];omega
   refine go ?_;intros
   apply wO;apply oc;rfl;exact yd_slv (i:=i) rfl rfl rfl (by omega) (by omega) (by omega)
   refine go ?_;intros
   apply wO
   refine o_clr (z0:=0) (n:=xs.length) (cp:=c) (i:=i) (g:=g) scal_EInt (fun w=>⟨rfl,rfl⟩) (by decide) rfl rfl h3 h1.symm (by repeat (first|exact .here|apply Pick.there)) ?_
   refine go ?_;intros
   refine t_take (xs:=zs.take i++List.replicate (xs.length - i) 0) i (fun F2=>?_) (by rw [List.length_append,List.length_take,List.length_replicate];omega)
   rw [List.take_left' (by rw [List.length_take];omega),h4']
   apply wO;apply oc;rfl;exact yd_slt (i:=i) rfl rfl rfl (by omega) (by omega)
   refine go ?_;intros
   subst hil
   refine ret (_,c,F2) trivial rfl
 ·obtain ⟨hfx,hfl⟩:=fidx_all hany
  rw [hfx,hfl]
  refine go ?_;intros
  refine ret (a,c,F) trivial rfl
def missL (x:ReceiveWindow) (n:Nat):List Int:=(spanL x.next n).filter fun k=>!hasB x k
theorem mem_spanL {t k:Int} {n:Nat} (h:k∈spanL t n):0≤k∧k≤65535:=by
 unfold spanL at h
 obtain ⟨i, -,rfl⟩:=List.mem_map.1 h
 unfold aft;omega
theorem RWmissing_f (x:ReceiveWindow) (k:Int) (n:Nat) (v:Value) (F:List Nat) (h0:0≤x.next) (h1:x.next≤65535) (h2:0≤k) (h3:k≤65535) (hn:gp x.next k=n) :
  Fn Tryz.prog 341 [v,.int .i64 k] [.isv EReceiveWindow v x F] [] (fun (_:Option Addr × Nat × List Nat)=>True) (fun s=>.slice s.1 (missL x n).length s.2.1) (fun s=>[.ow EInt 3 (.slice s.1 (missL x n).length s.2.1) (missL x n) s.2.2]):=by
 have hg:=gp_bd x.next k
 refine enter Tryz.func341 rfl Tryz.ntmps341 fun w0=>?_
 refine openReceiveWindow ?_
 rintro a1 c1 F1 rfl l1
 refine go ?_;intros
 refine d_start [0] [] ?_
 refine dt4 0 1 2 3 ?_
 refine dt2 4 7 ?_
 refine dt 8 ?_ (hy:=yd_fnb evsE evsE)
 refine dN 5 ?_
 refine oC ?_
 refine ce (fun w s=>gap_c _ _ _ (by omega) (by omega) (by omega) (by omega)) ?_
 refine dk ?_
 refine dN 6 ?_
 refine oC ?_
 rw [hn]
 refine cf (span_f x.next n (by omega) (by omega) (by omega)) fun s _=>?_
 refine t_app ?_
 refine dk ?_
 refine dN 9 ?_
 refine oC ?_
 refine cf (DelInt_f 246 [_] [] [.isv EReceiveWindow (.agg #[.int .i64 x.next,.slice a1 x.slots.length c1]) x F] rfl (spanL x.next n) s.1 s.2.1 s.2.2 (fun k=>hasB x k) rfl (by rw [spanL_len];omega) (fun k hk w hw=>?_)) fun q _=>?_
 exact (RWhas_f x k _ F h0 h1 (mem_spanL hk).1 (mem_spanL hk).2).val w hw
 refine t_app ?_
 refine dk ?_
 refine dt 10 ?_
 refine dd ?_
 refine go ?_;intros
 refine ret q trivial rfl
theorem missL_yes {x:ReceiveWindow} {k:Nat} (hk:k≤65535) (h:havAt x.slots k=true):missL x (k+1)=missL x k:=by
 have e:hasB x (aft x.next k)=true:=by unfold hasB;rw [show gp x.next (aft x.next k)=k by unfold gp aft;omega,Int.toNat_natCast,h]
 unfold missL;rw [spanL_succ,List.filter_append,List.filter_cons];simp [e]
theorem missL_no {x:ReceiveWindow} {k:Nat} (hk:k≤65535) (h:havAt x.slots k=false):missL x (k+1)=missL x k++[aft x.next k]:=by
 have e:hasB x (aft x.next k)=false:=by unfold hasB;rw [show gp x.next (aft x.next k)=k by unfold gp aft;omega,Int.toNat_natCast,h]
 unfold missL;rw [spanL_succ,List.filter_append,List.filter_cons];simp [e]
theorem missL_len (x:ReceiveWindow) (k:Nat):(missL x k).length≤k:=by
 unfold missL;have:=List.length_filter_le (fun k=>!hasB x k) (spanL x.next k);rw [spanL_len] at this;exact this
theorem l10Missing_f (x:ReceiveWindow) (k:Int) (n:Nat) (v:Value) (F:List Nat) (h0:0≤x.next) (h1:x.next≤65535) (h2:0≤k) (h3:k≤65535) (hn:gp x.next k=n) :
  Fn Tryz.prog 287 [v,.int .i64 k] [.isv EReceiveWindow v x F] [] (fun (_:Option Addr × Nat × List Nat)=>True) (fun s=>.slice s.1 (missL x n).length s.2.1) (fun s=>[.ow EInt 3 (.slice s.1 (missL x n).length s.2.1) (missL x n) s.2.2]):=by
 have hg:=gp_bd x.next k
 refine enter Tryz.func287 rfl Tryz.ntmps287 fun w0=>?_
 refine openReceiveWindow ?_
 rintro a1 c1 F1 rfl l1
 unfold maxLen at l1
 refine goN ?_;intros
 refine t_emp EInt ?_
 refine go ?_;intros
 refine c_loopS [1,2,4] (fun s:SpS=>[(5,.slice s.a (missL x s.k).length s.c),(6,.int .i64 (s.k:Nat))]) (fun s=>[.ow EInt 3 (.slice s.a (missL x s.k).length s.c) (missL x s.k) s.F]) (fun s=>s.k≤n) (fun s=>n - s.k) ⟨0,_,_,_⟩ (Nat.zero_le _) fun s hs=>?_
 obtain ⟨j,a,c,F5⟩:=s
 dsimp only at hs ⊢
 have hlk:=missL_len x j
 refine go ?_;intros
 refine ce (fun w s=>l2Gap_c _ _ _ (by omega) (by omega)) ?_
 rw [hn]
 refine go ?_;intros
 refine c_if rfl (fun h4=>?_) (fun h4=>?_)
 ·refine go ?_;intros
  refine wg_if rfl rfl (fun h5=>?_) (fun h5=>?_)
  ·refine go ?_;intros
   refine ce (fun w s=>l2After_c _ _ _ (by omega) (by omega)) ?_
   refine go ?_;intros
   apply wO
   refine ap1 (rep_int _) one_EInt fun a2 c2 F2=>?_
   refine go ?_;intros
   rw [←missL_no (by omega) (havAt_ge (by omega))]
   refine n_lp ⟨j+1,a2,c2,F2⟩ (by show j+1≤n;omega) (by show n - (j+1) < n - j;omega)
  ·refine atSlot (xs:=x.slots) j ?_
   rintro hi2 b2 o2 e s1
   rw [e]
   refine go ?_;intros
   cases g2:x.slots[j].hav
   ·refine go ?_;intros
    refine ce (fun w s=>l2After_c _ _ _ (by omega) (by omega)) ?_
    refine go ?_;intros
    apply wO
    refine ap1 (rep_int _) one_EInt fun a2 c2 F2=>?_
    refine go ?_;intros
    rw [←missL_no (by omega) (by rw [havAt_lt hi2];exact g2)]
    refine n_lp ⟨j+1,a2,c2,F2⟩ (by show j+1≤n;omega) (by show n - (j+1) < n - j;omega)
   ·refine go ?_;intros
    rw [←missL_yes (x:=x) (k:=j) (by omega) (by rw [havAt_lt hi2];exact g2)]
    refine n_lp ⟨j+1,a,c,F5⟩ (by show j+1≤n;omega) (by show n - (j+1) < n - j;omega)
 ·obtain rfl:j=n:=by omega
  refine go ?_;intros
  refine ret (a,c,F5) trivial rfl
def isDel (d:Int):Bool:=btw 1 d 8
def okReq (base:Int) (r:Request):Bool:=isSer r.number && decide (gp base r.number < 8) && btw 1 r.state 3 && btw 0 r.untl 10007 && btw 0 r.tries 3
def chkQ (l:List Request) (base:Int) (i:Nat):Bool:=match l[i]? with
 | none=>true
 | some r=>okReq base r && (decide (i=0) || match l[i - 1]? with|none=>true|some p=>!decide (gp base r.number≤gp base p.number))
theorem chkQ_at {l:List Request} {base:Int} {i:Nat} (h:i < l.length):chkQ l base i=(okReq base l[i] && (decide (i=0) || !decide (gp base l[i].number≤gp base (l[i - 1]'(by omega)).number))):=by
 unfold chkQ
 rw [List.getElem?_eq_getElem h,List.getElem?_eq_getElem (show i - 1 < l.length by omega)]
def areQ (l:List Request) (base:Int):Bool:=isSer base && decide ((l.length:Int)≤8) && (List.range l.length).all (chkQ l base)
theorem areQ_no {l:List Request} {base:Int} {i:Nat} (h:i < l.length) (hc:chkQ l base i=false):areQ l base=false:=by
 have:(List.range l.length).all (chkQ l base)=false:=List.all_eq_false.2 ⟨i,by simpa using h,by simp [hc]⟩
 simp [areQ,this]
theorem areQ_yes {l:List Request} {base:Int} (h1:isSer base=true) (h2:(l.length:Int)≤8) (h:∀j,j < l.length→chkQ l base j=true):areQ l base=true:=by
 unfold areQ
 rw [h1,decide_eq_true h2,List.all_eq_true.2 fun j hj=>h j (by simpa using hj)];rfl
theorem areQ_iff {l:List Request} {base:Int}:areQ l base=true↔isSer base=true∧l.length≤8∧(∀r∈l,okReq base r=true)∧l.Pairwise fun a b=>gp base a.number < gp base b.number:=by
 unfold areQ
 simp only [Bool.and_eq_true,List.all_eq_true,List.mem_range,decide_eq_true_eq]
 constructor
 ·rintro ⟨⟨h1,h2⟩,h4⟩
  refine ⟨h1,by omega,fun r hr=>?_,?_⟩
  ·obtain ⟨i,hi,rfl⟩:=List.getElem_of_mem hr
   have:=h4 i hi
   rw [chkQ_at hi] at this
   simp only [Bool.and_eq_true] at this
   exact this.1
  ·have step:∀i (hi:i+1 < l.length),gp base l[i].number < gp base l[i+1].number:=fun i hi=>by
    have:=h4 (i+1) hi
    rw [chkQ_at hi] at this
    simp only [Bool.and_eq_true,Bool.or_eq_true,decide_eq_true_eq,Bool.not_eq_true',decide_eq_false_iff_not] at this
    have h:=this.2
    rcases h with h|h
    ·omega
    ·simpa using h
   refine List.pairwise_iff_getElem.2 fun i j hi hj hij=>?_
   obtain ⟨d,rfl⟩:∃d,j=i+1+d:=⟨j - i - 1,by omega⟩
   clear hij
   induction d with
   | zero=>exact step i hj
   | succ d ih=>exact Int.lt_trans (ih (by omega)) (step (i+1+d) hj)
 ·rintro ⟨h1,h2,h4,h5⟩
  refine ⟨⟨h1,by omega⟩,fun i hi=>?_⟩
  rw [chkQ_at hi,h4 l[i] (List.getElem_mem hi)]
  simp only [Bool.true_and,Bool.or_eq_true,decide_eq_true_eq,Bool.not_eq_true',decide_eq_false_iff_not]
  rcases Nat.eq_zero_or_pos i with h0|h0
  ·exact .inl h0
  ·have:=List.pairwise_iff_getElem.1 h5 (i - 1) i (by omega) hi (by omega)
   right;omega
structure OkReq (base:Int) (r:Request):Prop where
 n:isSer r.number=true
 g:gp base r.number < 8
 s0:1≤r.state
 s1:r.state≤3
 u0:0≤r.untl
 u1:r.untl≤10007
 t0:0≤r.tries
 t1:r.tries≤3
theorem okReq_iff {base:Int} {r:Request}:okReq base r=true↔OkReq base r:=by
 unfold okReq btw
 simp only [Bool.and_eq_true,decide_eq_true_eq]
 exact ⟨fun ⟨⟨⟨⟨a,b⟩,c,d⟩,e,f⟩,g,h⟩=>⟨a,b,c,d,e,f,g,h⟩,fun ⟨a,b,c,d,e,f,g,h⟩=>⟨⟨⟨⟨a,b⟩,c,d⟩,e,f⟩,g,h⟩⟩
def zeroRec (r:Receiver):Bool:=decide (r.window.next=0) && decide (r.window.slots.length=0) && decide (r.requests.length=0)
def freeQ (r:Receiver):Bool:=r.requests.all fun q=>!hasB r.window q.number
def goodRec (r:Receiver):Bool:=isClk r.clock && (if r.started then goodRW r.window && areQ r.requests r.window.next && freeQ r else zeroRec r)
def tkO (c d:Int) (r:Request):Option Request:=if c < r.untl then some r else if r.tries=3 then none else if r.state=1 then some ⟨r.number,2,c+3,r.tries+1⟩ else some ⟨r.number,1,c+d,r.tries⟩
def tkS (c:Int) (r:Request):Option Int:=if c < r.untl then none else if r.tries=3 then none else if r.state=1 then some r.number else none
def tkL (c:Int) (r:Request):Option Int:=if c < r.untl then none else if r.tries=3 then some r.number else none
def pkR (n k:Int):Packet:=⟨3,k,n,n,⟨#[]⟩⟩
def lostTrail (l:List Int):Int:=aft (l.getLastD 0) 1
def movedW (w:ReceiveWindow) (t:Int):ReceiveWindow:=relW (giveW (stepsN w.next t) w)
def movedE (w:ReceiveWindow) (t:Int):List ByteArray:=giveE (stepsN w.next t) w++relE (giveW (stepsN w.next t) w)
def noBef (l:List Request) (n:Int):List Request:=l.filter fun q=>!bef q.number n
def needed (l:List Request) (w:ReceiveWindow):List Request:=l.filter fun q=>!(bef q.number w.next || hasB w q.number) && decide (gp w.next q.number < 8)
def tkReq (r:Receiver) (d:Int):List Request:=r.requests.filterMap (tkO (r.clock+1) d)
def tkLost (r:Receiver):List Int:=r.requests.filterMap (tkL (r.clock+1))
def tickRec (r:Receiver) (d:Int):Receiver:=if tkLost r=[] then ⟨r.started,r.clock+1,r.window,tkReq r d⟩ else ⟨r.started,r.clock+1,movedW r.window (lostTrail (tkLost r)),noBef (tkReq r d) (movedW r.window (lostTrail (tkLost r))).next⟩
def tickPk (r:Receiver):List Packet:=(r.requests.filterMap (tkS (r.clock+1))).map (pkR r.window.next)
def tickEv (r:Receiver):List ByteArray:=if tkLost r=[] then [] else movedE r.window (lostTrail (tkLost r))
def zRec:Receiver:=⟨false,0,⟨0,[]⟩,[]⟩
structure GoodR (r:Receiver):Prop where
 k0:0≤r.clock
 k1:r.clock≤9999
 w:goodRW r.window=true
 q:areQ r.requests r.window.next=true
 f:∀z∈r.requests,hasB r.window z.number=false
 z:r.started=false→r.window=⟨0,[]⟩∧r.requests=[]
theorem goodR_iff {r:Receiver}:goodRec r=true↔GoodR r:=by
 have hc:isClk r.clock=true↔0≤r.clock∧r.clock≤9999:=by unfold isClk btw;simp
 have hf:freeQ r=true↔∀z∈r.requests,hasB r.window z.number=false:=by unfold freeQ;simp
 have hz:zeroRec r=true↔r.window=⟨0,[]⟩∧r.requests=[]:=by
  unfold zeroRec
  obtain ⟨st,ck,⟨n,s⟩,q⟩:=r
  simp [and_assoc]
 unfold goodRec
 constructor
 ·intro h
  rw [Bool.and_eq_true,hc] at h
  obtain ⟨⟨c0,c1⟩,h⟩:=h
  cases hs:r.started
  ·rw [hs] at h
   obtain ⟨e1,e2⟩:=hz.1 (by simpa using h)
   refine ⟨c0,c1,by rw [e1];decide,by rw [e1,e2];decide,by rw [e2];simp,fun _=>⟨e1,e2⟩⟩
  ·rw [hs] at h
   simp only [if_true,Bool.and_eq_true] at h
   exact ⟨c0,c1,h.1.1,h.1.2,hf.1 h.2,fun h'=>by rw [hs] at h';cases h'⟩
 ·rintro ⟨c0,c1,h1,h2,h3,h4⟩
  rw [Bool.and_eq_true,hc]
  refine ⟨⟨c0,c1⟩,?_⟩
  cases hs:r.started
  ·simpa using hz.2 (h4 hs)
  ·simp [h1,h2,hf.2 h3]
def goodPk (p:Packet):Bool:=btw 1 p.kind 5 && isSer p.number && isSer p.trail && isSer p.lead && itm p.data && decide (gp p.trail p.lead≤32767) && (decide (p.data=⟨#[]⟩) || decide (p.kind=1) || decide (p.kind=2))
theorem goodPk_num {p:Packet} (h:goodPk p=true):0≤p.number∧p.number≤65535:=by
 unfold goodPk at h
 simp only [Bool.and_eq_true] at h
 exact isSer_iff.1 h.1.1.1.1.1.2
theorem IndexFunc_String (fid:FuncId) (hbd:Body Tryz.prog fid) (caps:Array Value) (v:Value) (xs:List ByteArray) (F:List Nat) (p:ByteArray→Bool) (w:World) (h:Sl EStr w v xs F)
  (hp:∀(k:Nat) (hk:k < xs.length) (wr:World) (u:Value) (G:List Nat),Below w.heap.size w wr→IsC EStr wr u xs[k] G→Calls Tryz.prog fid (#[u]++caps) wr fun e w'=>e=.returned (.bool (p xs[k]))∧Below wr.heap.size wr w') :
  Calls Tryz.prog 313 #[v,.func (.func fid) #[] caps] w fun e w'=>e=.returned (.int .i64 (fidx p xs))∧Below w.heap.size w w':=by
 obtain ⟨a,cap,rfl⟩:=h.slice
 have hl:=h.len
 unfold maxLen at hl
 go_enter Tryz.func313,Tryz.ntmps313
 go_wp2
 go_loopw [5,8] (fun _ i wr=>∃k:Nat,k≤xs.length∧i=.int .i64 k∧Hid (∀j,j < k→∀hj:j < xs.length,p xs[j]=false)∧Below w.heap.size w wr) (fun _ i _=>xs.length - (intOf i).toNat)
 case atStart=>exact ⟨0,Nat.zero_le _,rfl,fun j hj=>by omega,Below.refl _ _⟩
 case round =>
  obtain ⟨k,hk,rfl,hz,hB⟩:=hrel
  by_cases hlt:k < xs.length
  ·have hz0:=hz;clear hz
   obtain ⟨b,off,_,F1,rfl,hx, -,ja⟩:=(h.below (by decide) hB).at k hlt
   obtain ⟨rfl, -, -⟩:=id hx
   have a0:=ja 0 (by decide)
   simp only [show EStr.sz=1 from rfl,Nat.mul_one,Nat.add_zero,List.getElem?_cons_zero,List.getElem?_cons_succ] at a0
   clear ja
   have hr:=hp k hlt wr _ F1 hB ⟨_,rfl,hx⟩
   have hp:=Lib.hid hp
   cases hpk:p xs[k]
   all_goals
    rw [hpk] at hr
    have hpk:=Lib.hid hpk
    have hr:=Lib.hid hr
    go_wp2_with fail
    refine hbd.upon hr.out ?_
    rintro e w1 ⟨rfl,hb1⟩
    refine ⟨_,rfl,?_⟩
    have hB:=tr hB hb1 (Nat.le_refl _)
    clear hb1
    go_wp2_with fail
   ·exact ⟨⟨k+1,by omega,by go_num,fun j hj hl=>by rcases Nat.lt_or_eq_of_le (Nat.le_of_lt_succ hj) with h|h;exact hz0.out j h hl;subst h;exact hpk.out,hB⟩,by simp [intOf];omega⟩
   ·go_ret
    exact ⟨ret_int (fidx_hit hlt hz0.out hpk.out).symm,hB⟩
  ·go_wp2
   go_ret
   exact ⟨ret_int (fidx_none (fun j hj=>hz.out j (by omega) hj)).symm,hB⟩
theorem ContainsFunc_String (fid:FuncId) (hbd:Body Tryz.prog fid) (caps:Array Value) (v:Value) (xs:List ByteArray) (F:List Nat) (p:ByteArray→Bool) (w:World) (h:Sl EStr w v xs F)
  (hp:∀(k:Nat) (hk:k < xs.length) (wr:World) (u:Value) (G:List Nat),Below w.heap.size w wr→IsC EStr wr u xs[k] G→Calls Tryz.prog fid (#[u]++caps) wr fun e w'=>e=.returned (.bool (p xs[k]))∧Below wr.heap.size wr w') :
  Calls Tryz.prog 290 #[v,.func (.func fid) #[] caps] w fun e w'=>e=.returned (.bool (xs.any p))∧Below w.heap.size w w':=by
 have hp:=Lib.hid hp
 go_enter Tryz.func290,Tryz.ntmps290
 go_wp2_with fail
 refine (IndexFunc_String fid hbd caps v xs F p _ h hp.out).mono ?_
 rintro e w1 ⟨rfl,hb1⟩
 go_wp2_with fail
 go_ret
 exact ⟨ret_bool (fidx_any p xs),hb1⟩
theorem Clone_String (v:Value) (xs:List ByteArray) (F:List Nat) (w:World) (h:Sl EStr w v xs F) (hm:xs.length≤4294967296) :
  Calls Tryz.prog 257 #[v] w (RetNew EStr 9 xs w):=by
 obtain ⟨ao,c,news,Fy,rfl,hl,hfy,hFy,hsrc⟩:=h.src
 have hFl:=hfy.lt
 have he:=fun w (a:Option Addr) (n c:Nat)=>Lib.run_eql_slice_nil (P:=Tryz.prog) w 25 _ a n c 0 0 Tryz.underlying25
 go_enter Tryz.func257,Tryz.ntmps257
 rcases hsrc with ⟨rfl,rfl,rfl⟩|⟨ad,rfl,hn⟩
 ·go_wp2
  go_ret
  exact ⟨.slice none 0 0,[],rfl,.inl ⟨rfl,rfl,rfl⟩,by simp,by simp,Below.refl _ _⟩
 ·go_wp2_with (at_builtin;refine wpList_apd one_EStr (by decide) (by rfl) _ _ _ (by rfl) 9 (.string ⟨#[]⟩) 16 Tryz.underlying25 info_string rfl (.slice (some ⟨w.heap.size,0,none⟩) 0 0) [] [w.heap.size] (by rfl) (Ow.empty (Row.made _ _ _)) (Hd.one _) (some ad) xs c (by rfl) news Fy (hfy.frame fun b hb=>Below.heap_alloc _ _ _ (hFl b hb)) (.inr ⟨ad,rfl,fun j u hu=>kc ((Below.refl _ _).alloc (Nat.le_refl _) _) (hn j u hu)⟩) (fun b hb e=>by have:=hFl b hb;simp [Value.ownBlock] at e;omega) (by simpa using hl) (by unfold maxLen at hl;simp;omega) ?_)
  intro v2 w2 F2 hA
  go_wp2_with fail
  go_ret
  have hB:Below w.heap.size w w2:=((Below.refl _ _).alloc (Nat.le_refl _) _).trans (hA.keep.below (by simp) (by simp))
  have hs:∀b,v2.ownBlock=some b→w.heap.size≤b:=fun b hb=>by rcases hA.same with e|e <;> rw [e] at hb <;> simp [Value.ownBlock] at hb <;> omega
  refine ⟨v2,F2,rfl,by simpa using hA.ow,hA.ow.scal scal_EStr▸?_,fun b hb=>?_,hB⟩
  ·cases v2.ownBlock <;> simp
  ·rw [hA.ow.scal scal_EStr] at hb;exact hs b (by simpa using hb)
def goodWin (x:SendWindow):Bool:=isSer x.trail && btw 1 x.size 6 && decide ((x.items.length:Int)≤x.size) && x.items.all itm
theorem goodWin_iff {x:SendWindow}:goodWin x=true↔(0≤x.trail∧x.trail≤65535)∧(1≤x.size∧x.size≤6)∧(x.items.length:Int)≤x.size∧x.items.all itm=true:=by
 unfold goodWin
 simp only [Bool.and_eq_true,isSer_iff,btw,decide_eq_true_eq,and_assoc]
theorem areItems_1_c (s:ByteArray) (w:World) (hs:s.size≤maxLen) :
  Calls Tryz.prog 291 #[.string s] w fun e w'=>e=.returned (.bool (!itm s))∧Below w.heap.size w w':=by
 go_enter Tryz.func291,Tryz.ntmps291
 go_wp2_with fail
 refine (isItem_c s _ hs).mono ?_
 rintro e w1 ⟨rfl,hb⟩
 go_wp2_with fail
 go_ret
 exact ⟨rfl,hb⟩
theorem areItems_c (v:Value) (xs:List ByteArray) (F:List Nat) (w:World) (h:Sl EStr w v xs F) :
  Calls Tryz.prog 238 #[v] w fun e w'=>e=.returned (.bool (xs.all itm))∧Below w.heap.size w w':=by
 have hq:(!xs.any fun s=>!itm s)=xs.all itm:=by rw [List.not_any_eq_all_not];simp
 replace hq:=Lib.hid hq
 go_enter Tryz.func238,Tryz.ntmps238
 go_wp2_with fail
 refine (ContainsFunc_String _ (.mk' Tryz.func291 rfl rfl) _ _ xs F (fun s=>!itm s) _ h ?_).mono ?_
 ·rintro k hk wr u G hb ⟨_,rfl,hu⟩
  obtain ⟨hu,hsz, -⟩:=hu
  cases hu
  exact areItems_1_c _ _ hsz
 rintro e w1 ⟨rfl,hb⟩
 go_wp2_with fail
 go_ret
 exact ⟨ret_bool hq.out,hb⟩
theorem IsValidSendWindow_c (v:Value) (x:SendWindow) (F:List Nat) (w:World) (h:IsV ESendWindow w v x F) :
  Calls Tryz.prog 172 #[v] w fun e w'=>e=.returned (.bool (goodWin x))∧Below w.heap.size w w':=by
 obtain ⟨_,rfl,v1,rfl,h1⟩:=h
 obtain ⟨a,c,rfl⟩:=h1.slice
 have hl:=h1.len
 unfold maxLen at hl
 have hB0:∀A:Obj,Below w.heap.size w (w.alloc A):=fun A=>(Below.refl _ _).alloc (Nat.le_refl _) _
 go_enter Tryz.func172,Tryz.ntmps172
 go_wp2_with fail
 refine (IsSerial_c _ _).mono ?_
 rintro e w' ⟨rfl,rfl⟩
 cases g1:isSer x.trail
 ·go_wp2_with fail
  go_ret
  exact ⟨ret_bool (by simp [goodWin,g1]),hB0 _⟩
 go_wp2_with fail
 refine (within_c _ _ _ _).mono ?_
 rintro e w' ⟨rfl,rfl⟩
 cases g2:btw 1 x.size 6
 ·go_wp2_with fail
  go_ret
  exact ⟨ret_bool (by simp [goodWin,g2]),hB0 _⟩
 by_cases g3:(x.items.length:Int)≤x.size
 ·go_wp2_with fail
  refine (areItems_c _ x.items F _ (h1.below (by decide) (hB0 _))).mono ?_
  rintro e w1 ⟨rfl,hb⟩
  go_wp2_with fail
  go_ret
  exact ⟨ret_bool (by simp [goodWin,g1,g2,g3]),tr (hB0 _) hb (Nat.le_refl _)⟩
 ·go_wp2_with fail
  go_ret
  exact ⟨ret_bool (by simp only [goodWin,decide_eq_false (show ¬(x.items.length:Int)≤x.size by omega),Bool.and_false,Bool.false_and]),hB0 _⟩
theorem SendWindow_clone_c (v:Value) (x:SendWindow) (F:List Nat) (w:World) (h:IsV ESendWindow w v x F) (hm:x.items.length≤4294967296) :
  Calls Tryz.prog 185 #[v] w (RetV OSendWindow x w):=by
 obtain ⟨_,rfl,v1,rfl,h1⟩:=h
 obtain ⟨a,c,rfl⟩:=h1.slice
 have hB0:∀A B:Obj,Below w.heap.size w ((w.alloc A).alloc B):=fun A B=>((Below.refl _ _).alloc (Nat.le_refl _) _).alloc (by simp) _
 go_enter Tryz.func185,Tryz.ntmps185
 go_wp2_with fail
 refine (Clone_String _ x.items F _ (h1.below (by decide) (hB0 _ _)) hm).mono ?_
 rintro e w1 ⟨v2,F2,rfl,o,n,g,hb⟩
 obtain ⟨a2,c2,rfl⟩:=o.slice
 have r0:=Row.below (g:=w.heap.size) (t:=41) (cs:=[.int .i64 x.trail,.int .i64 x.size,.slice a x.items.length c]) (by simp [row_alloc] <;> omega) hb
 have r1:=Row.below (g:=w.heap.size+1) (t:=41) (cs:=[.int .i64 0,.int .i64 0,.slice none 0 0]) (by simp [row_alloc] <;> omega) hb
 have hB:=tr (hB0 _ _) hb (Nat.le_refl _)
 have c0:=r0.cells;have f0:=r0.frozens
 have c1:=r1.cells;have f1:=r1.frozens
 clear hb
 replace o:=Lib.hid o
 go_wp2_with fail
 refine bodyPost_ret (v:=.agg #[.int .i64 x.trail,.int .i64 x.size,.slice a2 x.items.length c2]) ?_ rfl ?_
 ·simp [results,Tryz.results185,go_sem,c0,c1,f1]
 ·refine ⟨_,F2,rfl,⟨_,rfl,_,rfl,?_⟩,n,fun b hb=>by have:=g b hb;simp at this;omega,?_⟩
  ·repeat refine Ow.setFar ?_ (fun hm=>by have:=g _ hm;simp at this <;> omega) _
   exact o.out
  ·repeat refine Below.setCell ?_ (by simp <;> omega) _
   exact hB
theorem l9Good_c (v:Value) (x:SendWindow) (F:List Nat) (w:World) (h:IsV ESendWindow w v x F) :
  Calls Tryz.prog 146 #[v] w fun e w'=>e=.returned (.bool (goodWin x))∧Below w.heap.size w w':=by
 obtain ⟨_,rfl,v1,rfl,h1⟩:=h
 obtain ⟨a,c,rfl⟩:=h1.slice
 have hl:=h1.len
 unfold maxLen at hl
 have hB0:∀A:Obj,Below w.heap.size w (w.alloc A):=fun A=>(Below.refl _ _).alloc (Nat.le_refl _) _
 go_enter Tryz.func146,Tryz.ntmps146
 go_wp2_with fail
 refine (l2Good_c _ _).mono ?_
 rintro e w' ⟨rfl,rfl⟩
 cases g1:isSer x.trail
 ·go_wp2_with fail
  go_ret
  exact ⟨ret_bool (by simp [goodWin,g1]),hB0 _⟩
 go_wp2_with fail
 refine (l1In_c _ _ _ _).mono ?_
 rintro e w' ⟨rfl,rfl⟩
 cases g2:btw 1 x.size 6
 ·go_wp2_with fail
  go_ret
  exact ⟨ret_bool (by simp [goodWin,g2]),hB0 _⟩
 by_cases g3:x.size < (x.items.length:Int)
 ·go_wp2_with fail
  go_ret
  exact ⟨ret_bool (by simp only [goodWin,decide_eq_false (show ¬(x.items.length:Int)≤x.size by omega),Bool.and_false,Bool.false_and]),hB0 _⟩
 have hg:goodWin x=x.items.all itm:=by unfold goodWin;rw [g1,g2,decide_eq_true (by omega)];simp
 replace hg:=Lib.hid hg
 go_wp2_with fail
 have r0:=Row.made w 41 [.int .i64 x.trail,.int .i64 x.size,.slice a x.items.length c]
 have h2:=h1.below (by decide) (hB0 (.cells #[.int .i64 x.trail,.int .i64 x.size,.slice a x.items.length c] 41))
 have hB:=hB0 (.cells #[.int .i64 x.trail,.int .i64 x.size,.slice a x.items.length c] 41)
 generalize w.alloc (.cells #[.int .i64 x.trail,.int .i64 x.size,.slice a x.items.length c] 41)=w1 at *
 have c0:=r0.cells
 go_loop [3] (fun i=>∃k:Nat,k≤x.items.length∧i=.int .i64 k∧Hid (∀j,j < k→∀hj:j < x.items.length,itm x.items[j]=true)) (fun i=>x.items.length - (intOf i).toNat)
 case atStart=>exact ⟨0,Nat.zero_le _,rfl,fun j hj=>by omega⟩
 case round =>
  obtain ⟨k,hk,rfl,hz⟩:=hrel
  by_cases hlt:k < x.items.length
  ·obtain ⟨hsz,b,off,rfl,hc⟩:=h2.str.2.2 k hlt
   cases hi:itm x.items[k]
   ·have hi2:(decide ((x.items[k].size:Int)≤8) && lows x.items[k].data.toList)=false:=hi
    go_wp2_with fail
    refine (l4Letters_c _ _ _ hsz).mono ?_
    rintro e w' ⟨rfl,rfl⟩
    go_wp2_with fail
    go_ret
    refine ⟨ret_bool ?_,hB⟩
    rw [hg.out]
    exact (List.all_eq_false.2 ⟨x.items[k],List.getElem_mem _,by simp [hi]⟩).symm
   ·have hi2:(decide ((x.items[k].size:Int)≤8) && lows x.items[k].data.toList)=true:=hi
    go_wp2_with fail
    refine (l4Letters_c _ _ _ hsz).mono ?_
    rintro e w' ⟨rfl,rfl⟩
    go_wp2_with fail
    exact ⟨⟨k+1,by omega,by go_num,fun j hj hl=>by rcases Nat.lt_or_eq_of_le (Nat.le_of_lt_succ hj) with h|h;exact hz.out j h hl;subst h;exact hi⟩,by simp [intOf];omega⟩
  ·have hk:k=x.items.length:=by omega
   go_wp2_with fail
   go_ret
   refine ⟨ret_bool ?_,hB⟩
   rw [hg.out]
   refine (List.all_eq_true.2 fun s hs=>?_).symm
   obtain ⟨j,hj,rfl⟩:=List.getElem_of_mem hs
   exact hz.out j (by omega) hj
section
variable {c:Cx} {fr:Fr} {H:List Pc} {Φ:Gl}
theorem openSource {v:Value} {x:Source} {F:List Nat} (h:∀(a1:Option Addr) (c1:Nat) (F1:List Nat) (a2:Option Addr) (c2:Nat) (F2:List Nat),v=.agg #[.int .i64 x.window.trail,.int .i64 x.window.size,.slice a1 x.window.items.length c1,.int .i64 x.clock,.int .i64 x.quiet,.slice a2 x.holds.length c2]→x.window.items.length≤maxLen→x.holds.length≤maxLen→T c fr (.sl EStr (.slice a1 x.window.items.length c1) x.window.items F1::.sl EHold (.slice a2 x.holds.length c2) x.holds F2::H) Φ) (hm:.isv ESource v x F∈H:=by (repeat (first|exact .head _|apply List.Mem.tail));first|done|fail):T c fr H Φ:=.mk fun a w s g=>by
 obtain ⟨cs,rfl,v1,v2,G1,G2,rfl,h1,h2,rfl⟩:=s.get hm
 obtain ⟨a1,c1,rfl⟩:=h1.slice;have l1:=h1.len
 obtain ⟨a2,c2,rfl⟩:=h2.slice;have l2:=h2.len
 have t2:=s.ro (p:=.sl EHold (.slice a2 x.holds.length c2) x.holds G2) hm rfl rfl ⟨by decide,h2⟩ (by intro b hb;simp only [Pc.F] at hb ⊢;simp [hb])
 have t1:=t2.ro (p:=.sl EStr (.slice a1 x.window.items.length c1) x.window.items G1) (List.mem_cons_of_mem _ hm) rfl rfl ⟨by decide,h1⟩ (by intro b hb;simp only [Pc.F] at hb ⊢;simp [hb])
 exact (h a1 c1 G1 a2 c2 G2 rfl  l1 l2).h a w t1 g
theorem closeSource (x:Source) {a1:Option Addr} {c1:Nat} {F1:List Nat} {a2:Option Addr} {c2:Nat} {F2:List Nat}  (h:T c fr (.isv ESource (.agg #[.int .i64 x.window.trail,.int .i64 x.window.size,.slice a1 x.window.items.length c1,.int .i64 x.clock,.int .i64 x.quiet,.slice a2 x.holds.length c2]) x (F1++F2)::H) Φ) (m1:.sl EStr (.slice a1 x.window.items.length c1) x.window.items F1∈H:=by (repeat (first|exact .head _|apply List.Mem.tail));first|done|fail) (m2:.sl EHold (.slice a2 x.holds.length c2) x.holds F2∈H:=by (repeat (first|exact .head _|apply List.Mem.tail));first|done|fail):T c fr H Φ:=.mk fun a w s g=>by
 have hP:IsV ESource w (.agg #[.int .i64 x.window.trail,.int .i64 x.window.size,.slice a1 x.window.items.length c1,.int .i64 x.clock,.int .i64 x.quiet,.slice a2 x.holds.length c2]) x (F1++F2):=⟨_,rfl,_,_,_,_,rfl,(s.get m1).2,(s.get m2).2,rfl⟩
 refine h.h a w (s.add (N:=[.isv ESource (.agg #[.int .i64 x.window.trail,.int .i64 x.window.size,.slice a1 x.window.items.length c1,.int .i64 x.clock,.int .i64 x.quiet,.slice a2 x.holds.length c2]) x (F1++F2)]) (Below.refl _ _) (by intro q hq;simp at hq;subst hq;exact hP) ⟨by simp,trivial⟩ fun q hq b hb=>?_) g
 simp at hq;subst hq
 simp only [Pc.F,List.mem_append] at hb
 rcases hb with hb|hb
 ·exact .inr ⟨rfl,_,m1,rfl,hb⟩
 ·exact .inr ⟨rfl,_,m2,rfl,hb⟩
theorem openOSource {v:Value} {x:Source} {F:List Nat} {S:List Pc} (h:∀(a1:Option Addr) (c1:Nat) (F1:List Nat) (a2:Option Addr) (c2:Nat) (F2:List Nat),v=.agg #[.int .i64 x.window.trail,.int .i64 x.window.size,.slice a1 x.window.items.length c1,.int .i64 x.clock,.int .i64 x.quiet,.slice a2 x.holds.length c2]→x.window.items.length≤maxLen→x.holds.length≤maxLen→T c fr (.ow EStr 9 (.slice a1 x.window.items.length c1) x.window.items F1::.ow EHold 194 (.slice a2 x.holds.length c2) x.holds F2::S) Φ) (hp:Pick H (.own OSource v x F) S:=by (repeat (first|exact .here|apply Pick.there));first|done|fail):T c fr H Φ:=.mk fun a w s g=>by
 have z1:=s.pick hp
 obtain ⟨hn,cs,rfl,v1,v2,G1,G2,rfl,h1,h2,rfl⟩:=z1.on (.own OSource v x F) (by simp)
 obtain ⟨a1,c1,rfl⟩:=h1.slice;have l1:=h1.len
 obtain ⟨a2,c2,rfl⟩:=h2.slice;have l2:=h2.len
 have hn2:=hn;simp only [List.nodup_append,List.mem_append] at hn2
 refine (h a1 c1 G1 a2 c2 G2 rfl  l1 l2).h a w (St.turn (M:=[.own OSource (.agg #[.int .i64 x.window.trail,.int .i64 x.window.size,.slice a1 x.window.items.length c1,.int .i64 x.clock,.int .i64 x.quiet,.slice a2 x.holds.length c2]) x _]) (N:=[.ow EStr 9 (.slice a1 x.window.items.length c1) x.window.items G1,.ow EHold 194 (.slice a2 x.holds.length c2) x.holds G2]) z1 (Keep.refl _ w) ?_ ?_ ?_) g
 ·intro q hq;simp only [List.mem_cons,List.not_mem_nil,or_false] at hq
  rcases hq with rfl|rfl
  ·exact ⟨(List.nodup_append.1 hn).1,h1⟩
  ·exact ⟨(List.nodup_append.1 hn).2.1,h2⟩
 ·refine ⟨?_,⟨?_,trivial⟩⟩
  ·intro q hq _ b hb hb2;simp only [List.mem_cons,List.not_mem_nil,or_false] at hq;rcases hq with rfl <;> simp only [Pc.F] at hb hb2 <;> exact nodup_apt hn hb hb2
  ·intro q hq _ b hb hb2;simp at hq
 ·intro q hq b hb;refine .inr (.inl ⟨_,List.mem_singleton.2 rfl,rfl,?_⟩);simp only [List.mem_cons,List.not_mem_nil,or_false] at hq;rcases hq with rfl|rfl <;> simp only [Pc.F] at hb ⊢ <;> simp [hb]
theorem closeOSource (x:Source) {a1:Option Addr} {c1:Nat} {F1:List Nat} {a2:Option Addr} {c2:Nat} {F2:List Nat} {S1 S2:List Pc}  (h:T c fr (.own OSource (.agg #[.int .i64 x.window.trail,.int .i64 x.window.size,.slice a1 x.window.items.length c1,.int .i64 x.clock,.int .i64 x.quiet,.slice a2 x.holds.length c2]) x (F1++F2)::S2) Φ) (m1:Pick H (.ow EStr 9 (.slice a1 x.window.items.length c1) x.window.items F1) S1:=by (repeat (first|exact .here|apply Pick.there));first|done|fail) (m2:Pick S1 (.ow EHold 194 (.slice a2 x.holds.length c2) x.holds F2) S2:=by (repeat (first|exact .here|apply Pick.there));first|done|fail)  : T c fr H Φ:=.mk fun a w s g=>by
 have z1:St c.G c.D c.w0 ([.ow EStr 9 (.slice a1 x.window.items.length c1) x.window.items F1,.ow EHold 194 (.slice a2 x.holds.length c2) x.holds F2]++S2) w:=by simpa using (show Picks H [.ow EStr 9 (.slice a1 x.window.items.length c1) x.window.items F1,.ow EHold 194 (.slice a2 x.holds.length c2) x.holds F2] S2 from Picks.cons m1 (Picks.cons m2 (Picks.nil))).st (X:=[]) (by simpa using s)
 obtain ⟨n1,k1⟩:=z1.on (.ow EStr 9 (.slice a1 x.window.items.length c1) x.window.items F1) (by simp)
 obtain ⟨n2,k2⟩:=z1.on (.ow EHold 194 (.slice a2 x.holds.length c2) x.holds F2) (by simp)
 have hsp:=z1.sep
 have p1_2:∀b∈F1,b ∉ F2:=hsp.1 (.ow EHold 194 (.slice a2 x.holds.length c2) x.holds F2) (by simp) rfl
 have hN:(F1++F2).Nodup:=by
  simp only [List.nodup_append,List.mem_append]
  grind
 refine h.h a w (St.turn (M:=[.ow EStr 9 (.slice a1 x.window.items.length c1) x.window.items F1,.ow EHold 194 (.slice a2 x.holds.length c2) x.holds F2]) (N:=[.own OSource (.agg #[.int .i64 x.window.trail,.int .i64 x.window.size,.slice a1 x.window.items.length c1,.int .i64 x.clock,.int .i64 x.quiet,.slice a2 x.holds.length c2]) x (F1++F2)]) z1 (Keep.refl _ w) (by intro q hq;simp at hq;subst hq;exact ⟨hN,_,rfl,_,_,_,_,rfl,k1,k2,rfl⟩) ⟨by simp,trivial⟩ fun q hq b hb=>?_) g
 simp at hq;subst hq
 simp only [Pc.F,List.mem_append] at hb
 rcases hb with hb|hb
 ·exact .inr (.inl ⟨.ow EStr 9 (.slice a1 x.window.items.length c1) x.window.items F1,by simp,rfl,hb⟩)
 ·exact .inr (.inl ⟨.ow EHold 194 (.slice a2 x.holds.length c2) x.holds F2,by simp,rfl,hb⟩)
end
section
variable {c:Cx} {fr:Fr} {H:List Pc} {Φ:Gl}
theorem openHold {v:Value} {x:Hold} {F:List Nat} (h:∀(_:Unit),v=.agg #[.int .i64 x.number,.int .i64 x.untl]→T c fr (H) Φ) (hm:.isv EHold v x F∈H:=by (repeat (first|exact .head _|apply List.Mem.tail));first|done|fail):T c fr H Φ:=.mk fun a w s g=>by
 obtain ⟨cs,rfl,rfl,rfl⟩:=s.get hm
 exact (h () rfl  ).h a w s g
theorem atHold {a:Option Addr} {n cp:Nat} {xs:List Hold} {F:List Nat} (i:Nat) (h:∀(hi:i < xs.length) (b o:Nat),a=some ⟨b,o,none⟩→T c fr (.cel b (o+i * 2) [.int .i64 xs[i].number,.int .i64 xs[i].untl]::H) Φ) (hm:.sl EHold (.slice a n cp) xs F∈H:=by (repeat (first|exact .head _|apply List.Mem.tail));first|done|fail) (hi:i < xs.length:=by omega):T c fr H Φ:=.mk fun ac w s g=>by
 obtain ⟨b,o,cs,G,ha,hrep,hG,hb,hne,hr⟩:=sl_at (s.get hm) i hi
 obtain ⟨rfl,rfl⟩:=hrep
 exact (h hi b o  ha  ).h ac w (s.ro hm rfl rfl ⟨hne,hr⟩ (by intro x hx;simp [Pc.F] at hx;subst hx;exact hb)) g
end
section
variable {c:Cx} {fr:Fr} {H:List Pc} {Φ:Gl}
theorem openSendWindow {v:Value} {x:SendWindow} {F:List Nat} (h:∀(a1:Option Addr) (c1:Nat) (F1:List Nat),v=.agg #[.int .i64 x.trail,.int .i64 x.size,.slice a1 x.items.length c1]→x.items.length≤maxLen→T c fr (.sl EStr (.slice a1 x.items.length c1) x.items F1::H) Φ) (hm:.isv ESendWindow v x F∈H:=by (repeat (first|exact .head _|apply List.Mem.tail));first|done|fail):T c fr H Φ:=.mk fun a w s g=>by
 obtain ⟨cs,rfl,v1,rfl,h1⟩:=s.get hm
 obtain ⟨a1,c1,rfl⟩:=h1.slice;have l1:=h1.len
 have t1:=s.ro (p:=.sl EStr (.slice a1 x.items.length c1) x.items F) hm rfl rfl ⟨by decide,h1⟩ fun b hb=>hb
 exact (h a1 c1 F rfl  l1).h a w t1 g
theorem closeSendWindow (x:SendWindow) {a1:Option Addr} {c1:Nat} {F1:List Nat}  (h:T c fr (.isv ESendWindow (.agg #[.int .i64 x.trail,.int .i64 x.size,.slice a1 x.items.length c1]) x (F1)::H) Φ) (m1:.sl EStr (.slice a1 x.items.length c1) x.items F1∈H:=by (repeat (first|exact .head _|apply List.Mem.tail));first|done|fail):T c fr H Φ:=.mk fun a w s g=>by
 have hP:IsV ESendWindow w (.agg #[.int .i64 x.trail,.int .i64 x.size,.slice a1 x.items.length c1]) x (F1):=⟨_,rfl,_,rfl,(s.get m1).2⟩
 refine h.h a w (s.add (N:=[.isv ESendWindow (.agg #[.int .i64 x.trail,.int .i64 x.size,.slice a1 x.items.length c1]) x (F1)]) (Below.refl _ _) (by intro q hq;simp at hq;subst hq;exact hP) ⟨by simp,trivial⟩ fun q hq b hb=>?_) g
 simp at hq;subst hq
 simp only [Pc.F,List.mem_append] at hb
 exact .inr ⟨rfl,_,m1,rfl,hb⟩
theorem openOSendWindow {v:Value} {x:SendWindow} {F:List Nat} {S:List Pc} (h:∀(a1:Option Addr) (c1:Nat) (F1:List Nat),v=.agg #[.int .i64 x.trail,.int .i64 x.size,.slice a1 x.items.length c1]→x.items.length≤maxLen→T c fr (.ow EStr 9 (.slice a1 x.items.length c1) x.items F1::S) Φ) (hp:Pick H (.own OSendWindow v x F) S:=by (repeat (first|exact .here|apply Pick.there));first|done|fail):T c fr H Φ:=.mk fun a w s g=>by
 have z1:=s.pick hp
 obtain ⟨hn,cs,rfl,v1,rfl,h1⟩:=z1.on (.own OSendWindow v x F) (by simp)
 obtain ⟨a1,c1,rfl⟩:=h1.slice;have l1:=h1.len
 refine (h a1 c1 F rfl  l1).h a w (St.turn (M:=[.own OSendWindow (.agg #[.int .i64 x.trail,.int .i64 x.size,.slice a1 x.items.length c1]) x _]) (N:=[.ow EStr 9 (.slice a1 x.items.length c1) x.items F]) z1 (Keep.refl _ w) ?_ ?_ ?_) g
 ·intro q hq;simp at hq;subst hq;exact ⟨hn,h1⟩
 ·exact ⟨by simp,trivial⟩
 ·intro q hq b hb;simp at hq;subst hq;exact .inr (.inl ⟨_,List.mem_singleton.2 rfl,rfl,hb⟩)
end
def heldB (w:SendWindow) (n:Int):Bool:=decide (gp w.trail n < (w.items.length:Int))
theorem clk_bd {n:Int} (h:isClk n=true):0≤n∧n≤9999:=by unfold isClk btw at h;simpa using h
def chkH (x:Source) (i:Nat):Bool:=match x.holds[i]? with
 | none=>true
 | some h=>isSer h.number && heldB x.window h.number && btw (x.clock+1) h.untl (x.clock+3) && (decide (i=0) || match x.holds[i - 1]? with|none=>true|some p=>!decide (gp x.window.trail h.number≤gp x.window.trail p.number))
theorem chkH_at {x:Source} {i:Nat} (h:i < x.holds.length):chkH x i=(isSer x.holds[i].number && heldB x.window x.holds[i].number && btw (x.clock+1) x.holds[i].untl (x.clock+3) && (decide (i=0) || !decide (gp x.window.trail x.holds[i].number≤gp x.window.trail (x.holds[i - 1]'(by omega)).number))):=by
 unfold chkH
 rw [List.getElem?_eq_getElem h,List.getElem?_eq_getElem (show i - 1 < x.holds.length by omega)]
def goodSrc (x:Source):Bool:=goodWin x.window && isClk x.clock && btw 0 x.quiet 3 && (List.range x.holds.length).all (chkH x)
theorem goodSrc_no {x:Source} {i:Nat} (h:i < x.holds.length) (hc:chkH x i=false):goodSrc x=false:=by
 have:(List.range x.holds.length).all (chkH x)=false:=List.all_eq_false.2 ⟨i,by simpa using h,by simp [hc]⟩
 simp [goodSrc,this]
theorem goodSrc_yes {x:Source} (h1:goodWin x.window=true) (h2:isClk x.clock=true) (h3:btw 0 x.quiet 3=true) (h:∀j,j < x.holds.length→chkH x j=true):goodSrc x=true:=by
 unfold goodSrc
 rw [h1,h2,h3,List.all_eq_true.2 fun j hj=>h j (by simpa using hj)];rfl
theorem isHeld_f (x:SendWindow) (n:Int) (v:Value) (F:List Nat) (h0:0≤x.trail) (h1:x.trail≤65535) (h2:0≤n) (h3:n≤65535) :
  Fn Tryz.prog 175 [v,.int .i64 n] [.isv ESendWindow v x F] [] (fun (_:Unit)=>True) (fun _=>.bool (heldB x n)) (fun _=>[]):=by
 refine enter Tryz.func175 rfl Tryz.ntmps175 fun w0=>?_
 refine openSendWindow ?_
 rintro a1 c1 F1 rfl l1
 refine go ?_;intros
 refine d_start [0] [] ?_
 refine dt4 0 1 2 4 ?_
 refine dt2 5 6 ?_
 refine dN 3 ?_
 refine oC ?_
 refine ce (fun w s=>gap_c _ _ _ (by omega) (by omega) (by omega) (by omega)) ?_
 refine dk ?_
 refine dt2 7 8 ?_
 refine dd ?_
 refine go ?_;intros
 refine ret () trivial rfl
theorem l9HeldW_f (x:SendWindow) (n:Int) (v:Value) (F:List Nat) (h0:0≤x.trail) (h1:x.trail≤65535) (h2:-1≤n) (h3:n≤65536) :
  Fn Tryz.prog 149 [v,.int .i64 n] [.isv ESendWindow v x F] [] (fun (_:Unit)=>True) (fun _=>.bool (heldB x n)) (fun _=>[]):=by
 refine enter Tryz.func149 rfl Tryz.ntmps149 fun w0=>?_
 refine openSendWindow ?_
 rintro a1 c1 F1 rfl l1
 refine go ?_;intros
 refine d_start [0] [] ?_
 refine dt4 0 1 2 4 ?_
 refine dt2 5 6 ?_
 refine dN 3 ?_
 refine oC ?_
 refine ce (fun w s=>l2Gap_c _ _ _ (by omega) (by omega)) ?_
 refine dk ?_
 refine dt2 7 8 ?_
 refine dd ?_
 refine go ?_;intros
 refine ret () trivial rfl
theorem l9Held_f (x:SendWindow) (n:Int) (v:Value) (F:List Nat) (h0:0≤x.trail) (h1:x.trail≤65535) (h2:0≤n) (h3:n≤65535) :
  Fn Tryz.prog 149 [v,.int .i64 n] [.isv ESendWindow v x F] [] (fun (_:Unit)=>True) (fun _=>.bool (heldB x n)) (fun _=>[]):=l9HeldW_f x n v F h0 h1 (by omega) (by omega)
theorem IsValidSource_f (x:Source) (v:Value) (F:List Nat):Fn Tryz.prog 93 [v] [.isv ESource v x F] [] (fun (_:Unit)=>True) (fun _=>.bool (goodSrc x)) (fun _=>[]):=by
 refine enter Tryz.func93 rfl Tryz.ntmps93 fun w0=>?_
 refine openSource ?_
 rintro a1 c1 F1 a2 c2 F2 rfl l1 l2
 unfold maxLen at l1 l2
 refine closeSendWindow x.window ?_
 generalize F1=F3
 refine go ?_;intros
 refine cb (fun w st=>IsValidSendWindow_c _ x.window _ w (st.get (p:=.isv ESendWindow (.agg #[.int .i64 x.window.trail,.int .i64 x.window.size,.slice a1 x.window.items.length c1]) x.window F3) (by simp))) ?_
 cases g1:goodWin x.window
 ·refine go ?_;intros
  refine ret () trivial ?_
  simp [goodSrc,g1,tup]
 obtain ⟨⟨t0,t1⟩, -⟩:=goodWin_iff.1 g1
 refine go ?_;intros
 refine ce (fun w s=>isClock_c _ _) ?_
 cases g2:isClk x.clock
 ·refine go ?_;intros
  refine ret () trivial ?_
  simp [goodSrc,g2,tup]
 obtain ⟨k0,k1⟩:=clk_bd g2
 refine go ?_;intros
 refine ce (fun w s=>within_c _ _ _ _) ?_
 cases g3:btw 0 x.quiet 3
 ·refine go ?_;intros
  refine ret () trivial ?_
  simp [goodSrc,g3,tup]
 refine go ?_;intros
 refine c_loopR [1,2,22,23] (fun k:Nat=>[(24,.int .i64 k)]) (fun k=>k≤x.holds.length∧∀j,j < k→chkH x j=true) (fun k=>x.holds.length - k) 0 ⟨Nat.zero_le _,fun j h=>by omega⟩ fun k hk=>?_
 obtain ⟨hk1,hk2⟩:=hk
 refine go ?_;intros
 refine c_if rfl (fun h3=>?_) (fun h3=>?_)
 ·have hk3:k < x.holds.length:=by omega
  have bad:chkH x k=false→goodSrc x=false:=fun h=>goodSrc_no hk3 h
  have hck:=chkH_at hk3
  refine atHold (xs:=x.holds) k ?_
  rintro hi b o e
  rw [e]
  refine go ?_;intros
  refine ce (fun w s=>IsSerial_c _ _) ?_
  cases g4:isSer x.holds[k].number
  ·refine go ?_;intros
   refine ret () trivial ?_
   rw [bad (by rw [hck,g4];rfl)];rfl
  obtain ⟨m0,m1⟩:=isSer_iff.1 g4
  refine go ?_;intros
  refine cb (fun w st=>(isHeld_f x.window x.holds[k].number _ _ t0 t1 m0 m1).val w (hol1 (st.get (p:=.isv ESendWindow (.agg #[.int .i64 x.window.trail,.int .i64 x.window.size,.slice a1 x.window.items.length c1]) x.window F3) (by simp)))) ?_
  cases g5:heldB x.window x.holds[k].number
  ·refine go ?_;intros
   refine ret () trivial ?_
   rw [bad (by rw [hck,g4,g5];rfl)];rfl
  refine go ?_;intros
  refine ce (fun w s=>within_c _ _ _ _) ?_
  cases g6:btw (x.clock+1) x.holds[k].untl (x.clock+3)
  ·refine go ?_;intros
   refine ret () trivial ?_
   rw [bad (by rw [hck,g4,g5,g6];rfl)];rfl
  refine go ?_;intros
  by_cases hk0:0 < k
  ·have hk4:k - 1 < x.holds.length:=by omega
   have hp:=hk2 (k - 1) (by omega)
   rw [chkH_at hk4] at hp
   simp only [Bool.and_eq_true] at hp
   obtain ⟨p0,p1⟩:=isSer_iff.1 hp.1.1.1
   rw [←e]
   refine atHold (xs:=x.holds) (k - 1) ?_
   rintro hi5 b5 o5 e5
   rw [e5]
   refine d_start [0,1,3] [] ?_
   refine dt2 0 1 ?_
   rw [decide_eq_true (show (0:Int) < k by omega)]
   refine dt 2 ?_
   refine dtg 3 ?_
   refine dtg 4 ?_
   refine dtg 5 ?_
   refine dtg 6 ?_
   refine dtg 7 ?_
   refine dtg 8 ?_
   refine dtg 9 ?_
   rw [show (k:Int) - 1=((k - 1:Nat):Int) by omega]
   refine dtg 10 ?_
   refine dtg 11 ?_
   refine dtg 12 ?_
   refine dtg 14 ?_
   refine dtg 15 ?_
   refine dtg 16 ?_
   refine dtg 17 ?_
   refine dtg 18 ?_
   refine d1g 13 ?_
   apply On.h
   refine oC ?_
   refine ce (fun w s=>gap_c _ _ _ (by omega) (by omega) (by omega) (by omega)) ?_
   refine dk ?_
   refine d1g 19 ?_
   apply On.h
   refine oC ?_
   refine ce (fun w s=>gap_c _ _ _ (by omega) (by omega) (by omega) (by omega)) ?_
   refine dk ?_
   refine dtg 20 ?_
   refine dt 21 ?_
   refine dd ?_
   refine go ?_;intros
   refine c_if rfl (fun h6=>?_) (fun h6=>?_)
   ·refine go ?_;intros
    refine ret () trivial ?_
    rw [bad (by rw [hck,decide_eq_true h6,decide_eq_false (show ¬k=0 by omega)];simp)];rfl
   ·refine go ?_;intros
    refine n_lp (k+1) ⟨by omega,fun j hj=>?_⟩ (by omega)
    rcases Nat.lt_or_eq_of_le (Nat.lt_succ_iff.1 hj) with h|rfl
    ·exact hk2 j h
    ·rw [hck,g4,g5,g6,decide_eq_false h6];simp
  ·have hz:k=0:=by omega
   refine d_start [0,2] [] ?_
   refine dt2 0 1 ?_
   rw [decide_eq_false (show ¬(0:Int) < k by omega)]
   refine dt 2 ?_
   refine ds 3 ?_
   refine ds 4 ?_
   refine ds 5 ?_
   refine ds 6 ?_
   refine ds 7 ?_
   refine ds 8 ?_
   refine ds 9 ?_
   refine ds 10 ?_
   refine ds 11 ?_
   refine ds 12 ?_
   refine ds 13 ?_
   refine ds 14 ?_
   refine ds 15 ?_
   refine ds 16 ?_
   refine ds 17 ?_
   refine ds 18 ?_
   refine ds 19 ?_
   refine ds 20 ?_
   refine dt 21 ?_
   refine dd ?_
   refine go ?_;intros
   refine n_lp (k+1) ⟨by omega,fun j hj=>?_⟩ (by omega)
   rcases Nat.lt_or_eq_of_le (Nat.lt_succ_iff.1 hj) with h|rfl
   ·exact hk2 j h
   ·rw [hck,g4,g5,g6,decide_eq_true hz];simp
 have hkl:k=x.holds.length:=by omega
 refine go ?_;intros
 refine ret () trivial ?_
 rw [goodSrc_yes g1 g2 g3 (hkl▸hk2)];rfl
theorem l11Good_f (x:Source) (v:Value) (F:List Nat):Fn Tryz.prog 77 [v] [.isv ESource v x F] [] (fun (_:Unit)=>True) (fun _=>.bool (goodSrc x)) (fun _=>[]):=by
 refine enter Tryz.func77 rfl Tryz.ntmps77 fun w0=>?_
 refine openSource ?_
 rintro a1 c1 F1 a2 c2 F2 rfl l1 l2
 unfold maxLen at l1 l2
 refine closeSendWindow x.window ?_
 generalize F1=F3
 refine go ?_;intros
 refine cb (fun w st=>l9Good_c _ x.window _ w (st.get (p:=.isv ESendWindow (.agg #[.int .i64 x.window.trail,.int .i64 x.window.size,.slice a1 x.window.items.length c1]) x.window F3) (by simp))) ?_
 cases g1:goodWin x.window
 ·refine go ?_;intros
  refine ret () trivial ?_
  simp [goodSrc,g1,tup]
 obtain ⟨⟨t0,t1⟩, -⟩:=goodWin_iff.1 g1
 refine go ?_;intros
 refine ce (fun w s=>l11Clock_c _ _) ?_
 cases g2:isClk x.clock
 ·refine go ?_;intros
  refine ret () trivial ?_
  simp [goodSrc,g2,tup]
 obtain ⟨k0,k1⟩:=clk_bd g2
 refine go ?_;intros
 refine ce (fun w s=>l1In_c _ _ _ _) ?_
 cases g3:btw 0 x.quiet 3
 ·refine go ?_;intros
  refine ret () trivial ?_
  simp [goodSrc,g3,tup]
 refine go ?_;intros
 refine c_loopR [1,2] (fun k:Nat=>[(3,.int .i64 k)]) (fun k=>k≤x.holds.length∧∀j,j < k→chkH x j=true) (fun k=>x.holds.length - k) 0 ⟨Nat.zero_le _,fun j h=>by omega⟩ fun k hk=>?_
 obtain ⟨hk1,hk2⟩:=hk
 refine go ?_;intros
 refine c_if rfl (fun h3=>?_) (fun h3=>?_)
 ·have hk3:k < x.holds.length:=by omega
  have bad:chkH x k=false→goodSrc x=false:=fun h=>goodSrc_no hk3 h
  have hck:=chkH_at hk3
  refine atHold (xs:=x.holds) k ?_
  rintro hi b o e
  rw [e]
  refine go ?_;intros
  refine ce (fun w s=>l2Good_c _ _) ?_
  cases g4:isSer x.holds[k].number
  ·refine go ?_;intros
   refine ret () trivial ?_
   rw [bad (by rw [hck,g4];rfl)];rfl
  obtain ⟨m0,m1⟩:=isSer_iff.1 g4
  refine go ?_;intros
  refine cb (fun w st=>(l9Held_f x.window x.holds[k].number _ _ t0 t1 m0 m1).val w (hol1 (st.get (p:=.isv ESendWindow (.agg #[.int .i64 x.window.trail,.int .i64 x.window.size,.slice a1 x.window.items.length c1]) x.window F3) (by simp)))) ?_
  cases g5:heldB x.window x.holds[k].number
  ·refine go ?_;intros
   refine ret () trivial ?_
   rw [bad (by rw [hck,g4,g5];rfl)];rfl
  refine go ?_;intros
  refine ce (fun w s=>l1In_c _ _ _ _) ?_
  cases g6:btw (x.clock+1) x.holds[k].untl (x.clock+3)
  ·refine go ?_;intros
   refine ret () trivial ?_
   rw [bad (by rw [hck,g4,g5,g6];rfl)];rfl
  refine go ?_;intros
  by_cases hk0:0 < k
  ·have hk4:k - 1 < x.holds.length:=by omega
   have hp:=hk2 (k - 1) (by omega)
   rw [chkH_at hk4] at hp
   simp only [Bool.and_eq_true] at hp
   obtain ⟨p0,p1⟩:=isSer_iff.1 hp.1.1.1
   rw [←e]
   refine atHold (xs:=x.holds) (k - 1) ?_
   rintro hi5 b5 o5 e5
   rw [e5]
   refine d_start [0,1,3] [] ?_
   refine dt2 0 1 ?_
   rw [decide_eq_true (show (0:Int) < k by omega)]
   refine dt 2 ?_
   refine dtg 3 ?_
   refine dtg 4 ?_
   refine dtg 5 ?_
   refine dtg 6 ?_
   refine dtg 7 ?_
   refine dtg 8 ?_
   refine dtg 9 ?_
   rw [show (k:Int) - 1=((k - 1:Nat):Int) by omega]
   refine dtg 10 ?_
   refine dtg 11 ?_
   refine dtg 12 ?_
   refine dtg 14 ?_
   refine dtg 15 ?_
   refine dtg 16 ?_
   refine dtg 17 ?_
   refine dtg 18 ?_
   refine d1g 13 ?_
   apply On.h
   refine oC ?_
   refine ce (fun w s=>l2Gap_c _ _ _ (by omega) (by omega)) ?_
   refine dk ?_
   refine d1g 19 ?_
   apply On.h
   refine oC ?_
   refine ce (fun w s=>l2Gap_c _ _ _ (by omega) (by omega)) ?_
   refine dk ?_
   refine dtg 20 ?_
   refine dt 21 ?_
   refine dd ?_
   refine go ?_;intros
   refine c_if rfl (fun h6=>?_) (fun h6=>?_)
   ·refine go ?_;intros
    refine ret () trivial ?_
    rw [bad (by rw [hck,decide_eq_true h6,decide_eq_false (show ¬k=0 by omega)];simp)];rfl
   ·refine go ?_;intros
    refine n_lp (k+1) ⟨by omega,fun j hj=>?_⟩ (by omega)
    rcases Nat.lt_or_eq_of_le (Nat.lt_succ_iff.1 hj) with h|rfl
    ·exact hk2 j h
    ·rw [hck,g4,g5,g6,decide_eq_false h6];simp
  ·have hz:k=0:=by omega
   refine d_start [0,2] [] ?_
   refine dt2 0 1 ?_
   rw [decide_eq_false (show ¬(0:Int) < k by omega)]
   refine dt 2 ?_
   refine ds 3 ?_
   refine ds 4 ?_
   refine ds 5 ?_
   refine ds 6 ?_
   refine ds 7 ?_
   refine ds 8 ?_
   refine ds 9 ?_
   refine ds 10 ?_
   refine ds 11 ?_
   refine ds 12 ?_
   refine ds 13 ?_
   refine ds 14 ?_
   refine ds 15 ?_
   refine ds 16 ?_
   refine ds 17 ?_
   refine ds 18 ?_
   refine ds 19 ?_
   refine ds 20 ?_
   refine dt 21 ?_
   refine dd ?_
   refine go ?_;intros
   refine n_lp (k+1) ⟨by omega,fun j hj=>?_⟩ (by omega)
   rcases Nat.lt_or_eq_of_le (Nat.lt_succ_iff.1 hj) with h|rfl
   ·exact hk2 j h
   ·rw [hck,g4,g5,g6,decide_eq_true hz];simp
 have hkl:k=x.holds.length:=by omega
 refine go ?_;intros
 refine ret () trivial ?_
 rw [goodSrc_yes g1 g2 g3 (hkl▸hk2)];rfl
def goodQ (l:List Packet):Bool:=decide (l.length≤6) && l.all goodPk
def upQ (l:List Packet):Bool:=l.all fun p=>decide (p.kind=3)
def zElem (e:Element):Bool:=decide (e.clock=0) && decide (e.entries.length=0)
def zRecv (r:Receiver):Bool:=!r.started && decide (r.clock=0) && zeroRec r
def rightN (par:List Int) (clk:Int) (i:Nat) (e:Element) (r:Receiver) (d u:List Packet):Bool:=goodQ d && goodQ u && upQ u &&
 (if i=0 then zElem e && zRecv r && decide (d.length=0) && decide (u.length=0)
  else if leafT par i then zElem e && goodRec r && decide (r.clock=clk) else goodElement e && decide (e.clock=clk) && zRecv r)
def atNode (n:Net) (i:Nat):Bool:=match n.elements[i]?,n.receivers[i]?,n.down[i]?,n.up[i]? with
 | some e,some r,some d,some u=>rightN n.tree.parent n.source.clock i e r d u
 | _,_,_,_=>true
def lensN (n:Net):Bool:=decide (n.elements.length=n.tree.parent.length) && decide (n.receivers.length=n.tree.parent.length) && decide (n.down.length=n.tree.parent.length) && decide (n.up.length=n.tree.parent.length)
def goodNet (n:Net):Bool:=goodTree n.tree && goodSrc n.source && lensN n && allUpTo (atNode n) n.tree.parent.length
theorem atNode_at {n:Net} {i:Nat} (h1:i < n.elements.length) (h2:i < n.receivers.length) (h3:i < n.down.length) (h4:i < n.up.length):atNode n i=rightN n.tree.parent n.source.clock i n.elements[i] n.receivers[i] n.down[i] n.up[i]:=by
 unfold atNode
 rw [List.getElem?_eq_getElem h1,List.getElem?_eq_getElem h2,List.getElem?_eq_getElem h3,List.getElem?_eq_getElem h4]
theorem lensN_iff {n:Net}:lensN n=true↔n.elements.length=n.tree.parent.length∧n.receivers.length=n.tree.parent.length∧n.down.length=n.tree.parent.length∧n.up.length=n.tree.parent.length:=by
 unfold lensN
 simp only [Bool.and_eq_true,decide_eq_true_eq]
 exact ⟨fun ⟨⟨⟨a,b⟩,c⟩,d⟩=>⟨a,b,c,d⟩,fun ⟨a,b,c,d⟩=>⟨⟨⟨a,b⟩,c⟩,d⟩⟩
theorem goodNet_iff {n:Net}:goodNet n=true↔goodTree n.tree=true∧goodSrc n.source=true∧lensN n=true∧∀i,i < n.tree.parent.length→atNode n i=true:=by
 unfold goodNet
 simp only [Bool.and_eq_true]
 exact ⟨fun ⟨⟨⟨a,b⟩,c⟩,d⟩=>⟨a,b,c,allUpTo_get d⟩,fun ⟨a,b,c,d⟩=>⟨⟨⟨a,b⟩,c⟩,allUpTo_yes d⟩⟩
theorem goodNet_at {n:Net} {i:Nat} (hi:i < n.tree.parent.length) (h:atNode n i=false):goodNet n=false:=by unfold goodNet;rw [allUpTo_no hi h,Bool.and_false]
theorem zRecv_of {r:Receiver} (h:goodRec r=true):zRecv r=(!r.started && decide (r.clock=0)):=by
 unfold zRecv
 cases hs:r.started
 ·unfold goodRec at h
  rw [hs] at h
  simp only [Bool.and_eq_true,Bool.false_eq_true,if_false] at h
  rw [h.2,Bool.and_true]
 ·rfl
theorem good_zRecv {r:Receiver} (h:zRecv r=true):goodRec r=true:=by
 unfold zRecv at h
 simp only [Bool.and_eq_true,Bool.not_eq_true',decide_eq_true_eq] at h
 unfold goodRec
 rw [h.1.1,h.2,h.1.2];rfl
theorem good_zElem {e:Element} (h:zElem e=true):goodElement e=true:=by
 unfold zElem at h
 simp only [Bool.and_eq_true,decide_eq_true_eq] at h
 unfold goodElement
 rw [h.1,h.2];rfl
def rightS (par:List Int) (clk:Int) (i:Nat) (e:Element) (r:Receiver) (d u:List Packet):Bool:=goodElement e && goodRec r && goodQ d && (goodQ u && upQ u) &&
 (if i=0 then zElem e && (!r.started && decide (r.clock=0)) && decide (d.length+u.length=0)
  else if leafT par i then zElem e && decide (r.clock=clk) else (!r.started && decide (r.clock=0)) && decide (e.clock=clk))
theorem rightS_eq (par:List Int) (clk:Int) (i:Nat) (e:Element) (r:Receiver) (d u:List Packet):rightS par clk i e r d u=rightN par clk i e r d u:=by
 have hz:(decide (d.length+u.length=0))=(decide (d.length=0) && decide (u.length=0)):=by
  by_cases a:d.length=0 <;> by_cases b:u.length=0 <;> simp [a,b]
 unfold rightS rightN
 rw [hz]
 cases gq:goodQ d <;> cases gu:goodQ u <;> cases gk:upQ u <;> simp only [Bool.and_false,Bool.false_and,Bool.and_true,Bool.true_and]
 split
 ·cases he:zElem e
  ·simp
  ·rw [good_zElem he]
   cases hr:goodRec r
   ·cases hr2:zRecv r
    ·simp
    ·rw [good_zRecv hr2] at hr;cases hr
   ·rw [zRecv_of hr];simp [Bool.and_assoc]
 ·split
  ·cases he:zElem e
   ·simp
   ·rw [good_zElem he];simp
  ·cases hr:goodRec r
   ·cases hr2:zRecv r
    ·simp
    ·rw [good_zRecv hr2] at hr;cases hr
   ·rw [zRecv_of hr]
    cases goodElement e <;> cases (!r.started && decide (r.clock=0)) <;> simp
def pushQ (q:List Packet) (p:Packet):List Packet:=if q.length < 6 then q++[p] else q
def putQ (q ps:List Packet):List Packet:=q++ps.take (6 - q.length)
theorem putQ_nil (q:List Packet):putQ q []=q:=by unfold putQ;simp
theorem putQ_cons (q:List Packet) (p:Packet) (ps:List Packet):putQ (pushQ q p) ps=putQ q (p::ps):=by
 unfold putQ pushQ
 by_cases h:q.length < 6
 ·rw [if_pos h,show 6 - q.length=(6 - (q.length+1))+1 by omega,List.take_succ_cons]
  simp
 ·rw [if_neg h,show 6 - q.length=0 by omega];simp
theorem putQ_one (q:List Packet) (p:Packet):putQ q [p]=pushQ q p:=by rw [←putQ_cons,putQ_nil]
theorem putQ_len (q ps:List Packet):(putQ q ps).length≤q.length+ps.length∧(q.length≤6→(putQ q ps).length≤6):=by
 unfold putQ
 rw [List.length_append,List.length_take]
 omega
theorem putQ_good {q ps:List Packet} (hq:goodQ q=true) (hp:∀p∈ps,goodPk p=true):goodQ (putQ q ps)=true:=by
 unfold goodQ at *
 simp only [Bool.and_eq_true,decide_eq_true_eq] at hq ⊢
 refine ⟨(putQ_len q ps).2 hq.1,?_⟩
 unfold putQ
 rw [List.all_append,hq.2,Bool.true_and,List.all_eq_true]
 exact fun p h=>hp p (List.mem_of_mem_take h)
def spread (d:List (List Packet)) (nodes:List Int) (ps:List Packet):List (List Packet):=nodes.foldl (fun d x=>d.modify x.toNat fun q=>putQ q ps) d
theorem spread_len (ps:List Packet):∀(nodes:List Int) (d:List (List Packet)),(spread d nodes ps).length=d.length
 | [],_=>rfl
 | x::r,d=>by
  show (spread (d.modify x.toNat fun q=>putQ q ps) r ps).length=d.length
  rw [spread_len ps r,List.length_modify]
theorem spread_snoc (d:List (List Packet)) (nodes:List Int) (x:Int) (ps:List Packet):spread d (nodes++[x]) ps=(spread d nodes ps).modify x.toNat fun q=>putQ q ps:=by
 unfold spread
 rw [List.foldl_append];rfl
def wsum (f:Nat→Nat):Nat→List (List Packet)→Nat
 | _,[]=>0
 | k,x::r=>x.length * f k+wsum f (k+1) r
theorem modify_set {l:List (List Packet)} {i:Nat} {g:List Packet→List Packet} (h:i < l.length):l.modify i g=l.set i (g l[i]):=by
 refine List.ext_getElem? fun j=>?_
 rw [List.getElem?_modify,List.getElem?_set]
 by_cases e:i=j
 ·subst e;simp [h]
 ·simp [e]
theorem modify_out {l:List (List Packet)} {i:Nat} {g:List Packet→List Packet} (h:¬i < l.length):l.modify i g=l:=by
 refine List.ext_getElem? fun j=>?_
 rw [List.getElem?_modify]
 by_cases e:i=j
 ·subst e;simp [List.getElem?_eq_none (show l.length≤i by omega)]
 ·simp [e]
theorem kids_behind {l:List Int} (hg:GoodT l) {i:Nat} {x:Int} (h:x∈kids l (i:Int)):i < x.toNat∧x.toNat < l.length∧0≤x:=by
 obtain ⟨j,hj,rfl,e⟩:=kids_mem h
 rcases Nat.eq_zero_or_pos j with rfl|h0
 ·have:=hg.z hj;omega
 ·have:=(hg.p j hj h0).2;simp only [Int.toNat_natCast];omega
theorem kids_len (l:List Int) (node:Int):(kids l node).length≤l.length:=kidsTo_len l node l.length
abbrev Bs:=List UInt8
def behind (b:UInt8) (l:Bs):Bs:=(l.dropWhile (· != b)).drop 1
def Whole (x:Bs):Prop:=∃y,x=y++[10]∧∀c∈y,c≠10
theorem digit_len:∀(n u:Nat),u < 10 ^ (n+1)→(Lib.decDigits u).length≤n+1
 | 0,u,h=>by rw [Lib.decDigits,dif_pos (by simpa using h)];simp
 | n+1,u,h=>by
  rw [Lib.decDigits]
  split
  ·simp
  ·have:=digit_len n (u / 10) (by rw [Nat.pow_succ] at h;omega)
   simp;omega
structure Good (c r:Bs):Prop where
 c0:1≤c.length
 c1:c.length≤160
 r1:r.length≤200
 ct:∀b∈c,(32≤b.toNat∧b.toNat≤126)∧b≠35
 rt:∀b∈r,(32≤b.toNat∧b.toNat≤126)∧b≠35
 ca:∀b∈c,b≠64
def bz (l:Bs):ByteArray:=⟨l.toArray⟩
theorem bz_size (l:Bs):(bz l).size=l.length:=by simp [bz,ByteArray.size]
theorem bz_app (a b:Bs):bz a++bz b=bz (a++b):=by apply ByteArray.ext;simp [bz,ByteArray.data_append]
theorem ret_str {a b:ByteArray} (h:a=b):Ending.returned (.string a)=.returned (.string b):=by rw [h]
theorem below_grow (w:World) (k:Nat) (os:Array Obj):Below w.heap.size w (Go.Sort.grow (w.drewN k) os):=by
 refine ⟨rfl,rfl,rfl,?_,fun i hi=>?_⟩
 ·simp [Go.Sort.grow,World.drewN]
 ·simp [Go.Sort.grow,World.drewN,Array.getElem?_append_left hi]
theorem dig_small:∀n:Nat,n < 10→(⟨#[48,49,50,51,52,53,54,55,56,57]⟩:ByteArray).extract n (n+1)=⟨#[UInt8.ofNat (48+n)]⟩:=by decide
theorem l1Num_c:∀(k n:Nat) (w:World),n < 10 ^ (k+1)→n≤999999999999999999 →
  Calls Tryz.prog 227 #[.int .i64 (n:Int)] w fun e w'=>e=.returned (.string (bz (Lib.decDigits n)))∧∃j,w'=w.drewN j:=by
 intro k
 induction k with
 | zero =>
  intro n w h1 h2
  have h3:n < 10:=by simpa using h1
  have hd:=Lib.hid (dig_small n h3)
  have hn:¬((n:Int) < 0):=by omega
  go_enter Tryz.func227,Tryz.ntmps227
  go_wp2_with fail
  go_ret
  refine ⟨ret_str ?_,0,rfl⟩
  rw [hd.out,Lib.decDigits,dif_pos h3];rfl
 | succ k ih =>
  intro n w h1 h2
  by_cases h3:n < 10
  ·have hd:=Lib.hid (dig_small n h3)
   have hn:¬((n:Int) < 0):=by omega
   go_enter Tryz.func227,Tryz.ntmps227
   go_wp2_with fail
   go_ret
   refine ⟨ret_str ?_,0,rfl⟩
   rw [hd.out,Lib.decDigits,dif_pos h3];rfl
  ·have h4:n / 10 < 10 ^ (k+1):=by rw [Nat.pow_succ] at h1;omega
   have hc:=fun w=>ih (n / 10) w h4 (by omega)
   rw [show ((n / 10:Nat):Int)=(n:Int) / 10 from by omega] at hc
   have hn:¬((n:Int) < 0):=by omega
   have h5:¬((n:Int) < 10):=by omega
   have hd:=Lib.hid (dig_small (n % 10) (by omega))
   have b0:(0:Int)≤(n:Int) % 10:=by omega
   have b1:(n:Int) % 10≤9:=by omega
   have e0:IntKind.i64.wrap ((n:Int) / 10)=(n:Int) / 10:=by rw [IntKind.wrap_i64];omega
   have e1:IntKind.i64.wrap ((n:Int) % 10)=(n:Int) % 10:=by rw [IntKind.wrap_i64];omega
   have e2:IntKind.i64.wrap ((n:Int) % 10+1)=(n:Int) % 10+1:=by rw [IntKind.wrap_i64];omega
   have e3:((n:Int) % 10).toNat=n % 10:=by omega
   have e4:((n:Int) % 10+1).toNat=n % 10+1:=by omega
   have e5:(n:Int).tmod 10=(n:Int) % 10:=Int.tmod_eq_emod_of_nonneg (by omega)
   have e6:(n:Int).tdiv 10=(n:Int) / 10:=Int.tdiv_eq_ediv_of_nonneg (by omega)
   have hsl:∀wx,(Instr.slice 9 (.string ⟨#[48,49,50,51,52,53,54,55,56,57]⟩) (some (.int .i64 ((n:Int) % 10))) (some (.int .i64 ((n:Int) % 10+1))) none).run Tryz.prog wx=.ok (.string ⟨#[UInt8.ofNat (48+n % 10)]⟩) wx:=fun wx=>by
    have h6:=run_slice_string (P:=Tryz.prog) wx 9 ⟨#[48,49,50,51,52,53,54,55,56,57]⟩ .i64 .i64 ((n:Int) % 10) ((n:Int) % 10+1) Tryz.underlying9 (by omega) (by omega) (by show _≤((10:Nat):Int);omega)
    rw [h6,e3,e4,hd.out]
   have hD:(bz (Lib.decDigits (n / 10))).size≤18:=by rw [bz_size];exact digit_len 17 _ (by omega)
   have hd1:(⟨#[UInt8.ofNat (48+n % 10)]⟩:ByteArray).size≤1:=by simp [ByteArray.size]
   have hR:Hid (bz (Lib.decDigits (n / 10))++⟨#[UInt8.ofNat (48+n % 10)]⟩=bz (Lib.decDigits n)):=by
    refine Lib.hid ?_
    conv=>rhs;rw [Lib.decDigits,dif_neg (by omega),←bz_app]
    rfl
   generalize bz (Lib.decDigits (n / 10))=D at *
   generalize (⟨#[UInt8.ofNat (48+n % 10)]⟩:ByteArray)=d at *
   clear ih h1 e3 e4
   go_enter Tryz.func227,Tryz.ntmps227
   go_wp2_with fail
   go_quiet ((go_at_call 227;exact Calls.quiet_of (v:=.string D) (hc (World.drewN _ _))))
   go_wp2_with fail
   go_ret
   refine ⟨ret_str ?_,_,rfl⟩
   exact hR.out
def EEnv:Elem Unit where
 sz:=0
 rep w cs _ F:=cs=[]∧Lib.TabIs Tryz.prog w "internal/strconv.uint64pow10" .u64 Lib.pow10Tab∧F=[2]∧∀b∈F,b < w.heap.size
 len h:=by simp [h.1]
 lt h:=h.2.2.2
 frame h hF:=by
  obtain ⟨h1,h2,rfl,h6⟩:=h
  have e0:=hF 2 (by simp)
  refine ⟨h1,?_,rfl,fun b hb=>?_⟩
  ·unfold Lib.TabIs World.var? at h2 ⊢
   rw [show Tryz.prog.globalNamed "internal/strconv.uint64pow10" = some 2 by kernel_rfl] at h2 ⊢
   simp only [Option.bind_some] at h2 ⊢
   rw [e0];exact h2
  ·have e:=hF b hb
   have:=h6 b hb
   rw [Array.getElem?_eq_getElem this] at e
   exact (Array.getElem?_eq_some_iff.1 e).1
def EnvP (FT:List Nat):Pc:=.isv EEnv (.agg #[]) () FT
theorem EnvP.env {w:World} {FT:List Nat} (h:(EnvP FT).P w):Lib.TabIs Tryz.prog w "internal/strconv.uint64pow10" .u64 Lib.pow10Tab∧True:=by
 obtain ⟨cs,_,h⟩:=h;exact ⟨h.2.1,trivial⟩
theorem itoa_c (n:Int) (h0:-9223372036854775808≤n) (h1:n≤9223372036854775807) (FT:List Nat) (w:World) (hT:(EnvP FT).P w) :
  Calls Tryz.prog 211 #[.int .i64 n] w fun e w'=>e=.returned (.string (bz (Lib.itoa n)))∧Below w.heap.size w w':=by
 refine (Tryz.strconv_Itoa n h0 h1 w (EnvP.env hT).1).mono ?_
 rintro e w' ⟨rfl,k,os,rfl⟩
 exact ⟨rfl,below_grow w k os⟩
theorem num_c (n:Nat) (hn:n≤999999) (w:World):Calls Tryz.prog 227 #[.int .i64 (n:Int)] w fun e w2=>e=.returned (.string (bz (Lib.decDigits n)))∧Below w.heap.size w w2:=by
 refine (l1Num_c 5 n w (by omega) (by omega)).mono ?_
 rintro e w2 ⟨rfl,j,rfl⟩
 exact ⟨rfl,belowDrewN (Below.refl _ _) j⟩
def tellE (i:Nat) (e:ByteArray):ByteArray:=bz (Lib.itoa ((i:Nat):Int))++⟨#[32]⟩++e
def tell (i:Nat) (es:List ByteArray):List ByteArray:=es.map (tellE i)
def dly (i:Nat):Int:=1+((i:Nat):Int) % 3
section
variable {c:Cx} {fr:Fr} {H:List Pc} {Φ:Gl}
theorem atPacket {a:Option Addr} {n cp:Nat} {xs:List Packet} {F:List Nat} (i:Nat) (h:∀(hi:i < xs.length) (b o:Nat),a=some ⟨b,o,none⟩→xs[i].data.size≤maxLen→T c fr (.cel b (o+i * 5) [.int .i64 xs[i].kind,.int .i64 xs[i].number,.int .i64 xs[i].trail,.int .i64 xs[i].lead,.string xs[i].data]::H) Φ) (hm:.sl EPacket (.slice a n cp) xs F∈H:=by (repeat (first|exact .head _|apply List.Mem.tail));first|done|fail) (hi:i < xs.length:=by omega):T c fr H Φ:=.mk fun ac w s g=>by
 obtain ⟨b,o,cs,G,ha,hrep,hG,hb,hne,hr⟩:=sl_at (s.get hm) i hi
 obtain ⟨rfl,s1,rfl⟩:=hrep
 exact (h hi b o  ha s1 ).h ac w (s.ro hm rfl rfl ⟨hne,hr⟩ (by intro x hx;simp [Pc.F] at hx;subst hx;exact hb)) g
theorem focPacket {t:TypeId} {a:Option Addr} {n cp:Nat} {xs:List Packet} {F:List Nat} {S:List Pc} (i:Nat) (h:∀(_:i < xs.length) g A B,a=some ⟨g,0,none⟩→F=[g]→xs[i].data.size≤maxLen→Hole EPacket t g (.slice (some ⟨g,0,none⟩) n cp) xs i A B→T c fr (.row g t (0+i * 5) A [.int .i64 xs[i].kind,.int .i64 xs[i].number,.int .i64 xs[i].trail,.int .i64 xs[i].lead,.string xs[i].data] B::S) Φ) (hp:Pick H (.ow EPacket t (.slice a n cp) xs F) S:=by (repeat (first|exact .here|apply Pick.there));first|done|fail) (hi:i < xs.length:=by omega):T c fr H Φ :=
 focF scal_EPacket i (fun hi g A cs B ha hF hr hh=>by obtain ⟨rfl,s1, -⟩:=hr default;exact h hi g A B ha hF s1 hh) hp rfl hi
theorem flatPacket (x:Packet) (s1:x.data.size≤maxLen) (w:World):Flat EPacket w [.int .i64 x.kind,.int .i64 x.number,.int .i64 x.trail,.int .i64 x.lead,.string x.data] [x] []:=⟨_,[],[],[],by simp,by simp,⟨rfl,s1,rfl⟩,rfl,rfl⟩
end
end Go.Proofs.YtgmbfohkpfineaaGreatDoor
