/- Part 2 of the proof: 44 texts, one behind the other. -/
import Derived.Test.YtbmlecejkacpnaaGreatDoorShelf
import Derived.Lib.Overlaps
import Derived.Lib.AppendZerosOnto
import Derived.Laws.IdiomCopy
import Derived.Lib.ItoaNum
import Derived.Lib.Bytealg
import Derived.Lib.Strings
import Derived.Lib.LaidTab
import Derived.Lib.ItoaMem
import Derived.Test.YtbmlecejkacpnaaGreatDoorM1
open _root_.Go.Proofs.Tryz
set_option maxRecDepth 100000
set_option maxHeartbeats 8000000
set_option linter.all false
set_option linter.unusedVariables false
set_option linter.unusedSimpArgs false
namespace Go.Proofs.YtbmlecejkacpnaaGreatDoor
open Go.RowKit
theorem Vn {A B:List Nat} (h:(A++B).Nodup) {b:Nat} (ha:b∈A) (hb:b∈B):False:=(List.nodup_append.1 h).2.2 b ha b hb rfl
section
variable {c:Cx} {fr:Fr} {H:List Pc} {k:List It} {Φ:Gl} {ops:Array Oper} {rest:List Oper} {d:Nat} {o:Op} {ty:TypeId} {pos:String} {Bn:Array Edge} {v u:Value} {x y:Operand}
theorem ap {α:Type} {E:Br α} {t e m b:Nat} {z:Value} [hS:SlC c.P t e m] [hE:ElT c.P e z m b] {xs ys:List α} {F Fy:List Nat} {ao:Option Addr} {n cp:Nat} {gd:Option (Nat × Bool)} {R S:List Pc} (one:U2 E) (hz:0 < E.sz) (hm:E.sz=m)
  (hp:C1 H (.ow E e v xs F) R) (hx:ev fr x=some v) (hy:ev fr y=some (.slice ao n cp)) (hn:n=ys.length)
  (hsrc:∀w,St c.G c.D c.w0 (.ow E e v xs F::R) w→∃news,Cq E w news ys Fy∧((ao=none∧cp=0∧ys=[])∨∃ad,ao=some ad∧∀j u,news[j]?=some u→w.cell? (ad.add j)=some u)∧(∀b∈Fy,b ∉ F)∧Fy.Nodup)
  (hFy:∀w v' F',St c.G c.D c.w0 (.ow E e v xs F::R) w→(∀b∈F',b∈F∨b∈Fy∨b=w.heap.size)→∀w',Dt F w w'→(Pc.ow E e v' (xs++ys) F').P w'→St c.G c.D c.w0 (.ow E e v' (xs++ys) F'::S) w')
  (h63:xs.length+ys.length≤maxLen) (hby:(xs.length+ys.length) * b≤140737488355328)
  (h:∀a' c' F',T c ((d,.slice a' (xs++ys).length c')::fr) (.ow E e (.slice a' (xs++ys).length c') (xs++ys) F'::S) Φ) (hd:Nat.blt d c.n=true) :
  Ef c fr H ⟨some d,.call { callee:=.builtin .append,args:=#[x,y],argTypes:=#[t,t] },ty,pos,Bn,gd⟩ Φ:=.mk fun Q a w s g=>by
 have s1:=s.pick hp
 obtain ⟨hnd,how⟩:=s1.on (.ow E e v xs F) (by simp)
 obtain ⟨news,hfl,hsr,hdis,hny⟩:=hsrc w s1
 subst hn
 refine Afp (P:=c.P) one hz x y t rfl e z b hS.u (by rw [hE.i,hm]) (by rw [hE.s,hm]) v xs F (g.ev hx) how (Hd.of hnd) ao ys cp (g.ev hy) news Fy hfl hsr (fun b hb e=>hdis b hb (how.own_mem b e)) h63 hby fun v' w' F' hA=>?_
 obtain ⟨a',c',rfl⟩:=hA.val
 rw [←List.length_append] at hA ⊢
 have hw:=hA.ow
 exact (h a' c' F').h _ _ (hFy w _ F' s1 hA.mem w' hA.Kj ⟨hA.Ard hnd hny hdis,hw⟩) (g.put hd)
theorem Lh {α:Type} {E:Br α} {t e m b:Nat} {z:Value} [hS:SlC c.P t e m] [hE:ElT c.P e z m b] {xs ys:List α} {F:List Nat} {g n cp tt:Nat} {cs:List Value} {R S:List Pc}
  (hfl:∀w,Cq E w cs ys []) (one:U2 E) (h:∀a' c' F',T c ((d,.slice a' (xs++ys).length c')::fr) (.ow E e (.slice a' (xs++ys).length c') (xs++ys) F'::S) Φ)
  (hx:ev fr x=some v:=by rfl) (hy:ev fr y=some (.slice (some ⟨g,0,none⟩) n cp):=by rfl) (hp:C1 H (.ow E e v xs F) R:=by exact Dy) (hp2:C1 R (.row g tt 0 [] cs []) S:=by exact Dy) (hn:n=ys.length:=by rfl) (hz:0 < E.sz:=by decide) (hm:E.sz=m:=by rfl)
  (h63:xs.length+ys.length≤9223372036854775807:=by simp only [List.length_cons,List.length_nil];omega) (hby:(xs.length+ys.length) * b≤140737488355328:=by simp only [List.length_cons,List.length_nil];omega) (hd:Nat.blt d c.n=true:=by rfl) :
  On c fr H (some d) (.call { callee:=.builtin .append,args:=#[x,y],argTypes:=#[t,t] }) ty Φ :=
 ⟨fun _ _ _=>ap one hz hm hp hx hy hn (Fy:=[]) (fun w s=>⟨cs,hfl w,.inr ⟨_,rfl,fun j u hu=>by
   have hr:=(s.on (.row g tt 0 [] cs []) (by simp [hp2.mem])).2
   have:=hr.cell j
   simp only [List.nil_append,List.append_nil] at this
   rw [hu] at this
   unfold Addr.add
   split
   ·rename_i e;subst e;exact this
   ·simpa using this⟩,by simp,by simp⟩)
  (fun w v' F' s hF w' hk hv=>by
   have s2:St c.G c.D c.w0 (.ow E e v xs F::S) w:=⟨s.Kj,fun q hq=>s.on q (by rcases List.mem_cons.1 hq with rfl|hq;simp;simp [hp2.sub q hq]),⟨fun q hq=>s.Y2.1 q (hp2.sub q hq),(hp2.Y2 s.Y2.2).2⟩,fun q hq=>s.Vk q (by rcases List.mem_cons.1 hq with rfl|hq;simp;simp [hp2.sub q hq])⟩
   exact St.turn (M:=[.ow E e v xs F]) (N:=[.ow E e v' (xs++ys) F']) s2 (by simpa [List.filter,Pc.mu,fp,Pc.F] using hk) (by intro q hq;simp at hq;subst hq;exact hv) ⟨by simp,trivial⟩ (by
    intro q hq b hb
    simp at hq;subst hq
    rcases hF b hb with h|h|h
    ·exact .inr (.inl ⟨.ow E e v xs F,by simp,rfl,h⟩)
    ·simp at h
    ·exact .inl (by omega)))
  (by unfold maxLen;exact h63) hby h hd⟩
theorem Ku {α:Type} {E:Br α} {t e m b:Nat} {z:Value} [hS:SlC c.P t e m] [hE:ElT c.P e z m b] {xs ys:List α} {F G:List Nat} {ao:Option Addr} {n cp:Nat} {R:List Pc}
  (one:U2 E) (sc:∀{w cs x F},E.Jr w cs x F→F=[]) (h:∀a' c' F',T c ((d,.slice a' (xs++ys).length c')::fr) (.ow E e (.slice a' (xs++ys).length c') (xs++ys) F'::R) Φ)
  (hx:ev fr x=some v:=by rfl) (hy:ev fr y=some (.slice ao n cp):=by rfl) (hp:C1 H (.ow E e v xs F) R:=by exact Dy) (hp2:.sl E (.slice ao n cp) ys G∈R:=by exact B8) (hn:n=ys.length:=by rfl) (hz:0 < E.sz:=by decide) (hm:E.sz=m:=by rfl)
  (h63:xs.length+ys.length≤9223372036854775807:=by first|omega|(simp only [List.length_cons,List.length_nil];omega)) (hby:(xs.length+ys.length) * b≤140737488355328:=by first|omega|(simp only [List.length_cons,List.length_nil];omega)) (hd:Nat.blt d c.n=true:=by rfl) :
  On c fr H (some d) (.call { callee:=.builtin .append,args:=#[x,y],argTypes:=#[t,t] }) ty Φ :=
 have flat0:∀{w cs zs G},Cq E w cs zs G→G=[]:=fun {w cs zs G}=>by
  induction zs generalizing cs G with
  | nil=>intro h;exact h.2
  | cons z r ih=>intro h;obtain ⟨c1,c2,F1,F2,_,rfl,h1,h2⟩:=h;rw [sc h1,ih h2];rfl
 ⟨fun _ _ _=>ap one hz hm hp hx hy hn (Fy:=[]) (fun w s=>by
   obtain ⟨-,hs⟩:=s.on (.sl E (.slice ao n cp) ys G) (by simp [hp2])
   obtain ⟨ao',cc,news,Fy,he, -,hfy, -,hsrc⟩:=hs.src
   simp only [Value.slice.injEq] at he
   obtain ⟨rfl, -,rfl⟩:=he
   obtain rfl:=flat0 hfy
   exact ⟨news,hfy,hsrc,by simp,by simp⟩)
  (fun w v' F' s hF w' hk hv=>St.turn (M:=[.ow E e v xs F]) (N:=[.ow E e v' (xs++ys) F']) s (by simpa [List.filter,Pc.mu,fp,Pc.F] using hk) (by intro q hq;simp at hq;subst hq;exact hv) ⟨by simp,trivial⟩ (by
    intro q hq b hb
    simp at hq;subst hq
    rcases hF b hb with h|h|h
    ·exact .inr (.inl ⟨.ow E e v xs F,by simp,rfl,h⟩)
    ·simp at h
    ·exact .inl (by omega)))
  (by unfold maxLen;exact h63) hby h hd⟩
/-! parts of slices that read -/
theorem Xa {P:Program} {t e m:Nat} (hS:SlC P t e m):P.elem t=e:=by simp [Program.elem,hS.u]
theorem sld {α:Type} {E:Br α} {t e m:Nat} [hS:SlC c.P t e m] {a:Option Addr} {n cp:Nat} {xs:List α} {F:List Nat} {i:Int} (j:Nat) (h:∀a' c' F',T c ((d,.slice a' (xs.drop j).length c')::fr) (.sl E (.slice a' (xs.drop j).length c') (xs.drop j) F'::H) Φ)
  (hx:ev fr x=some (.slice a n cp):=by rfl) (hy:ev fr y=some (.int .i64 i):=by rfl) (hm:.sl E (.slice a n cp) xs F∈H:=by exact B8) (hi:i=(j:Int):=by first|rfl|omega) (hj:j≤xs.length:=by omega) (he:E.sz=m:=by rfl) (hd:Nat.blt d c.n=true:=by rfl):On c fr H (some d) (.slice t x (some y) none none) ty Φ:=⟨fun pos Bn gd=>Mx fun Q ac w s g=>by
 subst hi
 obtain ⟨hz,hs⟩:=s.get hm
 have he2:=Xa hS
 obtain ⟨a2,c2,F',hr,hF,h2⟩:=hs.dropS t (by rw [he2];exact hS.u) j hj (fun W=>by rw [he2,he];exact Jy hS.s W)
 have e1:(execOp ac.eval ⟨some d,.slice t x (some y) none none,ty,pos,Bn,gd⟩).run c.P w=.ok (.value (.slice a2 (xs.drop j).length c2)) w:=by
  simp [execOp,g.ev hx,g.ev hy,hr]
 rw [e1]
 rw [←List.length_drop] at h2
 exact (h a2 c2 F').h _ w (s.ro hm rfl rfl ⟨hz,h2⟩ hF) (g.put hd)⟩
/-! one element of an owned slice, of elements without blocks of their own -/
def Ai2 {α:Type} (E:Br α) (t:TypeId) (g:Nat) (v:Value) (xs:List α) (i:Nat) (A B:List Value):Prop:=∀w cs y,Hm w g t (A++cs++B)→E.Jr w cs y []→Ow E t w v (xs.set i y) [g]
theorem Nl {α:Type} {E:Br α} {t:TypeId} {a:Option Addr} {n cp m:Nat} {xs:List α} {F:List Nat} {S:List Pc} (sc:Ua E) (i:Nat) (h:∀(_:i < xs.length) g A cs B,a=some ⟨g,0,none⟩→F=[g]→(∀w,E.Jr w cs xs[i] [])→Ai2 E t g (.slice (some ⟨g,0,none⟩) n cp) xs i A B→T c fr (.row g t (0+i * m) A cs B::S) Φ)
  (hp:C1 H (.ow E t (.slice a n cp) xs F) S) (hm:E.sz=m) (hi:i < xs.length):T c fr H Φ:=.mk fun ac w s g=>by
 have z1:=s.pick hp
 obtain ⟨-,ho⟩:=z1.on (.ow E t (.slice a n cp) xs F) (by simp)
 obtain ⟨g0,cap,A,cs,B,G1,Fi,G2,hv,hr,hA, -,hx,rfl, -,hW⟩:=ho.focus i hi
 cases hv
 obtain rfl:=sc hx
 have hG:∀b,b ∉ G1++G2:=by
  intro b hb
  have:=ho.scal sc
  simp only [Value.ownBlock,Option.toList_some,List.append_nil,List.cons.injEq,true_and] at this
  rw [this] at hb;simp at hb
 have hG0:G1++G2=[]:=List.eq_nil_iff_forall_not_mem.2 hG
 subst hm
 refine (h hi g0 A cs B rfl (by simpa using hG0) (fun w'=>E.frame hx (by simp)) (fun w' c' y hr' hy=>?_)).h ac w (z1.conv rfl ⟨by omega,hr⟩ (by intro b hb;simp [Pc.F] at hb;subst hb;simp [Pc.F])) g
 have:=hW w' c' y [] hr' hy (fun b hb=>absurd hb (hG b))
 simpa [hG0] using this
theorem Mr {α:Type} {E:Br α} {t:TypeId} {g o:Nat} {v:Value} {xs:List α} {i:Nat} {A cs B:List Value} {S:List Pc} (y:α) (hh:Ai2 E t g v xs i A B) (hy:∀w,E.Jr w cs y []) (h:T c fr (.ow E t v (xs.set i y) [g]::S) Φ) (hp:C1 H (.row g t o A cs B) S:=by exact Dy):T c fr H Φ:=.mk fun ac w s ag=>by
 have z1:=s.pick hp
 obtain ⟨-,hr⟩:=z1.on (.row g t o A cs B) (by simp)
 exact h.h ac w (z1.conv rfl ⟨by simp,hh w cs y hr (hy w)⟩ (fun b hb=>hb)) ag
/-! calls by the elder contracts -/
theorem cn {α:Type} {E:Br α} {t:TypeId} {xs:List α} {f:Nat} {vs:List Value} (hc:∀w,St c.G c.D c.w0 H w→Calls c.P f vs.toArray w (U4 E t xs w)) (h:∀a cp F,T c ((d,.slice a xs.length cp)::fr) (.ow E t (.slice a xs.length cp) xs F::H) Φ):Cl c fr H d f vs Φ :=
 V8 hc (fun w e w' s hR=>by
  obtain ⟨v,F,he,ho,hn,hF,hB⟩:=hR
  obtain ⟨a,cp,rfl⟩:=ho.slice
  exact ⟨_,he,fun ac g=>(h a cp F).h ac w' (s.add (N:=[.ow E t (.slice a xs.length cp) xs F]) hB (by intro q hq;simp at hq;subst hq;exact ⟨hn,ho⟩) ⟨by simp,trivial⟩ (by intro q hq b hb;simp at hq;subst hq;exact .inl (hF b hb))) g⟩)
theorem cr {α:Type} {E:Br α} {z:α} {f:Nat} {vs:List Value} (hc:∀w,St c.G c.D c.w0 H w→Calls c.P f vs.toArray w (Aq2 E z w)) (h:∀v F,T c ((d,v)::fr) (.isv E v z F::H) Φ):Cl c fr H d f vs Φ :=
 V8 hc (fun w e w' s hR=>by
  obtain ⟨v,F,he,ho,hF,hB⟩:=hR
  exact ⟨_,he,fun ac g=>(h v F).h ac w' (s.add (N:=[.isv E v z F]) hB (by intro q hq;simp at hq;subst hq;exact ho) ⟨by simp,trivial⟩ (by intro q hq b hb;simp at hq;subst hq;exact .inl (hF b hb))) g⟩)
theorem cv {α:Type} {E:Br α} {z:α} {f:Nat} {vs:List Value} (hc:∀w,St c.G c.D c.w0 H w→Calls c.P f vs.toArray w (Ajb E z w)) (h:∀v F,T c ((d,v)::fr) (.own E v z F::H) Φ):Cl c fr H d f vs Φ :=
 V8 hc (fun w e w' s hR=>by
  obtain ⟨v,F,he,ho,hn,hF,hB⟩:=hR
  exact ⟨_,he,fun ac g=>(h v F).h ac w' (s.add (N:=[.own E v z F]) hB (by intro q hq;simp at hq;subst hq;exact ⟨hn,ho⟩) ⟨by simp,trivial⟩ (by intro q hq b hb;simp at hq;subst hq;exact .inl (hF b hb))) g⟩)
/-! regions that draw their order -/
inductive Nth:List Pc→Nat→Pc→Prop
 | zero {p R}:Nth (p::R) 0 p
 | succ {x p R i}:Nth R i p→Nth (x::R) (i+1) p
inductive Sel (H:List Pc):List Nat→List Pc→Prop
 | nil:Sel H [] []
 | cons {i is p R}:Nth H i p→Sel H is R→Sel H (i::is) (p::R)
theorem Nth.mem {H i p} (h:Nth H i p):p∈H:=by
 induction h with
 | zero=>simp
 | succ _ ih=>simp [ih]
variable {H0:List Pc} {X:List Nat} {f:Nat} {listed:Array Bool}
theorem Aw {id:Nat} {l:List Oper} (is X:List Nat) (h:T c fr H (.dx k H0 X l.toArray l.length (Array.replicate l.length false))) (_hsel:Sel H is H0:=by repeat constructor) (hm:c.P.follows .mixedOrders=true:=by kernel_rfl):T c fr H (.Bl k (Code.region id l.toArray true)):=.mk fun a w s g=>by
 refine C3.start (S:=Ms H0) (X:=fun i=>X.contains i) hm ?_
 have:=h.h a w.drew (s.below (Hk (Below.refl _ _) 1)) g
 simpa [Gl.sem] using this
def T8 (c:Cx):Prop:=∀ch d v a w,c.R (.panic ch) (Act.put a d v) w→c.R (.panic ch) a w
theorem Wm {P:Program} {D G:List Nat} {w0:World} {n:Nat} {fn:Func} {R:Ending→World→Prop}:T8 ⟨P,G,D,w0,n,bodyPost P fn R⟩:=fun ch d v a w h=>by
 cases d <;> exact h
theorem dt (i:Nat) (h:T c ((d,v)::fr) H (.dx k H0 X ops f (listed.setIfInBounds i true))) (ho:ops[i]?=some ⟨some d,o,ty,pos,Bn,none⟩:=by rw [List.getElem?_toArray];rfl) (hy:Yd c.P c.n fr H0 o ty v:=by exact ydE) (hs:Mc H0 H:=by repeat (first|exact Mc.nil|refine Mc.cons (by exact B8) ?_))
  (h1:Region.noSelect ops=true:=by kernel_rfl) (h2:Region.free .any ops listed i=true:=by kernel_rfl) (h3:(Region.ready .any ops listed).contains i=true:=by kernel_rfl) (h4:Ns .any ops (fun i=>X.contains i) i=true:=by kernel_rfl) (h5:N4 .any ops listed=true:=by kernel_rfl) (hR:T8 c:=by exact Wm) (hd:Nat.blt d c.n=true:=by rfl) :
  T c fr H (.dx k H0 X ops (f+1) listed):=.mk fun a w s g =>
 C3.take (v:=v) ho h1 h2 h3 h4 h5 (fun ch a w hp=>by rw [Jq] at hp ⊢;exact hR _ _ _ _ _ hp) (.inl ⟨rfl,fun w' hw'=>hy.h a w' _ _ _ _ g hw'⟩) (fun p hp=>s.on p (hs.all p hp)) (h.h _ _ s (g.put hd))
theorem Aes (i j:Nat) {α:Type} {E:Br α} {t e m:Nat} [hS:SlC c.P t e m] {a:Option Addr} {n cp:Nat} {xs:List α} {F:List Nat} {z:Int} (h:∀a' c' F',T c ((d,.slice a' (xs.drop j).length c')::fr) (.sl E (.slice a' (xs.drop j).length c') (xs.drop j) F'::H) (.dx k H0 X ops f (listed.setIfInBounds i true))) (ho:ops[i]?=some ⟨some d,.slice t x (some y) none none,ty,pos,Bn,none⟩:=by rw [List.getElem?_toArray];rfl)
  (hx:ev fr x=some (.slice a n cp):=by rfl) (hy:ev fr y=some (.int .i64 z):=by rfl) (hm:.sl E (.slice a n cp) xs F∈H:=by exact B8) (hi:z=(j:Int):=by first|rfl|omega) (hj:j≤xs.length:=by omega) (he:E.sz=m:=by rfl) (hs:Mc H0 H:=by repeat (first|exact Mc.nil|refine Mc.cons (by exact B8) ?_))
  (h1:Region.noSelect ops=true:=by kernel_rfl) (h2:Region.free .any ops listed i=true:=by kernel_rfl) (h3:(Region.ready .any ops listed).contains i=true:=by kernel_rfl) (h4:Ns .any ops (fun i=>X.contains i) i=true:=by kernel_rfl) (h5:N4 .any ops listed=true:=by kernel_rfl) (hR:T8 c:=by exact Wm) (hd:Nat.blt d c.n=true:=by rfl) :
  T c fr H (.dx k H0 X ops (f+1) listed):=.mk fun ac w s g=>by
 subst hi
 obtain ⟨hz,hs'⟩:=s.get hm
 have he2:=Xa hS
 obtain ⟨a2,c2,F',hr,hF,h2'⟩:=hs'.dropS t (by rw [he2];exact hS.u) j hj (fun W=>by rw [he2,he];exact Jy hS.s W)
 rw [←List.length_drop] at h2' hr
 refine C3.take (v:=.slice a2 (xs.drop j).length c2) ho h1 h2 h3 h4 h5 (fun ch a w hp=>by rw [Jq] at hp ⊢;exact hR _ _ _ _ _ hp) (.inl ⟨rfl,fun w' _=>?_⟩) (fun p hp=>s.on p (hs.all p hp)) ((h a2 c2 F').h _ w (s.ro hm rfl rfl ⟨hz,h2'⟩ hF) (g.put hd))
 simp only [execOp,Option.map_none,Option.map_some,g.ev hx,g.ev hy,Sem.run_bind,hr,Result.andThen_ok,Sem.run_pure]
theorem En (i:Nat) {j t:Nat} {b:Bool} (h:T c ((d,v)::fr) H (.dx k H0 X ops f (listed.setIfInBounds i true))) (ho:ops[i]?=some ⟨some d,o,ty,pos,Bn,some (j,b)⟩:=by rw [List.getElem?_toArray];rfl) (ht:(ops[j]?).bind (·.dst)=some t:=by rfl) (hl:Nv fr t=some (.bool b):=by rfl) (hy:Yd c.P c.n fr H0 o ty v:=by exact ydE) (hs:Mc H0 H:=by repeat (first|exact Mc.nil|refine Mc.cons (by exact B8) ?_))
  (h1:Region.noSelect ops=true:=by kernel_rfl) (h2:Region.free .any ops listed i=true:=by kernel_rfl) (h3:(Region.ready .any ops listed).contains i=true:=by kernel_rfl) (h4:Ns .any ops (fun i=>X.contains i) i=true:=by kernel_rfl) (h5:N4 .any ops listed=true:=by kernel_rfl) (hR:T8 c:=by exact Wm) (hd:Nat.blt d c.n=true:=by rfl) :
  T c fr H (.dx k H0 X ops (f+1) listed):=.mk fun a w s g =>
 C3.take (v:=v) ho h1 h2 h3 h4 h5 (fun ch a w hp=>by rw [Jq] at hp ⊢;exact hR _ _ _ _ _ hp) (.inl ⟨by rw [Qd (c:=c) ht hl g];simp,fun w' hw'=>hy.h a w' _ _ _ _ g hw'⟩) (fun p hp=>s.on p (hs.all p hp)) (h.h _ _ s (g.put hd))
theorem ds (i:Nat) {j t:Nat} {b b':Bool} (h:T c ((d,undef)::fr) H (.dx k H0 X ops f (listed.setIfInBounds i true))) (ho:ops[i]?=some ⟨some d,o,ty,pos,Bn,some (j,b)⟩:=by rw [List.getElem?_toArray];rfl) (ht:(ops[j]?).bind (·.dst)=some t:=by rfl) (hl:Nv fr t=some (.bool b'):=by rfl) (hb:(b' == b)=false:=by rfl) (hs:Mc H0 H:=by repeat (first|exact Mc.nil|refine Mc.cons (by exact B8) ?_))
  (h1:Region.noSelect ops=true:=by kernel_rfl) (h2:Region.free .any ops listed i=true:=by kernel_rfl) (h3:(Region.ready .any ops listed).contains i=true:=by kernel_rfl) (h4:Ns .any ops (fun i=>X.contains i) i=true:=by kernel_rfl) (h5:N4 .any ops listed=true:=by kernel_rfl) (hR:T8 c:=by exact Wm) (hd:Nat.blt d c.n=true:=by rfl) :
  T c fr H (.dx k H0 X ops (f+1) listed):=.mk fun a w s g =>
 C3.take (v:=undef) ho h1 h2 h3 h4 h5 (fun ch a w hp=>by rw [Jq] at hp ⊢;exact hR _ _ _ _ _ hp) (.inr ⟨by rw [Qd (c:=c) ht hl g];exact hb,rfl⟩) (fun p hp=>s.on p (hs.all p hp)) (h.h _ _ s (g.put hd))
theorem dsu (i:Nat) {j t:Nat} {b:Bool} (h:T c ((d,undef)::fr) H (.dx k H0 X ops f (listed.setIfInBounds i true))) (ho:ops[i]?=some ⟨some d,o,ty,pos,Bn,some (j,b)⟩:=by rw [List.getElem?_toArray];rfl) (ht:(ops[j]?).bind (·.dst)=some t:=by rfl) (hl:Nv fr t=some undef:=by rfl) (hs:Mc H0 H:=by repeat (first|exact Mc.nil|refine Mc.cons (by exact B8) ?_))
  (h1:Region.noSelect ops=true:=by kernel_rfl) (h2:Region.free .any ops listed i=true:=by kernel_rfl) (h3:(Region.ready .any ops listed).contains i=true:=by kernel_rfl) (h4:Ns .any ops (fun i=>X.contains i) i=true:=by kernel_rfl) (h5:N4 .any ops listed=true:=by kernel_rfl) (hR:T8 c:=by exact Wm) (hd:Nat.blt d c.n=true:=by rfl) :
  T c fr H (.dx k H0 X ops (f+1) listed):=.mk fun a w s g =>
 C3.take (v:=undef) ho h1 h2 h3 h4 h5 (fun ch a w hp=>by rw [Jq] at hp ⊢;exact hR _ _ _ _ _ hp) (.inr ⟨by simp only [Region.wanted,yielded,ht,Option.bind_some,g.at_ t _ hl];rfl,rfl⟩) (fun p hp=>s.on p (hs.all p hp)) (h.h _ _ s (g.put hd))
theorem dk {i:Nat} (h:T c fr H (.dx k H0 X ops f listed)) (hs:Mc H0 H:=by repeat (first|exact Mc.nil|refine Mc.cons (by exact B8) ?_)):T c fr H (.dk i k H0 X ops f listed):=.mk fun a w s g=>⟨fun _ p hp=>s.on p (hs.all p hp),h.h a w s g⟩
theorem Mg {i:Nat} (h:T c fr H (.dx k H0 X ops f listed)) (hi:X.contains i=true:=by rfl):T c fr H (.dk i k H0 X ops f listed):=.mk fun a w s g=>⟨fun h0=>(by rw [hi] at h0;cases h0),h.h a w s g⟩
theorem d1 (i:Nat) {o:Oper} (h:Ef c fr H o (.dk i k H0 X ops f (listed.setIfInBounds i true))) (hr:Region.ready .any ops listed=[i]:=by kernel_rfl) (ho:ops[i]?=some o:=by rw [List.getElem?_toArray];rfl) (hg:o.guard=none:=by rfl):T c fr H (.dx k H0 X ops (f+1) listed):=.mk fun a w s g =>
 C3.only hr ho fun K hK=>by
  rw [if_pos (by simp [Region.wanted,hg])]
  exact Oper.wp_mono (fun a' w' h'=>hK a' w' h'.1 h'.2) (h.h _ a w s g)
theorem d1g (i:Nat) {od:Option Tmp} {j t:Nat} {b:Bool} (h:Ef c fr H ⟨od,o,ty,pos,Bn,some (j,b)⟩ (.dk i k H0 X ops f (listed.setIfInBounds i true))) (hr:Region.ready .any ops listed=[i]:=by kernel_rfl) (ho:ops[i]?=some ⟨od,o,ty,pos,Bn,some (j,b)⟩:=by rw [List.getElem?_toArray];rfl) (ht:(ops[j]?).bind (·.dst)=some t:=by rfl) (hl:Nv fr t=some (.bool b):=by rfl):T c fr H (.dx k H0 X ops (f+1) listed):=.mk fun a w s g =>
 C3.only hr ho fun K hK=>by
  rw [if_pos (by rw [Qd (c:=c) ht hl g];simp)]
  exact Oper.wp_mono (fun a' w' h'=>hK a' w' h'.1 h'.2) (h.h _ a w s g)
theorem d2 (i j:Nat) {o o2:Oper} (h:Ef c fr H o (.dk i k H0 X ops f (listed.setIfInBounds i true))) (h':Ef c fr H o2 (.dk j k H0 X ops f (listed.setIfInBounds j true)))
  (hr:Region.ready .any ops listed=[i,j]:=by kernel_rfl) (ho:ops[i]?=some o:=by rw [List.getElem?_toArray];rfl) (ho2:ops[j]?=some o2:=by rw [List.getElem?_toArray];rfl) (hg:o.guard=none:=by rfl) (hg2:o2.guard=none:=by rfl):T c fr H (.dx k H0 X ops (f+1) listed):=.mk fun a w s g =>
 C3.two hr ho ho2 (fun K hK=>by
  rw [if_pos (by simp [Region.wanted,hg])]
  exact Oper.wp_mono (fun a' w' h'=>hK a' w' h'.1 h'.2) (h.h _ a w s g)) (fun K hK=>by
  rw [if_pos (by simp [Region.wanted,hg2])]
  exact Oper.wp_mono (fun a' w' h''=>hK a' w' h''.1 h''.2) (h'.h _ a w s g))
theorem dO (i:Nat) {od:Option Tmp} (hr:Region.ready .any ops listed=[i]) (ho:ops[i]?=some ⟨od,o,ty,pos,Bn,none⟩) (h:On c fr H od o ty (.dk i k H0 X ops f (listed.setIfInBounds i true))):T c fr H (.dx k H0 X ops (f+1) listed):=d1 i (h.h pos Bn none) hr ho rfl
theorem Ob (i j:Nat) {od od2:Option Tmp} {o2:Op} {ty2:TypeId} {pos2:String} {aft2:Array Edge} (hr:Region.ready .any ops listed=[i,j]) (ho:ops[i]?=some ⟨od,o,ty,pos,Bn,none⟩) (ho2:ops[j]?=some ⟨od2,o2,ty2,pos2,aft2,none⟩) (h:On c fr H od o ty (.dk i k H0 X ops f (listed.setIfInBounds i true))) (h':On c fr H od2 o2 ty2 (.dk j k H0 X ops f (listed.setIfInBounds j true))):T c fr H (.dx k H0 X ops (f+1) listed):=d2 i j (h.h pos Bn none) (h'.h pos2 aft2 none) hr ho ho2 rfl rfl
theorem dd (h:T c fr H (.norm k)) (hr:Region.ready .any ops listed=[]:=by kernel_rfl):T c fr H (.dx k H0 X ops f listed):=.mk fun a w s g=>C3.done hr (h.h a w s g) f
theorem ey {gd:Option (Nat × Bool)} (h:T c ((d,v)::fr) H Φ) (hy:Yd c.P c.n fr H o ty v:=by exact ydE) (hd:Nat.blt d c.n=true:=by rfl):Ef c fr H ⟨some d,o,ty,pos,Bn,gd⟩ Φ:=Aoh hy hd h
end
inductive Kf (fr:Fr):List Nat→Fr→Prop
 | nil:Kf fr [] []
 | cons {t v ts r}:Nv fr t=some v→Kf fr ts r→Kf fr (t::ts) ((t,v)::r)
theorem Kf.sub {fr ts r} (h:Kf fr ts r):Js fr r:=by
 induction h with
 | nil=>exact .nil
 | cons h _ ih=>exact .cons h ih
theorem Js.app {fr a b:Fr} (h:Js fr a) (h2:Js fr b):Js fr (a++b):=by
 induction h with
 | nil=>exact h2
 | cons h _ ih=>exact .cons h ih
theorem Ew.hsub {H M R:List Pc} (h:Ew H M R):Is H (M++R):=by
 have all:∀(H:List Pc),Is H H:=by
  intro H
  induction H with
  | nil=>exact .nil
  | cons p H ih=>exact .cons .here ih
 induction h with
 | nil=>exact all _
 | cons hp _ ih=>exact .cons hp ih
theorem Ck {c:Cx} {fr:Fr} {H:List Pc} {k:List It} {x:Code} {σ:Type} {cst:Fr} {rest:List Pc} (ks:List Nat) (upd:σ→Fr) (chg:σ→List Pc) (C:σ→Prop) (μ:σ→Nat) (s0:σ) (h0:C s0)
  (round:∀s,C s→T c (upd s++cst) (chg s++rest) (.Bl (.lp (LpN c (fun s=>upd s++cst) (fun s=>chg s++rest) C μ (μ s))::k) x)) (hk:Kf fr ks cst:=by repeat (first|exact Kf.nil|apply Kf.cons (by rfl))) (hf:Js fr (upd s0):=by exact frE) (hH:Ew H (chg s0) rest:=by exact Yr):T c fr H (.Bl k (Code.loop x)) :=
 Aji (fun s=>upd s++cst) (fun s=>chg s++rest) C μ s0 h0 round (hf.app hk.sub) hH.hsub
theorem H2 {c:Cx} {fr:Fr} {H:List Pc} {k:List It} {x:Code} {σ:Type} {cst:Fr} (ks:List Nat) (upd:σ→Fr) (C:σ→Prop) (μ:σ→Nat) (s0:σ) (h0:C s0)
  (round:∀s,C s→T c (upd s++cst) H (.Bl (.lp (LpN c (fun s=>upd s++cst) (fun _=>H) C μ (μ s))::k) x)) (hk:Kf fr ks cst:=by repeat (first|exact Kf.nil|apply Kf.cons (by rfl))) (hf:Js fr (upd s0):=by exact frE):T c fr H (.Bl k (Code.loop x)) :=
 Aji (fun s=>upd s++cst) (fun _=>H) C μ s0 h0 round (hf.app hk.sub) (by
  have all:∀(H:List Pc),Is H H:=by
   intro H
   induction H with
   | nil=>exact .nil
   | cons p H ih=>exact .cons .here ih
  exact all _)
def Jn {σ:Type} (c:Cx) (fr':σ→Fr) (H':σ→List Pc) (C:σ→Prop) (a:Act) (w:World):Prop:=∃s,C s∧St c.G c.D c.w0 (H' s) w∧Ag c.n (fr' s) a
theorem Apa {c:Cx} {fr:Fr} {H:List Pc} {k:List It} {x:Code} {σ:Type} (fr':σ→Fr) (H':σ→List Pc) (C:σ→Prop) (h:T c fr H (.Bl (.lp (Jn c fr' H' C)::k) x)) (h2:∀s,C s→T c (fr' s) (H' s) (.norm k)):T c fr H (.Bl k x):=.mk fun a w s g =>
 wp_mono (h.h a w s g) fun e a' w' he=>by
  cases e with
  | normal=>obtain ⟨z,hz,hs,hg⟩:=he;exact (h2 z hz).h a' w' hs hg
  | _=>exact he
theorem Cm {c:Cx} {fr:Fr} {H:List Pc} {k:List It} {σ:Type} {fr':σ→Fr} {H':σ→List Pc} {C:σ→Prop} (s:σ) (hC:C s) (hf:Js fr (fr' s):=by repeat (first|exact Js.nil|refine Js.cons (by rfl) ?_)) (hH:Is H (H' s):=by repeat (first|exact Is.nil|refine Is.cons (by exact Dy) ?_)):T c fr H (.norm (.lp (Jn c fr' H' C)::k)) :=
 .mk fun _ _ st g=>⟨s,hC,st.sub hH,g.sub hf⟩
theorem Gc {c:Cx} {fr:Fr} {H:List Pc} {k:List It} {x:Code} {σ:Type} {cst:Fr} {rest:List Pc} (ks rs:List Nat) (upd:σ→Fr) (chg:σ→List Pc) (C:σ→Prop) (h:T c fr H (.Bl (.lp (Jn c (fun s=>upd s++cst) (fun s=>chg s++rest) C)::k) x)) (h2:∀s,C s→T c (upd s++cst) (chg s++rest) (.norm k)) (_hk:Kf fr ks cst:=by repeat (first|exact Kf.nil|apply Kf.cons (by rfl))) (_hr:Sel H rs rest:=by repeat constructor):T c fr H (.Bl k x) :=
 Apa _ _ C h h2
theorem enter {P:Program} {f:FuncId} {fn:Func} {cd:Code} {args:List Value} {A M H:List Pc} {σ:Type} {C:σ→Prop} {v:σ→Value} {N:σ→List Pc} {n:Nat} (hf:P.funcs[f]?=some fn) (hb:fn.body=some cd) (hn:fn.ntmps=n)
  (h:∀w,T ⟨P,fp M,fp A,w,n,bodyPost P fn (Aa7 P w A M C v N)⟩ (Acp 0 args) H (.Bl [] cd))
  (hl:Nat.ble args.length n=true:=by rfl) (hmA:A.all (fun p=>!p.mu)=true:=by rfl) (hH:Aef M A H:=by repeat constructor):Fn P f args A M C v N:=by
 subst hn
 exact Aju hf hb (fun w=>by rw [hH.eq];exact h w) (by simpa using hl) hmA
theorem ret {P:Program} {fn:Func} {G D:List Nat} {w0:World} {n:Nat} {A M:List Pc} {σ:Type} {C:σ→Prop} {v:σ→Value} {N:σ→List Pc} {fr:Fr} {H:List Pc} {rs:List ResultVar} {vs:List Value} (s:σ) (hC:C s) (hv:Rf vs=v s)
  (hr:fn.results=rs.toArray:=by rfl) (h:Res P fr H rs vs:=by repeat (first|exact Res.nil|apply Res.tmp (by rfl)|apply Res.agg inferInstance (by rfl) (by exact B8) (by rfl)|apply Res.one inferInstance (by rfl) (by exact B8))) (hN:Is H (N s):=by repeat (first|exact Is.nil|refine Is.cons (by exact Dy) ?_)) (hG:G=fp M:=by rfl) (hD:D=fp A:=by rfl):T ⟨P,G,D,w0,n,bodyPost P fn (Aa7 P w0 A M C v N)⟩ fr H (.fin .ret):=Apf s hC hr h hv hN hG hD
theorem Fn.val {P:Program} {f:FuncId} {args:List Value} {A:List Pc} {C:Unit→Prop} {v:Value} (h:Fn P f args A [] C (fun _=>v) (fun _=>[])) (w:World) (hA:Ms A w) (hm:A.all (fun p=>!p.mu)=true:=by rfl):Calls P f args.toArray w fun e w'=>e=.returned v∧Below w.heap.size w w' :=
 have hs:∀(A:List Pc),A.all (fun p=>!p.mu)=true→O6 A:=by
  intro A
  induction A with
  | nil=>intro _;trivial
  | cons p A ih =>
   intro h
   simp only [List.all_cons,Bool.and_eq_true,Bool.not_eq_true'] at h
   exact ⟨fun q hq hm=>by have:=List.all_eq_true.1 h.2 q hq;simp [h.1] at hm;simp [hm] at this,ih h.2⟩
 (h w (by simpa using hA) (by simpa using hs A hm)).mono fun e w' ⟨_,_,he,_,_,hk,_⟩=>⟨he,hk.below (Nat.le_refl _) (by simp [fp])⟩
theorem Afe:∀(A:List Pc),A.all (fun p=>!p.mu)=true→O6 A
 | [],_=>trivial
 | p::A,h=>by
  simp only [List.all_cons,Bool.and_eq_true,Bool.not_eq_true'] at h
  exact ⟨fun q hq hm=>by have:=List.all_eq_true.1 h.2 q hq;simp [h.1] at hm;simp [hm] at this,Afe A h.2⟩
theorem Pc.nd {p:Pc} (hm:p.mu=true) {w:World} (h:p.P w):p.F.Nodup:=by
 cases p with
 | row g t o A cs B=>simp [Pc.F]
 | ow E t v xs F=>exact h.1
 | own E v x F=>exact h.1
 | flat E cs xs F=>exact h.1
 | _=>cases hm
theorem Af2 {w:World}:∀{N:List Pc},N.all (·.mu)=true→Ms N w→O6 N→(fp N).Nodup
 | [],_,_,_=>by simp [fp]
 | p::N,hm,hH,hs=>by
  simp only [List.all_cons,Bool.and_eq_true] at hm
  refine List.nodup_append.2 ⟨Pc.nd hm.1 (hH p (by simp)),Af2 hm.2 (fun q hq=>hH q (by simp [hq])) hs.2,fun b hb b' hb' e=>?_⟩
  subst e
  obtain ⟨q,hq,hqb⟩:=Nw.1 hb'
  exact hs.1 q hq (by simp [hm.1]) b hb hqb
theorem Fn.made {P:Program} {f:FuncId} {args:List Value} {A:List Pc} {σ:Type} {C:σ→Prop} {v:σ→Value} {N:σ→List Pc} (h:Fn P f args A [] C v N) (w:World) (hA:Ms A w) (hN:∀s,(N s).all (·.mu)=true) (hm:A.all (fun p=>!p.mu)=true:=by rfl) :
  Calls P f args.toArray w fun e w'=>∃s,C s∧e=.returned (v s)∧Ms (N s) w'∧(fp (N s)).Nodup∧(∀b∈fp (N s),w.heap.size≤b)∧Below w.heap.size w w' :=
 (h w (by simpa using hA) (by simpa using Afe A hm)).mono fun e w' ⟨s,hC,he,hH,hS,hk,hF⟩=>⟨s,hC,he,hH,Af2 (hN s) hH hS,(fun b hb=>by
  obtain ⟨p,hp,hpb⟩:=Nw.1 hb
  rcases hF p hp b hpb with h|⟨q,hq,_⟩|⟨h,_⟩
  ·exact h
  ·simp at hq
  ·have:=List.all_eq_true.1 (hN s) p hp;rw [h] at this;cases this),hk.below (Nat.le_refl _) (by simp [fp])⟩
theorem Fn.read {P:Program} {f:FuncId} {args:List Value} {A:List Pc} {σ:Type} {C:σ→Prop} {v:σ→Value} {N:σ→List Pc} (h:Fn P f args A [] C v N) (w:World) (hA:Ms A w) (hm:A.all (fun p=>!p.mu)=true:=by rfl) :
  Calls P f args.toArray w fun e w'=>∃s,C s∧e=.returned (v s)∧Ms (N s) w'∧Below w.heap.size w w' :=
 (h w (by simpa using hA) (by simpa using Afe A hm)).mono fun e w' ⟨s,hC,he,hH,hS,hk,hF⟩=>⟨s,hC,he,hH,hk.below (Nat.le_refl _) (by simp [fp])⟩
theorem Qm {p q:Pc} {w:World} (h:p.P w) (h2:q.P w):Ms [p,q] w:=fun r hr=>by
 simp only [List.mem_cons,List.not_mem_nil,or_false] at hr
 rcases hr with rfl|rfl <;> assumption
structure Kp (X:Prop):Prop where
 h:X
section
variable {c:Cx} {fr:Fr} {H:List Pc} {d:Nat} {ty:TypeId} {v:Value} {x:Operand} {Φ:Gl}
theorem Akj {Y:Nat→Prop} {t:TypeId} {l:List Value} (hd:Nat.blt d c.n=true) (hx:ev fr x=some v) (hv:v.cells=l.toArray) (hX:Kp (∀g,Y g)) (h:∀g,Kp (Y g)→T c ((d,Eu g 0 0)::fr) (.row g t 0 [] l []::H) Φ):On c fr H (some d) (.box t x) ty Φ:=Arf hd hx hv fun g=>h g ⟨hX.h g⟩
theorem Adl {Y:Nat→Prop} {t:TypeId} {zs:List Value} [ZC c.P t zs] (hd:Nat.blt d c.n=true) (hX:Kp (∀g,Y g)) (h:∀g,Kp (Y g)→T c ((d,Eu g 0 0)::fr) (.row g t 0 [] zs []::H) Φ):On c fr H (some d) (.alloc t) ty Φ:=Co hd fun g=>h g ⟨hX.h g⟩
theorem Akk {Y:Nat→Prop} {t e m:Nat} [SlC c.P t e m] (hd:Nat.blt d c.n=true) (hX:Kp (∀g,Y g)) (h:∀g,Kp (Y g)→T c ((d,.slice (some ⟨g,0,none⟩) 0 0)::fr) (.row g e 0 [] [] []::H) Φ):On c fr H (some d) (.buildSlice t 0 #[]) ty Φ:=Jk hd fun g=>h g ⟨hX.h g⟩
theorem Aon {Y:Nat→Prop} {t e m b len:Nat} {z:Value} {zs cs q:List Value} {ps:List (Nat × Operand)} [SlC c.P t e m] [ElT c.P e z m b] [ZC c.P e zs] (hd:Nat.blt d c.n=true) (hlen:Nat.blt 0 len=true) (hm:Nat.blt 0 m=true) (hl:Nat.ble (len * m) 1000=true) (hc:Rpt zs len cs) (hf:Fil (fun i=>some (i * m,m)) fr cs ps q) (hX:Kp (∀g,Y g)) (h:∀g,Kp (Y g)→T c ((d,.slice (some ⟨g,0,none⟩) len len)::fr) (.row g e 0 [] q []::H) Φ) :
  On c fr H (some d) (.buildSlice t len ps.toArray) ty Φ:=Hh hd hlen hm hl hc hf fun g=>h g ⟨hX.h g⟩
end
theorem go {X:Prop} {c:Cx} {fr:Fr} {H:List Pc} {Φ:Gl} (h:X) (hs:Kp X→T c fr H Φ:=by intro hX;(repeat (first|apply Afz|apply Aob|(apply wO;apply oc;rfl;exact ydE)|apply Aow|apply Apn|(apply Arn;rfl;rfl)|(apply Arm;rfl;rfl;rfl;rfl)|(apply Aro;rfl;rfl;rfl)|(apply c_t;rfl)|(apply c_f;rfl)|apply Aeo|apply Afy|apply Aol|apply Ajh|apply Aog|apply Aq4|apply Aq5|(apply Ajn;rfl)|apply Aoc|(apply wO;apply Akj;rfl;rfl;rfl;exact hX;clear hX;intro _ hX)|(apply wO;apply Adl;rfl;exact hX;clear hX;intro _ hX)|(apply wO;apply Cu;rfl;rfl;rfl;(first|exact AggC.s|exact OneC.s);rfl;exact Cw;exact Cv;rfl)|(apply wO;apply Akk;rfl;exact hX;clear hX;intro _ hX)|(apply wO;apply Aon;rfl;rfl;rfl;rfl;exact Hb;exact Gp;exact hX;clear hX;intro _ hX)|(apply wO;apply At;rfl;kernel_rfl;exact Be)));exact hX.h):T c fr H Φ:=hs ⟨h⟩
theorem Kx {X:Prop} {c:Cx} {fr:Fr} {H:List Pc} {Φ:Gl} (h:X) (hs:Kp X→T c fr H Φ:=by intro hX;(repeat (first|apply Afz|apply Aob|(apply wO;apply oc;rfl;exact ydE)|apply Aow|apply Apn|(apply Arn;rfl;rfl)|(apply Arm;rfl;rfl;rfl;rfl)|(apply Aro;rfl;rfl;rfl)|(apply c_t;rfl)|(apply c_f;rfl)|apply Aeo|apply Afy|apply Aol|apply Ajh|apply Aog|apply Aq4|apply Aq5|(apply Ajn;rfl)|apply Aoc|(apply wO;apply Akj;rfl;rfl;rfl;exact hX;clear hX;intro _ hX)|(apply wO;apply Adl;rfl;exact hX;clear hX;intro _ hX)|(apply wO;apply Cu;rfl;rfl;rfl;(first|exact AggC.s|exact OneC.s);rfl;exact Cw;exact Cv;rfl)|(apply wO;apply Akk;rfl;exact hX;clear hX;intro _ hX)|(apply wO;apply Aon;rfl;rfl;rfl;rfl;exact Hb;exact Gp;exact hX;clear hX;intro _ hX)));exact hX.h):T c fr H Φ:=hs ⟨h⟩
section
variable {c:Cx} {fr:Fr} {H:List Pc} {Φ:Gl}
theorem C7 {v:Value} {x:Am} {F:List Nat} (h:∀(a1:Option Addr) (c1:Nat) (F1:List Nat),v=.agg #[.int .i64 x.next,.slice a1 x.Ao.length c1]→x.Ao.length≤maxLen→T c fr (.sl Cg (.slice a1 x.Ao.length c1) x.Ao F1::H) Φ) (hm:.isv By v x F∈H:=by exact B8):T c fr H Φ:=.mk fun a w s g=>by
 obtain ⟨cs,rfl,v1,rfl,h1⟩:=s.get hm
 obtain ⟨a1,c1,rfl⟩:=h1.slice;have l1:=h1.len
 have t1:=s.ro (p:=.sl Cg (.slice a1 x.Ao.length c1) x.Ao F) hm rfl rfl ⟨by decide,h1⟩ fun b hb=>hb
 exact (h a1 c1 F rfl  l1).h a w t1 g
theorem Cy (x:Am) {a1:Option Addr} {c1:Nat} {F1:List Nat}  (h:T c fr (.isv By (.agg #[.int .i64 x.next,.slice a1 x.Ao.length c1]) x (F1)::H) Φ) (m1:.sl Cg (.slice a1 x.Ao.length c1) x.Ao F1∈H:=by exact B8):T c fr H Φ:=.mk fun a w s g=>by
 have hP:O1 By w (.agg #[.int .i64 x.next,.slice a1 x.Ao.length c1]) x (F1):=⟨_,rfl,_,rfl,(s.get m1).2⟩
 refine h.h a w (s.add (N:=[.isv By (.agg #[.int .i64 x.next,.slice a1 x.Ao.length c1]) x (F1)]) (Below.refl _ _) (by intro q hq;simp at hq;subst hq;exact hP) ⟨by simp,trivial⟩ fun q hq b hb=>?_) g
 simp at hq;subst hq
 simp only [Pc.F,List.mem_append] at hb
 exact .inr ⟨rfl,_,m1,rfl,hb⟩
end
section
variable {c:Cx} {fr:Fr} {H:List Pc} {Φ:Gl}
theorem Akp {v:Value} {x:Ha} {F:List Nat} (h:∀(_:Unit),v=.agg #[.bool x.Ux,.string x.Ds]→x.Ds.size≤maxLen→T c fr (H) Φ) (hm:.isv Cg v x F∈H:=by exact B8):T c fr H Φ:=.mk fun a w s g=>by
 obtain ⟨cs,rfl,rfl,s1,rfl⟩:=s.get hm
 exact (h () rfl s1 ).h a w s g
theorem Qi {a:Option Addr} {n cp:Nat} {xs:List Ha} {F:List Nat} (i:Nat) (h:∀(hi:i < xs.length) (b o:Nat),a=some ⟨b,o,none⟩→xs[i].Ds.size≤maxLen→T c fr (.cel b (o+i * 2) [.bool xs[i].Ux,.string xs[i].Ds]::H) Φ) (hm:.sl Cg (.slice a n cp) xs F∈H:=by exact B8) (hi:i < xs.length:=by omega):T c fr H Φ:=.mk fun ac w s g=>by
 obtain ⟨b,o,cs,G,ha,hrep,hG,hb,hne,hr⟩:=Rz (s.get hm) i hi
 obtain ⟨rfl,s1,rfl⟩:=hrep
 exact (h hi b o  ha s1 ).h ac w (s.ro hm rfl rfl ⟨hne,hr⟩ (by intro x hx;simp [Pc.F] at hx;subst hx;exact hb)) g
theorem Abk {t:TypeId} {a:Option Addr} {n cp:Nat} {xs:List Ha} {F:List Nat} {S:List Pc} (i:Nat) (h:∀(_:i < xs.length) g A B,a=some ⟨g,0,none⟩→F=[g]→xs[i].Ds.size≤maxLen→Ai2 Cg t g (.slice (some ⟨g,0,none⟩) n cp) xs i A B→T c fr (.row g t (0+i * 2) A [.bool xs[i].Ux,.string xs[i].Ds] B::S) Φ) (hp:C1 H (.ow Cg t (.slice a n cp) xs F) S:=by exact Dy) (hi:i < xs.length:=by omega):T c fr H Φ :=
 Nl Fc i (fun hi g A cs B ha hF hr hh=>by obtain ⟨rfl,s1, -⟩:=hr default;exact h hi g A B ha hF s1 hh) hp rfl hi
end
theorem Ba {x:Int}:Ca x=true↔0≤x∧x≤65535:=by unfold Ca Hq;simp
def Bn (x n:Int):Int:=(x+n) % 65536
def gp (a b:Int):Int:=(b - a) % 65536
def Oa (a b:Int):Bool:=Hq 1 (gp a b) 32767
theorem In (a b:Int):0≤gp a b∧gp a b≤65535:=by unfold gp;omega
theorem Hj (a b:Int):0≤Bn a b∧Bn a b≤65535:=by unfold Bn;omega
theorem Lv (a b:Int):Ca (Bn a b)=true:=Ba.2 (Hj a b)
theorem Afm (z:Int):((z.tmod 65536)+65536).tmod 65536=z % 65536:=by
 rw [Int.tmod_eq_emod (a:=z.tmod 65536+65536),Int.tmod_eq_emod]
 split <;> split <;> omega
theorem Anv (z:Int):-65535≤z.tmod 65536∧z.tmod 65536≤65535:=by
 rw [Int.tmod_eq_emod]
 split <;> omega
theorem N3 (x n:Int) (w:World) (h0:-4611686018427387904≤x+n) (h1:x+n≤4611686018427387904) :
  Calls prog 87 #[.int .i64 x,.int .i64 n] w fun e w'=>e=.returned (.int .i64 (Bn x n))∧w=w':=by
 have hb:=Anv (x+n)
 have hb1:=hb.1
 have hb2:=hb.2
 clear hb
 by_cases hz:0≤x+n
 ·go_enter func87,ntmps87
  go_wp2
  go_ret
  exact ⟨Ll (by unfold Bn;omega),rfl⟩
 ·have ht:=Afm (x+n)
  have ht:=Lib.hid ht
  go_enter func87,ntmps87
  go_wp2
  go_ret
  refine ⟨Ll ?_,rfl⟩
  have:=ht.out
  rw [Int.tmod_eq_emod (a:=(x+n).tmod 65536+65536)] at this
  unfold Bn
  split at this <;> omega
theorem Ls (a b:Int) (w:World) (h0:-4611686018427387904≤b - a) (h1:b - a≤4611686018427387904) (ha:-4611686018427387904≤a) (ha':a≤4611686018427387904) :
  Calls prog 41 #[.int .i64 a,.int .i64 b] w fun e w'=>e=.returned (.int .i64 (gp a b))∧w=w':=by
 go_enter func41,ntmps41
 go_wp2_with fail
 refine (N3 b (-a) _ (by omega) (by omega)).mono ?_
 rintro e w' ⟨rfl,rfl⟩
 go_wp2_with fail
 go_ret
 exact ⟨Ll (by unfold Bn gp;omega),rfl⟩
theorem K8 (a b:Int) (w:World) (h0:-4611686018427387904≤b - a) (h1:b - a≤4611686018427387904) (ha:-4611686018427387904≤a) (ha':a≤4611686018427387904) :
  Calls prog 202 #[.int .i64 a,.int .i64 b] w fun e w'=>e=.returned (.bool (Oa a b))∧w=w':=by
 go_enter func202,ntmps202
 go_wp2_with fail
 refine (Ls a b _ h0 h1 ha ha').mono ?_
 rintro e w' ⟨rfl,rfl⟩
 go_wp2_with fail
 refine (Hz _ _ _ _).mono ?_
 rintro e w' ⟨rfl,rfl⟩
 go_wp2_with fail
 go_ret
 exact ⟨rfl,rfl⟩
theorem Ez (x n:Int) (w:World) (h0:-131072≤x+n) (h1:x+n≤4611686018427387904) :
  Calls prog 102 #[.int .i64 x,.int .i64 n] w fun e w'=>e=.returned (.int .i64 (Bn x n))∧w=w':=by
 have h2:0≤x+n+131072:=by omega
 go_enter func102,ntmps102
 go_wp2
 go_ret
 exact ⟨Ll (by unfold Bn;omega),rfl⟩
theorem Il (a b:Int) (w:World) (h0:-65536≤b - a) (h1:b - a≤4611686018427387904) :
  Calls prog 109 #[.int .i64 a,.int .i64 b] w fun e w'=>e=.returned (.int .i64 (gp a b))∧w=w':=by
 have h2:0≤b - a+65536:=by omega
 go_enter func109,ntmps109
 go_wp2
 go_ret
 exact ⟨Ll (by unfold gp;omega),rfl⟩
theorem M4 (a b:Int) (w:World) (h0:-65536≤b - a) (h1:b - a≤4611686018427387904) :
  Calls prog 242 #[.int .i64 a,.int .i64 b] w fun e w'=>e=.returned (.bool (Oa a b))∧w=w':=by
 go_enter func242,ntmps242
 go_wp2_with fail
 refine (Il a b _ h0 h1).mono ?_
 rintro e w' ⟨rfl,rfl⟩
 go_wp2_with fail
 refine (Qr _ _ _ _).mono ?_
 rintro e w' ⟨rfl,rfl⟩
 go_wp2_with fail
 go_ret
 exact ⟨rfl,rfl⟩
end Go.Proofs.YtbmlecejkacpnaaGreatDoor
namespace Go.Proofs.YtbmlecejkacpnaaGreatDoor
open Go.RowKit Go.Shelf
def low (b:UInt8):Bool:=Hq 97 b.toNat 122
def Rh (l:List UInt8):Bool:=l.all low
def N1 (s:ByteArray):Bool:=decide ((s.size:Int)≤8) && Rh s.data.toList
def abc:List UInt8:=[97,98,99,100,101,102,103,104,105,106,107,108,109,110,111,112,113,114,115,116,117,118,119,120,121,122]
theorem Amc (b:UInt8):abc.contains b=low b:=by
 have h:∀n:Fin 256,abc.contains (UInt8.ofNat n.val)=low (UInt8.ofNat n.val):=by decide +kernel
 have:=h ⟨b.toNat,b.toNat_lt⟩
 simpa using this
theorem Zr {α:Type} (p:α→Bool) (l:List α):l.dropWhile p=[]↔l.all p=true:=by
 induction l with
 | nil=>simp
 | cons x r ih=>rw [List.dropWhile_cons];cases h:p x <;> simp [h,ih]
theorem Zn {α:Type} (p:α→Bool) (l:List α):(l.dropWhile p).all p=l.all p:=by
 induction l with
 | nil=>simp
 | cons x r ih=>rw [List.dropWhile_cons];cases h:p x <;> simp [h,ih]
theorem Air (l cs:List UInt8):(Lib.trimS l cs=[])↔l.all (cs.contains ·)=true:=by
 unfold Lib.trimS Lib.trimLeftS Lib.trimRightS
 rw [Zr,List.all_reverse,Zn,List.all_reverse]
theorem Alr (l:List UInt8):(Lib.trimS l abc == [])=Rh l:=by
 rw [Bool.eq_iff_iff,beq_iff_eq,Air]
 unfold Rh
 rw [show (fun b=>abc.contains b)=low from funext Amc]
theorem Uk (s:ByteArray) (w:World) (hs:s.size≤maxLen) :
  Calls prog 70 #[.string s] w fun e w'=>e=.returned (.bool (N1 s))∧Below w.heap.size w w':=by
 unfold maxLen at hs
 have hc:=fun w=>Any.strings_Trim_laid Tryz.lays160 (by kernel_rfl) s ⟨abc.toArray⟩ w hs (by decide) (ascii_of_all (by decide))
 change ∀w,Calls prog 124 #[.string s,.string ⟨abc.toArray⟩] w (fun e w'=>e=.returned (.string ⟨(Lib.trimS s.data.toList abc).toArray⟩)∧Below w.heap.size w w') at hc
 have ht:=Alr s.data.toList
 replace hc:=Lib.hid hc
 by_cases h8:s.size≤8
 ·generalize Lib.trimS s.data.toList abc=t at *
  have hi:N1 s=(t == []):=by unfold N1;rw [ht,decide_eq_true (by omega)];rfl
  replace hi:=Lib.hid hi
  clear ht
  cases t with
  | nil =>
   go_enter func70,ntmps70
   go_wp2_with fail
   refine (hc.out _).mono ?_
   rintro e w1 ⟨rfl,hb⟩
   go_wp2_with fail
   go_ret
   exact ⟨Di hi.out.symm,hb⟩
  | cons a r =>
   go_enter func70,ntmps70
   go_wp2_with fail
   refine (hc.out _).mono ?_
   rintro e w1 ⟨rfl,hb⟩
   go_wp2_with fail
   go_ret
   exact ⟨Di hi.out.symm,hb⟩
 ·have hi:N1 s=false:=by unfold N1;rw [decide_eq_false (by omega)];rfl
  replace hi:=Lib.hid hi
  go_enter func70,ntmps70
  go_wp2_with fail
  go_ret
  exact ⟨Di hi.out.symm,Below.refl _ _⟩
theorem Ah1 (s:ByteArray) (k:Nat) (h:k < s.size):Rh (s.data.toList.drop k)=(low s[k] && Rh (s.data.toList.drop (k+1))):=by rw [Amm s k h];rfl
theorem Ru (s:ByteArray) (n:Int) (w:World) (hs:s.size≤maxLen) :
  Calls prog 164 #[.string s,.int .i64 n] w fun e w'=>e=.returned (.bool (decide ((s.size:Int)≤n) && Rh s.data.toList))∧w=w':=by
 unfold maxLen at hs
 go_enter func164,ntmps164
 go_wp2
 go_loop [5] (fun i=>∃k:Nat,k≤s.size∧i=.int .i64 k∧Hid (Rh s.data.toList=Rh (s.data.toList.drop k))) (fun i=>s.size - (intOf i).toNat)
 case atStart=>exact ⟨0,Nat.zero_le _,rfl,rfl⟩
 case round =>
  obtain ⟨k,hk,rfl,hz⟩:=hrel
  by_cases hlt:k < s.size
  ·have hz:=Lib.hid (hz.out.trans (Ah1 s k hlt))
   have hb:(s[k].toNat:Int)≤255:=by have:=s[k].toNat_lt;omega
   cases hl:low s[k]
   ·have hl1:low s[k]=false:=hl
    unfold low Hq at hl
    by_cases h1:(s[k].toNat:Int) < 97
    ·clear hl
     go_wp2
     go_ret
     exact ⟨Di (by rw [hz.out,hl1];simp),rfl⟩
    ·have h2:(122:Int) < s[k].toNat:=by simp at hl;omega
     clear hl
     go_wp2
     go_ret
     exact ⟨Di (by rw [hz.out,hl1];simp),rfl⟩
   ·have hl1:low s[k]=true:=hl
    unfold low Hq at hl
    simp only [Bool.and_eq_true,decide_eq_true_eq] at hl
    have h1:¬(s[k].toNat:Int) < 97:=by omega
    have h2:¬(122:Int) < s[k].toNat:=by omega
    clear hl
    replace hl1:=Lib.hid hl1
    go_wp2
    go_round
    case rel=>exact ⟨k+1,by omega,by go_num,by refine Lib.hid ?_;rw [hz.out,hl1.out];rfl⟩
    case measure=>simp [intOf];omega
  ·go_wp2
   go_ret
   exact ⟨Di (by rw [hz.out,Ajm s k hlt];simp [Rh]),rfl⟩
end Go.Proofs.YtbmlecejkacpnaaGreatDoor
namespace Go.Proofs.YtbmlecejkacpnaaGreatDoor
open Go.RowKit
theorem Xu (fid:FuncId) (hbd:So prog fid) (caps:Array Value) (v:Value) (xs:List Ha) (F:List Nat) (p:Ha→Bool) (w:World) (h:Sl Cg w v xs F)
  (hp:∀(k:Nat) (hk:k < xs.length) (wr:World) (u:Value) (G:List Nat),Below w.heap.size w wr→O1 Cg wr u xs[k] G→Calls prog fid (#[u]++caps) wr fun e w'=>e=.returned (.bool (p xs[k]))∧Below wr.heap.size wr w') :
  Calls prog 250 #[v,.func (.func fid) #[] caps] w fun e w'=>e=.returned (.int .i64 (N5 p xs))∧Below w.heap.size w w':=by
 obtain ⟨a,cap,rfl⟩:=h.slice
 have hl:=h.len
 unfold maxLen at hl
 go_enter func250,ntmps250
 go_wp2
 go_loopw [5,8] (fun _ i wr=>∃k:Nat,k≤xs.length∧i=.int .i64 k∧Hid (∀j,j < k→∀hj:j < xs.length,p xs[j]=false)∧Below w.heap.size w wr) (fun _ i _=>xs.length - (intOf i).toNat)
 case atStart=>exact ⟨0,Nat.zero_le _,rfl,fun j hj=>by omega,Below.refl _ _⟩
 case round =>
  obtain ⟨k,hk,rfl,hz,hB⟩:=hrel
  by_cases hlt:k < xs.length
  ·have hz0:=hz;clear hz
   obtain ⟨b,off,_,F1,rfl,hx, -,ja⟩:=(h.below (by decide) hB).at k hlt
   obtain ⟨rfl,s1,rfl⟩:=id hx
   have a0:=ja 0 (by decide)
   have a1:=ja 1 (by decide)
   simp only [show Cg.sz=2 from rfl,Nat.mul_one,Nat.add_zero,List.getElem?_cons_zero,List.getElem?_cons_succ] at a0 a1
   clear ja
   have hr:=hp k hlt wr _ _ hB ⟨_,rfl,hx⟩
   have hp:=Lib.hid hp
   cases hpk:p xs[k]
   all_goals
    rw [hpk] at hr
    have hpk:=Lib.hid hpk
    have hr:=Lib.hid hr
    go_wp2_with fail
    refine hbd.upon hr.out ?_
    rintro e w1 ⟨rfl,hb1⟩
    refine ⟨_,rfl,?_⟩
    have hB:=tr hB hb1 (Nat.le_refl _)
    clear hb1
    go_wp2_with fail
   ·exact ⟨⟨k+1,by omega,by go_num,fun j hj hl=>by rcases Nat.lt_or_eq_of_le (Nat.le_of_lt_succ hj) with h|h;exact hz0.out j h hl;subst h;exact hpk.out,hB⟩,by simp [intOf];omega⟩
   ·go_ret
    exact ⟨Ll (Mh hlt hz0.out hpk.out).symm,hB⟩
  ·go_wp2
   go_ret
   exact ⟨Ll (Lj (fun j hj=>hz.out j (by omega) hj)).symm,hB⟩
theorem T5 (fid:FuncId) (hbd:So prog fid) (caps:Array Value) (v:Value) (xs:List Ha) (F:List Nat) (p:Ha→Bool) (w:World) (h:Sl Cg w v xs F)
  (hp:∀(k:Nat) (hk:k < xs.length) (wr:World) (u:Value) (G:List Nat),Below w.heap.size w wr→O1 Cg wr u xs[k] G→Calls prog fid (#[u]++caps) wr fun e w'=>e=.returned (.bool (p xs[k]))∧Below wr.heap.size wr w') :
  Calls prog 221 #[v,.func (.func fid) #[] caps] w fun e w'=>e=.returned (.bool (xs.any p))∧Below w.heap.size w w':=by
 have hp:=Lib.hid hp
 go_enter func221,ntmps221
 go_wp2_with fail
 refine (Xu fid hbd caps v xs F p _ h hp.out).mono ?_
 rintro e w1 ⟨rfl,hb1⟩
 go_wp2_with fail
 go_ret
 exact ⟨Di (Pu p xs),hb1⟩
theorem Tb (v:Value) (xs:List Ha) (F:List Nat) (w:World) (h:Sl Cg w v xs F) (hm:xs.length≤4294967296) :
  Calls prog 191 #[v] w (U4 Cg 198 xs w):=by
 obtain ⟨ao,c,news,Fy,rfl,hl,hfy,hFy,hsrc⟩:=h.src
 have hFl:=hfy.lt
 have he:=fun w (a:Option Addr) (n c:Nat)=>Lib.run_eql_slice_nil (P:=prog) w 50 _ a n c 0 0 underlying50
 go_enter func191,ntmps191
 rcases hsrc with ⟨rfl,rfl,rfl⟩|⟨ad,rfl,hn⟩
 ·go_wp2
  go_ret
  exact ⟨.slice none 0 0,[],rfl,.inl ⟨rfl,rfl,rfl⟩,by simp,by simp,Below.refl _ _⟩
 ·go_wp2_with (at_builtin;refine Nb Gn (by decide) (by rfl) _ _ _ (by rfl) 198 (.agg #[.bool false,.string ⟨#[]⟩]) 24 underlying50 Ahk rfl (.slice (some ⟨w.heap.size,0,none⟩) 0 0) [] [w.heap.size] (by rfl) (Ow.empty (Hm.made _ _ _)) (Hd.one _) (some ad) xs c (by rfl) news Fy (hfy.frame fun b hb=>Below.heap_alloc _ _ _ (hFl b hb)) (.inr ⟨ad,rfl,fun j u hu=>kc ((Below.refl _ _).alloc (Nat.le_refl _) _) (hn j u hu)⟩) (fun b hb e=>by have:=hFl b hb;simp [Value.ownBlock] at e;omega) (by simpa using hl) (by unfold maxLen at hl;simp;omega) ?_)
  intro v2 w2 F2 hA
  go_wp2_with fail
  go_ret
  have hB:Below w.heap.size w w2:=((Below.refl _ _).alloc (Nat.le_refl _) _).trans (hA.Kj.below (by simp) (by simp))
  have hs:∀b,v2.ownBlock=some b→w.heap.size≤b:=fun b hb=>by rcases hA.Afd with e|e <;> rw [e] at hb <;> simp [Value.ownBlock] at hb <;> omega
  refine ⟨v2,F2,rfl,by simpa using hA.ow,hA.ow.scal Fc▸?_,fun b hb=>?_,hB⟩
  ·cases v2.ownBlock <;> simp
  ·rw [hA.ow.scal Fc] at hb;exact hs b (by simpa using hb)
def I6 (s:Ha):Bool:=N1 s.Ds && (s.Ux || decide (s.Ds=⟨#[]⟩))
def Hv (l:List Ha) (k:Nat):Bool:=match l[k]? with|some s=>s.Ux|none=>false
def Uc (l:List Ha):Bool:=decide (l.length=0) || (!Hv l 0 && Hv l (l.length - 1))
def Df (x:Am):Bool:=Ca x.next && decide ((x.Ao.length:Int)≤8) && x.Ao.all I6 && Uc x.Ao
theorem Kz {l:List Ha} {k:Nat} (h:k < l.length):Hv l k=l[k].Ux:=by unfold Hv;rw [List.getElem?_eq_getElem h]
theorem Nm {l:List Ha} {k:Nat} (h:l.length≤k):Hv l k=false:=by unfold Hv;rw [List.getElem?_eq_none h]
def H1 (x:Am) (k:Int):Bool:=Hv x.Ao (gp x.next k).toNat
theorem T9 (x:Am) (k:Int) (v:Value) (F:List Nat) (h0:0≤x.next) (h1:x.next≤65535) (h2:0≤k) (h3:k≤65535) :
  Fn prog 179 [v,.int .i64 k] [.isv By v x F] [] (fun (_:Unit)=>True) (fun _=>.bool (H1 x k)) (fun _=>[]):=by
 refine enter func179 rfl ntmps179 fun w0=>?_
 refine C7 ?_
 rintro a1 c1 F1 rfl l1
 unfold maxLen at l1
 have hg:=In x.next k
 refine go ?_;intros
 refine ce (fun w s=>Ls _ _ _ (by omega) (by omega) (by omega) (by omega)) ?_
 refine go ?_;intros
 refine Ee rfl rfl (fun h=>?_) (fun h=>?_)
 ·refine Qi (gp x.next k).toNat ?_
  rintro hi b o rfl s1
  refine go ?_;intros
  refine ret () trivial ?_
  unfold H1;rw [Kz hi];rfl
 ·refine go ?_;intros
  refine ret () trivial ?_
  unfold H1;rw [Nm (by omega)];rfl
theorem Ao4 (x:Ha) (v:Value) (F:List Nat):Fn prog 222 [v] [.isv Cg v x F] [] (fun (_:Unit)=>True) (fun _=>.bool (!I6 x)) (fun _=>[]):=by
 refine enter func222 rfl ntmps222 fun w0=>?_
 refine Akp ?_
 rintro _ rfl s1
 refine go ?_;intros
 refine cb (fun w s=>Uk _ _ s1) ?_
 cases g:N1 x.Ds
 ·refine go ?_;intros
  refine ret () trivial ?_
  simp [I6,g,Rf]
 refine go ?_;intros
 cases g2:x.Ux
 ·refine go ?_;intros
  refine ret () trivial ?_
  simp [I6,g,g2,Rf]
 ·refine go ?_;intros
  refine ret () trivial ?_
  simp [I6,g,g2,Rf]
theorem Ai7 (x:Am) (v:Value) (F:List Nat):Fn prog 175 [v] [.isv By v x F] [] (fun (_:Unit)=>True) (fun _=>.bool (Df x)) (fun _=>[]):=by
 refine enter func175 rfl ntmps175 fun w0=>?_
 refine C7 ?_
 rintro a1 c1 F1 rfl l1
 unfold maxLen at l1
 refine go ?_;intros
 refine ce (fun w s=>Gb _ _) ?_
 cases g1:Ca x.next
 ·refine go ?_;intros
  refine ret () trivial ?_
  simp [Df,g1,Rf]
 refine go ?_;intros
 refine Bf rfl (fun h=>?_) (fun h=>?_)
 ·refine go ?_;intros
  refine ret () trivial ?_
  simp [Df,g1,Rf];omega
 refine go ?_;intros
 refine cb (fun w s=>T5 _ (.mk' func222 rfl rfl) #[] _ x.Ao F1 (fun s=>!I6 s) _ (s.get (p:=.sl Cg (.slice a1 x.Ao.length c1) x.Ao F1) (by simp)).2 ?_) ?_
 ·intro k hk wr u G _ hu
  exact (Ao4 x.Ao[k] u G).val wr (H9 hu)
 cases g2:x.Ao.all I6
 ·have:(x.Ao.any fun s=>!I6 s)=true:=by rw [←List.not_all_eq_any_not,g2];rfl
  rw [this]
  refine go ?_;intros
  refine ret () trivial ?_
  simp [Df,g2,Rf]
 have hx:(x.Ao.any fun s=>!I6 s)=false:=by rw [←List.not_all_eq_any_not,g2];rfl
 rw [hx]
 refine go ?_;intros
 have g3:Df x=Uc x.Ao:=by simp [Df,g1,g2];omega
 refine Ee rfl rfl (fun h=>?_) (fun h=>?_)
 ·refine go ?_;intros
  refine ret () trivial ?_
  rw [g3];have:x.Ao.length=0:=by omega
  simp [Uc,this,Rf]
 refine Qi 0 ?_
 rintro hi b o rfl s1
 refine go ?_;intros
 cases g4:x.Ao[0].Ux
 rotate_left
 ·refine go ?_;intros
  refine ret () trivial ?_
  rw [g3];unfold Uc;rw [Kz hi,g4,decide_eq_false (by omega)];rfl
 refine Qi (x.Ao.length - 1) ?_
 rintro hi2 b2 o2 e s2
 cases e
 refine go ?_;intros
 have hl:((x.Ao.length:Int) - 1).toNat=x.Ao.length - 1:=by omega
 rw [hl]
 refine go ?_;intros
 refine ret () trivial ?_
 rw [g3];unfold Uc;rw [Kz hi,Kz hi2,g4,decide_eq_false (by omega)];rfl
end Go.Proofs.YtbmlecejkacpnaaGreatDoor
namespace Go.Proofs.YtbmlecejkacpnaaGreatDoor

open Go.RowKit
end Go.Proofs.YtbmlecejkacpnaaGreatDoor
namespace Go.Proofs.YtbmlecejkacpnaaGreatDoor
open Go.RowKit
def Adt (s:ByteArray):ByteArray:=⟨#[43]⟩++s
def Af8:ByteArray:=⟨#[45]⟩
def Em (l:List Ha):ByteArray:=match l with|[]=>Af8|s::_=>if s.Ux then Adt s.Ds else Af8
theorem Vu {l:List Ha} (hi:0 < l.length) (h:l[0].Ux=true):Em l=Adt l[0].Ds:=by
 cases l with
 | nil=>simp at hi
 | cons s r=>simp at h;simp [Em,h]
theorem Aa0 {l:List Ha} (hi:0 < l.length) (h:l[0].Ux=false):Em l=Af8:=by
 cases l with
 | nil=>simp at hi
 | cons s r=>simp at h;simp [Em,h]
def rel:Int→List Ha→Int × List Ha × List ByteArray
 | n,[]=>(n,[],[])
 | n,s::r=>if s.Ux then ((rel (Bn n 1) r).1,(rel (Bn n 1) r).2.1,Adt s.Ds::(rel (Bn n 1) r).2.2) else (n,s::r,[])
theorem Apx {n:Int} {l:List Ha} (h:Hv l 0=false):rel n l=(n,l,[]):=by
 cases l with
 | nil=>rfl
 | cons s r=>have:s.Ux=false:=h;simp [rel,this]
theorem Anl {n:Int} {l:List Ha} (h:Hv l 0=true):rel n l=((rel (Bn n 1) (l.drop 1)).1,(rel (Bn n 1) (l.drop 1)).2.1,Em l::(rel (Bn n 1) (l.drop 1)).2.2):=by
 cases l with
 | nil=>cases h
 | cons s r=>have:s.Ux=true:=h;simp [rel,Em,this]
theorem Apw {w:World} {a:Option Addr} {c:Nat} {x:Am} {F:List Nat} (h:(Pc.ow Cg 198 (.slice a x.Ao.length c) x.Ao F).P w):∃F',(Pc.isv By (.agg #[.int .i64 x.next,.slice a x.Ao.length c]) x F').P w:=by
 obtain ⟨F', -,hs⟩:=h.2.read
 exact ⟨F',_,rfl,_,rfl,hs⟩
theorem Agt (x:Am) (v:Value) (F:List Nat) (hl:x.Ao.length≤4294967296):Fn prog 129 [v] [.isv By v x F] [] (fun (_:Option Addr × Nat × List Nat)=>True)
  (fun s=>.agg #[.int .i64 x.next,.slice s.1 x.Ao.length s.2.1]) (fun s=>[.ow Cg 198 (.slice s.1 x.Ao.length s.2.1) x.Ao s.2.2]):=by
 refine enter func129 rfl ntmps129 fun w0=>?_
 refine C7 ?_
 rintro a1 c1 F1 rfl l1
 refine go ?_;intros
 refine cn (fun w s=>Tb _ _ _ _ (s.get (p:=.sl Cg (.slice a1 x.Ao.length c1) x.Ao F1) (by simp)).2 hl) fun a cp F'=>?_
 refine go ?_;intros
 refine ret (a,cp,F') trivial rfl
theorem Zy (x:Am) (g t o:Nat) (A B:List Value) (a:Option Addr) (cc:Nat) (F:List Nat) (h0:0≤x.next) (h1:x.next≤65535) (hl:x.Ao.length≤4294967296) (hs:∀s∈x.Ao,s.Ds.size≤8) :
  Fn prog 203 [Eu g o 0] [] [.row g t o A [.int .i64 x.next,.slice a x.Ao.length cc] B,.ow Cg 198 (.slice a x.Ao.length cc) x.Ao F] (fun (_:Option Addr × Nat × List Nat)=>True)
   (fun _=>.string (Em x.Ao)) (fun s=>[.row g t o A [.int .i64 (Bn x.next 1),.slice s.1 (x.Ao.drop 1).length s.2.1] B,.ow Cg 198 (.slice s.1 (x.Ao.drop 1).length s.2.1) (x.Ao.drop 1) s.2.2]):=by
 refine enter func203 rfl ntmps203 fun w0=>?_
 refine go ?_;intros
 refine Bf rfl (fun h=>?_) (fun h=>?_)
 ·refine Ay fun F'=>?_
  refine Qi 0 ?_
  rintro hi b o2 e s1
  cases e
  refine go ?_;intros
  have s8:=hs _ (List.getElem_mem hi)
  have s9:(⟨#[43]⟩:ByteArray).size=1:=rfl
  cases g1:x.Ao[0].Ux
  ·refine go ?_;intros
   apply wO
   refine sld 1 fun a2 c2 F2=>?_
   refine go ?_;intros
   refine cn (fun w s=>Tb _ _ _ _ (s.get (p:=.sl Cg (.slice a2 (x.Ao.drop 1).length c2) (x.Ao.drop 1) F2) (by simp)).2 (by simp;omega)) fun a3 c3 F3=>?_
   refine go ?_;intros
   refine ce (fun w s=>N3 _ _ _ (by omega) (by omega)) ?_
   refine go ?_;intros
   refine ret (a3,c3,F3) trivial ?_
   rw [Aa0 hi g1];rfl
  ·refine go ?_;intros
   apply wO
   refine sld 1 fun a2 c2 F2=>?_
   refine go ?_;intros
   refine cn (fun w s=>Tb _ _ _ _ (s.get (p:=.sl Cg (.slice a2 (x.Ao.drop 1).length c2) (x.Ao.drop 1) F2) (by simp)).2 (by simp;omega)) fun a3 c3 F3=>?_
   refine go ?_;intros
   refine ce (fun w s=>N3 _ _ _ (by omega) (by omega)) ?_
   refine go ?_;intros
   refine ret (a3,c3,F3) trivial ?_
   rw [Vu hi g1];rfl
 ·obtain ⟨n,l⟩:=x
  obtain rfl:l=[]:=List.eq_nil_of_length_eq_zero (by simpa using h)
  refine go ?_;intros
  refine ce (fun w s=>N3 _ _ _ (by omega) (by omega)) ?_
  refine go ?_;intros
  refine ret (a,cc,F) trivial rfl
def Md (x:Am):Am:=⟨(rel x.next x.Ao).1,(rel x.next x.Ao).2.1⟩
def Mv (x:Am):List ByteArray:=(rel x.next x.Ao).2.2
def Sr (x:Am):Am:=⟨Bn x.next 1,x.Ao.drop 1⟩
theorem Ur {x:Am} (h:Hv x.Ao 0=false):Md x=x∧Mv x=[]:=by unfold Md Mv;rw [Apx h];exact ⟨rfl,rfl⟩
theorem Abx {x:Am} (h:Hv x.Ao 0=true):Md x=Md (Sr x)∧Mv x=Em x.Ao::Mv (Sr x):=by unfold Md Mv;rw [Anl h];exact ⟨rfl,rfl⟩
theorem N8 {l:List Ha} (h:∀s∈l,s.Ds.size≤8):(Em l).size≤9:=by
 cases l with
 | nil=>decide
 | cons s r =>
  have:=h s (by simp)
  unfold Em;dsimp only
  split
  ·unfold Adt;rw [ByteArray.size_append];show 1+s.Ds.size≤9;omega
  ·decide
theorem Ahi (y:Am):H1 y y.next=Hv y.Ao 0:=by
 unfold H1 gp;rw [Int.sub_self];rfl
theorem Pa (s:ByteArray) (h:s.size≤maxLen) (w:World):Cq A9 w [.string s] [s] []:=⟨_,[],[],[],by simp,by simp,⟨rfl,h,rfl⟩,rfl,rfl⟩
structure U3 where
 es:List ByteArray
 y:Am
 a:Option Addr
 c:Nat
 F:List Nat
 ae:Option Addr
 ce:Nat
 Fe:List Nat
structure An9 (x:Am) (s:U3):Prop where
 n0:0≤s.y.next
 n1:s.y.next≤65535
 it:∀z∈s.y.Ao,z.Ds.size≤8
 ln:s.es.length+s.y.Ao.length≤x.Ao.length
 w:Md x=Md s.y
 e:Mv x=s.es++Mv s.y
theorem V6 (x:Am) (g t o:Nat) (A B:List Value) (a:Option Addr) (cc:Nat) (F:List Nat) (h0:0≤x.next) (h1:x.next≤65535) (hl:x.Ao.length≤1000000) (hs:∀s∈x.Ao,s.Ds.size≤8) :
  Fn prog 204 [Eu g o 0] [] [.row g t o A [.int .i64 x.next,.slice a x.Ao.length cc] B,.ow Cg 198 (.slice a x.Ao.length cc) x.Ao F] (fun (s:U3)=>s.y=Md x∧s.es=Mv x)
   (fun s=>.slice s.ae s.es.length s.ce) (fun s=>[.row g t o A [.int .i64 s.y.next,.slice s.a s.y.Ao.length s.c] B,.ow Cg 198 (.slice s.a s.y.Ao.length s.c) s.y.Ao s.F,.ow A9 9 (.slice s.ae s.es.length s.ce) s.es s.Fe]):=by
 refine enter func204 rfl ntmps204 fun w0=>?_
 refine go ?_;intros
 refine Bx A9 9 ?_
 refine Ck [0,2] (fun s:U3=>[(3,.slice s.ae s.es.length s.ce)]) (fun s=>[.row g t o A [.int .i64 s.y.next,.slice s.a s.y.Ao.length s.c] B,.ow Cg 198 (.slice s.a s.y.Ao.length s.c) s.y.Ao s.F,.ow A9 9 (.slice s.ae s.es.length s.ce) s.es s.Fe]) (An9 x) (fun s=>s.y.Ao.length) ⟨[],x,a,cc,F,none,0,[]⟩ ⟨h0,h1,hs,by simp,rfl,rfl⟩ fun s hC=>?_
 obtain ⟨n0,n1,hit,hln,hw,he⟩:=hC
 refine go ?_;intros
 refine Aw [0] [] ?_
 refine dt 0 ?_
 refine dt 1 ?_
 refine dt 2 ?_
 refine dt 3 ?_
 refine dt 4 ?_
 refine dt 5 ?_
 refine dt 6 ?_
 refine dO 7 (by kernel_rfl) (by rw [List.getElem?_toArray];rfl) ?_
 apply At;rfl;kernel_rfl;exact Be
 refine cb (fun w st=>by
  obtain ⟨F',h⟩:=Apw (st.get (p:=.ow Cg 198 (.slice s.a s.y.Ao.length s.c) s.y.Ao s.F) (by simp))
  exact (T9 s.y s.y.next _ F' n0 n1 n0 n1).val w (H9 h)) ?_
 refine dk ?_
 refine dd ?_
 rw [Ahi]
 cases hv:Hv s.y.Ao 0
 ·refine go ?_;intros
  refine ret s ⟨by rw [hw,(Ur hv).1],by rw [he,(Ur hv).2,List.append_nil]⟩ rfl
 refine go ?_;intros
 refine cf (Zy s.y g t o A B s.a s.c s.F n0 n1 (by omega) hit) fun z _=>?_
 obtain ⟨az,cz,Fz⟩:=z
 refine Ar ?_
 have hsz:=N8 hit
 have hmx:(Em s.y.Ao).size≤maxLen:=by unfold maxLen;omega
 have hlt:0 < s.y.Ao.length:=by
  rcases Nat.eq_zero_or_pos s.y.Ao.length with h|h
  ·rw [Nm (by omega)] at hv;cases hv
  ·exact h
 have hll:s.es.length+1≤1000000:=by omega
 refine go ?_;intros
 apply wO
 refine Lh (Pa _ hmx) Dh fun a' c' F'=>?_
 refine go ?_;intros
 refine Ct ⟨s.es++[Em s.y.Ao],Sr s.y,az,cz,Fz,a',c',F'⟩ ⟨(Hj _ _).1,(Hj _ _).2,fun z hz=>hit z (List.mem_of_mem_drop hz),by simp [Sr];omega,by rw [hw,(Abx hv).1],by rw [he,(Abx hv).2];simp⟩ (by simp [Sr];omega)
def zsl:Ha:=⟨false,⟨#[]⟩⟩
def Jl (x:Am) (j:Nat):List Ha:=x.Ao++List.replicate j zsl
theorem Lt (x:Am) (j:Nat):(Jl x j).length=x.Ao.length+j:=by simp [Jl]
def Jc (x:Am) (k:Nat) (s:Ha):List Ha:=(Jl x (k+1 - x.Ao.length)).set k s
def Ep (x:Am) (n:Int):Bool:=Oa n x.next || H1 x n
def Kl (x:Am) (n:Int):Bool:=Ep x n || decide (gp x.next n < 8)
def N6 (x:Am) (n:Int) (s:ByteArray):Am:=⟨x.next,Jc x (gp x.next n).toNat ⟨true,s⟩⟩
def Ij (x:Am) (n:Int) (s:ByteArray):Am:=if Ep x n || !decide (gp x.next n < 8) then x else Md (N6 x n s)
def Ia (x:Am) (n:Int) (s:ByteArray):List ByteArray:=if Ep x n || !decide (gp x.next n < 8) then [] else Mv (N6 x n s)
def Dj (a b:Int):Nat:=if Oa a b then (gp a b).toNat else 0
def Fj:Nat→Am→Am
 | 0,y=>y
 | k+1,y=>Fj k (Sr y)
def Km:Nat→Am→List ByteArray
 | 0,_=>[]
 | k+1,y=>Em y.Ao::Km k (Sr y)
theorem Aa3 {a b:Int} (h:Oa a b=false):Dj a b=0:=by unfold Dj;rw [h];rfl
theorem Y8 {a b:Int} (h:Oa a b=true):Dj a b=Dj (Bn a 1) b+1:=by
 unfold Dj
 rw [h]
 unfold Oa Hq gp Bn at *
 simp only [Bool.and_eq_true,decide_eq_true_eq,if_true] at h ⊢
 split <;> omega
theorem Aa2 (a b:Int):Dj a b≤32767:=by
 unfold Dj
 split
 ·rename_i h;unfold Oa Hq at h;simp only [Bool.and_eq_true,decide_eq_true_eq] at h;omega
 ·omega
theorem Yw (s:Ha) (h:s.Ds.size≤maxLen) (w:World):Cq Cg w [.bool s.Ux,.string s.Ds] [s] []:=⟨_,[],[],[],by simp,by simp,⟨rfl,h,rfl⟩,rfl,rfl⟩
theorem Tt {x:Am} {k:Nat} (hs:∀s∈x.Ao,s.Ds.size≤8) {s:Ha} (hi:s.Ds.size≤8):∀z∈Jc x k s,z.Ds.size≤8:=fun z hz=>by
 unfold Jc at hz
 rcases List.mem_or_eq_of_mem_set hz with h|rfl
 ·unfold Jl at h
  rcases List.mem_append.1 h with h|h
  ·exact hs z h
  ·rw [(List.mem_replicate.1 h).2];decide
 ·exact hi
structure Ao3 where
 j:Nat
 a:Option Addr
 c:Nat
 F:List Nat
theorem Ai8 (x:Am) (n:Int) (Ds:ByteArray) (g t o:Nat) (A B:List Value) (a:Option Addr) (cc:Nat) (F:List Nat) (h0:0≤x.next) (h1:x.next≤65535) (h2:0≤n) (h3:n≤65535) (hl:x.Ao.length≤8) (hs:∀s∈x.Ao,s.Ds.size≤8) (hi:Ds.size≤8) :
  Fn prog 254 [Eu g o 0,.int .i64 n,.string Ds] [] [.row g t o A [.int .i64 x.next,.slice a x.Ao.length cc] B,.ow Cg 198 (.slice a x.Ao.length cc) x.Ao F] (fun (s:U3)=>s.y=Ij x n Ds∧s.es=Ia x n Ds)
   (fun s=>.tuple #[.slice s.ae s.es.length s.ce,.bool (Kl x n)]) (fun s=>[.row g t o A [.int .i64 s.y.next,.slice s.a s.y.Ao.length s.c] B,.ow Cg 198 (.slice s.a s.y.Ao.length s.c) s.y.Ao s.F,.ow A9 9 (.slice s.ae s.es.length s.ce) s.es s.Fe]):=by
 have hg:=In x.next n
 refine enter func254 rfl ntmps254 fun w0=>?_
 refine go ?_;intros
 refine ce (fun w s=>K8 _ _ _ (by omega) (by omega) (by omega) (by omega)) ?_
 cases g1:Oa n x.next
 rotate_left
 ·refine go ?_;intros
  refine Bx A9 9 ?_
  refine ret ⟨[],x,a,cc,F,none,0,[]⟩ ⟨by simp [Ij,Ep,g1],by simp [Ia,Ep,g1]⟩ ?_
  simp [Kl,Ep,g1,Rf]
 refine go ?_;intros
 refine cb (fun w st=>by
  obtain ⟨F',h⟩:=Apw (st.get (p:=.ow Cg 198 (.slice a x.Ao.length cc) x.Ao F) (by simp))
  exact (T9 x n _ F' h0 h1 h2 h3).val w (H9 h)) ?_
 cases g2:H1 x n
 rotate_left
 ·refine go ?_;intros
  refine Bx A9 9 ?_
  refine ret ⟨[],x,a,cc,F,none,0,[]⟩ ⟨by simp [Ij,Ep,g1,g2],by simp [Ia,Ep,g1,g2]⟩ ?_
  simp [Kl,Ep,g1,g2,Rf]
 refine go ?_;intros
 refine ce (fun w s=>Ls _ _ _ (by omega) (by omega) (by omega) (by omega)) ?_
 refine go ?_;intros
 refine Bf rfl (fun h8=>?_) (fun h8=>?_)
 ·refine go ?_;intros
  refine Bx A9 9 ?_
  have h9:¬gp x.next n < 8:=by omega
  refine ret ⟨[],x,a,cc,F,none,0,[]⟩ ⟨by simp [Ij,h9],by simp [Ia,h9]⟩ ?_
  simp [Kl,Ep,g1,g2,h9,Rf]
 have hW:Ij x n Ds=Md (N6 x n Ds):=by unfold Ij Ep;rw [g1,g2,decide_eq_true (by omega)];rfl
 have hE:Ia x n Ds=Mv (N6 x n Ds):=by unfold Ia Ep;rw [g1,g2,decide_eq_true (by omega)];rfl
 have hO:Kl x n=true:=by unfold Kl;rw [decide_eq_true (show gp x.next n < 8 by omega)];simp
 unfold N6 at hW hE
 obtain ⟨k,hk⟩:∃k:Nat,gp x.next n=k:=⟨(gp x.next n).toNat,by omega⟩
 rw [hk] at hW hE ⊢
 rw [Int.toNat_natCast] at hW hE
 refine go ?_;intros
 refine Ck [0,2,6,7,8] (fun s:Ao3=>[]) (fun s=>[.row g t o A [.int .i64 x.next,.slice s.a (Jl x s.j).length s.c] B,.ow Cg 198 (.slice s.a (Jl x s.j).length s.c) (Jl x s.j) s.F]) (fun s=>s.j≤k+1 - x.Ao.length) (fun s=>k+1 - x.Ao.length - s.j) ⟨0,a,cc,F⟩ (Nat.zero_le _) (fun s hj=>?_) (hH:=by simp only [Jl,List.replicate_zero,List.append_nil];exact Yr)
 have hpl:=Lt x s.j
 refine go ?_;intros
 refine Bf rfl (fun h9=>?_) (fun h9=>?_)
 ·refine go ?_;intros
  apply wO
  refine Lh (Yw zsl (by decide)) Gn fun a' c' F'=>?_
  refine go ?_;intros
  have e:Jl x s.j++[zsl]=Jl x (s.j+1):=by simp [Jl,List.replicate_succ']
  rw [e]
  refine Ct ⟨s.j+1,a',c',F'⟩ (by show s.j+1≤_;omega) (by show _ - (s.j+1) < _;omega)
 have hjk:s.j=k+1 - x.Ao.length:=by omega
 refine go ?_;intros
 have hkl:k < (Jl x s.j).length:=by omega
 refine Abk k ?_
 rintro hi2 g2 A2 B2 e eF hs2 hh
 rw [e]
 refine Kx ?_;intros
 refine Mr (⟨true,Ds⟩:Ha) hh (fun w=>⟨rfl,by show Ds.size≤maxLen;unfold maxLen;omega,rfl⟩) ?_
 have hsl:(Jl x s.j).length=((Jl x s.j).set k ⟨true,Ds⟩).length:=by rw [List.length_set]
 rw [hsl]
 have hpu:(Jl x s.j).set k ⟨true,Ds⟩=Jc x k ⟨true,Ds⟩:=by unfold Jc;rw [hjk]
 rw [hpu]
 have hpl2:(Jc x k ⟨true,Ds⟩).length≤1000:=by unfold Jc;rw [List.length_set,Lt];omega
 have hps:=Tt (x:=x) (k:=k) hs (s:=⟨true,Ds⟩) hi
 refine go ?_;intros
 refine cf (V6 ⟨x.next,Jc x k ⟨true,Ds⟩⟩ g t o A B _ _ _ h0 h1 (by show (Jc x k ⟨true,Ds⟩).length≤_;omega) hps) fun z hz=>?_
 refine Ar ?_
 refine go ?_;intros
 refine ret z ⟨by rw [hz.1,hW],by rw [hz.2,hE]⟩ ?_
 rw [hO];rfl
structure Ai1 (x:Am) (n:Int) (s:U3):Prop where
 n0:0≤s.y.next
 n1:s.y.next≤65535
 it:∀z∈s.y.Ao,z.Ds.size≤8
 ln:s.y.Ao.length≤x.Ao.length
 le:s.es.length+Dj s.y.next n≤Dj x.next n
 w:Fj (Dj x.next n) x=Fj (Dj s.y.next n) s.y
 e:Km (Dj x.next n) x=s.es++Km (Dj s.y.next n) s.y
theorem Ad1 (x:Am):(Mv x).length≤x.Ao.length:=by
 unfold Mv
 have:∀(l:List Ha) n,(rel n l).2.2.length≤l.length:=by
  intro l
  induction l with
  | nil=>intro n;simp [rel]
  | cons s r ih=>intro n;unfold rel;split;simp;exact ih _;simp
 exact this _ _
theorem Ach (x:Am) (n:Int) (g t o:Nat) (A B:List Value) (a:Option Addr) (cc:Nat) (F:List Nat) (h0:0≤x.next) (h1:x.next≤65535) (h2:0≤n) (h3:n≤65535) (hl:x.Ao.length≤8) (hs:∀s∈x.Ao,s.Ds.size≤8) :
  Fn prog 143 [Eu g o 0,.int .i64 n] [] [.row g t o A [.int .i64 x.next,.slice a x.Ao.length cc] B,.ow Cg 198 (.slice a x.Ao.length cc) x.Ao F] (fun (s:U3)=>s.y=Md (Fj (Dj x.next n) x)∧s.es=Km (Dj x.next n) x++Mv (Fj (Dj x.next n) x))
   (fun s=>.slice s.ae s.es.length s.ce) (fun s=>[.row g t o A [.int .i64 s.y.next,.slice s.a s.y.Ao.length s.c] B,.ow Cg 198 (.slice s.a s.y.Ao.length s.c) s.y.Ao s.F,.ow A9 9 (.slice s.ae s.es.length s.ce) s.es s.Fe]):=by
 have hgn:=Aa2 x.next n
 refine enter func143 rfl ntmps143 fun w0=>?_
 refine go ?_;intros
 refine Bx A9 9 ?_
 refine Ck [0,1,4] (fun s:U3=>[(5,.slice s.ae s.es.length s.ce)]) (fun s=>[.row g t o A [.int .i64 s.y.next,.slice s.a s.y.Ao.length s.c] B,.ow Cg 198 (.slice s.a s.y.Ao.length s.c) s.y.Ao s.F,.ow A9 9 (.slice s.ae s.es.length s.ce) s.es s.Fe]) (Ai1 x n) (fun s=>Dj s.y.next n) ⟨[],x,a,cc,F,none,0,[]⟩ ⟨h0,h1,hs,Nat.le_refl _,by simp,rfl,rfl⟩ fun s hC=>?_
 obtain ⟨n0,n1,hit,hln,hle,hw,he⟩:=hC
 refine go ?_;intros
 refine ce (fun w s=>K8 _ _ _ (by omega) (by omega) (by omega) (by omega)) ?_
 cases hb:Oa s.y.next n
 ·refine go ?_;intros
  rw [Aa3 hb] at hw he
  refine cf (V6 s.y g t o A B s.a s.c s.F n0 n1 (by omega) hit) fun z hz=>?_
  refine Ar ?_
  refine go ?_;intros
  have hr:=Ad1 s.y
  have hzl:z.es.length≤s.y.Ao.length:=by rw [hz.2];exact hr
  refine Ay (xs:=z.es) fun F'=>?_
  apply wO
  refine Ku Dh E4 fun a' c' F2=>?_
  refine go ?_;intros
  refine ret ⟨s.es++z.es,z.y,z.a,z.c,z.F,a',c',F2⟩ ⟨by rw [hz.1,hw];rfl,by rw [hz.2,he,hw];simp [Km,Fj]⟩ rfl
 have hst:=Y8 hb
 refine go ?_;intros
 refine cf (Zy s.y g t o A B s.a s.c s.F n0 n1 (by omega) hit) fun z _=>?_
 obtain ⟨az,cz,Fz⟩:=z
 refine Ar ?_
 have hsz:=N8 hit
 have hmx:(Em s.y.Ao).size≤maxLen:=by unfold maxLen;omega
 refine go ?_;intros
 apply wO
 refine Lh (Pa _ hmx) Dh fun a' c' F'=>?_
 refine go ?_;intros
 refine Ct ⟨s.es++[Em s.y.Ao],Sr s.y,az,cz,Fz,a',c',F'⟩ ⟨(Hj _ _).1,(Hj _ _).2,fun z hz=>hit z (List.mem_of_mem_drop hz),by simp [Sr];omega,by simp [Sr];omega,by rw [hw,hst];rfl,by rw [he,hst];simp [Km,Sr]⟩ (by show Dj (Bn s.y.next 1) n < _;omega)
def zRW:Am:=⟨0,[]⟩
def Qu (x:Am) (n:Int) (s:ByteArray):Bool:=Df x && Ca n && N1 s && Kl x n
def Hy (x:Am) (n:Int) (s:ByteArray):Am × List ByteArray × Bool:=if Qu x n s then (Ij x n s,Ia x n s,true) else (zRW,[],false)
theorem Adn {s:Ha} (h:I6 s=true):s.Ds.size≤8:=by
 unfold I6 N1 at h
 simp only [Bool.and_eq_true,decide_eq_true_eq] at h
 omega
structure Ao0 (x:Am):Prop where
 n0:0≤x.next
 n1:x.next≤65535
 l:x.Ao.length≤8
 it:∀s∈x.Ao,s.Ds.size≤8
theorem Xb {x:Am} (h:Df x=true):Ao0 x:=by
 unfold Df at h
 simp only [Bool.and_eq_true,decide_eq_true_eq] at h
 have hs:=Ba.1 h.1.1.1
 exact ⟨hs.1,hs.2,by omega,fun s hs=>Adn (List.all_eq_true.1 h.1.2 s hs)⟩
theorem Rs {s:ByteArray} (h:N1 s=true):s.size≤8:=by unfold N1 at h;simp only [Bool.and_eq_true,decide_eq_true_eq] at h;omega
structure CpS where
 g:Nat
 a:Option Addr
 c:Nat
 F:List Nat
theorem Qo (x:Am) (v:Value) (F:List Nat) (h0:0≤x.next) (h1:x.next≤65535) (hl:x.Ao.length≤1000000) (hs:∀s∈x.Ao,s.Ds.size≤8) :
  Fn prog 243 [v] [.isv By v x F] [] (fun (s:U3)=>s.y=Md x∧s.es=Mv x)
   (fun s=>.tuple #[.agg #[.int .i64 s.y.next,.slice s.a s.y.Ao.length s.c],.slice s.ae s.es.length s.ce]) (fun s=>[.isv By (.agg #[.int .i64 s.y.next,.slice s.a s.y.Ao.length s.c]) s.y s.F,.ow A9 9 (.slice s.ae s.es.length s.ce) s.es s.Fe]):=by
 refine enter func243 rfl ntmps243 fun w0=>?_
 refine C7 ?_
 rintro a1 c1 F1 rfl l1
 unfold maxLen at l1
 refine go ?_;intros
 refine Gc [2,3] [0] (fun s:CpS=>[(4,Eu s.g 0 0)]) (fun s=>[.row s.g 52 0 [] [.int .i64 x.next,.slice s.a x.Ao.length s.c] [],.ow Cg 198 (.slice s.a x.Ao.length s.c) x.Ao s.F]) (fun _=>True) ?_ fun s _=>?_
 ·refine Aw [0,1] [8] ?_
  refine dt 0 ?_
  refine dt 1 ?_
  refine dt 3 ?_
  refine dt 4 ?_
  refine Ob 2 7 (by kernel_rfl) (by rw [List.getElem?_toArray];rfl) (by rw [List.getElem?_toArray];rfl) ?_ ?_
  ·apply Jk;rfl;intro _
   refine C6 Cg ?_
   refine dk ?_
   refine Ob 5 7 (by kernel_rfl) (by rw [List.getElem?_toArray];rfl) (by rw [List.getElem?_toArray];rfl) ?_ ?_
   ·refine Ku Gn Fc fun a2 c2 F2=>?_
    refine dk ?_
    refine dt 6 ?_
    refine dO 7 (by kernel_rfl) (by rw [List.getElem?_toArray];rfl) ?_
    apply Co;rfl;intro _
    refine dk ?_
    refine dO 8 (by kernel_rfl) (by rw [List.getElem?_toArray];rfl) ?_
    apply Cu;rfl;rfl;rfl;(first|exact AggC.s|exact OneC.s);rfl;exact Cw;exact Cv;rfl
    refine Mg ?_
    refine dd ?_
    refine Cm (⟨_,a2,c2,F2⟩:CpS) trivial
   ·apply Co;rfl;intro _
    refine dk ?_
    refine dO 5 (by kernel_rfl) (by rw [List.getElem?_toArray];rfl) ?_
    refine Ku Gn Fc fun a2 c2 F2=>?_
    refine dk ?_
    refine dt 6 ?_
    refine dO 8 (by kernel_rfl) (by rw [List.getElem?_toArray];rfl) ?_
    apply Cu;rfl;rfl;rfl;(first|exact AggC.s|exact OneC.s);rfl;exact Cw;exact Cv;rfl
    refine Mg ?_
    refine dd ?_
    refine Cm (⟨_,a2,c2,F2⟩:CpS) trivial
  ·apply Co;rfl;intro _
   refine dk ?_
   refine dO 2 (by kernel_rfl) (by rw [List.getElem?_toArray];rfl) ?_
   apply Jk;rfl;intro _
   refine C6 Cg ?_
   refine dk ?_
   refine dO 5 (by kernel_rfl) (by rw [List.getElem?_toArray];rfl) ?_
   refine Ku Gn Fc fun a2 c2 F2=>?_
   refine dk ?_
   refine dt 6 ?_
   refine dO 8 (by kernel_rfl) (by rw [List.getElem?_toArray];rfl) ?_
   apply Cu;rfl;rfl;rfl;(first|exact AggC.s|exact OneC.s);rfl;exact Cw;exact Cv;rfl
   refine Mg ?_
   refine dd ?_
   refine Cm (⟨_,a2,c2,F2⟩:CpS) trivial
 obtain ⟨gg,a2,c2,F2⟩:=s
 refine Ay (xs:=x.Ao) fun F3=>?_
 refine go ?_;intros
 refine C6 A9 ?_
 refine Ck [2,3,4] (fun s:U3=>[(5,.slice s.ae s.es.length s.ce)]) (fun s=>[.row gg 52 0 [] [.int .i64 s.y.next,.slice s.a s.y.Ao.length s.c] [],.sl Cg (.slice s.a s.y.Ao.length s.c) s.y.Ao s.F,.ow A9 9 (.slice s.ae s.es.length s.ce) s.es s.Fe]) (An9 x) (fun s=>s.y.Ao.length) ⟨[],x,a2,c2,F3,_,0,_⟩ ⟨h0,h1,hs,by simp,rfl,rfl⟩ fun s hC=>?_
 obtain ⟨n0,n1,hit,hln,hw,he⟩:=hC
 have stop:Hv s.y.Ao 0=false→s.y=Md x∧s.es=Mv x:=fun h=>⟨by rw [hw,(Ur h).1],by rw [he,(Ur h).2,List.append_nil]⟩
 refine go ?_;intros
 refine Ee rfl rfl (fun h4=>?_) (fun h4=>?_)
 rotate_left
 ·refine go ?_;intros
  have hv:Hv s.y.Ao 0=false:=Nm (by omega)
  refine Cy s.y ?_
  refine ret s (stop hv) rfl
 refine Qi 0 ?_
 rintro hi b o e s1
 rw [e]
 refine go ?_;intros
 cases g1:s.y.Ao[0].Ux
 ·refine go ?_;intros
  rw [←e]
  refine Cy s.y ?_
  refine ret s (stop (by rw [Kz hi,g1])) rfl
 have hv:Hv s.y.Ao 0=true:=by rw [Kz hi,g1]
 have hz:=hit _ (List.getElem_mem hi)
 have h43:(⟨#[43]⟩:ByteArray).size=1:=rfl
 have hpl:(⟨#[43]⟩++s.y.Ao[0].Ds:ByteArray)=Em s.y.Ao:=(Vu hi g1).symm
 have hmx:(Em s.y.Ao).size≤maxLen:=by have:=N8 hit;unfold maxLen;omega
 have hll:s.es.length+1≤1000000:=by omega
 refine go ?_;intros
 rw [hpl]
 apply wO
 refine Lh (Pa _ hmx) Dh fun a' c' F'=>?_
 refine go ?_;intros
 refine Aw [1,2] [7] ?_
 refine dt 0 ?_
 refine dt 1 ?_
 refine dt 3 ?_
 refine dt 4 ?_
 refine Aes 5 1 fun a5 c5 F5=>?_
 refine dO 2 (by kernel_rfl) (by rw [List.getElem?_toArray];rfl) ?_
 apply At;rfl;kernel_rfl;exact Be
 refine ce (fun w s=>Ez _ _ _ (by omega) (by omega)) ?_
 refine dk ?_
 refine dt 6 ?_
 refine dO 7 (by kernel_rfl) (by rw [List.getElem?_toArray];rfl) ?_
 apply Cu;rfl;rfl;rfl;(first|exact AggC.s|exact OneC.s);rfl;exact Cw;exact Cv;rfl
 refine Mg ?_
 refine dd ?_
 refine go ?_;intros
 refine Ct ⟨s.es++[Em s.y.Ao],Sr s.y,a5,c5,F5,a',c',F'⟩ ⟨(Hj _ _).1,(Hj _ _).2,fun z hz=>hit z (List.mem_of_mem_drop hz),by simp [Sr];omega,by rw [hw,(Abx hv).1],by rw [he,(Abx hv).2];simp⟩ (by simp [Sr];omega)
theorem Ae3 (x:Am) (n:Int) (v:Value) (F:List Nat) (h0:0≤x.next) (h1:x.next≤65535) (h2:0≤n) (h3:n≤65535) (hl:x.Ao.length≤8) :
  Fn prog 245 [v,.int .i64 n] [.isv By v x F] [] (fun (_:Unit)=>True) (fun _=>.bool (Kl x n)) (fun _=>[]):=by
 have hg:=In x.next n
 have hh:¬gp x.next n < 8→H1 x n=false:=fun h=>Nm (by omega)
 refine enter func245 rfl ntmps245 fun w0=>?_
 refine C7 ?_
 rintro a1 c1 F1 rfl l1
 refine go ?_;intros
 refine ce (fun w s=>M4 _ _ _ (by omega) (by omega)) ?_
 cases g1:Oa n x.next
 ·refine go ?_;intros
  refine ce (fun w s=>Il _ _ _ (by omega) (by omega)) ?_
  refine go ?_;intros
  refine ret () trivial ?_
  unfold Kl Ep
  rw [g1]
  by_cases h8:gp x.next n < 8
  ·simp [h8,Rf]
  ·simp [h8,hh h8,Rf]
 ·refine go ?_;intros
  refine ret () trivial ?_
  simp [Kl,Ep,g1,Rf]
theorem Ahp (x:Am) (n:Int) (Ds:ByteArray) (v:Value) (F:List Nat) (h0:0≤x.next) (h1:x.next≤65535) (h2:0≤n) (h3:n≤65535) (hl:x.Ao.length≤8) (hs:∀s∈x.Ao,s.Ds.size≤8) (hi:Ds.size≤8) (hok:Kl x n=true) :
  Fn prog 246 [v,.int .i64 n,.string Ds] [.isv By v x F] [] (fun (s:U3)=>s.y=Ij x n Ds∧s.es=Ia x n Ds)
   (fun s=>.tuple #[.agg #[.int .i64 s.y.next,.slice s.a s.y.Ao.length s.c],.slice s.ae s.es.length s.ce]) (fun s=>[.isv By (.agg #[.int .i64 s.y.next,.slice s.a s.y.Ao.length s.c]) s.y s.F,.ow A9 9 (.slice s.ae s.es.length s.ce) s.es s.Fe]):=by
 have hg:=In x.next n
 refine enter func246 rfl ntmps246 fun w0=>?_
 refine C7 ?_
 rintro a1 c1 F1 rfl l1
 refine go ?_;intros
 refine ce (fun w s=>Il _ _ _ (by omega) (by omega)) ?_
 obtain ⟨k,hk⟩:∃k:Nat,gp x.next n=k:=⟨(gp x.next n).toNat,by omega⟩
 rw [hk]
 refine go ?_;intros
 refine Gc [1,2,3,6,7,8] [0,1,2] (fun s:CpS=>[(9,Eu s.g 0 0)]) (fun s=>[.row s.g 52 0 [] [.int .i64 x.next,.slice s.a x.Ao.length s.c] [],.ow Cg 198 (.slice s.a x.Ao.length s.c) x.Ao s.F]) (fun _=>True) ?_ fun s _=>?_
 ·refine Aw [0,1] [8] ?_
  refine dt 0 ?_
  refine dt 1 ?_
  refine dt 3 ?_
  refine dt 4 ?_
  refine Ob 2 7 (by kernel_rfl) (by rw [List.getElem?_toArray];rfl) (by rw [List.getElem?_toArray];rfl) ?_ ?_
  ·apply Jk;rfl;intro _
   refine C6 Cg ?_
   refine dk ?_
   refine Ob 5 7 (by kernel_rfl) (by rw [List.getElem?_toArray];rfl) (by rw [List.getElem?_toArray];rfl) ?_ ?_
   ·refine Ku Gn Fc fun a2 c2 F2=>?_
    refine dk ?_
    refine dt 6 ?_
    refine dO 7 (by kernel_rfl) (by rw [List.getElem?_toArray];rfl) ?_
    apply Co;rfl;intro _
    refine dk ?_
    refine dO 8 (by kernel_rfl) (by rw [List.getElem?_toArray];rfl) ?_
    apply Cu;rfl;rfl;rfl;(first|exact AggC.s|exact OneC.s);rfl;exact Cw;exact Cv;rfl
    refine Mg ?_
    refine dd ?_
    refine Cm (⟨_,a2,c2,F2⟩:CpS) trivial
   ·apply Co;rfl;intro _
    refine dk ?_
    refine dO 5 (by kernel_rfl) (by rw [List.getElem?_toArray];rfl) ?_
    refine Ku Gn Fc fun a2 c2 F2=>?_
    refine dk ?_
    refine dt 6 ?_
    refine dO 8 (by kernel_rfl) (by rw [List.getElem?_toArray];rfl) ?_
    apply Cu;rfl;rfl;rfl;(first|exact AggC.s|exact OneC.s);rfl;exact Cw;exact Cv;rfl
    refine Mg ?_
    refine dd ?_
    refine Cm (⟨_,a2,c2,F2⟩:CpS) trivial
  ·apply Co;rfl;intro _
   refine dk ?_
   refine dO 2 (by kernel_rfl) (by rw [List.getElem?_toArray];rfl) ?_
   apply Jk;rfl;intro _
   refine C6 Cg ?_
   refine dk ?_
   refine dO 5 (by kernel_rfl) (by rw [List.getElem?_toArray];rfl) ?_
   refine Ku Gn Fc fun a2 c2 F2=>?_
   refine dk ?_
   refine dt 6 ?_
   refine dO 8 (by kernel_rfl) (by rw [List.getElem?_toArray];rfl) ?_
   apply Cu;rfl;rfl;rfl;(first|exact AggC.s|exact OneC.s);rfl;exact Cw;exact Cv;rfl
   refine Mg ?_
   refine dd ?_
   refine Cm (⟨_,a2,c2,F2⟩:CpS) trivial
 obtain ⟨gg,a2,c2,F2⟩:=s
 refine go ?_;intros
 refine ce (fun w s=>M4 _ _ _ (by omega) (by omega)) ?_
 cases g1:Oa n x.next
 rotate_left
 ·refine go ?_;intros
  refine C6 A9 ?_
  refine Ay (xs:=x.Ao) fun F3=>?_
  refine Cy x ?_
  refine ret ⟨[],x,a2,c2,F3,_,0,_⟩ ⟨by simp [Ij,Ep,g1],by simp [Ia,Ep,g1]⟩ rfl
 refine go ?_;intros
 refine Ee rfl rfl (fun h4=>?_) (fun h4=>?_)
 ·refine Qi k ?_
  rintro hi2 b2 o2 e s1
  cases e
  refine go ?_;intros
  cases g4:x.Ao[k].Ux
  rotate_left
  ·have hb:H1 x n=true:=by unfold H1;rw [hk,Int.toNat_natCast,Kz hi2];exact g4
   refine go ?_;intros
   refine C6 A9 ?_
   refine Ay (xs:=x.Ao) fun F3=>?_
   refine Cy x ?_
   refine ret ⟨[],x,a2,c2,F3,_,0,_⟩ ⟨by simp [Ij,Ep,hb],by simp [Ia,Ep,hb]⟩ rfl
  have hpad:H1 x n=false:=by unfold H1;rw [hk,Int.toNat_natCast,Kz hi2];exact g4
  have hno:Ep x n=false:=by unfold Ep;rw [g1,hpad];rfl
  have h8:gp x.next n < 8:=by unfold Kl at hok;rw [hno] at hok;simpa using hok
  have hW:Ij x n Ds=Md (N6 x n Ds):=by unfold Ij;rw [hno,decide_eq_true h8];rfl
  have hE:Ia x n Ds=Mv (N6 x n Ds):=by unfold Ia;rw [hno,decide_eq_true h8];rfl
  unfold N6 at hW hE
  rw [hk,Int.toNat_natCast] at hW hE
  refine go ?_;intros
  refine Ck [2,6,7,8,9] (fun s:Ao3=>[]) (fun s=>[.row gg 52 0 [] [.int .i64 x.next,.slice s.a (Jl x s.j).length s.c] [],.ow Cg 198 (.slice s.a (Jl x s.j).length s.c) (Jl x s.j) s.F]) (fun s=>s.j≤k+1 - x.Ao.length) (fun s=>k+1 - x.Ao.length - s.j) ⟨0,a2,c2,F2⟩ (Nat.zero_le _) (fun s hj=>?_) (hH:=by simp only [Jl,List.replicate_zero,List.append_nil];exact Yr)
  have hpl:=Lt x s.j
  refine go ?_;intros
  refine Bf rfl (fun h9=>?_) (fun h9=>?_)
  ·refine go ?_;intros
   apply wO
   refine Lh (Yw zsl (by decide)) Gn fun a' c' F'=>?_
   refine go ?_;intros
   have e:Jl x s.j++[zsl]=Jl x (s.j+1):=by simp [Jl,List.replicate_succ']
   rw [e]
   refine Ct ⟨s.j+1,a',c',F'⟩ (by show s.j+1≤_;omega) (by show _ - (s.j+1) < _;omega)
  have hjk:s.j=k+1 - x.Ao.length:=by omega
  refine go ?_;intros
  have hkl:k < (Jl x s.j).length:=by omega
  refine Abk k ?_
  rintro hi2 g2 A2 B2 e eF hs2 hh
  rw [e]
  refine Kx ?_;intros
  refine Mr (⟨true,Ds⟩:Ha) hh (fun w=>⟨rfl,by show Ds.size≤maxLen;unfold maxLen;omega,rfl⟩) ?_
  have hsl:(Jl x s.j).length=((Jl x s.j).set k ⟨true,Ds⟩).length:=by rw [List.length_set]
  rw [hsl]
  have hpu:(Jl x s.j).set k ⟨true,Ds⟩=Jc x k ⟨true,Ds⟩:=by unfold Jc;rw [hjk]
  rw [hpu]
  have hpl2:(Jc x k ⟨true,Ds⟩).length≤1000:=by unfold Jc;rw [List.length_set,Lt];omega
  have hps:=Tt (x:=x) (k:=k) hs (s:=⟨true,Ds⟩) hi
  refine Ay (xs:=Jc x k ⟨true,Ds⟩) fun F4=>?_
  refine Cy ⟨x.next,Jc x k ⟨true,Ds⟩⟩ ?_
  refine go ?_;intros
  refine cf (Qo ⟨x.next,Jc x k ⟨true,Ds⟩⟩ _ _ h0 h1 (by show (Jc x k ⟨true,Ds⟩).length≤_;omega) hps) fun z hz=>?_
  refine Ar ?_
  refine go ?_;intros
  refine ret z ⟨by rw [hz.1,hW],by rw [hz.2,hE]⟩ rfl
 ·have hpad:H1 x n=false:=Nm (by omega)
  have hno:Ep x n=false:=by unfold Ep;rw [g1,hpad];rfl
  have h8:gp x.next n < 8:=by unfold Kl at hok;rw [hno] at hok;simpa using hok
  have hW:Ij x n Ds=Md (N6 x n Ds):=by unfold Ij;rw [hno,decide_eq_true h8];rfl
  have hE:Ia x n Ds=Mv (N6 x n Ds):=by unfold Ia;rw [hno,decide_eq_true h8];rfl
  unfold N6 at hW hE
  rw [hk,Int.toNat_natCast] at hW hE
  refine go ?_;intros
  refine Ck [2,6,7,8,9] (fun s:Ao3=>[]) (fun s=>[.row gg 52 0 [] [.int .i64 x.next,.slice s.a (Jl x s.j).length s.c] [],.ow Cg 198 (.slice s.a (Jl x s.j).length s.c) (Jl x s.j) s.F]) (fun s=>s.j≤k+1 - x.Ao.length) (fun s=>k+1 - x.Ao.length - s.j) ⟨0,a2,c2,F2⟩ (Nat.zero_le _) (fun s hj=>?_) (hH:=by simp only [Jl,List.replicate_zero,List.append_nil];exact Yr)
  have hpl:=Lt x s.j
  refine go ?_;intros
  refine Bf rfl (fun h9=>?_) (fun h9=>?_)
  ·refine go ?_;intros
   apply wO
   refine Lh (Yw zsl (by decide)) Gn fun a' c' F'=>?_
   refine go ?_;intros
   have e:Jl x s.j++[zsl]=Jl x (s.j+1):=by simp [Jl,List.replicate_succ']
   rw [e]
   refine Ct ⟨s.j+1,a',c',F'⟩ (by show s.j+1≤_;omega) (by show _ - (s.j+1) < _;omega)
  have hjk:s.j=k+1 - x.Ao.length:=by omega
  refine go ?_;intros
  have hkl:k < (Jl x s.j).length:=by omega
  refine Abk k ?_
  rintro hi2 g2 A2 B2 e eF hs2 hh
  rw [e]
  refine Kx ?_;intros
  refine Mr (⟨true,Ds⟩:Ha) hh (fun w=>⟨rfl,by show Ds.size≤maxLen;unfold maxLen;omega,rfl⟩) ?_
  have hsl:(Jl x s.j).length=((Jl x s.j).set k ⟨true,Ds⟩).length:=by rw [List.length_set]
  rw [hsl]
  have hpu:(Jl x s.j).set k ⟨true,Ds⟩=Jc x k ⟨true,Ds⟩:=by unfold Jc;rw [hjk]
  rw [hpu]
  have hpl2:(Jc x k ⟨true,Ds⟩).length≤1000:=by unfold Jc;rw [List.length_set,Lt];omega
  have hps:=Tt (x:=x) (k:=k) hs (s:=⟨true,Ds⟩) hi
  refine Ay (xs:=Jc x k ⟨true,Ds⟩) fun F4=>?_
  refine Cy ⟨x.next,Jc x k ⟨true,Ds⟩⟩ ?_
  refine go ?_;intros
  refine cf (Qo ⟨x.next,Jc x k ⟨true,Ds⟩⟩ _ _ h0 h1 (by show (Jc x k ⟨true,Ds⟩).length≤_;omega) hps) fun z hz=>?_
  refine Ar ?_
  refine go ?_;intros
  refine ret z ⟨by rw [hz.1,hW],by rw [hz.2,hE]⟩ rfl
theorem O9 (x:Am) (n:Int) (v:Value) (F:List Nat) (h0:0≤x.next) (h1:x.next≤65535) (h2:0≤n) (h3:n≤65535) (hl:x.Ao.length≤8) (hs:∀s∈x.Ao,s.Ds.size≤8) :
  Fn prog 214 [v,.int .i64 n] [.isv By v x F] [] (fun (s:U3)=>s.y=Md (Fj (Dj x.next n) x)∧s.es=Km (Dj x.next n) x++Mv (Fj (Dj x.next n) x))
   (fun s=>.tuple #[.agg #[.int .i64 s.y.next,.slice s.a s.y.Ao.length s.c],.slice s.ae s.es.length s.ce]) (fun s=>[.isv By (.agg #[.int .i64 s.y.next,.slice s.a s.y.Ao.length s.c]) s.y s.F,.ow A9 9 (.slice s.ae s.es.length s.ce) s.es s.Fe]):=by
 have hgn:=Aa2 x.next n
 refine enter func214 rfl ntmps214 fun w0=>?_
 refine C7 ?_
 rintro a1 c1 F1 rfl l1
 refine go ?_;intros
 refine Gc [1,4,5] [0] (fun s:CpS=>[(6,Eu s.g 0 0)]) (fun s=>[.row s.g 52 0 [] [.int .i64 x.next,.slice s.a x.Ao.length s.c] [],.ow Cg 198 (.slice s.a x.Ao.length s.c) x.Ao s.F]) (fun _=>True) ?_ fun s _=>?_
 ·refine Aw [0,1] [8] ?_
  refine dt 0 ?_
  refine dt 1 ?_
  refine dt 3 ?_
  refine dt 4 ?_
  refine Ob 2 7 (by kernel_rfl) (by rw [List.getElem?_toArray];rfl) (by rw [List.getElem?_toArray];rfl) ?_ ?_
  ·apply Jk;rfl;intro _
   refine C6 Cg ?_
   refine dk ?_
   refine Ob 5 7 (by kernel_rfl) (by rw [List.getElem?_toArray];rfl) (by rw [List.getElem?_toArray];rfl) ?_ ?_
   ·refine Ku Gn Fc fun a2 c2 F2=>?_
    refine dk ?_
    refine dt 6 ?_
    refine dO 7 (by kernel_rfl) (by rw [List.getElem?_toArray];rfl) ?_
    apply Co;rfl;intro _
    refine dk ?_
    refine dO 8 (by kernel_rfl) (by rw [List.getElem?_toArray];rfl) ?_
    apply Cu;rfl;rfl;rfl;(first|exact AggC.s|exact OneC.s);rfl;exact Cw;exact Cv;rfl
    refine Mg ?_
    refine dd ?_
    refine Cm (⟨_,a2,c2,F2⟩:CpS) trivial
   ·apply Co;rfl;intro _
    refine dk ?_
    refine dO 5 (by kernel_rfl) (by rw [List.getElem?_toArray];rfl) ?_
    refine Ku Gn Fc fun a2 c2 F2=>?_
    refine dk ?_
    refine dt 6 ?_
    refine dO 8 (by kernel_rfl) (by rw [List.getElem?_toArray];rfl) ?_
    apply Cu;rfl;rfl;rfl;(first|exact AggC.s|exact OneC.s);rfl;exact Cw;exact Cv;rfl
    refine Mg ?_
    refine dd ?_
    refine Cm (⟨_,a2,c2,F2⟩:CpS) trivial
  ·apply Co;rfl;intro _
   refine dk ?_
   refine dO 2 (by kernel_rfl) (by rw [List.getElem?_toArray];rfl) ?_
   apply Jk;rfl;intro _
   refine C6 Cg ?_
   refine dk ?_
   refine dO 5 (by kernel_rfl) (by rw [List.getElem?_toArray];rfl) ?_
   refine Ku Gn Fc fun a2 c2 F2=>?_
   refine dk ?_
   refine dt 6 ?_
   refine dO 8 (by kernel_rfl) (by rw [List.getElem?_toArray];rfl) ?_
   apply Cu;rfl;rfl;rfl;(first|exact AggC.s|exact OneC.s);rfl;exact Cw;exact Cv;rfl
   refine Mg ?_
   refine dd ?_
   refine Cm (⟨_,a2,c2,F2⟩:CpS) trivial
 obtain ⟨gg,a2,c2,F2⟩:=s
 refine Ay (xs:=x.Ao) fun F3=>?_
 refine go ?_;intros
 refine C6 A9 ?_
 refine Ck [1,4,5,6] (fun s:U3=>[(7,.slice s.ae s.es.length s.ce)]) (fun s=>[.row gg 52 0 [] [.int .i64 s.y.next,.slice s.a s.y.Ao.length s.c] [],.sl Cg (.slice s.a s.y.Ao.length s.c) s.y.Ao s.F,.ow A9 9 (.slice s.ae s.es.length s.ce) s.es s.Fe]) (Ai1 x n) (fun s=>Dj s.y.next n) ⟨[],x,a2,c2,F3,_,0,_⟩ ⟨h0,h1,hs,Nat.le_refl _,by simp,rfl,rfl⟩ fun s hC=>?_
 obtain ⟨n0,n1,hit,hln,hle,hw,he⟩:=hC
 refine go ?_;intros
 refine ce (fun w s=>M4 _ _ _ (by omega) (by omega)) ?_
 cases hb:Oa s.y.next n
 ·refine Kx ?_;intros
  refine Cy s.y ?_
  refine go ?_;intros
  rw [Aa3 hb] at hw he
  refine cf (Qo s.y _ _ n0 n1 (by omega) hit) fun z hz=>?_
  refine Ar ?_
  refine go ?_;intros
  have hr:=Ad1 s.y
  have hzl:z.es.length≤s.y.Ao.length:=by rw [hz.2];exact hr
  refine Ay (xs:=z.es) fun F'=>?_
  refine Aw [1] [] ?_
  refine dt 0 ?_
  refine dt 1 ?_
  refine dt 2 ?_
  refine dO 3 (by kernel_rfl) (by rw [List.getElem?_toArray];rfl) ?_
  refine Ku Dh E4 fun a' c' F2=>?_
  refine dk ?_
  refine dO 4 (by kernel_rfl) (by rw [List.getElem?_toArray];rfl) ?_
  apply Cu;rfl;rfl;rfl;(first|exact AggC.s|exact OneC.s);rfl;exact Cw;exact Cv;rfl
  refine dk ?_
  refine dt 5 ?_
  refine dd ?_
  refine go ?_;intros
  refine ret ⟨s.es++z.es,z.y,z.a,z.c,z.F,a',c',F2⟩ ⟨by rw [hz.1,hw];rfl,by rw [hz.2,he,hw];simp [Km,Fj]⟩ rfl
 have hst:=Y8 hb
 have hmx:(Em s.y.Ao).size≤maxLen:=by have:=N8 hit;unfold maxLen;omega
 refine go ?_;intros
 refine C6 Cg ?_
 refine Bf rfl (fun h4=>?_) (fun h4=>?_)
 ·refine Qi 0 ?_
  rintro hi b o e s1
  rw [e]
  refine go ?_;intros
  cases g1:s.y.Ao[0].Ux
  ·have hpl1:(⟨#[45]⟩:ByteArray)=Em s.y.Ao:=(Aa0 hi g1).symm
   refine go ?_;intros
   apply wO
   refine sld 1 fun a5 c5 F5=>?_
   refine go ?_;intros
   rw [hpl1]
   apply wO
   refine Lh (Pa _ hmx) Dh fun a' c' F'=>?_
   refine go ?_;intros
   refine ce (fun w s=>Ez _ _ _ (by omega) (by omega)) ?_
   refine go ?_;intros
   refine Ct ⟨s.es++[Em s.y.Ao],Sr s.y,a5,c5,F5,a',c',F'⟩ ⟨(Hj _ _).1,(Hj _ _).2,fun z hz=>hit z (List.mem_of_mem_drop hz),by simp [Sr];omega,by simp [Sr];omega,by rw [hw,hst];rfl,by rw [he,hst];simp [Km,Sr]⟩ (by show Dj (Bn s.y.next 1) n < _;omega)
  ·have hz:=hit _ (List.getElem_mem hi)
   have h43:(⟨#[43]⟩:ByteArray).size=1:=rfl
   have hpl2:(⟨#[43]⟩++s.y.Ao[0].Ds:ByteArray)=Em s.y.Ao:=(Vu hi g1).symm
   refine go ?_;intros
   apply wO
   refine sld 1 fun a5 c5 F5=>?_
   refine go ?_;intros
   rw [hpl2]
   apply wO
   refine Lh (Pa _ hmx) Dh fun a' c' F'=>?_
   refine go ?_;intros
   refine ce (fun w s=>Ez _ _ _ (by omega) (by omega)) ?_
   refine go ?_;intros
   refine Ct ⟨s.es++[Em s.y.Ao],Sr s.y,a5,c5,F5,a',c',F'⟩ ⟨(Hj _ _).1,(Hj _ _).2,fun z hz=>hit z (List.mem_of_mem_drop hz),by simp [Sr];omega,by simp [Sr];omega,by rw [hw,hst];rfl,by rw [he,hst];simp [Km,Sr]⟩ (by show Dj (Bn s.y.next 1) n < _;omega)
 ·have hnil:s.y.Ao=[]:=List.eq_nil_of_length_eq_zero (by omega)
  have hpl3:(⟨#[45]⟩:ByteArray)=Em s.y.Ao:=by rw [hnil];rfl
  have hd:([]:List Ha)=s.y.Ao.drop 1:=by rw [hnil];rfl
  ·refine go ?_;intros
   refine Ay (E:=Cg) (xs:=[]) fun F6=>?_
   rw [show (Value.slice (some _) 0 0:Value)=Value.slice _ ([]:List Ha).length 0 from rfl]
   rw [hpl3]
   apply wO
   refine Lh (Pa _ hmx) Dh fun a' c' F'=>?_
   refine go ?_;intros
   refine ce (fun w s=>Ez _ _ _ (by omega) (by omega)) ?_
   refine go ?_;intros
   rw [hd]
   refine Ct ⟨s.es++[Em s.y.Ao],Sr s.y,_,0,F6,a',c',F'⟩ ⟨(Hj _ _).1,(Hj _ _).2,fun z hz=>hit z (List.mem_of_mem_drop hz),by simp [Sr];omega,by simp [Sr];omega,by rw [hw,hst];rfl,by rw [he,hst];simp [Km,Sr]⟩ (by show Dj (Bn s.y.next 1) n < _;omega)
end Go.Proofs.YtbmlecejkacpnaaGreatDoor
namespace Go.Proofs.YtbmlecejkacpnaaGreatDoor

open Go.RowKit
end Go.Proofs.YtbmlecejkacpnaaGreatDoor
namespace Go.Proofs.YtbmlecejkacpnaaGreatDoor
open Go.RowKit
def Pl (a b:Int):Int × Bool:=if Ca a && Ca b then (gp a b,true) else (0,false)
theorem Aaj (x:Am) (n:Int) (v:Value) (F:List Nat) (h0:0≤x.next) (h1:x.next≤65535) (h2:0≤n) (h3:n≤65535) :
  Fn prog 211 [v,.int .i64 n] [.isv By v x F] [] (fun (_:Unit)=>True) (fun _=>.bool (Ep x n)) (fun _=>[]):=by
 have hg:=In x.next n
 refine enter func211 rfl ntmps211 fun w0=>?_
 refine C7 ?_
 rintro a1 c1 F1 rfl l1
 refine go ?_;intros
 refine ce (fun w s=>Il _ _ _ (by omega) (by omega)) ?_
 obtain ⟨k,hk⟩:∃k:Nat,gp x.next n=k:=⟨(gp x.next n).toNat,by omega⟩
 have hh:H1 x n=Hv x.Ao k:=by unfold H1;rw [hk,Int.toNat_natCast]
 rw [hk]
 refine go ?_;intros
 refine ce (fun w s=>M4 _ _ _ (by omega) (by omega)) ?_
 cases g1:Oa n x.next
 ·refine go ?_;intros
  refine Ee rfl rfl (fun h4=>?_) (fun h4=>?_)
  ·refine Qi (xs:=x.Ao) k ?_
   rintro hi2 b2 o2 e s1
   rw [e]
   refine go ?_;intros
   refine ret () trivial ?_
   simp [Ep,g1,hh,Kz hi2,Rf]
  ·refine go ?_;intros
   refine ret () trivial ?_
   simp [Ep,g1,hh,Nm (show x.Ao.length≤k by omega),Rf]
 ·refine go ?_;intros
  refine ret () trivial ?_
  simp [Ep,g1,Rf]
theorem Ack (a b:Int):Fn prog 12 [.int .i64 a,.int .i64 b] [] [] (fun (_:Unit)=>True) (fun _=>.tuple #[.int .i64 (Pl a b).1,.bool (Pl a b).2]) (fun _=>[]):=by
 refine enter func12 rfl ntmps12 fun w0=>?_
 refine go ?_;intros
 refine ce (fun w s=>Gb _ _) ?_
 cases g1:Ca a
 ·refine go ?_;intros
  rw [show Pl a b=_ by unfold Pl;rw [g1]]
  refine ret () trivial rfl
 refine go ?_;intros
 refine ce (fun w s=>Gb _ _) ?_
 cases g2:Ca b
 ·refine go ?_;intros
  rw [show Pl a b=_ by unfold Pl;rw [g1,g2]]
  refine ret () trivial rfl
 obtain ⟨a0,a1⟩:=Ba.1 g1
 obtain ⟨b0,b1⟩:=Ba.1 g2
 rw [show Pl a b=_ by unfold Pl;rw [g1,g2]]
 refine go ?_;intros
 refine ce (fun w s=>Ls _ _ _ (by omega) (by omega) (by omega) (by omega)) ?_
 refine go ?_;intros
 refine ret () trivial rfl
theorem Acl (n:Int) (j:Nat):Bn (Bn n 1) j=Bn n ((j+1:Nat):Int):=by unfold Bn;omega
theorem M0 {n:Int} (h0:0≤n) (h1:n≤65535):Bn n ((0:Nat):Int)=n:=by unfold Bn;omega
theorem Ry:∀(l:List Ha) (n:Int),0≤n→n≤65535→(rel n l).1=Bn n ((rel n l).2.2.length:Nat)
 | [],n,h0,h1=>(M0 h0 h1).symm
 | s::r,n,h0,h1=>by
  have ih:=Ry r (Bn n 1) (Hj _ _).1 (Hj _ _).2
  unfold rel
  split
  ·dsimp only
   rw [ih,Acl,List.length_cons]
  ·exact (M0 h0 h1).symm
theorem Z9:∀(k:Nat) (x:Am),0≤x.next→x.next≤65535→(Fj k x).next=Bn x.next (k:Nat)∧0≤(Fj k x).next∧(Fj k x).next≤65535
 | 0,x,h0,h1=>⟨(M0 h0 h1).symm,h0,h1⟩
 | k+1,x,h0,h1=>by
  obtain ⟨a,b,c⟩:=Z9 k (Sr x) (Hj _ _).1 (Hj _ _).2
  unfold Fj
  exact ⟨by rw [a];show Bn (Bn x.next 1) k=_;rw [Acl],b,c⟩
theorem Nd (n:Int) (i j:Nat):Bn (Bn n i) j=Bn n ((i+j:Nat):Int):=by unfold Bn;omega
theorem Wb (k:Nat) (x:Am) (h0:0≤x.next) (h1:x.next≤65535):(Md (Fj k x)).next=Bn x.next ((Km k x++Mv (Fj k x)).length:Nat):=by
 obtain ⟨a,b,c⟩:=Z9 k x h0 h1
 have d:(Md (Fj k x)).next=Bn (Fj k x).next ((Mv (Fj k x)).length:Nat):=Ry (Fj k x).Ao (Fj k x).next b c
 have e:∀(k:Nat) (x:Am),(Km k x).length=k:=by
  intro k
  induction k with
  | zero=>intro x;rfl
  | succ k ih=>intro x;unfold Km;rw [List.length_cons,ih]
 rw [d,a,Nd,List.length_append,e]
theorem Aph (n:Int) (j:Nat) (hj:j≤65535):gp n (Bn n j)=j:=by unfold gp Bn;omega
theorem P9:∀(l:List Ha) (n:Int),(rel n l).2.1=l.drop (rel n l).2.2.length∧Hv (rel n l).2.1 0=false
 | [],n=>⟨rfl,rfl⟩
 | s::r,n=>by
  have ih:=P9 r (Bn n 1)
  unfold rel
  split
  ·dsimp only
   rw [List.length_cons,List.drop_succ_cons]
   exact ih
  ·rename_i h
   exact ⟨rfl,by simpa [Hv] using h⟩
theorem Oo:∀(k:Nat) (x:Am),(Fj k x).Ao=x.Ao.drop k
 | 0,_=>rfl
 | k+1,x=>by unfold Fj;rw [Oo k (Sr x)];simp [Sr,Nat.add_comm]
theorem Ql (l:List Ha) (m i:Nat):Hv (l.drop m) i=Hv l (m+i):=by unfold Hv;rw [List.getElem?_drop]
theorem Wa (k:Nat) (x:Am) (hg:Df x=true):Df (Md (Fj k x))=true:=by
 have g:=Xb hg
 unfold Df at hg
 simp only [Bool.and_eq_true,decide_eq_true_eq] at hg
 obtain ⟨⟨⟨h1,h2⟩,h3⟩,h4⟩:=hg
 obtain ⟨d1,d2⟩:=P9 (Fj k x).Ao (Fj k x).next
 rw [Oo,List.drop_drop] at d1
 have hs:(Md (Fj k x)).Ao=x.Ao.drop (k+(rel (Fj k x).next (x.Ao.drop k)).2.2.length):=by
  unfold Md;dsimp only;rw [Oo,d1]
 have hn:=Wb k x g.n0 g.n1
 generalize k+(rel (Fj k x).next (x.Ao.drop k)).2.2.length=m at hs
 have h0:Hv (Md (Fj k x)).Ao 0=false:=d2
 rw [hs] at h0
 have e1:Ca (Md (Fj k x)).next=true:=by rw [hn];exact Lv _ _
 have e2:(x.Ao.drop m).all I6=true:=List.all_eq_true.2 fun z hz=>List.all_eq_true.1 h3 z (List.mem_of_mem_drop hz)
 have e3:Uc (x.Ao.drop m)=true:=by
  unfold Uc
  by_cases hz:(x.Ao.drop m).length=0
  ·rw [decide_eq_true hz];rfl
  ·rw [decide_eq_false hz,h0,Ql]
   unfold Uc at h4
   rw [List.length_drop] at hz ⊢
   rw [decide_eq_false (show ¬x.Ao.length=0 by omega)] at h4
   simp only [Bool.false_or,Bool.and_eq_true] at h4
   rw [show m+(x.Ao.length - m - 1)=x.Ao.length - 1 by omega,h4.2]
   rfl
 unfold Df
 rw [e1,hs,e2,e3,decide_eq_true (by simp;omega)]
 rfl
theorem Aey {x:Am} (hg:Df x=true):Hv x.Ao 0=false:=by
 unfold Df Uc at hg
 simp only [Bool.and_eq_true,Bool.or_eq_true,decide_eq_true_eq,Bool.not_eq_true'] at hg
 rcases hg.2 with h|h
 ·exact Nm (by omega)
 ·exact h.1
theorem Agg (x:Am):(Mv x).length≤x.Ao.length:=by
 unfold Mv
 have:∀(l:List Ha) n,(rel n l).2.2.length≤l.length:=by
  intro l
  induction l with
  | nil=>intro n;exact Nat.le_refl _
  | cons s r ih =>
   intro n
   unfold rel
   split
   ·dsimp only;rw [List.length_cons,List.length_cons];exact Nat.succ_le_succ (ih _)
   ·exact Nat.zero_le _
 exact this _ _
theorem Aad (l:List Ha) (k i:Nat) (s:Ha) (hk:k < l.length):Hv (l.set k s) i=if i=k then s.Ux else Hv l i:=by
 unfold Hv
 rw [List.getElem?_set]
 by_cases h:k=i
 ·subst h;simp [hk]
 ·rw [if_neg h,if_neg (fun e=>h e.symm)]
theorem Adv (x:Am) (k:Nat) (s:Ha):(Jc x k s).length=max x.Ao.length (k+1):=by
 unfold Jc;rw [List.length_set,Lt];omega
theorem Age (x:Am) (k:Nat) (s:Ha):Hv (Jc x k s) k=s.Ux:=by
 unfold Jc;rw [Aad _ _ _ _ (by rw [Lt];omega),if_pos rfl]
theorem Aks (x:Am) (k:Nat) (s:Ha):(Jc x k s)[k]?=some s:=by
 unfold Jc;rw [List.getElem?_set_self (by rw [Lt];omega)]
theorem Ang {x:Am} {k:Nat} {s:Ha} (hx:x.Ao.all I6=true) (hs:I6 s=true):(Jc x k s).all I6=true:=by
 rw [List.all_eq_true] at hx ⊢
 intro z hz
 unfold Jc at hz
 rcases List.mem_or_eq_of_mem_set hz with h|rfl
 ·unfold Jl at h
  rcases List.mem_append.1 h with h|h
  ·exact hx z h
  ·rw [(List.mem_replicate.1 h).2];decide
 ·exact hs
theorem Aia {x:Am} {k:Nat} {s:Ha} (hx:Uc x.Ao=true) (hs:s.Ux=true):Hv (Jc x k s) ((Jc x k s).length - 1)=true:=by
 rw [Adv]
 by_cases h:x.Ao.length≤k+1
 ·rw [show max x.Ao.length (k+1) - 1=k by omega,Age];exact hs
 ·unfold Jc
  rw [Aad _ _ _ _ (by rw [Lt];omega),if_neg (by omega)]
  unfold Uc at hx
  rw [decide_eq_false (by omega)] at hx
  simp only [Bool.false_or,Bool.and_eq_true] at hx
  rw [show max x.Ao.length (k+1) - 1=x.Ao.length - 1 by omega]
  unfold Jl
  rw [show k+1 - x.Ao.length=0 by omega]
  simpa using hx.2
theorem Akx {n:Int} {L:List Ha} (hn:Ca n=true) (ho:L.all I6=true) (hl:L.length≤8) (he:Hv L (L.length - 1)=true∨L=[]):Df (Md ⟨n,L⟩)=true:=by
 obtain ⟨d1,d2⟩:=P9 L n
 have hs:(Md ⟨n,L⟩).Ao=L.drop (rel n L).2.2.length:=d1
 obtain ⟨p0,p1⟩:=Ba.1 hn
 have hnx:(Md ⟨n,L⟩).next=Bn n ((rel n L).2.2.length:Nat):=Ry L n p0 p1
 generalize (rel n L).2.2.length=m at hs hnx
 have h0:Hv (Md ⟨n,L⟩).Ao 0=false:=d2
 rw [hs] at h0
 have e1:Ca (Md ⟨n,L⟩).next=true:=by rw [hnx];exact Lv _ _
 have e2:(L.drop m).all I6=true:=List.all_eq_true.2 fun z hz=>List.all_eq_true.1 ho z (List.mem_of_mem_drop hz)
 have e3:Uc (L.drop m)=true:=by
  unfold Uc
  by_cases hz:(L.drop m).length=0
  ·rw [decide_eq_true hz];rfl
  ·rw [decide_eq_false hz,h0,Ql]
   rw [List.length_drop] at hz ⊢
   rcases he with he|he
   ·rw [show m+(L.length - m - 1)=L.length - 1 by omega,he];rfl
   ·subst he;simp at hz
 unfold Df
 rw [e1,hs,e2,e3,decide_eq_true (by simp;omega)]
 rfl
theorem Aka (x:Am) (n:Int) (s:ByteArray):(Hy x n s).2.2=true→Df x=true∧Ca n=true∧Df (Hy x n s).1=true∧gp x.next (Hy x n s).1.next=((Hy x n s).2.1.length:Nat)∧Ep (Hy x n s).1 n=true∧(n=x.next→∃r,(Hy x n s).2.1=Adt s::r)∧(Hy x n s).2.1.length≤8∧s.size≤8:=by
 unfold Hy
 split
 rotate_left
 ·intro h;cases h
 rename_i h
 intro _
 unfold Qu at h
 simp only [Bool.and_eq_true] at h
 obtain ⟨⟨⟨h1,h2⟩,h3⟩,h4⟩:=h
 have g:=Xb h1
 have p0:=g.n0
 have p1:=g.n1
 have pl:=g.l
 obtain ⟨n0,n1⟩:=Ba.1 h2
 refine ⟨h1,h2,?_⟩
 dsimp only
 cases ht:Ep x n with
 | true =>
  have eW:Ij x n s=x:=by unfold Ij;rw [ht];rfl
  have eE:Ia x n s=[]:=by unfold Ia;rw [ht];rfl
  rw [eW,eE]
  refine ⟨h1,?_,ht,fun e=>?_,by simp,Rs h3⟩
  ·unfold gp;simp
  ·subst e
   exfalso
   unfold Ep at ht
   rw [Bool.or_eq_true] at ht
   rcases ht with h|h
   ·unfold Oa gp at h;simp at h;exact absurd h (by decide)
   ·unfold H1 at h
    rw [show gp x.next x.next=0 by unfold gp;omega] at h
    rw [show (0:Int).toNat=0 from rfl,Aey h1] at h
    cases h
 | false =>
  have hk8:gp x.next n < 8:=by unfold Kl at h4;rw [ht] at h4;simpa using h4
  have hgb:=In x.next n
  obtain ⟨k,hk⟩:∃k:Nat,gp x.next n=k:=⟨(gp x.next n).toNat,by omega⟩
  have eW:Ij x n s=Md ⟨x.next,Jc x k ⟨true,s⟩⟩:=by unfold Ij;rw [ht,decide_eq_true hk8];unfold N6;rw [hk,Int.toNat_natCast];rfl
  have eE:Ia x n s=(rel x.next (Jc x k ⟨true,s⟩)).2.2:=by unfold Ia;rw [ht,decide_eq_true hk8];unfold N6;rw [hk,Int.toNat_natCast];rfl
  have hx:x.Ao.all I6=true∧Uc x.Ao=true:=by
   unfold Df at h1
   simp only [Bool.and_eq_true] at h1
   exact ⟨h1.1.2,h1.2⟩
  have hos:I6 ⟨true,s⟩=true:=by unfold I6;rw [h3];rfl
  have hL:=Adv x k ⟨true,s⟩
  have hat:=Age x k ⟨true,s⟩
  have hget:=Aks x k ⟨true,s⟩
  have ho:=Ang (k:=k) hx.1 hos
  have hla:=Aia (k:=k) (s:=⟨true,s⟩) hx.2 rfl
  rw [eW,eE]
  generalize Jc x k ⟨true,s⟩=L at *
  have hl8:L.length≤8:=by omega
  have hrl:(rel x.next L).2.2.length≤L.length:=by
   have:=Agg ⟨x.next,L⟩
   unfold Mv at this;dsimp only at this;omega
  obtain ⟨d1,d2⟩:=P9 L x.next
  have hnx:=Ry L x.next p0 p1
  have hn:n=Bn x.next (k:Nat):=by rw [←hk];unfold gp Bn;omega
  refine ⟨Akx (Ba.2 ⟨p0,p1⟩) ho hl8 (.inl hla),?_,?_,?_,by omega,Rs h3⟩
  ·show gp x.next (rel x.next L).1=_
   rw [hnx];exact Aph _ _ (by omega)
  ·unfold Ep
   show (Oa n (rel x.next L).1 || Hv (rel x.next L).2.1 (gp (rel x.next L).1 n).toNat)=true
   rw [hnx,d1]
   generalize (rel x.next L).2.2.length=m at *
   by_cases hkm:k < m
   ·rw [show Oa n (Bn x.next (m:Nat))=true by rw [hn];unfold Oa Hq gp Bn;rw [Bool.and_eq_true];simp only [decide_eq_true_eq];omega];rfl
   ·rw [show gp (Bn x.next (m:Nat)) n=((k - m:Nat):Int) by rw [hn];unfold gp Bn;omega,Int.toNat_natCast,Ql,show m+(k - m)=k by omega,hat]
    simp
  ·intro e
   have hk0:k=0:=by rw [e] at hk;unfold gp at hk;omega
   subst hk0
   cases L with
   | nil=>simp at hget
   | cons z r =>
    simp at hget
    subst hget
    exact ⟨(rel (Bn x.next 1) r).2.2,by simp [rel]⟩
theorem Yv {s:ByteArray} (h:s.size≤maxLen) (w:World):Cq A9 w [.string s] [s] []:=⟨_,[],[],[],by simp,by simp,⟨rfl,h,rfl⟩,rfl,rfl⟩
theorem Wy {c:Cx} {fr:Fr} {H:List Pc} {Φ:Gl} {α:Type} {E:Br α} {v:Value} {xs:List α} {F:List Nat} (h:∀a cp,v=.slice a xs.length cp→xs.length≤cp→cp≤9223372036854775807→T c fr H Φ) (hm:.sl E v xs F∈H:=by exact B8):T c fr H Φ:=.mk fun ac w s g=>by
 obtain ⟨-,hs⟩:=s.get hm
 obtain ⟨a,cp,rfl⟩:=hs.slice
 obtain ⟨-,h2,h3⟩:=hs.caps
 exact (h a cp rfl h2 (by unfold maxLen at h3;omega)).h ac w s g
theorem Dz {c:Cx} {fr:Fr} {H:List Pc} {Φ:Gl} {α:Type} {E:Br α} {t g:Nat} {cs:List Value} {xs:List α} {S:List Pc} (hfl:∀w,Cq E w cs xs []) (h:T c fr (.ow E t (.slice (some ⟨g,0,none⟩) xs.length xs.length) xs [g]::S) Φ) (hl:xs.length≤1000000) (hp:C1 H (.row g t 0 [] cs []) S:=by exact Dy):T c fr H Φ:=.mk fun a w s g'=>by
 have s1:=s.pick hp
 have hr:=(s1.on (.row g t 0 [] cs []) (by simp)).2
 have hlen:=(hfl w).len
 refine h.h a w (s1.conv rfl ⟨by simp,.inr ⟨g,xs.length,cs,[],[],rfl,by simpa using hr,Nat.le_refl _,by unfold maxLen;omega,by simpa using hlen,hfl w,rfl⟩⟩ (by simp [Pc.F])) g'
theorem Amr {P:Program} {f:FuncId} {args:List Value} {A:List Pc} {σ:Type} {C:σ→Prop} {v:σ→Value} {N:σ→Pc}
  (h:∀w,Ms A w→Calls P f args.toArray w fun e w'=>∃s,C s∧e=.returned (v s)∧(N s).P w'∧(∀b∈(N s).F,w.heap.size≤b)∧Below w.heap.size w w'):Fn P f args A [] C v (fun s=>[N s]):=fun w hA _=>by
 refine (h w (by simpa using hA)).mono ?_
 rintro e w' ⟨s,hC,he,hN,hF,hB⟩
 refine ⟨s,hC,he,H9 hN,⟨by simp,trivial⟩,Dt.ofBelow hB,fun p hp b hb=>?_⟩
 simp at hp
 subst hp
 exact .inl (hF b hb)
def My (t:Int) (k:Nat):List Int:=(List.range k).map fun i=>Bn t (i:Nat)
theorem Ty (t:Int) (k:Nat):My t (k+1)=My t k++[Bn t (k:Nat)]:=by unfold My;rw [List.range_succ,List.map_append];rfl
theorem Vv (t:Int) (k:Nat):(My t k).length=k:=by unfold My;simp
theorem Qx (n:Int) (w:World):Cq Bd w [.int .i64 n] [n] []:=⟨_,[],[],[],by simp,by simp,⟨rfl,rfl⟩,rfl,rfl⟩
structure SpS where
 k:Nat
 a:Option Addr
 c:Nat
 F:List Nat
theorem Ap5 (t:Int) (n:Nat) (t0:0≤t) (t1:t≤65535) (hn:n≤65536):Fn prog 290 [.int .i64 t,.int .i64 (n:Nat)] [] [] (fun (_:Option Addr × Nat × List Nat)=>True) (fun s=>.slice s.1 (My t n).length s.2.1) (fun s=>[.ow Bd 3 (.slice s.1 (My t n).length s.2.1) (My t n) s.2.2]):=by
 refine enter func290 rfl ntmps290 fun w0=>?_
 refine go ?_;intros
 refine Bx Bd 3 ?_
 refine Ck [0,4,7] (fun s:SpS=>[(5,.slice s.a (My t s.k).length s.c),(8,.int .i64 (s.k:Nat))]) (fun s=>[.ow Bd 3 (.slice s.a (My t s.k).length s.c) (My t s.k) s.F]) (fun s=>s.k≤n) (fun s=>n - s.k) ⟨0,none,0,[]⟩ (Nat.zero_le _) fun s hs=>?_
 obtain ⟨k,a,c,F⟩:=s
 dsimp only at hs ⊢
 have hl:=Vv t k
 refine go ?_;intros
 refine Bf rfl (fun h1=>?_) (fun h1=>?_)
 ·refine go ?_;intros
  refine ce (fun w s=>N3 _ _ _ (by omega) (by omega)) ?_
  refine go ?_;intros
  apply wO
  refine Lh (Qx _) Db fun a2 c2 F2=>?_
  refine go ?_;intros
  rw [←Ty]
  refine Ct ⟨k+1,a2,c2,F2⟩ (by show k+1≤n;omega) (by show n - (k+1) < n - k;omega)
 ·have hk:k=n:=by omega
  subst hk
  refine go ?_;intros
  refine ret (a,c,F) trivial rfl
section
variable {P:Program} {n:Nat} {fr:Fr} {H:List Pc} {ty:TypeId} {x y z:Operand}
theorem Al0 {t:TypeId} {s:ByteArray} {kd:IntKind} {i:Int} [hS:StrC P t] (hx:ev fr x=some (.string s)) (hy:ev fr y=some (.int kd i)) (h0:0≤i) (h1:i≤s.size):Yd P n fr H (.slice t x (some y) none none) ty (.string (s.extract i.toNat s.size)):=.mk fun a w d pos Bn g hA _=>by
 have h3:(Instr.sliceAt t (.string s) (some (.int kd i)) none none).run P w=.ok (.string (s.extract i.toNat s.size)) w:=by
  rw [run_sliceAt_string (h:=hS.u),run_slice_string_l (ht:=hS.u) (h0:=h0) (h1:=h1)]
 simp only [execOp,Option.map_none,Option.map_some,hA.ev hx,hA.ev hy,Sem.run_bind,h3,Result.andThen_ok,Sem.run_pure]
end
section
variable {c:Cx} {fr:Fr} {H:List Pc} {k:List It} {Φ:Gl} {ops:Array Oper} {rest:List Oper} {d:Nat} {o:Op} {ty:TypeId} {v u:Value} {x y:Operand}
theorem Abs {t e m b:Nat} {z:Value} [hS:SlC c.P t e m] [hE:ElT c.P e z m b] (k:Nat) {kl kc:IntKind} {cs:List Value} (hd:Nat.blt d c.n=true) (hx:ev fr x=some (.int kl (k:Nat))) (hy:ev fr y=some (.int kc (k:Nat))) (hcs:madeCells z.cells (k * m)=cs.toArray) (hb:b * k≤281474976710656) (h63:k≤9223372036854775807)
  (h:∀g,T c ((d,.slice (some ⟨g,0,none⟩) k k)::fr) (.row g e 0 [] cs []::H) Φ):On c fr H (some d) (.makeSlice t x y) ty Φ:=⟨fun _ _ _=>Mx fun Q a w s g=>by
 obtain ⟨i,hi,hiz⟩:=Option.map_eq_some_iff.1 hE.i
 simp only [Prod.mk.injEq] at hiz
 obtain ⟨i1,i2,i3⟩:=hiz
 have hb':(i.bytes:Int) * ((k:Nat):Int)≤281474976710656:=by rw [i3];have:((b * k:Nat):Int)≤281474976710656:=by omega
                                                            rwa [Int.natCast_mul] at this
 have hr:=run_make (P:=c.P) w t e i z hS.u hi i1 kl kc (k:Nat) (k:Nat) (by omega) (by omega) hb' (by omega)
 simp only [Int.toNat_natCast,i2,hcs] at hr
 have e1:∀pos Bn gd,(execOp a.eval ⟨some d,.makeSlice t x y,ty,pos,Bn,gd⟩).run c.P w=.ok (.value (.slice (some ⟨w.heap.size,0,none⟩) k k)) (w.alloc (.cells cs.toArray e)):=by
  intro pos Bn gd
  simp [execOp,g.ev hx,g.ev hy,hr]
 rw [e1]
 exact (h _).h _ _ (s.new e cs) (g.put hd)⟩
theorem Xh {fo:Operand} {f:Nat} {caps:List Value} {aS:List Operand} {ts:Array TypeId} {vs:List Value} (hd:Nat.blt d c.n=true) (hf:ev fr fo=some (.func (.func f) #[] caps.toArray)) (hb:N0 c.P f=true) (ha:Evs fr aS vs) (h:Cl c fr H d f (vs++caps) Φ):On c fr H (some d) (.call { callee:=.value fo,args:=aS.toArray,argTypes:=ts }) ty Φ:=⟨fun _ _ _=>Mx fun Q a w s g=>by
 have e:∀pos Bn gd,(execOp a.eval ⟨some d,.call { callee:=.value fo,args:=aS.toArray,argTypes:=ts },ty,pos,Bn,gd⟩).run c.P w=(callFunc f (vs++caps).toArray).run c.P w:=by
  intro pos Bn gd
  simp [execOp,resolve,Deferred.ofValue,g.ev hf,invoke,g.evs ha]
 rw [e]
 obtain ⟨R,hc,hk⟩:=h.h w s
 refine (Qj hb).upon hc fun e w' hR=>?_
 obtain ⟨v,he,hv⟩:=hk e w' hR
 exact ⟨v,he,hv _ (g.put hd)⟩⟩
theorem Agm {α:Type} {E:Br α} {a:Option Addr} {n cp:Nat} {xs:List α} {F:List Nat} (k:Nat) (h:∀F',T c fr (.sl E (.slice a (xs.take k).length cp) (xs.take k) F'::H) Φ) (hk:k≤xs.length) (hm:.sl E (.slice a n cp) xs F∈H:=by exact B8):T c fr H Φ:=.mk fun ac w s g=>by
 obtain ⟨hz,hs⟩:=s.get hm
 obtain ⟨F',hF,h2⟩:=hs.takeS k hk
 have hl:(xs.take k).length=k:=by simp [Nat.min_eq_left hk]
 have h':=h F'
 rw [hl] at h'
 exact h'.h _ w (s.ro hm rfl rfl ⟨hz,h2⟩ hF) g
end
theorem Ir:∀(H:List Pc),Is H H
 | []=>.nil
 | _::R=>.cons .here (Ir R)
theorem Cq.all {α:Type} {E:Br α} {w:World} {cs:List Value} {xs:List α} (h:Cq E w cs xs []) (w':World):Cq E w' cs xs []:=h.frame (by simp)
theorem Cq.cutL {α:Type} {E:Br α} {w:World} {cs:List Value} {xs:List α} (h:Cq E w cs xs []) (i:Nat) (hi:i≤xs.length):Cq E w (cs.take (i * E.sz)) (xs.take i) []∧Cq E w (cs.drop (i * E.sz)) (xs.drop i) []:=by
 rw [←List.take_append_drop i xs] at h
 obtain ⟨c1,c2,G1,G2,rfl,hG,h1,h2⟩:=h.split
 obtain ⟨rfl,rfl⟩:=List.append_eq_nil_iff.1 hG.symm
 have hl:=h1.len
 rw [List.length_take,Nat.min_eq_left hi] at hl
 rw [List.take_left' hl,List.drop_left' hl]
 exact ⟨h1,h2⟩
theorem Cq.insL {α:Type} {E:Br α} {w:World} {cs c1:List Value} {xs:List α} {x:α} (h:Cq E w cs xs []) (h1:Cq E w c1 [x] []) (i:Nat) (hi:i≤xs.length):Cq E w (cs.take (i * E.sz)++c1++cs.drop (i * E.sz)) (xs.take i++x::xs.drop i) []:=by
 obtain ⟨ha,hb⟩:=h.cutL i hi
 have:=(ha.append h1).append hb
 simpa using this
section
variable {P:Program} {n:Nat} {fr:Fr} {H:List Pc} {ty:TypeId} {x y z:Operand}
theorem Ik {t e m i g o len cp:Nat} {kd:IntKind} {q:Int} [hS:SlC P t e m] (hx:ev fr x=some (.slice (some ⟨g,o,none⟩) len cp)) (hy:ev fr y=some (.int kd q)) (hq:q=(i:Int)) (hi:i≤len) (hc:i < cp) (hlc:len≤cp):Yd P n fr H (.slice t x (some y) none none) ty (.slice (some ⟨g,o+i * m,none⟩) (len - i) (cp - i)):=.mk fun ac w d pos Bn gd hA _=>by
 subst hq
 have he2:P.elem t=e:=by simp [Program.elem,hS.u]
 have h3:(Instr.sliceAt t (.slice (some ⟨g,o,none⟩) len cp) (some (.int kd (i:Int))) none none).run P w=.ok (.slice (some ⟨g,o+i * m,none⟩) (len - i) (cp - i)) w:=by
  rw [run_sliceAt_slice (h:=by rw [he2];exact hS.u),run_slice_l (ht:=by rw [he2];exact hS.u) (h0:=by omega) (h1:=by omega),he2,Jy hS.s]
  have h0:¬(cp - i=0):=by omega
  have h0':¬(cp=i):=by omega
  simp [Result.andThen,sliced,h0,h0',Addr.add_lit]
 simp only [execOp,Option.map_none,Option.map_some,hA.ev hx,hA.ev hy,Sem.run_bind,h3,Result.andThen_ok,Sem.run_pure]
theorem Afr {k:IntKind} {a:Int} {s t:TypeId} [hS:IntC P s k] [hD:IntC P t .u64] (hx:ev fr x=some (.int k a)) (h0:0≤a) (h1:a≤18446744073709551615):Yd P n fr H (.convert s t x) ty (.int .u64 a):=.mk fun c w d pos Bn gd hA _=>by
 simp [execOp,hA.ev hx,convert,run_underlying hS.u,run_underlying hD.u,Conv.intToInt,IntWalk.u64_in _ ⟨h0,h1⟩]
theorem Ab8 {a:Int} {t t':TypeId} (hx:ev fr x=some (.int .u64 a)):Yd P n fr H (.binOp .shr t x (.const (.int .u64 1)) t') ty (.int .u64 (a / 2)):=.mk fun c w d pos Bn gd hA _=>by
 have e:Op.shift .shr .u64 a .u64 1=pure (.int .u64 (a / 2)):=by rw [shift_shr .u64 .u64 a 1 (by decide) (by decide)];rfl
 have e2:binOp .shr t (.int .u64 a) (.int .u64 1)=Op.shift .shr .u64 a .u64 1:=rfl
 have e3:c.eval (.const (.int .u64 1))=.int .u64 1:=rfl
 simp only [execOp,hA.ev hx,e3,eqGuard_shr,e2,e,Sem.run_bind,Sem.run_pure,Result.andThen_ok]
theorem Afq {a:Option Addr} {len cp t e m:Nat} [hS:SlC P t e m] (hx:ev fr x=some (.slice a len cp)):Yd P n fr H (.call { callee:=.builtin .cap,args:=#[x],argTypes:=#[t] }) ty (.int .i64 cp):=.mk fun ac w d pos Bn gd hA _=>by
 simp [execOp,hA.ev hx,resolve,invoke,builtin,Builtin.cap_,run_underlying hS.u,goInt]
end
section
variable {c:Cx} {fr:Fr} {H k':List Pc} {k:List It} {Φ:Gl} {d:Nat} {o:Op} {ty:TypeId} {v u:Value} {x y:Operand}
theorem Ab5 {α:Type} {E:Br α} (sc:Ua E) {t n cp:Nat} {a:Option Addr} {xs:List α} {F:List Nat} {S:List Pc} (h0:xs≠[])
  (h:∀g cs rest,a=some ⟨g,0,none⟩→n=xs.length→xs.length≤cp→cp≤9223372036854775807→cs.length=xs.length * E.sz→cs.length+rest.length=cp * E.sz→(∀w,Cq E w cs xs [])→T c fr (.row g t 0 [] (cs++rest) []::S) Φ)
  (hp:C1 H (.ow E t (.slice a n cp) xs F) S:=by exact Dy):T c fr H Φ:=.mk fun ac w s g'=>by
 have s1:=s.pick hp
 obtain ⟨hnd,ho⟩:=s1.on (.ow E t (.slice a n cp) xs F) (by simp)
 have hF:=ho.scal sc
 rcases ho with ⟨-,h2, -⟩|⟨g,cap,cs,rest,G,h1,h2,h3,h4,h5,h6,h7⟩
 ·exact absurd h2 h0
 ·cases h1
  have hG:G=[]:=by rw [h7] at hF;simpa [Value.ownBlock] using hF
  subst hG h7
  have hl:=h6.len
  refine (h g cs rest rfl rfl h3 (by unfold maxLen at h4;omega) hl h5 (fun w'=>h6.all w')).h ac w (s1.conv rfl ⟨rfl,by simpa using h2⟩ (by simp [Pc.F])) g'
theorem Vw {α:Type} {E:Br α} {t g:Nat} {L cs rest:List Value} {xs:List α} {S:List Pc} (cp:Nat) (hL:L=cs++rest) (hf:∀w,Cq E w cs xs []) (h1:xs.length≤cp) (h2:cp≤9223372036854775807) (h3:L.length=cp * E.sz)
  (h:T c fr (.ow E t (.slice (some ⟨g,0,none⟩) xs.length cp) xs [g]::S) Φ) (hp:C1 H (.row g t 0 [] L []) S:=by exact Dy):T c fr H Φ:=.mk fun ac w s g'=>by
 subst hL
 have s1:=s.pick hp
 have hr:=(s1.on (.row g t 0 [] (cs++rest) []) (by simp)).2
 exact h.h ac w (s1.conv rfl ⟨by simp,.inr ⟨g,cp,cs,rest,[],rfl,by simpa using hr,h1,by unfold maxLen;omega,by simpa using h3,hf w,rfl⟩⟩ (by simp [Pc.F])) g'
theorem Akl {f:Nat} {aS:List Operand} {ts:Array TypeId} {vs:List Value} (hd:Nat.blt d c.n=true) (ha:Evs fr aS vs) (hv:∀w,St c.G c.D c.w0 H w→(callFunc f vs.toArray).run c.P w=.ok (.value v) w) (h:T c ((d,v)::fr) H Φ):On c fr H (some d) (.call { callee:=.value (.func f),args:=aS.toArray,argTypes:=ts }) ty Φ:=⟨fun _ _ _=>Mx fun Q a w s g=>by
 have e:∀pos Bn gd,(execOp a.eval ⟨some d,.call { callee:=.value (.func f),args:=aS.toArray,argTypes:=ts },ty,pos,Bn,gd⟩).run c.P w=.ok (.value v) w:=by
  intro pos Bn gd
  simp [execOp,resolve,Deferred.ofValue,Act.eval,invoke,g.evs ha,hv w s]
 rw [e]
 exact h.h _ _ s (g.put hd)⟩
theorem Aaz {w:World} {g:Nat} {t:TypeId} {cs:List Value} (h:Hm w g t cs):w.shape? g=some (t,cs.length):=by
 unfold World.shape?;rw [show w.heap[g]?=_ from h];simp
theorem ovl {f:Nat} {tS tR e m:Nat} [hS:SlC c.P tS e m] {g o g2 o2 la ca lb cb t1 t2:Nat} {L L2:List Value}
  (he:∀(args:Array Value) (w:World),(callFunc f args).run c.P w=((Extern.SlicesOverlaps.overlaps #[tS,tS] #[tR] args).run c.P w).andThen fun v w=>.ok (.value v) w)
  (h1:C1 H (.row g t1 0 [] L []) k') (h2:.row g2 t2 0 [] L2 []∈k') (hL:L2≠[]) (w:World) (s:St c.G c.D c.w0 H w) :
  (callFunc f [Value.slice (some ⟨g,o,none⟩) la ca,.slice (some ⟨g2,o2,none⟩) lb cb].toArray).run c.P w=.ok (.value (.bool false)) w:=by
 have s1:=s.pick h1
 have r1:=(s1.on (.row g t1 0 [] L []) (by simp)).2
 have r2:=(s1.on (.row g2 t2 0 [] L2 []) (by simp [h2])).2
 have hne:g≠g2:=fun e'=>s1.Y2.1 (.row g2 t2 0 [] L2 []) h2 (by simp [Pc.mu]) g (by simp [Pc.F]) (by simp [Pc.F,e'])
 simp only [List.nil_append,List.append_nil] at r1 r2
 rw [he,Lib.run_overlaps_apart w tS tR e hS.u m (fun w=>Jy hS.s w) ⟨g,o,none⟩ ⟨g2,o2,none⟩ la ca lb cb hne t1 t2 L.length L2.length (Aaz r1) (Aaz r2) (by simpa using hL) (r1.frozen _) (r1.frozen _)]
 rfl
theorem Wv {P M Q d L:List Value} {o:Nat} (hL:L=P++M++Q) (ho:o=P.length) (hd:M.length=d.length):P++d++Q=L.take o++d++L.drop (o+d.length):=by
 subst hL ho
 rw [List.append_assoc P M Q,List.take_left,←hd,←List.append_assoc,←List.length_append,List.drop_left]
theorem Afg {B R:List Value} (m:Nat) (h:m≤R.length):∃X Y,B++R=X++Y++R.drop m∧X.length=m∧Y.length=B.length:=by
 refine ⟨(B++R).take m,((B++R).drop m).take B.length,?_,by simp;omega,by simp;omega⟩
 have:R.drop m=((B++R).drop m).drop B.length:=by rw [List.drop_drop,Nat.add_comm,←List.drop_drop,List.drop_left]
 rw [this,List.append_assoc,List.take_append_drop,List.take_append_drop]
theorem Jz {g t o m:Nat} {L cs:List Value} (h1:.row g t 0 [] L []∈H) (hc:cs=(L.drop o).take m) (w:World) (s:St c.G c.D c.w0 H w):∀j u,cs[j]?=some u→w.cell? ((⟨g,o,none⟩:Addr).add j)=some u:=fun j u hu=>by
 subst hc
 have r1:=(s.on (.row g t 0 [] L []) h1).2
 simp only [List.nil_append,List.append_nil] at r1
 rw [Addr.add_lit,r1.cell]
 rw [List.getElem?_take] at hu
 split at hu
 ·rw [List.getElem?_drop] at hu;exact hu
 ·cases hu
theorem Aih {P:Program} (w:World) (dT sT ty elem m:TypeId) (b o dLen dCap:Nat) (a:Addr) (sLen sCap:Nat) (cs:List Value)
  (hu:P.underlying dT=some (.slice elem)) (hs:(P.info? elem).map (·.size)=some m) (hn:cs.length=Nat.min sLen dLen * m)
  (hsrc:∀j v,cs[j]?=some v→w.cell? (a.add j)=some v) (hc:∀j,j < cs.length→(w.cell? ⟨b,o+j,none⟩).isSome=true) (hf:∀j,j < cs.length→w.frozen? ⟨b,o+j,none⟩=false) (h1:∀v∈cs,v.oneCell'=true) :
  (Builtin.copy_ #[dT,sT] ty #[.slice (some ⟨b,o,none⟩) dLen dCap,.slice (some a) sLen sCap]).run P w=.ok (goInt (Nat.min sLen dLen:Nat)) (w.setCells b o cs):=by
 have hl:=run_loadCells_list (P:=P) w a cs hsrc
 have hst:=run_storeCells_cells (P:=P) b o cs 0 w (by simpa using hc) (by simpa using hf) h1
 cases hq:P.info? elem with
 | none=>simp [hq] at hs
 | some i =>
  have hi:i.size=m:=by simpa [hq] using hs
  simp [Builtin.copy_,run_underlying hu,Builtin.lenOf,Builtin.firstCells,sizeOf,typeInfo,hq,hi,←hn,hl,hst]
theorem Rd {dT sT e m g t oo dn dc sn sc:Nat} {ad:Addr} {L L' cs:List Value} {S:List Pc} [hS:SlC c.P dT e m] (hd:Nat.blt d c.n=true) (hx:ev fr x=some (.slice (some ⟨g,oo,none⟩) dn dc)) (hy:ev fr y=some (.slice (some ad) sn sc))
  (hsrc:∀w,St c.G c.D c.w0 H w→∀j u,cs[j]?=some u→w.cell? (ad.add j)=some u) (hr:Rpl H (.row g t 0 [] L []) (.row g t 0 [] L' []) S)
  (hL:L'=L.take oo++cs++L.drop (oo+cs.length)) (hn:cs.length=Nat.min sn dn * m) (hfit:oo+cs.length≤L.length) (h1:∀v∈cs,v.oneCell'=true) (h:T c ((d,.int .i64 (Nat.min sn dn:Nat))::fr) S Φ) :
  On c fr H (some d) (.call { callee:=.builtin .copy,args:=#[x,y],argTypes:=#[dT,sT] }) ty Φ:=⟨fun _ _ _=>Mx fun Q a w s ag=>by
 have hP:(Pc.row g t 0 [] L []).P w:=by obtain ⟨R,h1,_⟩:=hr.picks;exact s.on _ h1.mem
 have r1:=hP.2
 simp only [List.nil_append,List.append_nil] at r1
 have hrun:=fun ty=>Aih (P:=c.P) w dT sT ty e m g oo dn dc ad sn sc cs hS.u hS.s hn (hsrc w s) (fun j hj=>by rw [r1.cell,List.getElem?_eq_getElem (by omega)];rfl) (fun j hj=>r1.frozen _) h1
 have e1:∀pos Bn gd,(execOp a.eval ⟨some d,.call { callee:=.builtin .copy,args:=#[x,y],argTypes:=#[dT,sT] },ty,pos,Bn,gd⟩).run c.P w=.ok (.value (goInt (Nat.min sn dn:Nat))) (w.setCells g oo cs):=by
  intro pos Bn gd
  simp only [execOp,resolve,invoke,builtin,Sem.run_bind,Sem.run_pure,Result.andThen_ok,List.map_toArray,List.map_cons,List.map_nil,ag.ev hx,ag.ev hy,hrun]
 rw [e1]
 have hsplit:L=L.take oo++(L.drop oo).take cs.length++L.drop (oo+cs.length):=by
  rw [←List.drop_drop,List.append_assoc,List.take_append_drop,List.take_append_drop]
 have r2:=r1
 rw [hsplit] at r2
 have r3:=Hm.put cs _ r2 (p:=oo) (by simp;omega) (by simp;omega)
 have hk:=I7 (g:=g) cs w oo
 rw [Ju w g cs w] at r3 hk
 rw [←hL] at r3
 refine h.h _ _ (s.rpl hr rfl (fun b hb=>.inl hb) hk ⟨rfl,by simpa using r3⟩) (ag.put hd)⟩
theorem Ae6 {t tn e m b g oo n cp k:Nat} {zv:Value} {olds:List Value} {q:Int} [hS:SlC c.P t e m] [hE:ElT c.P e zv m b] [hI:IntC c.P tn .i64] (hd:Nat.blt d c.n=true) (hx:ev fr x=some (.slice (some ⟨g,oo,none⟩) n cp)) (hy:ev fr y=some (.int .i64 q)) (hq:q=(k:Int))
  (hso:∀w,St c.G c.D c.w0 H w→∀j u,olds[j]?=some u→w.cell? ((⟨g,oo,none⟩:Addr).add j)=some u)
  (hlo:olds.length=n * m) (hm:0 < m) (hk:0 < k) (hg:cp < n+k) (h63:n+k≤4294967296) (hby:(n+k) * b≤140737488355328)
  (h:∀g' cp' Z rest,n+k≤cp'→cp'≤9223372036854775807→Z.length=k * m→(olds++Z++rest).length=cp' * m→T c ((d,.slice (some ⟨g',0,none⟩) ((n+k:Nat)) cp')::fr) (.row g' e 0 [] (olds++Z++rest) []::H) Φ) :
  On c fr H (some d) (.call { callee:=.builtin .append,args:=#[x,y],argTypes:=#[t,tn] }) ty Φ:=⟨fun _ _ _=>Mx fun Q a w s ag=>by
 subst hq
 obtain ⟨i,hi,hiz⟩:=Option.map_eq_some_iff.1 hE.i
 simp only [Prod.mk.injEq] at hiz
 obtain ⟨i1,i2,i3⟩:=hiz
 subst i2 i3
 have hold:(Builtin.firstCells i.size n (.slice (some ⟨g,oo,none⟩) n cp)).run c.P w.drew=.ok olds.toArray w.drew:=run_firstCells_some w.drew i.size n ⟨g,oo,none⟩ n cp olds hlo (fun j v hj=>hso w s j v hj)
 have hr:=fun ty=>Lib.run_append_grow_zeros (P:=c.P) w t tn ty e i zv .i64 .i64 hS.u hI.u hi i1 (some ⟨g,oo,none⟩) n cp olds hold k hk hm hg (by omega) (Nat.le_trans (Nat.mul_le_mul_right _ (by omega)) (Nat.le_trans hby (by decide))) (growslice_fits hg hby)
 have e1:∀pos Bn gd,(execOp a.eval ⟨some d,.call { callee:=.builtin .append,args:=#[x,y],argTypes:=#[t,tn] },ty,pos,Bn,gd⟩).run c.P w=.ok (.value (.slice (some ⟨w.heap.size,0,none⟩) (n+k) (grownCap w (n+k) cp e))) (w.drew.alloc (.cells (olds.toArray++Builtin.zeroCells zv.cells k++Builtin.zeroCells zv.cells (grownCap w (n+k) cp e - (n+k))) e)):=by
  intro pos Bn gd
  simp only [execOp,resolve,invoke,builtin,Sem.run_bind,Sem.run_pure,Result.andThen_ok,List.map_toArray,List.map_cons,List.map_nil,ag.ev hx,ag.ev hy,hr]
 rw [e1]
 have hge:=grownCap_ge w (n+k) cp e
 have hle:=grownCap_le_maxLen w (n+k) cp e (by unfold maxLen;omega)
 have hBel:Below w.heap.size w (w.drew.alloc (.cells (olds.toArray++Builtin.zeroCells zv.cells k++Builtin.zeroCells zv.cells (grownCap w (n+k) cp e - (n+k))) e)):=(Hk (Below.refl w.heap.size w) 1).alloc (Nat.le_refl _) _
 have hz:∀q,(Builtin.zeroCells zv.cells q).toList.length=q * i.size:=fun q=>by rw [Ki,hE.s]
 refine (h w.heap.size (grownCap w (n+k) cp e) (Builtin.zeroCells zv.cells k).toList (Builtin.zeroCells zv.cells (grownCap w (n+k) cp e - (n+k))).toList hge (by unfold maxLen at hle;omega) (hz k) ?_).h _ _ (s.add (N:=[.row w.heap.size e 0 [] (olds++(Builtin.zeroCells zv.cells k).toList++(Builtin.zeroCells zv.cells (grownCap w (n+k) cp e - (n+k))).toList) []]) hBel ?_ ⟨by simp,trivial⟩ ?_) (ag.put hd)
 ·rw [List.length_append,List.length_append,hz,hz,hlo,←Nat.add_mul,←Nat.add_mul];congr 1;omega
 ·intro p hp
  rw [List.mem_singleton] at hp;subst hp
  refine ⟨rfl,?_⟩
  have:=Hm.made w.drew e (olds++(Builtin.zeroCells zv.cells k).toList++(Builtin.zeroCells zv.cells (grownCap w (n+k) cp e - (n+k))).toList)
  rw [List.nil_append,List.append_nil]
  have e2:(olds++(Builtin.zeroCells zv.cells k).toList++(Builtin.zeroCells zv.cells (grownCap w (n+k) cp e - (n+k))).toList).toArray=olds.toArray++Builtin.zeroCells zv.cells k++Builtin.zeroCells zv.cells (grownCap w (n+k) cp e - (n+k)):=by apply Array.ext';simp
  rw [e2] at this
  exact this
 ·intro p hp b hb
  rw [List.mem_singleton] at hp;subst hp
  simp [Pc.F] at hb;subst hb
  exact .inl (Nat.le_refl _)⟩
theorem Abt {t e m n cp i:Nat} {a:Option Addr} {q:Int} [hS:SlC c.P t e m] (hd:Nat.blt d c.n=true) (hx:ev fr x=some (.slice a n cp)) (hy:ev fr y=some (.int .i64 q)) (hq:q=(i:Int)) (hi:i≤n) (h:∀v,T c ((d,v)::fr) H Φ) (hlc:n≤cp:=by omega):On c fr H (some d) (.slice t x (some y) none none) ty Φ:=⟨fun _ _ _=>Mx fun Q ac w s g=>by
 subst hq
 have he2:=Xa hS
 obtain ⟨v,h3⟩:∃v,(Instr.sliceAt t (.slice a n cp) (some (.int .i64 (i:Int))) none none).run c.P w=.ok v w:=by
  rw [run_sliceAt_slice (h:=by rw [he2];exact hS.u),run_slice_l (ht:=by rw [he2];exact hS.u) (h0:=by omega) (h1:=by omega),he2,Jy hS.s]
  exact ⟨_,rfl⟩
 have e1:∀pos Bn gd,(execOp ac.eval ⟨some d,.slice t x (some y) none none,ty,pos,Bn,gd⟩).run c.P w=.ok (.value v) w:=by
  intro pos Bn gd
  simp only [execOp,Option.map_none,Option.map_some,g.ev hx,g.ev hy,Sem.run_bind,h3,Result.andThen_ok,Sem.run_pure]
 rw [e1]
 exact (h v).h _ w s (g.put hd)⟩
end
section
variable {P:Program} {n:Nat} {fr:Fr} {H:List Pc} {ty:TypeId}
theorem Aqh {f:Nat} {bs caps:List Operand} {us vs:List Value} (hb:Evs fr bs us) (hc:Evs fr caps vs):Yd P n fr H (.makeFunc (.func f) bs.toArray caps.toArray) ty (.func (.func f) us.toArray vs.toArray):=.mk fun c w d pos Bn gd hA _=>by
 simp [execOp,Instr.makeFunc,hA.evs hb,hA.evs hc]
end
section
variable {c:Cx} {fr:Fr} {H:List Pc} {k:List It} {Φ:Gl} {d:Nat} {ty:TypeId} {x:Operand}
theorem Un {fo:Operand} {f:Nat} {bd caps:List Value} {aS:List Operand} {ts:Array TypeId} {vs:List Value} (hd:Nat.blt d c.n=true) (hf:ev fr fo=some (.func (.func f) bd.toArray caps.toArray)) (hb:N0 c.P f=true) (ha:Evs fr aS vs) (h:Cl c fr H d f (bd++vs++caps) Φ):On c fr H (some d) (.call { callee:=.value fo,args:=aS.toArray,argTypes:=ts }) ty Φ:=⟨fun _ _ _=>Mx fun Q a w s g=>by
 have e:∀pos Bn gd,(execOp a.eval ⟨some d,.call { callee:=.value fo,args:=aS.toArray,argTypes:=ts },ty,pos,Bn,gd⟩).run c.P w=(callFunc f (bd++vs++caps).toArray).run c.P w:=by
  intro pos Bn gd
  simp [execOp,resolve,Deferred.ofValue,g.ev hf,invoke,g.evs ha]
 rw [e]
 obtain ⟨R,hc,hk⟩:=h.h w s
 refine (Qj hb).upon hc fun e w' hR=>?_
 obtain ⟨v,he,hv⟩:=hk e w' hR
 exact ⟨v,he,hv _ (g.put hd)⟩⟩
theorem Ab3 {α:Type} {E:Br α} (sc:Ua E) {t n cp:Nat} {a:Option Addr} {xs:List α} {F:List Nat} (h0:xs≠[])
  (h:∀g,a=some ⟨g,0,none⟩→F=[g]→n=xs.length→n≤cp→cp≤9223372036854775807→T c fr H Φ) (hm:.ow E t (.slice a n cp) xs F∈H:=by exact B8):T c fr H Φ:=.mk fun ac w s g'=>by
 obtain ⟨hnd,ho⟩:=s.get hm
 have hF:=ho.scal sc
 rcases ho with ⟨-,h2, -⟩|⟨g,cap,cs,rest,G,h1,h2,h3,h4,h5,h6,h7⟩
 ·exact absurd h2 h0
 ·cases h1
  exact (h g rfl (by simpa [Value.ownBlock] using hF) rfl h3 (by unfold maxLen at h4;omega)).h ac w s g'
theorem Cq.rep0 {α:Type} {E:Br α} {w:World} {zs:List Value} {z:α} (h:E.Jr w zs z []):∀n,Cq E w (List.replicate n zs).flatten (List.replicate n z) []
 | 0=>⟨rfl,rfl⟩
 | n+1=>⟨zs,(List.replicate n zs).flatten,[],[],by simp [List.replicate_succ],by simp,h,Cq.rep0 h n⟩
theorem Zh (z:Array Value) (n:Nat):(Builtin.zeroCells z n).toList=(List.replicate n z.toList).flatten:=by
 have:=Lb z n
 exact this
theorem Agb {α:Type} {E:Br α} (sc:Ua E) {t e m b g n cp i:Nat} {zv:Value} {z0:α} [hS:SlC c.P t e m] [hE:ElT c.P e zv m b] (hz:∀w,E.Jr w zv.cells.toList z0 []) (one:∀u∈zv.cells,u.oneCell'=true) (hm:E.sz=m) {xs:List α} {F:List Nat} {S:List Pc}
  (hx:ev fr x=some (.slice (some ⟨g,0+i * m,none⟩) (n - i) (cp - i))) (hi:i < n) (hn:n=xs.length) (hp:C1 H (.ow E e (.slice (some ⟨g,0,none⟩) n cp) xs F) S) (h:T c fr (.ow E e (.slice (some ⟨g,0,none⟩) n cp) (xs.take i++List.replicate (n - i) z0) F::S) Φ) :
  On c fr H none (.call { callee:=.builtin .clear,args:=#[x],argTypes:=#[t] }) ty Φ:=⟨fun _ _ _=>Mx fun Q a w s ag=>by
 subst hm
 have s1:=s.pick hp
 obtain ⟨hnd,ho⟩:=s1.on (.ow E e (.slice (some ⟨g,0,none⟩) n cp) xs F) (by simp)
 have hF:=ho.scal sc
 rcases ho with ⟨h1, -, -⟩|⟨g2,cap,cs,rest,G,h1,h2,h3,h4,h5,h6,h7⟩
 ·cases h1
 cases h1
 have hG:G=[]:=by rw [h7] at hF;simpa [Value.ownBlock] using hF
 subst hG h7
 have hl:=h6.len
 obtain ⟨f1,f2⟩:=h6.cutL i (by omega)
 have hcs:=List.take_append_drop (i * E.sz) cs
 have hd1:(cs.take (i * E.sz)).length=i * E.sz:=by have:=f1.len;rw [List.length_take (l:=xs),Nat.min_eq_left (by omega)] at this;exact this
 have hd2:(cs.drop (i * E.sz)).length=(xs.length - i) * E.sz:=by have:=f2.len;rwa [List.length_drop (l:=xs)] at this
 have hr:=fun ty=>Oy (P:=c.P) w t e ty zv hS.u (Q7 hE.i) one g (0+i * E.sz) (xs.length - i) (cp - i) (by omega)
  (fun j hj=>by rw [hE.s] at hj;rw [h2.cell,List.getElem?_eq_getElem (by rw [List.length_append,←hcs,List.length_append,hd1,hd2];omega)];rfl) (fun j _=>h2.frozen _)
 have e1:∀pos Bn gd,(execOp a.eval ⟨none,.call { callee:=.builtin .clear,args:=#[x],argTypes:=#[t] },ty,pos,Bn,gd⟩).run c.P w=.ok (.value (.tuple #[])) (w.setCells g (0+i * E.sz) (Builtin.zeroCells zv.cells (xs.length - i)).toList):=by
  intro pos Bn gd
  simp only [execOp,resolve,invoke,builtin,Sem.run_bind,Sem.run_pure,Result.andThen_ok,List.map_toArray,List.map_cons,List.map_nil,ag.ev hx,hr]
 rw [e1]
 have hzl:(Builtin.zeroCells zv.cells (xs.length - i)).toList.length=(xs.length - i) * E.sz:=by rw [Ki,hE.s]
 have R0:Hm w g e (cs.take (i * E.sz)++cs.drop (i * E.sz)++rest):=by rw [hcs];exact h2
 have R1:=Hm.put (Builtin.zeroCells zv.cells (xs.length - i)).toList _ R0 (p:=0+i * E.sz) (by omega) (by rw [hzl,hd2])
 have hk:=I7 (g:=g) (Builtin.zeroCells zv.cells (xs.length - i)).toList w (0+i * E.sz)
 rw [Ju w g] at R1 hk
 have hW:(Pc.ow E e (.slice (some ⟨g,0,none⟩) xs.length cp) (xs.take i++List.replicate (xs.length - i) z0) [g]).P (w.setCells g (0+i * E.sz) (Builtin.zeroCells zv.cells (xs.length - i)).toList):=by
  have hll:(xs.take i++List.replicate (xs.length - i) z0).length=xs.length:=by rw [List.length_append,List.length_take,List.length_replicate];omega
  have hfl:Cq E (w.setCells g (0+i * E.sz) (Builtin.zeroCells zv.cells (xs.length - i)).toList) (cs.take (i * E.sz)++(Builtin.zeroCells zv.cells (xs.length - i)).toList) (xs.take i++List.replicate (xs.length - i) z0) []:=by
   rw [Zh]
   exact (f1.all _).append (Cq.rep0 (hz _) _)
  refine ⟨by simp,.inr ⟨g,cp,cs.take (i * E.sz)++(Builtin.zeroCells zv.cells (xs.length - i)).toList,rest,[],by rw [hll],R1,by rw [hll];exact h3,h4,?_,hfl,rfl⟩⟩
  rw [List.length_append,hzl,hd1,←Nat.add_mul]
  rw [←h5,hl]
  congr 2
  omega
 exact h.h _ _ (St.turn (M:=[.ow E e (.slice (some ⟨g,0,none⟩) xs.length cp) xs [g]]) (N:=[.ow E e (.slice (some ⟨g,0,none⟩) xs.length cp) (xs.take i++List.replicate (xs.length - i) z0) [g]]) s1 (by simpa [List.filter,Pc.mu,fp,Pc.F] using hk) (by intro q hq;rw [List.mem_singleton] at hq;subst hq;exact hW) ⟨by simp,trivial⟩ (by
   intro q hq b hb
   rw [List.mem_singleton] at hq;subst hq
   exact .inr (.inl ⟨_,List.mem_singleton.2 rfl,rfl,hb⟩))) ag⟩
end
theorem Ai3 (fid:FuncId) (bd caps:List Value) (A:List Pc) (hA:A.all (fun p=>!p.mu)=true) (xs:List Int) (a:Option Addr) (c:Nat) (F:List Nat) (p:Int→Bool) (hb:N0 prog fid=true) (hl:xs.length≤1000000000)
  (hp:∀x∈xs,∀w,Ms A w→Calls prog fid (bd++[(.int .i64 x:Value)]++caps).toArray w fun e w'=>e=.returned (.bool (p x))∧Below w.heap.size w w') :
  Fn prog 260 [.slice a xs.length c,.func (.func fid) bd.toArray caps.toArray] (.sl Bd (.slice a xs.length c) xs F::A) [] (fun (_:Unit)=>True) (fun _=>.int .i64 (N5 p xs)) (fun _=>[]):=by
 refine enter func260 rfl ntmps260 (fun w0=>?_) rfl (by simpa [Pc.mu] using hA) .nil
 refine go ?_;intros
 refine H2 [0,1,4,7] (fun k:Nat=>[(8,.int .i64 (k:Nat))]) (fun k=>k≤xs.length∧∀j (_:j < k) (hj:j < xs.length),p xs[j]=false) (fun k=>xs.length - k) 0 ⟨Nat.zero_le _,fun j h=>by omega⟩ fun k hk=>?_
 obtain ⟨hk1,hk2⟩:=hk
 refine go ?_;intros
 refine Bf rfl (fun h5=>?_) (fun h5=>?_)
 ·have hh:k < xs.length:=by omega
  refine go ?_;intros
  refine Je (xs:=xs) k ?_
  rintro hi b o e
  rw [e]
  refine go ?_;intros
  apply wO
  refine Un rfl rfl hb Be ?_
  refine cb (fun w st=>hp xs[k] (List.getElem_mem hh) w (fun q hq=>st.on q (by simp [hq]))) ?_
  cases hpk:p xs[k]
  ·refine go ?_;intros
   refine Q3 ?_
   refine Ct (hH:=Ir _) (k+1) ⟨hh,fun j hj h=>?_⟩ (by omega)
   rcases Nat.lt_or_eq_of_le (Nat.lt_succ_iff.1 hj) with h2|rfl
   ·exact hk2 j h2 h
   ·exact hpk
  ·refine go ?_;intros
   refine ret () trivial ?_
   rw [Mh hh hk2 hpk];rfl
 ·obtain rfl:k=xs.length:=by omega
  refine go ?_;intros
  refine ret () trivial ?_
  rw [Lj (fun j hj=>hk2 j hj hj)];rfl
structure Aiy where
 i:Nat
 j:Nat
 zs:List Int
theorem Aca (fid:FuncId) (bd caps:List Value) (A:List Pc) (hA:A.all (fun p=>!p.mu)=true) (xs:List Int) (a:Option Addr) (c:Nat) (F:List Nat) (p:Int→Bool) (hb:N0 prog fid=true) (hl:xs.length≤1000000000)
  (hp:∀x∈xs,∀w,Ms A w→Calls prog fid (bd++[(.int .i64 x:Value)]++caps).toArray w fun e w'=>e=.returned (.bool (p x))∧Below w.heap.size w w') :
  Fn prog 232 [.slice a xs.length c,.func (.func fid) bd.toArray caps.toArray] A [.ow Bd 3 (.slice a xs.length c) xs F] (fun (_:Option Addr × Nat × List Nat)=>True)
   (fun z=>.slice z.1 (xs.filter fun x=>!p x).length z.2.1) (fun z=>[.ow Bd 3 (.slice z.1 (xs.filter fun x=>!p x).length z.2.1) (xs.filter fun x=>!p x) z.2.2]):=by
 refine enter func232 rfl ntmps232 (fun w0=>?_) rfl (by simpa [Pc.mu] using hA) (.cons .nil)
 refine go ?_;intros
 refine cb (fun w st=>by
  obtain ⟨Fw, -,hw⟩:=(st.get (p:=.ow Bd 3 (.slice a xs.length c) xs F) (by simp)).2.read
  refine (Ai3 fid bd caps A hA xs a c Fw p hb hl hp).val w ?_ (by simpa [Pc.mu] using hA)
  intro q hq
  rcases List.mem_cons.1 hq with rfl|hq
  ·exact ⟨by decide,hw⟩
  ·exact st.on q (by simp [hq])) ?_
 by_cases hany:xs.any p=true
 ·obtain ⟨i0,hi0,hfx,hpi,hfl⟩:=Sg hany
  rw [hfx]
  refine Ab3 (xs:=xs) Dl (by rintro rfl;simp at hi0) ?_
  rintro g rfl rfl - hc1 hc2
  refine go ?_;intros
  refine Ck [0,1,4] (fun s:Aiy=>[(5,.int .i64 (s.i:Nat)),(6,.int .i64 (s.j:Nat))]) (fun s=>[.ow Bd 3 (.slice (some ⟨g,0,none⟩) xs.length c) s.zs [g]]) (fun s=>s.zs.length=xs.length∧s.j≤xs.length∧s.i < s.j∧s.zs.take s.i=(xs.take s.j).filter (fun x=>!p x)∧s.zs.drop s.j=xs.drop s.j) (fun s=>xs.length - s.j) ⟨i0,i0+1,xs⟩ ⟨rfl,hi0,Nat.lt_succ_self _,by rw [Cz hi0 (by simp [hpi]),hfl],rfl⟩ fun s hs=>?_
  obtain ⟨i,j,zs⟩:=s
  obtain ⟨h1,h2,h3,h4,h5⟩:=hs
  dsimp only at h1 h2 h3 h4 h5 ⊢
  refine go ?_;intros
  refine Bf rfl (fun h6=>?_) (fun h6=>?_)
  ·have hj:j < xs.length:=by omega
   have hjz:j < zs.length:=by omega
   have hx:zs[j]=xs[j]:=by
    have a1:=List.drop_eq_getElem_cons hjz
    have a2:=List.drop_eq_getElem_cons hj
    rw [h5,a2] at a1
    exact (List.cons.inj a1).1.symm
   have hdz:zs.drop (j+1)=xs.drop (j+1):=by
    rw [←List.drop_drop,h5,List.drop_drop]
   refine go ?_;intros
   refine Nl (m:=1) Dl j ?_ (by repeat (first|exact .here|apply C1.there)) rfl hjz
   rintro _ g2 A2 cs2 B2 e1 e2 hc3 hh
   cases e1
   obtain ⟨rfl, -⟩:=hc3 w0
   refine go ?_;intros
   refine Mr zs[j] hh hc3 ?_
   rw [List.set_getElem_self,hx]
   apply wO
   refine Un rfl rfl hb Be ?_
   refine cb (fun w st=>hp xs[j] (List.getElem_mem hj) w (fun q hq=>st.on q (by simp [hq]))) ?_
   cases hpj:p xs[j]
   ·refine go ?_;intros
    refine Nl (m:=1) Dl i ?_ (by repeat (first|exact .here|apply C1.there)) rfl (by omega)
    rintro _ g3 A3 cs3 B3 e1 e2 hc4 hh3
    cases e1
    obtain ⟨rfl, -⟩:=hc4 w0
    refine go ?_;intros
    refine Mr xs[j] hh3 (fun w=>⟨rfl,rfl⟩) ?_
    refine Ct (hH:=Ir _) (⟨i+1,j+1,zs.set i xs[j]⟩:Aiy) ⟨by simp [h1],hj,Nat.succ_lt_succ h3,?_,?_⟩ (by dsimp only;omega)
    ·dsimp only
     rw [Et hj (by simp [hpj]),←h4,List.take_add_one,List.getElem?_set_self (by omega),List.take_set_of_le (Nat.le_refl _)]
     rfl
    ·dsimp only
     rw [List.drop_set_of_lt (by omega),hdz]
   ·refine go ?_;intros
    refine Ct (hH:=Ir _) (⟨i,j+1,zs⟩:Aiy) ⟨h1,hj,Nat.lt_succ_of_lt h3,?_,hdz⟩ (by dsimp only;omega)
    dsimp only
    rw [Cz hj (by simp [hpj]),h4]
  ·obtain rfl:j=xs.length:=by omega
   have h4':zs.take i=xs.filter fun x=>!p x:=by rw [h4,List.take_length]
   have hil:(xs.filter fun x=>!p x).length=i:=by rw [←h4',List.length_take];omega
   refine go ?_;intros
   apply wO;apply oc;rfl;exact Ik (i:=i) rfl rfl rfl (by omega) (by omega) (by omega)
   refine go ?_;intros
   apply wO
   refine Agb (z0:=0) (n:=xs.length) (cp:=c) (i:=i) (g:=g) Dl (fun w=>⟨rfl,rfl⟩) (by decide) rfl rfl h3 h1.symm (by repeat (first|exact .here|apply C1.there)) ?_
   refine go ?_;intros
   refine Za (xs:=zs.take i++List.replicate (xs.length - i) 0) i (fun F2=>?_) (by rw [List.length_append,List.length_take,List.length_replicate];omega)
   rw [List.take_left' (by rw [List.length_take];omega),h4']
   apply wO;apply oc;rfl;exact Lq (i:=i) rfl rfl rfl (by omega) (by omega)
   refine go ?_;intros
   subst hil
   refine ret (_,c,F2) trivial rfl
 ·obtain ⟨hfx,hfl⟩:=Uf hany
  rw [hfx,hfl]
  refine go ?_;intros
  refine ret (a,c,F) trivial rfl
def Lc (x:Am) (n:Nat):List Int:=(My x.next n).filter fun k=>!H1 x k
theorem Aaq {t k:Int} {n:Nat} (h:k∈My t n):0≤k∧k≤65535:=by
 unfold My at h
 obtain ⟨i, -,rfl⟩:=List.mem_map.1 h
 unfold Bn;omega
theorem Aci (x:Am) (k:Int) (n:Nat) (v:Value) (F:List Nat) (h0:0≤x.next) (h1:x.next≤65535) (h2:0≤k) (h3:k≤65535) (hn:gp x.next k=n) :
  Fn prog 277 [v,.int .i64 k] [.isv By v x F] [] (fun (_:Option Addr × Nat × List Nat)=>True) (fun s=>.slice s.1 (Lc x n).length s.2.1) (fun s=>[.ow Bd 3 (.slice s.1 (Lc x n).length s.2.1) (Lc x n) s.2.2]):=by
 have hg:=In x.next k
 refine enter func277 rfl ntmps277 fun w0=>?_
 refine C7 ?_
 rintro a1 c1 F1 rfl l1
 refine go ?_;intros
 refine Aw [0] [] ?_
 refine dt 0 ?_
 refine dt 1 ?_
 refine dt 2 ?_
 refine dt 3 ?_
 refine dt 4 ?_
 refine dt 7 ?_
 refine dt 8 ?_ (hy:=Aqh Be Be)
 refine dO 5 (by kernel_rfl) (by rw [List.getElem?_toArray];rfl) ?_
 apply At;rfl;kernel_rfl;exact Be
 refine ce (fun w s=>Ls _ _ _ (by omega) (by omega) (by omega) (by omega)) ?_
 refine dk ?_
 refine dO 6 (by kernel_rfl) (by rw [List.getElem?_toArray];rfl) ?_
 apply At;rfl;kernel_rfl;exact Be
 rw [hn]
 refine cf (Ap5 x.next n (by omega) (by omega) (by omega)) fun s _=>?_
 refine Ar ?_
 refine dk ?_
 refine dO 9 (by kernel_rfl) (by rw [List.getElem?_toArray];rfl) ?_
 apply At;rfl;kernel_rfl;exact Be
 refine cf (Aca 179 [_] [] [.isv By (.agg #[.int .i64 x.next,.slice a1 x.Ao.length c1]) x F] rfl (My x.next n) s.1 s.2.1 s.2.2 (fun k=>H1 x k) rfl (by rw [Vv];omega) (fun k hk w hw=>?_)) fun q _=>?_
 exact (T9 x k _ F h0 h1 (Aaq hk).1 (Aaq hk).2).val w hw
 refine Ar ?_
 refine dk ?_
 refine dt 10 ?_
 refine dd ?_
 refine go ?_;intros
 refine ret q trivial rfl
theorem Ah2 {x:Am} {k:Nat} (hk:k≤65535) (h:Hv x.Ao k=true):Lc x (k+1)=Lc x k:=by
 have e:H1 x (Bn x.next k)=true:=by unfold H1;rw [show gp x.next (Bn x.next k)=k by unfold gp Bn;omega,Int.toNat_natCast,h]
 unfold Lc;rw [Ty,List.filter_append,List.filter_cons];simp [e]
theorem Adj {x:Am} {k:Nat} (hk:k≤65535) (h:Hv x.Ao k=false):Lc x (k+1)=Lc x k++[Bn x.next k]:=by
 have e:H1 x (Bn x.next k)=false:=by unfold H1;rw [show gp x.next (Bn x.next k)=k by unfold gp Bn;omega,Int.toNat_natCast,h]
 unfold Lc;rw [Ty,List.filter_append,List.filter_cons];simp [e]
theorem Vl (x:Am) (k:Nat):(Lc x k).length≤k:=by
 unfold Lc;have:=List.length_filter_le (fun k=>!H1 x k) (My x.next k);rw [Vv] at this;exact this
theorem Abl (x:Am) (k:Int) (n:Nat) (v:Value) (F:List Nat) (h0:0≤x.next) (h1:x.next≤65535) (h2:0≤k) (h3:k≤65535) (hn:gp x.next k=n) :
  Fn prog 248 [v,.int .i64 k] [.isv By v x F] [] (fun (_:Option Addr × Nat × List Nat)=>True) (fun s=>.slice s.1 (Lc x n).length s.2.1) (fun s=>[.ow Bd 3 (.slice s.1 (Lc x n).length s.2.1) (Lc x n) s.2.2]):=by
 have hg:=In x.next k
 refine enter func248 rfl ntmps248 fun w0=>?_
 refine C7 ?_
 rintro a1 c1 F1 rfl l1
 unfold maxLen at l1
 refine Kx ?_;intros
 refine C6 Bd ?_
 refine go ?_;intros
 refine Ck [1,2,4] (fun s:SpS=>[(5,.slice s.a (Lc x s.k).length s.c),(6,.int .i64 (s.k:Nat))]) (fun s=>[.ow Bd 3 (.slice s.a (Lc x s.k).length s.c) (Lc x s.k) s.F]) (fun s=>s.k≤n) (fun s=>n - s.k) ⟨0,_,_,_⟩ (Nat.zero_le _) fun s hs=>?_
 obtain ⟨j,a,c,F5⟩:=s
 dsimp only at hs ⊢
 have hlk:=Vl x j
 refine go ?_;intros
 refine ce (fun w s=>Il _ _ _ (by omega) (by omega)) ?_
 rw [hn]
 refine go ?_;intros
 refine Bf rfl (fun h4=>?_) (fun h4=>?_)
 ·refine go ?_;intros
  refine Ee rfl rfl (fun h5=>?_) (fun h5=>?_)
  ·refine go ?_;intros
   refine ce (fun w s=>Ez _ _ _ (by omega) (by omega)) ?_
   refine go ?_;intros
   apply wO
   refine Lh (Qx _) Db fun a2 c2 F2=>?_
   refine go ?_;intros
   rw [←Adj (by omega) (Nm (by omega))]
   refine Ct ⟨j+1,a2,c2,F2⟩ (by show j+1≤n;omega) (by show n - (j+1) < n - j;omega)
  ·refine Qi (xs:=x.Ao) j ?_
   rintro hi2 b2 o2 e s1
   rw [e]
   refine go ?_;intros
   cases g2:x.Ao[j].Ux
   ·refine go ?_;intros
    refine ce (fun w s=>Ez _ _ _ (by omega) (by omega)) ?_
    refine go ?_;intros
    apply wO
    refine Lh (Qx _) Db fun a2 c2 F2=>?_
    refine go ?_;intros
    rw [←Adj (by omega) (by rw [Kz hi2];exact g2)]
    refine Ct ⟨j+1,a2,c2,F2⟩ (by show j+1≤n;omega) (by show n - (j+1) < n - j;omega)
   ·refine go ?_;intros
    rw [←Ah2 (x:=x) (k:=j) (by omega) (by rw [Kz hi2];exact g2)]
    refine Ct ⟨j+1,a,c,F5⟩ (by show j+1≤n;omega) (by show n - (j+1) < n - j;omega)
 ·obtain rfl:j=n:=by omega
  refine go ?_;intros
  refine ret (a,c,F5) trivial rfl
def Aj2 (d:Int):Bool:=Hq 1 d 8
def P7 (base:Int) (r:A4):Bool:=Ca r.Ad && decide (gp base r.Ad < 8) && Hq 1 r.H4 3 && Hq 0 r.Cf 10007 && Hq 0 r.Du 3
def Acr (l:List A4) (base:Int) (i:Nat):Bool:=match l[i]? with
 | none=>true
 | some r=>P7 base r && (decide (i=0) || match l[i - 1]? with|none=>true|some p=>!decide (gp base r.Ad≤gp base p.Ad))
theorem Ub {l:List A4} {base:Int} {i:Nat} (h:i < l.length):Acr l base i=(P7 base l[i] && (decide (i=0) || !decide (gp base l[i].Ad≤gp base (l[i - 1]'(by omega)).Ad))):=by
 unfold Acr
 rw [List.getElem?_eq_getElem h,List.getElem?_eq_getElem (show i - 1 < l.length by omega)]
def Kq (l:List A4) (base:Int):Bool:=Ca base && decide ((l.length:Int)≤8) && (List.range l.length).all (Acr l base)
theorem Amf {l:List A4} {base:Int} {i:Nat} (h:i < l.length) (hc:Acr l base i=false):Kq l base=false:=by
 have:(List.range l.length).all (Acr l base)=false:=List.all_eq_false.2 ⟨i,by simpa using h,by simp [hc]⟩
 simp [Kq,this]
theorem Ajf {l:List A4} {base:Int} (h1:Ca base=true) (h2:(l.length:Int)≤8) (h:∀j,j < l.length→Acr l base j=true):Kq l base=true:=by
 unfold Kq
 rw [h1,decide_eq_true h2,List.all_eq_true.2 fun j hj=>h j (by simpa using hj)];rfl
theorem Dr {l:List A4} {base:Int}:Kq l base=true↔Ca base=true∧l.length≤8∧(∀r∈l,P7 base r=true)∧l.Pairwise fun a b=>gp base a.Ad < gp base b.Ad:=by
 unfold Kq
 simp only [Bool.and_eq_true,List.all_eq_true,List.mem_range,decide_eq_true_eq]
 constructor
 ·rintro ⟨⟨h1,h2⟩,h4⟩
  refine ⟨h1,by omega,fun r hr=>?_,?_⟩
  ·obtain ⟨i,hi,rfl⟩:=List.getElem_of_mem hr
   have:=h4 i hi
   rw [Ub hi] at this
   simp only [Bool.and_eq_true] at this
   exact this.1
  ·have step:∀i (hi:i+1 < l.length),gp base l[i].Ad < gp base l[i+1].Ad:=fun i hi=>by
    have:=h4 (i+1) hi
    rw [Ub hi] at this
    simp only [Bool.and_eq_true,Bool.or_eq_true,decide_eq_true_eq,Bool.not_eq_true',decide_eq_false_iff_not] at this
    have h:=this.2
    rcases h with h|h
    ·omega
    ·simpa using h
   refine List.pairwise_iff_getElem.2 fun i j hi hj hij=>?_
   obtain ⟨d,rfl⟩:∃d,j=i+1+d:=⟨j - i - 1,by omega⟩
   clear hij
   induction d with
   | zero=>exact step i hj
   | succ d ih=>exact Int.lt_trans (ih (by omega)) (step (i+1+d) hj)
 ·rintro ⟨h1,h2,h4,h5⟩
  refine ⟨⟨h1,by omega⟩,fun i hi=>?_⟩
  rw [Ub hi,h4 l[i] (List.getElem_mem hi)]
  simp only [Bool.true_and,Bool.or_eq_true,decide_eq_true_eq,Bool.not_eq_true',decide_eq_false_iff_not]
  rcases Nat.eq_zero_or_pos i with h0|h0
  ·exact .inl h0
  ·have:=List.pairwise_iff_getElem.1 h5 (i - 1) i (by omega) hi (by omega)
   right;omega
structure An8 (base:Int) (r:A4):Prop where
 n:Ca r.Ad=true
 g:gp base r.Ad < 8
 s0:1≤r.H4
 s1:r.H4≤3
 u0:0≤r.Cf
 u1:r.Cf≤10007
 t0:0≤r.Du
 t1:r.Du≤3
theorem Ea {base:Int} {r:A4}:P7 base r=true↔An8 base r:=by
 unfold P7 Hq
 simp only [Bool.and_eq_true,decide_eq_true_eq]
 exact ⟨fun ⟨⟨⟨⟨a,b⟩,c,d⟩,e,f⟩,g,h⟩=>⟨a,b,c,d,e,f,g,h⟩,fun ⟨a,b,c,d,e,f,g,h⟩=>⟨⟨⟨⟨a,b⟩,c,d⟩,e,f⟩,g,h⟩⟩
def Pf (r:Bc):Bool:=decide (r.Aa.next=0) && decide (r.Aa.Ao.length=0) && decide (r.Ap.length=0)
def Af3 (r:Bc):Bool:=r.Ap.all fun q=>!H1 r.Aa q.Ad
def Hc (r:Bc):Bool:=Ix r.Ai && (if r.Bg then Df r.Aa && Kq r.Ap r.Aa.next && Af3 r else Pf r)
def Pd (c d:Int) (r:A4):Option A4:=if c < r.Cf then some r else if r.Du=3 then none else if r.H4=1 then some ⟨r.Ad,2,c+3,r.Du+1⟩ else some ⟨r.Ad,1,c+d,r.Du⟩
def Mz (c:Int) (r:A4):Option Int:=if c < r.Cf then none else if r.Du=3 then none else if r.H4=1 then some r.Ad else none
def Pn (c:Int) (r:A4):Option Int:=if c < r.Cf then none else if r.Du=3 then some r.Ad else none
def Zu (n k:Int):As:=⟨3,k,n,n,⟨#[]⟩⟩
def C5 (l:List Int):Int:=Bn (l.getLastD 0) 1
def Gf (w:Am) (t:Int):Am:=Md (Fj (Dj w.next t) w)
def E6 (w:Am) (t:Int):List ByteArray:=Km (Dj w.next t) w++Mv (Fj (Dj w.next t) w)
def Sy (l:List A4) (n:Int):List A4:=l.filter fun q=>!Oa q.Ad n
def Dp (l:List A4) (w:Am):List A4:=l.filter fun q=>!(Oa q.Ad w.next || H1 w q.Ad) && decide (gp w.next q.Ad < 8)
def Kc (r:Bc) (d:Int):List A4:=r.Ap.filterMap (Pd (r.Ai+1) d)
def Cp (r:Bc):List Int:=r.Ap.filterMap (Pn (r.Ai+1))
def Cj (r:Bc) (d:Int):Bc:=if Cp r=[] then ⟨r.Bg,r.Ai+1,r.Aa,Kc r d⟩ else ⟨r.Bg,r.Ai+1,Gf r.Aa (C5 (Cp r)),Sy (Kc r d) (Gf r.Aa (C5 (Cp r))).next⟩
def D9 (r:Bc):List As:=(r.Ap.filterMap (Mz (r.Ai+1))).map (Zu r.Aa.next)
def Ev (r:Bc):List ByteArray:=if Cp r=[] then [] else E6 r.Aa (C5 (Cp r))
def Afs:Bc:=⟨false,0,⟨0,[]⟩,[]⟩
structure I9 (r:Bc):Prop where
 k0:0≤r.Ai
 k1:r.Ai≤9999
 w:Df r.Aa=true
 q:Kq r.Ap r.Aa.next=true
 f:∀z∈r.Ap,H1 r.Aa z.Ad=false
 z:r.Bg=false→r.Aa=⟨0,[]⟩∧r.Ap=[]
theorem Gm {r:Bc}:Hc r=true↔I9 r:=by
 have hc:Ix r.Ai=true↔0≤r.Ai∧r.Ai≤9999:=by unfold Ix Hq;simp
 have hf:Af3 r=true↔∀z∈r.Ap,H1 r.Aa z.Ad=false:=by unfold Af3;simp
 have hz:Pf r=true↔r.Aa=⟨0,[]⟩∧r.Ap=[]:=by
  unfold Pf
  obtain ⟨st,ck,⟨n,s⟩,q⟩:=r
  simp [and_assoc]
 unfold Hc
 constructor
 ·intro h
  rw [Bool.and_eq_true,hc] at h
  obtain ⟨⟨c0,c1⟩,h⟩:=h
  cases hs:r.Bg
  ·rw [hs] at h
   obtain ⟨e1,e2⟩:=hz.1 (by simpa using h)
   refine ⟨c0,c1,by rw [e1];decide,by rw [e1,e2];decide,by rw [e2];simp,fun _=>⟨e1,e2⟩⟩
  ·rw [hs] at h
   simp only [if_true,Bool.and_eq_true] at h
   exact ⟨c0,c1,h.1.1,h.1.2,hf.1 h.2,fun h'=>by rw [hs] at h';cases h'⟩
 ·rintro ⟨c0,c1,h1,h2,h3,h4⟩
  rw [Bool.and_eq_true,hc]
  refine ⟨⟨c0,c1⟩,?_⟩
  cases hs:r.Bg
  ·simpa using hz.2 (h4 hs)
  ·simp [h1,h2,hf.2 h3]
def Bk (p:As):Bool:=Hq 1 p.C2 5 && Ca p.Ad && Ca p.Ak && Ca p.D0 && N1 p.data && decide (gp p.Ak p.D0≤32767) && (decide (p.data=⟨#[]⟩) || decide (p.C2=1) || decide (p.C2=2))
theorem H5 {p:As} (h:Bk p=true):0≤p.Ad∧p.Ad≤65535:=by
 unfold Bk at h
 simp only [Bool.and_eq_true] at h
 exact Ba.1 h.1.1.1.1.1.2
theorem U0 (fid:FuncId) (hbd:So prog fid) (caps:Array Value) (v:Value) (xs:List ByteArray) (F:List Nat) (p:ByteArray→Bool) (w:World) (h:Sl A9 w v xs F)
  (hp:∀(k:Nat) (hk:k < xs.length) (wr:World) (u:Value) (G:List Nat),Below w.heap.size w wr→IsC A9 wr u xs[k] G→Calls prog fid (#[u]++caps) wr fun e w'=>e=.returned (.bool (p xs[k]))∧Below wr.heap.size wr w') :
  Calls prog 220 #[v,.func (.func fid) #[] caps] w fun e w'=>e=.returned (.int .i64 (N5 p xs))∧Below w.heap.size w w':=by
 obtain ⟨a,cap,rfl⟩:=h.slice
 have hl:=h.len
 unfold maxLen at hl
 go_enter func220,ntmps220
 go_wp2
 go_loopw [5,8] (fun _ i wr=>∃k:Nat,k≤xs.length∧i=.int .i64 k∧Hid (∀j,j < k→∀hj:j < xs.length,p xs[j]=false)∧Below w.heap.size w wr) (fun _ i _=>xs.length - (intOf i).toNat)
 case atStart=>exact ⟨0,Nat.zero_le _,rfl,fun j hj=>by omega,Below.refl _ _⟩
 case round =>
  obtain ⟨k,hk,rfl,hz,hB⟩:=hrel
  by_cases hlt:k < xs.length
  ·have hz0:=hz;clear hz
   obtain ⟨b,off,_,F1,rfl,hx, -,ja⟩:=(h.below (by decide) hB).at k hlt
   obtain ⟨rfl, -, -⟩:=id hx
   have a0:=ja 0 (by decide)
   simp only [show A9.sz=1 from rfl,Nat.mul_one,Nat.add_zero,List.getElem?_cons_zero,List.getElem?_cons_succ] at a0
   clear ja
   have hr:=hp k hlt wr _ F1 hB ⟨_,rfl,hx⟩
   have hp:=Lib.hid hp
   cases hpk:p xs[k]
   all_goals
    rw [hpk] at hr
    have hpk:=Lib.hid hpk
    have hr:=Lib.hid hr
    go_wp2_with fail
    refine hbd.upon hr.out ?_
    rintro e w1 ⟨rfl,hb1⟩
    refine ⟨_,rfl,?_⟩
    have hB:=tr hB hb1 (Nat.le_refl _)
    clear hb1
    go_wp2_with fail
   ·exact ⟨⟨k+1,by omega,by go_num,fun j hj hl=>by rcases Nat.lt_or_eq_of_le (Nat.le_of_lt_succ hj) with h|h;exact hz0.out j h hl;subst h;exact hpk.out,hB⟩,by simp [intOf];omega⟩
   ·go_ret
    exact ⟨Ll (Mh hlt hz0.out hpk.out).symm,hB⟩
  ·go_wp2
   go_ret
   exact ⟨Ll (Lj (fun j hj=>hz.out j (by omega) hj)).symm,hB⟩
theorem Sp (fid:FuncId) (hbd:So prog fid) (caps:Array Value) (v:Value) (xs:List ByteArray) (F:List Nat) (p:ByteArray→Bool) (w:World) (h:Sl A9 w v xs F)
  (hp:∀(k:Nat) (hk:k < xs.length) (wr:World) (u:Value) (G:List Nat),Below w.heap.size w wr→IsC A9 wr u xs[k] G→Calls prog fid (#[u]++caps) wr fun e w'=>e=.returned (.bool (p xs[k]))∧Below wr.heap.size wr w') :
  Calls prog 162 #[v,.func (.func fid) #[] caps] w fun e w'=>e=.returned (.bool (xs.any p))∧Below w.heap.size w w':=by
 have hp:=Lib.hid hp
 go_enter func162,ntmps162
 go_wp2_with fail
 refine (U0 fid hbd caps v xs F p _ h hp.out).mono ?_
 rintro e w1 ⟨rfl,hb1⟩
 go_wp2_with fail
 go_ret
 exact ⟨Di (Pu p xs),hb1⟩
theorem T4 (v:Value) (xs:List ByteArray) (F:List Nat) (w:World) (h:Sl A9 w v xs F) (hm:xs.length≤4294967296) :
  Calls prog 190 #[v] w (U4 A9 9 xs w):=by
 obtain ⟨ao,c,news,Fy,rfl,hl,hfy,hFy,hsrc⟩:=h.src
 have hFl:=hfy.lt
 have he:=fun w (a:Option Addr) (n c:Nat)=>Lib.run_eql_slice_nil (P:=prog) w 29 _ a n c 0 0 underlying29
 go_enter func190,ntmps190
 rcases hsrc with ⟨rfl,rfl,rfl⟩|⟨ad,rfl,hn⟩
 ·go_wp2
  go_ret
  exact ⟨.slice none 0 0,[],rfl,.inl ⟨rfl,rfl,rfl⟩,by simp,by simp,Below.refl _ _⟩
 ·go_wp2_with (at_builtin;refine Nb Dh (by decide) (by rfl) _ _ _ (by rfl) 9 (.string ⟨#[]⟩) 16 underlying29 Ac9 rfl (.slice (some ⟨w.heap.size,0,none⟩) 0 0) [] [w.heap.size] (by rfl) (Ow.empty (Hm.made _ _ _)) (Hd.one _) (some ad) xs c (by rfl) news Fy (hfy.frame fun b hb=>Below.heap_alloc _ _ _ (hFl b hb)) (.inr ⟨ad,rfl,fun j u hu=>kc ((Below.refl _ _).alloc (Nat.le_refl _) _) (hn j u hu)⟩) (fun b hb e=>by have:=hFl b hb;simp [Value.ownBlock] at e;omega) (by simpa using hl) (by unfold maxLen at hl;simp;omega) ?_)
  intro v2 w2 F2 hA
  go_wp2_with fail
  go_ret
  have hB:Below w.heap.size w w2:=((Below.refl _ _).alloc (Nat.le_refl _) _).trans (hA.Kj.below (by simp) (by simp))
  have hs:∀b,v2.ownBlock=some b→w.heap.size≤b:=fun b hb=>by rcases hA.Afd with e|e <;> rw [e] at hb <;> simp [Value.ownBlock] at hb <;> omega
  refine ⟨v2,F2,rfl,by simpa using hA.ow,hA.ow.scal E4▸?_,fun b hb=>?_,hB⟩
  ·cases v2.ownBlock <;> simp
  ·rw [hA.ow.scal E4] at hb;exact hs b (by simpa using hb)
def Do (x:Ax):Bool:=Ca x.Ak && Hq 1 x.size 6 && decide ((x.Aj.length:Int)≤x.size) && x.Aj.all N1
theorem Dw {x:Ax}:Do x=true↔(0≤x.Ak∧x.Ak≤65535)∧(1≤x.size∧x.size≤6)∧(x.Aj.length:Int)≤x.size∧x.Aj.all N1=true:=by
 unfold Do
 simp only [Bool.and_eq_true,Ba,Hq,decide_eq_true_eq,and_assoc]
theorem Abc (s:ByteArray) (w:World) (hs:s.size≤maxLen) :
  Calls prog 163 #[.string s] w fun e w'=>e=.returned (.bool (!N1 s))∧Below w.heap.size w w':=by
 go_enter func163,ntmps163
 go_wp2_with fail
 refine (Uk s _ hs).mono ?_
 rintro e w1 ⟨rfl,hb⟩
 go_wp2_with fail
 go_ret
 exact ⟨rfl,hb⟩
theorem Aem (v:Value) (xs:List ByteArray) (F:List Nat) (w:World) (h:Sl A9 w v xs F) :
  Calls prog 101 #[v] w fun e w'=>e=.returned (.bool (xs.all N1))∧Below w.heap.size w w':=by
 have hq:(!xs.any fun s=>!N1 s)=xs.all N1:=by rw [List.not_any_eq_all_not];simp
 replace hq:=Lib.hid hq
 go_enter func101,ntmps101
 go_wp2_with fail
 refine (Sp _ (.mk' func163 rfl rfl) _ _ xs F (fun s=>!N1 s) _ h ?_).mono ?_
 ·rintro k hk wr u G hb ⟨_,rfl,hu⟩
  obtain ⟨hu,hsz, -⟩:=hu
  cases hu
  exact Abc _ _ hsz
 rintro e w1 ⟨rfl,hb⟩
 go_wp2_with fail
 go_ret
 exact ⟨Di hq.out,hb⟩
theorem Nz (v:Value) (x:Ax) (F:List Nat) (w:World) (h:O1 B4 w v x F) :
  Calls prog 56 #[v] w fun e w'=>e=.returned (.bool (Do x))∧Below w.heap.size w w':=by
 obtain ⟨_,rfl,v1,rfl,h1⟩:=h
 obtain ⟨a,c,rfl⟩:=h1.slice
 have hl:=h1.len
 unfold maxLen at hl
 have hB0:∀A:Obj,Below w.heap.size w (w.alloc A):=fun A=>(Below.refl _ _).alloc (Nat.le_refl _) _
 go_enter func56,ntmps56
 go_wp2_with fail
 refine (Gb _ _).mono ?_
 rintro e w' ⟨rfl,rfl⟩
 cases g1:Ca x.Ak
 ·go_wp2_with fail
  go_ret
  exact ⟨Di (by simp [Do,g1]),hB0 _⟩
 go_wp2_with fail
 refine (Hz _ _ _ _).mono ?_
 rintro e w' ⟨rfl,rfl⟩
 cases g2:Hq 1 x.size 6
 ·go_wp2_with fail
  go_ret
  exact ⟨Di (by simp [Do,g2]),hB0 _⟩
 by_cases g3:(x.Aj.length:Int)≤x.size
 ·go_wp2_with fail
  refine (Aem _ x.Aj F _ (h1.below (by decide) (hB0 _))).mono ?_
  rintro e w1 ⟨rfl,hb⟩
  go_wp2_with fail
  go_ret
  exact ⟨Di (by simp [Do,g1,g2,g3]),tr (hB0 _) hb (Nat.le_refl _)⟩
 ·go_wp2_with fail
  go_ret
  exact ⟨Di (by simp only [Do,decide_eq_false (show ¬(x.Aj.length:Int)≤x.size by omega),Bool.and_false,Bool.false_and]),hB0 _⟩
theorem Tf (v:Value) (x:Ax) (F:List Nat) (w:World) (h:O1 B4 w v x F) (hm:x.Aj.length≤4294967296) :
  Calls prog 125 #[v] w (Ajb Nh x w):=by
 obtain ⟨_,rfl,v1,rfl,h1⟩:=h
 obtain ⟨a,c,rfl⟩:=h1.slice
 have hB0:∀A B:Obj,Below w.heap.size w ((w.alloc A).alloc B):=fun A B=>((Below.refl _ _).alloc (Nat.le_refl _) _).alloc (by simp) _
 go_enter func125,ntmps125
 go_wp2_with fail
 refine (T4 _ x.Aj F _ (h1.below (by decide) (hB0 _ _)) hm).mono ?_
 rintro e w1 ⟨v2,F2,rfl,o,n,g,hb⟩
 obtain ⟨a2,c2,rfl⟩:=o.slice
 have r0:=Hm.below (g:=w.heap.size) (t:=31) (cs:=[.int .i64 x.Ak,.int .i64 x.size,.slice a x.Aj.length c]) (by simp [Jp] <;> omega) hb
 have r1:=Hm.below (g:=w.heap.size+1) (t:=31) (cs:=[.int .i64 0,.int .i64 0,.slice none 0 0]) (by simp [Jp] <;> omega) hb
 have hB:=tr (hB0 _ _) hb (Nat.le_refl _)
 have c0:=r0.cells;have f0:=r0.frozens
 have c1:=r1.cells;have f1:=r1.frozens
 clear hb
 replace o:=Lib.hid o
 go_wp2_with fail
 refine bodyPost_ret (v:=.agg #[.int .i64 x.Ak,.int .i64 x.size,.slice a2 x.Aj.length c2]) ?_ rfl ?_
 ·simp [results,results125,go_sem,c0,c1,f1]
 ·refine ⟨_,F2,rfl,⟨_,rfl,_,rfl,?_⟩,n,fun b hb=>by have:=g b hb;simp at this;omega,?_⟩
  ·repeat refine Ow.setFar ?_ (fun hm=>by have:=g _ hm;simp at this <;> omega) _
   exact o.out
  ·repeat refine Below.setCell ?_ (by simp <;> omega) _
   exact hB
theorem Adg (v:Value) (x:Ax) (F:List Nat) (w:World) (h:O1 B4 w v x F) :
  Calls prog 105 #[v] w fun e w'=>e=.returned (.bool (Do x))∧Below w.heap.size w w':=by
 obtain ⟨_,rfl,v1,rfl,h1⟩:=h
 obtain ⟨a,c,rfl⟩:=h1.slice
 have hl:=h1.len
 unfold maxLen at hl
 have hB0:∀A:Obj,Below w.heap.size w (w.alloc A):=fun A=>(Below.refl _ _).alloc (Nat.le_refl _) _
 go_enter func105,ntmps105
 go_wp2_with fail
 refine (P5 _ _).mono ?_
 rintro e w' ⟨rfl,rfl⟩
 cases g1:Ca x.Ak
 ·go_wp2_with fail
  go_ret
  exact ⟨Di (by simp [Do,g1]),hB0 _⟩
 go_wp2_with fail
 refine (Qr _ _ _ _).mono ?_
 rintro e w' ⟨rfl,rfl⟩
 cases g2:Hq 1 x.size 6
 ·go_wp2_with fail
  go_ret
  exact ⟨Di (by simp [Do,g2]),hB0 _⟩
 by_cases g3:x.size < (x.Aj.length:Int)
 ·go_wp2_with fail
  go_ret
  exact ⟨Di (by simp only [Do,decide_eq_false (show ¬(x.Aj.length:Int)≤x.size by omega),Bool.and_false,Bool.false_and]),hB0 _⟩
 have hg:Do x=x.Aj.all N1:=by unfold Do;rw [g1,g2,decide_eq_true (by omega)];simp
 replace hg:=Lib.hid hg
 go_wp2_with fail
 have r0:=Hm.made w 31 [.int .i64 x.Ak,.int .i64 x.size,.slice a x.Aj.length c]
 have h2:=h1.below (by decide) (hB0 (.cells #[.int .i64 x.Ak,.int .i64 x.size,.slice a x.Aj.length c] 31))
 have hB:=hB0 (.cells #[.int .i64 x.Ak,.int .i64 x.size,.slice a x.Aj.length c] 31)
 generalize w.alloc (.cells #[.int .i64 x.Ak,.int .i64 x.size,.slice a x.Aj.length c] 31)=w1 at *
 have c0:=r0.cells
 go_loop [3] (fun i=>∃k:Nat,k≤x.Aj.length∧i=.int .i64 k∧Hid (∀j,j < k→∀hj:j < x.Aj.length,N1 x.Aj[j]=true)) (fun i=>x.Aj.length - (intOf i).toNat)
 case atStart=>exact ⟨0,Nat.zero_le _,rfl,fun j hj=>by omega⟩
 case round =>
  obtain ⟨k,hk,rfl,hz⟩:=hrel
  by_cases hlt:k < x.Aj.length
  ·obtain ⟨hsz,b,off,rfl,hc⟩:=h2.str.2.2 k hlt
   cases hi:N1 x.Aj[k]
   ·have hi2:(decide ((x.Aj[k].size:Int)≤8) && Rh x.Aj[k].data.toList)=false:=hi
    go_wp2_with fail
    refine (Ru _ _ _ hsz).mono ?_
    rintro e w' ⟨rfl,rfl⟩
    go_wp2_with fail
    go_ret
    refine ⟨Di ?_,hB⟩
    rw [hg.out]
    exact (List.all_eq_false.2 ⟨x.Aj[k],List.getElem_mem _,by simp [hi]⟩).symm
   ·have hi2:(decide ((x.Aj[k].size:Int)≤8) && Rh x.Aj[k].data.toList)=true:=hi
    go_wp2_with fail
    refine (Ru _ _ _ hsz).mono ?_
    rintro e w' ⟨rfl,rfl⟩
    go_wp2_with fail
    exact ⟨⟨k+1,by omega,by go_num,fun j hj hl=>by rcases Nat.lt_or_eq_of_le (Nat.le_of_lt_succ hj) with h|h;exact hz.out j h hl;subst h;exact hi⟩,by simp [intOf];omega⟩
  ·have hk:k=x.Aj.length:=by omega
   go_wp2_with fail
   go_ret
   refine ⟨Di ?_,hB⟩
   rw [hg.out]
   refine (List.all_eq_true.2 fun s hs=>?_).symm
   obtain ⟨j,hj,rfl⟩:=List.getElem_of_mem hs
   exact hz.out j (by omega) hj
section
variable {c:Cx} {fr:Fr} {H:List Pc} {Φ:Gl}
theorem Gj {v:Value} {x:Ch} {F:List Nat} (h:∀(a1:Option Addr) (c1:Nat) (F1:List Nat) (a2:Option Addr) (c2:Nat) (F2:List Nat),v=.agg #[.int .i64 x.Aa.Ak,.int .i64 x.Aa.size,.slice a1 x.Aa.Aj.length c1,.int .i64 x.Ai,.int .i64 x.quiet,.slice a2 x.holds.length c2]→x.Aa.Aj.length≤maxLen→x.holds.length≤maxLen→T c fr (.sl A9 (.slice a1 x.Aa.Aj.length c1) x.Aa.Aj F1::.sl Bh (.slice a2 x.holds.length c2) x.holds F2::H) Φ) (hm:.isv Dn v x F∈H:=by exact B8):T c fr H Φ:=.mk fun a w s g=>by
 obtain ⟨cs,rfl,v1,v2,G1,G2,rfl,h1,h2,rfl⟩:=s.get hm
 obtain ⟨a1,c1,rfl⟩:=h1.slice;have l1:=h1.len
 obtain ⟨a2,c2,rfl⟩:=h2.slice;have l2:=h2.len
 have t2:=s.ro (p:=.sl Bh (.slice a2 x.holds.length c2) x.holds G2) hm rfl rfl ⟨by decide,h2⟩ (by intro b hb;simp only [Pc.F] at hb ⊢;simp [hb])
 have t1:=t2.ro (p:=.sl A9 (.slice a1 x.Aa.Aj.length c1) x.Aa.Aj G1) (List.mem_cons_of_mem _ hm) rfl rfl ⟨by decide,h1⟩ (by intro b hb;simp only [Pc.F] at hb ⊢;simp [hb])
 exact (h a1 c1 G1 a2 c2 G2 rfl  l1 l2).h a w t1 g
theorem D7 (x:Ch) {a1:Option Addr} {c1:Nat} {F1:List Nat} {a2:Option Addr} {c2:Nat} {F2:List Nat}  (h:T c fr (.isv Dn (.agg #[.int .i64 x.Aa.Ak,.int .i64 x.Aa.size,.slice a1 x.Aa.Aj.length c1,.int .i64 x.Ai,.int .i64 x.quiet,.slice a2 x.holds.length c2]) x (F1++F2)::H) Φ) (m1:.sl A9 (.slice a1 x.Aa.Aj.length c1) x.Aa.Aj F1∈H:=by exact B8) (m2:.sl Bh (.slice a2 x.holds.length c2) x.holds F2∈H:=by exact B8):T c fr H Φ:=.mk fun a w s g=>by
 have hP:O1 Dn w (.agg #[.int .i64 x.Aa.Ak,.int .i64 x.Aa.size,.slice a1 x.Aa.Aj.length c1,.int .i64 x.Ai,.int .i64 x.quiet,.slice a2 x.holds.length c2]) x (F1++F2):=⟨_,rfl,_,_,_,_,rfl,(s.get m1).2,(s.get m2).2,rfl⟩
 refine h.h a w (s.add (N:=[.isv Dn (.agg #[.int .i64 x.Aa.Ak,.int .i64 x.Aa.size,.slice a1 x.Aa.Aj.length c1,.int .i64 x.Ai,.int .i64 x.quiet,.slice a2 x.holds.length c2]) x (F1++F2)]) (Below.refl _ _) (by intro q hq;simp at hq;subst hq;exact hP) ⟨by simp,trivial⟩ fun q hq b hb=>?_) g
 simp at hq;subst hq
 simp only [Pc.F,List.mem_append] at hb
 rcases hb with hb|hb
 ·exact .inr ⟨rfl,_,m1,rfl,hb⟩
 ·exact .inr ⟨rfl,_,m2,rfl,hb⟩
theorem Rw {v:Value} {x:Ch} {F:List Nat} {S:List Pc} (h:∀(a1:Option Addr) (c1:Nat) (F1:List Nat) (a2:Option Addr) (c2:Nat) (F2:List Nat),v=.agg #[.int .i64 x.Aa.Ak,.int .i64 x.Aa.size,.slice a1 x.Aa.Aj.length c1,.int .i64 x.Ai,.int .i64 x.quiet,.slice a2 x.holds.length c2]→x.Aa.Aj.length≤maxLen→x.holds.length≤maxLen→T c fr (.ow A9 9 (.slice a1 x.Aa.Aj.length c1) x.Aa.Aj F1::.ow Bh 137 (.slice a2 x.holds.length c2) x.holds F2::S) Φ) (hp:C1 H (.own Se v x F) S:=by exact Dy):T c fr H Φ:=.mk fun a w s g=>by
 have z1:=s.pick hp
 obtain ⟨hn,cs,rfl,v1,v2,G1,G2,rfl,h1,h2,rfl⟩:=z1.on (.own Se v x F) (by simp)
 obtain ⟨a1,c1,rfl⟩:=h1.slice;have l1:=h1.len
 obtain ⟨a2,c2,rfl⟩:=h2.slice;have l2:=h2.len
 have hn2:=hn;simp only [List.nodup_append,List.mem_append] at hn2
 refine (h a1 c1 G1 a2 c2 G2 rfl  l1 l2).h a w (St.turn (M:=[.own Se (.agg #[.int .i64 x.Aa.Ak,.int .i64 x.Aa.size,.slice a1 x.Aa.Aj.length c1,.int .i64 x.Ai,.int .i64 x.quiet,.slice a2 x.holds.length c2]) x _]) (N:=[.ow A9 9 (.slice a1 x.Aa.Aj.length c1) x.Aa.Aj G1,.ow Bh 137 (.slice a2 x.holds.length c2) x.holds G2]) z1 (Dt.refl _ w) ?_ ?_ ?_) g
 ·intro q hq;simp only [List.mem_cons,List.not_mem_nil,or_false] at hq
  rcases hq with rfl|rfl
  ·exact ⟨(List.nodup_append.1 hn).1,h1⟩
  ·exact ⟨(List.nodup_append.1 hn).2.1,h2⟩
 ·refine ⟨?_,⟨?_,trivial⟩⟩
  ·intro q hq _ b hb hb2;simp only [List.mem_cons,List.not_mem_nil,or_false] at hq;rcases hq with rfl <;> simp only [Pc.F] at hb hb2 <;> exact Vn hn hb hb2
  ·intro q hq _ b hb hb2;simp at hq
 ·intro q hq b hb;refine .inr (.inl ⟨_,List.mem_singleton.2 rfl,rfl,?_⟩);simp only [List.mem_cons,List.not_mem_nil,or_false] at hq;rcases hq with rfl|rfl <;> simp only [Pc.F] at hb ⊢ <;> simp [hb]
theorem Abf (x:Ch) {a1:Option Addr} {c1:Nat} {F1:List Nat} {a2:Option Addr} {c2:Nat} {F2:List Nat} {S1 S2:List Pc}  (h:T c fr (.own Se (.agg #[.int .i64 x.Aa.Ak,.int .i64 x.Aa.size,.slice a1 x.Aa.Aj.length c1,.int .i64 x.Ai,.int .i64 x.quiet,.slice a2 x.holds.length c2]) x (F1++F2)::S2) Φ) (m1:C1 H (.ow A9 9 (.slice a1 x.Aa.Aj.length c1) x.Aa.Aj F1) S1:=by exact Dy) (m2:C1 S1 (.ow Bh 137 (.slice a2 x.holds.length c2) x.holds F2) S2:=by exact Dy)  : T c fr H Φ:=.mk fun a w s g=>by
 have z1:St c.G c.D c.w0 ([.ow A9 9 (.slice a1 x.Aa.Aj.length c1) x.Aa.Aj F1,.ow Bh 137 (.slice a2 x.holds.length c2) x.holds F2]++S2) w:=by simpa using (show Ew H [.ow A9 9 (.slice a1 x.Aa.Aj.length c1) x.Aa.Aj F1,.ow Bh 137 (.slice a2 x.holds.length c2) x.holds F2] S2 from Ew.cons m1 (Ew.cons m2 (Ew.nil))).st (X:=[]) (by simpa using s)
 obtain ⟨n1,k1⟩:=z1.on (.ow A9 9 (.slice a1 x.Aa.Aj.length c1) x.Aa.Aj F1) (by simp)
 obtain ⟨n2,k2⟩:=z1.on (.ow Bh 137 (.slice a2 x.holds.length c2) x.holds F2) (by simp)
 have hsp:=z1.Y2
 have p1_2:∀b∈F1,b ∉ F2:=hsp.1 (.ow Bh 137 (.slice a2 x.holds.length c2) x.holds F2) (by simp) rfl
 have hN:(F1++F2).Nodup:=by
  simp only [List.nodup_append,List.mem_append]
  grind
 refine h.h a w (St.turn (M:=[.ow A9 9 (.slice a1 x.Aa.Aj.length c1) x.Aa.Aj F1,.ow Bh 137 (.slice a2 x.holds.length c2) x.holds F2]) (N:=[.own Se (.agg #[.int .i64 x.Aa.Ak,.int .i64 x.Aa.size,.slice a1 x.Aa.Aj.length c1,.int .i64 x.Ai,.int .i64 x.quiet,.slice a2 x.holds.length c2]) x (F1++F2)]) z1 (Dt.refl _ w) (by intro q hq;simp at hq;subst hq;exact ⟨hN,_,rfl,_,_,_,_,rfl,k1,k2,rfl⟩) ⟨by simp,trivial⟩ fun q hq b hb=>?_) g
 simp at hq;subst hq
 simp only [Pc.F,List.mem_append] at hb
 rcases hb with hb|hb
 ·exact .inr (.inl ⟨.ow A9 9 (.slice a1 x.Aa.Aj.length c1) x.Aa.Aj F1,by simp,rfl,hb⟩)
 ·exact .inr (.inl ⟨.ow Bh 137 (.slice a2 x.holds.length c2) x.holds F2,by simp,rfl,hb⟩)
end
section
variable {c:Cx} {fr:Fr} {H:List Pc} {Φ:Gl}
theorem Ado {v:Value} {x:G0} {F:List Nat} (h:∀(_:Unit),v=.agg #[.int .i64 x.Ad,.int .i64 x.Cf]→T c fr (H) Φ) (hm:.isv Bh v x F∈H:=by exact B8):T c fr H Φ:=.mk fun a w s g=>by
 obtain ⟨cs,rfl,rfl,rfl⟩:=s.get hm
 exact (h () rfl  ).h a w s g
theorem Rk {a:Option Addr} {n cp:Nat} {xs:List G0} {F:List Nat} (i:Nat) (h:∀(hi:i < xs.length) (b o:Nat),a=some ⟨b,o,none⟩→T c fr (.cel b (o+i * 2) [.int .i64 xs[i].Ad,.int .i64 xs[i].Cf]::H) Φ) (hm:.sl Bh (.slice a n cp) xs F∈H:=by exact B8) (hi:i < xs.length:=by omega):T c fr H Φ:=.mk fun ac w s g=>by
 obtain ⟨b,o,cs,G,ha,hrep,hG,hb,hne,hr⟩:=Rz (s.get hm) i hi
 obtain ⟨rfl,rfl⟩:=hrep
 exact (h hi b o  ha  ).h ac w (s.ro hm rfl rfl ⟨hne,hr⟩ (by intro x hx;simp [Pc.F] at hx;subst hx;exact hb)) g
end
section
variable {c:Cx} {fr:Fr} {H:List Pc} {Φ:Gl}
theorem Es {v:Value} {x:Ax} {F:List Nat} (h:∀(a1:Option Addr) (c1:Nat) (F1:List Nat),v=.agg #[.int .i64 x.Ak,.int .i64 x.size,.slice a1 x.Aj.length c1]→x.Aj.length≤maxLen→T c fr (.sl A9 (.slice a1 x.Aj.length c1) x.Aj F1::H) Φ) (hm:.isv B4 v x F∈H:=by exact B8):T c fr H Φ:=.mk fun a w s g=>by
 obtain ⟨cs,rfl,v1,rfl,h1⟩:=s.get hm
 obtain ⟨a1,c1,rfl⟩:=h1.slice;have l1:=h1.len
 have t1:=s.ro (p:=.sl A9 (.slice a1 x.Aj.length c1) x.Aj F) hm rfl rfl ⟨by decide,h1⟩ fun b hb=>hb
 exact (h a1 c1 F rfl  l1).h a w t1 g
theorem Cn (x:Ax) {a1:Option Addr} {c1:Nat} {F1:List Nat}  (h:T c fr (.isv B4 (.agg #[.int .i64 x.Ak,.int .i64 x.size,.slice a1 x.Aj.length c1]) x (F1)::H) Φ) (m1:.sl A9 (.slice a1 x.Aj.length c1) x.Aj F1∈H:=by exact B8):T c fr H Φ:=.mk fun a w s g=>by
 have hP:O1 B4 w (.agg #[.int .i64 x.Ak,.int .i64 x.size,.slice a1 x.Aj.length c1]) x (F1):=⟨_,rfl,_,rfl,(s.get m1).2⟩
 refine h.h a w (s.add (N:=[.isv B4 (.agg #[.int .i64 x.Ak,.int .i64 x.size,.slice a1 x.Aj.length c1]) x (F1)]) (Below.refl _ _) (by intro q hq;simp at hq;subst hq;exact hP) ⟨by simp,trivial⟩ fun q hq b hb=>?_) g
 simp at hq;subst hq
 simp only [Pc.F,List.mem_append] at hb
 exact .inr ⟨rfl,_,m1,rfl,hb⟩
theorem H8 {v:Value} {x:Ax} {F:List Nat} {S:List Pc} (h:∀(a1:Option Addr) (c1:Nat) (F1:List Nat),v=.agg #[.int .i64 x.Ak,.int .i64 x.size,.slice a1 x.Aj.length c1]→x.Aj.length≤maxLen→T c fr (.ow A9 9 (.slice a1 x.Aj.length c1) x.Aj F1::S) Φ) (hp:C1 H (.own Nh v x F) S:=by exact Dy):T c fr H Φ:=.mk fun a w s g=>by
 have z1:=s.pick hp
 obtain ⟨hn,cs,rfl,v1,rfl,h1⟩:=z1.on (.own Nh v x F) (by simp)
 obtain ⟨a1,c1,rfl⟩:=h1.slice;have l1:=h1.len
 refine (h a1 c1 F rfl  l1).h a w (St.turn (M:=[.own Nh (.agg #[.int .i64 x.Ak,.int .i64 x.size,.slice a1 x.Aj.length c1]) x _]) (N:=[.ow A9 9 (.slice a1 x.Aj.length c1) x.Aj F]) z1 (Dt.refl _ w) ?_ ?_ ?_) g
 ·intro q hq;simp at hq;subst hq;exact ⟨hn,h1⟩
 ·exact ⟨by simp,trivial⟩
 ·intro q hq b hb;simp at hq;subst hq;exact .inr (.inl ⟨_,List.mem_singleton.2 rfl,rfl,hb⟩)
end
def Gw (w:Ax) (n:Int):Bool:=decide (gp w.Ak n < (w.Aj.length:Int))
theorem Abe {n:Int} (h:Ix n=true):0≤n∧n≤9999:=by unfold Ix Hq at h;simpa using h
def Zo (x:Ch) (i:Nat):Bool:=match x.holds[i]? with
 | none=>true
 | some h=>Ca h.Ad && Gw x.Aa h.Ad && Hq (x.Ai+1) h.Cf (x.Ai+3) && (decide (i=0) || match x.holds[i - 1]? with|none=>true|some p=>!decide (gp x.Aa.Ak h.Ad≤gp x.Aa.Ak p.Ad))
theorem Mf {x:Ch} {i:Nat} (h:i < x.holds.length):Zo x i=(Ca x.holds[i].Ad && Gw x.Aa x.holds[i].Ad && Hq (x.Ai+1) x.holds[i].Cf (x.Ai+3) && (decide (i=0) || !decide (gp x.Aa.Ak x.holds[i].Ad≤gp x.Aa.Ak (x.holds[i - 1]'(by omega)).Ad))):=by
 unfold Zo
 rw [List.getElem?_eq_getElem h,List.getElem?_eq_getElem (show i - 1 < x.holds.length by omega)]
def Cd (x:Ch):Bool:=Do x.Aa && Ix x.Ai && Hq 0 x.quiet 3 && (List.range x.holds.length).all (Zo x)
theorem Ya {x:Ch} {i:Nat} (h:i < x.holds.length) (hc:Zo x i=false):Cd x=false:=by
 have:(List.range x.holds.length).all (Zo x)=false:=List.all_eq_false.2 ⟨i,by simpa using h,by simp [hc]⟩
 simp [Cd,this]
theorem Wd {x:Ch} (h1:Do x.Aa=true) (h2:Ix x.Ai=true) (h3:Hq 0 x.quiet 3=true) (h:∀j,j < x.holds.length→Zo x j=true):Cd x=true:=by
 unfold Cd
 rw [h1,h2,h3,List.all_eq_true.2 fun j hj=>h j (by simpa using hj)];rfl
theorem Rq (x:Ax) (n:Int) (v:Value) (F:List Nat) (h0:0≤x.Ak) (h1:x.Ak≤65535) (h2:0≤n) (h3:n≤65535) :
  Fn prog 104 [v,.int .i64 n] [.isv B4 v x F] [] (fun (_:Unit)=>True) (fun _=>.bool (Gw x n)) (fun _=>[]):=by
 refine enter func104 rfl ntmps104 fun w0=>?_
 refine Es ?_
 rintro a1 c1 F1 rfl l1
 refine go ?_;intros
 refine Aw [0] [] ?_
 refine dt 0 ?_
 refine dt 1 ?_
 refine dt 2 ?_
 refine dt 4 ?_
 refine dt 5 ?_
 refine dt 6 ?_
 refine dO 3 (by kernel_rfl) (by rw [List.getElem?_toArray];rfl) ?_
 apply At;rfl;kernel_rfl;exact Be
 refine ce (fun w s=>Ls _ _ _ (by omega) (by omega) (by omega) (by omega)) ?_
 refine dk ?_
 refine dt 7 ?_
 refine dt 8 ?_
 refine dd ?_
 refine go ?_;intros
 refine ret () trivial rfl
theorem Si (x:Ax) (n:Int) (v:Value) (F:List Nat) (h0:0≤x.Ak) (h1:x.Ak≤65535) (h2:-1≤n) (h3:n≤65536) :
  Fn prog 108 [v,.int .i64 n] [.isv B4 v x F] [] (fun (_:Unit)=>True) (fun _=>.bool (Gw x n)) (fun _=>[]):=by
 refine enter func108 rfl ntmps108 fun w0=>?_
 refine Es ?_
 rintro a1 c1 F1 rfl l1
 refine go ?_;intros
 refine Aw [0] [] ?_
 refine dt 0 ?_
 refine dt 1 ?_
 refine dt 2 ?_
 refine dt 4 ?_
 refine dt 5 ?_
 refine dt 6 ?_
 refine dO 3 (by kernel_rfl) (by rw [List.getElem?_toArray];rfl) ?_
 apply At;rfl;kernel_rfl;exact Be
 refine ce (fun w s=>Il _ _ _ (by omega) (by omega)) ?_
 refine dk ?_
 refine dt 7 ?_
 refine dt 8 ?_
 refine dd ?_
 refine go ?_;intros
 refine ret () trivial rfl
theorem Adh (x:Ax) (n:Int) (v:Value) (F:List Nat) (h0:0≤x.Ak) (h1:x.Ak≤65535) (h2:0≤n) (h3:n≤65535) :
  Fn prog 108 [v,.int .i64 n] [.isv B4 v x F] [] (fun (_:Unit)=>True) (fun _=>.bool (Gw x n)) (fun _=>[]):=Si x n v F h0 h1 (by omega) (by omega)
theorem Ra (x:Ch) (v:Value) (F:List Nat):Fn prog 60 [v] [.isv Dn v x F] [] (fun (_:Unit)=>True) (fun _=>.bool (Cd x)) (fun _=>[]):=by
 refine enter func60 rfl ntmps60 fun w0=>?_
 refine Gj ?_
 rintro a1 c1 F1 a2 c2 F2 rfl l1 l2
 unfold maxLen at l1 l2
 refine Cn x.Aa ?_
 generalize F1=F3
 refine go ?_;intros
 refine cb (fun w st=>Nz _ x.Aa _ w (st.get (p:=.isv B4 (.agg #[.int .i64 x.Aa.Ak,.int .i64 x.Aa.size,.slice a1 x.Aa.Aj.length c1]) x.Aa F3) (by simp))) ?_
 cases g1:Do x.Aa
 ·refine go ?_;intros
  refine ret () trivial ?_
  simp [Cd,g1,Rf]
 obtain ⟨⟨t0,t1⟩, -⟩:=Dw.1 g1
 refine go ?_;intros
 refine ce (fun w s=>Oc _ _) ?_
 cases g2:Ix x.Ai
 ·refine go ?_;intros
  refine ret () trivial ?_
  simp [Cd,g2,Rf]
 obtain ⟨k0,k1⟩:=Abe g2
 refine go ?_;intros
 refine ce (fun w s=>Hz _ _ _ _) ?_
 cases g3:Hq 0 x.quiet 3
 ·refine go ?_;intros
  refine ret () trivial ?_
  simp [Cd,g3,Rf]
 refine go ?_;intros
 refine H2 [1,2,22,23] (fun k:Nat=>[(24,.int .i64 k)]) (fun k=>k≤x.holds.length∧∀j,j < k→Zo x j=true) (fun k=>x.holds.length - k) 0 ⟨Nat.zero_le _,fun j h=>by omega⟩ fun k hk=>?_
 obtain ⟨hk1,hk2⟩:=hk
 refine go ?_;intros
 refine Bf rfl (fun h3=>?_) (fun h3=>?_)
 ·have hk3:k < x.holds.length:=by omega
  have bad:Zo x k=false→Cd x=false:=fun h=>Ya hk3 h
  have hck:=Mf hk3
  refine Rk (xs:=x.holds) k ?_
  rintro hi b o e
  rw [e]
  refine go ?_;intros
  refine ce (fun w s=>Gb _ _) ?_
  cases g4:Ca x.holds[k].Ad
  ·refine go ?_;intros
   refine ret () trivial ?_
   rw [bad (by rw [hck,g4];rfl)];rfl
  obtain ⟨m0,m1⟩:=Ba.1 g4
  refine go ?_;intros
  refine cb (fun w st=>(Rq x.Aa x.holds[k].Ad _ _ t0 t1 m0 m1).val w (H9 (st.get (p:=.isv B4 (.agg #[.int .i64 x.Aa.Ak,.int .i64 x.Aa.size,.slice a1 x.Aa.Aj.length c1]) x.Aa F3) (by simp)))) ?_
  cases g5:Gw x.Aa x.holds[k].Ad
  ·refine go ?_;intros
   refine ret () trivial ?_
   rw [bad (by rw [hck,g4,g5];rfl)];rfl
  refine go ?_;intros
  refine ce (fun w s=>Hz _ _ _ _) ?_
  cases g6:Hq (x.Ai+1) x.holds[k].Cf (x.Ai+3)
  ·refine go ?_;intros
   refine ret () trivial ?_
   rw [bad (by rw [hck,g4,g5,g6];rfl)];rfl
  refine go ?_;intros
  by_cases hk0:0 < k
  ·have hk4:k - 1 < x.holds.length:=by omega
   have hp:=hk2 (k - 1) (by omega)
   rw [Mf hk4] at hp
   simp only [Bool.and_eq_true] at hp
   obtain ⟨p0,p1⟩:=Ba.1 hp.1.1.1
   rw [←e]
   refine Rk (xs:=x.holds) (k - 1) ?_
   rintro hi5 b5 o5 e5
   rw [e5]
   refine Aw [0,1,3] [] ?_
   refine dt 0 ?_
   refine dt 1 ?_
   rw [decide_eq_true (show (0:Int) < k by omega)]
   refine dt 2 ?_
   refine En 3 ?_
   refine En 4 ?_
   refine En 5 ?_
   refine En 6 ?_
   refine En 7 ?_
   refine En 8 ?_
   refine En 9 ?_
   rw [show (k:Int) - 1=((k - 1:Nat):Int) by omega]
   refine En 10 ?_
   refine En 11 ?_
   refine En 12 ?_
   refine En 14 ?_
   refine En 15 ?_
   refine En 16 ?_
   refine En 17 ?_
   refine En 18 ?_
   refine d1g 13 ?_
   apply On.h
   apply At;rfl;kernel_rfl;exact Be
   refine ce (fun w s=>Ls _ _ _ (by omega) (by omega) (by omega) (by omega)) ?_
   refine dk ?_
   refine d1g 19 ?_
   apply On.h
   apply At;rfl;kernel_rfl;exact Be
   refine ce (fun w s=>Ls _ _ _ (by omega) (by omega) (by omega) (by omega)) ?_
   refine dk ?_
   refine En 20 ?_
   refine dt 21 ?_
   refine dd ?_
   refine go ?_;intros
   refine Bf rfl (fun h6=>?_) (fun h6=>?_)
   ·refine go ?_;intros
    refine ret () trivial ?_
    rw [bad (by rw [hck,decide_eq_true h6,decide_eq_false (show ¬k=0 by omega)];simp)];rfl
   ·refine go ?_;intros
    refine Ct (k+1) ⟨by omega,fun j hj=>?_⟩ (by omega)
    rcases Nat.lt_or_eq_of_le (Nat.lt_succ_iff.1 hj) with h|rfl
    ·exact hk2 j h
    ·rw [hck,g4,g5,g6,decide_eq_false h6];simp
  ·have hz:k=0:=by omega
   refine Aw [0,2] [] ?_
   refine dt 0 ?_
   refine dt 1 ?_
   rw [decide_eq_false (show ¬(0:Int) < k by omega)]
   refine dt 2 ?_
   refine ds 3 ?_
   refine ds 4 ?_
   refine ds 5 ?_
   refine ds 6 ?_
   refine ds 7 ?_
   refine ds 8 ?_
   refine ds 9 ?_
   refine ds 10 ?_
   refine ds 11 ?_
   refine ds 12 ?_
   refine ds 13 ?_
   refine ds 14 ?_
   refine ds 15 ?_
   refine ds 16 ?_
   refine ds 17 ?_
   refine ds 18 ?_
   refine ds 19 ?_
   refine ds 20 ?_
   refine dt 21 ?_
   refine dd ?_
   refine go ?_;intros
   refine Ct (k+1) ⟨by omega,fun j hj=>?_⟩ (by omega)
   rcases Nat.lt_or_eq_of_le (Nat.lt_succ_iff.1 hj) with h|rfl
   ·exact hk2 j h
   ·rw [hck,g4,g5,g6,decide_eq_true hz];simp
 have hkl:k=x.holds.length:=by omega
 refine go ?_;intros
 refine ret () trivial ?_
 rw [Wd g1 g2 g3 (hkl▸hk2)];rfl
theorem Ahq (x:Ch) (v:Value) (F:List Nat):Fn prog 61 [v] [.isv Dn v x F] [] (fun (_:Unit)=>True) (fun _=>.bool (Cd x)) (fun _=>[]):=by
 refine enter func61 rfl ntmps61 fun w0=>?_
 refine Gj ?_
 rintro a1 c1 F1 a2 c2 F2 rfl l1 l2
 unfold maxLen at l1 l2
 refine Cn x.Aa ?_
 generalize F1=F3
 refine go ?_;intros
 refine cb (fun w st=>Adg _ x.Aa _ w (st.get (p:=.isv B4 (.agg #[.int .i64 x.Aa.Ak,.int .i64 x.Aa.size,.slice a1 x.Aa.Aj.length c1]) x.Aa F3) (by simp))) ?_
 cases g1:Do x.Aa
 ·refine go ?_;intros
  refine ret () trivial ?_
  simp [Cd,g1,Rf]
 obtain ⟨⟨t0,t1⟩, -⟩:=Dw.1 g1
 refine go ?_;intros
 refine ce (fun w s=>Ae4 _ _) ?_
 cases g2:Ix x.Ai
 ·refine go ?_;intros
  refine ret () trivial ?_
  simp [Cd,g2,Rf]
 obtain ⟨k0,k1⟩:=Abe g2
 refine go ?_;intros
 refine ce (fun w s=>Qr _ _ _ _) ?_
 cases g3:Hq 0 x.quiet 3
 ·refine go ?_;intros
  refine ret () trivial ?_
  simp [Cd,g3,Rf]
 refine go ?_;intros
 refine H2 [1,2] (fun k:Nat=>[(3,.int .i64 k)]) (fun k=>k≤x.holds.length∧∀j,j < k→Zo x j=true) (fun k=>x.holds.length - k) 0 ⟨Nat.zero_le _,fun j h=>by omega⟩ fun k hk=>?_
 obtain ⟨hk1,hk2⟩:=hk
 refine go ?_;intros
 refine Bf rfl (fun h3=>?_) (fun h3=>?_)
 ·have hk3:k < x.holds.length:=by omega
  have bad:Zo x k=false→Cd x=false:=fun h=>Ya hk3 h
  have hck:=Mf hk3
  refine Rk (xs:=x.holds) k ?_
  rintro hi b o e
  rw [e]
  refine go ?_;intros
  refine ce (fun w s=>P5 _ _) ?_
  cases g4:Ca x.holds[k].Ad
  ·refine go ?_;intros
   refine ret () trivial ?_
   rw [bad (by rw [hck,g4];rfl)];rfl
  obtain ⟨m0,m1⟩:=Ba.1 g4
  refine go ?_;intros
  refine cb (fun w st=>(Adh x.Aa x.holds[k].Ad _ _ t0 t1 m0 m1).val w (H9 (st.get (p:=.isv B4 (.agg #[.int .i64 x.Aa.Ak,.int .i64 x.Aa.size,.slice a1 x.Aa.Aj.length c1]) x.Aa F3) (by simp)))) ?_
  cases g5:Gw x.Aa x.holds[k].Ad
  ·refine go ?_;intros
   refine ret () trivial ?_
   rw [bad (by rw [hck,g4,g5];rfl)];rfl
  refine go ?_;intros
  refine ce (fun w s=>Qr _ _ _ _) ?_
  cases g6:Hq (x.Ai+1) x.holds[k].Cf (x.Ai+3)
  ·refine go ?_;intros
   refine ret () trivial ?_
   rw [bad (by rw [hck,g4,g5,g6];rfl)];rfl
  refine go ?_;intros
  by_cases hk0:0 < k
  ·have hk4:k - 1 < x.holds.length:=by omega
   have hp:=hk2 (k - 1) (by omega)
   rw [Mf hk4] at hp
   simp only [Bool.and_eq_true] at hp
   obtain ⟨p0,p1⟩:=Ba.1 hp.1.1.1
   rw [←e]
   refine Rk (xs:=x.holds) (k - 1) ?_
   rintro hi5 b5 o5 e5
   rw [e5]
   refine Aw [0,1,3] [] ?_
   refine dt 0 ?_
   refine dt 1 ?_
   rw [decide_eq_true (show (0:Int) < k by omega)]
   refine dt 2 ?_
   refine En 3 ?_
   refine En 4 ?_
   refine En 5 ?_
   refine En 6 ?_
   refine En 7 ?_
   refine En 8 ?_
   refine En 9 ?_
   rw [show (k:Int) - 1=((k - 1:Nat):Int) by omega]
   refine En 10 ?_
   refine En 11 ?_
   refine En 12 ?_
   refine En 14 ?_
   refine En 15 ?_
   refine En 16 ?_
   refine En 17 ?_
   refine En 18 ?_
   refine d1g 13 ?_
   apply On.h
   apply At;rfl;kernel_rfl;exact Be
   refine ce (fun w s=>Il _ _ _ (by omega) (by omega)) ?_
   refine dk ?_
   refine d1g 19 ?_
   apply On.h
   apply At;rfl;kernel_rfl;exact Be
   refine ce (fun w s=>Il _ _ _ (by omega) (by omega)) ?_
   refine dk ?_
   refine En 20 ?_
   refine dt 21 ?_
   refine dd ?_
   refine go ?_;intros
   refine Bf rfl (fun h6=>?_) (fun h6=>?_)
   ·refine go ?_;intros
    refine ret () trivial ?_
    rw [bad (by rw [hck,decide_eq_true h6,decide_eq_false (show ¬k=0 by omega)];simp)];rfl
   ·refine go ?_;intros
    refine Ct (k+1) ⟨by omega,fun j hj=>?_⟩ (by omega)
    rcases Nat.lt_or_eq_of_le (Nat.lt_succ_iff.1 hj) with h|rfl
    ·exact hk2 j h
    ·rw [hck,g4,g5,g6,decide_eq_false h6];simp
  ·have hz:k=0:=by omega
   refine Aw [0,2] [] ?_
   refine dt 0 ?_
   refine dt 1 ?_
   rw [decide_eq_false (show ¬(0:Int) < k by omega)]
   refine dt 2 ?_
   refine ds 3 ?_
   refine ds 4 ?_
   refine ds 5 ?_
   refine ds 6 ?_
   refine ds 7 ?_
   refine ds 8 ?_
   refine ds 9 ?_
   refine ds 10 ?_
   refine ds 11 ?_
   refine ds 12 ?_
   refine ds 13 ?_
   refine ds 14 ?_
   refine ds 15 ?_
   refine ds 16 ?_
   refine ds 17 ?_
   refine ds 18 ?_
   refine ds 19 ?_
   refine ds 20 ?_
   refine dt 21 ?_
   refine dd ?_
   refine go ?_;intros
   refine Ct (k+1) ⟨by omega,fun j hj=>?_⟩ (by omega)
   rcases Nat.lt_or_eq_of_le (Nat.lt_succ_iff.1 hj) with h|rfl
   ·exact hk2 j h
   ·rw [hck,g4,g5,g6,decide_eq_true hz];simp
 have hkl:k=x.holds.length:=by omega
 refine go ?_;intros
 refine ret () trivial ?_
 rw [Wd g1 g2 g3 (hkl▸hk2)];rfl
def H3 (l:List As):Bool:=decide (l.length≤6) && l.all Bk
def upQ (l:List As):Bool:=l.all fun p=>decide (p.C2=3)
def Qf (e:Bt):Bool:=decide (e.Ai=0) && decide (e.Ah.length=0)
def Sc (r:Bc):Bool:=!r.Bg && decide (r.Ai=0) && Pf r
def Qy (par:List Int) (clk:Int) (i:Nat) (e:Bt) (r:Bc) (d u:List As):Bool:=H3 d && H3 u && upQ u &&
 (if i=0 then Qf e && Sc r && decide (d.length=0) && decide (u.length=0)
  else if Hw par i then Qf e && Hc r && decide (r.Ai=clk) else Bw e && decide (e.Ai=clk) && Sc r)
def Rl (n:Eg) (i:Nat):Bool:=match n.Af[i]?,n.Ae[i]?,n.down[i]?,n.up[i]? with
 | some e,some r,some d,some u=>Qy n.An.Ac n.Ab.Ai i e r d u
 | _,_,_,_=>true
def L7 (n:Eg):Bool:=decide (n.Af.length=n.An.Ac.length) && decide (n.Ae.length=n.An.Ac.length) && decide (n.down.length=n.An.Ac.length) && decide (n.up.length=n.An.Ac.length)
def A8 (n:Eg):Bool:=El n.An && Cd n.Ab && L7 n && Nf (Rl n) n.An.Ac.length
theorem U6 {n:Eg} {i:Nat} (h1:i < n.Af.length) (h2:i < n.Ae.length) (h3:i < n.down.length) (h4:i < n.up.length):Rl n i=Qy n.An.Ac n.Ab.Ai i n.Af[i] n.Ae[i] n.down[i] n.up[i]:=by
 unfold Rl
 rw [List.getElem?_eq_getElem h1,List.getElem?_eq_getElem h2,List.getElem?_eq_getElem h3,List.getElem?_eq_getElem h4]
theorem Bz {n:Eg}:L7 n=true↔n.Af.length=n.An.Ac.length∧n.Ae.length=n.An.Ac.length∧n.down.length=n.An.Ac.length∧n.up.length=n.An.Ac.length:=by
 unfold L7
 simp only [Bool.and_eq_true,decide_eq_true_eq]
 exact ⟨fun ⟨⟨⟨a,b⟩,c⟩,d⟩=>⟨a,b,c,d⟩,fun ⟨a,b,c,d⟩=>⟨⟨⟨a,b⟩,c⟩,d⟩⟩
theorem Wc {n:Eg}:A8 n=true↔El n.An=true∧Cd n.Ab=true∧L7 n=true∧∀i,i < n.An.Ac.length→Rl n i=true:=by
 unfold A8
 simp only [Bool.and_eq_true]
 exact ⟨fun ⟨⟨⟨a,b⟩,c⟩,d⟩=>⟨a,b,c,Ht d⟩,fun ⟨a,b,c,d⟩=>⟨⟨⟨a,b⟩,c⟩,Jt d⟩⟩
theorem Aew {n:Eg} {i:Nat} (hi:i < n.An.Ac.length) (h:Rl n i=false):A8 n=false:=by unfold A8;rw [M2 hi h,Bool.and_false]
theorem Ye {r:Bc} (h:Sc r=true):Hc r=true:=by
 unfold Sc at h
 simp only [Bool.and_eq_true,Bool.not_eq_true',decide_eq_true_eq] at h
 unfold Hc
 rw [h.1.1,h.2,h.1.2];rfl
theorem Yc {e:Bt} (h:Qf e=true):Bw e=true:=by
 unfold Qf at h
 simp only [Bool.and_eq_true,decide_eq_true_eq] at h
 unfold Bw
 rw [h.1,h.2];rfl
def P8 (q:List As) (p:As):List As:=if q.length < 6 then q++[p] else q
def Eq (q ps:List As):List As:=q++ps.take (6 - q.length)
theorem Adx (q:List As):Eq q []=q:=by unfold Eq;simp
theorem Aib (q:List As) (p:As) (ps:List As):Eq (P8 q p) ps=Eq q (p::ps):=by
 unfold Eq P8
 by_cases h:q.length < 6
 ·rw [if_pos h,show 6 - q.length=(6 - (q.length+1))+1 by omega,List.take_succ_cons]
  simp
 ·rw [if_neg h,show 6 - q.length=0 by omega];simp
theorem Akt (q:List As) (p:As):Eq q [p]=P8 q p:=by rw [←Aib,Adx]
theorem Adw (q ps:List As):(Eq q ps).length≤q.length+ps.length∧(q.length≤6→(Eq q ps).length≤6):=by
 unfold Eq
 rw [List.length_append,List.length_take]
 omega
theorem Vr {q ps:List As} (hq:H3 q=true) (hp:∀p∈ps,Bk p=true):H3 (Eq q ps)=true:=by
 unfold H3 at *
 simp only [Bool.and_eq_true,decide_eq_true_eq] at hq ⊢
 refine ⟨(Adw q ps).2 hq.1,?_⟩
 unfold Eq
 rw [List.all_append,hq.2,Bool.true_and,List.all_eq_true]
 exact fun p h=>hp p (List.mem_of_mem_take h)
def Dd (d:List (List As)) (nodes:List Int) (ps:List As):List (List As):=nodes.foldl (fun d x=>d.modify x.toNat fun q=>Eq q ps) d
theorem Tz (ps:List As):∀(nodes:List Int) (d:List (List As)),(Dd d nodes ps).length=d.length
 | [],_=>rfl
 | x::r,d=>by
  show (Dd (d.modify x.toNat fun q=>Eq q ps) r ps).length=d.length
  rw [Tz ps r,List.length_modify]
theorem Ad4 (d:List (List As)) (nodes:List Int) (x:Int) (ps:List As):Dd d (nodes++[x]) ps=(Dd d nodes ps).modify x.toNat fun q=>Eq q ps:=by
 unfold Dd
 rw [List.foldl_append];rfl
def Jd (f:Nat→Nat):Nat→List (List As)→Nat
 | _,[]=>0
 | k,x::r=>x.length * f k+Jd f (k+1) r
theorem Zg (f:Nat→Nat):∀(l:List (List As)) (k i:Nat) (h:i < l.length) (x:List As),Jd f k (l.set i x)+l[i].length * f (k+i)=Jd f k l+x.length * f (k+i)
 | [],_,_,h,_=>absurd h (by simp)
 | y::r,k,0,_,x=>by
  show x.length * f k+Jd f (k+1) r+y.length * f k=y.length * f k+Jd f (k+1) r+x.length * f k
  omega
 | y::r,k,i+1,h,x=>by
  have hr:i < r.length:=by simpa using h
  have ih:=Zg f r (k+1) i hr x
  show y.length * f k+Jd f (k+1) (r.set i x)+r[i].length * f (k+(i+1))=y.length * f k+Jd f (k+1) r+x.length * f (k+(i+1))
  rw [show k+(i+1)=k+1+i by omega]
  omega
theorem Fb {l:List (List As)} {i:Nat} {g:List As→List As} (h:i < l.length):l.modify i g=l.set i (g l[i]):=by
 refine List.ext_getElem? fun j=>?_
 rw [List.getElem?_modify,List.getElem?_set]
 by_cases e:i=j
 ·subst e;simp [h]
 ·simp [e]
theorem Tq {l:List (List As)} {i:Nat} {g:List As→List As} (h:¬i < l.length):l.modify i g=l:=by
 refine List.ext_getElem? fun j=>?_
 rw [List.getElem?_modify]
 by_cases e:i=j
 ·subst e;simp [List.getElem?_eq_none (show l.length≤i by omega)]
 ·simp [e]
theorem Aed (f:Nat→Nat) (l:List (List As)) (i:Nat) (ps:List As):Jd f 0 (l.modify i fun q=>Eq q ps)≤Jd f 0 l+ps.length * f i:=by
 by_cases h:i < l.length
 ·have h1:=Zg f l 0 i h (Eq l[i] ps)
  have h2:=Nat.mul_le_mul_right (f i) (Adw l[i] ps).1
  rw [Nat.zero_add,Nat.add_mul] at *
  rw [Fb h]
  omega
 ·rw [Tq h];omega
def T3 (f:Nat→Nat) (nodes:List Int):Nat:=(nodes.map fun x=>f x.toNat).sum
theorem Pe (f:Nat→Nat) (ps:List As):∀(nodes:List Int) (d:List (List As)),Jd f 0 (Dd d nodes ps)≤Jd f 0 d+ps.length * T3 f nodes
 | [],d=>by show Jd f 0 d≤_;omega
 | x::r,d=>by
  have ih:=Pe f ps r (d.modify x.toNat fun q=>Eq q ps)
  have h1:=Aed f d x.toNat ps
  show Jd f 0 (Dd (d.modify x.toNat fun q=>Eq q ps) r ps)≤Jd f 0 d+ps.length * (f x.toNat+T3 f r)
  rw [Nat.mul_add];omega
theorem Aly (f:Nat→Nat) (l:List (List As)) (i:Nat) (h:i < l.length) (h0:0 < l[i].length):Jd f 0 (l.set i (l[i].drop 1))+f i=Jd f 0 l:=by
 have h1:=Zg f l 0 i h (l[i].drop 1)
 rw [List.length_drop,Nat.zero_add] at h1
 have h2:l[i].length * f i=(l[i].length - 1) * f i+f i:=by
  obtain ⟨m,hm⟩:∃m,l[i].length=m+1:=⟨l[i].length - 1,by omega⟩
  rw [hm,Nat.succ_mul,Nat.add_sub_cancel]
 omega
theorem Aa5 (f:Nat→Nat) (b:Nat):∀nodes:List Int,(∀x∈nodes,f x.toNat≤b)→T3 f nodes≤nodes.length * b
 | [],_=>by simp [T3]
 | x::r,h=>by
  have ih:=Aa5 f b r fun y hy=>h y (by simp [hy])
  have:=h x (by simp)
  show f x.toNat+T3 f r≤(r.length+1) * b
  rw [Nat.succ_mul];omega
theorem Iy {l:List Int} (hg:Mw l) {i:Nat} {x:Int} (h:x∈Fv l (i:Int)):i < x.toNat∧x.toNat < l.length∧0≤x:=by
 obtain ⟨j,hj,rfl,e⟩:=Add h
 rcases Nat.eq_zero_or_pos j with rfl|h0
 ·have:=hg.z hj;omega
 ·have:=(hg.p j hj h0).2;simp only [Int.toNat_natCast];omega
theorem P3 (l:List Int) (node:Int):(Fv l node).length≤l.length:=Yh l node l.length
abbrev Bs:=List UInt8
def Asd (b:UInt8) (l:Bs):Bs:=(l.dropWhile (· != b)).drop 1
def Whole (x:Bs):Prop:=∃y,x=y++[10]∧∀c∈y,c≠10
theorem Sf:∀(n u:Nat),u < 10 ^ (n+1)→(Lib.decDigits u).length≤n+1
 | 0,u,h=>by rw [Lib.decDigits,dif_pos (by simpa using h)];simp
 | n+1,u,h=>by
  rw [Lib.decDigits]
  split
  ·simp
  ·have:=Sf n (u / 10) (by rw [Nat.pow_succ] at h;omega)
   simp;omega
structure Asm (c r:Bs):Prop where
 c0:1≤c.length
 c1:c.length≤160
 r1:r.length≤200
 ct:∀b∈c,(32≤b.toNat∧b.toNat≤126)∧b≠35
 rt:∀b∈r,(32≤b.toNat∧b.toNat≤126)∧b≠35
 ca:∀b∈c,b≠64
def bz (l:Bs):ByteArray:=⟨l.toArray⟩
theorem Afx (l:Bs):(bz l).data.toList=l:=by simp [bz]
theorem Aoa (s:ByteArray):bz s.data.toList=s:=by simp [bz]
theorem W8 (l:Bs):(bz l).size=l.length:=by simp [bz,ByteArray.size]
theorem Aij (s:ByteArray):s.data.toList.length=s.size:=by simp
theorem Ao8 (a b:Bs):bz a++bz b=bz (a++b):=by apply ByteArray.ext;simp [bz,ByteArray.data_append]
theorem Aco (s t:ByteArray):(s++t).data.toList=s.data.toList++t.data.toList:=by simp [ByteArray.data_append]
theorem Abz {a b:ByteArray} (h:a=b):Ending.returned (.string a)=.returned (.string b):=by rw [h]
theorem Aen (w:World) (k:Nat) (os:Array Obj):Below w.heap.size w (Go.Sort.grow (w.drewN k) os):=by
 refine ⟨rfl,rfl,rfl,?_,fun i hi=>?_⟩
 ·simp [Go.Sort.grow,World.drewN]
 ·simp [Go.Sort.grow,World.drewN,Array.getElem?_append_left hi]
theorem U7:∀n:Nat,n < 10→(⟨#[48,49,50,51,52,53,54,55,56,57]⟩:ByteArray).extract n (n+1)=⟨#[UInt8.ofNat (48+n)]⟩:=by decide
theorem Am1:∀(k n:Nat) (w:World),n < 10 ^ (k+1)→n≤999999999999999999 →
  Calls prog 216 #[.int .i64 (n:Int)] w fun e w'=>e=.returned (.string (bz (Lib.decDigits n)))∧∃j,w'=w.drewN j:=by
 intro k
 induction k with
 | zero =>
  intro n w h1 h2
  have h3:n < 10:=by simpa using h1
  have hd:=Lib.hid (U7 n h3)
  have hn:¬((n:Int) < 0):=by omega
  go_enter func216,ntmps216
  go_wp2_with fail
  go_ret
  refine ⟨Abz ?_,0,rfl⟩
  rw [hd.out,Lib.decDigits,dif_pos h3];rfl
 | succ k ih =>
  intro n w h1 h2
  by_cases h3:n < 10
  ·have hd:=Lib.hid (U7 n h3)
   have hn:¬((n:Int) < 0):=by omega
   go_enter func216,ntmps216
   go_wp2_with fail
   go_ret
   refine ⟨Abz ?_,0,rfl⟩
   rw [hd.out,Lib.decDigits,dif_pos h3];rfl
  ·have h4:n / 10 < 10 ^ (k+1):=by rw [Nat.pow_succ] at h1;omega
   have hc:=fun w=>ih (n / 10) w h4 (by omega)
   rw [show ((n / 10:Nat):Int)=(n:Int) / 10 from by omega] at hc
   have hn:¬((n:Int) < 0):=by omega
   have h5:¬((n:Int) < 10):=by omega
   have hd:=Lib.hid (U7 (n % 10) (by omega))
   have b0:(0:Int)≤(n:Int) % 10:=by omega
   have b1:(n:Int) % 10≤9:=by omega
   have e0:IntKind.i64.wrap ((n:Int) / 10)=(n:Int) / 10:=by rw [IntKind.wrap_i64];omega
   have e1:IntKind.i64.wrap ((n:Int) % 10)=(n:Int) % 10:=by rw [IntKind.wrap_i64];omega
   have e2:IntKind.i64.wrap ((n:Int) % 10+1)=(n:Int) % 10+1:=by rw [IntKind.wrap_i64];omega
   have e3:((n:Int) % 10).toNat=n % 10:=by omega
   have e4:((n:Int) % 10+1).toNat=n % 10+1:=by omega
   have e5:(n:Int).tmod 10=(n:Int) % 10:=Int.tmod_eq_emod_of_nonneg (by omega)
   have e6:(n:Int).tdiv 10=(n:Int) / 10:=Int.tdiv_eq_ediv_of_nonneg (by omega)
   have hsl:∀wx,(Instr.slice 9 (.string ⟨#[48,49,50,51,52,53,54,55,56,57]⟩) (some (.int .i64 ((n:Int) % 10))) (some (.int .i64 ((n:Int) % 10+1))) none).run prog wx=.ok (.string ⟨#[UInt8.ofNat (48+n % 10)]⟩) wx:=fun wx=>by
    have h6:=run_slice_string (P:=prog) wx 9 ⟨#[48,49,50,51,52,53,54,55,56,57]⟩ .i64 .i64 ((n:Int) % 10) ((n:Int) % 10+1) underlying9 (by omega) (by omega) (by show _≤((10:Nat):Int);omega)
    rw [h6,e3,e4,hd.out]
   have hD:(bz (Lib.decDigits (n / 10))).size≤18:=by rw [W8];exact Sf 17 _ (by omega)
   have hd1:(⟨#[UInt8.ofNat (48+n % 10)]⟩:ByteArray).size≤1:=by simp [ByteArray.size]
   have hR:Hid (bz (Lib.decDigits (n / 10))++⟨#[UInt8.ofNat (48+n % 10)]⟩=bz (Lib.decDigits n)):=by
    refine Lib.hid ?_
    conv=>rhs;rw [Lib.decDigits,dif_neg (by omega),←Ao8]
    rfl
   generalize bz (Lib.decDigits (n / 10))=D at *
   generalize (⟨#[UInt8.ofNat (48+n % 10)]⟩:ByteArray)=d at *
   clear ih h1 e3 e4
   go_enter func216,ntmps216
   go_wp2_with fail
   go_quiet ((go_at_call 216;exact Calls.quiet_of (v:=.string D) (hc (World.drewN _ _))))
   go_wp2_with fail
   go_ret
   refine ⟨Abz ?_,_,rfl⟩
   exact hR.out
def Ar1:Br Unit where
 sz:=0
 Jr w cs _ F:=cs=[]∧Lib.TabIs prog w "internal/strconv.uint64pow10" .u64 Lib.pow10Tab∧F=[2]∧∀b∈F,b < w.heap.size
 len h:=by simp [h.1]
 lt h:=h.2.2.2
 frame h hF:=by
  obtain ⟨h1,h2,rfl,h6⟩:=h
  have e0:=hF 2 (by simp)
  refine ⟨h1,?_,rfl,fun b hb=>?_⟩
  ·unfold Lib.TabIs World.var? at h2 ⊢
   rw [show prog.globalNamed "internal/strconv.uint64pow10" = some 2 by kernel_rfl] at h2 ⊢
   simp only [Option.bind_some] at h2 ⊢
   rw [e0];exact h2
  ·have e:=hF b hb
   have:=h6 b hb
   rw [Array.getElem?_eq_getElem this] at e
   exact (Array.getElem?_eq_some_iff.1 e).1
def Mt (FT:List Nat):Pc:=.isv Ar1 (.agg #[]) () FT
theorem Mt.env {w:World} {FT:List Nat} (h:(Mt FT).P w):Lib.TabIs prog w "internal/strconv.uint64pow10" .u64 Lib.pow10Tab∧True:=by
 obtain ⟨cs,_,h⟩:=h;exact ⟨h.2.1,trivial⟩
theorem Apm (n:Int) (h0:-9223372036854775808≤n) (h1:n≤9223372036854775807) (FT:List Nat) (w:World) (hT:(Mt FT).P w) :
  Calls prog 145 #[.int .i64 n] w fun e w'=>e=.returned (.string (bz (Lib.itoa n)))∧Below w.heap.size w w':=by
 refine (Tryz.strconv_Itoa n h0 h1 w (Mt.env hT).1).mono ?_
 rintro e w' ⟨rfl,k,os,rfl⟩
 exact ⟨rfl,Aen w k os⟩
theorem Are (n:Nat) (hn:n≤999999) (w:World):Calls prog 216 #[.int .i64 (n:Int)] w fun e w2=>e=.returned (.string (bz (Lib.decDigits n)))∧Below w.heap.size w w2:=by
 refine (Am1 5 n w (by omega) (by omega)).mono ?_
 rintro e w2 ⟨rfl,j,rfl⟩
 exact ⟨rfl,Hk (Below.refl _ _) j⟩
def Ja (i:Nat) (e:ByteArray):ByteArray:=bz (Lib.itoa ((i:Nat):Int))++⟨#[32]⟩++e
def Ny (i:Nat) (es:List ByteArray):List ByteArray:=es.map (Ja i)
def Ke (i:Nat):Int:=1+((i:Nat):Int) % 3
section
variable {c:Cx} {fr:Fr} {H:List Pc} {Φ:Gl}
theorem Ok {a:Option Addr} {n cp:Nat} {xs:List As} {F:List Nat} (i:Nat) (h:∀(hi:i < xs.length) (b o:Nat),a=some ⟨b,o,none⟩→xs[i].data.size≤maxLen→T c fr (.cel b (o+i * 5) [.int .i64 xs[i].C2,.int .i64 xs[i].Ad,.int .i64 xs[i].Ak,.int .i64 xs[i].D0,.string xs[i].data]::H) Φ) (hm:.sl Al (.slice a n cp) xs F∈H:=by exact B8) (hi:i < xs.length:=by omega):T c fr H Φ:=.mk fun ac w s g=>by
 obtain ⟨b,o,cs,G,ha,hrep,hG,hb,hne,hr⟩:=Rz (s.get hm) i hi
 obtain ⟨rfl,s1,rfl⟩:=hrep
 exact (h hi b o  ha s1 ).h ac w (s.ro hm rfl rfl ⟨hne,hr⟩ (by intro x hx;simp [Pc.F] at hx;subst hx;exact hb)) g
theorem Ag6 {t:TypeId} {a:Option Addr} {n cp:Nat} {xs:List As} {F:List Nat} {S:List Pc} (i:Nat) (h:∀(_:i < xs.length) g A B,a=some ⟨g,0,none⟩→F=[g]→xs[i].data.size≤maxLen→Ai2 Al t g (.slice (some ⟨g,0,none⟩) n cp) xs i A B→T c fr (.row g t (0+i * 5) A [.int .i64 xs[i].C2,.int .i64 xs[i].Ad,.int .i64 xs[i].Ak,.int .i64 xs[i].D0,.string xs[i].data] B::S) Φ) (hp:C1 H (.ow Al t (.slice a n cp) xs F) S:=by exact Dy) (hi:i < xs.length:=by omega):T c fr H Φ :=
 Nl I3 i (fun hi g A cs B ha hF hr hh=>by obtain ⟨rfl,s1, -⟩:=hr default;exact h hi g A B ha hF s1 hh) hp rfl hi
theorem C4 (x:As) (s1:x.data.size≤maxLen) (w:World):Cq Al w [.int .i64 x.C2,.int .i64 x.Ad,.int .i64 x.Ak,.int .i64 x.D0,.string x.data] [x] []:=⟨_,[],[],[],by simp,by simp,⟨rfl,s1,rfl⟩,rfl,rfl⟩
end
end Go.Proofs.YtbmlecejkacpnaaGreatDoor
