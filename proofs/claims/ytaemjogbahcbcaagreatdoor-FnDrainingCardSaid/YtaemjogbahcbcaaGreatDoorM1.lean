/- Part 1 of the proof: 33 texts, one behind the other. -/
import Derived.WalkKit
import Derived.Lib.Hide
import Derived.Deep.Draws
import Derived.Deep.AppendLies
import Derived.OwnWalk
import Derived.Test.YtaemjogbahcbcaaGreatDoorRows
import Derived.WalkSpells
import Derived.WalkLawsBesides
import Derived.Deep.QuietTactic
import Derived.BigQuiet
import Derived.Deep.RegionHeld3
import Derived.Deep.OwnRows
import Derived.Lib.SliceRun
import Derived.Deep.RegionHeld
import Derived.Deep.MidRow
import Derived.IntWalk
import Derived.Laws.Strings
import Derived.Test.YtaemjogbahcbcaaGreatDoorProg
open _root_.Go.Proofs.Tryz
set_option maxRecDepth 100000
set_option maxHeartbeats 8000000
set_option linter.all false
set_option linter.unusedVariables false
set_option linter.unusedSimpArgs false
namespace Go.Proofs.YtaemjogbahcbcaaGreatDoor
open Go.RowKit
theorem kc {w w':World} {a:Addr} {v:Value} (hb:Below w.heap.size w w') (h:w.cell? a=some v):w'.cell? a=some v :=
 (hb.cell (World.block_lt_of_cell? w a h)).trans h
theorem kf {w w':World} {a:Addr} {v:Value} (hb:Below w.heap.size w w') (h:w.cell? a=some v):w'.frozen? a=w.frozen? a :=
 hb.frozen (World.block_lt_of_cell? w a h)
theorem tr {B:Nat} {w w1 w2:World} (h:Below B w w1) (h':Below w1.heap.size w1 w2) (hB:B≤w.heap.size):Below B w w2:=h.trans (h'.mono (Nat.le_trans hB h.size))
structure Bv (α:Type) where
 sz:Nat
 Ka:World→List Value→α→List Nat→Prop
 len:∀{w cs x F},Ka w cs x F→cs.length=sz
 lt:∀{w cs x F},Ka w cs x F→∀b∈F,b < w.heap.size
 frame:∀{w w':World} {cs x F},Ka w cs x F→(∀b∈F,w'.heap[b]?=w.heap[b]?)→Ka w' cs x F
def L5 {α:Type} (E:Bv α) (w:World) (b:Nat):Nat→List α→List Nat→Prop
 | _,[],F=>F=[]
 | off,x::r,F=>∃cs F1 F2,F=F1++F2∧E.Ka w cs x F1∧(∀j,j < E.sz→w.cell? ⟨b,off+j,none⟩=cs[j]?)∧L5 E w b (off+E.sz) r F2
def Sl {α:Type} (E:Bv α) (w:World) (v:Value) (xs:List α) (F:List Nat):Prop :=
 ∃a cap,v=.slice a xs.length cap∧(xs.length≤cap∧cap≤maxLen) ∧
  ((xs=[]∧F=[]∧(a=none→cap=0))∨∃b off F',a=some ⟨b,off,none⟩∧xs≠[]∧F=b::F'∧L5 E w b off xs F')
theorem L5.lt {α:Type} {E:Bv α} {w:World} {b:Nat}:∀{xs:List α} {off:Nat} {F:List Nat},L5 E w b off xs F→∀c∈F,c < w.heap.size
 | [],_,_,h=>by simp [L5] at h;simp [h]
 | _::r,_,_,h=>by
  obtain ⟨cs,F1,F2,rfl,h1,_,h2⟩:=h
  intro c hc
  rcases List.mem_append.1 hc with hc|hc
  ·exact E.lt h1 c hc
  ·exact L5.lt h2 c hc
theorem L5.frame {α:Type} {E:Bv α} {w w':World} {b:Nat} (hb:w'.heap[b]?=w.heap[b]?):∀{xs:List α} {off:Nat} {F:List Nat},L5 E w b off xs F →
  (∀c∈F,w'.heap[c]?=w.heap[c]?)→L5 E w' b off xs F
 | [],_,_,h,_=>h
 | _::r,_,_,h,hF=>by
  obtain ⟨cs,F1,F2,rfl,h1,hc,h2⟩:=h
  refine ⟨cs,F1,F2,rfl,E.frame h1 fun c hc=>hF c (by simp [hc]),fun j hj=>?_,L5.frame hb h2 fun c hc=>hF c (by simp [hc])⟩
  rw [World.cell?_of_block (w:=w) hb];exact hc j hj
theorem L5.get {α:Type} {E:Bv α} {w:World} {b:Nat}:∀{xs:List α} {off:Nat} {F:List Nat},L5 E w b off xs F→∀(i:Nat) (hi:i < xs.length),
  ∃cs F1,E.Ka w cs xs[i] F1∧(∀j,j < E.sz→w.cell? ⟨b,off+i * E.sz+j,none⟩=cs[j]?)∧∀c∈F1,c∈F
 | [],_,_,_,i,hi=>by simp at hi
 | x::r,off,_,h,0,_=>by
  obtain ⟨cs,F1,F2,rfl,h1,hc,h2⟩:=h
  exact ⟨cs,F1,h1,by simpa using hc,fun c hc=>by simp [hc]⟩
 | x::r,off,_,h,i+1,hi=>by
  obtain ⟨cs,F1,F2,rfl,h1,hc,h2⟩:=h
  obtain ⟨cs',F3,h3,hc3,hm⟩:=L5.get h2 i (by simpa using hi)
  refine ⟨cs',F3,by simpa using h3,fun j hj=>?_,fun c hc=>by simp [hm c hc]⟩
  rw [←hc3 j hj,show off+(i+1) * E.sz+j=off+E.sz+i * E.sz+j by rw [Nat.add_mul];omega]
theorem L5.block {α:Type} {E:Bv α} {w:World} {b off:Nat} {xs:List α} {F:List Nat} (h:L5 E w b off xs F) (hne:xs≠[]) (hz:0 < E.sz):b < w.heap.size:=by
 cases xs with
 | nil=>exact absurd rfl hne
 | cons x r =>
  obtain ⟨cs,F1,F2,rfl,h1,hc,h2⟩:=h
  have h0:=hc 0 hz
  have hl:=E.len h1
  rw [List.getElem?_eq_getElem (by omega)] at h0
  exact World.block_lt_of_cell? w _ h0
theorem Sl.lt {α:Type} {E:Bv α} (hz:0 < E.sz) {w v xs F} (h:Sl E w v xs F):∀c∈F,c < w.heap.size:=by
 obtain ⟨a,cap,_,_,⟨_,rfl,_⟩|⟨b,off,F',_,hne,rfl,hc⟩⟩:=h
 ·simp
 ·intro c hm
  rcases List.mem_cons.1 hm with rfl|hm
  ·exact hc.block hne hz
  ·exact hc.lt c hm
theorem Sl.frame {α:Type} {E:Bv α} {w w':World} {v xs F} (h:Sl E w v xs F) (hF:∀b∈F,w'.heap[b]?=w.heap[b]?):Sl E w' v xs F:=by
 obtain ⟨a,cap,hv,hl,⟨h1,h2⟩|⟨b,off,F',h1,hne,rfl,hc⟩⟩:=h
 ·exact ⟨a,cap,hv,hl,.inl ⟨h1,h2⟩⟩
 ·exact ⟨a,cap,hv,hl,.inr ⟨b,off,F',h1,hne,rfl,hc.frame (hF b (by simp)) fun c hc=>hF c (by simp [hc])⟩⟩
theorem Sl.below {α:Type} {E:Bv α} (hz:0 < E.sz) {w w':World} {v xs F} (h:Sl E w v xs F) (hb:Below w.heap.size w w'):Sl E w' v xs F :=
 h.frame fun c hc=>hb.block c (h.lt hz c hc)
def Bd:Bv Int where
 sz:=1
 Ka _ cs z F:=cs=[.int .i64 z]∧F=[]
 len h:=by simp [h.1]
 lt h:=by simp [h.2]
 frame h _:=h
def Ba:Bv ByteArray where
 sz:=1
 Ka _ cs s F:=cs=[.string s]∧s.size≤maxLen∧F=[]
 len h:=by simp [h.1]
 lt h:=by simp [h.2.2]
 frame h _:=h
def Md {α:Type} (E:Bv α) (hz:0 < E.sz):Bv (List α) where
 sz:=1
 Ka w cs xs F:=∃v,cs=[v]∧Sl E w v xs F
 len h:=by obtain ⟨v,rfl,_⟩:=h;rfl
 lt h:=by obtain ⟨v,rfl,h⟩:=h;exact h.lt hz
 frame h hF:=by obtain ⟨v,rfl,h⟩:=h;exact ⟨v,rfl,h.frame hF⟩
def Apm:Bv Unit where
 sz:=0
 Ka _ cs _ F:=cs=[]∧F=[]
 len h:=by simp [h.1]
 lt h:=by simp [h.2]
 frame h _:=h
def Aj6 {α β:Type} (A:Bv α) (B:Bv β):Bv (α × β) where
 sz:=A.sz+B.sz
 Ka w cs x F:=∃c1 c2 F1 F2,cs=c1++c2∧F=F1++F2∧A.Ka w c1 x.1 F1∧B.Ka w c2 x.2 F2
 len h:=by obtain ⟨c1,c2,F1,F2,rfl,rfl,h1,h2⟩:=h;simp [A.len h1,B.len h2]
 lt h:=by
  obtain ⟨c1,c2,F1,F2,rfl,rfl,h1,h2⟩:=h
  intro b hb
  rcases List.mem_append.1 hb with hb|hb
  ·exact A.lt h1 b hb
  ·exact B.lt h2 b hb
 frame h hF:=by
  obtain ⟨c1,c2,F1,F2,rfl,rfl,h1,h2⟩:=h
  exact ⟨c1,c2,F1,F2,rfl,rfl,A.frame h1 fun b hb=>hF b (by simp [hb]),B.frame h2 fun b hb=>hF b (by simp [hb])⟩
def Bv.comap {α β:Type} (B:Bv β) (f:α→β):Bv α where
 sz:=B.sz
 Ka w cs x F:=B.Ka w cs (f x) F
 len h:=B.len h
 lt h:=B.lt h
 frame h hF:=B.frame h hF
theorem Bv.below {α:Type} (E:Bv α) {w w':World} {cs x F} (h:E.Ka w cs x F) (hb:Below w.heap.size w w'):E.Ka w' cs x F :=
 E.frame h fun c hc=>hb.block c (E.lt h c hc)
structure Ap6 where
 Ab8:ByteArray
 Amc:ByteArray
def Arx:Bv Ap6:=(Aj6 Ba (Aj6 Ba Apm)).comap fun x=>(x.Ab8,x.Amc,())
theorem Arx.open {w cs x F} (h:Arx.Ka w cs x F):cs=[.string x.Ab8,.string x.Amc]∧x.Ab8.size≤maxLen∧x.Amc.size≤maxLen:=by
 obtain ⟨c1,c2,F1,F2,rfl,rfl,⟨rfl,h1,_⟩,c3,c4,F3,F4,rfl,rfl,⟨rfl,h2,_⟩,rfl,_⟩:=h
 exact ⟨rfl,h1,h2⟩
structure Dy (F:List Nat) (w w':World):Prop where
 os:w'.os=w.os
 tape:w'.tape=w.tape
 output:w'.output=w.output
 size:w.heap.size≤w'.heap.size
 block:∀k,k < w.heap.size→k ∉ F→w'.heap[k]?=w.heap[k]?
theorem Dy.refl (F:List Nat) (w:World):Dy F w w:=⟨rfl,rfl,rfl,Nat.le_refl _,fun _ _ _=>rfl⟩
theorem Dy.trans {F:List Nat} {a b c:World} (h:Dy F a b) (k:Dy F b c):Dy F a c :=
 ⟨k.os.trans h.os,k.tape.trans h.tape,k.output.trans h.output,Nat.le_trans h.size k.size,fun i hi hf=>(k.block i (Nat.lt_of_lt_of_le hi h.size) hf).trans (h.block i hi hf)⟩
theorem Dy.mono {F G:List Nat} {a b:World} (h:Dy F a b) (hs:∀x∈F,x < a.heap.size→x∈G):Dy G a b :=
 ⟨h.os,h.tape,h.output,h.size,fun k hk hg=>h.block k hk fun hf=>hg (hs k hf hk)⟩
theorem Dy.ofBelow {F:List Nat} {w w':World} (h:Below w.heap.size w w'):Dy F w w':=⟨h.os,h.tape,h.output,h.size,fun k hk _=>h.block k hk⟩
theorem Dy.below {F:List Nat} {w w':World} {B:Nat} (h:Dy F w w') (hB:B≤w.heap.size) (hF:∀b∈F,B≤b):Below B w w' :=
 ⟨h.os,h.tape,h.output,h.size,fun k hk=>h.block k (by omega) fun hf=>by have:=hF k hf;omega⟩
theorem Dy.setCell {F:List Nat} {w w':World} (h:Dy F w w') {p:Addr} (hp:p.block∈F) (u:Value):Dy F w (w'.setCell p u) :=
 h.trans ⟨rfl,rfl,rfl,by simp [World.setCell],fun k _ hf=>Below.heap_setCell _ _ _ _ (fun e=>hf (e▸hp))⟩
theorem Dy.alloc {F:List Nat} {w w':World} (h:Dy F w w') (o:Obj):Dy F w (w'.alloc o) :=
 h.trans ⟨rfl,rfl,rfl,by simp,fun k hk _=>Below.heap_alloc _ _ _ hk⟩
theorem Dy.drewN {F:List Nat} {w w':World} (h:Dy F w w') (n:Nat):Dy F w (w'.drewN n):=⟨h.os,h.tape,h.output,h.size,h.block⟩
theorem Dy.cell {F:List Nat} {w w':World} (h:Dy F w w') {a:Addr} {v:Value} (ha:a.block ∉ F) (hc:w.cell? a=some v):w'.cell? a=some v :=
 (World.cell?_of_block (w:=w) (h.block a.block (World.block_lt_of_cell? w a hc) ha)).trans hc
theorem Ek {B:Nat} {a w:World} (h:Below B a w) (n:Nat):Below B a (w.drewN n):=⟨h.os,h.tape,h.output,h.size,h.block⟩
def Hm (w:World) (g:Nat) (t:TypeId) (cs:List Value):Prop:=w.heap[g]?=some (.cells cs.toArray t (0,0))
theorem Hm.lt {w g t cs} (h:Hm w g t cs):g < w.heap.size:=by
 rcases Nat.lt_or_ge g w.heap.size with h1|h1
 ·exact h1
 ·rw [Hm,Array.getElem?_eq_none h1] at h;simp at h
theorem Hm.cell {w g t cs} (h:Hm w g t cs) (j:Nat):w.cell? ⟨g,j,none⟩=cs[j]?:=by
 simp [World.cell?,show w.heap[g]?=_ from h]
theorem Hm.frozen {w g t cs} (h:Hm w g t cs) (j:Nat):w.frozen? ⟨g,j,none⟩=false:=by
 simp [World.frozen?,show w.heap[g]?=_ from h]
theorem Hm.Ky {w w' g t cs} (h:Hm w g t cs) (e:w'.heap[g]?=w.heap[g]?):Hm w' g t cs:=e.trans h
theorem Hm.below {w w' g t cs} (h:Hm w g t cs) (hb:Below w.heap.size w w'):Hm w' g t cs:=h.Ky (hb.block g h.lt)
theorem Hm.set {w g t cs} (h:Hm w g t cs) (j:Nat) (u:Value):Hm (w.setCell ⟨g,j,none⟩ u) g t (cs.set j u):=by
 have h':w.heap[g]?=_:=h
 simp [Hm,World.setCell,Array.getElem?_modify,h']
theorem Hm.setOther {w g t cs} (h:Hm w g t cs) {p:Addr} (hp:p.block≠g) (u:Value):Hm (w.setCell p u) g t cs :=
 h.Ky (Below.heap_setCell _ _ _ _ (fun e=>hp e.symm))
theorem Hm.cells {w g t cs} (h:Hm w g t cs):∀j,w.cell? ⟨g,j,none⟩=cs[j]?:=h.cell
theorem Hm.frozens {w g t cs} (h:Hm w g t cs):∀j,w.frozen? ⟨g,j,none⟩=false:=h.frozen
theorem Hm.made (w:World) (t:TypeId) (cs:List Value):Hm (w.alloc (.cells cs.toArray t)) w.heap.size t cs:=heap_alloc_new w _
theorem Hm.alloc {w g t cs} (h:Hm w g t cs) (o:Obj):Hm (w.alloc o) g t cs:=h.Ky (Below.heap_alloc _ _ _ h.lt)
theorem Iq (w:World) (o:Obj) (g:Nat) (t:TypeId) (cs:List Value):Hm (w.alloc o) g t cs↔if g=w.heap.size then o=.cells cs.toArray t (0,0) else Hm w g t cs:=by
 unfold Hm
 show (w.heap.push o)[g]?=_↔_
 rw [Array.getElem?_push]
 split <;> simp
def Cw {α:Type} (E:Bv α) (w:World):List Value→List α→List Nat→Prop
 | cs,[],G=>cs=[]∧G=[]
 | cs,x::r,G=>∃c1 c2 F1 F2,cs=c1++c2∧G=F1++F2∧E.Ka w c1 x F1∧Cw E w c2 r F2
section
variable {α:Type} {E:Bv α}
theorem Cw.len {w:World}:∀{xs:List α} {cs:List Value} {G:List Nat},Cw E w cs xs G→cs.length=xs.length * E.sz
 | [],_,_,h=>by simp [h.1]
 | x::r,_,_,h=>by
  obtain ⟨c1,c2,F1,F2,rfl,rfl,h1,h2⟩:=h
  rw [List.length_append,E.len h1,h2.len,List.length_cons,Nat.add_mul];omega
theorem Cw.lt {w:World}:∀{xs:List α} {cs:List Value} {G:List Nat},Cw E w cs xs G→∀b∈G,b < w.heap.size
 | [],_,_,h=>by simp [h.2]
 | x::r,_,_,h=>by
  obtain ⟨c1,c2,F1,F2,rfl,rfl,h1,h2⟩:=h
  intro b hb
  rcases List.mem_append.1 hb with hb|hb
  ·exact E.lt h1 b hb
  ·exact h2.lt b hb
theorem Cw.frame {w w':World}:∀{xs:List α} {cs:List Value} {G:List Nat},Cw E w cs xs G→(∀b∈G,w'.heap[b]?=w.heap[b]?)→Cw E w' cs xs G
 | [],_,_,h,_=>h
 | x::r,_,_,h,hG=>by
  obtain ⟨c1,c2,F1,F2,rfl,rfl,h1,h2⟩:=h
  exact ⟨c1,c2,F1,F2,rfl,rfl,E.frame h1 fun b hb=>hG b (by simp [hb]),h2.frame fun b hb=>hG b (by simp [hb])⟩
theorem Cw.append {w:World}:∀{xs ys:List α} {cs ds:List Value} {G H:List Nat},Cw E w cs xs G→Cw E w ds ys H→Cw E w (cs++ds) (xs++ys) (G++H)
 | [],_,_,_,_,_,h,k=>by obtain ⟨rfl,rfl⟩:=h;simpa using k
 | x::r,_,_,_,_,_,h,k=>by
  obtain ⟨c1,c2,F1,F2,rfl,rfl,h1,h2⟩:=h
  exact ⟨c1,_,F1,_,by rw [List.append_assoc],by rw [List.append_assoc],h1,h2.append k⟩
theorem Cw.one {w:World} {x:α} {cs:List Value} {G:List Nat} (h:E.Ka w cs x G):Cw E w cs [x] G:=⟨cs,[],G,[],by simp,by simp,h,rfl,rfl⟩
theorem Cw.split {w:World}:∀{xs ys:List α} {cs:List Value} {G:List Nat},Cw E w cs (xs++ys) G→∃c1 c2 G1 G2,cs=c1++c2∧G=G1++G2∧Cw E w c1 xs G1∧Cw E w c2 ys G2
 | [],_,cs,G,h=>⟨[],cs,[],G,rfl,rfl,⟨rfl,rfl⟩,h⟩
 | x::r,_,_,_,h=>by
  obtain ⟨c1,c2,F1,F2,rfl,rfl,h1,h2⟩:=h
  obtain ⟨d1,d2,G1,G2,rfl,rfl,h3,h4⟩:=h2.split
  exact ⟨c1++d1,d2,F1++G1,G2,by simp,by simp,⟨c1,d1,F1,G1,rfl,rfl,h1,h3⟩,h4⟩
theorem Cw.focus {w:World} {xs:List α} {cs:List Value} {G:List Nat} (h:Cw E w cs xs G) (i:Nat) (hi:i < xs.length) :
  ∃A c B G1 Fi G2,cs=A++c++B∧G=G1++Fi++G2∧A.length=i * E.sz∧c.length=E.sz∧Cw E w A (xs.take i) G1∧E.Ka w c xs[i] Fi∧Cw E w B (xs.drop (i+1)) G2:=by
 have e:xs=xs.take i++xs[i]::xs.drop (i+1):=by simp
 rw [e] at h
 obtain ⟨A,c2,G1,G2,rfl,rfl,h1,c,B,F1,F2,rfl,rfl,h2,h3⟩:=h.split
 exact ⟨A,c,B,G1,F1,F2,by simp,by simp,by rw [h1.len,List.length_take,Nat.min_eq_left (by omega)],E.len h2,h1,h2,h3⟩
theorem Cw.build {w:World} {xs:List α} {A c B:List Value} {G1 Fi G2:List Nat} {i:Nat} (hi:i < xs.length) {x:α} (h1:Cw E w A (xs.take i) G1) (h2:E.Ka w c x Fi) (h3:Cw E w B (xs.drop (i+1)) G2) :
  Cw E w (A++c++B) (xs.set i x) (G1++Fi++G2):=by
 have e:xs.set i x=xs.take i++[x]++xs.drop (i+1):=by
  rw [List.set_eq_take_append_cons_drop];simp [hi]
 rw [e]
 exact (h1.append (Cw.one h2)).append h3
def Ow (E:Bv α) (t:TypeId) (w:World) (v:Value) (xs:List α) (F:List Nat):Prop :=
 (v=.slice none 0 0∧xs=[]∧F=[]) ∨
 ∃g cap cs rest G,v=.slice (some ⟨g,0,none⟩) xs.length cap∧Hm w g t (cs++rest)∧xs.length≤cap∧cap≤maxLen∧cs.length+rest.length=cap * E.sz∧Cw E w cs xs G∧F=g::G
theorem Ow.lt {t:TypeId} {w v} {xs:List α} {F} (h:Ow E t w v xs F):∀b∈F,b < w.heap.size:=by
 rcases h with ⟨_,_,rfl⟩|⟨g,cap,cs,rest,G,_,hr,_,_,_,hf,rfl⟩
 ·simp
 ·intro b hb
  rcases List.mem_cons.1 hb with rfl|hb
  ·exact hr.lt
  ·exact hf.lt b hb
theorem Ow.frame {t:TypeId} {w w':World} {v} {xs:List α} {F} (h:Ow E t w v xs F) (hF:∀b∈F,w'.heap[b]?=w.heap[b]?):Ow E t w' v xs F:=by
 rcases h with h|⟨g,cap,cs,rest,G,hv,hr,h1,h2,h3,hf,rfl⟩
 ·exact .inl h
 ·exact .inr ⟨g,cap,cs,rest,G,hv,hr.Ky (hF g (by simp)),h1,h2,h3,hf.frame fun b hb=>hF b (by simp [hb]),rfl⟩
theorem Ow.below {t:TypeId} {w w':World} {v} {xs:List α} {F} (h:Ow E t w v xs F) (hb:Below w.heap.size w w'):Ow E t w' v xs F :=
 h.frame fun b h'=>hb.block b (h.lt b h')
theorem Ow.Ky {t:TypeId} {w w':World} {v} {xs:List α} {F K} (h:Ow E t w v xs F) (hk:Dy K w w') (hd:∀b∈F,b ∉ K):Ow E t w' v xs F :=
 h.frame fun b h'=>hk.block b (h.lt b h') (hd b h')
theorem Ow.setFar {t:TypeId} {w:World} {v} {xs:List α} {F} (h:Ow E t w v xs F) {p:Addr} (hp:p.block ∉ F) (u:Value):Ow E t (w.setCell p u) v xs F :=
 h.frame fun b hb=>Below.heap_setCell _ _ _ _ fun e=>hp (e▸hb)
theorem Ow.len {t:TypeId} {w v} {xs:List α} {F} (h:Ow E t w v xs F):xs.length≤maxLen:=by
 rcases h with ⟨_,rfl,_⟩|⟨g,cap,cs,rest,G,_,_,h1,h2,_⟩
 ·simp
 ·omega
theorem Ow.slice {t:TypeId} {w v} {xs:List α} {F} (h:Ow E t w v xs F):∃a cap,v=.slice a xs.length cap:=by
 rcases h with ⟨rfl,rfl,_⟩|⟨g,cap,cs,rest,G,rfl,_⟩
 ·exact ⟨none,0,rfl⟩
 ·exact ⟨_,_,rfl⟩
theorem Ow.focus {t:TypeId} {w v} {xs:List α} {F} (h:Ow E t w v xs F) (i:Nat) (hi:i < xs.length) :
  ∃g cap A c B G1 Fi G2,v=.slice (some ⟨g,0,none⟩) xs.length cap∧Hm w g t (A++c++B)∧A.length=i * E.sz∧c.length=E.sz∧E.Ka w c xs[i] Fi∧F=g::(G1++Fi++G2) ∧
   (∀b∈G1++G2,b < w.heap.size) ∧
   ∀w' c' x' Fi',Hm w' g t (A++c'++B)→E.Ka w' c' x' Fi'→(∀b∈G1++G2,w'.heap[b]?=w.heap[b]?)→Ow E t w' v (xs.set i x') (g::(G1++Fi'++G2)):=by
 rcases h with ⟨_,rfl,_⟩|⟨g,cap,cs,rest,G,rfl,hr,h1,h2,h3,hf,rfl⟩
 ·simp at hi
 ·obtain ⟨A,c,B,G1,Fi,G2,rfl,rfl,hA,hc,hfA,hx,hfB⟩:=hf.focus i hi
  refine ⟨g,cap,A,c,B++rest,G1,Fi,G2,rfl,by simpa using hr,hA,hc,hx,rfl,?_,?_⟩
  ·intro b hb
   rcases List.mem_append.1 hb with hb|hb
   ·exact hfA.lt b hb
   ·exact hfB.lt b hb
  ·intro w' c' x' Fi' hr' hx' hG
   refine .inr ⟨g,cap,A++c'++B,rest,G1++Fi'++G2,by simp,by simpa using hr',by simpa using h1,h2,?_,?_,rfl⟩
   ·have:=E.len hx'
    simp only [List.length_append] at h3 ⊢
    omega
   ·exact Cw.build hi (hfA.frame fun b hb=>hG b (by simp [hb])) hx' (hfB.frame fun b hb=>hG b (by simp [hb]))
structure Me {α:Type} (O R:Bv α):Prop where
 sz:O.sz=R.sz
 Ka:∀{w cs x F},O.Ka w cs x F→∃F',(∀b∈F',b∈F)∧R.Ka w cs x F'
theorem Me.refl {α:Type} (E:Bv α):Me E E:=⟨rfl,fun h=>⟨_,fun _ h=>h,h⟩⟩
theorem Ow.sl {O R:Bv α} (hW:Me O R) {t:TypeId} {w v} {xs:List α} {F} (h:Ow O t w v xs F):∃F',(∀b∈F',b∈F)∧Sl R w v xs F':=by
 have key:∀(xs:List α) (cs:List Value) (G:List Nat) (g off:Nat),Cw O w cs xs G→(∀j,j < cs.length→w.cell? ⟨g,off+j,none⟩=cs[j]?)→∃G',(∀b∈G',b∈G)∧L5 R w g off xs G':=by
  intro xs
  induction xs with
  | nil=>intro cs G g off h _;exact ⟨[],by simp,rfl⟩
  | cons x r ih =>
   intro cs G g off h hc
   obtain ⟨c1,c2,F1,F2,rfl,rfl,h1,h2⟩:=h
   have hl:=O.len h1
   have hs:=hW.sz
   obtain ⟨F1',hs1,hr1⟩:=hW.Ka h1
   obtain ⟨F2',hs2,hr2⟩:=ih c2 F2 g (off+R.sz) h2 fun j hj=>by
    have:=hc (c1.length+j) (by simp;omega)
    rw [List.getElem?_append_right (by omega),show c1.length+j - c1.length=j by omega] at this
    rw [←this,show off+R.sz+j=off+(c1.length+j) by omega]
   refine ⟨F1'++F2',fun b hb=>?_,c1,F1',F2',rfl,hr1,fun j hj=>?_,hr2⟩
   ·rcases List.mem_append.1 hb with hb|hb
    ·simp [hs1 b hb]
    ·simp [hs2 b hb]
   ·rw [hc j (by simp;omega),List.getElem?_append_left (by omega)]
 have hl:=h.len
 rcases h with ⟨rfl,rfl,rfl⟩|⟨g,cap,cs,rest,G,rfl,hrow,h1,h2,h3,hf,rfl⟩
 ·exact ⟨[],by simp,none,0,rfl,by simp,.inl ⟨rfl,rfl,fun _=>rfl⟩⟩
 ·by_cases h0:xs=[]
  ·subst h0
   exact ⟨[],by simp,some ⟨g,0,none⟩,cap,rfl,⟨by simp,h2⟩,.inl ⟨rfl,rfl,fun e=>by cases e⟩⟩
  ·obtain ⟨G',hG,hc⟩:=key xs cs G g 0 hf fun j hj=>by rw [Nat.zero_add,hrow.cell,List.getElem?_append_left hj]
   exact ⟨g::G',fun b hb=>by rcases List.mem_cons.1 hb with rfl|hb;simp;simp [hG b hb],_,cap,rfl,⟨h1,h2⟩,.inr ⟨g,0,G',rfl,h0,rfl,hc⟩⟩
theorem Ow.read {t:TypeId} {w v} {xs:List α} {F} (h:Ow E t w v xs F):∃F',(∀b∈F',b∈F)∧Sl E w v xs F':=by
 exact h.sl (Me.refl E)
end
theorem Me.slice {α:Type} {O R:Bv α} (h:Me O R) (hz:0 < R.sz) (t:TypeId) {w v} {xs:List α} {F} (ho:Ow O t w v xs F):∃F',(∀b∈F',b∈F)∧(Md R hz).Ka w [v] xs F':=by
 obtain ⟨F',h1,h2⟩:=ho.sl h;exact ⟨F',h1,v,rfl,h2⟩
def Hi {α:Type} (E:Bv α) (t:TypeId):Bv (List α) where
 sz:=1
 Ka w cs xs F:=∃v,cs=[v]∧Ow E t w v xs F
 len h:=by obtain ⟨v,rfl,_⟩:=h;rfl
 lt h:=by obtain ⟨v,rfl,h⟩:=h;exact h.lt
 frame h hF:=by obtain ⟨v,rfl,h⟩:=h;exact ⟨v,rfl,h.frame hF⟩
theorem Ao1 (A c B:List Value) (j:Nat) (hj:j < c.length) (u:Value):(A++c++B).set (A.length+j) u=A++c.set j u++B:=by
 rw [List.append_assoc,List.set_append_right _ _ (by omega),show A.length+j - A.length=j by omega,List.set_append_left _ _ hj,List.append_assoc]
theorem Hm.setMid {w g t} {A c B:List Value} (h:Hm w g t (A++c++B)) {p j:Nat} (hp:p=A.length+j) (hj:j < c.length) (u:Value):Hm (w.setCell ⟨g,p,none⟩ u) g t (A++c.set j u++B):=by
 subst hp;rw [←Ao1 _ _ _ _ hj];exact h.set _ u
theorem Hm.cellMid {w g t} {A c B:List Value} (h:Hm w g t (A++c++B)) {p j:Nat} (hp:p=A.length+j) (hj:j < c.length):w.cell? ⟨g,p,none⟩=c[j]?:=by
 subst hp;rw [h.cell,List.append_assoc,List.getElem?_append_right (by omega),show A.length+j - A.length=j by omega,List.getElem?_append_left hj]
def Ls (w:World) (g:Nat):Nat→List Value→World
 | _,[]=>w
 | p,u::r=>Ls (w.setCell ⟨g,p,none⟩ u) g (p+1) r
theorem Hm.put {g t}:∀(c' c:List Value) {w:World} {A B:List Value} {p:Nat},Hm w g t (A++c++B)→p=A.length→c'.length=c.length→Hm (Ls w g p c') g t (A++c'++B)
 | [],[],_,_,_,_,h,_,_=>h
 | u::r,d::c,w,A,B,p,h,hp,hl=>by
  have h1:=h.setMid (p:=p) (j:=0) (by omega) (by simp) u
  simp only [List.set_cons_zero] at h1
  have h2:=Hm.put r c (w:=w.setCell ⟨g,p,none⟩ u) (A:=A++[u]) (B:=B) (p:=p+1) (by simpa using h1) (by simp;omega) (by simpa using hl)
  simpa [Ls] using h2
 | [],_::_,_,_,_,_,_,_,hl=>by simp at hl
 | _::_,[],_,_,_,_,_,_,hl=>by simp at hl
theorem Lt {g:Nat}:∀(c:List Value) (w:World) (p:Nat) (b:Nat),b≠g→(Ls w g p c).heap[b]?=w.heap[b]?
 | [],_,_,_,_=>rfl
 | _::r,_,_,b,hb=>(Lt r _ _ b hb).trans (Below.heap_setCell _ _ _ _ hb)
theorem Jk {g:Nat}:∀(c:List Value) (w:World) (p:Nat),Dy [g] w (Ls w g p c)
 | [],w,_=>Dy.refl _ w
 | u::r,w,p=>((Dy.refl [g] w).setCell (p:=⟨g,p,none⟩) (by simp) u).trans (Jk r _ _)
theorem Ow.put {α:Type} {E:Bv α} {t:TypeId} {w:World} {g n cap:Nat} {xs:List α} {F:List Nat} (h:Ow E t w (.slice (some ⟨g,0,none⟩) n cap) xs F) (hn:F.Nodup) (i:Nat) (hi:i < xs.length) :
  g∈F∧(∀j,j < E.sz→(∃u,w.cell? ⟨g,i * E.sz+j,none⟩=some u)∧w.frozen? ⟨g,i * E.sz+j,none⟩=false) ∧
  ∀c' x' F',E.Ka w c' x' F'→F'.Nodup→(∀b∈F',b ∉ F)→∃F2,Ow E t (Ls w g (i * E.sz) c') (.slice (some ⟨g,0,none⟩) n cap) (xs.set i x') F2∧F2.Nodup∧∀b∈F2,b∈F∨b∈F':=by
 obtain ⟨g',cp,A,c,B,G1,Fi,G2,hv,hrow,hA,hcl,hx,rfl,hlt,back⟩:=h.focus i hi
 simp only [Value.slice.injEq,Option.some.injEq,Addr.mk.injEq] at hv
 obtain ⟨⟨rfl,_⟩,rfl,rfl⟩:=hv
 have hnd:g ∉ G1++G2:=fun hm=>by simp at hn hm;rcases hm with hm|hm <;> simp [hm] at hn
 refine ⟨by simp,fun j hj=>⟨⟨c[j]'(by omega),by rw [hrow.cellMid (j:=j) (by omega) (by omega),List.getElem?_eq_getElem]⟩,hrow.frozen _⟩,fun c' x' F' hx' hn' hd=>⟨g::(G1++F'++G2),?_,?_,?_⟩⟩
 ·have hl:=E.len hx'
  have hg:g ∉ F':=fun e=>hd g e (by simp)
  exact back _ c' x' F' (hrow.put c' c (by omega) (by omega)) (E.frame hx' fun b hb=>Lt _ _ _ _ fun e=>hg (e▸hb)) fun b hb=>Lt _ _ _ _ fun e=>hnd (e▸hb)
 ·have hd1:∀b∈F',b≠g∧b ∉ G1∧b ∉ G2:=fun b hb=>by have:=hd b hb;simp at this;exact ⟨this.1,this.2.1,this.2.2.2⟩
  simp only [List.nodup_cons,List.nodup_append,List.mem_append,not_or] at hn ⊢
  obtain ⟨⟨⟨h1,h2⟩,h3⟩,⟨h4,h5,h6⟩,h7,h8⟩:=hn
  refine ⟨⟨⟨h1,fun e=>(hd1 g e).1 rfl⟩,h3⟩,⟨h4,hn',fun a ha b hb e=>(hd1 b hb).2.1 (e▸ha)⟩,h7,fun a ha b hb=>?_⟩
  rcases ha with ha|ha
  ·exact h8 a (.inl ha) b hb
  ·exact fun e=>(hd1 a ha).2.2 (e▸hb)
 ·intro b hb;simp at hb ⊢;rcases hb with hb|hb|hb|hb <;> simp [hb]
theorem Ow.head {α:Type} {E:Bv α} {t:TypeId} {w:World} {a:Option Addr} {n cap:Nat} {xs:List α} {F:List Nat} (h:Ow E t w (.slice a n cap) xs F) (i:Nat) (hi:i < xs.length):∃g,a=some ⟨g,0,none⟩:=by
 obtain ⟨g,cp,A,c,B,G1,Fi,G2,hv, -⟩:=h.focus i hi
 simp only [Value.slice.injEq] at hv
 exact ⟨g,hv.1⟩
theorem Lr (z:Array Value) (n:Nat):(madeCells z (n * z.size)).toList=(List.replicate n z.toList).flatten:=by
 apply List.ext_getElem?
 intro p
 by_cases hz:z.size=0
 ·have:z = #[]:=Array.eq_empty_of_size_eq_zero hz
  subst this;simp [madeCells]
 ·have hlen:∀m,((List.replicate m z.toList).flatten).length=m * z.size:=fun m=>by simp
  by_cases hp:p < n * z.size
  ·have h1:(madeCells z (n * z.size)).toList[p]?=some z[p % z.size]!:=by simp [madeCells,hp]
   rw [h1]
   have hq:p / z.size < n:=Nat.div_lt_of_lt_mul (by rwa [Nat.mul_comm])
   have e:List.replicate n z.toList=List.replicate (p / z.size) z.toList++z.toList::List.replicate (n - p / z.size - 1) z.toList:=by
    rw [←List.replicate_succ,List.replicate_append_replicate];congr 1;omega
   have hd:=Nat.div_add_mod p z.size
   have hm:=Nat.mod_lt p (Nat.pos_of_ne_zero hz)
   rw [Nat.mul_comm] at hd
   rw [e,List.flatten_append,List.flatten_cons,List.getElem?_append_right (by rw [hlen];omega),hlen,show p - p / z.size * z.size=p % z.size by omega,List.getElem?_append_left (by simpa using hm)]
   simp [hm]
  ·rw [List.getElem?_eq_none (by simp [madeCells];omega),List.getElem?_eq_none (by rw [hlen];omega)]
theorem Ow.made {α:Type} {E:Bv α} {t:TypeId} (w:World) (z:Array Value) (n:Nat) (x:α) (hsz:z.size=E.sz) (hz:∀w,E.Ka w z.toList x []) (hn:n≤maxLen) :
  Ow E t (w.alloc (.cells (madeCells z (n * E.sz)) t)) (.slice (some ⟨w.heap.size,0,none⟩) n n) (List.replicate n x) [w.heap.size]:=by
 have hf:∀(w:World) (m:Nat),Cw E w (List.replicate m z.toList).flatten (List.replicate m x) []:=by
  intro w m
  induction m with
  | zero=>exact ⟨rfl,rfl⟩
  | succ m ih=>exact ⟨z.toList,_,[],[],by rw [List.replicate_succ,List.flatten_cons],rfl,hz w,ih⟩
 refine .inr ⟨w.heap.size,n,(madeCells z (n * E.sz)).toList,[],[],by simp,?_,by simp,hn,?_,?_,rfl⟩
 ·simp only [List.append_nil,Hm]
  exact heap_alloc_new w _
 ·rw [←hsz,Lr];simp
 ·rw [←hsz,Lr];exact hf _ _
theorem Pq {α:Type} {O R:Bv α} (h:Me O R) (hz:0 < R.sz) (t:TypeId):Me (Hi O t) (Md R hz):=⟨rfl,fun hh=>by
 obtain ⟨v,rfl,ho⟩:=hh;exact h.slice hz t ho⟩
theorem Sl.at {α:Type} {E:Bv α} {w:World} {a:Option Addr} {n cap:Nat} {xs:List α} {F} (h:Sl E w (.slice a n cap) xs F) (k:Nat) (hk:k < xs.length) :
  ∃b off cs F1,a=some ⟨b,off,none⟩∧E.Ka w cs xs[k] F1∧(∀c∈F1,c∈F)∧∀j,j < E.sz→w.cell? ⟨b,off+k * E.sz+j,none⟩=cs[j]?:=by
 obtain ⟨a',cap',hv,hl,h⟩:=h
 cases hv
 rcases h with ⟨rfl,_⟩|⟨b,off,F',rfl,_,rfl,hc⟩
 ·simp at hk
 ·obtain ⟨cs,F1,h1,hj,hm⟩:=hc.get k hk
  exact ⟨b,off,cs,F1,rfl,h1,fun c hc=>by simp [hm c hc],hj⟩
theorem Sl.slice {α:Type} {E:Bv α} {w v} {xs:List α} {F} (h:Sl E w v xs F):∃a cap,v=.slice a xs.length cap:=by
 obtain ⟨a,cap,h,_⟩:=h;exact ⟨a,cap,h⟩
theorem Sl.len {α:Type} {E:Bv α} {w v} {xs:List α} {F} (h:Sl E w v xs F):xs.length≤maxLen:=by
 obtain ⟨a,cap,_,h,_⟩:=h;omega
theorem Sl.caps {α:Type} {E:Bv α} {w} {a:Option Addr} {n cap:Nat} {xs:List α} {F} (h:Sl E w (.slice a n cap) xs F):n=xs.length∧n≤cap∧cap≤maxLen:=by
 obtain ⟨a',cap',hv,h,_⟩:=h;cases hv;exact ⟨rfl,h⟩
def Pt {α:Type} (E:Bv α) (w:World) (v:Value) (x:α) (F:List Nat):Prop:=∃cs:List Value,v=.agg cs.toArray∧E.Ka w cs x F
theorem Pt.below {α:Type} {E:Bv α} {w w':World} {v x F} (h:Pt E w v x F) (hb:Below w.heap.size w w'):Pt E w' v x F:=by
 obtain ⟨cs,hv,h⟩:=h;exact ⟨cs,hv,E.below h hb⟩
def Akj {α:Type} (E:Bv α) (x:α) (w:World) (e:Ending) (w':World):Prop :=
 ∃v F,e=.returned v∧Pt E w' v x F∧F.Nodup∧(∀b∈F,w.heap.size≤b)∧Below w.heap.size w w'
def Vz {α:Type} (E:Bv α) (t:TypeId) (xs:List α) (w:World) (e:Ending) (w':World):Prop :=
 ∃v F,e=.returned v∧Ow E t w' v xs F∧F.Nodup∧(∀b∈F,w.heap.size≤b)∧Below w.heap.size w w'
theorem Hm.keepK {w w' g t cs F} (h:Hm w g t cs) (hk:Dy F w w') (hg:g ∉ F):Hm w' g t cs:=h.Ky (hk.block g h.lt hg)
structure Tm (P:Program) (f:FuncId):Prop where
 ok:∃fn,P.funcs[f]?=some fn∧(fn.name == "runtime.NumGoroutine")=false∧fn.body.isNone=false
theorem Tm.mk' {P:Program} {f:FuncId} {fn:Func} (h:P.funcs[f]?=some fn) (h1:(fn.name == "runtime.NumGoroutine")=false) (h2:fn.body.isNone=false):Tm P f:=⟨fn,h,h1,h2⟩
theorem Tm.run {P:Program} {f:FuncId} (h:Tm P f) (args:Array Value) (w:World):(callFunc f args).run P w=.ok (.enter f args) w:=by
 obtain ⟨fn,h0,h1,h2⟩:=h.ok
 have h1':¬fn.name = "runtime.NumGoroutine" := by simpa using h1
 have h2':¬fn.body=none:=fun e=>by rw [e] at h2;simp at h2
 simp [callFunc,program,Sem.run,h0,h1',h2',bind,Sem.bind,pure]
theorem Tm.upon {P:Program} {f:FuncId} (h:Tm P f) {o:Oper} {a:Act} {K:Act→World→Prop} {Q:Exit→Act→World→Prop} {args:Array Value} {w:World} {R:Ending→World→Prop}
  (hc:Calls P f args w R) (hr:∀e w',R e w'→∃v,e=.returned v∧K (a.put o.dst v) w'):Oper.upon P o a K Q ((callFunc f args).run P w):=by
 rw [h.run,Oper.upon_enter]
 exact hc.mono fun e w' hR=>by obtain ⟨v,rfl,hk⟩:=hr e w' hR;exact hk
def IsC {α:Type} (E:Bv α) (w:World) (v:Value) (x:α) (F:List Nat):Prop:=∃u,v=u∧E.Ka w [u] x F
def Ox {α:Type} (p:α→Bool) (xs:List α):Int:=if xs.any p then (xs.findIdx p:Int) else -1
theorem M4 {α:Type} {p:α→Bool} {xs:List α} {k:Nat} (hk:k < xs.length) (h0:∀j,j < k→∀hj:j < xs.length,p xs[j]=false) (h1:p xs[k]=true):Ox p xs=k:=by
 have h:xs.findIdx p=k:=by
  rw [List.findIdx_eq hk]
  exact ⟨h1,fun j hj=>h0 j hj (by omega)⟩
 have ha:xs.any p=true:=List.any_eq_true.2 ⟨xs[k],List.getElem_mem _,h1⟩
 unfold Ox;rw [if_pos ha,h]
theorem Ly {α:Type} {p:α→Bool} {xs:List α} (h0:∀j,∀hj:j < xs.length,p xs[j]=false):Ox p xs=-1:=by
 unfold Ox
 rw [if_neg]
 intro ha
 obtain ⟨x,hx,hp⟩:=List.any_eq_true.1 ha
 obtain ⟨i,hi,rfl⟩:=List.getElem_of_mem hx
 rw [h0 i hi] at hp;simp at hp
theorem Qk {α:Type} (p:α→Bool) (xs:List α):decide (0≤Ox p xs)=xs.any p:=by
 unfold Ox;cases h:xs.any p <;> simp
def My (p:Nat→Bool) (n:Nat):Bool:=(List.range n).all p
theorem Ip {p:Nat→Bool} {n:Nat} (h:∀i,i < n→p i=true):My p n=true:=by simp [My];exact h
theorem Kd {p:Nat→Bool} {n k:Nat} (hk:k < n) (h:p k=false):My p n=false:=by
 rw [Bool.eq_false_iff];intro ha;simp [My] at ha;rw [ha k hk] at h;simp at h
theorem Ib {p:Nat→Bool} {n:Nat} (h:My p n=true) (i:Nat) (hi:i < n):p i=true:=by simp [My] at h;exact h i hi
theorem Pa {p:Nat→Bool} {k:Nat} (h:∀i,i < k→p i=true) (hk:p k=true):∀i,i < k+1→p i=true:=fun i hi=>by
 rcases Nat.lt_or_eq_of_le (Nat.le_of_lt_succ hi) with h'|rfl
 ·exact h i h'
 ·exact hk
theorem Sw {P:Program} {f:FuncId} {args:Array Value} {w:World} {n:Nat} {v:Value}
  (h:Calls P f args (w.drewN n) fun e w'=>e=.returned v∧w.drewN n=w'):Calls P f args (w.drewN n) fun e w''=>e=.returned v∧∃m,w''=w.drewN m :=
 h.mono fun _ _ ⟨he,hm⟩=>⟨he,n,hm.symm⟩
def W0 {α:Type} (E:Bv α):Prop:=∀{w cs x F},E.Ka w cs x F→∀u∈cs,u.oneCell'=true
theorem C8:W0 Bd:=fun h u hu=>by obtain ⟨rfl,_⟩:=h;simp at hu;subst hu;rfl
theorem Ed:W0 Ba:=fun h u hu=>by obtain ⟨rfl,_⟩:=h;simp at hu;subst hu;rfl
theorem Sl.one {α:Type} {E:Bv α} {w v} {xs:List α} {F} (h:Sl E w v xs F):v.oneCell'=true:=by obtain ⟨a,c,rfl,_⟩:=h;rfl
theorem Ow.one {α:Type} {E:Bv α} {t w v} {xs:List α} {F} (h:Ow E t w v xs F):v.oneCell'=true:=by obtain ⟨a,c,rfl⟩:=h.slice;rfl
theorem Aop {α:Type} (E:Bv α) (hz:0 < E.sz):W0 (Md E hz):=fun h u hu=>by obtain ⟨v,rfl,h⟩:=h;simp at hu;subst hu;exact h.one
theorem Cw.one' {α:Type} {E:Bv α} (hE:W0 E) {w:World}:∀{xs:List α} {cs:List Value} {G:List Nat},Cw E w cs xs G→∀u∈cs,u.oneCell'=true
 | [],_,_,h=>by simp [h.1]
 | x::r,_,_,h=>by
  obtain ⟨c1,c2,F1,F2,rfl,rfl,h1,h2⟩:=h
  intro u hu
  rcases List.mem_append.1 hu with hu|hu
  ·exact hE h1 u hu
  ·exact h2.one' hE u hu
theorem L5.flat {α:Type} {E:Bv α} {w:World} {b:Nat}:∀{xs:List α} {off:Nat} {F:List Nat},L5 E w b off xs F→∃cs,Cw E w cs xs F∧∀j u,cs[j]?=some u→w.cell? ⟨b,off+j,none⟩=some u
 | [],off,_,h=>⟨[],⟨rfl,h⟩,fun j u hu=>by simp at hu⟩
 | x::r,off,_,h=>by
  obtain ⟨c1,F1,F2,rfl,h1,hc,h2⟩:=h
  obtain ⟨c2,hf,hc2⟩:=h2.flat
  have hl:=E.len h1
  refine ⟨c1++c2,⟨c1,c2,F1,F2,rfl,rfl,h1,hf⟩,fun j u hu=>?_⟩
  rcases Nat.lt_or_ge j c1.length with hj|hj
  ·rw [List.getElem?_append_left hj] at hu
   rw [hc j (by omega)];exact hu
  ·rw [List.getElem?_append_right hj] at hu
   have:=hc2 _ _ hu
   rw [←this];congr 2;omega
theorem Cw.cells {α:Type} {E:Bv α} {w:World} {b:Nat}:∀{xs:List α} {cs:List Value} {off:Nat} {F:List Nat},Cw E w cs xs F→(∀j u,cs[j]?=some u→w.cell? ⟨b,off+j,none⟩=some u)→L5 E w b off xs F
 | [],_,off,_,h,_=>h.2
 | x::r,_,off,_,h,hc=>by
  obtain ⟨c1,c2,F1,F2,rfl,rfl,h1,h2⟩:=h
  have hl:=E.len h1
  refine ⟨c1,F1,F2,rfl,h1,fun j hj=>?_,h2.cells fun j u hu=>?_⟩
  ·have:j < c1.length:=by omega
   rw [List.getElem?_eq_getElem this]
   exact hc j _ (by rw [List.getElem?_append_left this,List.getElem?_eq_getElem this])
  ·have:=hc (c1.length+j) u (by rw [List.getElem?_append_right (by omega),show c1.length+j - c1.length=j by omega];exact hu)
   rw [←this];congr 2;omega
def Hd (F:List Nat):Prop:=∀g G,F=g::G→g ∉ G
theorem Hd.of {F:List Nat} (h:F.Nodup):Hd F:=fun g G e=>by subst e;simp at h;exact h.1
theorem Ow.owns {α:Type} {E:Bv α} {t w v} {xs:List α} {F} (h:Ow E t w v xs F):∃cs G,w.ownsRow 0 t E.sz v xs.length cs∧Cw E w cs xs G∧F=v.ownBlock.toList++G:=by
 rcases h with ⟨rfl,rfl,rfl⟩|⟨g,cap,cs,rest,G,rfl,hr,h1,h2,h3,hf,rfl⟩
 ·exact ⟨[],[],⟨by simp,.inl ⟨rfl,rfl⟩⟩,⟨rfl,rfl⟩,rfl⟩
 ·refine ⟨cs,G,⟨hf.len,.inr ⟨g,cap,(cs++rest).toArray,rfl,Nat.zero_le _,hr,h1,h2,by simp [h3],?_⟩⟩,hf,rfl⟩
  rw [←hf.len];simp
theorem Ow.ofOwns {α:Type} {E:Bv α} {t w v n} {cs:List Value} {xs:List α} {G} (h:w.ownsRow 0 t E.sz v n cs) (hf:Cw E w cs xs G) (hn:n=xs.length):Ow E t w v xs (v.ownBlock.toList++G):=by
 subst hn
 obtain ⟨hl,h⟩:=h
 rcases h with ⟨rfl,h0⟩|⟨g,cap,cur,rfl,_,hg,h1,h2,h3,h4⟩
 ·have:xs=[]:=List.eq_nil_of_length_eq_zero h0
  subst this
  exact .inl ⟨rfl,rfl,by rw [hf.2];rfl⟩
 ·refine .inr ⟨g,cap,cs,cur.toList.drop cs.length,G,rfl,?_,h1,h2,?_,hf,rfl⟩
  ·have:cs++cur.toList.drop cs.length=cur.toList:=by
    rw [hl,←h4];simp
   rw [this];exact hg
  ·rw [←h3];simp;rw [hl];have:=Nat.mul_le_mul_right E.sz h1;omega
theorem Aek {w:World} {t v n sz} {cs:List Value} (h:w.ownsRow 0 t sz v n cs):∀b,v.ownBlock=some b→b < w.heap.size:=by
 intro b hb
 rcases h.2 with ⟨rfl,_⟩|⟨g,cap,cur,rfl,_,hg,_⟩
 ·cases hb
 ·cases hb
  rcases Nat.lt_or_ge g w.heap.size with hlt|hge
  ·exact hlt
  ·rw [Array.getElem?_eq_none hge] at hg;cases hg
section
variable {P:Program} {α:Type} {E:Bv α}
structure Apd (E:Bv α) (e:TypeId) (w:World) (v:Value) (xs ys:List α) (F Fy:List Nat) (v':Value) (w':World) (F':List Nat):Prop where
 ow:Ow E e w' v' (xs++ys) F'
 hd:Hd F'
 Ase:F.Nodup→Fy.Nodup→(∀b∈Fy,b ∉ F)→F'.Nodup
 mem:∀b∈F',b∈F∨b∈Fy∨b=w.heap.size
 Ky:Dy F w w'
 Ag0:Dy v.ownBlock.toList w w'
 val:∃a cap,v'=.slice a (xs.length+ys.length) cap
 Af8:v'.ownBlock=v.ownBlock∨v'.ownBlock=some w.heap.size
 Atc:∀Gx,F=v.ownBlock.toList++Gx→F'=v'.ownBlock.toList++(Gx++Fy)
theorem Akn {e:TypeId} {w:World} {v:Value} {xs ys:List α} {F Fy:List Nat} {v' w'} {cs news G} (hown:w.ownsRow 0 e E.sz v xs.length cs) (hf:Cw E w cs xs G) (hF:F=v.ownBlock.toList++G) (hd:Hd F)
  (hfy:Cw E w news ys Fy) (hdis:∀b∈Fy,v.ownBlock≠some b) (h':w'.ownsRow 0 e E.sz v' (xs.length+ys.length) (cs++news)) (hg:w.grownBy w' v.ownBlock)
  (hb:v'.ownBlock=v.ownBlock∨v'.ownBlock=some w.heap.size) (hs:∃a cap,v'=.slice a (xs.length+ys.length) cap):∃F',Apd E e w v xs ys F Fy v' w' F':=by
 have hGn:∀b∈G,v.ownBlock≠some b:=fun b hb e=>by
  rw [e] at hF;exact hd b G hF hb
 have hfr:∀b,b < w.heap.size→v.ownBlock≠some b→w'.heap[b]?=w.heap[b]?:=fun b hb hn=>hg.block b hb (fun e=>hn e.symm)
 have hfl:Cw E w' (cs++news) (xs++ys) (G++Fy):=(hf.frame fun b hb=>hfr b (hf.lt b hb) (hGn b hb)).append (hfy.frame fun b hb=>hfr b (hfy.lt b hb) (hdis b hb))
 have hvl:=Aek hown
 have hhead:∀g,v'.ownBlock=some g→g ∉ G∧g ∉ Fy:=fun g e=>by
  rcases hb with hb|hb
  ·rw [hb] at e;exact ⟨fun hm=>hGn g hm e,fun hm=>hdis g hm e⟩
  ·rw [hb] at e;cases e
   exact ⟨fun hm=>Nat.lt_irrefl _ (hf.lt _ hm),fun hm=>Nat.lt_irrefl _ (hfy.lt _ hm)⟩
 refine ⟨v'.ownBlock.toList++(G++Fy),Ow.ofOwns h' hfl (by simp),?_,?_,?_,?_,⟨hg.os,hg.tape,hg.output,hg.size,fun k hk hm=>hfr k hk fun e=>hm (by rw [e];simp)⟩,hs,hb,fun Gx e=>by rw [hF] at e;rw [List.append_cancel_left e]⟩
 ·intro g G' e
  cases hv:v'.ownBlock with
  | none =>
   have hxy:xs++ys=[]:=by
    rcases h'.2 with ⟨rfl,h0⟩|⟨g,cap,cur,rfl,_⟩
    ·exact List.eq_nil_of_length_eq_zero (by rw [List.length_append];omega)
    ·simp [Value.ownBlock] at hv
   rw [hxy] at hfl;rw [hfl.2,hv] at e;simp at e
  | some g2 =>
   rw [hv] at e;simp at e;obtain ⟨rfl,rfl⟩:=e
   have:=hhead g2 hv;simp [this]
 ·intro h1 h2 h3
  subst hF
  have hn:(G++Fy).Nodup:=by
   rw [List.nodup_append] at h1 ⊢
   exact ⟨h1.2.1,h2,fun a ha b hb e=>h3 b hb (by rw [←e];simp [ha])⟩
  cases hv:v'.ownBlock with
  | none=>simpa using hn
  | some g2=>have:=hhead g2 hv;simp only [Option.toList_some,List.singleton_append,List.nodup_cons,List.mem_append];exact ⟨by simp [this],hn⟩
 ·intro b hm
  simp at hm
  rcases hm with hm|hm|hm
  ·rcases hb with hb|hb
   ·rw [hb] at hm;left;rw [hF];simp [hm]
   ·rw [hb] at hm;cases hm;simp
  ·left;rw [hF];simp [hm]
  ·simp [hm]
 ·exact ⟨hg.os,hg.tape,hg.output,hg.size,fun k hk hm=>hfr k hk fun e=>hm (by rw [hF,e];simp)⟩
theorem Agl (hone:W0 E) (hsz:0 < E.sz) {o:Oper} {a:Act} {K:Act→World→Prop} {Q:Exit→Act→World→Prop} {w:World} (s x:Operand) (t:TypeId)
  (ho:o.op=.call { callee:=.builtin .append,args:=#[s,x],argTypes:=#[t,t] }) (e:TypeId) (z:Value) (bytes:Nat) (ht:P.underlying t=some (.slice e))
  (hinfo:(P.info? e).map (fun i=>(i.zero,i.size,i.bytes))=some (some z,E.sz,bytes)) (hzs:z.cells.size=E.sz)
  (v:Value) (xs:List α) (F:List Nat) (hs:a.eval s=v) (hown:Ow E e w v xs F) (hd:Hd F)
  (ao:Option Addr) (ys:List α) (c:Nat) (hx:a.eval x=.slice ao ys.length c) (news:List Value) (Fy:List Nat) (hfy:Cw E w news ys Fy)
  (hsrc:(ao=none∧c=0∧ys=[])∨∃ad,ao=some ad∧∀j u,news[j]?=some u→w.cell? (ad.add j)=some u)
  (hdis:∀b∈Fy,v.ownBlock≠some b) (h63:xs.length+ys.length≤maxLen) (hbytes:(xs.length+ys.length) * bytes≤140737488355328)
  (h:∀v' w' F',Apd E e w v xs ys F Fy v' w' F'→K (a.put o.dst v') w'):o.wp P a w K Q:=by
 obtain ⟨i,hi,hzz⟩:=Option.map_eq_some_iff.1 hinfo
 simp only [Prod.mk.injEq] at hzz
 obtain ⟨hz,hsize,hby⟩:=hzz
 obtain ⟨cs,G,hrow,hf,hF⟩:=hown.owns
 rcases hsrc with ⟨rfl,rfl,rfl⟩|⟨ad,rfl,hnews⟩
 ·have hn0:news=[]:=hfy.1
  subst hn0
  unfold Oper.wp execOp
  simp only [ho,resolve,invoke,builtin,Sem.run_bind,Sem.run_pure,Result.andThen_ok,List.map_toArray,List.map_cons,List.map_nil,hs,hx]
  have hrun:=run_append_owned_none (P:=P) w 0 t o.type e i E.sz ht hi _ xs.length cs hrow
  rw [show ([]:List α).length=0 from rfl,hrun]
  obtain ⟨F',hA⟩:=Akn (ys:=[]) hrow hf hF hd hfy hdis (by simpa using hrow) (World.grownBy.refl _ _) (.inl rfl) (by obtain ⟨a,c,rfl⟩:=hown.slice;exact ⟨a,c,by simp⟩)
  exact h _ _ _ hA
 ·obtain ⟨v',w',hr,h2,h3,h4,h5⟩:=run_append_own_at (P:=P) w 0 t o.type e i z E.sz bytes ht hi hz hsize hby hzs hsz v xs.length cs hrow ad ys.length c news hfy.len hnews (hfy.one' hone) h63 hbytes (Nat.zero_le _)
  unfold Oper.wp execOp
  simp only [ho,resolve,invoke,builtin,Sem.run_bind,Sem.run_pure,Result.andThen_ok,List.map_toArray,List.map_cons,List.map_nil,hs,hx,hr]
  have hs2:∃a cap,v'=.slice a (xs.length+ys.length) cap:=by
   rcases h2.2 with ⟨rfl,h0⟩|⟨g,cap,cur,rfl,_⟩
   ·exact ⟨none,0,by rw [h0]⟩
   ·exact ⟨_,_,rfl⟩
  obtain ⟨F',hA⟩:=Akn (ys:=ys) hrow hf hF hd hfy hdis h2 h3 h5 hs2
  exact h _ _ _ hA
theorem Nx (hone:W0 E) (hsz:0 < E.sz) {ops:Array Oper} {rest:List Oper} {o:Oper} {a:Act} {Q:Exit→Act→World→Prop} {w:World} (hgd:o.guard=none) (s x:Operand) (t:TypeId)
  (ho:o.op=.call { callee:=.builtin .append,args:=#[s,x],argTypes:=#[t,t] }) (e:TypeId) (z:Value) (bytes:Nat) (ht:P.underlying t=some (.slice e))
  (hinfo:(P.info? e).map (fun i=>(i.zero,i.size,i.bytes))=some (some z,E.sz,bytes)) (hzs:z.cells.size=E.sz)
  (v:Value) (xs:List α) (F:List Nat) (hs:a.eval s=v) (hown:Ow E e w v xs F) (hd:Hd F)
  (ao:Option Addr) (ys:List α) (c:Nat) (hx:a.eval x=.slice ao ys.length c) (news:List Value) (Fy:List Nat) (hfy:Cw E w news ys Fy)
  (hsrc:(ao=none∧c=0∧ys=[])∨∃ad,ao=some ad∧∀j u,news[j]?=some u→w.cell? (ad.add j)=some u)
  (hdis:∀b∈Fy,v.ownBlock≠some b) (h63:xs.length+ys.length≤maxLen) (hbytes:(xs.length+ys.length) * bytes≤140737488355328)
  (h:∀v' w' F',Apd E e w v xs ys F Fy v' w' F'→wpList P ops Q rest (a.put o.dst v') w'):wpList P ops Q (o::rest) a w :=
 wpList_plain hgd fun _ hK=>Agl hone hsz s x t ho e z bytes ht hinfo hzs v xs F hs hown hd ao ys c hx news Fy hfy hsrc hdis h63 hbytes fun v' w' F' hA=>hK _ _ (h v' w' F' hA)
theorem Amq (hone:W0 E) (hsz:0 < E.sz) {ops:Array Oper} {o:Oper} {a:Act} {K:Act→World→Prop} {Q:Exit→Act→World→Prop} {Z:Prop} {w:World} (hgd:o.guard=none) (s x:Operand) (t:TypeId)
  (ho:o.op=.call { callee:=.builtin .append,args:=#[s,x],argTypes:=#[t,t] }) (e:TypeId) (z:Value) (bytes:Nat) (ht:P.underlying t=some (.slice e))
  (hinfo:(P.info? e).map (fun i=>(i.zero,i.size,i.bytes))=some (some z,E.sz,bytes)) (hzs:z.cells.size=E.sz)
  (v:Value) (xs:List α) (F:List Nat) (hs:a.eval s=v) (hown:Ow E e w v xs F) (hd:Hd F)
  (ao:Option Addr) (ys:List α) (c:Nat) (hx:a.eval x=.slice ao ys.length c) (news:List Value) (Fy:List Nat) (hfy:Cw E w news ys Fy)
  (hsrc:(ao=none∧c=0∧ys=[])∨∃ad,ao=some ad∧∀j u,news[j]?=some u→w.cell? (ad.add j)=some u)
  (hdis:∀b∈Fy,v.ownBlock≠some b) (h63:xs.length+ys.length≤maxLen) (hbytes:(xs.length+ys.length) * bytes≤140737488355328)
  (h:∀v' w' F',Apd E e w v xs ys F Fy v' w' F'→K (a.put o.dst v') w'):if Region.wanted o (yielded ops a.tmps)=true then Oper.wp P o a w K Q else Z:=by
 have hw:Region.wanted o (yielded ops a.tmps)=true:=by simp [Region.wanted,hgd]
 rw [if_pos hw]
 exact Agl hone hsz s x t ho e z bytes ht hinfo hzs v xs F hs hown hd ao ys c hx news Fy hfy hsrc hdis h63 hbytes h
end
theorem Ow.own_mem {α:Type} {E:Bv α} {t w v} {xs:List α} {F} (h:Ow E t w v xs F):∀b,v.ownBlock=some b→b∈F:=fun b hb=>by
 obtain ⟨cs,G,_,_,rfl⟩:=h.owns;simp [hb]
def Ar1 {α:Type} (E:Bv α) (x:α) (w:World) (e:Ending) (w':World):Prop :=
 ∃v F,e=.returned v∧Pt E w' v x F∧(∀b∈F,w.heap.size≤b)∧Below w.heap.size w w'
theorem Pt.weak {α:Type} {O R:Bv α} (h:Me O R) {w v x F} (ho:Pt O w v x F):∃F',(∀b∈F',b∈F)∧Pt R w v x F':=by
 obtain ⟨cs,hv,hx⟩:=ho
 obtain ⟨F',h1,h2⟩:=h.Ka hx
 exact ⟨F',h1,cs,hv,h2⟩
theorem Ow.empty {α:Type} {E:Bv α} {t:TypeId} {w:World} {g:Nat} (h:Hm w g t []):Ow E t w (.slice (some ⟨g,0,none⟩) 0 0) ([]:List α) [g] :=
 .inr ⟨g,0,[],[],[],rfl,by simpa using h,by simp,by simp,by simp,⟨rfl,rfl⟩,rfl⟩
theorem Hd.one (g:Nat):Hd [g]:=fun a G e=>by cases e;simp
theorem Hd.nil:Hd []:=fun a G e=>by cases e
theorem Sl.src {α:Type} {E:Bv α} {w:World} {v:Value} {xs:List α} {F} (h:Sl E w v xs F):∃ao c news Fy,v=.slice ao xs.length c∧xs.length≤maxLen∧Cw E w news xs Fy∧(∀b∈Fy,b∈F) ∧
  ((ao=none∧c=0∧xs=[])∨∃ad,ao=some ad∧∀j u,news[j]?=some u→w.cell? (ad.add j)=some u):=by
 obtain ⟨a,cap,rfl,hl,⟨rfl,rfl,h0⟩|⟨b,off,F',rfl,hne,rfl,hc⟩⟩:=h
 ·refine ⟨a,cap,[],[],rfl,by simp,⟨rfl,rfl⟩,by simp,?_⟩
  cases a with
  | none=>exact .inl ⟨rfl,h0 rfl,rfl⟩
  | some ad=>exact .inr ⟨ad,rfl,fun j u hu=>by simp at hu⟩
 ·obtain ⟨cs,hf,hcs⟩:=hc.flat
  refine ⟨_,cap,cs,F',rfl,by omega,hf,fun b hb=>by simp [hb],.inr ⟨_,rfl,fun j u hu=>?_⟩⟩
  rw [←hcs j u hu]
  unfold Addr.add;split <;> simp_all
theorem Sl.takeS {α:Type} {E:Bv α} {w:World} {a:Option Addr} {n cap:Nat} {xs:List α} {F} (h:Sl E w (.slice a n cap) xs F) (k:Nat) (hk:k≤xs.length):∃F',(∀b∈F',b∈F)∧Sl E w (.slice a k cap) (xs.take k) F':=by
 obtain ⟨a',cap',hv,hl,h⟩:=h
 cases hv
 have hlen:(xs.take k).length=k:=by simp;omega
 rcases h with ⟨rfl,rfl,h0⟩|⟨b,off,F',rfl,hne,rfl,hc⟩
 ·simp at hk;subst hk;exact ⟨[],by simp,a,cap,by simp,⟨by simp,hl.2⟩,.inl ⟨by simp,rfl,h0⟩⟩
 ·by_cases hk0:k=0
  ·subst hk0;exact ⟨[],by simp,some ⟨b,off,none⟩,cap,by simp,⟨by simp,hl.2⟩,.inl ⟨by simp,rfl,fun e=>by cases e⟩⟩
  ·obtain ⟨cs,hf,hcs⟩:=hc.flat
   have e:xs=xs.take k++xs.drop k:=by simp
   rw [e] at hf
   obtain ⟨c1,c2,G1,G2,rfl,rfl,h1,h2⟩:=hf.split
   refine ⟨b::G1,by intro x hx;simp at hx ⊢;rcases hx with hx|hx <;> simp [hx],_,cap,by rw [hlen],by rw [hlen];omega,.inr ⟨b,off,G1,rfl,fun e=>by rw [e] at hlen;simp at hlen;omega,rfl,h1.cells fun j u hu=>hcs j u ?_⟩⟩
   have hj:j < c1.length:=by
    rcases Nat.lt_or_ge j c1.length with h|h
    ·exact h
    ·rw [List.getElem?_eq_none h] at hu;cases hu
   rw [List.getElem?_append_left hj];exact hu
def U1 {α:Type} (E:Bv α):Prop:=∀{w cs x F},E.Ka w cs x F→F=[]
theorem Du:U1 Bd:=fun h=>h.2
theorem Hf:U1 Ba:=fun h=>h.2.2
theorem Cw.scal {α:Type} {E:Bv α} (hE:U1 E) {w:World}:∀{xs:List α} {cs:List Value} {G:List Nat},Cw E w cs xs G→G=[]
 | [],_,_,h=>h.2
 | x::r,_,_,h=>by
  obtain ⟨c1,c2,F1,F2,rfl,rfl,h1,h2⟩:=h
  rw [hE h1,h2.scal hE];rfl
theorem Ow.scal {α:Type} {E:Bv α} (hE:U1 E) {t w v} {xs:List α} {F} (h:Ow E t w v xs F):F=v.ownBlock.toList:=by
 obtain ⟨cs,G,_,hf,rfl⟩:=h.owns
 rw [hf.scal hE,List.append_nil]
def Mix {α:Type} (O R:Bv α) (t:TypeId) (B1 B0:Nat) (w:World) (v:Value) (xs:List α) (k:Nat):Prop :=
 (v=.slice none 0 0∧xs=[])∨∃g cap c1 c2 rest F G,v=.slice (some ⟨g,0,none⟩) xs.length cap∧Hm w g t (c1++c2++rest)∧xs.length≤cap∧cap≤maxLen∧c1.length+c2.length+rest.length=cap * O.sz ∧
  Cw O w c1 (xs.take k) F∧Cw R w c2 (xs.drop k) G∧(g::F).Nodup∧(∀b∈g::F,B0≤b)∧∀b∈G,b < B1
section
variable {α:Type} {O R:Bv α} {t:TypeId} {B1 B0:Nat} {w:World} {v:Value} {xs:List α}
theorem Mix.start (hsz:R.sz=O.sz) {F:List Nat} (h:Ow R t w v xs F) (h1:∀b,v.ownBlock=some b→B0≤b) (h2:∀b∈F,v.ownBlock=some b∨b < B1) (hd:Hd F):Mix O R t B1 B0 w v xs 0:=by
 rcases h with ⟨rfl,rfl,_⟩|⟨g,cap,cs,rest,G,rfl,hr,h3,h4,h5,hf,rfl⟩
 ·exact .inl ⟨rfl,rfl⟩
 ·refine .inr ⟨g,cap,[],cs,rest,[],G,rfl,by simpa using hr,h3,h4,by simpa [←hsz] using h5,⟨rfl,by simp⟩,by simpa using hf,by simp,by simpa using h1 g rfl,fun b hb=>?_⟩
  rcases h2 b (by simp [hb]) with e|e
  ·cases e;exact absurd hb (hd g G rfl)
  ·exact e
theorem Mix.done (h:Mix O R t B1 B0 w v xs xs.length):∃F,Ow O t w v xs F∧F.Nodup∧∀b∈F,B0≤b:=by
 rcases h with ⟨rfl,rfl⟩|⟨g,cap,c1,c2,rest,F,G,rfl,hr,h3,h4,h5,hf,hf2,hn,hb,_⟩
 ·exact ⟨[],.inl ⟨rfl,rfl,rfl⟩,by simp,by simp⟩
 ·have:c2=[]:=by simp at hf2;exact hf2.1
  subst this
  exact ⟨g::F,.inr ⟨g,cap,c1,rest,F,rfl,by simpa using hr,h3,h4,by simpa using h5,by simpa using hf,rfl⟩,hn,hb⟩
theorem Mix.frame {w':World} {k:Nat} (h:Mix O R t B1 B0 w v xs k) (hb:∀b,b < w.heap.size→b < B1∨B0≤b→w'.heap[b]?=w.heap[b]?):Mix O R t B1 B0 w' v xs k:=by
 rcases h with h|⟨g,cap,c1,c2,rest,F,G,hv,hr,h3,h4,h5,hf,hf2,hn,hb1,hb2⟩
 ·exact .inl h
 ·exact .inr ⟨g,cap,c1,c2,rest,F,G,hv,hr.Ky (hb g hr.lt (.inr (hb1 g (by simp)))),h3,h4,h5,hf.frame fun b h=>hb b (hf.lt b h) (.inr (hb1 b (by simp [h]))),hf2.frame fun b h=>hb b (hf2.lt b h) (.inl (hb2 b h)),hn,hb1,hb2⟩
theorem Mix.setFar {k:Nat} (h:Mix O R t B1 B0 w v xs k) {p:Addr} (h1:B1≤p.block) (h2:p.block < B0) (u:Value):Mix O R t B1 B0 (w.setCell p u) v xs k :=
 h.frame fun b _ hb=>Below.heap_setCell _ _ _ _ (by omega)
theorem Mix.below {w':World} {k:Nat} (h:Mix O R t B1 B0 w v xs k) (hb:Below w.heap.size w w'):Mix O R t B1 B0 w' v xs k:=h.frame fun b h _=>hb.block b h
theorem Mix.slice {k:Nat} (h:Mix O R t B1 B0 w v xs k):∃a cap,v=.slice a xs.length cap:=by
 rcases h with ⟨rfl,rfl⟩|⟨g,cap,c1,c2,rest,F,G,rfl,_⟩
 ·exact ⟨none,0,rfl⟩
 ·exact ⟨_,_,rfl⟩
theorem Mix.at {k:Nat} (h:Mix O R t B1 B0 w v xs k) (hsz:R.sz=O.sz) (hk:k < xs.length) (hB:B0≤w.heap.size) (h01:B1≤B0) :
  ∃g cap A c B Fk,v=.slice (some ⟨g,0,none⟩) xs.length cap∧B0≤g∧Hm w g t (A++c++B)∧A.length=k * O.sz∧c.length=O.sz∧R.Ka w c xs[k] Fk∧(∀b∈Fk,b < B1) ∧
   ∀w' c' F',Hm w' g t (A++c'++B)→O.Ka w' c' xs[k] F'→F'.Nodup→(∀b∈F',w.heap.size≤b)→(∀b,b < w.heap.size→b≠g→w'.heap[b]?=w.heap[b]?)→Mix O R t B1 B0 w' v xs (k+1):=by
 rcases h with ⟨_,rfl⟩|⟨g,cap,c1,c2,rest,F,G,rfl,hr,h3,h4,h5,hf,hf2,hn,hb1,hb2⟩
 ·simp at hk
 ·rw [List.drop_eq_getElem_cons hk] at hf2
  obtain ⟨c,c3,G1,G2,rfl,rfl,h6,h7⟩:=hf2
  have hc1:c1.length=k * O.sz:=by rw [hf.len,List.length_take,Nat.min_eq_left (by omega)]
  have hlc:=R.len h6
  refine ⟨g,cap,c1,c,c3++rest,G1,rfl,hb1 g (by simp),by simpa using hr,hc1,by rw [←hsz];exact hlc,h6,fun b hb=>hb2 b (by simp [hb]),fun w' c' F' hr' h8 hn' hF' hk'=>?_⟩
  have hlc':=O.len h8
  have hne:∀b∈F++G2,b < w.heap.size∧b≠g:=fun b hb=>by
   rcases List.mem_append.1 hb with hb|hb
   ·refine ⟨hf.lt b hb,fun e=>?_⟩
    subst e;simp at hn;exact hn.1 hb
   ·have:=hb2 b (by simp [hb]);have:=hb1 g (by simp);exact ⟨by omega,by omega⟩
  refine .inr ⟨g,cap,c1++c',c3,rest,F++F',G2,rfl,by simpa using hr',h3,h4,?_,?_,?_,?_,?_,fun b hb=>hb2 b (by simp [hb])⟩
  ·simp only [List.length_append] at h5 ⊢;omega
  ·rw [List.take_succ_eq_append_getElem hk]
   exact (hf.frame fun b hb=>hk' b (hne b (by simp [hb])).1 (hne b (by simp [hb])).2).append (Cw.one h8)
  ·exact h7.frame fun b hb=>hk' b (hne b (by simp [hb])).1 (hne b (by simp [hb])).2
  ·have hg:=hr.lt
   simp only [List.nodup_cons,List.mem_append,not_or,List.nodup_append] at hn ⊢
   exact ⟨⟨hn.1,fun hm=>by have:=hF' g hm;omega⟩,hn.2,hn',fun a ha b hb e=>by have:=hf.lt a ha;have:=hF' b hb;omega⟩
  ·intro b hb
   simp at hb
   rcases hb with rfl|hb|hb
   ·exact hb1 b (by simp)
   ·exact hb1 b (by simp [hb])
   ·have:=hF' b hb;omega
end
def Ig (lo x hi:Int):Bool:=decide (lo≤x) && decide (x≤hi)
theorem Cn {a b:Bool} (h:a=b):Ending.returned (.bool a)=.returned (.bool b):=by rw [h]
theorem Anx (s:ByteArray) (k:Nat) (h:k < s.size):s.data.toList.drop k=s[k]::s.data.toList.drop (k+1):=by
 rw [List.drop_eq_getElem_cons (by simpa using h)];rfl
theorem Aku (s:ByteArray) (k:Nat) (h:¬k < s.size):s.data.toList.drop k=[]:=List.drop_of_length_le (by simp;omega)
theorem Ie (x lo hi:Int) (w:World) :
  Calls prog 97 #[.int .i64 x,.int .i64 lo,.int .i64 hi] w fun e w'=>e=.returned (.bool (Ig lo x hi))∧w=w':=by
 go_enter func97,ntmps97
 go_wp2
 all_goals go_ret
 all_goals exact ⟨Cn (by simp [Ig, *] <;> omega),rfl⟩
theorem Kg (x lo hi:Int) (w:World) :
  Calls prog 87 #[.int .i64 x,.int .i64 lo,.int .i64 hi] w fun e w'=>e=.returned (.bool (Ig lo x hi))∧w=w':=by
 go_enter func87,ntmps87
 go_wp2
 all_goals go_ret
 all_goals exact ⟨Cn (by simp [Ig, *] <;> omega),rfl⟩
def Atf (c:UInt8) (l:List UInt8):Bool:=l.any (· == c)
theorem L4 {a b:Int} (h:a=b):Ending.returned (.int .i64 a)=.returned (.int .i64 b):=by rw [h]
theorem Ad1:(prog.info? 3).map (fun i=>(i.zero,i.size,i.bytes))=some (some (.int .i64 0),1,8):=by kernel_rfl
theorem Sl.int {w:World} {a:Option Addr} {n cap:Nat} {xs:List Int} {F} (h:Sl Bd w (.slice a n cap) xs F):n=xs.length∧n≤maxLen ∧
  ∀k (hk:k < xs.length),∃b off,a=some ⟨b,off,none⟩∧w.cell? ⟨b,off+k,none⟩=some (.int .i64 xs[k]):=by
 obtain ⟨a',cap',hv,hl,h⟩:=h
 cases hv
 refine ⟨rfl,by omega,fun k hk=>?_⟩
 rcases h with ⟨rfl,_⟩|⟨b,off,F',rfl,_,_,hc⟩
 ·simp at hk
 ·obtain ⟨cs,F1,⟨rfl,_⟩,hj,_⟩:=hc.get k hk
  exact ⟨b,off,rfl,by simpa [Bd] using hj 0 (by decide)⟩
structure Nl where
 Ac:List Int
def Pd:Bv Nl where
 sz:=1
 Ka w cs x F:=∃v1,cs=[v1]∧Sl Bd w v1 x.Ac F
 len h:=by obtain ⟨v1,rfl,h1⟩:=h;rfl
 lt h:=by obtain ⟨v1,rfl,h1⟩:=h;exact h1.lt (by decide)
 frame h hF:=by obtain ⟨v1,rfl,h1⟩:=h;exact ⟨v1,rfl,h1.frame hF⟩
theorem Ad2:(prog.info? 9).map (fun i=>(i.zero,i.size,i.bytes))=some (some (.string ⟨#[]⟩),1,16):=by kernel_rfl
theorem Sl.str {w:World} {a:Option Addr} {n cap:Nat} {xs:List ByteArray} {F} (h:Sl Ba w (.slice a n cap) xs F):n=xs.length∧n≤maxLen ∧
  ∀k (hk:k < xs.length),xs[k].size≤maxLen∧∃b off,a=some ⟨b,off,none⟩∧w.cell? ⟨b,off+k,none⟩=some (.string xs[k]):=by
 obtain ⟨a',cap',hv,hl,h⟩:=h
 cases hv
 refine ⟨rfl,by omega,fun k hk=>?_⟩
 rcases h with ⟨rfl,_⟩|⟨b,off,F',rfl,_,_,hc⟩
 ·simp at hk
 ·obtain ⟨cs,F1,⟨rfl,hs,_⟩,hj,_⟩:=hc.get k hk
  exact ⟨hs,b,off,rfl,by simpa [Ba] using hj 0 (by decide)⟩
structure Az where
 Al:Int
 size:Int
 Aj:List ByteArray
def Bx:Bv Az where
 sz:=3
 Ka w cs x F:=∃v1,cs=[.int .i64 x.Al,.int .i64 x.size,v1]∧Sl Ba w v1 x.Aj F
 len h:=by obtain ⟨v1,rfl,h1⟩:=h;rfl
 lt h:=by obtain ⟨v1,rfl,h1⟩:=h;exact h1.lt (by decide)
 frame h hF:=by obtain ⟨v1,rfl,h1⟩:=h;exact ⟨v1,rfl,h1.frame hF⟩
def N2:Bv Az where
 sz:=3
 Ka w cs x F:=∃v1,cs=[.int .i64 x.Al,.int .i64 x.size,v1]∧Ow Ba 9 w v1 x.Aj F
 len h:=by obtain ⟨v1,rfl,h1⟩:=h;rfl
 lt h:=by obtain ⟨v1,rfl,h1⟩:=h;exact h1.lt
 frame h hF:=by obtain ⟨v1,rfl,h1⟩:=h;exact ⟨v1,rfl,h1.frame hF⟩
structure Gt where
 Ae:Int
 Ca:Int
def Bj:Bv Gt where
 sz:=2
 Ka _ cs x F:=cs=[.int .i64 x.Ae,.int .i64 x.Ca]∧F=[]
 len h:=by obtain ⟨rfl,rfl⟩:=h;rfl
 lt h:=by obtain ⟨rfl,rfl⟩:=h;simp
 frame h _:=h
theorem Hx:W0 Bj:=fun h u hu=>by
 obtain ⟨rfl,rfl⟩:=h
 simp only [List.mem_cons,List.not_mem_nil,or_false] at hu
 rcases hu with rfl|rfl
 ·rfl
 ·rfl
theorem Jl:U1 Bj:=fun h=>by obtain ⟨rfl,rfl⟩:=h;rfl
theorem Aa4:(prog.info? 134).map (fun i=>(i.zero,i.size,i.bytes))=some (some (.agg #[.int .i64 0,.int .i64 0]),2,16):=by kernel_rfl
structure Cj where
 Aa:Az
 Ai:Int
 quiet:Int
 holds:List Gt
def Dm:Bv Cj where
 sz:=6
 Ka w cs x F:=∃v1 v2 F1 F2,cs=[.int .i64 x.Aa.Al,.int .i64 x.Aa.size,v1,.int .i64 x.Ai,.int .i64 x.quiet,v2]∧Sl Ba w v1 x.Aa.Aj F1∧Sl Bj w v2 x.holds F2∧F=F1++F2
 len h:=by obtain ⟨v1,v2,F1,F2,rfl,h1,h2,rfl⟩:=h;rfl
 lt h:=by
  obtain ⟨v1,v2,F1,F2,rfl,h1,h2,rfl⟩:=h
  intro b hb
  simp only [List.mem_append] at hb
  rcases hb with hb|hb
  ·exact h1.lt (by decide) b hb
  ·exact h2.lt (by decide) b hb
 frame h hF:=by obtain ⟨v1,v2,F1,F2,rfl,h1,h2,rfl⟩:=h;exact ⟨v1,v2,F1,F2,rfl,h1.frame fun b hb=>hF b (by simp [hb]),h2.frame fun b hb=>hF b (by simp [hb]),rfl⟩
def Ta:Bv Cj where
 sz:=6
 Ka w cs x F:=∃v1 v2 F1 F2,cs=[.int .i64 x.Aa.Al,.int .i64 x.Aa.size,v1,.int .i64 x.Ai,.int .i64 x.quiet,v2]∧Ow Ba 9 w v1 x.Aa.Aj F1∧Ow Bj 134 w v2 x.holds F2∧F=F1++F2
 len h:=by obtain ⟨v1,v2,F1,F2,rfl,h1,h2,rfl⟩:=h;rfl
 lt h:=by
  obtain ⟨v1,v2,F1,F2,rfl,h1,h2,rfl⟩:=h
  intro b hb
  simp only [List.mem_append] at hb
  rcases hb with hb|hb
  ·exact h1.lt b hb
  ·exact h2.lt b hb
 frame h hF:=by obtain ⟨v1,v2,F1,F2,rfl,h1,h2,rfl⟩:=h;exact ⟨v1,v2,F1,F2,rfl,h1.frame fun b hb=>hF b (by simp [hb]),h2.frame fun b hb=>hF b (by simp [hb]),rfl⟩
structure Fb where
 Ae:Int
 Bi:List Int
 Ca:Int
def Da:Bv Fb where
 sz:=3
 Ka w cs x F:=∃v1,cs=[.int .i64 x.Ae,v1,.int .i64 x.Ca]∧Sl Bd w v1 x.Bi F
 len h:=by obtain ⟨v1,rfl,h1⟩:=h;rfl
 lt h:=by obtain ⟨v1,rfl,h1⟩:=h;exact h1.lt (by decide)
 frame h hF:=by obtain ⟨v1,rfl,h1⟩:=h;exact ⟨v1,rfl,h1.frame hF⟩
theorem Ri:W0 Da:=fun h u hu=>by
 obtain ⟨v1,rfl,h1⟩:=h
 simp only [List.mem_cons,List.not_mem_nil,or_false] at hu
 rcases hu with rfl|rfl|rfl
 ·rfl
 ·exact h1.one
 ·rfl
theorem Uc:(prog.info? 136).map (fun i=>(i.zero,i.size,i.bytes))=some (some (.agg #[.int .i64 0,.slice none 0 0,.int .i64 0]),3,40):=by kernel_rfl
def Ee:Bv Fb where
 sz:=3
 Ka w cs x F:=∃v1,cs=[.int .i64 x.Ae,v1,.int .i64 x.Ca]∧Ow Bd 3 w v1 x.Bi F
 len h:=by obtain ⟨v1,rfl,h1⟩:=h;rfl
 lt h:=by obtain ⟨v1,rfl,h1⟩:=h;exact h1.lt
 frame h hF:=by obtain ⟨v1,rfl,h1⟩:=h;exact ⟨v1,rfl,h1.frame hF⟩
theorem Pm:W0 Ee:=fun h u hu=>by
 obtain ⟨v1,rfl,h1⟩:=h
 simp only [List.mem_cons,List.not_mem_nil,or_false] at hu
 rcases hu with rfl|rfl|rfl
 ·rfl
 ·exact h1.one
 ·rfl
theorem Nw:Me Ee Da:=⟨rfl,fun h=>by
 obtain ⟨v1,rfl,h1⟩:=h
 obtain ⟨G1,g1,k1⟩:=h1.sl (Me.refl _)
 exact ⟨G1,g1,v1,rfl,k1⟩⟩
structure Bl where
 Ai:Int
 Ah:List Fb
def Bn:Bv Bl where
 sz:=2
 Ka w cs x F:=∃v1,cs=[.int .i64 x.Ai,v1]∧Sl Da w v1 x.Ah F
 len h:=by obtain ⟨v1,rfl,h1⟩:=h;rfl
 lt h:=by obtain ⟨v1,rfl,h1⟩:=h;exact h1.lt (by decide)
 frame h hF:=by obtain ⟨v1,rfl,h1⟩:=h;exact ⟨v1,rfl,h1.frame hF⟩
theorem Acn:W0 Bn:=fun h u hu=>by
 obtain ⟨v1,rfl,h1⟩:=h
 simp only [List.mem_cons,List.not_mem_nil,or_false] at hu
 rcases hu with rfl|rfl
 ·rfl
 ·exact h1.one
def Bt:Bv Bl where
 sz:=2
 Ka w cs x F:=∃v1,cs=[.int .i64 x.Ai,v1]∧Ow Ee 136 w v1 x.Ah F
 len h:=by obtain ⟨v1,rfl,h1⟩:=h;rfl
 lt h:=by obtain ⟨v1,rfl,h1⟩:=h;exact h1.lt
 frame h hF:=by obtain ⟨v1,rfl,h1⟩:=h;exact ⟨v1,rfl,h1.frame hF⟩
theorem Rj:W0 Bt:=fun h u hu=>by
 obtain ⟨v1,rfl,h1⟩:=h
 simp only [List.mem_cons,List.not_mem_nil,or_false] at hu
 rcases hu with rfl|rfl
 ·rfl
 ·exact h1.one
theorem Jj:Me Bt Bn:=⟨rfl,fun h=>by
 obtain ⟨v1,rfl,h1⟩:=h
 obtain ⟨G1,g1,k1⟩:=h1.sl Nw
 exact ⟨G1,g1,v1,rfl,k1⟩⟩
structure Hq where
 Te:Bool
 Dt:ByteArray
def Ci:Bv Hq where
 sz:=2
 Ka _ cs x F:=cs=[.bool x.Te,.string x.Dt]∧x.Dt.size≤maxLen∧F=[]
 len h:=by obtain ⟨rfl,s1,rfl⟩:=h;rfl
 lt h:=by obtain ⟨rfl,s1,rfl⟩:=h;simp
 frame h _:=h
theorem Hc:W0 Ci:=fun h u hu=>by
 obtain ⟨rfl,s1,rfl⟩:=h
 simp only [List.mem_cons,List.not_mem_nil,or_false] at hu
 rcases hu with rfl|rfl
 ·rfl
 ·rfl
theorem Gc:U1 Ci:=fun h=>by obtain ⟨rfl,s1,rfl⟩:=h;rfl
theorem Aii:(prog.info? 188).map (fun i=>(i.zero,i.size,i.bytes))=some (some (.agg #[.bool false,.string ⟨#[]⟩]),2,24):=by kernel_rfl
structure An where
 next:Int
 Ao:List Hq
def Bo:Bv An where
 sz:=2
 Ka w cs x F:=∃v1,cs=[.int .i64 x.next,v1]∧Sl Ci w v1 x.Ao F
 len h:=by obtain ⟨v1,rfl,h1⟩:=h;rfl
 lt h:=by obtain ⟨v1,rfl,h1⟩:=h;exact h1.lt (by decide)
 frame h hF:=by obtain ⟨v1,rfl,h1⟩:=h;exact ⟨v1,rfl,h1.frame hF⟩
structure A4 where
 Ae:Int
 Gj:Int
 Ca:Int
 Dn:Int
def Ay:Bv A4 where
 sz:=4
 Ka _ cs x F:=cs=[.int .i64 x.Ae,.int .i64 x.Gj,.int .i64 x.Ca,.int .i64 x.Dn]∧F=[]
 len h:=by obtain ⟨rfl,rfl⟩:=h;rfl
 lt h:=by obtain ⟨rfl,rfl⟩:=h;simp
 frame h _:=h
theorem C2:W0 Ay:=fun h u hu=>by
 obtain ⟨rfl,rfl⟩:=h
 simp only [List.mem_cons,List.not_mem_nil,or_false] at hu
 rcases hu with rfl|rfl|rfl|rfl
 ·rfl
 ·rfl
 ·rfl
 ·rfl
theorem Ds:U1 Ay:=fun h=>by obtain ⟨rfl,rfl⟩:=h;rfl
structure Bb where
 Bh:Bool
 Ai:Int
 Aa:An
 Ar:List A4
def B4:Bv Bb where
 sz:=5
 Ka w cs x F:=∃v1 v2 F1 F2,cs=[.bool x.Bh,.int .i64 x.Ai,.int .i64 x.Aa.next,v1,v2]∧Sl Ci w v1 x.Aa.Ao F1∧Sl Ay w v2 x.Ar F2∧F=F1++F2
 len h:=by obtain ⟨v1,v2,F1,F2,rfl,h1,h2,rfl⟩:=h;rfl
 lt h:=by
  obtain ⟨v1,v2,F1,F2,rfl,h1,h2,rfl⟩:=h
  intro b hb
  simp only [List.mem_append] at hb
  rcases hb with hb|hb
  ·exact h1.lt (by decide) b hb
  ·exact h2.lt (by decide) b hb
 frame h hF:=by obtain ⟨v1,v2,F1,F2,rfl,h1,h2,rfl⟩:=h;exact ⟨v1,v2,F1,F2,rfl,h1.frame fun b hb=>hF b (by simp [hb]),h2.frame fun b hb=>hF b (by simp [hb]),rfl⟩
def Bk:Bv Bb where
 sz:=5
 Ka w cs x F:=∃v1 v2 F1 F2,cs=[.bool x.Bh,.int .i64 x.Ai,.int .i64 x.Aa.next,v1,v2]∧Ow Ci 188 w v1 x.Aa.Ao F1∧Ow Ay 165 w v2 x.Ar F2∧F=F1++F2
 len h:=by obtain ⟨v1,v2,F1,F2,rfl,h1,h2,rfl⟩:=h;rfl
 lt h:=by
  obtain ⟨v1,v2,F1,F2,rfl,h1,h2,rfl⟩:=h
  intro b hb
  simp only [List.mem_append] at hb
  rcases hb with hb|hb
  ·exact h1.lt b hb
  ·exact h2.lt b hb
 frame h hF:=by obtain ⟨v1,v2,F1,F2,rfl,h1,h2,rfl⟩:=h;exact ⟨v1,v2,F1,F2,rfl,h1.frame fun b hb=>hF b (by simp [hb]),h2.frame fun b hb=>hF b (by simp [hb]),rfl⟩
theorem Qb:W0 Bk:=fun h u hu=>by
 obtain ⟨v1,v2,F1,F2,rfl,h1,h2,rfl⟩:=h
 simp only [List.mem_cons,List.not_mem_nil,or_false] at hu
 rcases hu with rfl|rfl|rfl|rfl|rfl
 ·rfl
 ·rfl
 ·rfl
 ·exact h1.one
 ·exact h2.one
theorem Qd:Me Bk B4:=⟨rfl,fun h=>by
 obtain ⟨v1,v2,F1,F2,rfl,h1,h2,rfl⟩:=h
 obtain ⟨G1,g1,k1⟩:=h1.sl (Me.refl _)
 obtain ⟨G2,g2,k2⟩:=h2.sl (Me.refl _)
 refine ⟨G1++G2,?_,v1,v2,G1,G2,rfl,k1,k2,rfl⟩
 intro b hb
 simp only [List.mem_append] at hb ⊢
 rcases hb with hb|hb
 ·simp [g1 b hb]
 ·simp [g2 b hb]⟩
structure Av where
 Df:Int
 Ae:Int
 Al:Int
 Ec:Int
 data:ByteArray
def Ak:Bv Av where
 sz:=5
 Ka _ cs x F:=cs=[.int .i64 x.Df,.int .i64 x.Ae,.int .i64 x.Al,.int .i64 x.Ec,.string x.data]∧x.data.size≤maxLen∧F=[]
 len h:=by obtain ⟨rfl,s1,rfl⟩:=h;rfl
 lt h:=by obtain ⟨rfl,s1,rfl⟩:=h;simp
 frame h _:=h
theorem Hk:W0 Ak:=fun h u hu=>by
 obtain ⟨rfl,s1,rfl⟩:=h
 simp only [List.mem_cons,List.not_mem_nil,or_false] at hu
 rcases hu with rfl|rfl|rfl|rfl|rfl
 ·rfl
 ·rfl
 ·rfl
 ·rfl
 ·rfl
theorem Jh:U1 Ak:=fun h=>by obtain ⟨rfl,s1,rfl⟩:=h;rfl
end Go.Proofs.YtaemjogbahcbcaaGreatDoor
namespace Go.Proofs.YtaemjogbahcbcaaGreatDoor

open Go.RowKit
end Go.Proofs.YtaemjogbahcbcaaGreatDoor
namespace Go.Proofs.YtaemjogbahcbcaaGreatDoor
open Go.RowKit
structure D9 where
 Am:Nl
 Ab:Cj
 Af:List Bl
 Ad:List Bb
 down:List (List Av)
 up:List (List Av)
def Le:Bv D9 where
 sz:=11
 Ka w cs x F:=∃v1 v2 v3 v4 v5 v6 v7 F1 F2 F3 F4 F5 F6 F7,cs=[v1,.int .i64 x.Ab.Aa.Al,.int .i64 x.Ab.Aa.size,v2,.int .i64 x.Ab.Ai,.int .i64 x.Ab.quiet,v3,v4,v5,v6,v7]∧Sl Bd w v1 x.Am.Ac F1∧Sl Ba w v2 x.Ab.Aa.Aj F2∧Sl Bj w v3 x.Ab.holds F3∧Sl Bn w v4 x.Af F4∧Sl B4 w v5 x.Ad F5∧Sl (Md Ak (by decide)) w v6 x.down F6∧Sl (Md Ak (by decide)) w v7 x.up F7∧F=F1++F2++F3++F4++F5++F6++F7
 len h:=by obtain ⟨v1,v2,v3,v4,v5,v6,v7,F1,F2,F3,F4,F5,F6,F7,rfl,h1,h2,h3,h4,h5,h6,h7,rfl⟩:=h;rfl
 lt h:=by
  obtain ⟨v1,v2,v3,v4,v5,v6,v7,F1,F2,F3,F4,F5,F6,F7,rfl,h1,h2,h3,h4,h5,h6,h7,rfl⟩:=h
  intro b hb
  simp only [List.mem_append] at hb
  rcases hb with (((((hb|hb)|hb)|hb)|hb)|hb)|hb
  ·exact h1.lt (by decide) b hb
  ·exact h2.lt (by decide) b hb
  ·exact h3.lt (by decide) b hb
  ·exact h4.lt (by decide) b hb
  ·exact h5.lt (by decide) b hb
  ·exact h6.lt (by decide) b hb
  ·exact h7.lt (by decide) b hb
 frame h hF:=by obtain ⟨v1,v2,v3,v4,v5,v6,v7,F1,F2,F3,F4,F5,F6,F7,rfl,h1,h2,h3,h4,h5,h6,h7,rfl⟩:=h;exact ⟨v1,v2,v3,v4,v5,v6,v7,F1,F2,F3,F4,F5,F6,F7,rfl,h1.frame fun b hb=>hF b (by simp [hb]),h2.frame fun b hb=>hF b (by simp [hb]),h3.frame fun b hb=>hF b (by simp [hb]),h4.frame fun b hb=>hF b (by simp [hb]),h5.frame fun b hb=>hF b (by simp [hb]),h6.frame fun b hb=>hF b (by simp [hb]),h7.frame fun b hb=>hF b (by simp [hb]),rfl⟩
def Aab:Bv D9 where
 sz:=11
 Ka w cs x F:=∃v1 v2 v3 v4 v5 v6 v7 F1 F2 F3 F4 F5 F6 F7,cs=[v1,.int .i64 x.Ab.Aa.Al,.int .i64 x.Ab.Aa.size,v2,.int .i64 x.Ab.Ai,.int .i64 x.Ab.quiet,v3,v4,v5,v6,v7]∧Ow Bd 3 w v1 x.Am.Ac F1∧Ow Ba 9 w v2 x.Ab.Aa.Aj F2∧Ow Bj 134 w v3 x.Ab.holds F3∧Ow Bt 77 w v4 x.Af F4∧Ow Bk 84 w v5 x.Ad F5∧Ow (Hi Ak 110) 86 w v6 x.down F6∧Ow (Hi Ak 110) 86 w v7 x.up F7∧F=F1++F2++F3++F4++F5++F6++F7
 len h:=by obtain ⟨v1,v2,v3,v4,v5,v6,v7,F1,F2,F3,F4,F5,F6,F7,rfl,h1,h2,h3,h4,h5,h6,h7,rfl⟩:=h;rfl
 lt h:=by
  obtain ⟨v1,v2,v3,v4,v5,v6,v7,F1,F2,F3,F4,F5,F6,F7,rfl,h1,h2,h3,h4,h5,h6,h7,rfl⟩:=h
  intro b hb
  simp only [List.mem_append] at hb
  rcases hb with (((((hb|hb)|hb)|hb)|hb)|hb)|hb
  ·exact h1.lt b hb
  ·exact h2.lt b hb
  ·exact h3.lt b hb
  ·exact h4.lt b hb
  ·exact h5.lt b hb
  ·exact h6.lt b hb
  ·exact h7.lt b hb
 frame h hF:=by obtain ⟨v1,v2,v3,v4,v5,v6,v7,F1,F2,F3,F4,F5,F6,F7,rfl,h1,h2,h3,h4,h5,h6,h7,rfl⟩:=h;exact ⟨v1,v2,v3,v4,v5,v6,v7,F1,F2,F3,F4,F5,F6,F7,rfl,h1.frame fun b hb=>hF b (by simp [hb]),h2.frame fun b hb=>hF b (by simp [hb]),h3.frame fun b hb=>hF b (by simp [hb]),h4.frame fun b hb=>hF b (by simp [hb]),h5.frame fun b hb=>hF b (by simp [hb]),h6.frame fun b hb=>hF b (by simp [hb]),h7.frame fun b hb=>hF b (by simp [hb]),rfl⟩
theorem S0:Me Aab Le:=⟨rfl,fun h=>by
 obtain ⟨v1,v2,v3,v4,v5,v6,v7,F1,F2,F3,F4,F5,F6,F7,rfl,h1,h2,h3,h4,h5,h6,h7,rfl⟩:=h
 obtain ⟨G1,g1,k1⟩:=h1.sl (Me.refl _)
 obtain ⟨G2,g2,k2⟩:=h2.sl (Me.refl _)
 obtain ⟨G3,g3,k3⟩:=h3.sl (Me.refl _)
 obtain ⟨G4,g4,k4⟩:=h4.sl Jj
 obtain ⟨G5,g5,k5⟩:=h5.sl Qd
 obtain ⟨G6,g6,k6⟩:=h6.sl (Pq (Me.refl _) (by decide) _)
 obtain ⟨G7,g7,k7⟩:=h7.sl (Pq (Me.refl _) (by decide) _)
 refine ⟨G1++G2++G3++G4++G5++G6++G7,?_,v1,v2,v3,v4,v5,v6,v7,G1,G2,G3,G4,G5,G6,G7,rfl,k1,k2,k3,k4,k5,k6,k7,rfl⟩
 intro b hb
 simp only [List.mem_append] at hb ⊢
 rcases hb with (((((hb|hb)|hb)|hb)|hb)|hb)|hb
 ·simp [g1 b hb]
 ·simp [g2 b hb]
 ·simp [g3 b hb]
 ·simp [g4 b hb]
 ·simp [g5 b hb]
 ·simp [g6 b hb]
 ·simp [g7 b hb]⟩
-- markNet: a nested struct with several slices is not written here
def Xp (l:List Int) (i:Nat):Bool:=match l[i]? with
 | some p=>if i=0 then decide (p=-1) else Ig 0 p ((i:Int) - 1)
 | none=>true
def Er (t:Nl):Bool:=Ig 2 (t.Ac.length:Int) 8 && My (Xp t.Ac) t.Ac.length
theorem Nq {l:List Int} (h:0 < l.length):Xp l 0=decide (l[0]=-1):=by unfold Xp;rw [List.getElem?_eq_getElem h];rfl
theorem O8 {l:List Int} {i:Nat} (h:i < l.length) (h0:0 < i):Xp l i=Ig 0 l[i] ((i:Int) - 1):=by
 unfold Xp;rw [List.getElem?_eq_getElem h]
 show (if i=0 then _ else _)=_
 rw [if_neg (by omega)]
structure Ml (l:List Int):Prop where
 n0:2≤l.length
 n1:l.length≤8
 z:∀h:0 < l.length,l[0]=-1
 p:∀i (h:i < l.length),0 < i→0≤l[i]∧l[i] < i
theorem Ff {t:Nl} (h:Er t=true):Ml t.Ac:=by
 unfold Er at h
 rw [Bool.and_eq_true] at h
 obtain ⟨h1,h2⟩:=h
 unfold Ig at h1
 simp only [Bool.and_eq_true,decide_eq_true_eq] at h1
 refine ⟨by omega,by omega,fun h=>?_,fun i h h0=>?_⟩
 ·have:=Ib h2 0 h
  rw [Nq h] at this
  exact of_decide_eq_true this
 ·have:=Ib h2 i h
  rw [O8 h h0] at this
  unfold Ig at this
  simp only [Bool.and_eq_true,decide_eq_true_eq] at this
  omega
theorem Ah8 {t:Nl} (h:Ig 2 (t.Ac.length:Int) 8=false):Er t=false:=by unfold Er;rw [h];rfl
theorem U9 {t:Nl} {i:Nat} (hi:i < t.Ac.length) (h:Xp t.Ac i=false):Er t=false:=by unfold Er;rw [Kd hi h,Bool.and_false]
def Io (l:List Int) (node:Int) (k:Nat):List Int:=((List.range k).filter fun i=>decide (l[i]?=some node)).map fun (i:Nat)=>((i:Nat):Int)
def Gs (l:List Int) (node:Int):List Int:=Io l node l.length
theorem Afs {l:List Int} {node:Int} {k:Nat} (h:k < l.length) (e:l[k]=node):Io l node (k+1)=Io l node k++[(k:Int)]:=by
 unfold Io
 rw [List.range_succ,List.filter_append,List.map_append]
 simp [List.getElem?_eq_getElem h,e]
theorem Aim {l:List Int} {node:Int} {k:Nat} (h:k < l.length) (e:¬l[k]=node):Io l node (k+1)=Io l node k:=by
 unfold Io
 rw [List.range_succ,List.filter_append,List.map_append]
 simp [List.getElem?_eq_getElem h,e]
theorem Y5 (l:List Int) (node:Int) (k:Nat):(Io l node k).length≤k:=by
 unfold Io
 rw [List.length_map]
 exact Nat.le_trans (List.length_filter_le _ _) (by simp)
theorem Ad7 {l:List Int} {node x:Int} (h:x∈Gs l node):∃i,∃hi:i < l.length,x=(i:Int)∧l[i]=node:=by
 unfold Gs Io at h
 obtain ⟨i,hi,rfl⟩:=List.mem_map.1 h
 obtain ⟨h1,h2⟩:=List.mem_filter.1 hi
 have h3:=List.mem_range.1 h1
 have h4:=of_decide_eq_true h2
 rw [List.getElem?_eq_getElem h3] at h4
 exact ⟨i,h3,rfl,Option.some.inj h4⟩
def Ev (l:List Int) (node:Int):Bool:=!decide (node∈l)
theorem Ai0 (l:List Int) (node:Int):Ev l node=decide (Gs l node=[]):=by
 unfold Ev
 by_cases h:node∈l
 ·obtain ⟨i,hi,rfl⟩:=List.getElem_of_mem h
  have:(i:Int)∈Gs l l[i]:=by
   unfold Gs Io
   exact List.mem_map.2 ⟨i,List.mem_filter.2 ⟨List.mem_range.2 hi,by simp [List.getElem?_eq_getElem hi]⟩,rfl⟩
  rw [decide_eq_true h,decide_eq_false fun e=>by rw [e] at this;cases this];rfl
 ·have:Gs l node=[]:=List.eq_nil_iff_forall_not_mem.2 fun x hx=>by
   obtain ⟨i,hi, -,e⟩:=Ad7 hx
   exact h (e▸List.getElem_mem hi)
  rw [decide_eq_false h,decide_eq_true this];rfl
def Pz (l:List Int) (node:Int) (k:Nat):List Int:=((List.range k).filter fun i=>decide (l[i+1]?=some node)).map fun (i:Nat)=>((i+1:Nat):Int)
theorem Xh (l:List Int) (node:Int) (k:Nat):Io l node (k+1)=Io l node k++if l[k]?=some node then [(k:Int)] else []:=by
 unfold Io
 rw [List.range_succ,List.filter_append,List.map_append]
 split <;> simp_all
theorem Uf (l:List Int) (node:Int) (k:Nat):Pz l node (k+1)=Pz l node k++if l[k+1]?=some node then [((k+1:Nat):Int)] else []:=by
 unfold Pz
 rw [List.range_succ,List.filter_append,List.map_append]
 split <;> simp_all
theorem Ad6 {l:List Int} {node:Int} (hz:Io l node 1=[]):∀k,Io l node (k+1)=Pz l node k
 | 0=>by rw [hz];rfl
 | k+1=>by rw [Xh,Ad6 hz k,Uf]
theorem Aa7 {l:List Int} {node:Int} (hz:Io l node 1=[]) {k:Nat} (hk:k+1=l.length):Pz l node k=Gs l node:=by
 rw [←Ad6 hz];unfold Gs;rw [hk]
theorem Ail {l:List Int} {node:Int} {k:Nat} (h:k+1 < l.length) (e:l[k+1]=node):Pz l node (k+1)=Pz l node k++[((k+1:Nat):Int)]:=by
 rw [Uf,List.getElem?_eq_getElem h,e,if_pos rfl]
theorem Alb {l:List Int} {node:Int} {k:Nat} (h:k+1 < l.length) (e:¬l[k+1]=node):Pz l node (k+1)=Pz l node k:=by
 rw [Uf,List.getElem?_eq_getElem h,if_neg (by simpa using e),List.append_nil]
theorem Aa8 (l:List Int) (node:Int) (k:Nat):(Pz l node k).length≤k:=by
 unfold Pz
 rw [List.length_map]
 exact Nat.le_trans (List.length_filter_le _ _) (by simp)
theorem O5 {l:List Int} {node:Int} (hz:∀h:0 < l.length,l[0]=-1) (h:0≤node):Io l node 1=[]:=by
 rw [Xh]
 by_cases h0:0 < l.length
 ·have:=hz h0
  rw [List.getElem?_eq_getElem h0,if_neg (by simp;omega)];rfl
 ·rw [List.getElem?_eq_none (by omega)];rfl
def B9 (x:Int):Bool:=Ig 0 x 65535
def Iy (x:Int):Bool:=Ig 0 x 9999
def Pi (x:Int):Bool:=Ig 1 x 7
theorem Ih (x:Int) (w:World):Calls prog 100 #[.int .i64 x] w fun e w'=>e=.returned (.bool (B9 x))∧w=w':=by
 go_enter func100,ntmps100
 go_wp2_with (go_at_call 97;refine (Ie _ _ _ _).mono ?_;rintro e w' ⟨rfl,rfl⟩)
 go_ret
 exact ⟨rfl,rfl⟩
theorem Lp (x:Int) (w:World):Calls prog 151 #[.int .i64 x] w fun e w'=>e=.returned (.bool (B9 x))∧w=w':=by
 go_enter func151,ntmps151
 go_wp2_with (go_at_call 87;refine (Kg _ _ _ _).mono ?_;rintro e w' ⟨rfl,rfl⟩)
 go_ret
 exact ⟨rfl,rfl⟩
theorem O3 (x:Int) (w:World):Calls prog 99 #[.int .i64 x] w fun e w'=>e=.returned (.bool (Iy x))∧w=w':=by
 go_enter func99,ntmps99
 go_wp2_with (go_at_call 97;refine (Ie _ _ _ _).mono ?_;rintro e w' ⟨rfl,rfl⟩)
 go_ret
 exact ⟨rfl,rfl⟩
theorem Pj (x:Int) (w:World):Calls prog 150 #[.int .i64 x] w fun e w'=>e=.returned (.bool (Iy x))∧w=w':=by
 go_enter func150,ntmps150
 go_wp2_with (go_at_call 87;refine (Kg _ _ _ _).mono ?_;rintro e w' ⟨rfl,rfl⟩)
 go_ret
 exact ⟨rfl,rfl⟩
theorem Ad4 (x:Int) (w:World):Calls prog 52 #[.int .i64 x] w fun e w'=>e=.returned (.bool (Pi x))∧w=w':=by
 go_enter func52,ntmps52
 go_wp2_with (go_at_call 97;refine (Ie _ _ _ _).mono ?_;rintro e w' ⟨rfl,rfl⟩)
 go_ret
 exact ⟨rfl,rfl⟩
def Xr (lo hi:Int) (zs:List Int) (i:Nat):Bool:=Ig lo (zs.getD i 0) hi && (i == 0 || decide (zs.getD (i - 1) 0 < zs.getD i 0))
def Ns (lo hi:Int) (zs:List Int):Bool:=My (Xr lo hi zs) zs.length
theorem Rn {lo hi:Int} {zs:List Int} (h:0 < zs.length):Xr lo hi zs 0=Ig lo zs[0] hi:=by simp [Xr,h]
theorem Pn {lo hi:Int} {zs:List Int} {m:Nat} (h:m+1 < zs.length):Xr lo hi zs (m+1)=(Ig lo zs[m+1] hi && decide (zs[m]'(by omega) < zs[m+1])):=by
 simp [Xr,h,show m < zs.length by omega]
theorem Yt (v:Value) (zs:List Int) (F:List Nat) (w:World) (h:Sl Bd w v zs F) :
  Calls prog 174 #[v] w fun e w'=>e=.returned (.bool (Ns 1 7 zs))∧w=w':=by
 obtain ⟨a,cap,rfl⟩:=h.slice
 obtain ⟨-,hl,hc⟩:=h.int
 unfold maxLen at hl
 go_enter func174,ntmps174
 go_wp2
 go_loop [3,4,7] (fun _ _ i=>∃k:Nat,k≤zs.length∧i=.int .i64 k∧Hid (∀j,j < k→Xr 1 7 zs j=true)) (fun _ _ i=>zs.length - (intOf i).toNat)
 case atStart=>exact ⟨0,Nat.zero_le _,rfl,fun j hj=>by omega⟩
 case round =>
  obtain ⟨k,hk,rfl,hz⟩:=hrel
  by_cases hlt:k < zs.length
  ·obtain ⟨b,off,rfl,c0⟩:=hc k hlt
   rcases k with _|m
   ·have hr:=Lib.hid (Rn (lo:=1) (hi:=7) hlt)
    clear hc
    simp only [Nat.add_zero] at c0
    go_wp2_with (go_at_call 52;refine (Ad4 _ _).mono ?_;rintro e w' ⟨rfl,rfl⟩)
    ·have t:Ig 1 zs[0] 7=true:=by assumption
     exact ⟨⟨1,by omega,by go_num,Pa hz.out (by rw [hr.out,t])⟩,by simp [intOf];omega⟩
    ·have t:¬Ig 1 zs[0] 7=true:=by assumption
     go_ret
     exact ⟨Cn (Kd hlt (by rw [hr.out];simpa using t)).symm,rfl⟩
   ·obtain ⟨b',off',hb',c1⟩:=hc m (by omega)
    cases hb'
    have hr:=Lib.hid (Pn (lo:=1) (hi:=7) hlt)
    clear hc
    go_wp2_with (go_at_call 52;refine (Ad4 _ _).mono ?_;rintro e w' ⟨rfl,rfl⟩)
    ·have t:zs[m+1]≤zs[m]:=by assumption
     go_ret
     exact ⟨Cn (Kd hlt (by rw [hr.out];simp;omega)).symm,rfl⟩
    ·have t:Ig 1 zs[m+1] 7=true:=by assumption
     have t2:zs[m] < zs[m+1]:=by assumption
     exact ⟨⟨m+2,by omega,by go_num,Pa hz.out (by rw [hr.out,t];simp;omega)⟩,by simp [intOf];omega⟩
    ·have t:¬Ig 1 zs[m+1] 7=true:=by assumption
     go_ret
     exact ⟨Cn (Kd hlt (by rw [hr.out];simp [t])).symm,rfl⟩
  ·go_wp2
   go_ret
   exact ⟨Cn (Ip (fun i hi=>hz.out i (by omega))).symm,rfl⟩
theorem Afw (v:Value) (zs:List Int) (F:List Nat) (lo hi:Int) (w:World) (h:Sl Bd w v zs F) :
  Calls prog 251 #[v,.int .i64 lo,.int .i64 hi] w fun e w'=>e=.returned (.bool (Ns lo hi zs))∧Below w.heap.size w w':=by
 obtain ⟨a,cap,rfl⟩:=h.slice
 obtain ⟨-,hl, -⟩:=h.int
 unfold maxLen at hl
 go_enter func251,ntmps251
 go_wp2
 go_loopw [7] (fun i wr=>∃k:Nat,k≤zs.length∧i=.int .i64 k∧Hid (∀j,j < k→Xr lo hi zs j=true)∧Below w.heap.size w wr) (fun i _=>zs.length - (intOf i).toNat)
 case atStart=>exact ⟨0,Nat.zero_le _,rfl,fun j hj=>by omega,Below.refl _ _⟩
 case round =>
  obtain ⟨k,hk,rfl,hz,hB⟩:=hrel
  have hc:=(h.below (by decide) hB).int.2.2
  by_cases hlt:k < zs.length
  ·obtain ⟨b,off,rfl,c0⟩:=hc k hlt
   rcases k with _|m
   ·have hr:=Lib.hid (Rn (lo:=lo) (hi:=hi) hlt)
    clear hc
    simp only [Nat.add_zero] at c0
    cases t:Ig lo zs[0] hi
    ·go_wp2_with fail
     go_quiet ((go_at_call 87;exact Sw (Kg _ _ _ _)))
     go_wp2_with fail
     go_ret
     exact ⟨Cn (Kd hlt (by rw [hr.out,t])).symm,Ek hB _⟩
    ·go_wp2_with fail
     go_quiet ((go_at_call 87;exact Sw (Kg _ _ _ _)))
     go_wp2_with fail
     exact ⟨⟨1,by omega,by go_num,Pa hz.out (by rw [hr.out,t]),Ek hB _⟩,by simp [intOf];omega⟩
   ·obtain ⟨b',off',hb',c1⟩:=hc m (by omega)
    cases hb'
    have hr:=Lib.hid (Pn (lo:=lo) (hi:=hi) hlt)
    clear hc
    cases t:Ig lo zs[m+1] hi
    ·go_wp2_with fail
     go_quiet ((go_at_call 87;exact Sw (Kg _ _ _ _)))
     go_wp2_with fail
     go_ret
     exact ⟨Cn (Kd hlt (by rw [hr.out,t];rfl)).symm,Ek hB _⟩
    ·by_cases t2:zs[m] < zs[m+1]
     ·go_wp2_with fail
      go_quiet ((go_at_call 87;exact Sw (Kg _ _ _ _)))
      go_wp2_with fail
      exact ⟨⟨m+2,by omega,by go_num,Pa hz.out (by rw [hr.out,t];simpa using t2),Ek hB _⟩,by simp [intOf];omega⟩
     ·have t3:zs[m+1]≤zs[m]:=by omega
      go_wp2_with fail
      go_quiet ((go_at_call 87;exact Sw (Kg _ _ _ _)))
      go_wp2_with fail
      go_ret
      exact ⟨Cn (Kd hlt (by rw [hr.out];simp;omega)).symm,Ek hB _⟩
  ·go_wp2
   go_ret
   exact ⟨Cn (Ip (fun i hi=>hz.out i (by omega))).symm,hB⟩
theorem Afu (v:Value) (zs:List Int) (F:List Nat) (w:World) (h:Sl Bd w v zs F) :
  Calls prog 209 #[v] w fun e w'=>e=.returned (.bool (Ns 1 7 zs))∧Below w.heap.size w w':=by
 go_enter func209,ntmps209
 go_wp2_with (go_at_call 251;refine (Afw _ zs F _ _ _ h).mono ?_;rintro e w' ⟨rfl,hb1⟩)
 go_ret
 exact ⟨rfl,hb1⟩
theorem J9 (w:World) (g:Nat):∀(c:List Value) (w:World) (p:Nat),Ls w g p c=w.setCells g p c
 | [],_,_=>rfl
 | _::r,_,_=>J9 w g r _ _
theorem Kv (z:Array Value) (n:Nat):(Builtin.zeroCells z n).toList.length=n * z.size:=by simp [Builtin.zeroCells]
theorem Aan (z:Array Value) (h:∀u∈z,u.oneCell'=true) (n:Nat):∀u∈(Builtin.zeroCells z n).toList,u.oneCell'=true:=by
 intro u hu
 simp only [Builtin.zeroCells,Array.toList_map,List.mem_map] at hu
 obtain ⟨i,hi,rfl⟩:=hu
 simp at hi
 have hz:0 < z.size:=Nat.pos_of_ne_zero fun e=>by rw [e,Nat.mul_zero] at hi;omega
 have hm:i % z.size < z.size:=Nat.mod_lt _ hz
 rw [getElem!_pos z _ hm]
 exact h _ (Array.getElem_mem _)
theorem Po {P:Program} (w:World) (t e ty:TypeId) (z:Value) (ht:P.underlying t=some (.slice e)) (hv:∀w,(zeroValue e).run P w=.ok z w) (h1:∀u∈z.cells,u.oneCell'=true) (b o n c:Nat) (hn:0 < n)
  (hc:∀j,j < n * z.cells.size→(w.cell? ⟨b,o+j,none⟩).isSome=true) (hf:∀j,j < n * z.cells.size→w.frozen? ⟨b,o+j,none⟩=false) :
  (Builtin.clear_ #[t] ty #[.slice (some ⟨b,o,none⟩) n c]).run P w=.ok (.tuple #[]) (w.setCells b o (Builtin.zeroCells z.cells n).toList):=by
 have hst:=run_storeCells_cells (P:=P) b o (Builtin.zeroCells z.cells n).toList 0 w (by rw [Kv];simpa using hc) (by rw [Kv];simpa using hf) (Aan _ h1 _)
 simp only [Nat.add_zero] at hst
 obtain ⟨m,rfl⟩:∃m,n=m+1:=⟨n - 1,by omega⟩
 simp [Builtin.clear_,run_underlying ht,hv,hst]
theorem Ry {P:Program} {e:TypeId} {z:Value} {size bytes:Nat} (h:(P.info? e).map (fun i=>(i.zero,i.size,i.bytes))=some (some z,size,bytes)):∀w,(zeroValue e).run P w=.ok z w:=fun w=>by
 obtain ⟨i,hi,hzz⟩:=Option.map_eq_some_iff.1 h
 simp only [Prod.mk.injEq] at hzz
 obtain ⟨hz, -, -⟩:=hzz
 simp [zeroValue,typeInfo,hi,hz]
theorem Td {α:Type} {p:α→Bool} {xs:List α} (h:xs.any p=true):∃k,∃hk:k < xs.length,Ox p xs=k∧p xs[k]=true∧(xs.take k).filter (fun x=>!p x)=xs.take k:=by
 have hk:xs.findIdx p < xs.length:=List.findIdx_lt_length_of_exists (by obtain ⟨x,hx,hp⟩:=List.any_eq_true.1 h;exact ⟨x,hx,hp⟩)
 refine ⟨_,hk,by unfold Ox;rw [if_pos h],List.findIdx_getElem (w:=hk),?_⟩
 rw [List.filter_eq_self]
 intro x hx
 obtain ⟨i,hi,rfl⟩:=List.mem_take_iff_getElem.1 hx
 have:=List.not_of_lt_findIdx (p:=p) (xs:=xs) (show i < xs.findIdx p by omega)
 simpa using this
theorem U7 {α:Type} {p:α→Bool} {xs:List α} (h:¬xs.any p=true):Ox p xs=-1∧xs.filter (fun x=>!p x)=xs:=by
 refine ⟨by unfold Ox;rw [if_neg h],?_⟩
 rw [List.filter_eq_self]
 intro x hx
 cases hp:p x
 ·rfl
 ·exact absurd (List.any_eq_true.2 ⟨x,hx,hp⟩) h
theorem E5 {α:Type} {q:α→Bool} {xs:List α} {j:Nat} (h:j < xs.length) (hq:q xs[j]=true):(xs.take (j+1)).filter q=(xs.take j).filter q++[xs[j]]:=by
 rw [List.take_succ_eq_append_getElem h,List.filter_append];simp [hq]
theorem C1 {α:Type} {q:α→Bool} {xs:List α} {j:Nat} (h:j < xs.length) (hq:q xs[j]=false):(xs.take (j+1)).filter q=(xs.take j).filter q:=by
 rw [List.take_succ_eq_append_getElem h,List.filter_append];simp [hq]
theorem Zq {w:World} {g off n:Nat} {c c':List Value} (h:c.length=n) (h':c'.length=n) (hc:∀j,j < n→w.cell? ⟨g,off+j,none⟩=c[j]?) (hc':∀j,j < n→w.cell? ⟨g,off+j,none⟩=c'[j]?):c=c':=by
 apply List.ext_getElem?
 intro j
 by_cases hj:j < n
 ·rw [←hc j hj,hc' j hj]
 ·rw [List.getElem?_eq_none (by omega),List.getElem?_eq_none (by omega)]
def Gap {α:Type} (O:Bv α) (t:TypeId) (w:World) (g n cap:Nat) (ys:List α) (m:Nat) (zs:List α) (F:List Nat):Prop :=
 ∃c1 jk c3 rest G1 G3,n=ys.length+m+zs.length∧Hm w g t (c1++jk++c3++rest)∧n≤cap∧cap≤maxLen∧c1.length+jk.length+c3.length+rest.length=cap * O.sz∧jk.length=m * O.sz ∧
  Cw O w c1 ys G1∧Cw O w c3 zs G3∧F=g::(G1++G3)∧F.Nodup
section
variable {α:Type} {O:Bv α} {t:TypeId} {w:World} {g n cap m:Nat} {ys zs:List α} {F:List Nat}
theorem Gap.start {a:Option Addr} {n:Nat} {xs:List α} (h:Ow O t w (.slice a n cap) xs F) (hn:F.Nodup) (e:xs=ys++zs) (h0:0 < xs.length):∃g,a=some ⟨g,0,none⟩∧n=xs.length∧Gap O t w g n cap ys 0 zs F:=by
 subst e
 rcases h with ⟨_,h1,_⟩|⟨g,cap',cs,rest,G,hv,hr,h3,h4,h5,hf,rfl⟩
 ·rw [h1] at h0;simp at h0
 ·cases hv
  obtain ⟨c1,c2,G1,G2,rfl,rfl,f1,f2⟩:=hf.split
  refine ⟨g,rfl,rfl,c1,[],c2,rest,G1,G2,by simp,by simpa using hr,h3,h4,by simpa using h5,by simp,f1,f2,rfl,hn⟩
theorem Gap.skip {x:α} (h:Gap O t w g n cap ys m (x::zs) F):∃F',Gap O t w g n cap ys (m+1) zs F'∧∀b∈F',b∈F:=by
 obtain ⟨c1,jk,c3,rest,G1,G3,hn,hr,h1,h2,h3,h4,f1,⟨c,c4,Fx,G4,rfl,rfl,hx,f3⟩,rfl,hnd⟩:=h
 have hl:=O.len hx
 refine ⟨g::(G1++G4),⟨c1,jk++c,c4,rest,G1,G4,by simp at hn ⊢;omega,by simpa using hr,h1,h2,by simp at h3 ⊢;omega,by rw [List.length_append,h4,hl,Nat.add_mul];simp,f1,f3,rfl,?_⟩,by intro b hb;simp at hb ⊢;rcases hb with hb|hb|hb <;> simp [hb]⟩
 simp only [List.nodup_cons,List.nodup_append,List.mem_append,not_or] at hnd ⊢
 exact ⟨⟨hnd.1.1,hnd.1.2.2⟩,hnd.2.1,hnd.2.2.1.2.1,fun a ha b hb=>hnd.2.2.2 a ha b (.inr hb)⟩
theorem Gap.first {x:α} (h:Gap O t w g n cap ys m (x::zs) F):∃c Fx,O.Ka w c x Fx∧(∀b∈Fx,b∈F)∧∀j,j < O.sz→w.cell? ⟨g,(ys.length+m) * O.sz+j,none⟩=c[j]?:=by
 obtain ⟨c1,jk,c3,rest,G1,G3,hn,hr,h1,h2,h3,h4,f1,⟨c,c4,Fx,G4,rfl,rfl,hx,f3⟩,rfl,hnd⟩:=h
 have hl:=O.len hx
 refine ⟨c,Fx,hx,fun b hb=>by simp [hb],fun j hj=>?_⟩
 have hr':Hm w g t ((c1++jk)++c++(c4++rest)):=by simpa using hr
 exact hr'.cellMid (by rw [List.length_append,f1.len,h4,Nat.add_mul]) (by omega)
theorem Gap.move {x:α} (hm:0 < m) (h:Gap O t w g n cap ys m (x::zs) F) :
  (∀j,j < O.sz→(∃u,w.cell? ⟨g,ys.length * O.sz+j,none⟩=some u)∧w.frozen? ⟨g,ys.length * O.sz+j,none⟩=false) ∧
  ∃c Fx,O.Ka w c x Fx∧(∀b∈Fx,b∈F)∧(∀j,j < O.sz→w.cell? ⟨g,(ys.length+m) * O.sz+j,none⟩=c[j]?)∧∀w',Below w.heap.size w w'→∃F',Gap O t (Ls w' g (ys.length * O.sz) c) g n cap (ys++[x]) m zs F'∧∀b∈F',b∈F:=by
 obtain ⟨c,Fx,hx0,hxF,hcell⟩:=h.first
 obtain ⟨c1,jk,c3,rest,G1,G3,hn,hr,h1,h2,h3,h4,f1,⟨c',c4,Fx',G4,rfl,rfl,hx,f3⟩,rfl,hnd⟩:=h
 have hl:=O.len hx
 have hl0:=O.len hx0
 obtain ⟨m',rfl⟩:∃m',m=m'+1:=⟨m - 1,by omega⟩
 have hjk:jk=jk.take O.sz++jk.drop O.sz:=by simp
 have hjl:(jk.take O.sz).length=O.sz:=by rw [List.length_take,h4,Nat.add_mul];omega
 have hA:=f1.len
 have hr':Hm w g t (c1++jk.take O.sz++(jk.drop O.sz++c'++c4++rest)):=by
  have e:c1++jk.take O.sz++(jk.drop O.sz++c'++c4++rest)=c1++jk++(c'++c4)++rest:=by
   simp only [List.append_assoc]
   rw [←List.append_assoc (jk.take O.sz),List.take_append_drop]
  rw [e];exact hr
 have hcc:c=c':=by
  apply List.ext_getElem? 
  intro j
  by_cases hj:j < O.sz
  ·have hr2:Hm w g t ((c1++jk)++c'++(c4++rest)):=by simpa using hr
   rw [←hcell j hj,hr2.cellMid (by rw [List.length_append,hA,h4,←Nat.add_mul]) (by omega)]
  ·rw [List.getElem?_eq_none (by omega),List.getElem?_eq_none (by omega)]
 refine ⟨fun j hj=>⟨⟨_,by rw [hr'.cellMid (j:=j) (by omega) (by omega),List.getElem?_eq_getElem (by omega)]⟩,hr'.frozen _⟩,c,Fx',hcc▸hx,fun b hb=>by simp [hb],hcell,fun w' hb=>?_⟩
 subst hcc
 have hgl:=hr.lt
 have hnd':=hnd
 simp only [List.nodup_cons,List.nodup_append,List.mem_append,not_or] at hnd'
 have hrow:=(hr'.below hb).put c (jk.take O.sz) (p:=ys.length * O.sz) hA.symm (by omega)
 have hfr:∀b,b < w.heap.size→b≠g→(Ls w' g (ys.length * O.sz) c).heap[b]?=w.heap[b]?:=fun b hb1 hb2=>(Lt c w' _ b hb2).trans (hb.block b hb1)
 have n1:∀b∈G1,b≠g:=fun b hb e=>hnd'.1.1 (e▸hb)
 have n2:∀b∈Fx',b≠g:=fun b hb e=>hnd'.1.2.1 (e▸hb)
 have n3:∀b∈G4,b≠g:=fun b hb e=>hnd'.1.2.2 (e▸hb)
 refine ⟨g::((G1++Fx')++G4),⟨c1++c,jk.drop O.sz++c,c4,rest,G1++Fx',G4,by simp at hn ⊢;omega,?_,h1,h2,?_,?_,?_,f3.frame fun b hb=>hfr b (f3.lt b hb) (n3 b hb),rfl,?_⟩,by intro b hb;simpa [or_assoc] using hb⟩
 ·simpa using hrow
 ·simp [h4,Nat.add_mul] at h3 ⊢;omega
 ·simp [h4,Nat.add_mul];omega
 ·exact (f1.frame fun b hb=>hfr b (f1.lt b hb) (n1 b hb)).append (Cw.one (O.frame hx fun b hb=>hfr b (O.lt hx b hb) (n2 b hb)))
 ·simpa using hnd
theorem Gap.below {w':World} (h:Gap O t w g n cap ys m zs F) (hb:Below w.heap.size w w'):Gap O t w' g n cap ys m zs F:=by
 obtain ⟨c1,jk,c3,rest,G1,G3,hn,hr,h1,h2,h3,h4,f1,f3,hF,hnd⟩:=h
 exact ⟨c1,jk,c3,rest,G1,G3,hn,hr.below hb,h1,h2,h3,h4,f1.frame fun b h=>hb.block b (f1.lt b h),f3.frame fun b h=>hb.block b (f3.lt b h),hF,hnd⟩
theorem Gap.caps (h:Gap O t w g n cap ys m zs F):n=ys.length+m+zs.length∧n≤cap∧cap≤maxLen∧g < w.heap.size∧g∈F∧F.Nodup:=by
 obtain ⟨c1,jk,c3,rest,G1,G3,hn,hr,h1,h2,h3,h4,f1,f3,rfl,hnd⟩:=h
 exact ⟨hn,h1,h2,hr.lt,by simp,hnd⟩
theorem Gap.done {z:Array Value} (hz:z.size=O.sz) (h:Gap O t w g n cap ys m [] F) :
  (∀j,j < m * O.sz→(w.cell? ⟨g,ys.length * O.sz+j,none⟩).isSome=true∧w.frozen? ⟨g,ys.length * O.sz+j,none⟩=false) ∧
  ∃F',Ow O t (w.setCells g (ys.length * O.sz) (Builtin.zeroCells z m).toList) (.slice (some ⟨g,0,none⟩) ys.length cap) ys F'∧F'.Nodup∧∀b∈F',b∈F:=by
 obtain ⟨c1,jk,c3,rest,G1,G3,hn,hr,h1,h2,h3,h4,f1,⟨rfl,rfl⟩,rfl,hnd⟩:=h
 have hA:=f1.len
 simp only [List.append_nil] at hr hnd
 have hr':Hm w g t (c1++jk++rest):=hr
 refine ⟨fun j hj=>⟨?_,hr'.frozen _⟩,g::G1,?_,hnd,by simp⟩
 ·rw [hr'.cellMid (j:=j) (by omega) (by omega),List.getElem?_eq_getElem (by omega)];rfl
 ·rw [←J9 w]
  have hrow:=hr'.put (Builtin.zeroCells z m).toList jk (p:=ys.length * O.sz) hA.symm (by rw [Kv,h4,hz])
  have hng:g ∉ G1:=by simp at hnd;exact hnd.1
  refine .inr ⟨g,cap,c1,(Builtin.zeroCells z m).toList++rest,G1,rfl,by simpa using hrow,by simp at hn;omega,h2,?_,f1.frame fun b hb=>Lt _ _ _ _ fun e=>hng (e▸hb),rfl⟩
  rw [List.length_append,Kv,hz,←h4];simp at h3;omega
end
theorem Og (fid:FuncId) (hbd:Tm prog fid) (caps:Array Value) (v:Value) (xs:List Fb) (F:List Nat) (p:Fb→Bool) (w:World) (h:Sl Da w v xs F)
  (hp:∀(k:Nat) (hk:k < xs.length) (wr:World) (u:Value) (G:List Nat),Below w.heap.size w wr→Pt Da wr u xs[k] G→Calls prog fid (#[u]++caps) wr fun e w'=>e=.returned (.bool (p xs[k]))∧Below wr.heap.size wr w') :
  Calls prog 228 #[v,.func (.func fid) #[] caps] w fun e w'=>e=.returned (.int .i64 (Ox p xs))∧Below w.heap.size w w':=by
 obtain ⟨a,cap,rfl⟩:=h.slice
 have hl:=h.len
 unfold maxLen at hl
 go_enter func228,ntmps228
 go_wp2
 go_loopw [5,8] (fun _ i wr=>∃k:Nat,k≤xs.length∧i=.int .i64 k∧Hid (∀j,j < k→∀hj:j < xs.length,p xs[j]=false)∧Below w.heap.size w wr) (fun _ i _=>xs.length - (intOf i).toNat)
 case atStart=>exact ⟨0,Nat.zero_le _,rfl,fun j hj=>by omega,Below.refl _ _⟩
 case round =>
  obtain ⟨k,hk,rfl,hz,hB⟩:=hrel
  by_cases hlt:k < xs.length
  ·have hz0:=hz;clear hz
   obtain ⟨b,off,_,F1,rfl,hx, -,ja⟩:=(h.below (by decide) hB).at k hlt
   obtain ⟨v1,rfl,h1⟩:=id hx
   have a0:=ja 0 (by decide)
   have a1:=ja 1 (by decide)
   have a2:=ja 2 (by decide)
   simp only [show Da.sz=3 from rfl,Nat.mul_one,Nat.add_zero,List.getElem?_cons_zero,List.getElem?_cons_succ] at a0 a1 a2
   clear ja
   have hr:=hp k hlt wr _ F1 hB ⟨_,rfl,hx⟩
   have hp:=Lib.hid hp
   cases hpk:p xs[k]
   all_goals
    rw [hpk] at hr
    have hpk:=Lib.hid hpk
    have hr:=Lib.hid hr
    go_wp2_with fail
    refine hbd.upon hr.out ?_
    rintro e w1 ⟨rfl,hb1⟩
    refine ⟨_,rfl,?_⟩
    have hB:=tr hB hb1 (Nat.le_refl _)
    clear hb1
    go_wp2_with fail
   ·exact ⟨⟨k+1,by omega,by go_num,fun j hj hl=>by rcases Nat.lt_or_eq_of_le (Nat.le_of_lt_succ hj) with h|h;exact hz0.out j h hl;subst h;exact hpk.out,hB⟩,by simp [intOf];omega⟩
   ·go_ret
    exact ⟨L4 (M4 hlt hz0.out hpk.out).symm,hB⟩
  ·go_wp2
   go_ret
   exact ⟨L4 (Ly (fun j hj=>hz.out j (by omega) hj)).symm,hB⟩
theorem T2 (fid:FuncId) (hbd:Tm prog fid) (caps:Array Value) (v:Value) (xs:List Fb) (F:List Nat) (p:Fb→Bool) (w:World) (h:Sl Da w v xs F)
  (hp:∀(k:Nat) (hk:k < xs.length) (wr:World) (u:Value) (G:List Nat),Below w.heap.size w wr→Pt Da wr u xs[k] G→Calls prog fid (#[u]++caps) wr fun e w'=>e=.returned (.bool (p xs[k]))∧Below wr.heap.size wr w') :
  Calls prog 175 #[v,.func (.func fid) #[] caps] w fun e w'=>e=.returned (.bool (xs.any p))∧Below w.heap.size w w':=by
 have hp:=Lib.hid hp
 go_enter func175,ntmps175
 go_wp2_with fail
 refine (Og fid hbd caps v xs F p _ h hp.out).mono ?_
 rintro e w1 ⟨rfl,hb1⟩
 go_wp2_with fail
 go_ret
 exact ⟨Cn (Qk p xs),hb1⟩
theorem Ac8 (v:Value) (xs:List Fb) (F:List Nat) (w:World) (h:Sl Da w v xs F) (hm:xs.length≤4294967296) :
  Calls prog 135 #[v] w fun e w'=>∃v' F',e=.returned v'∧Ow Da 136 w' v' xs F'∧Hd F'∧(∀b,v'.ownBlock=some b→w.heap.size≤b)∧(∀b∈F',v'.ownBlock=some b∨b∈F)∧Below w.heap.size w w':=by
 obtain ⟨ao,c,news,Fy,rfl,hl,hfy,hFy,hsrc⟩:=h.src
 have hFl:=hfy.lt
 have he:=fun w (a:Option Addr) (n c:Nat)=>Lib.run_eql_slice_nil (P:=prog) w 75 _ a n c 0 0 underlying75
 go_enter func135,ntmps135
 rcases hsrc with ⟨rfl,rfl,rfl⟩|⟨ad,rfl,hn⟩
 ·go_wp2
  go_ret
  exact ⟨.slice none 0 0,[],rfl,.inl ⟨rfl,rfl,rfl⟩,Hd.nil,(fun b e=>by simp [Value.ownBlock] at e),by simp,Below.refl _ _⟩
 ·go_wp2_with (at_builtin;refine Nx Ri (by decide) (by rfl) _ _ _ (by rfl) 136 (.agg #[.int .i64 0,.slice none 0 0,.int .i64 0]) 40 underlying75 Uc rfl (.slice (some ⟨w.heap.size,0,none⟩) 0 0) [] [w.heap.size] (by rfl) (Ow.empty (Hm.made _ _ _)) (Hd.one _) (some ad) xs c (by rfl) news Fy (hfy.frame fun b hb=>Below.heap_alloc _ _ _ (hFl b hb)) (.inr ⟨ad,rfl,fun j u hu=>kc ((Below.refl _ _).alloc (Nat.le_refl _) _) (hn j u hu)⟩) (fun b hb e=>by have:=hFl b hb;simp [Value.ownBlock] at e;omega) (by simpa using hl) (by unfold maxLen at hl;simp;omega) ?_)
  intro v2 w2 F2 hA
  go_wp2_with fail
  go_ret
  have hB:Below w.heap.size w w2:=((Below.refl _ _).alloc (Nat.le_refl _) _).trans (hA.Ky.below (by simp) (by simp))
  have hs:∀b,v2.ownBlock=some b→w.heap.size≤b:=fun b hb=>by rcases hA.Af8 with e|e <;> rw [e] at hb <;> simp [Value.ownBlock] at hb <;> omega
  refine ⟨v2,F2,rfl,by simpa using hA.ow,hA.hd,hs,fun b hb=>?_,hB⟩
  rw [hA.Atc [] (by simp [Value.ownBlock])] at hb
  simp at hb
  rcases hb with hb|hb
  ·exact .inl hb
  ·exact .inr (hFy b hb)
theorem Vv (fid:FuncId) (hbd:Tm prog fid) (caps:Array Value) (v:Value) (xs:List Fb) (F:List Nat) (p:Fb→Bool) (w:World) (h:Ow Ee 136 w v xs F) (hn:F.Nodup)
  (hp:∀(k:Nat) (hk:k < xs.length) (wr:World) (u:Value) (G:List Nat),Dy F w wr→Pt Da wr u xs[k] G→Calls prog fid (#[u]++caps) wr fun e w'=>e=.returned (.bool (p xs[k]))∧Below wr.heap.size wr w') :
  Calls prog 198 #[v,.func (.func fid) #[] caps] w fun e w'=>∃v' F',e=.returned v'∧Ow Ee 136 w' v' (xs.filter fun x=>!p x) F'∧F'.Nodup∧(∀b∈F',b∈F)∧Dy F w w':=by
 obtain ⟨F1,hF1,hs⟩:=h.sl Nw
 obtain ⟨a,cap,rfl⟩:=h.slice
 have hl:=h.len
 unfold maxLen at hl
 have hp:=Lib.hid hp
 go_enter func198,ntmps198
 go_wp2_with fail
 refine (Og fid hbd caps _ xs F1 p _ hs (fun k hk wr u G hb hu=>hp.out k hk wr u G (Dy.ofBelow hb) hu)).mono ?_
 rintro e w1 ⟨rfl,hb1⟩
 have hK1:=Dy.ofBelow (F:=F) hb1
 by_cases hany:xs.any p=true
 ·obtain ⟨k0,hk0,hfx,hpk,hfl⟩:=Td hany
  rw [hfx]
  obtain ⟨g,rfl, -,hg0⟩:=Gap.start (h.below hb1) hn (ys:=xs.take k0) (zs:=xs[k0]::xs.drop (k0+1)) (by simp) (by omega)
  obtain ⟨F0,hg0,hF0⟩:=hg0.skip
  have hG0:=Lib.hid hg0
  clear hg0
  have hk1:((k0:Int) == -1)=false:=by simp
  go_wp2_with fail
  go_loopw [5,6,7] (fun i j _ wr=>∃(q m:Nat) (F1:List Nat),q≤xs.length∧0 < m∧((xs.take q).filter fun x=>!p x).length+m=q∧i=.int .i64 ((xs.take q).filter fun x=>!p x).length∧j=.int .i64 q∧Hid (Gap Ee 136 wr g xs.length cap ((xs.take q).filter fun x=>!p x) m (xs.drop q) F1)∧(∀b∈F1,b∈F)∧Dy F w wr) (fun _ j _ _=>xs.length - (intOf j).toNat)
  case atStart=>exact ⟨k0+1,1,F0,hk0,by omega,by rw [C1 hk0 (by simp [hpk]),hfl];simp;omega,by rw [C1 hk0 (by simp [hpk]),hfl];simp;omega,by go_num,by rw [C1 hk0 (by simp [hpk]),hfl];exact hG0,hF0,hK1⟩
  case round =>
   obtain ⟨q,m,F1,hq,hm,hlen,rfl,rfl,hG,hF1,hK⟩:=hrel
   obtain ⟨-,hcap, -⟩:=hG.out.caps
   generalize hys:((xs.take q).filter fun x=>!p x)=ys at *
   by_cases hlt:q < xs.length
   ·rw [List.drop_eq_getElem_cons hlt] at hG
    obtain ⟨c,Fx,hx,hFx,hcell⟩:=hG.out.first
    obtain ⟨Fx2, -,hxe⟩:=Nw.Ka hx
    obtain ⟨v1,rfl,h1⟩:=id hx
    obtain ⟨d1,p1,rfl⟩:=h1.slice
    have a0:=hcell 0 (by decide)
    have a1:=hcell 1 (by decide)
    have a2:=hcell 2 (by decide)
    simp only [hlen,show Ee.sz=3 from rfl,Nat.mul_one,Nat.add_zero,List.getElem?_cons_zero,List.getElem?_cons_succ] at a0 a1 a2
    have hr:=fun A=>hp.out q hlt (wr.alloc A) _ Fx2 (hK.alloc A) ⟨_,rfl,Da.below hxe ((Below.refl wr.heap.size wr).alloc (Nat.le_refl _) A)⟩
    cases hpq:p xs[q]
    ·obtain ⟨st,c2,Fx3,hx3, -,hcell2,back⟩:=hG.out.move hm
     simp only [hpq] at hr
     obtain rfl:=Zq (Ee.len hx) (Ee.len hx3) hcell hcell2
     have st:=st
     obtain ⟨⟨x0,z0⟩,g0⟩:=st 0 (by decide)
     obtain ⟨⟨x1,z1⟩,g1⟩:=st 1 (by decide)
     obtain ⟨⟨x2,z2⟩,g2⟩:=st 2 (by decide)
     simp only [show Ee.sz=3 from rfl,Nat.mul_one,Nat.add_zero] at z0 g0 z1 g1 z2 g2
     have hr:=Lib.hid hr;have hbk:=Lib.hid back;have hpq:=Lib.hid hpq;have hys:=Lib.hid hys;have hlen:=Lib.hid hlen
     have hyl:ys.length < xs.length:=by have:=hlen.out;omega
     clear hx hxe hcell hcell2 hx3 back st hfx hpk hfl
     go_wp2_with fail
     refine hbd.upon (hr.out _) ?_
     rintro e w2 ⟨rfl,hb2⟩
     refine ⟨_,rfl,?_⟩
     have b2:=(Hm.below (g:=wr.heap.size) (t:=136) (cs:=[.int .i64 xs[q].Ae,.slice d1 xs[q].Bi.length p1,.int .i64 xs[q].Ca]) (by simp [Iq]) hb2).cells
     have hbb:=tr ((Below.refl wr.heap.size wr).alloc (Nat.le_refl _) _) hb2 (Nat.le_refl _)
     clear hb2
     have g0:=(kf hbb z0).trans g0;have z0:=kc hbb z0
     have g1:=(kf hbb z1).trans g1;have z1:=kc hbb z1
     have g2:=(kf hbb z2).trans g2;have z2:=kc hbb z2
     obtain ⟨F2,hg2,hF2⟩:=hbk.out w2 hbb
     simp only [Ls,show Ee.sz=3 from rfl,Nat.mul_one] at hg2
     have hg2:=Lib.hid hg2
     have hgF:g∈F:=hF1 g hG.out.caps.2.2.2.2.1
     go_wp2_with fail
     exact ⟨⟨q+1,m,F2,by omega,hm,by rw [E5 hlt (by simp [hpq.out]),hys.out];have:=hlen.out;simp;omega,by rw [E5 hlt (by simp [hpq.out]),hys.out,List.length_append];go_num,by go_num,by rw [E5 hlt (by simp [hpq.out]),hys.out];exact hg2.out,fun b hb=>hF1 b (hF2 b hb),by (repeat (refine Dy.setCell ?_ hgF _));exact hK.trans (Dy.ofBelow hbb)⟩,by simp [intOf];omega⟩
    ·obtain ⟨F2,hg2,hF2⟩:=hG.out.skip
     simp only [hpq] at hr
     have hr:=Lib.hid hr;have hg2:=Lib.hid hg2;have hpq:=Lib.hid hpq;have hys:=Lib.hid hys;have hlen:=Lib.hid hlen
     clear hx hxe hcell hfx hpk hfl
     go_wp2_with fail
     refine hbd.upon (hr.out _) ?_
     rintro e w2 ⟨rfl,hb2⟩
     refine ⟨_,rfl,?_⟩
     have hbb:=tr ((Below.refl wr.heap.size wr).alloc (Nat.le_refl _) _) hb2 (Nat.le_refl _)
     clear hb2
     go_wp2_with fail
     exact ⟨⟨q+1,m+1,F2,by omega,by omega,by rw [C1 hlt (by simp [hpq.out]),hys.out];have:=hlen.out;omega,by rw [C1 hlt (by simp [hpq.out]),hys.out],by go_num,by rw [C1 hlt (by simp [hpq.out]),hys.out];exact hg2.out.below hbb,fun b hb=>hF1 b (hF2 b hb),hK.trans (Dy.ofBelow hbb)⟩,by simp [intOf];omega⟩
   ·have hqe:q=xs.length:=by omega
    subst hqe
    simp only [List.drop_length,List.take_length] at hG hys
    obtain ⟨hc,F2,ho2,hn2,hF2⟩:=hG.out.done (z:=#[.int .i64 0,.slice none 0 0,.int .i64 0]) rfl
    have hmm:xs.length - ys.length=m:=by omega
    have hcl:=fun ty=>Po (P:=prog) wr 75 136 ty (.agg #[.int .i64 0,.slice none 0 0,.int .i64 0]) underlying75 (Ry Uc) (by simp [Value.cells,Value.oneCell']) g (ys.length * 3) m (cap - ys.length) hm (fun j hj=>(hc j hj).1) (fun j hj=>(hc j hj).2)
    have hyl:ys.length < xs.length:=by omega
    have hgF:g∈F:=hF1 g hG.out.caps.2.2.2.2.1
    have hO:=Lib.hid ho2;have hlen:=Lib.hid hlen;have hys:=Lib.hid hys
    clear ho2 hc hfx hpk hfl
    go_wp2_with fail
    go_ret
    refine ⟨_,F2,rfl,by rw [hys.out];exact hO.out,hn2,fun b hb=>hF1 b (hF2 b hb),hK.trans ?_⟩
    rw [←J9 wr];exact (Jk _ _ _).mono (fun b hb _=>by simp at hb;subst hb;exact hgF)
 ·obtain ⟨hfx,hfl⟩:=U7 hany
  rw [hfx]
  go_wp2_with fail
  go_ret
  exact ⟨_,F,rfl,by rw [hfl];exact h.below hb1,hn,fun b hb=>hb,hK1⟩
def Jf (c:Int) (x:Fb):Bool:=B9 x.Ae && (decide (0 < x.Bi.length) && (Ns 1 7 x.Bi && Ig (c+1) x.Ca (c+6)))
def U4 (c:Int) (es:List Fb) (i:Nat):Bool:=match es[i]? with
 | none=>true
 | some x=>Jf c x && !((es.take i).any fun o=>o.Ae == x.Ae)
theorem Iu {c:Int} {es:List Fb} {i:Nat} (h:i < es.length):U4 c es i=(Jf c es[i] && !((es.take i).any fun o=>o.Ae == es[i].Ae)):=by
 simp [U4,h]
def Be (e:Bl):Bool:=Iy e.Ai && decide (e.Ah.length≤5) && My (U4 e.Ai e.Ah) e.Ah.length
theorem Kt {c:Int}:Iy c=true↔0≤c∧c≤9999:=by unfold Iy Ig;simp
theorem Akm {es:List Fb} {m k:Nat} {p:Fb→Bool} (h:m < es.length) (hk:m < k) (hp:p es[m]=true):(es.take k).any p=true:=by
 rw [List.any_eq_true];exact ⟨es[m],List.mem_take_iff_getElem.2 ⟨m,by omega,rfl⟩,hp⟩
theorem Adl {es:List Fb} {k:Nat} {n:Int} (h:∀q,q < k→∀hq:q < es.length,es[q].Ae≠n):((es.take k).any fun o=>o.Ae == n)=false:=by
 rw [List.any_eq_false];intro x hx
 obtain ⟨i,hi,rfl⟩:=List.mem_take_iff_getElem.1 hx
 simpa using h i (by omega) (by omega)
theorem Vt {c d:Int} (h:Iy c=true) (h1:0≤d) (h2:d≤100):wrap64 (c+d)=c+d:=by
 have:=Kt.1 h;unfold wrap64;omega
theorem Nz {e:Bl} {k:Nat} (hk:k < e.Ah.length) (h:Iy e.Ai=true→U4 e.Ai e.Ah k=false):Be e=false:=by
 unfold Be
 cases hc:Iy e.Ai
 ·rfl
 ·rw [Kd hk (h hc)];simp
theorem T4 (x:Fb) (num:Int) (b:Nat) (G:List Nat) (u:Value) (w:World) (h:Pt Da w u x G) (hc:w.cell? ⟨b,0,none⟩=some (.int .i64 num)) :
  Calls prog 176 #[u,.pointer (some ⟨b,0,none⟩)] w fun e w'=>e=.returned (.bool (x.Ae == num))∧Below w.heap.size w w':=by
 obtain ⟨_,rfl,v1,rfl, -⟩:=h
 have hc1:=fun o:Obj=>kc ((Below.refl w.heap.size w).alloc (Nat.le_refl _) o) hc
 go_enter func176,ntmps176
 go_wp2
 go_ret
 exact ⟨Cn rfl,(Below.refl _ _).alloc (Nat.le_refl _) _⟩
theorem Vx (v:Value) (e:Bl) (F:List Nat) (w:World) (h:Pt Bn w v e F) :
  Calls prog 110 #[v] w fun e' w'=>e'=.returned (.bool (Be e))∧Below w.heap.size w w':=by
 obtain ⟨_,rfl,v1,rfl,h1⟩:=h
 obtain ⟨a,cap,rfl⟩:=h1.slice
 have hl:=h1.len
 unfold maxLen at hl
 have hB0:∀A:Obj,Below w.heap.size w (w.alloc A):=fun A=>(Below.refl _ _).alloc (Nat.le_refl _) _
 go_enter func110,ntmps110
 go_wp2
 go_loopw [3,4,8] (fun _ _ i wr=>∃k:Nat,k≤e.Ah.length∧i=.int .i64 k∧Hid (Iy e.Ai=true→∀j,j < k→U4 e.Ai e.Ah j=true)∧Hm wr w.heap.size 77 [.int .i64 e.Ai,.slice a e.Ah.length cap]∧Below w.heap.size w wr) (fun _ _ i _=>e.Ah.length - (intOf i).toNat)
 case atStart=>exact ⟨0,Nat.zero_le _,rfl,fun _ j hj=>by omega,by simp [Iq],hB0 _⟩
 case round =>
  obtain ⟨k,hk,rfl,hz,hr,hB⟩:=hrel
  have c0:=hr.cells
  by_cases hlt:k < e.Ah.length
  ·have hz0:=hz;clear hz
   obtain ⟨b,off,_,F1,rfl,hx, -,ja⟩:=(h1.below (by decide) hB).at k hlt
   obtain ⟨u1,rfl,hf⟩:=id hx
   obtain ⟨fa,fc,rfl⟩:=hf.slice
   have a0:=ja 0 (by decide)
   have a1:=ja 1 (by decide)
   have a2:=ja 2 (by decide)
   simp only [show Da.sz=3 from rfl,Nat.mul_one,Nat.add_zero,List.getElem?_cons_zero,List.getElem?_cons_succ] at a0 a1 a2
   clear ja
   have d0:=fun A=>(hr.alloc A).cells
   have hf1:=fun A:Obj=>hf.below (by decide) ((Below.refl wr.heap.size wr).alloc (Nat.le_refl _) A)
   have hB1:=fun A:Obj=>tr hB ((Below.refl wr.heap.size wr).alloc (Nat.le_refl _) A) (Nat.le_refl _)
   have hcp:=h1.caps
   by_cases hfe:e.Ah[k].Bi=[]
   ·have hE:((e.Ah[k].Bi.length:Int) == 0)=true:=by simp [hfe]
    have hno:=Lib.hid (Nz hlt (fun _=>by rw [Iu hlt];simp [Jf,hfe]))
    go_wp2_with (first
     | (go_at_call 100;refine (Ih _ _).mono ?_;rintro e' w' ⟨rfl,rfl⟩)
     | (go_at_call 174;refine (Yt _ _ _ _ (hf1 _)).mono ?_;rintro e' w' ⟨rfl,rfl⟩)
     | (go_at_call 97;refine (Ie _ _ _ _).mono ?_;rintro e' w' ⟨rfl,rfl⟩))
    all_goals go_ret
    all_goals exact ⟨Cn hno.out.symm,hB1 _⟩
   ·have hE:((e.Ah[k].Bi.length:Int) == 0)=false:=by simp [hfe]
    have hfe:=Lib.hid hfe
    go_wp2_with (first
     | (go_at_call 100;refine (Ih _ _).mono ?_;rintro e' w' ⟨rfl,rfl⟩)
     | (go_at_call 174;refine (Yt _ _ _ _ (hf1 _)).mono ?_;rintro e' w' ⟨rfl,rfl⟩)
     | (go_at_call 97;refine (Ie _ _ _ _).mono ?_;rintro e' w' ⟨rfl,rfl⟩))
    ·have t:(!Ig (wrap64 (e.Ai+1)) e.Ah[k].Ca (wrap64 (e.Ai+6)))=true:=by assumption
     go_ret
     refine ⟨Cn (Nz hlt fun hc=>?_).symm,hB1 _⟩
     rw [Vt hc (by omega) (by omega),Vt hc (by omega) (by omega)] at t
     rw [Iu hlt];simp only [Jf];simp at t;simp [t]
    ·have t1:B9 e.Ah[k].Ae=true:=by assumption
     have t2:Ns 1 7 e.Ah[k].Bi=true:=by assumption
     have t:(!Ig (wrap64 (e.Ai+1)) e.Ah[k].Ca (wrap64 (e.Ai+6)))=false:=by assumption
     obtain ⟨G, -,hs⟩:=h1.takeS k hk
     refine (T2 _ (.mk' func176 rfl rfl) _ _ _ _ (fun o=>o.Ae == e.Ah[k].Ae) _ (hs.below (by decide) (hB1 _)) ?_).mono ?_
     ·intro j hj w2 u G2 hb2 hu
      exact T4 _ _ _ _ _ _ hu (kc hb2 (by simp))
     rintro e' w2 ⟨rfl,hb2⟩
     have hr2:=(hr.alloc _).below hb2
     have hB2:=tr (hB1 _) hb2 (Nat.le_refl _)
     have hc2:=hr2.cells
     have hAt:=Lib.hid (Iu (c:=e.Ai) hlt)
     cases hany:(e.Ah.take k).any fun o=>o.Ae == e.Ah[k].Ae
     ·rw [hany] at hAt
      have hany:=Lib.hid hany
      go_wp2_with fail
      refine ⟨⟨k+1,by omega,by go_num,fun hc=>Pa (hz0.out hc) ?_,hr2,hB2⟩,by simp [intOf];omega⟩
      rw [Vt hc (by omega) (by omega),Vt hc (by omega) (by omega)] at t
      rw [hAt.out];simp only [Jf,t1,t2];simp at t;simp [t,List.length_pos_iff,hfe.out]
     ·rw [hany] at hAt
      have hany:=Lib.hid hany
      go_wp2_with fail
      go_ret
      exact ⟨Cn (Nz hlt fun _=>by rw [hAt.out];simp).symm,hB2⟩
    ·have t:¬Ns 1 7 e.Ah[k].Bi=true:=by assumption
     go_ret
     refine ⟨Cn (Nz hlt fun hc=>?_).symm,hB1 _⟩
     rw [Iu hlt];simp [Jf,t]
    ·have t:¬B9 e.Ah[k].Ae=true:=by assumption
     go_ret
     refine ⟨Cn (Nz hlt fun hc=>?_).symm,hB1 _⟩
     rw [Iu hlt];simp [Jf,t]
  ·have hk:k=e.Ah.length:=by omega
   subst hk
   have hz0:=hz;clear hz
   cases hck:Iy e.Ai
   ·have hn:=Lib.hid (show Be e=false by unfold Be;rw [hck];rfl)
    have hck:=Lib.hid hck
    go_wp2_with (go_at_call 99;refine (O3 _ _).mono ?_;rintro e' w' ⟨rfl,rfl⟩;rw [hck.out])
    go_ret
    exact ⟨Cn hn.out.symm,hB⟩
   ·have hn:=Lib.hid (show Be e=decide ((e.Ah.length:Int)≤5) by unfold Be;rw [hck,Ip (hz0.out hck)];simp;omega)
    have hck:=Lib.hid hck
    go_wp2_with (go_at_call 99;refine (O3 _ _).mono ?_;rintro e' w' ⟨rfl,rfl⟩;rw [hck.out])
    go_ret
    exact ⟨Cn hn.out.symm,hB⟩
theorem Aix (v:Value) (e:Bl) (F:List Nat) (w:World) (h:Pt Bn w v e F) :
  Calls prog 154 #[v] w fun e' w'=>e'=.returned (.bool (Be e))∧Below w.heap.size w w':=by
 obtain ⟨_,rfl,v1,rfl,h1⟩:=h
 obtain ⟨a,cap,rfl⟩:=h1.slice
 have hl:=h1.len
 unfold maxLen at hl
 have hB0:∀A:Obj,Below w.heap.size w (w.alloc A):=fun A=>(Below.refl _ _).alloc (Nat.le_refl _) _
 go_enter func154,ntmps154
 cases hck:Iy e.Ai
 ·have hn:=Lib.hid (show Be e=false by unfold Be;rw [hck];rfl)
  have hck:=Lib.hid hck
  go_wp2_with (go_at_call 150;refine (Pj _ _).mono ?_;rintro e' w' ⟨rfl,rfl⟩;rw [hck.out])
  go_ret
  exact ⟨Cn hn.out.symm,hB0 _⟩
 by_cases h5:¬(e.Ah.length:Int)≤5
 ·have hn:=Lib.hid (show Be e=false by unfold Be;rw [hck,decide_eq_false (by omega)];rfl)
  have hck:=Lib.hid hck
  go_wp2_with (go_at_call 150;refine (Pj _ _).mono ?_;rintro e' w' ⟨rfl,rfl⟩;rw [hck.out])
  go_ret
  exact ⟨Cn hn.out.symm,hB0 _⟩
 have h5:(e.Ah.length:Int)≤5:=by omega
 have hcb:=Kt.1 hck
 have hgood:=Lib.hid (show Be e=My (U4 e.Ai e.Ah) e.Ah.length by unfold Be;rw [hck,decide_eq_true (by omega)];rfl)
 have hck:=Lib.hid hck
 go_wp2_with (go_at_call 150;refine (Pj _ _).mono ?_;rintro e' w' ⟨rfl,rfl⟩;rw [hck.out])
 go_loopw [3,4,5] (fun i _ _ wr=>∃k:Nat,k≤e.Ah.length∧i=.int .i64 k∧Hid (∀j,j < k→U4 e.Ai e.Ah j=true)∧Hm wr w.heap.size 77 [.int .i64 e.Ai,.slice a e.Ah.length cap]∧Below w.heap.size w wr) (fun i _ _ _=>e.Ah.length - (intOf i).toNat)
 case atStart=>exact ⟨0,Nat.zero_le _,rfl,fun j hj=>by omega,by simp [Iq],hB0 _⟩
 case round =>
  obtain ⟨k,hk,rfl,hz,hr,hB⟩:=hrel
  have c0:=hr.cells
  by_cases hlt:k < e.Ah.length
  ·have hz0:=hz;clear hz
   obtain ⟨b,off,_,F1,rfl,hx, -,ja⟩:=(h1.below (by decide) hB).at k hlt
   obtain ⟨u1,rfl,hf⟩:=id hx
   obtain ⟨fa,fc,rfl⟩:=hf.slice
   have a0:=ja 0 (by decide)
   have a1:=ja 1 (by decide)
   have a2:=ja 2 (by decide)
   simp only [show Da.sz=3 from rfl,Nat.add_zero,List.getElem?_cons_zero,List.getElem?_cons_succ] at a0 a1 a2
   clear ja
   have d0:=fun A=>(hr.alloc A).cells
   have hf1:=fun A:Obj=>hf.below (by decide) ((Below.refl wr.heap.size wr).alloc (Nat.le_refl _) A)
   have hB1:=fun A:Obj=>tr hB ((Below.refl wr.heap.size wr).alloc (Nat.le_refl _) A) (Nat.le_refl _)
   by_cases hfe:e.Ah[k].Bi=[]
   ·have hE:((e.Ah[k].Bi.length:Int) == 0)=true:=by simp [hfe]
    have hno:=Lib.hid (Nz hlt (fun _=>by rw [Iu hlt];simp [Jf,hfe]))
    go_wp2_with (go_at_call 151;refine (Lp _ _).mono ?_;rintro e' w' ⟨rfl,rfl⟩)
    all_goals go_ret
    all_goals exact ⟨Cn hno.out.symm,hB1 _⟩
   ·have hE:((e.Ah[k].Bi.length:Int) == 0)=false:=by simp [hfe]
    have hfe:=Lib.hid hfe
    go_wp2_with (go_at_call 151;refine (Lp _ _).mono ?_;rintro e' w' ⟨rfl,rfl⟩)
    ·have t1:B9 e.Ah[k].Ae=true:=by assumption
     refine (Afu _ _ _ _ (hf1 _)).mono ?_
     rintro e' w2 ⟨rfl,hb2⟩
     have hr2:=(hr.alloc _).below hb2
     have q2:=Hm.below (g:=wr.heap.size) (t:=136) (cs:=[.int .i64 e.Ah[k].Ae,.slice fa e.Ah[k].Bi.length fc,.int .i64 e.Ah[k].Ca]) (by simp [Iq]) hb2
     have hB2:=tr (hB1 _) hb2 (Nat.le_refl _)
     have c2:=hr2.cells;have d2:=q2.cells
     clear hb2
     cases t2:Ns 1 7 e.Ah[k].Bi
     ·have hno:=Lib.hid (Nz hlt (fun _=>by rw [Iu hlt];simp [Jf,t2]))
      go_wp2_with fail
      go_ret
      exact ⟨Cn hno.out.symm,hB2⟩
     cases t3:Ig (e.Ai+1) e.Ah[k].Ca (e.Ai+6)
     ·have hno:=Lib.hid (Nz hlt (fun _=>by rw [Iu hlt];simp [Jf,t3]))
      have t3:=Lib.hid t3
      go_wp2_with (go_at_call 87;refine (Kg _ _ _ _).mono ?_;rintro e' w' ⟨rfl,rfl⟩;rw [t3.out])
      go_ret
      exact ⟨Cn hno.out.symm,hB2⟩
     have hAt:=Lib.hid (show U4 e.Ai e.Ah k = !((e.Ah.take k).any fun o=>o.Ae == e.Ah[k].Ae) by rw [Iu hlt];simp [Jf,t1,t2,t3,List.length_pos_iff,hfe.out])
     have t3:=Lib.hid t3
     clear t1 t2 hE hf1 hx
     go_wp2_with (go_at_call 87;refine (Kg _ _ _ _).mono ?_;rintro e' w' ⟨rfl,rfl⟩;rw [t3.out])
     go_loopw [5] (fun j wr2=>∃m:Nat,m≤k∧j=.int .i64 m∧Hid (∀q,q < m→∀hq:q < e.Ah.length,e.Ah[q].Ae≠e.Ah[k].Ae)∧Hm wr2 w.heap.size 77 [.int .i64 e.Ai,.slice (some ⟨b,off,none⟩) e.Ah.length cap]∧Hm wr2 wr.heap.size 136 [.int .i64 e.Ah[k].Ae,.slice fa e.Ah[k].Bi.length fc,.int .i64 e.Ah[k].Ca]∧Below w.heap.size w wr2) (fun j _=>k - (intOf j).toNat)
     case atStart=>exact ⟨0,Nat.zero_le _,rfl,fun q hq=>by omega,hr2,q2,hB2⟩
     case round =>
      obtain ⟨m,hm,rfl,hy,hr3,q3,hB3⟩:=hrel
      rename_i wr2
      have c3:=hr3.cells;have d3:=q3.cells
      by_cases hlm:m < k
      ·have hy0:=hy;clear hy
       obtain ⟨bb,oo,_,F2,he,hx2, -,jb⟩:=(h1.below (by decide) hB3).at m (by omega)
       cases he
       obtain ⟨u2,rfl, -⟩:=hx2
       have b0:=jb 0 (by decide)
       simp only [show Da.sz=3 from rfl,Nat.add_zero,List.getElem?_cons_zero] at b0
       clear jb
       have hmi:m < e.Ah.length:=by omega
       by_cases hnum:e.Ah[m].Ae=e.Ah[k].Ae
       ·have hno:=Lib.hid (Nz hlt fun _=>by rw [hAt.out,Akm hmi hlm (by simpa using hnum)];rfl)
        have hEq:(e.Ah[m].Ae == e.Ah[k].Ae)=true:=by simpa using hnum
        go_wp2_with fail
        go_quiet (fail)
        go_wp2_with fail
        go_ret
        exact ⟨Cn hno.out.symm,Ek hB3 _⟩
       ·have hEq:(e.Ah[m].Ae == e.Ah[k].Ae)=false:=by simpa using hnum
        have hnum:=Lib.hid hnum
        go_wp2_with fail
        go_quiet (fail)
        go_wp2_with fail
        exact ⟨⟨m+1,by omega,by go_num,fun q hq hql=>by rcases Nat.lt_or_eq_of_le (Nat.le_of_lt_succ hq) with h|h;exact hy0.out q h hql;subst h;exact hnum.out,hr3,q3,Ek hB3 _⟩,by simp [intOf];omega⟩
      ·have hmk:m=k:=by omega
       subst hmk
       have hat:U4 e.Ai e.Ah m=true:=by
        rw [hAt.out,Adl hy.out];rfl
       have hat:=Lib.hid hat
       have hy0:=hy;clear hy
       go_wp2_with fail
       exact ⟨⟨m+1,by omega,by go_num,Pa hz0.out hat.out,hr3,hB3⟩,by simp [intOf];omega⟩
    ·have t:¬B9 e.Ah[k].Ae=true:=by assumption
     go_ret
     refine ⟨Cn (Nz hlt fun hc=>?_).symm,hB1 _⟩
     rw [Iu hlt];simp [Jf,t]
  ·have hk:k=e.Ah.length:=by omega
   subst hk
   have hn:=Lib.hid (show Be e=true by rw [hgood.out,Ip hz.out])
   have hz0:=hz;clear hz
   go_wp2_with fail
   go_ret
   exact ⟨Cn hn.out.symm,hB⟩
theorem Pt.Ky {α:Type} {E:Bv α} {w w':World} {v x F K} (h:Pt E w v x F) (hk:Dy K w w') (hd:∀b∈F,b ∉ K):Pt E w' v x F:=by
 obtain ⟨cs,hv,h⟩:=h;exact ⟨cs,hv,E.frame h fun b hb=>hk.block b (E.lt h b hb) (hd b hb)⟩
theorem Pt.lt {α:Type} {E:Bv α} {w:World} {v x F} (h:Pt E w v x F):∀b∈F,b < w.heap.size:=by
 obtain ⟨cs,hv,h⟩:=h;exact E.lt h
theorem Pt.drewN {α:Type} {E:Bv α} {w:World} {v x F} (h:Pt E w v x F) (n:Nat):Pt E (w.drewN n) v x F:=by
 obtain ⟨cs,hv,h⟩:=h;exact ⟨cs,hv,E.frame h fun _ _=>rfl⟩
theorem Sl.drewN {α:Type} {E:Bv α} {w:World} {v} {xs:List α} {F} (h:Sl E w v xs F) (n:Nat):Sl E (w.drewN n) v xs F:=h.frame fun _ _=>rfl
theorem Sl.Ky {α:Type} {E:Bv α} {w w':World} {v} {xs:List α} {F K} (h:Sl E w v xs F) (hk:Dy K w w') (hd:∀b∈F,b ∉ K) (hz:0 < E.sz:=by decide):Sl E w' v xs F :=
 h.frame fun b hb=>hk.block b (h.lt hz b hb) (hd b hb)
theorem Ow.drewN {α:Type} {E:Bv α} {t:TypeId} {w:World} {v} {xs:List α} {F} (h:Ow E t w v xs F) (n:Nat):Ow E t (w.drewN n) v xs F:=h.frame fun _ _=>rfl
theorem Hm.drewN {w g t cs} (h:Hm w g t cs) (n:Nat):Hm (w.drewN n) g t cs:=h
section
variable {P:Program} {ops:Array Oper} {Q:Exit→Act→World→Prop} {md:Region.Mode} {S:World→Prop} {X:Nat→Bool}
def C4 (P:Program) (md:Region.Mode) (ops:Array Oper) (Q:Exit→Act→World→Prop) (S:World→Prop) (X:Nat→Bool):Nat→Array Bool→Act→World→Prop
 | 0,listed,a,w=>Region.ready md ops listed=[]∧Q .normal a w
 | f+1,listed,a,w=>(Region.ready md ops listed=[]→Q .normal a w) ∧
  ∀i∈Region.ready md ops listed,wpOp P ops Q i (fun a' w'=>(X i=false→S w')∧C4 P md ops Q S X f (listed.setIfInBounds i true) a' w') a w
theorem C4.any:∀(f:Nat) (listed:Array Bool) (a:Act) (w:World),C4 P md ops Q S X f listed a w→wpAny P md ops Q f listed a w
 | 0,_,_,_,h=>h
 | f+1,_,_,_,h=>⟨h.1,fun i hi=>wpOp_mono (fun a' w' h'=>C4.any f _ a' w' h'.2) (h.2 i hi)⟩
def T0 (md:Region.Mode) (ops:Array Oper) (listed:Array Bool):Prop:=∀j oj,ops[j]?=some oj→listed.getD j false=true→∀e∈oj.after,Region.binds md e=true→listed.getD e.on false=true
def Ou (md:Region.Mode) (ops:Array Oper) (listed:Array Bool):Bool :=
 (List.range ops.size).all fun j=>!listed.getD j false || ((ops[j]?).map fun o=>o.after.all fun e=>!Region.binds md e || listed.getD e.on false).getD true
theorem Aas {listed:Array Bool} (h:Ou md ops listed=true):T0 md ops listed:=fun j oj hj hl e he hb=>by
 have h1:=List.all_eq_true.1 h j (List.mem_range.2 (Array.getElem?_eq_some_iff.1 hj).1)
 rw [hl,hj] at h1
 simp only [Bool.not_true,Bool.false_or,Option.map_some,Option.getD_some] at h1
 have h2:=Array.all_eq_true'.1 h1 e he
 rw [hb] at h2;simpa using h2
theorem T0.set {listed:Array Bool} {i:Nat} (h:T0 md ops listed) (hi:i∈Region.ready md ops listed):T0 md ops (listed.setIfInBounds i true):=fun j oj hj hl e he hb=>by
 obtain ⟨_,oi,hoi,hall⟩:=mem_ready.1 hi
 by_cases hij:i=j
 ·subst hij
  obtain rfl:=Option.some.inj (hj.symm.trans hoi)
  exact getD_set_true (hall e he hb)
 ·rw [getD_set_ne false hij] at hl
  exact getD_set_true (h j oj hj hl e he hb)
def Pb (md:Region.Mode) (ops:Array Oper) (i:Nat):Nat→Nat→Bool
 | 0,_=>false
 | f+1,j=>((ops[j]?).map fun o=>o.after.any fun e=>Region.binds md e && (e.on == i || Pb md ops i f e.on)).getD false
theorem Rx {listed:Array Bool} {i:Nat} (hc:T0 md ops listed):∀(f j:Nat),(∀oj,ops[j]?=some oj→∀e∈oj.after,Region.binds md e=true→listed.getD e.on false=true)→Pb md ops i f j=true→listed.getD i false=true
 | 0,_,_,h=>by cases h
 | f+1,j,hd,h=>by
  unfold Pb at h
  cases hj:ops[j]? with
  | none=>rw [hj] at h;cases h
  | some o =>
   rw [hj] at h
   simp only [Option.map_some,Option.getD_some] at h
   obtain ⟨e,he,hb⟩:=Array.any_eq_true'.1 h
   simp only [Bool.and_eq_true,Bool.or_eq_true,beq_iff_eq] at hb
   have h1:=hd o hj e he hb.1
   rcases hb.2 with h2|h2
   ·rw [←h2];exact h1
   ·exact Rx hc f e.on (fun oe ho=>hc e.on oe ho h1) h2
def Of (md:Region.Mode) (ops:Array Oper) (X:Nat→Bool) (i:Nat):Bool:=(List.range ops.size).all fun j=>!X j || Pb md ops i ops.size j
theorem Sz {listed:Array Bool} {i:Nat} (h:listed.getD i true=false):listed.getD i false=false:=by
 rcases Nat.lt_or_ge i listed.size with h'|h'
 ·simp [h'] at h ⊢;exact h
 ·simp [Array.getElem?_eq_none h'] at h
theorem C4.first {i:Nat} {oi:Oper} {v:Value} (hi:ops[i]?=some oi) (hsel:∀(j:Nat) (o:Oper) cs b,ops[j]?=some o→o.op≠.select cs b)
  (hQ:∀c a w,Q (.panic c) (a.put oi.dst v) w→Q (.panic c) a w) (hX:Of md ops X i=true) :
  ∀(f:Nat) (listed:Array Bool) (a:Act) (w:World),
   (∀j oj,ops[j]?=some oj→j≠i→listed.getD j true=false→(∀e∈oj.after,Region.binds md e=true→e.on≠i)→oi.apart ops oj=true) →
   T0 md ops listed→i∈Region.ready md ops listed→YieldsIf P ops S oi v a→S w→C4 P md ops Q S X f (listed.setIfInBounds i true) (a.put oi.dst v) w→C4 P md ops Q S X (f+1) listed a w:=by
 intro f
 induction f with
 | zero =>
  intro listed a w _ _ hr hy hS H
  refine ⟨fun h=>(by rw [h] at hr;cases hr),fun j hj=>?_⟩
  by_cases hji:j=i
  ·subst hji;exact hy.wpOp hi hS ⟨fun _=>hS,H⟩
  ·have:=ready_mono hj hji
   rw [H.1] at this;cases this
 | succ f ih =>
  intro listed a w hfree hcl hr hy hS H
  refine ⟨fun h=>(by rw [h] at hr;cases hr),fun j hj=>?_⟩
  by_cases hji:j=i
  ·subst hji;exact hy.wpOp hi hS ⟨fun _=>hS,H⟩
  ·obtain ⟨hju,oj,hoj,hall⟩:=mem_ready.1 hj
   have hiu:=Sz (mem_ready.1 hr).1
   have hnot:∀e∈oj.after,Region.binds md e=true→e.on≠i:=fun e he hb heq=>by
    have h1:=hall e he hb
    rw [heq,hiu] at h1;cases h1
   have hXj:X j=false:=by
    cases hx:X j
    ·rfl
    ·have h1:=List.all_eq_true.1 hX j (List.mem_range.2 (Array.getElem?_eq_some_iff.1 hoj).1)
     rw [hx] at h1
     have h2:=Rx hcl ops.size j (fun o ho=>by obtain rfl:=Option.some.inj (ho.symm.trans hoj);exact hall) (by simpa using h1)
     rw [hiu] at h2;cases h2
   have h2:=wpOp_putIf hoj (hfree j oj hoj hji hju hnot) (fun cs b=>hsel i oi cs b hi) (fun cs b=>hsel j oj cs b hoj) hQ hy (H.2 j (ready_mono hj hji))
   refine wpOp_mono (fun a' w' h3=>⟨fun _=>h3.2.1 hXj,ih (listed.setIfInBounds j true) a' w' (fun k ok hk hki hun hno=>hfree k ok hk hki ?_ hno) (hcl.set hj) (ready_mono hr (Ne.symm hji)) h3.1 (h3.2.1 hXj) ?_⟩) h2
   ·by_cases hjk:j=k
    ·subst hjk;exact hju
    ·rw [getD_set_ne true hjk] at hun;exact hun
   ·rw [Array.setIfInBounds_comm _ _ hji];exact h3.2.2
theorem C4.take {i:Nat} {oi:Oper} {v:Value} {f:Nat} {listed:Array Bool} {a:Act} {w:World} (hi:ops[i]?=some oi)
  (hs:Region.noSelect ops=true) (hf:Region.free md ops listed i=true) (hr:(Region.ready md ops listed).contains i=true) (hX:Of md ops X i=true) (hc:Ou md ops listed=true)
  (hQ:∀c a w,Q (.panic c) (a.put oi.dst v) w→Q (.panic c) a w) (hy:YieldsIf P ops S oi v a) (hS:S w)
  (h:C4 P md ops Q S X f (listed.setIfInBounds i true) (a.put oi.dst v) w):C4 P md ops Q S X (f+1) listed a w :=
 C4.first hi (Region.noSelect_spec hs) hQ hX f listed a w (Region.free_spec hi hf) (Aas hc) (by simpa using hr) hy hS h
theorem C4.only {i:Nat} {o:Oper} {f:Nat} {listed:Array Bool} {a:Act} {w:World} (hr:Region.ready md ops listed=[i]) (ho:ops[i]?=some o)
  (h:∀K':Act→World→Prop,Shut (∀a w,(X i=false→S w)→C4 P md ops Q S X f (listed.setIfInBounds i true) a w→K' a w)→if Region.wanted o (yielded ops a.tmps)=true then Oper.wp P o a w K' Q else K' (a.put o.dst undef) w) :
  C4 P md ops Q S X (f+1) listed a w :=
 by
 refine ⟨fun h0=>(by rw [hr] at h0;cases h0),fun j hj=>?_⟩
 rw [hr] at hj
 obtain rfl:j=i:=by simpa using hj
 exact wpOp_step ho (fun K' hK=>h K' (fun a w hS hW=>hK a w ⟨hS,hW⟩))
theorem C4.two {i j:Nat} {oi oj:Oper} {f:Nat} {listed:Array Bool} {a:Act} {w:World} (hr:Region.ready md ops listed=[i,j]) (hoi:ops[i]?=some oi) (hoj:ops[j]?=some oj)
  (h:∀K':Act→World→Prop,Shut (∀a w,(X i=false→S w)→C4 P md ops Q S X f (listed.setIfInBounds i true) a w→K' a w)→if Region.wanted oi (yielded ops a.tmps)=true then Oper.wp P oi a w K' Q else K' (a.put oi.dst undef) w)
  (h2:∀K':Act→World→Prop,Shut (∀a w,(X j=false→S w)→C4 P md ops Q S X f (listed.setIfInBounds j true) a w→K' a w)→if Region.wanted oj (yielded ops a.tmps)=true then Oper.wp P oj a w K' Q else K' (a.put oj.dst undef) w) :
  C4 P md ops Q S X (f+1) listed a w:=by
 refine ⟨fun h0=>(by rw [hr] at h0;cases h0),fun k hk=>?_⟩
 rw [hr] at hk
 simp only [List.mem_cons,List.not_mem_nil,or_false] at hk
 rcases hk with rfl|rfl
 ·exact wpOp_step hoi (fun K' hK=>h K' (fun a w hS hW=>hK a w ⟨hS,hW⟩))
 ·exact wpOp_step hoj (fun K' hK=>h2 K' (fun a w hS hW=>hK a w ⟨hS,hW⟩))
theorem C4.done {listed:Array Bool} {a:Act} {w:World} (hr:Region.ready md ops listed=[]) (h:Q .normal a w):∀f,C4 P md ops Q S X f listed a w
 | 0=>⟨hr,h⟩
 | _+1=>⟨fun _=>h,by rw [hr];simp⟩
theorem C4.start {id:Nat} {a:Act} {w:World} (hm:P.follows .mixedOrders=true) (h:C4 P .any ops Q S X ops.size (Array.replicate ops.size false) a w.drew):(Code.region id ops true).wp P Q a w :=
 wp_region_any hm (C4.any _ _ _ _ h)
end
inductive Pc:Type 1
 | row (g:Nat) (t:TypeId) (o:Nat) (A cs B:List Value)
 | sl {α:Type} (E:Bv α) (v:Value) (xs:List α) (F:List Nat)
 | ow {α:Type} (E:Bv α) (t:TypeId) (v:Value) (xs:List α) (F:List Nat)
 | isv {α:Type} (E:Bv α) (v:Value) (x:α) (F:List Nat)
 | own {α:Type} (E:Bv α) (v:Value) (x:α) (F:List Nat)
 | cel (b o:Nat) (cs:List Value)
 | flat {α:Type} (E:Bv α) (cs:List Value) (xs:List α) (F:List Nat)
def Pc.P:Pc→World→Prop
 | .row g t o A cs B,w=>A.length=o∧Hm w g t (A++cs++B)
 | .sl E v xs F,w=>0 < E.sz∧Sl E w v xs F
 | .ow E t v xs F,w=>F.Nodup∧Ow E t w v xs F
 | .isv E v x F,w=>Pt E w v x F
 | .own E v x F,w=>F.Nodup∧Pt E w v x F
 | .cel b o cs,w=>cs≠[]∧w.rangeAt b o cs
 | .flat E cs xs F,w=>F.Nodup∧Cw E w cs xs F
def Pc.F:Pc→List Nat
 | .row g ..=>[g]
 | .sl _ _ _ F|.ow _ _ _ _ F|.isv _ _ _ F|.own _ _ _ F|.flat _ _ _ F=>F
 | .cel b ..=>[b]
def Pc.mu:Pc→Bool
 | .row .. | .ow .. | .own .. | .flat ..=>true
 | _=>false
theorem Pc.st (p:Pc) {w w':World} (h:p.P w) (hF:∀b∈p.F,w'.heap[b]?=w.heap[b]?):p.P w':=by
 cases p with
 | row g t o A cs B=>exact ⟨h.1,h.2.Ky (hF g (by simp [Pc.F]))⟩
 | sl E v xs F=>exact ⟨h.1,h.2.frame hF⟩
 | ow E t v xs F=>exact ⟨h.1,h.2.frame hF⟩
 | isv E v x F=>obtain ⟨cs,hv,h⟩:=h;exact ⟨cs,hv,E.frame h hF⟩
 | own E v x F=>obtain ⟨hn,cs,hv,h⟩:=h;exact ⟨hn,cs,hv,E.frame h hF⟩
 | cel b o cs=>exact ⟨h.1,fun j v hv=>(World.cell?_of_block (w:=w) (hF b (by simp [Pc.F]))).trans (h.2 j v hv)⟩
 | flat E cs xs F=>exact ⟨h.1,h.2.frame hF⟩
theorem Pc.lt (p:Pc) {w:World} (h:p.P w):∀b∈p.F,b < w.heap.size:=by
 cases p with
 | row g t o A cs B=>intro b hb;simp [Pc.F] at hb;subst hb;exact h.2.lt
 | sl E v xs F=>exact h.2.lt h.1
 | ow E t v xs F=>exact h.2.lt
 | isv E v x F=>obtain ⟨cs,hv,h⟩:=h;exact E.lt h
 | own E v x F=>obtain ⟨_,cs,hv,h⟩:=h;exact E.lt h
 | cel b o cs =>
  intro c hc
  simp [Pc.F] at hc;subst hc
  cases cs with
  | nil=>exact absurd rfl h.1
  | cons v r=>exact World.block_lt_of_cell? w _ (h.2 0 v rfl)
 | flat E cs xs F=>exact h.2.lt
def Yi (p q:Pc):Prop:=(p.mu || q.mu)=true→∀b∈p.F,b ∉ q.F
theorem Yi.symm {p q:Pc} (h:Yi p q):Yi q p:=fun hm b hb hp=>h (by rw [Bool.or_comm];exact hm) b hp hb
def Px:List Pc→Prop
 | []=>True
 | p::R=>(∀q∈R,Yi p q)∧Px R
def Nf (H:List Pc) (w:World):Prop:=∀p∈H,p.P w
theorem Il {p:Pc} {w:World} (h:p.P w):Nf [p] w:=fun q hq=>by simp at hq;subst hq;exact h
def fp:List Pc→List Nat
 | []=>[]
 | p::R=>p.F++fp R
theorem Oj {b:Nat}:∀{H:List Pc},b∈fp H↔∃p∈H,b∈p.F
 | []=>by simp [fp]
 | p::R=>by simp [fp,Oj (H:=R)]
theorem Nf.st {H:List Pc} {w w':World} (h:Nf H w) (hF:∀p∈H,∀b∈p.F,w'.heap[b]?=w.heap[b]?):Nf H w':=fun p hp=>p.st (h p hp) (hF p hp)
theorem Nf.below {H:List Pc} {w w':World} (h:Nf H w) (hb:Below w.heap.size w w'):Nf H w':=h.st fun p hp b hm=>hb.block b (p.lt (h p hp) b hm)
structure St (G D:List Nat) (w0:World) (H:List Pc) (w:World):Prop where
 Ky:Dy G w0 w
 on:Nf H w
 Zr:Px H
 Wi:∀p∈H,∀b∈p.F,b∈G∨w0.heap.size≤b∨(p.mu=false∧b∈D)
section
variable {G D:List Nat} {w0:World}
theorem Px.perm2 {p q:Pc} {R:List Pc} (h:Px (p::q::R)):Px (q::p::R) :=
 ⟨fun x hx=>by
  rcases List.mem_cons.1 hx with rfl|hx
  ·exact (h.1 q (by simp)).symm
  ·exact h.2.1 x hx,fun x hx=>h.1 x (by simp [hx]),h.2.2⟩
inductive C0:List Pc→Pc→List Pc→Prop
 | here {p R}:C0 (p::R) p R
 | there {x p R R'}:C0 R p R'→C0 (x::R) p (x::R')
theorem C0.mem {H p R} (h:C0 H p R):p∈H:=by
 induction h with
 | here=>simp
 | there _ ih=>simp [ih]
theorem C0.sub {H p R} (h:C0 H p R):∀q∈R,q∈H:=by
 induction h with
 | here=>intro q hq;simp [hq]
 | there _ ih =>
  intro q hq
  rcases List.mem_cons.1 hq with rfl|hq
  ·simp
  ·simp [ih q hq]
theorem C0.Zr {H p R} (h:C0 H p R) (hs:Px H):Px (p::R):=by
 induction h with
 | here=>exact hs
 | @there x p R R' h ih =>
  have h2:=ih hs.2
  exact Px.perm2 ⟨fun q hq=>by
   rcases List.mem_cons.1 hq with rfl|hq
   ·exact hs.1 _ h.mem
   ·exact hs.1 _ (h.sub q hq),h2⟩
theorem St.pick {H p R w} (s:St G D w0 H w) (h:C0 H p R):St G D w0 (p::R) w :=
 ⟨s.Ky,fun q hq=>by
  rcases List.mem_cons.1 hq with rfl|hq
  ·exact s.on _ h.mem
  ·exact s.on _ (h.sub q hq),h.Zr s.Zr,fun q hq=>by
  rcases List.mem_cons.1 hq with rfl|hq
  ·exact s.Wi _ h.mem
  ·exact s.Wi _ (h.sub q hq)⟩
theorem St.tail {p R w} (s:St G D w0 (p::R) w):St G D w0 R w:=⟨s.Ky,fun q hq=>s.on q (by simp [hq]),s.Zr.2,fun q hq=>s.Wi q (by simp [hq])⟩
theorem St.get {H p w} (s:St G D w0 H w) (h:p∈H):p.P w:=s.on p h
theorem St.turn {M R N:List Pc} {w w':World} (s:St G D w0 (M++R) w) (hk:Dy (fp (M.filter (·.mu))) w w') (hN:Nf N w') (hs:Px N)
  (hF:∀p∈N,∀b∈p.F,w.heap.size≤b∨(∃q∈M,q.mu=true∧b∈q.F)∨(p.mu=false∧∃q∈M++R,q.mu=false∧b∈q.F)):St G D w0 (N++R) w':=by
 have hsep:∀(A B:List Pc),Px (A++B)→Px A∧Px B∧∀p∈A,∀q∈B,Yi p q:=by
  intro A
  induction A with
  | nil=>intro B h;exact ⟨trivial,h,by simp⟩
  | cons p A ih =>
   intro B h
   obtain ⟨h1,h2,h3⟩:=ih B h.2
   exact ⟨⟨fun q hq=>h.1 q (by simp [hq]),h1⟩,h2,fun x hx q hq=>by
    rcases List.mem_cons.1 hx with rfl|hx
    ·exact h.1 q (by simp [hq])
    ·exact h3 x hx q hq⟩
 have hjoin:∀(A B:List Pc),Px A→Px B→(∀p∈A,∀q∈B,Yi p q)→Px (A++B):=by
  intro A
  induction A with
  | nil=>intro B _ h _;exact h
  | cons p A ih =>
   intro B hA hB h
   exact ⟨fun q hq=>by
    rcases List.mem_append.1 hq with hq|hq
    ·exact hA.1 q hq
    ·exact h p (by simp) q hq,ih B hA.2 hB fun x hx q hq=>h x (by simp [hx]) q hq⟩
 obtain ⟨sM,sR,sMR⟩:=hsep M R s.Zr
 have hRlt:∀q∈R,∀b∈q.F,b < w.heap.size:=fun q hq=>q.lt (s.on q (by simp [hq]))
 have hMR:∀q∈R,∀b∈q.F,b ∉ fp (M.filter (·.mu)):=fun q hq b hb hm=>by
  obtain ⟨p,hp,hpb⟩:=Oj.1 hm
  obtain ⟨hp,hmu⟩:=List.mem_filter.1 hp
  exact sMR p hp q hq (by simp [hmu]) b hpb hb
 have hG:∀b∈fp (M.filter (·.mu)),b∈G∨w0.heap.size≤b:=fun b hb=>by
  obtain ⟨p,hp,hpb⟩:=Oj.1 hb
  obtain ⟨hp,hmu⟩:=List.mem_filter.1 hp
  rcases s.Wi p (by simp [hp]) b hpb with h|h|⟨h,_⟩
  ·exact .inl h
  ·exact .inr h
  ·rw [hmu] at h;cases h
 refine ⟨⟨hk.os.trans s.Ky.os,hk.tape.trans s.Ky.tape,hk.output.trans s.Ky.output,Nat.le_trans s.Ky.size hk.size,fun k hlt hn=>(hk.block k (Nat.lt_of_lt_of_le hlt s.Ky.size) fun hm=>?_).trans (s.Ky.block k hlt hn)⟩,fun p hp=>?_,hjoin N R hs sR fun p hp q hq hmu b hb hqb=>?_,fun p hp b hb=>?_⟩
 ·rcases hG k hm with h|h
  ·exact hn h
  ·omega
 ·rcases List.mem_append.1 hp with hp|hp
  ·exact hN p hp
  ·exact p.st (s.on p (by simp [hp])) fun b hb=>hk.block b (hRlt p hp b hb) (hMR p hp b hb)
 ·rcases hF p hp b hb with h|⟨m,hm,hmm,hmb⟩|⟨hpm,m,hm,hmm,hmb⟩
  ·have:=hRlt q hq b hqb;omega
  ·exact sMR m hm q hq (by simp [hmm]) b hmb hqb
  ·have hqm:q.mu=true:=by simpa [hpm] using hmu
   rcases List.mem_append.1 hm with hm|hm
   ·exact sMR m hm q hq (by simp [hqm]) b hmb hqb
   ·-- two pieces of R
    have:∀(R:List Pc),Px R→∀m∈R,∀q∈R,m.mu=false→q.mu=true→∀b∈m.F,b ∉ q.F:=by
     intro R
     induction R with
     | nil=>intro _ m hm;simp at hm
     | cons x R ih =>
      intro hs m hm q hq h1 h2 b hb hqb
      rcases List.mem_cons.1 hm with e|hm2
      ·subst e
       rcases List.mem_cons.1 hq with e|hq2
       ·subst e;rw [h1] at h2;cases h2
       ·exact hs.1 q hq2 (by simp [h2]) b hb hqb
      ·rcases List.mem_cons.1 hq with e|hq2
       ·subst e;exact hs.1 m hm2 (by simp [h2]) b hqb hb
       ·exact ih hs.2 m hm2 q hq2 h1 h2 b hb hqb
    exact this R sR m hm q hq hmm hqm b hmb hqb
 ·rcases List.mem_append.1 hp with hp|hp
  ·rcases hF p hp b hb with h|⟨m,hm,hmm,hmb⟩|⟨hpm,m,hm,hmm,hmb⟩
   ·right;left;exact Nat.le_trans s.Ky.size h
   ·rcases s.Wi m (by simp [hm]) b hmb with h|h|⟨h,_⟩
    ·exact .inl h
    ·exact .inr (.inl h)
    ·rw [hmm] at h;cases h
   ·rcases s.Wi m hm b hmb with h|h|⟨_,h⟩
    ·exact .inl h
    ·exact .inr (.inl h)
    ·exact .inr (.inr ⟨hpm,h⟩)
  ·exact s.Wi p (by simp [hp]) b hb
end
abbrev Fr:=List (Nat × Value)
def Oi:Fr→Nat→Option Value
 | [],_=>none
 | (k,v)::r,t=>bif Nat.beq k t then some v else Oi r t
def ev (fr:Fr):Operand→Option Value
 | .tmp t=>Oi fr t
 | .const v=>some v
 | .global g=>some (.pointer (some ⟨g,0,none⟩))
 | .func f=>some (.func (.func f) #[] #[])
inductive Evs (fr:Fr):List Operand→List Value→Prop
 | nil:Evs fr [] []
 | cons {x v xs vs}:ev fr x=some v→Evs fr xs vs→Evs fr (x::xs) (v::vs)
structure Ag (n:Nat) (fr:Fr) (a:Act):Prop where
 df:a.defers=[]
 sz:a.tmps.size=n
 at_:∀t v,Oi fr t=some v→a.tmps[t]?=some v
theorem Ag.ev {n fr a x v} (h:Ag n fr a) (hx:ev fr x=some v):a.eval x=v:=by
 cases x with
 | tmp t=>have:=h.at_ t v hx;simp [Act.eval,Array.getD_eq_getD_getElem?,this]
 | const u=>simp [Go.Proofs.YtaemjogbahcbcaaGreatDoor.ev] at hx;subst hx;rfl
 | global g=>simp [Go.Proofs.YtaemjogbahcbcaaGreatDoor.ev] at hx;subst hx;rfl
 | func f=>simp [Go.Proofs.YtaemjogbahcbcaaGreatDoor.ev] at hx;subst hx;rfl
theorem Ag.evs {n fr a xs vs} (h:Ag n fr a) (hx:Evs fr xs vs):xs.map a.eval=vs:=by
 induction hx with
 | nil=>rfl
 | cons hx _ ih=>simp [h.ev hx,ih]
theorem Qu (k:Nat) (v:Value) (r:Fr) (t:Nat):Oi ((k,v)::r) t=if k=t then some v else Oi r t:=by
 show (bif Nat.beq k t then some v else Oi r t)=_
 by_cases h:k=t
 ·subst h;simp
 ·have:Nat.beq k t=false:=by
   cases hb:Nat.beq k t
   ·rfl
   ·exact absurd (Nat.eq_of_beq_eq_true hb) h
  rw [this,if_neg h];rfl
theorem Ag.put {n fr a d v} (h:Ag n fr a) (hd:Nat.blt d n=true):Ag n ((d,v)::fr) (a.put (some d) v):=by
 have hd':d < n:=by simpa using hd
 refine ⟨h.df,by simp [Act.put,h.sz],fun t u hu=>?_⟩
 rw [Qu] at hu
 show (a.tmps.setIfInBounds d v)[t]?=_
 rw [Array.getElem?_setIfInBounds]
 split at hu
 ·rename_i e;subst e;simp at hu;subst hu;rw [if_pos rfl,if_pos (by rw [h.sz];exact hd')]
 ·rename_i e;rw [if_neg e];exact h.at_ t u hu
inductive J4 (fr:Fr):Fr→Prop
 | nil:J4 fr []
 | cons {t v r}:Oi fr t=some v→J4 fr r→J4 fr ((t,v)::r)
theorem J4.Oi {fr fr':Fr} (h:J4 fr fr'):∀t v,Oi fr' t=some v→Oi fr t=some v:=by
 induction h with
 | nil=>intro t v hv;cases hv
 | cons h1 _ ih =>
  intro t v hv
  rw [Qu] at hv
  split at hv
  ·rename_i e;subst e;rw [←hv];exact h1
  ·exact ih t v hv
theorem Ag.sub {n fr fr' a} (h:Ag n fr a) (hs:J4 fr fr'):Ag n fr' a:=⟨h.df,h.sz,fun t v hv=>h.at_ t v (hs.Oi t v hv)⟩
structure Cx where
 P:Program
 G:List Nat
 D:List Nat
 w0:World
 n:Nat
 R:Exit→Act→World→Prop
inductive It
 | cd (c:Code)
 | blk (id:Nat)
 | lp (I:Act→World→Prop)
def run (c:Cx):List It→Exit→Act→World→Prop
 | []=>c.R
 | .cd y::k=>Exit.then (fun a w=>y.wp c.P (run c k) a w) (run c k)
 | .blk id::k=>Exit.inBlock id (run c k)
 | .lp I::k=>Exit.then I (run c k)
inductive Gl
 | Br (k:List It) (x:Code)
 | list (k:List It) (ops:Array Oper) (l:List Oper)
 | norm (k:List It)
 | exit (k:List It) (id:Nat)
 | fin (e:Exit)
 | dx (k:List It) (H0:List Pc) (X:List Nat) (ops:Array Oper) (f:Nat) (listed:Array Bool)
 | dk (i:Nat) (k:List It) (H0:List Pc) (X:List Nat) (ops:Array Oper) (f:Nat) (listed:Array Bool)
def Gl.sem (c:Cx):Gl→Act→World→Prop
 | .Br k x,a,w=>x.wp c.P (run c k) a w
 | .list k ops l,a,w=>wpList c.P ops (run c k) l a w
 | .norm k,a,w=>run c k .normal a w
 | .exit k id,a,w=>run c k (.exit id) a w
 | .fin e,a,w=>c.R e a w
 | .dx k H0 X ops f listed,a,w=>C4 c.P .any ops (run c k) (Nf H0) (fun i=>X.contains i) f listed a w
 | .dk i k H0 X ops f listed,a,w=>(X.contains i=false→Nf H0 w)∧C4 c.P .any ops (run c k) (Nf H0) (fun i=>X.contains i) f listed a w
structure T (c:Cx) (fr:Fr) (H:List Pc) (Φ:Gl):Prop where
 h:∀a w,St c.G c.D c.w0 H w→Ag c.n fr a→Φ.sem c a w
theorem Yb (c:Cx):∀(k:List It),run c k .ret=c.R .ret
 | []=>rfl
 | .cd _::k=>Yb c k
 | .blk _::k=>Yb c k
 | .lp _::k=>Yb c k
theorem Jz (c:Cx) (ch:List PanicEntry):∀(k:List It),run c k (.panic ch)=c.R (.panic ch)
 | []=>rfl
 | .cd _::k=>Jz c ch k
 | .blk _::k=>Jz c ch k
 | .lp _::k=>Jz c ch k
inductive I8:List Pc→List Pc→Prop
 | nil {A}:I8 A []
 | cons {A p R B}:C0 A p R→I8 R B→I8 A (p::B)
section
variable {c:Cx} {fr:Fr} {H:List Pc} {k:List It} {Φ:Gl}
theorem I8.st {G D w0 w} {H H':List Pc} (h:I8 H H'):∀{X:List Pc},St G D w0 H w→Px X→(∀p∈X,∀q∈H,Yi p q)→(∀p∈X,p.P w∧∀b∈p.F,b∈G∨w0.heap.size≤b∨(p.mu=false∧b∈D)) →
  (∀q∈H',q∈H)∧Px H':=by
 induction h with
 | nil=>intro X _ _ _ _;exact ⟨by simp,trivial⟩
 | @cons A p R B hp hs ih =>
  intro X s hX hXa hXp
  have s1:=s.pick hp
  have ⟨h1,h2⟩:=ih (X:=[]) s1.tail trivial (by simp) (by simp)
  exact ⟨fun q hq=>by
   rcases List.mem_cons.1 hq with rfl|hq
   ·exact hp.mem
   ·exact hp.sub q (h1 q hq),fun q hq=>s1.Zr.1 q (h1 q hq),h2⟩
theorem St.sub {G D w0 w} {H H':List Pc} (s:St G D w0 H w) (h:I8 H H'):St G D w0 H' w :=
 have ⟨h1,h2⟩:=h.st (X:=[]) s trivial (by simp) (by simp)
 ⟨s.Ky,fun p hp=>s.on p (h1 p hp),h2,fun p hp=>s.Wi p (h1 p hp)⟩
theorem Asj (H':List Pc) (h:T c fr H' Φ) (hs:I8 H H':=by repeat (first|exact I8.nil|refine I8.cons (by (repeat (first|exact .here|apply C0.there));first|done|fail) ?_)):T c fr H Φ:=.mk fun a w s g=>h.h a w (s.sub hs) g
theorem Rs {p:Pc} (h:T c fr H Φ):T c fr (p::H) Φ:=.mk fun a w s g=>h.h a w s.tail g
/-! the rules of control -/
theorem Aar {x y:Code} (h:T c fr H (.Br (.cd y::k) x)):T c fr H (.Br k (Code.seq x y)):=.mk fun a w s g=>wp_seq (h.h a w s g)
theorem Yv (h:T c fr H (.norm k)):T c fr H (.Br k Code.skip):=.mk fun a w s g=>wp_skip (h.h a w s g)
theorem Apq (h:T c fr H (.fin .ret)):T c fr H (.Br k Code.ret):=.mk fun a w s g=>wp_ret (by rw [Yb];exact h.h a w s g)
theorem Akp {id:Nat} (h:T c fr H (.exit k id)):T c fr H (.Br k (Code.exit id)):=.mk fun a w s g=>wp_exit (h.h a w s g)
theorem X3 {id:Nat} {x:Code} (h:T c fr H (.Br (.blk id::k) x)):T c fr H (.Br k (Code.block id x)):=.mk fun a w s g=>wp_block (h.h a w s g)
theorem App {id:Nat} {l:List Oper} (h:T c fr H (.list k l.toArray l)):T c fr H (.Br k (Code.region id l.toArray false)):=.mk fun a w s g=>wp_region_lit (h.h a w s g)
theorem c_t {x:Operand} {y z:Code} (hc:ev fr x=some (.bool true)) (h:T c fr H (.Br k y)):T c fr H (.Br k (Code.cond x y z)):=.mk fun a w s g=>wp_cond_true (g.ev hc) (h.h a w s g)
theorem c_f {x:Operand} {y z:Code} (hc:ev fr x=some (.bool false)) (h:T c fr H (.Br k z)):T c fr H (.Br k (Code.cond x y z)):=.mk fun a w s g=>wp_cond_false (g.ev hc) (h.h a w s g)
theorem Bg {x:Operand} {y z:Code} {p:Prop} {_:Decidable p} (hc:ev fr x=some (.bool (decide p))) (h1:p→T c fr H (.Br k y)) (h2:¬p→T c fr H (.Br k z)) :
  T c fr H (.Br k (Code.cond x y z)):=.mk fun a w s g=>by
 by_cases hp:p
 ·exact wp_cond_true (by rw [g.ev hc,decide_eq_true hp]) ((h1 hp).h a w s g)
 ·exact wp_cond_false (by rw [g.ev hc,decide_eq_false hp]) ((h2 hp).h a w s g)
theorem Alp {y:Code} (h:T c fr H (.Br k y)):T c fr H (.norm (.cd y::k)):=⟨h.h⟩
theorem Ag4 {id:Nat} (h:T c fr H (.norm k)):T c fr H (.norm (.blk id::k)):=⟨h.h⟩
theorem Ar9 (h:T c fr H (.fin .normal)):T c fr H (.norm []):=⟨h.h⟩
theorem Ar4 {y:Code} {id:Nat} (h:T c fr H (.exit k id)):T c fr H (.exit (.cd y::k) id):=⟨h.h⟩
theorem Ar5 {I:Act→World→Prop} {id:Nat} (h:T c fr H (.exit k id)):T c fr H (.exit (.lp I::k) id):=⟨h.h⟩
theorem Aps {id:Nat} (h:T c fr H (.norm k)):T c fr H (.exit (.blk id::k) id):=.mk fun a w s g=>by
 show (if id=id then run c k .normal a w else run c k (.exit id) a w)
 rw [if_pos rfl];exact h.h a w s g
theorem Akv {id id':Nat} (hne:Nat.beq id' id=false) (h:T c fr H (.exit k id')):T c fr H (.exit (.blk id::k) id'):=.mk fun a w s g=>by
 show (if id'=id then run c k .normal a w else run c k (.exit id') a w)
 rw [if_neg (fun e=>by rw [e] at hne;simp at hne)];exact h.h a w s g
theorem Ahm {ops:Array Oper} (h:T c fr H (.norm k)):T c fr H (.list k ops []):=⟨h.h⟩
/-! loops -/
theorem Zc {p:Nat→Prop}:∀n,p n→∃m,p m∧∀j,p j→m≤j:=fun n=>by
 induction n using Nat.strongRecOn with
 | _ n ih =>
  intro hn
  by_cases h:∃j,j < n∧p j
  ·obtain ⟨j,hj,hp⟩:=h;exact ih j hj hp
  ·exact ⟨n,hn,fun j hj=>Nat.le_of_not_lt fun hl=>h ⟨j,hl,hj⟩⟩
theorem Ajw {P:Program} {Q:Exit→Act→World→Prop} {x:Code} {a:Act} {w:World} (I:Nat→Act→World→Prop) (m:Nat) (h0:I m a w)
  (round:∀m a w,I m a w→x.wp P (Exit.then (fun a' w'=>∃m',m' < m∧I m' a' w') Q) a w):(Code.loop x).wp P Q a w:=by
 classical
 refine wp_loop (fun a w=>∃m,I m a w) (fun a w=>if h:∃m,I m a w then Classical.choose (Zc (p:=fun m=>I m a w) h.choose h.choose_spec) else 0) ⟨m,h0⟩ fun a w hI=>?_
 have hl:=Classical.choose_spec (Zc (p:=fun m=>I m a w) hI.choose hI.choose_spec)
 refine wp_mono (round _ a w hl.1) fun e a' w' he=>?_
 cases e with
 | normal =>
  obtain ⟨m',hm,hi⟩:=he
  have hex:∃m,I m a' w':=⟨m',hi⟩
  refine ⟨hex,?_⟩
  simp only [dif_pos hI,dif_pos hex]
  exact Nat.lt_of_le_of_lt ((Classical.choose_spec (Zc (p:=fun m=>I m a' w') hex.choose hex.choose_spec)).2 m' hi) hm
 | _=>exact he
def LpI {σ:Type} (c:Cx) (fr':σ→Fr) (H':σ→List Pc) (C:σ→Prop) (μ:σ→Nat) (m:Nat) (a:Act) (w:World):Prop:=∃s,C s∧μ s=m∧St c.G c.D c.w0 (H' s) w∧Ag c.n (fr' s) a
def LpN {σ:Type} (c:Cx) (fr':σ→Fr) (H':σ→List Pc) (C:σ→Prop) (μ:σ→Nat) (m:Nat) (a:Act) (w:World):Prop:=∃m',m' < m∧LpI c fr' H' C μ m' a w
theorem Akq {x:Code} {σ:Type} (fr':σ→Fr) (H':σ→List Pc) (C:σ→Prop) (μ:σ→Nat) (s0:σ) (h0:C s0)
  (round:∀s,C s→T c (fr' s) (H' s) (.Br (.lp (LpN c fr' H' C μ (μ s))::k) x)) (hf:J4 fr (fr' s0):=by repeat (first|exact J4.nil|refine J4.cons (by rfl) ?_)) (hH:I8 H (H' s0):=by repeat (first|exact I8.nil|refine I8.cons (by (repeat (first|exact .here|apply C0.there));first|done|fail) ?_)):T c fr H (.Br k (Code.loop x)):=.mk fun a w st g=>by
 refine Ajw (LpI c fr' H' C μ) (μ s0) ⟨s0,h0,rfl,st.sub hH,g.sub hf⟩ fun m a w hI=>?_
 obtain ⟨s,hC,rfl,hst,hg⟩:=hI
 exact (round s hC).h a w hst hg
theorem Ck {σ:Type} {fr':σ→Fr} {H':σ→List Pc} {C:σ→Prop} {μ:σ→Nat} {m:Nat} (s:σ) (hC:C s) (hm:μ s < m) (hf:J4 fr (fr' s):=by repeat (first|exact J4.nil|refine J4.cons (by rfl) ?_)) (hH:I8 H (H' s):=by repeat (first|exact I8.nil|refine I8.cons (by (repeat (first|exact .here|apply C0.there));first|done|fail) ?_)) :
  T c fr H (.norm (.lp (LpN c fr' H' C μ m)::k)):=.mk fun _ _ st g=>⟨μ s,hm,s,hC,rfl,st.sub hH,g.sub hf⟩
end
class OneC (P:Program) (t:TypeId):Prop where
 d:∃d,P.underlying t=some d∧d.isRow=false
 s:(P.info? t).map (·.size)=some 1
class AggC (P:Program) (t:TypeId) (n:outParam Nat):Prop where
 d:∃d,P.underlying t=some d∧d.isRow=true
 s:(P.info? t).map (·.size)=some n
class FldC (P:Program) (t:TypeId) (i:Nat) (off:outParam Nat) (ft:outParam TypeId) (n:outParam Nat):Prop where
 f:∃fs f,P.underlying t=some (.struct fs)∧fs[i]?=some f∧f.offset=off∧f.type=ft
 s:(P.info? ft).map (·.size)=some n
 p:n≠0
class SlC (P:Program) (t:TypeId) (e:outParam TypeId) (n:outParam Nat):Prop where
 u:P.underlying t=some (.slice e)
 s:(P.info? e).map (·.size)=some n
class IntC (P:Program) (t:TypeId) (k:outParam IntKind):Prop where
 u:P.underlying t=some (.int k)
class StrC (P:Program) (t:TypeId):Prop where
 u:P.underlying t=some .string
class BoolC (P:Program) (t:TypeId):Prop where
 u:P.underlying t=some .bool
def Ez (g o j:Nat):Value:=.pointer (some ⟨g,o+j,none⟩)
structure Yd (P:Program) (n:Nat) (fr:Fr) (H:List Pc) (o:Op) (ty:TypeId) (v:Value):Prop where
 h:∀(a:Act) (w:World) (d:Option Tmp) (pos:String) (Cg:Array Edge) (g:Option (Nat × Bool)),Ag n fr a→Nf H w→(execOp a.eval ⟨d,o,ty,pos,Cg,g⟩).run P w=.ok (.value v) w
theorem Xl (a b:ByteArray):(a.toList == b.toList)=decide (a=b):=by
 rw [Bool.eq_iff_iff]
 simp only [beq_iff_eq,decide_eq_true_eq,ByteArray.toList_eq]
 exact ⟨fun h=>ByteArray.ext (Array.ext' h),fun h=>by rw [h]⟩
section
variable {P:Program} {n:Nat} {fr:Fr} {H:List Pc} {ty:TypeId} {v u:Value} {x y z:Operand}
theorem Ki {t:TypeId} {n:Nat} (h:(P.info? t).map (·.size)=some n) (w:World):(sizeOf t).run P w=.ok n w:=by
 obtain ⟨i,hi,hn⟩:=Option.map_eq_some_iff.1 h
 simp [sizeOf,typeInfo,hi,hn]
theorem Ad3 {t:TypeId} (h:∃d,P.underlying t=some d∧d.isRow=false) (w:World):(isAgg t).run P w=.ok false w:=by
 obtain ⟨d,hu,hd⟩:=h
 unfold isAgg
 rw [Sem.run_bind,run_underlying hu w]
 cases d <;> simp_all
theorem Aij {t:TypeId} (h:∃d,P.underlying t=some d∧d.isRow=true) (w:World):(isAgg t).run P w=.ok true w:=by
 obtain ⟨d,hu,hd⟩:=h
 unfold isAgg
 rw [Sem.run_bind,run_underlying hu w]
 cases d <;> simp_all
theorem Apj (hx:ev fr x=some v):Yd P n fr H (.move x) ty v:=.mk fun a w d pos Cg g hA _=>by
 simp [execOp,hA.ev hx]
theorem Ajx (hx:ev fr x=some v):Yd P n fr H (.assign x) ty v:=.mk fun a w d pos Cg g hA _=>by
 simp [execOp,hA.ev hx]
theorem Aj1 (hc:ev fr x=some (.bool true)) (hy:ev fr y=some v):Yd P n fr H (.pick x y z) ty v:=.mk fun a w d pos Cg g hA _=>by
 simp [execOp,hA.ev hc,hA.ev hy,asBool]
theorem Aj0 (hc:ev fr x=some (.bool false)) (hz:ev fr z=some v):Yd P n fr H (.pick x y z) ty v:=.mk fun a w d pos Cg g hA _=>by
 simp [execOp,hA.ev hc,hA.ev hz,asBool]
theorem Vp {w:World} {g t o j:Nat} {A cs B:List Value} (h:(Pc.row g t o A cs B).P w) (hv:cs[j]?=some v):w.cell? ⟨g,o+j,none⟩=some v:=by
 obtain ⟨rfl,h⟩:=h
 rw [h.cellMid rfl (List.getElem?_eq_some_iff.1 hv).1];exact hv
theorem Gh {w:World} {g t o:Nat} {A cs B:List Value} (h:(Pc.row g t o A cs B).P w):w.rangeAt g o cs:=fun _ _ hv=>Vp h hv
theorem Aji {w:World} {g t o:Nat} {A cs B:List Value} (h:(Pc.row g t o A cs B).P w):w.there g o cs.length:=fun j hj =>
 ⟨by rw [Vp h (List.getElem?_eq_getElem hj)];rfl,h.2.frozen _⟩
theorem Ze {t:TypeId} [hT:OneC P t] {w:World} {a:Addr} (h:w.cell? a=some v):(Instr.loadAt t (.pointer (some a))).run P w=.ok v w:=by
 simp [Instr.loadAt,Instr.sureAddr,loadVar,Ad3 hT.d,h]
theorem Asv {t g o j tt:Nat} {A cs B:List Value} [OneC P t] (hx:ev fr x=some (Ez g o j)) (hm:Pc.row g tt o A cs B∈H) (hv:cs[j]?=some v):Yd P n fr H (.load t x) ty v:=.mk fun a w d pos Cg gd hA hH=>by
 simp [execOp,hA.ev hx,Ez,Ze (Vp (hH _ hm) hv)]
theorem Arj {t b o j:Nat} {cs:List Value} [OneC P t] (hx:ev fr x=some (Ez b o j)) (hm:Pc.cel b o cs∈H) (hv:cs[j]?=some v):Yd P n fr H (.load t x) ty v:=.mk fun a w d pos Cg gd hA hH=>by
 simp [execOp,hA.ev hx,Ez,Ze ((hH _ hm).2 j v hv)]
inductive Cut:List Value→Nat→Nat→List Value→Prop
 | zero {l}:Cut l 0 0 []
 | one {x l m r}:Cut l 0 m r→Cut (x::l) 0 (m+1) (x::r)
 | skip {x l j m r}:Cut l j m r→Cut (x::l) (j+1) m r
theorem Cut.get {l j m r} (h:Cut l j m r):r.length=m∧∀(i:Nat) u,r[i]?=some u→l[j+i]?=some u:=by
 induction h with
 | zero=>exact ⟨rfl,fun i u h=>by simp at h⟩
 | one _ ih =>
  refine ⟨by simp [ih.1],fun i u h=>?_⟩
  cases i with
  | zero=>simpa using h
  | succ i=>have:=ih.2 i u (by simpa using h);simpa [Nat.add_assoc] using this
 | skip _ ih =>
  refine ⟨ih.1,fun i u h=>?_⟩
  have:=ih.2 i u h
  rwa [show ∀a b:Nat,a+1+b=a+b+1 by omega,List.getElem?_cons_succ]
theorem Zd {t m:Nat} [hT:AggC P t m] {w:World} {b o j:Nat} {cs r:List Value} (h:w.rangeAt b o cs) (hc:Cut cs j m r):(Instr.loadAt t (.pointer (some ⟨b,o+j,none⟩))).run P w=.ok (.agg r.toArray) w:=by
 obtain ⟨d,hu,hd⟩:=hT.d
 exact run_loadAt_mid w b (o+j) t r d (fun i u hu=>by rw [Nat.add_assoc];exact h _ _ (hc.get.2 i u hu)) hu hd (by rw [hT.s,hc.get.1])
theorem Ari {t g o j tt m:Nat} {A cs B r:List Value} [AggC P t m] (hx:ev fr x=some (Ez g o j)) (hm:Pc.row g tt o A cs B∈H) (hc:Cut cs j m r):Yd P n fr H (.load t x) ty (.agg r.toArray):=.mk fun a w d pos Cg gd hA hH=>by
 simp [execOp,hA.ev hx,Ez,Zd (Gh (hH _ hm)) hc]
theorem Aph {t b o j m:Nat} {cs r:List Value} [AggC P t m] (hx:ev fr x=some (Ez b o j)) (hm:Pc.cel b o cs∈H) (hc:Cut cs j m r):Yd P n fr H (.load t x) ty (.agg r.toArray):=.mk fun a w d pos Cg gd hA hH=>by
 simp [execOp,hA.ev hx,Ez,Zd (hH _ hm).2 hc]
theorem Asq {t i g o j off ft m:Nat} [hF:FldC P t i off ft m] (hx:ev fr x=some (Ez g o j)):Yd P n fr H (.fieldAddr t x i) ty (Ez g o (j+off)):=.mk fun a w d pos Cg gd hA _=>by
 obtain ⟨fs,f,hu,hf,rfl,rfl⟩:=hF.f
 simp [execOp,hA.ev hx,Ez,Instr.fieldAt,run_underlying hu,hf,Instr.sureAddr,fieldPlace,Ki hF.s,hF.p,Addr.add_lit,Nat.add_assoc]
theorem Arf {t i off ft m:Nat} {l:List Value} [hF:FldC P t i off ft m] [hT:OneC P ft] (hx:ev fr x=some (.agg l.toArray)) (hv:l[off]?=some v):Yd P n fr H (.field t x i) ty v:=.mk fun a w d pos Cg gd hA _=>by
 obtain ⟨fs,f,hu,hf,rfl,rfl⟩:=hF.f
 simp [execOp,hA.ev hx,Instr.field,run_underlying hu,hf,asAgg,part,Ad3 hT.d,hv]
theorem Apg {t i off ft m m':Nat} {l r:List Value} [hF:FldC P t i off ft m] [hT:AggC P ft m'] (hx:ev fr x=some (.agg l.toArray)) (hc:Cut l off m' r):Yd P n fr H (.field t x i) ty (.agg r.toArray):=.mk fun a w d pos Cg gd hA _=>by
 obtain ⟨fs,f,hu,hf,rfl,rfl⟩:=hF.f
 have e:l.toArray.extract f.offset (f.offset+m')=r.toArray:=by
  obtain ⟨h1,h2⟩:=hc.get
  apply Array.ext'
  simp only [List.extract_toArray,List.extract_eq_take_drop,Nat.add_sub_cancel_left]
  apply List.ext_getElem?
  intro i
  rw [List.getElem?_take]
  split
  ·rename_i hi
   have hr:r[i]?=some (r[i]'(by omega)):=List.getElem?_eq_getElem (by omega)
   rw [List.getElem?_drop,hr];exact h2 i _ hr
  ·rw [List.getElem?_eq_none (by omega)]
 simp [execOp,hA.ev hx,Instr.field,run_underlying hu,hf,asAgg,part,Aij hT.d,Ki hT.s,←e]
theorem Arr {g o j:Nat} (hx:ev fr x=some (Ez g o j)):Yd P n fr H (.nilCheck x) ty (Ez g o j):=.mk fun a w d pos Cg gd hA _=>by
 simp [execOp,hA.ev hx,Ez]
theorem Apk {f:Nat} {l:Array Value} (hx:ev fr x=some (.func (.func f) #[] l)):Yd P n fr H (.nilCheck x) ty (.func (.func f) #[] l):=.mk fun a w d pos Cg gd hA _=>by
 simp [execOp,hA.ev hx]
theorem Asu {t e m b o len cp:Nat} {kd:IntKind} {i:Int} [hS:SlC P t e m] (hx:ev fr x=some (.slice (some ⟨b,o,none⟩) len cp)) (hy:ev fr y=some (.int kd i)) (h0:0≤i) (h1:i < len) :
  Yd P n fr H (.indexAddr t x y) ty (Ez b (o+i.toNat * m) 0):=.mk fun a w d pos Cg gd hA _=>by
 simp [execOp,hA.ev hx,hA.ev hy,Instr.indexAt,run_underlying hS.u,asIntOf,h0,h1,Ki hS.s,Addr.add_lit,Ez]
theorem Arh {t:Nat} {kd:IntKind} {i:Int} {s:ByteArray} [hS:StrC P t] (hx:ev fr x=some (.string s)) (hy:ev fr y=some (.int kd i)) (h0:0≤i) (h1:i.toNat < s.size) :
  Yd P n fr H (.index t x y) ty (.int .u8 (s[i.toNat]'h1).toNat):=.mk fun a w d pos Cg gd hA _=>by
 simp [execOp,hA.ev hx,hA.ev hy,Instr.index,run_underlying hS.u,asIntOf,h0,h1]
theorem Asp {i:Nat} {l:List Value} (hx:ev fr x=some (.tuple l.toArray)) (hv:l[i]?=some v):Yd P n fr H (.extract x i) ty v:=.mk fun a w d pos Cg gd hA _=>by
 simp [execOp,hA.ev hx,Instr.extract,hv]
theorem Ars {b:Bool} {t:Nat} (hx:ev fr x=some (.bool b)):Yd P n fr H (.unOp .not t x) ty (.bool (!b)):=.mk fun a w d pos Cg gd hA _=>by
 simp [execOp,hA.ev hx,Op.unary]
theorem Apl {p:Prop} {_:Decidable p} {t:Nat} (hx:ev fr x=some (.bool (decide p))):Yd P n fr H (.unOp .not t x) ty (.bool (decide (¬p))):=.mk fun a w d pos Cg gd hA _=>by
 simp [execOp,hA.ev hx,Op.unary]
theorem Arp {a:Int} {t:Nat} (hx:ev fr x=some (.int .i64 a)) (h0:-9223372036854775808≤-a) (h1:-a≤9223372036854775807):Yd P n fr H (.unOp .neg t x) ty (.int .i64 (-a)):=.mk fun a w d pos Cg gd hA _=>by
 simp [execOp,hA.ev hx,Op.unary,Op.intArith,IntWalk.i64_in _ ⟨h0,h1⟩]
section
variable {a b:Int} {t t':TypeId} (hx:ev fr x=some (.int .i64 a)) (hy:ev fr y=some (.int .i64 b))
include hx hy
theorem Arb (h0:-9223372036854775808≤a+b) (h1:a+b≤9223372036854775807):Yd P n fr H (.binOp .add t x y t') ty (.int .i64 (a+b)):=.mk fun a w d pos Cg gd hA _=>by
 simp [execOp,hA.ev hx,hA.ev hy,eqGuard_add,binOp_add,Op.intArith,IntWalk.i64_in _ ⟨h0,h1⟩]
theorem Arv (h0:-9223372036854775808≤a - b) (h1:a - b≤9223372036854775807):Yd P n fr H (.binOp .sub t x y t') ty (.int .i64 (a - b)):=.mk fun a w d pos Cg gd hA _=>by
 simp [execOp,hA.ev hx,hA.ev hy,eqGuard_sub,binOp_sub,Op.intArith,IntWalk.i64_in _ ⟨h0,h1⟩]
theorem Arn (h0:-9223372036854775808≤a * b) (h1:a * b≤9223372036854775807):Yd P n fr H (.binOp .mul t x y t') ty (.int .i64 (a * b)):=.mk fun a w d pos Cg gd hA _=>by
 simp [execOp,hA.ev hx,hA.ev hy,eqGuard_mul,binOp_mul,Op.intArith,IntWalk.i64_in _ ⟨h0,h1⟩]
theorem Art (h0:0≤a) (h2:a≤9223372036854775807) (h1:0 < b):Yd P n fr H (.binOp .quo t x y t') ty (.int .i64 (a / b)):=.mk fun c w d pos Cg gd hA _=>by
 have hle:a / b≤a:=Int.ediv_le_self _ h0
 have hge:0≤a / b:=Int.ediv_nonneg h0 (by omega)
 have hb:b≠0:=by omega
 simp [execOp,hA.ev hx,hA.ev hy,eqGuard_quo,binOp_quo,Op.intDiv,hb,Int.tdiv_eq_ediv_of_nonneg h0,IntWalk.i64_in _ ⟨(by omega:-9223372036854775808≤a / b),(by omega:a / b≤9223372036854775807)⟩]
theorem Aru (h0:0≤a) (h1:0 < b):Yd P n fr H (.binOp .rem t x y t') ty (.int .i64 (a % b)):=.mk fun c w d pos Cg gd hA _=>by
 have hb:b≠0:=by omega
 simp [execOp,hA.ev hx,hA.ev hy,eqGuard_rem,binOp_rem,Op.intDiv,hb,Int.tmod_eq_emod_of_nonneg h0]
end
section
variable {a b:Int} {k:IntKind} {t t':TypeId} (hx:ev fr x=some (.int k a)) (hy:ev fr y=some (.int k b))
include hx hy
theorem Arm {ts:Array TypeId}:Yd P n fr H (.call { callee:=.builtin .min,args:=#[x,y],argTypes:=ts }) ty (.int k (min a b)):=.mk fun c w d pos Cg gd hA _=>by
 have e:(if b < a then b else a)=min a b:=by split <;> omega
 simp [execOp,hA.ev hx,hA.ev hy,resolve,invoke,builtin,run_min_int2,e]
theorem Arl {ts:Array TypeId}:Yd P n fr H (.call { callee:=.builtin .max,args:=#[x,y],argTypes:=ts }) ty (.int k (max a b)):=.mk fun c w d pos Cg gd hA _=>by
 have e:(if a < b then b else a)=max a b:=by split <;> omega
 simp [execOp,hA.ev hx,hA.ev hy,resolve,invoke,builtin,run_max_int2,e]
theorem Asx:Yd P n fr H (.binOp .lss t x y t') ty (.bool (decide (a < b))):=.mk fun a w d pos Cg gd hA _=>by
 simp [execOp,hA.ev hx,hA.ev hy,eqGuard_lss,binOp_lss]
theorem Asw:Yd P n fr H (.binOp .leq t x y t') ty (.bool (decide (a≤b))):=.mk fun a w d pos Cg gd hA _=>by
 simp [execOp,hA.ev hx,hA.ev hy,eqGuard_leq,binOp_leq]
theorem Ast:Yd P n fr H (.binOp .gtr t x y t') ty (.bool (decide (b < a))):=.mk fun a w d pos Cg gd hA _=>by
 simp [execOp,hA.ev hx,hA.ev hy,eqGuard_gtr,binOp_gtr]
theorem Ass:Yd P n fr H (.binOp .geq t x y t') ty (.bool (decide (b≤a))):=.mk fun a w d pos Cg gd hA _=>by
 simp [execOp,hA.ev hx,hA.ev hy,eqGuard_geq,binOp_geq]
theorem Aso:Yd P n fr H (.binOp .eql t x y t') ty (.bool (decide (a=b))):=.mk fun a w d pos Cg gd hA _=>by
 simp [execOp,hA.ev hx,hA.ev hy,eqGuard_at_int,binOp_eql];rfl
theorem Asy:Yd P n fr H (.binOp .neq t x y t') ty (.bool (decide (¬a=b))):=.mk fun a w d pos Cg gd hA _=>by
 simp [execOp,hA.ev hx,hA.ev hy,eqGuard_at_int,binOp_neq,bne];rfl
end
section
variable {a b:ByteArray} {t t':TypeId} (hx:ev fr x=some (.string a)) (hy:ev fr y=some (.string b))
include hx hy
theorem Arc (h:a.size+b.size≤9223372036854775807):Yd P n fr H (.binOp .add t x y t') ty (.string (a++b)):=.mk fun c w d pos Cg gd hA _=>by
 have:¬((a.size:Int)+b.size > 9223372036854775807):=by omega
 simp [execOp,hA.ev hx,hA.ev hy,eqGuard_add,binOp,Op.stringOp,this]
theorem Are:Yd P n fr H (.binOp .eql t x y t') ty (.bool (decide (a=b))):=.mk fun c w d pos Cg gd hA _=>by
 simp [execOp,hA.ev hx,hA.ev hy,eqGuard_at_string,binOp,Op.stringOp,Xl a b]
theorem Arq:Yd P n fr H (.binOp .neq t x y t') ty (.bool (decide (¬a=b))):=.mk fun c w d pos Cg gd hA _=>by
 simp [execOp,hA.ev hx,hA.ev hy,eqGuard_at_string,binOp,Op.stringOp,Xl a b]
end
theorem Yx {t:TypeId} [hB:BoolC P t] (a b:Bool) (w:World):(Op.equal t (.bool a) (.bool b)).run P w=.ok (a == b) w:=by
 unfold Op.equal
 rw [show Op.maxDepth=9999+1 from rfl]
 unfold Op.equalIn
 rw [Sem.run_bind,run_underlying hB.u w]
 rfl
theorem Ard {a b:Bool} {t t':TypeId} [hB:BoolC P t] (hx:ev fr x=some (.bool a)) (hy:ev fr y=some (.bool b)):Yd P n fr H (.binOp .eql t x y t') ty (.bool (decide (a=b))):=.mk fun c w d pos Cg gd hA _=>by
 have e:binOp .eql t (.bool a) (.bool b)=(do pure (.bool (←Op.equal t (.bool a) (.bool b)))):=rfl
 simp only [execOp,hA.ev hx,hA.ev hy,eqGuard_at_bool,e,Sem.run_bind,Sem.run_pure,Result.andThen_ok,Yx];cases a <;> cases b <;> rfl
theorem Aro {a b:Bool} {t t':TypeId} [hB:BoolC P t] (hx:ev fr x=some (.bool a)) (hy:ev fr y=some (.bool b)):Yd P n fr H (.binOp .neq t x y t') ty (.bool (decide (¬a=b))):=.mk fun c w d pos Cg gd hA _=>by
 have e:binOp .neq t (.bool a) (.bool b)=(do pure (.bool (!(←Op.equal t (.bool a) (.bool b))))):=rfl
 simp only [execOp,hA.ev hx,hA.ev hy,eqGuard_at_bool,e,Sem.run_bind,Sem.run_pure,Result.andThen_ok,Yx];cases a <;> cases b <;> rfl
theorem Ahn {k k':IntKind} {a:Int} {s t:TypeId} [hS:IntC P s k'] [hD:IntC P t .i64] (hx:ev fr x=some (.int k a)) (h0:-9223372036854775808≤a) (h1:a≤9223372036854775807):Yd P n fr H (.convert s t x) ty (.int .i64 a):=.mk fun c w d pos Cg gd hA _=>by
 simp [execOp,hA.ev hx,convert,run_underlying hS.u,run_underlying hD.u,Conv.intToInt,IntWalk.i64_in _ ⟨h0,h1⟩]
theorem Ark {a:Option Addr} {len cp t e m:Nat} [hS:SlC P t e m] (hx:ev fr x=some (.slice a len cp)):Yd P n fr H (.call { callee:=.builtin .len,args:=#[x],argTypes:=#[t] }) ty (.int .i64 len):=.mk fun c w d pos Cg gd hA _=>by
 simp [execOp,hA.ev hx,resolve,invoke,builtin,Builtin.len_,run_underlying hS.u,goInt]
theorem Api {s:ByteArray} {t:Nat} [hS:StrC P t] (hx:ev fr x=some (.string s)):Yd P n fr H (.call { callee:=.builtin .len,args:=#[x],argTypes:=#[t] }) ty (.int .i64 s.size):=.mk fun c w d pos Cg gd hA _=>by
 simp [execOp,hA.ev hx,resolve,invoke,builtin,run_len_string (h:=hS.u),goInt]
theorem Mc {t e m i:Nat} {a:Option Addr} {len cp:Nat} {z:Int} [hS:SlC P t e m] (hx:ev fr x=some (.slice a len cp)) (hy:ev fr y=some (.int .i64 z)) (hz:z=(i:Int)) (hi:i≤cp) (hc:cp≤9223372036854775807):Yd P n fr H (.slice t x none (some y) none) ty (.slice a i cp):=.mk fun ac w d pos Cg gd hA _=>by
 subst hz
 have he2:P.elem t=e:=by simp [Program.elem,hS.u]
 have h3:(Instr.sliceAt t (.slice a len cp) none (some (.int .i64 (i:Int))) none).run P w=.ok (.slice a i cp) w:=by
  rw [run_sliceAt_slice (h:=by rw [he2];exact hS.u),run_slice_h (ht:=by rw [he2];exact hS.u) (h0:=by omega) (h2:=by omega),he2,Ki hS.s]
  have h0:a.map (fun b=>b.add 0)=a:=by cases a <;> simp [Addr.add]
  simp [Result.andThen,sliced,h0]
 simp only [execOp,Option.map_none,Option.map_some,hA.ev hx,hA.ev hy,Sem.run_bind,h3,Result.andThen_ok,Sem.run_pure]
theorem Asr {f:Nat} {caps:List Operand} {vs:List Value} (hc:Evs fr caps vs):Yd P n fr H (.makeFunc (.func f) #[] caps.toArray) ty (.func (.func f) #[] vs.toArray):=.mk fun c w d pos Cg gd hA _=>by
 simp [execOp,Instr.makeFunc,hA.evs hc]
end
class ZC (P:Program) (t:TypeId) (zs:outParam (List Value)):Prop where
 z:∃v,(P.info? t).map (·.zero)=some (some v)∧v.cells=zs.toArray
class ElT (P:Program) (e:TypeId) (z:outParam Value) (n:outParam Nat) (by_:outParam Nat):Prop where
 i:(P.info? e).map (fun i=>(i.zero,i.size,i.bytes))=some (some z,n,by_)
 s:z.cells.size=n
class BldC (P:Program) (t:TypeId) (pl:outParam (List (Nat × Nat))) (zs:outParam (List Value)):Prop where
 b:∀parts,P.built t parts=Instr.fill (pl.toArray[·]?) zs.toArray parts
def Om (P:Program) (f:FuncId):Bool:=match P.funcs[f]? with
 | some fn=>!(fn.name == "runtime.NumGoroutine") && !fn.body.isNone
 | none=>false
theorem Q6 {P:Program} {f:FuncId} (h:Om P f=true):Tm P f:=by
 unfold Om at h
 split at h
 ·rename_i fn hf
  simp only [Bool.and_eq_true,Bool.not_eq_true'] at h
  exact .mk' hf h.1 h.2
 ·cases h
structure Ef (c:Cx) (fr:Fr) (H:List Pc) (o:Oper) (Φ:Gl):Prop where
 h:∀Q a w,St c.G c.D c.w0 H w→Ag c.n fr a→o.wp c.P a w (Φ.sem c) Q
structure Cl (c:Cx) (fr:Fr) (H:List Pc) (d:Nat) (f:FuncId) (vs:List Value) (Φ:Gl):Prop where
 h:∀w,St c.G c.D c.w0 H w→∃R:Ending→World→Prop,Calls c.P f vs.toArray w R∧∀e w',R e w'→∃v,e=.returned v∧∀a,Ag c.n ((d,v)::fr) a→Φ.sem c a w'
theorem Ni {c:Cx} {fr:Fr} {H:List Pc} {o:Oper} {Φ:Gl} (h:∀Q a w,St c.G c.D c.w0 H w→Ag c.n fr a→Oper.upon c.P o a (Φ.sem c) Q ((execOp a.eval o).run c.P w)):Ef c fr H o Φ:=⟨h⟩
inductive Rpl:List Pc→Pc→Pc→List Pc→Prop
 | here {p q R}:Rpl (p::R) p q (q::R)
 | there {x p q R S}:Rpl R p q S→Rpl (x::R) p q (x::S)
theorem Rpl.picks {H p q S} (h:Rpl H p q S):∃R,C0 H p R∧C0 S q R:=by
 induction h with
 | here=>exact ⟨_,.here,.here⟩
 | there _ ih=>obtain ⟨R,h1,h2⟩:=ih;exact ⟨_,.there h1,.there h2⟩
theorem C0.unsep {H p R} (h:C0 H p R) (hs:Px (p::R)):Px H:=by
 induction h with
 | here=>exact hs
 | @there x p R R' h ih =>
  have h2:=Px.perm2 hs
  have h3:=ih h2.2
  refine ⟨fun q hq=>?_,h3⟩
  have:∀{A:List Pc} {p B},C0 A p B→∀q∈A,q=p∨q∈B:=by
   intro A p B h
   induction h with
   | here=>intro q hq;simpa using hq
   | there _ ih =>
    intro q hq
    rcases List.mem_cons.1 hq with rfl|hq
    ·simp
    ·rcases ih q hq with h|h <;> simp [h]
  rcases this h q hq with rfl|hq
  ·exact h2.1 _ (by simp)
  ·exact h2.1 _ (by simp [hq])
theorem C0.or {A:List Pc} {p B} (h:C0 A p B):∀q∈A,q=p∨q∈B:=by
 induction h with
 | here=>intro q hq;simpa using hq
 | there _ ih =>
  intro q hq
  rcases List.mem_cons.1 hq with rfl|hq
  ·simp
  ·rcases ih q hq with h|h <;> simp [h]
theorem St.unpick {G D w0 H p R w} (s:St G D w0 (p::R) w) (h:C0 H p R):St G D w0 H w :=
 ⟨s.Ky,fun q hq=>by rcases h.or q hq with rfl|hq;exact s.on _ (by simp);exact s.on _ (by simp [hq]),h.unsep s.Zr,fun q hq=>by rcases h.or q hq with rfl|hq;exact s.Wi _ (by simp);exact s.Wi _ (by simp [hq])⟩
theorem St.rpl {G D w0 H p q S} {w w':World} (s:St G D w0 H w) (h:Rpl H p q S) (hm:p.mu=true) (hF:∀b∈q.F,b∈p.F∨w.heap.size≤b) (hk:Dy p.F w w') (hq:q.P w'):St G D w0 S w':=by
 obtain ⟨R,h1,h2⟩:=h.picks
 refine St.unpick (R:=R) ?_ h2
 refine St.turn (M:=[p]) (R:=R) (N:=[q]) (s.pick h1) (by simpa [List.filter,hm,fp] using hk) (by intro x hx;simp at hx;subst hx;exact hq) ⟨by simp,trivial⟩ fun x hx b hb=>?_
 simp at hx;subst hx
 rcases hF b hb with h|h
 ·exact .inr (.inl ⟨p,by simp,hm,h⟩)
 ·exact .inl h
theorem St.add {G D w0 H} {w w':World} {N:List Pc} (s:St G D w0 H w) (hb:Below w.heap.size w w') (hN:Nf N w') (hs:Px N) (hF:∀p∈N,∀b∈p.F,w.heap.size≤b∨(p.mu=false∧∃q∈H,q.mu=false∧b∈q.F)):St G D w0 (N++H) w' :=
 St.turn (M:=[]) (R:=H) (N:=N) s (by simpa [fp] using Dy.ofBelow hb) hN hs fun p hp b hb=>by
  rcases hF p hp b hb with h|h
  ·exact .inl h
  ·exact .inr (.inr (by simpa using h))
theorem St.below {G D w0 H} {w w':World} (s:St G D w0 H w) (hb:Below w.heap.size w w'):St G D w0 H w':=s.add (N:=[]) hb (by intro p hp;simp at hp) trivial (by simp)
theorem Ado (w:World) (o:Obj):Below w.heap.size w (w.alloc o):=(Below.refl _ _).alloc (Nat.le_refl _) o
theorem St.new {G D w0 H} {w:World} (s:St G D w0 H w) (t:TypeId) (cs:List Value):St G D w0 (.row w.heap.size t 0 [] cs []::H) (w.alloc (.cells cs.toArray t)) :=
 s.add (N:=[.row w.heap.size t 0 [] cs []]) (Ado _ _) (by intro p hp;simp at hp;subst hp;exact ⟨rfl,by simpa using Hm.made w t cs⟩) ⟨by simp,trivial⟩ (by intro p hp b hb;simp at hp;subst hp;simp [Pc.F] at hb;subst hb;exact .inl (Nat.le_refl _))
inductive Put:List Value→Nat→List Value→List Value→Prop
 | zero {cs}:Put cs 0 [] cs
 | one {x cs u l r}:Put cs 0 l r→Put (x::cs) 0 (u::l) (u::r)
 | skip {x cs j l r}:Put cs j l r→Put (x::cs) (j+1) l (x::r)
theorem Put.parts {cs j l r} (h:Put cs j l r):∃A o B,cs=A++o++B∧r=A++l++B∧A.length=j∧o.length=l.length:=by
 induction h with
 | @zero cs=>exact ⟨[],[],cs,by simp,by simp,rfl,rfl⟩
 | @one x cs u l r _ ih =>
  obtain ⟨A,o,B,rfl,rfl,hA,ho⟩:=ih
  have:A=[]:=List.eq_nil_of_length_eq_zero hA
  subst this
  exact ⟨[],x::o,B,by simp,by simp,rfl,by simp [ho]⟩
 | @skip x cs j l r _ ih =>
  obtain ⟨A,o,B,rfl,rfl,hA,ho⟩:=ih
  exact ⟨x::A,o,B,by simp,by simp,by simp [hA],ho⟩
theorem Aam {P:Program} {t:TypeId} {n:Nat} (hs:(P.info? t).map (·.size)=some n) {w:World} {b o:Nat} {v:Value} {l:List Value} (hv:v.cells=l.toArray) (hl:l.length=n) (ht:w.there b o n) (h1:l.all (·.oneCell')=true) :
  (Instr.storeAt t (.pointer (some ⟨b,o,none⟩)) v).run P w=.ok () (w.setCells b o l):=by
 subst hl
 have:=run_storeCells_cells (P:=P) b o l 0 w (fun j hj=>by simpa using (ht j hj).1) (fun j hj=>by simpa using (ht j hj).2) (fun v hv=>List.all_eq_true.1 h1 v hv)
 simp only [Nat.add_zero] at this
 simp [Instr.storeAt,Instr.sureAddr,storeVar,Ki hs,hv,this]
theorem Ao0 {w:World} {g t o j:Nat} {A cs B l r:List Value} (h:(Pc.row g t o A cs B).P w) (hp:Put cs j l r):(Pc.row g t o A r B).P (w.setCells g (o+j) l)∧Dy [g] w (w.setCells g (o+j) l):=by
 obtain ⟨rfl,h⟩:=h
 obtain ⟨X,y,Y,rfl,rfl,rfl,hy⟩:=hp.parts
 have h2:Hm w g t ((A++X)++y++(Y++B)):=by simpa using h
 have h3:=Hm.put l y h2 (p:=A.length+X.length) (by simp) hy.symm
 have hk:=Jk (g:=g) l w (A.length+X.length)
 rw [J9 w g l w] at h3 hk
 exact ⟨⟨rfl,by simpa using h3⟩,hk⟩
def Fn (P:Program) (f:FuncId) (args:List Value) (A M:List Pc) {σ:Type} (C:σ→Prop) (v:σ→Value) (N:σ→List Pc):Prop :=
 ∀w,Nf (M++A) w→Px (M++A)→Calls P f args.toArray w fun e w'=>∃s,C s∧e=.returned (v s)∧Nf (N s) w'∧Px (N s)∧Dy (fp M) w w' ∧
  ∀p∈N s,∀b∈p.F,w.heap.size≤b∨(∃q∈M,b∈q.F)∨(p.mu=false∧∃q∈A,b∈q.F)
inductive Fc:List Pc→List Pc→List Pc→Prop
 | nil {H}:Fc H [] H
 | cons {H p R M S}:C0 H p R→Fc R M S→Fc H (p::M) S
theorem Fc.st {G D w0 H M R w} (h:Fc H M R):∀{X:List Pc},St G D w0 (X++H) w→St G D w0 (X++(M++R)) w:=by
 induction h with
 | nil=>intro X s;simpa using s
 | @cons H p R M S hp _ ih =>
  intro X s
  have h1:∀(X:List Pc),C0 (X++H) p (X++R):=by
   intro X;induction X with
   | nil=>exact hp
   | cons x X ih=>exact .there ih
  have h2:∀(X:List Pc),C0 (X++(p::(M++S))) p (X++(M++S)):=by
   intro X;induction X with
   | nil=>exact .here
   | cons x X ih=>exact .there ih
  have s1:=s.pick (h1 X)
  have s2:=ih (X:=p::X) (by simpa using s1)
  exact St.unpick (by simpa using s2) (h2 X)
inductive Mu:List Pc→List Pc→Prop
 | nil {H}:Mu [] H
 | cons {p A H}:p∈H→Mu A H→Mu (p::A) H
theorem Mu.all {A H} (h:Mu A H):∀p∈A,p∈H:=by
 induction h with
 | nil=>simp
 | cons h _ ih=>intro q hq;rcases List.mem_cons.1 hq with rfl|hq;exact h;exact ih q hq
section
variable {c:Cx} {fr:Fr} {H:List Pc} {k:List It} {Φ:Gl} {ops:Array Oper} {rest:List Oper} {d:Nat} {o:Op} {ty:TypeId} {pos:String} {Cg:Array Edge} {v u:Value} {x y:Operand}
theorem Ath {o:Oper} (h:Ef c fr H o (.list k ops rest)) (hg:o.guard=none:=by rfl):T c fr H (.list k ops (o::rest)):=.mk fun a w s g =>
 wpList_plain hg fun K hK=>Oper.wp_mono hK (h.h _ a w s g)
theorem Apt {gd:Option (Nat × Bool)} (hy:Yd c.P c.n fr H o ty v) (hd:Nat.blt d c.n=true) (h:T c ((d,v)::fr) H Φ):Ef c fr H ⟨some d,o,ty,pos,Cg,gd⟩ Φ:=Ni fun Q a w s g=>by
 rw [hy.h a w (some d) pos Cg gd g s.on]
 exact h.h _ _ s (g.put hd)
structure On (c:Cx) (fr:Fr) (H:List Pc) (od:Option Tmp) (o:Op) (ty:TypeId) (Φ:Gl):Prop where
 h:∀pos Cg gd,Ef c fr H ⟨od,o,ty,pos,Cg,gd⟩ Φ
theorem wO {od:Option Tmp} (h:On c fr H od o ty (.list k ops rest)):T c fr H (.list k ops (⟨od,o,ty,pos,Cg,none⟩::rest)):=Ath (h.h pos Cg none)
theorem oc (hd:Nat.blt d c.n=true) (hy:Yd c.P c.n fr H o ty v) (h:T c ((d,v)::fr) H Φ):On c fr H (some d) o ty Φ:=⟨fun _ _ _=>Apt hy hd h⟩
/-! guards of a plain region -/
theorem Q2 {a:Act} {j t:Nat} {b b':Bool} {od:Option Tmp} (ht:(ops[j]?).bind (·.dst)=some t) (hl:Oi fr t=some (.bool b')) (g:Ag c.n fr a):Region.wanted ⟨od,o,ty,pos,Cg,some (j,b)⟩ (yielded ops a.tmps)=(b' == b):=by
 simp only [Region.wanted,yielded,ht,Option.bind_some,g.at_ t _ hl]
 cases b <;> cases b' <;> rfl
theorem Ape {j t:Nat} {b:Bool} {od:Option Tmp} (ht:(ops[j]?).bind (·.dst)=some t) (hl:Oi fr t=some (.bool b)) (h:T c fr H (.list k ops (⟨od,o,ty,pos,Cg,none⟩::rest))) :
  T c fr H (.list k ops (⟨od,o,ty,pos,Cg,some (j,b)⟩::rest)):=.mk fun a w s g=>by
 have h1:=h.h a w s g
 simp only [Gl.sem] at h1 ⊢
 unfold wpList at h1 ⊢
 rw [Q2 (c:=c) ht hl g]
 simp only [Region.wanted,if_true,beq_self_eq_true] at h1 ⊢
 exact h1
theorem Apc {j t:Nat} {b b':Bool} (ht:(ops[j]?).bind (·.dst)=some t) (hl:Oi fr t=some (.bool b')) (hb:(b' == b)=false) (hd:Nat.blt d c.n=true) (h:T c ((d,undef)::fr) H (.list k ops rest)) :
  T c fr H (.list k ops (⟨some d,o,ty,pos,Cg,some (j,b)⟩::rest)):=.mk fun a w s g=>by
 simp only [Gl.sem]
 unfold wpList
 rw [Q2 (c:=c) ht hl g,hb]
 simp only [Bool.false_eq_true,if_false]
 exact h.h _ _ s (g.put hd)
theorem Apf {j t:Nat} {b:Bool} (ht:(ops[j]?).bind (·.dst)=some t) (hl:Oi fr t=some undef) (hd:Nat.blt d c.n=true) (h:T c ((d,undef)::fr) H (.list k ops rest)) :
  T c fr H (.list k ops (⟨some d,o,ty,pos,Cg,some (j,b)⟩::rest)):=.mk fun a w s g=>by
 have hw:Region.wanted ⟨some d,o,ty,pos,Cg,some (j,b)⟩ (yielded ops a.tmps)=false:=by
  simp only [Region.wanted,yielded,ht,Option.bind_some,g.at_ t _ hl];rfl
 simp only [Gl.sem]
 unfold wpList
 rw [hw]
 simp only [Bool.false_eq_true,if_false]
 exact h.h _ _ s (g.put hd)
theorem Dc {j t:Nat} {b:Bool} {od:Option Tmp} {p:Prop} {_:Decidable p} (ht:(ops[j]?).bind (·.dst)=some t) (hl:Oi fr t=some (.bool (decide p))) (h1:p→T c ((t,.bool true)::fr) H (.list k ops (⟨od,o,ty,pos,Cg,some (j,b)⟩::rest))) (h2:¬p→T c ((t,.bool false)::fr) H (.list k ops (⟨od,o,ty,pos,Cg,some (j,b)⟩::rest))) :
  T c fr H (.list k ops (⟨od,o,ty,pos,Cg,some (j,b)⟩::rest)):=.mk fun a w s g=>by
 by_cases hp:p
 ·rw [decide_eq_true hp] at hl
  exact (h1 hp).h a w s ⟨g.df,g.sz,fun i z hz=>by rw [Qu] at hz;split at hz;(rename_i e;subst e;rw [←hz,g.at_ _ _ hl]);exact g.at_ i z hz⟩
 ·rw [decide_eq_false hp] at hl
  exact (h2 hp).h a w s ⟨g.df,g.sz,fun i z hz=>by rw [Qu] at hz;split at hz;(rename_i e;subst e;rw [←hz,g.at_ _ _ hl]);exact g.at_ i z hz⟩
/-! memory -/
theorem Akw {t:TypeId} {zs:List Value} {gd:Option (Nat × Bool)} [hZ:ZC c.P t zs] (h:∀g,T c ((d,Ez g 0 0)::fr) (.row g t 0 [] zs []::H) Φ) (hd:Nat.blt d c.n=true:=by rfl):Ef c fr H ⟨some d,.alloc t,ty,pos,Cg,gd⟩ Φ:=Ni fun Q a w s g=>by
 obtain ⟨z,hz,hzc⟩:=hZ.z
 obtain ⟨i,hi,hiz⟩:=Option.map_eq_some_iff.1 hz
 have e:(execOp a.eval ⟨some d,.alloc t,ty,pos,Cg,gd⟩).run c.P w=.ok (.value (Ez w.heap.size 0 0)) (w.alloc (.cells zs.toArray t)):=by
  simp [execOp,Instr.alloc,zeroValue,typeInfo,hi,hiz,newVar,newRow,hzc,Ez]
 rw [e]
 exact (h _).h _ _ (s.new t zs) (g.put hd)
theorem Aqg {t:TypeId} {l:List Value} {gd:Option (Nat × Bool)} (hx:ev fr x=some v) (hv:v.cells=l.toArray) (h:∀g,T c ((d,Ez g 0 0)::fr) (.row g t 0 [] l []::H) Φ) (hd:Nat.blt d c.n=true:=by rfl):Ef c fr H ⟨some d,.box t x,ty,pos,Cg,gd⟩ Φ:=Ni fun Q a w s g=>by
 have e:(execOp a.eval ⟨some d,.box t x,ty,pos,Cg,gd⟩).run c.P w=.ok (.value (Ez w.heap.size 0 0)) (w.alloc (.cells l.toArray t)):=by
  simp [execOp,Instr.box,g.ev hx,newVar,newRow,hv,Ez]
 rw [e]
 exact (h _).h _ _ (s.new t l) (g.put hd)
theorem Adr {t g tt o' j m:Nat} {A cs B l r:List Value} {S:List Pc} {gd:Option (Nat × Bool)} (hs:(c.P.info? t).map (·.size)=some m) (hx:ev fr x=some (Ez g o' j)) (hy:ev fr y=some v) (hv:v.cells=l.toArray) (hl:l.length=m) (h1:l.all (·.oneCell')=true)
  (hp:Put cs j l r) (hr:Rpl H (.row g tt o' A cs B) (.row g tt o' A r B) S) (h:T c fr S Φ):Ef c fr H ⟨none,.store t x y,ty,pos,Cg,gd⟩ Φ:=Ni fun Q a w s ag=>by
 have hP:(Pc.row g tt o' A cs B).P w:=by obtain ⟨R,h1,_⟩:=hr.picks;exact s.on _ h1.mem
 have ht:w.there g (o'+j) m:=fun i hi=>by
  obtain ⟨X,z,Y,rfl, -,rfl,hz⟩:=hp.parts
  have:=Aji hP (X.length+i) (by simp;omega)
  rwa [←Nat.add_assoc] at this
 have e:(execOp a.eval ⟨none,.store t x y,ty,pos,Cg,gd⟩).run c.P w=.ok .skip (w.setCells g (o'+j) l):=by
  simp [execOp,ag.ev hx,ag.ev hy,Ez,Aam hs hv hl ht h1]
 rw [e]
 have ⟨h2,h3⟩:=Ao0 hP hp
 exact h.h _ _ (s.rpl hr rfl (fun b hb=>.inl hb) h3 h2) ag
theorem Ce {t:TypeId} {zs:List Value} [hZ:ZC c.P t zs] (hd:Nat.blt d c.n=true) (h:∀g,T c ((d,Ez g 0 0)::fr) (.row g t 0 [] zs []::H) Φ):On c fr H (some d) (.alloc t) ty Φ:=⟨fun _ _ _=>Akw h hd⟩
theorem Asg {t:TypeId} {l:List Value} (hd:Nat.blt d c.n=true) (hx:ev fr x=some v) (hv:v.cells=l.toArray) (h:∀g,T c ((d,Ez g 0 0)::fr) (.row g t 0 [] l []::H) Φ):On c fr H (some d) (.box t x) ty Φ:=⟨fun _ _ _=>Aqg hx hv h hd⟩
theorem Cs {t g tt o' j m:Nat} {A cs B l r:List Value} {S:List Pc} (hx:ev fr x=some (Ez g o' j)) (hy:ev fr y=some v) (hv:v.cells=l.toArray) (hs:(c.P.info? t).map (·.size)=some m) (hl:l.length=m) (hr:Rpl H (.row g tt o' A cs B) (.row g tt o' A r B) S) (hp:Put cs j l r) (h1:l.all (·.oneCell')=true) (h:T c fr S Φ):On c fr H none (.store t x y) ty Φ :=
 ⟨fun _ _ _=>Adr hs hx hy hv hl h1 hp hr h⟩
/-! calls -/
theorem Apr {f:Nat} {aS:List Operand} {ts:Array TypeId} {vs:List Value} {gd:Option (Nat × Bool)} (h:Cl c fr H d f vs Φ) (ha:Evs fr aS vs) (hb:Om c.P f=true) (hd:Nat.blt d c.n=true):Ef c fr H ⟨some d,.call { callee:=.value (.func f),args:=aS.toArray,argTypes:=ts },ty,pos,Cg,gd⟩ Φ:=Ni fun Q a w s g=>by
 have e:(execOp a.eval ⟨some d,.call { callee:=.value (.func f),args:=aS.toArray,argTypes:=ts },ty,pos,Cg,gd⟩).run c.P w=(callFunc f vs.toArray).run c.P w:=by
  simp [execOp,resolve,Deferred.ofValue,Act.eval,invoke,g.evs ha]
 rw [e]
 obtain ⟨R,hc,hk⟩:=h.h w s
 refine (Q6 hb).upon hc fun e w' hR=>?_
 obtain ⟨v,he,hv⟩:=hk e w' hR
 exact ⟨v,he,hv _ (g.put hd)⟩
theorem Xa {f:Nat} {vs:List Value} {R:World→Ending→World→Prop} (hc:∀w,St c.G c.D c.w0 H w→Calls c.P f vs.toArray w (R w))
  (hk:∀w e w',St c.G c.D c.w0 H w→R w e w'→∃v,e=.returned v∧∀a,Ag c.n ((d,v)::fr) a→Φ.sem c a w'):Cl c fr H d f vs Φ:=⟨fun w s=>⟨R w,hc w s,fun e w' hR=>hk w e w' s hR⟩⟩
theorem cb {f:Nat} {vs:List Value} (hc:∀w,St c.G c.D c.w0 H w→Calls c.P f vs.toArray w fun e w'=>e=.returned v∧Below w.heap.size w w') (h:T c ((d,v)::fr) H Φ):Cl c fr H d f vs Φ :=
 Xa hc fun w e w' s ⟨he,hB⟩=>⟨v,he,fun a g=>h.h a w' (s.below hB) g⟩
theorem ce {f:Nat} {vs:List Value} (hc:∀w,St c.G c.D c.w0 H w→Calls c.P f vs.toArray w fun e w'=>e=.returned v∧w=w') (h:T c ((d,v)::fr) H Φ):Cl c fr H d f vs Φ :=
 Xa hc fun w e w' s ⟨he,hB⟩=>⟨v,he,fun a g=>h.h a w' (hB▸s) g⟩
theorem cf_ {f:Nat} {vs:List Value} {A M R:List Pc} {σ:Type} {C:σ→Prop} {vv:σ→Value} {N:σ→List Pc} (hf:Fn c.P f vs A M C vv N) (h:∀s,C s→T c ((d,vv s)::fr) (N s++R) Φ)
  (hM:Fc H M R) (hA:Mu A R) (hmM:M.all (·.mu)=true) (hmA:A.all (fun p=>!p.mu)=true):Cl c fr H d f vs Φ :=
 have hMR:∀w,St c.G c.D c.w0 H w→St c.G c.D c.w0 (M++R) w:=fun w s=>by simpa using hM.st (X:=[]) (by simpa using s)
 have hmu:∀p∈M,p.mu=true:=fun p hp=>List.all_eq_true.1 hmM p hp
 have hro:∀p∈A,p.mu=false:=fun p hp=>by simpa using List.all_eq_true.1 hmA p hp
 have hpre:∀w,St c.G c.D c.w0 H w→Nf (M++A) w∧Px (M++A):=fun w s=>by
  have s2:=hMR w s
  have hAR:=hA.all
  refine ⟨fun p hp=>?_,?_⟩
  ·rcases List.mem_append.1 hp with hp|hp
   ·exact s2.on p (by simp [hp])
   ·exact s2.on p (by simp [hAR p hp])
  ·have:∀(M:List Pc),Px (M++R)→Px (M++A):=by
    intro M
    induction M with
    | nil =>
     intro _
     have:∀(A:List Pc),(∀p∈A,p.mu=false)→Px A:=by
      intro A
      induction A with
      | nil=>intro _;trivial
      | cons p A ih=>intro h;exact ⟨fun q hq hm=>by rw [h p (by simp),h q (by simp [hq])] at hm;simp at hm,ih fun q hq=>h q (by simp [hq])⟩
     exact this A hro
    | cons p M ih =>
     intro hs
     exact ⟨fun q hq=>hs.1 q (by rcases List.mem_append.1 hq with h|h;simp [h];simp [hAR q h]),ih hs.2⟩
   exact this M s2.Zr
 Xa (R:=fun w e w'=>∃s,C s∧e=.returned (vv s)∧Nf (N s) w'∧Px (N s)∧Dy (fp M) w w'∧∀p∈N s,∀b∈p.F,w.heap.size≤b∨(∃q∈M,b∈q.F)∨(p.mu=false∧∃q∈A,b∈q.F))
  (fun w s=>hf w (hpre w s).1 (hpre w s).2)
  (fun w e w' s ⟨z,hz,he,hN,hS,hK,hF⟩=>⟨_,he,fun a g=>(h z hz).h a w' (St.turn (hMR w s) (by rwa [List.filter_eq_self.2 hmu]) hN hS fun p hp b hb=>by
   rcases hF p hp b hb with h|⟨q,hq,hqb⟩|⟨hp,q,hq,hqb⟩
   ·exact .inl h
   ·exact .inr (.inl ⟨q,hq,hmu q hq,hqb⟩)
   ·exact .inr (.inr ⟨hp,q,by simp [hA.all q hq],hro q hq,hqb⟩)) g⟩)
theorem At {f:Nat} {aS:List Operand} {ts:Array TypeId} {vs:List Value} (hd:Nat.blt d c.n=true) (hb:Om c.P f=true) (ha:Evs fr aS vs) (h:Cl c fr H d f vs Φ):On c fr H (some d) (.call { callee:=.value (.func f),args:=aS.toArray,argTypes:=ts }) ty Φ:=⟨fun _ _ _=>Apr h ha hb hd⟩
/-! a function's beginning and end -/
end
def Abz (P:Program) (w:World) (A M:List Pc) {σ:Type} (C:σ→Prop) (v:σ→Value) (N:σ→List Pc) (e:Ending) (w':World):Prop:=∃s,C s∧e=.returned (v s)∧Nf (N s) w'∧Px (N s)∧Dy (fp M) w w' ∧
  ∀p∈N s,∀b∈p.F,w.heap.size≤b∨(∃q∈M,b∈q.F)∨(p.mu=false∧∃q∈A,b∈q.F)
def Adn:Nat→List Value→Fr
 | _,[]=>[]
 | i,v::r=>(i,v)::Adn (i+1) r
theorem Ai1 (vs:List Value):∀i t v,Oi (Adn i vs) t=some v→i≤t∧vs[t - i]?=some v:=by
 induction vs with
 | nil=>intro i t v h;cases h
 | cons x r ih =>
  intro i t v h
  unfold Adn at h
  rw [Qu] at h
  split at h
  ·rename_i e;subst e;exact ⟨Nat.le_refl _,by simpa using h⟩
  ·have ⟨h1,h2⟩:=ih (i+1) t v h
   refine ⟨by omega,?_⟩
   rw [show t - i=(t - (i+1))+1 by omega,List.getElem?_cons_succ];exact h2
theorem Ak2 {P:Program} {f:FuncId} {fn:Func} {cd:Code} {args:List Value} {A M:List Pc} {σ:Type} {C:σ→Prop} {v:σ→Value} {N:σ→List Pc} (hf:P.funcs[f]?=some fn) (hb:fn.body=some cd)
  (h:∀w,T ⟨P,fp M,fp A,w,fn.ntmps,bodyPost P fn (Abz P w A M C v N)⟩ (Adn 0 args) (M++A) (.Br [] cd))
  (hn:args.length≤fn.ntmps) (hmA:A.all (fun p=>!p.mu)=true):Fn P f args A M C v N:=fun w hH hS=>by
 refine calls_of_wp hf hb ?_
 have hro:∀p∈A,p.mu=false:=fun p hp=>by simpa using List.all_eq_true.1 hmA p hp
 refine (h w).h _ _ ⟨Dy.refl _ _,hH,hS,fun p hp b hb=>?_⟩ ⟨rfl,by simp;omega,fun t u hu=>?_⟩
 ·rcases List.mem_append.1 hp with hp|hp
  ·exact .inl (Oj.2 ⟨p,hp,hb⟩)
  ·exact .inr (.inr ⟨hro p hp,Oj.2 ⟨p,hp,hb⟩⟩)
 ·obtain ⟨-,h2⟩:=Ai1 args 0 t u hu
  simp only [Nat.sub_zero] at h2
  show (args.toArray++Array.replicate (fn.ntmps - args.toArray.size) undef)[t]?=_
  have ht:t < args.length:=(List.getElem?_eq_some_iff.1 h2).1
  rw [Array.getElem?_append_left (by simpa using ht)]
  simpa using h2
inductive Res (P:Program) (fr:Fr) (H:List Pc):List ResultVar→List Value→Prop
 | nil:Res P fr H [] []
 | tmp {t v r vs}:Oi fr t=some v→Res P fr H r vs→Res P fr H (.tmp t::r) (v::vs)
 | agg {t ty m g o tt A cs B r vs}:AggC P ty m→Oi fr t=some (Ez g o 0)→Pc.row g tt o A cs B∈H→cs.length=m→Res P fr H r vs→Res P fr H (.cell t ty::r) (.agg cs.toArray::vs)
 | one {t ty g o tt A v B r vs}:OneC P ty→Oi fr t=some (Ez g o 0)→Pc.row g tt o A [v] B∈H→Res P fr H r vs→Res P fr H (.cell t ty::r) (v::vs)
theorem Cut.whole:∀(l:List Value),Cut l 0 l.length l
 | []=>.zero
 | _::r=>.one (Cut.whole r)
theorem Yu (x:Addr):asAddr (.pointer (some x))=pure x:=rfl
theorem Aox {P:Program} {fr:Fr} {H:List Pc} {n:Nat} {rs vs} (f:ResultVar→Sem Value) {a:Act} (f1:∀t,f (.tmp t)=pure (a.tmps.getD t undef)) (f2:∀p t,f (.cell p t)=do loadVar t (←asAddr (a.tmps.getD p undef)))
  (h:Res P fr H rs vs) {w:World} (g:Ag n fr a) (hH:Nf H w):(rs.mapM f).run P w=.ok vs w:=by
 simp only [Array.getD_eq_getD_getElem?] at f1 f2
 induction h with
 | nil=>simp
 | tmp hl _ ih=>simp [List.mapM_cons,f1,g.at_ _ _ hl,ih]
 | @agg t ty m gg o tt A cs B r vs hT hl hm hc _ ih =>
  have h1:=Zd (hT:=hT) (j:=0) (Gh (hH _ hm)) (by rw [←hc];exact Cut.whole cs)
  simp only [Instr.loadAt,Instr.sureAddr,Sem.run_bind,Sem.run_pure,Result.andThen_ok,Nat.add_zero] at h1
  simp [List.mapM_cons,f2,g.at_ _ _ hl,Ez,Yu,h1,ih]
 | @one t ty gg o tt A v B r vs hT hl hm _ ih =>
  have h1:=Ze (hT:=hT) (Vp (j:=0) (hH _ hm) rfl)
  simp only [Instr.loadAt,Instr.sureAddr,Sem.run_bind,Sem.run_pure,Result.andThen_ok,Nat.add_zero] at h1
  simp [List.mapM_cons,f2,g.at_ _ _ hl,Ez,Yu,h1,ih]
def Pv:List Value→Value
 | [v]=>v
 | vs=>.tuple vs.toArray
theorem Aeu {P:Program} {fr:Fr} {H:List Pc} {n:Nat} {fn:Func} {rs vs} (hr:fn.results=rs.toArray) (h:Res P fr H rs vs) {a:Act} {w:World} (g:Ag n fr a) (hH:Nf H w):(results fn a.tmps).run P w=.ok (Pv vs) w:=by
 unfold results
 rw [hr]
 simp only [Sem.run_bind,Array.mapM_eq_mapM_toList]
 have:∀(f:ResultVar→Sem Value),(rs.mapM f).run P w=.ok vs w→((List.toArray <$> rs.mapM f:Sem (Array Value))).run P w=.ok vs.toArray w:=fun f hf=>by
  simp [hf]
 refine (congrArg (fun x=>Result.andThen x _) (this _ (Aox _ ?_ ?_ h g hH))).trans ?_
 ·intro t;rfl
 ·intro p t;rfl
 simp only [Result.andThen_ok,Sem.run_pure]
 congr 1
 match vs with
 | []=>rfl
 | [v]=>rfl
 | v::u::r=>simp [Pv]
theorem Aqi {P:Program} {fn:Func} {G D:List Nat} {w0:World} {n:Nat} {A M:List Pc} {σ:Type} {C:σ→Prop} {v:σ→Value} {N:σ→List Pc} {fr:Fr} {H:List Pc} {rs:List ResultVar} {vs:List Value} (s:σ) (hC:C s)
  (hr:fn.results=rs.toArray) (h:Res P fr H rs vs) (hv:Pv vs=v s) (hN:I8 H (N s)) (hG:G=fp M) (hD:D=fp A):T ⟨P,G,D,w0,n,bodyPost P fn (Abz P w0 A M C v N)⟩ fr H (.fin .ret):=.mk fun a w st g=>by
 subst hG hD
 refine ⟨g.df,_,Aeu hr h g st.on,s,hC,by rw [hv],?_⟩
 have s2:=st.sub hN
 refine ⟨s2.on,s2.Zr,s2.Ky,fun p hp b hb=>?_⟩
 rcases s2.Wi p hp b hb with h|h|⟨h1,h⟩
 ·exact .inr (.inl (Oj.1 h))
 ·exact .inl h
 ·exact .inr (.inr ⟨h1,Oj.1 h⟩)
instance:OneC prog 3:=⟨⟨_,underlying3,rfl⟩,by kernel_rfl⟩
instance:IntC prog 3 .i64:=⟨underlying3⟩
instance:ZC prog 3 [.int .i64 0]:=⟨⟨.int .i64 0,by kernel_rfl,rfl⟩⟩
instance:ElT prog 3 (.int .i64 0) 1 8:=⟨by kernel_rfl,rfl⟩
instance:IntC prog 199 .u64:=⟨underlying199⟩
instance:OneC prog 4:=⟨⟨_,underlying4,rfl⟩,by kernel_rfl⟩
instance:BoolC prog 4:=⟨underlying4⟩
instance:OneC prog 9:=⟨⟨_,underlying9,rfl⟩,by kernel_rfl⟩
instance:ZC prog 9 [.string ⟨#[]⟩]:=⟨⟨.string ⟨#[]⟩,by kernel_rfl,rfl⟩⟩
instance:ElT prog 9 (.string ⟨#[]⟩) 1 16:=⟨by kernel_rfl,rfl⟩
instance:AggC prog 26 1:=⟨⟨_,underlying26,rfl⟩,by kernel_rfl⟩
instance:FldC prog 26 0 0 24 1:=⟨⟨_,_,underlying26,rfl,rfl,rfl⟩,by kernel_rfl,by decide⟩
instance:ZC prog 26 [.slice none 0 0]:=⟨⟨.agg #[.slice none 0 0],by kernel_rfl,rfl⟩⟩
instance:BldC prog 26 [(0,1)] [.slice none 0 0]:=⟨fun parts=>by kernel_rfl⟩
instance:AggC prog 29 3:=⟨⟨_,underlying29,rfl⟩,by kernel_rfl⟩
instance:FldC prog 29 0 0 3 1:=⟨⟨_,_,underlying29,rfl,rfl,rfl⟩,by kernel_rfl,by decide⟩
instance:FldC prog 29 1 1 3 1:=⟨⟨_,_,underlying29,rfl,rfl,rfl⟩,by kernel_rfl,by decide⟩
instance:FldC prog 29 2 2 27 1:=⟨⟨_,_,underlying29,rfl,rfl,rfl⟩,by kernel_rfl,by decide⟩
instance:ZC prog 29 [.int .i64 0,.int .i64 0,.slice none 0 0]:=⟨⟨.agg #[.int .i64 0,.int .i64 0,.slice none 0 0],by kernel_rfl,rfl⟩⟩
instance:BldC prog 29 [(0,1),(1,1),(2,1)] [.int .i64 0,.int .i64 0,.slice none 0 0]:=⟨fun parts=>by kernel_rfl⟩
instance:AggC prog 32 6:=⟨⟨_,underlying32,rfl⟩,by kernel_rfl⟩
instance:FldC prog 32 0 0 29 3:=⟨⟨_,_,underlying32,rfl,rfl,rfl⟩,by kernel_rfl,by decide⟩
instance:FldC prog 32 1 3 3 1:=⟨⟨_,_,underlying32,rfl,rfl,rfl⟩,by kernel_rfl,by decide⟩
instance:FldC prog 32 2 4 3 1:=⟨⟨_,_,underlying32,rfl,rfl,rfl⟩,by kernel_rfl,by decide⟩
instance:FldC prog 32 3 5 30 1:=⟨⟨_,_,underlying32,rfl,rfl,rfl⟩,by kernel_rfl,by decide⟩
instance:ZC prog 32 [.int .i64 0,.int .i64 0,.slice none 0 0,.int .i64 0,.int .i64 0,.slice none 0 0]:=⟨⟨.agg #[.int .i64 0,.int .i64 0,.slice none 0 0,.int .i64 0,.int .i64 0,.slice none 0 0],by kernel_rfl,rfl⟩⟩
instance:BldC prog 32 [(0,3),(3,1),(4,1),(5,1)] [.int .i64 0,.int .i64 0,.slice none 0 0,.int .i64 0,.int .i64 0,.slice none 0 0]:=⟨fun parts=>by kernel_rfl⟩
instance:AggC prog 37 11:=⟨⟨_,underlying37,rfl⟩,by kernel_rfl⟩
instance:FldC prog 37 0 0 26 1:=⟨⟨_,_,underlying37,rfl,rfl,rfl⟩,by kernel_rfl,by decide⟩
instance:FldC prog 37 1 1 32 6:=⟨⟨_,_,underlying37,rfl,rfl,rfl⟩,by kernel_rfl,by decide⟩
instance:FldC prog 37 2 7 33 1:=⟨⟨_,_,underlying37,rfl,rfl,rfl⟩,by kernel_rfl,by decide⟩
instance:FldC prog 37 3 8 34 1:=⟨⟨_,_,underlying37,rfl,rfl,rfl⟩,by kernel_rfl,by decide⟩
instance:FldC prog 37 4 9 35 1:=⟨⟨_,_,underlying37,rfl,rfl,rfl⟩,by kernel_rfl,by decide⟩
instance:FldC prog 37 5 10 35 1:=⟨⟨_,_,underlying37,rfl,rfl,rfl⟩,by kernel_rfl,by decide⟩
instance:ZC prog 37 [.slice none 0 0,.int .i64 0,.int .i64 0,.slice none 0 0,.int .i64 0,.int .i64 0,.slice none 0 0,.slice none 0 0,.slice none 0 0,.slice none 0 0,.slice none 0 0]:=⟨⟨.agg #[.slice none 0 0,.int .i64 0,.int .i64 0,.slice none 0 0,.int .i64 0,.int .i64 0,.slice none 0 0,.slice none 0 0,.slice none 0 0,.slice none 0 0,.slice none 0 0],by kernel_rfl,rfl⟩⟩
instance:BldC prog 37 [(0,1),(1,6),(7,1),(8,1),(9,1),(10,1)] [.slice none 0 0,.int .i64 0,.int .i64 0,.slice none 0 0,.int .i64 0,.int .i64 0,.slice none 0 0,.slice none 0 0,.slice none 0 0,.slice none 0 0,.slice none 0 0]:=⟨fun parts=>by kernel_rfl⟩
instance:AggC prog 39 3:=⟨⟨_,underlying39,rfl⟩,by kernel_rfl⟩
instance:FldC prog 39 0 0 3 1:=⟨⟨_,_,underlying39,rfl,rfl,rfl⟩,by kernel_rfl,by decide⟩
instance:FldC prog 39 1 1 3 1:=⟨⟨_,_,underlying39,rfl,rfl,rfl⟩,by kernel_rfl,by decide⟩
instance:FldC prog 39 2 2 9 1:=⟨⟨_,_,underlying39,rfl,rfl,rfl⟩,by kernel_rfl,by decide⟩
instance:ZC prog 39 [.int .i64 0,.int .i64 0,.string ⟨#[]⟩]:=⟨⟨.agg #[.int .i64 0,.int .i64 0,.string ⟨#[]⟩],by kernel_rfl,rfl⟩⟩
instance:BldC prog 39 [(0,1),(1,1),(2,1)] [.int .i64 0,.int .i64 0,.string ⟨#[]⟩]:=⟨fun parts=>by kernel_rfl⟩
instance:BldC prog 67 [(0,1),(1,1),(2,1)] [.slice none 0 0,.int .i64 0,.int .u64 0]:=⟨fun parts=>by kernel_rfl⟩
instance:AggC prog 77 2:=⟨⟨_,underlying77,rfl⟩,by kernel_rfl⟩
instance:FldC prog 77 0 0 3 1:=⟨⟨_,_,underlying77,rfl,rfl,rfl⟩,by kernel_rfl,by decide⟩
instance:FldC prog 77 1 1 75 1:=⟨⟨_,_,underlying77,rfl,rfl,rfl⟩,by kernel_rfl,by decide⟩
instance:ZC prog 77 [.int .i64 0,.slice none 0 0]:=⟨⟨.agg #[.int .i64 0,.slice none 0 0],by kernel_rfl,rfl⟩⟩
instance:ElT prog 77 (.agg #[.int .i64 0,.slice none 0 0]) 2 32:=⟨by kernel_rfl,rfl⟩
instance:BldC prog 77 [(0,1),(1,1)] [.int .i64 0,.slice none 0 0]:=⟨fun parts=>by kernel_rfl⟩
instance:AggC prog 81 2:=⟨⟨_,underlying81,rfl⟩,by kernel_rfl⟩
instance:FldC prog 81 0 0 3 1:=⟨⟨_,_,underlying81,rfl,rfl,rfl⟩,by kernel_rfl,by decide⟩
instance:FldC prog 81 1 1 79 1:=⟨⟨_,_,underlying81,rfl,rfl,rfl⟩,by kernel_rfl,by decide⟩
instance:ZC prog 81 [.int .i64 0,.slice none 0 0]:=⟨⟨.agg #[.int .i64 0,.slice none 0 0],by kernel_rfl,rfl⟩⟩
instance:BldC prog 81 [(0,1),(1,1)] [.int .i64 0,.slice none 0 0]:=⟨fun parts=>by kernel_rfl⟩
instance:AggC prog 84 5:=⟨⟨_,underlying84,rfl⟩,by kernel_rfl⟩
instance:FldC prog 84 0 0 4 1:=⟨⟨_,_,underlying84,rfl,rfl,rfl⟩,by kernel_rfl,by decide⟩
instance:FldC prog 84 1 1 3 1:=⟨⟨_,_,underlying84,rfl,rfl,rfl⟩,by kernel_rfl,by decide⟩
instance:FldC prog 84 2 2 81 2:=⟨⟨_,_,underlying84,rfl,rfl,rfl⟩,by kernel_rfl,by decide⟩
instance:FldC prog 84 3 4 82 1:=⟨⟨_,_,underlying84,rfl,rfl,rfl⟩,by kernel_rfl,by decide⟩
instance:ZC prog 84 [.bool false,.int .i64 0,.int .i64 0,.slice none 0 0,.slice none 0 0]:=⟨⟨.agg #[.bool false,.int .i64 0,.int .i64 0,.slice none 0 0,.slice none 0 0],by kernel_rfl,rfl⟩⟩
instance:ElT prog 84 (.agg #[.bool false,.int .i64 0,.int .i64 0,.slice none 0 0,.slice none 0 0]) 5 72:=⟨by kernel_rfl,rfl⟩
instance:BldC prog 84 [(0,1),(1,1),(2,2),(4,1)] [.bool false,.int .i64 0,.int .i64 0,.slice none 0 0,.slice none 0 0]:=⟨fun parts=>by kernel_rfl⟩
instance:AggC prog 110 5:=⟨⟨_,underlying110,rfl⟩,by kernel_rfl⟩
instance:FldC prog 110 0 0 3 1:=⟨⟨_,_,underlying110,rfl,rfl,rfl⟩,by kernel_rfl,by decide⟩
instance:FldC prog 110 1 1 3 1:=⟨⟨_,_,underlying110,rfl,rfl,rfl⟩,by kernel_rfl,by decide⟩
instance:FldC prog 110 2 2 3 1:=⟨⟨_,_,underlying110,rfl,rfl,rfl⟩,by kernel_rfl,by decide⟩
instance:FldC prog 110 3 3 3 1:=⟨⟨_,_,underlying110,rfl,rfl,rfl⟩,by kernel_rfl,by decide⟩
instance:FldC prog 110 4 4 9 1:=⟨⟨_,_,underlying110,rfl,rfl,rfl⟩,by kernel_rfl,by decide⟩
instance:ZC prog 110 [.int .i64 0,.int .i64 0,.int .i64 0,.int .i64 0,.string ⟨#[]⟩]:=⟨⟨.agg #[.int .i64 0,.int .i64 0,.int .i64 0,.int .i64 0,.string ⟨#[]⟩],by kernel_rfl,rfl⟩⟩
instance:ElT prog 110 (.agg #[.int .i64 0,.int .i64 0,.int .i64 0,.int .i64 0,.string ⟨#[]⟩]) 5 48:=⟨by kernel_rfl,rfl⟩
instance:BldC prog 110 [(0,1),(1,1),(2,1),(3,1),(4,1)] [.int .i64 0,.int .i64 0,.int .i64 0,.int .i64 0,.string ⟨#[]⟩]:=⟨fun parts=>by kernel_rfl⟩
instance:AggC prog 134 2:=⟨⟨_,underlying134,rfl⟩,by kernel_rfl⟩
instance:FldC prog 134 0 0 3 1:=⟨⟨_,_,underlying134,rfl,rfl,rfl⟩,by kernel_rfl,by decide⟩
instance:FldC prog 134 1 1 3 1:=⟨⟨_,_,underlying134,rfl,rfl,rfl⟩,by kernel_rfl,by decide⟩
instance:ZC prog 134 [.int .i64 0,.int .i64 0]:=⟨⟨.agg #[.int .i64 0,.int .i64 0],by kernel_rfl,rfl⟩⟩
instance:ElT prog 134 (.agg #[.int .i64 0,.int .i64 0]) 2 16:=⟨by kernel_rfl,rfl⟩
instance:BldC prog 134 [(0,1),(1,1)] [.int .i64 0,.int .i64 0]:=⟨fun parts=>by kernel_rfl⟩
instance:AggC prog 136 3:=⟨⟨_,underlying136,rfl⟩,by kernel_rfl⟩
instance:FldC prog 136 0 0 3 1:=⟨⟨_,_,underlying136,rfl,rfl,rfl⟩,by kernel_rfl,by decide⟩
instance:FldC prog 136 1 1 24 1:=⟨⟨_,_,underlying136,rfl,rfl,rfl⟩,by kernel_rfl,by decide⟩
instance:FldC prog 136 2 2 3 1:=⟨⟨_,_,underlying136,rfl,rfl,rfl⟩,by kernel_rfl,by decide⟩
instance:ZC prog 136 [.int .i64 0,.slice none 0 0,.int .i64 0]:=⟨⟨.agg #[.int .i64 0,.slice none 0 0,.int .i64 0],by kernel_rfl,rfl⟩⟩
instance:ElT prog 136 (.agg #[.int .i64 0,.slice none 0 0,.int .i64 0]) 3 40:=⟨by kernel_rfl,rfl⟩
instance:BldC prog 136 [(0,1),(1,1),(2,1)] [.int .i64 0,.slice none 0 0,.int .i64 0]:=⟨fun parts=>by kernel_rfl⟩
instance:AggC prog 165 4:=⟨⟨_,underlying165,rfl⟩,by kernel_rfl⟩
instance:FldC prog 165 0 0 3 1:=⟨⟨_,_,underlying165,rfl,rfl,rfl⟩,by kernel_rfl,by decide⟩
instance:FldC prog 165 1 1 3 1:=⟨⟨_,_,underlying165,rfl,rfl,rfl⟩,by kernel_rfl,by decide⟩
instance:FldC prog 165 2 2 3 1:=⟨⟨_,_,underlying165,rfl,rfl,rfl⟩,by kernel_rfl,by decide⟩
instance:FldC prog 165 3 3 3 1:=⟨⟨_,_,underlying165,rfl,rfl,rfl⟩,by kernel_rfl,by decide⟩
instance:ZC prog 165 [.int .i64 0,.int .i64 0,.int .i64 0,.int .i64 0]:=⟨⟨.agg #[.int .i64 0,.int .i64 0,.int .i64 0,.int .i64 0],by kernel_rfl,rfl⟩⟩
instance:ElT prog 165 (.agg #[.int .i64 0,.int .i64 0,.int .i64 0,.int .i64 0]) 4 32:=⟨by kernel_rfl,rfl⟩
instance:BldC prog 165 [(0,1),(1,1),(2,1),(3,1)] [.int .i64 0,.int .i64 0,.int .i64 0,.int .i64 0]:=⟨fun parts=>by kernel_rfl⟩
instance:AggC prog 188 2:=⟨⟨_,underlying188,rfl⟩,by kernel_rfl⟩
instance:FldC prog 188 0 0 4 1:=⟨⟨_,_,underlying188,rfl,rfl,rfl⟩,by kernel_rfl,by decide⟩
instance:FldC prog 188 1 1 9 1:=⟨⟨_,_,underlying188,rfl,rfl,rfl⟩,by kernel_rfl,by decide⟩
instance:ZC prog 188 [.bool false,.string ⟨#[]⟩]:=⟨⟨.agg #[.bool false,.string ⟨#[]⟩],by kernel_rfl,rfl⟩⟩
instance:ElT prog 188 (.agg #[.bool false,.string ⟨#[]⟩]) 2 24:=⟨by kernel_rfl,rfl⟩
instance:BldC prog 188 [(0,1),(1,1)] [.bool false,.string ⟨#[]⟩]:=⟨fun parts=>by kernel_rfl⟩
instance:SlC prog 22 5 1:=⟨underlying22,by kernel_rfl⟩
instance:OneC prog 24:=⟨⟨_,underlying24,rfl⟩,by kernel_rfl⟩
instance:SlC prog 24 3 1:=⟨underlying24,by kernel_rfl⟩
instance:OneC prog 27:=⟨⟨_,underlying27,rfl⟩,by kernel_rfl⟩
instance:SlC prog 27 9 1:=⟨underlying27,by kernel_rfl⟩
instance:OneC prog 30:=⟨⟨_,underlying30,rfl⟩,by kernel_rfl⟩
instance:SlC prog 30 134 2:=⟨underlying30,by kernel_rfl⟩
instance:OneC prog 33:=⟨⟨_,underlying33,rfl⟩,by kernel_rfl⟩
instance:SlC prog 33 77 2:=⟨underlying33,by kernel_rfl⟩
instance:OneC prog 34:=⟨⟨_,underlying34,rfl⟩,by kernel_rfl⟩
instance:SlC prog 34 84 5:=⟨underlying34,by kernel_rfl⟩
instance:OneC prog 35:=⟨⟨_,underlying35,rfl⟩,by kernel_rfl⟩
instance:SlC prog 35 86 1:=⟨underlying35,by kernel_rfl⟩
instance:OneC prog 75:=⟨⟨_,underlying75,rfl⟩,by kernel_rfl⟩
instance:SlC prog 75 136 3:=⟨underlying75,by kernel_rfl⟩
instance:OneC prog 79:=⟨⟨_,underlying79,rfl⟩,by kernel_rfl⟩
instance:SlC prog 79 188 2:=⟨underlying79,by kernel_rfl⟩
instance:OneC prog 82:=⟨⟨_,underlying82,rfl⟩,by kernel_rfl⟩
instance:SlC prog 82 165 4:=⟨underlying82,by kernel_rfl⟩
instance:OneC prog 86:=⟨⟨_,underlying86,rfl⟩,by kernel_rfl⟩
instance:SlC prog 86 110 5:=⟨underlying86,by kernel_rfl⟩
instance:ZC prog 86 [.slice none 0 0]:=⟨⟨.slice none 0 0,by kernel_rfl,rfl⟩⟩
instance:ElT prog 86 (.slice none 0 0) 1 24:=⟨by kernel_rfl,rfl⟩
instance:OneC prog 167:=⟨⟨_,underlying167,rfl⟩,by kernel_rfl⟩
instance:OneC prog 221:=⟨⟨_,underlying221,rfl⟩,by kernel_rfl⟩
instance:OneC prog 223:=⟨⟨_,underlying223,rfl⟩,by kernel_rfl⟩
theorem Sl.dropS {P:Program} {α:Type} {E:Bv α} {w:World} {a:Option Addr} {n cap:Nat} {xs:List α} {F} (h:Sl E w (.slice a n cap) xs F) (t:TypeId) (ht:P.underlying t=some (.slice (P.elem t))) (k:Nat) (hk:k≤xs.length)
  (hs:∀W,(sizeOf (P.elem t)).run P W=.ok E.sz W):∃a2 c2 F',(∀W,(Instr.sliceAt t (.slice a n cap) (some (.int .i64 (k:Int))) none none).run P W=.ok (.slice a2 (xs.length - k) c2) W)∧(∀b∈F',b∈F)∧Sl E w (.slice a2 (xs.length - k) c2) (xs.drop k) F':=by
 obtain ⟨a',cap',hv,hl,h⟩:=h
 cases hv
 have hrun:∀W,(Instr.sliceAt t (.slice a xs.length cap) (some (.int .i64 (k:Int))) none none).run P W=.ok (.slice (if cap=k then a else a.map (·.add (k * E.sz))) (xs.length - k) (cap - k)) W:=fun W=>by
  rw [run_sliceAt_slice (h:=ht),run_slice_l (ht:=ht) (h0:=by omega) (h1:=by omega),hs];simp [Result.andThen,sliced]
 refine ⟨if cap=k then a else a.map (·.add (k * E.sz)),cap - k,?_⟩
 rcases h with ⟨rfl,rfl,h0⟩|⟨b,off,F',rfl,hne,rfl,hc⟩
 ·refine ⟨[],hrun,by simp,if cap=k then a else a.map (·.add (k * E.sz)),cap - k,by simp,⟨by simp,by omega⟩,.inl ⟨by simp,rfl,fun e=>?_⟩⟩
  cases a with
  | none=>rw [h0 rfl];simp
  | some ad=>split at e <;> simp at e
 ·by_cases hkn:k=xs.length
  ·subst hkn
   refine ⟨[],hrun,by simp,if cap=xs.length then some ⟨b,off,none⟩ else (some (⟨b,off,none⟩:Addr)).map (·.add (xs.length * E.sz)),cap - xs.length,by simp,⟨by simp,by omega⟩,.inl ⟨by simp,rfl,fun e=>?_⟩⟩
   split at e <;> simp at e
  ·obtain ⟨cs,hf,hcs⟩:=hc.flat
   have e:xs=xs.take k++xs.drop k:=by simp
   rw [e] at hf
   obtain ⟨c1,c2,G1,G2,rfl,rfl,h1,h2⟩:=hf.split
   have hl1:=h1.len
   have hck:¬cap=k:=by omega
   rw [List.length_take,Nat.min_eq_left (by omega)] at hl1
   refine ⟨b::G2,hrun,by intro x hx;simp at hx ⊢;rcases hx with hx|hx <;> simp [hx],some ⟨b,off+k * E.sz,none⟩,cap - k,?_,⟨by simp;omega,by omega⟩,.inr ⟨b,off+k * E.sz,G2,rfl,fun e=>?_,rfl,h2.cells fun j u hu=>?_⟩⟩
   ·rw [if_neg hck];simp only [Option.map_some,Addr.add,List.length_drop,Value.slice.injEq,Option.some.injEq,and_true,true_and]
    by_cases h0:k * E.sz=0 <;> simp [h0]
   ·have:=congrArg List.length e;simp at this;omega
   ·have:=hcs (c1.length+j) u (by rw [List.getElem?_append_right (by omega),show c1.length+j - c1.length=j by omega];exact hu)
    rw [←this,hl1];congr 2;omega
theorem B8 {p:Pc} {H:List Pc} (h:p∈H:=by (repeat (first|exact .head _|apply List.Mem.tail));first|done|fail):p∈H:=h
theorem Aqf {l:List Value} {j m:Nat} {r:List Value} (h:Cut l j m r:=by repeat constructor):Cut l j m r:=h
theorem Ct {l r s:List Value} {j:Nat} (h:Put l j r s:=by first|exact .one .zero|repeat constructor):Put l j r s:=h
theorem Bf {fr:Fr} {aS:List Operand} {vs:List Value} (h:Evs fr aS vs:=by repeat (first|exact Evs.nil|apply Evs.cons (by rfl))):Evs fr aS vs:=h
theorem Cu {H S:List Pc} {p q:Pc} (h:Rpl H p q S:=by (repeat (first|exact .here|apply Rpl.there));first|done|fail):Rpl H p q S:=h
theorem D0 {H R:List Pc} {p:Pc} (h:C0 H p R:=by (repeat (first|exact .here|apply C0.there));first|done|fail):C0 H p R:=h
theorem Zi {H M R:List Pc} (h:Fc H M R:=by repeat (first|exact Fc.nil|apply Fc.cons (by exact D0))):Fc H M R:=h
theorem hsE {A H:List Pc} (h:I8 A H:=by repeat (first|exact I8.nil|refine I8.cons (by exact D0) ?_)):I8 A H:=h
theorem frE {a b:Fr} (h:J4 a b:=by repeat (first|exact J4.nil|refine J4.cons (by rfl) ?_)):J4 a b:=h
theorem Ah6 (l:List Value):∀(k off:Nat) (A o B:List Value),A.length=off+k→o.length=l.length→(l.zipIdx k).foldl (fun (cs:Array Value) (x:Value × Nat)=>cs.setIfInBounds (off+x.2) x.1) (A++o++B).toArray=(A++l++B).toArray:=by
 induction l with
 | nil=>intro k off A o B _ ho;simp at ho;subst ho;simp
 | cons u r ih =>
  intro k off A o B hA ho
  cases o with
  | nil=>simp at ho
  | cons z o =>
   rw [List.zipIdx_cons,List.foldl_cons]
   have h4:(A++(z::o)++B).toArray.setIfInBounds (off+k) u=((A++[u])++o++B).toArray:=by
    rw [←hA];simp [List.set_append]
   show List.foldl _ ((A++(z::o)++B).toArray.setIfInBounds (off+k) u) _=_
   rw [h4,ih (k+1) off (A++[u]) o B (by simp;omega) (by simpa using ho)];simp
inductive Fil (pl:Nat→Option (Nat × Nat)) (fr:Fr):List Value→List (Nat × Operand)→List Value→Prop
 | nil {cs}:Fil pl fr cs [] cs
 | cons {cs i x ps v l off r q}:ev fr x=some v→v.cells=l.toArray→pl i=some (off,l.length)→Put cs off l r→Fil pl fr r ps q→Fil pl fr cs ((i,x)::ps) q
theorem Fil.run {pl:Nat→Option (Nat × Nat)} {fr:Fr} {n:Nat} {cs q:List Value} {ps:List (Nat × Operand)} (h:Fil pl fr cs ps q) {a:Act} (g:Ag n fr a):Instr.fill pl cs.toArray (ps.map fun (i,x)=>(i,a.eval x))=some q.toArray:=by
 induction h with
 | nil=>rfl
 | @cons cs i x ps v l off r q hx hv hp hput _ ih =>
  obtain ⟨A,o,B,rfl,rfl,rfl,ho⟩:=hput.parts
  rw [List.map_cons]
  unfold Instr.fill
  simp only [hp,g.ev hx,hv]
  have h1:¬((l.toArray.size≠l.length)∨(A.length+l.toArray.size > (A++o++B).toArray.size)):=by simp;omega
  rw [if_neg (by simpa using h1)]
  have h2:l.toArray.zipIdx.foldl (fun (cs:Array Value) (x:Value × Nat)=>cs.setIfInBounds (A.length+x.2) x.1) (A++o++B).toArray=(A++l++B).toArray:=by
   rw [←Array.foldl_toList]
   have:=Ah6 l 0 A.length A o B rfl ho
   simpa using this
  rw [h2];exact ih
theorem Hg {pl:Nat→Option (Nat × Nat)} {fr:Fr} {cs q:List Value} {ps:List (Nat × Operand)} (h:Fil pl fr cs ps q:=by repeat (first|exact Fil.nil|apply Fil.cons (by rfl) (by rfl) (by rfl) (by repeat constructor))):Fil pl fr cs ps q:=h
theorem Asn {P:Program} {n:Nat} {fr:Fr} {H:List Pc} {ty:TypeId} {t:Nat} {pl:List (Nat × Nat)} {zs q:List Value} {ps:List (Nat × Operand)} [hB:BldC P t pl zs] (hf:Fil (pl.toArray[·]?) fr zs ps q):Yd P n fr H (.build t ps.toArray) ty (.agg q.toArray):=.mk fun a w d pos Cg gd g _=>by
 have h3:=hf.run g
 have h4:=run_build (P:=P) w t (ps.map fun (i,x)=>(i,a.eval x)).toArray q.toArray (by rw [hB.b];exact h3)
 simp only [List.map_toArray] at h4
 simp [execOp,h4]
theorem ydE {P:Program} {n:Nat} {fr:Fr} {H:List Pc} {o:Op} {ty:TypeId} {v:Value} (h:Yd P n fr H o ty v:=by first|(apply Apj;rfl)|(apply Ajx;rfl)|(apply Arr;rfl)|(apply Asq;rfl)|(apply Asv;rfl;exact B8;rfl)|(apply Arj;rfl;exact B8;rfl)|(apply Ari;rfl;exact B8;exact Aqf)|(apply Aph;rfl;exact B8;exact Aqf)|(apply Aj1;rfl;rfl)|(apply Aj0;rfl;rfl)|(apply Ark;rfl)|(apply Api;rfl)|(apply Asp;rfl;rfl)|(apply Arf;rfl;rfl)|(apply Apg;rfl;exact Aqf)|(apply Asx;rfl;rfl)|(apply Asw;rfl;rfl)|(apply Ast;rfl;rfl)|(apply Ass;rfl;rfl)|(apply Aso;rfl;rfl)|(apply Asy;rfl;rfl)|(apply Arb;rfl;rfl;omega;omega)|(apply Arv;rfl;rfl;omega;omega)|(apply Are;rfl;rfl)|(apply Arq;rfl;rfl)|(apply Arc;rfl;rfl;omega)|(apply Apl;rfl)|(apply Ars;rfl)|(apply Arp;rfl;omega;omega)|(apply Asu;rfl;rfl;omega;omega)|(apply Arh;rfl;rfl;omega;omega)|(apply Art;rfl;rfl;omega;omega;omega)|(apply Aru;rfl;rfl;omega;omega)|(apply Arn;rfl;rfl;omega;omega)|(apply Ahn;rfl;omega;omega)|(apply Ard;rfl;rfl)|(apply Aro;rfl;rfl)|(apply Asr;exact Bf)|(apply Apk;rfl)|(apply Arm;rfl;rfl)|(apply Arl;rfl;rfl)|(apply Asn;exact Hg)):Yd P n fr H o ty v:=h
section
variable {c:Cx} {fr:Fr} {H:List Pc} {k:List It} {Φ:Gl} {ops:Array Oper} {rest:List Oper} {d:Nat} {o:Op} {ty:TypeId} {pos:String} {Cg:Array Edge} {v u:Value} {x y:Operand}
theorem st {t g tt o' j m:Nat} {A cs B l r:List Value} {S:List Pc} {gd:Option (Nat × Bool)} (h:T c fr S Φ) (hx:ev fr x=some (Ez g o' j):=by rfl) (hy:ev fr y=some v:=by rfl) (hv:v.cells=l.toArray:=by rfl) (hs:(c.P.info? t).map (·.size)=some m:=by first|exact AggC.s|exact OneC.s) (hl:l.length=m:=by rfl)
  (hr:Rpl H (.row g tt o' A cs B) (.row g tt o' A r B) S:=by (repeat (first|exact .here|apply Rpl.there));first|done|fail) (hp:Put cs j l r:=by first|exact .one .zero|repeat constructor) (h1:l.all (·.oneCell')=true:=by rfl):Ef c fr H ⟨none,.store t x y,ty,pos,Cg,gd⟩ Φ:=Adr hs hx hy hv hl h1 hp hr h
theorem ca {f:Nat} {aS:List Operand} {ts:Array TypeId} {vs:List Value} {gd:Option (Nat × Bool)} (h:Cl c fr H d f vs Φ) (ha:Evs fr aS vs:=by repeat (first|exact Evs.nil|apply Evs.cons (by rfl))) (hb:Om c.P f=true:=by kernel_rfl) (hd:Nat.blt d c.n=true:=by rfl):Ef c fr H ⟨some d,.call { callee:=.value (.func f),args:=aS.toArray,argTypes:=ts },ty,pos,Cg,gd⟩ Φ:=Apr h ha hb hd
theorem cf {f:Nat} {vs:List Value} {A M R:List Pc} {σ:Type} {C:σ→Prop} {vv:σ→Value} {N:σ→List Pc} (hf:Fn c.P f vs A M C vv N) (h:∀s,C s→T c ((d,vv s)::fr) (N s++R) Φ)
  (hM:Fc H M R:=by repeat (first|exact Fc.nil|apply Fc.cons (by exact D0))) (hA:Mu A R:=by repeat (first|exact Mu.nil|refine Mu.cons (by exact B8) ?_)) (hmM:M.all (·.mu)=true:=by rfl) (hmA:A.all (fun p=>!p.mu)=true:=by rfl):Cl c fr H d f vs Φ:=cf_ hf h hM hA hmM hmA
inductive Afa:List Pc→List Pc→List Pc→Prop
 | nil {R}:Afa [] R R
 | cons {p N R X}:Afa N R X→Afa (p::N) R (p::X)
theorem Afa.eq {N R X} (h:Afa N R X):N++R=X:=by
 induction h with
 | nil=>rfl
 | cons _ ih=>simp [ih]
theorem Ap {N R X:List Pc} (h:T c fr X Φ) (hX:Afa N R X:=by repeat constructor):T c fr (N++R) Φ:=by rw [hX.eq];exact h
theorem St.ro {G D w0 w} {p q:Pc} (s:St G D w0 H w) (hq:q∈H) (hm:q.mu=false) (hpm:p.mu=false) (hp:p.P w) (hF:∀b∈p.F,b∈q.F):St G D w0 (p::H) w :=
 s.add (N:=[p]) (Below.refl _ _) (by intro x hx;simp at hx;subst hx;exact hp) ⟨by simp,trivial⟩ (by intro x hx b hb;simp at hx;subst hx;exact .inr ⟨hpm,q,hq,hm,hF b hb⟩)
theorem St.conv {G D w0 w} {p q:Pc} {S:List Pc} (s:St G D w0 (p::S) w) (hm:p.mu=true) (hq:q.P w) (hF:∀b∈q.F,b∈p.F):St G D w0 (q::S) w :=
 St.turn (M:=[p]) (N:=[q]) s (Dy.refl _ w) (by intro x hx;simp at hx;subst hx;exact hq) ⟨by simp,trivial⟩ (by intro x hx b hb;simp at hx;subst hx;exact .inr (.inl ⟨p,by simp,hm,hF b hb⟩))
/-! elements, parts of slices that read -/
theorem Tw {α:Type} {E:Bv α} {w:World} {a:Option Addr} {n cp:Nat} {xs:List α} {F:List Nat} (h:(Pc.sl E (.slice a n cp) xs F).P w) (i:Nat) (hi:i < xs.length) :
  ∃b o cs G,a=some ⟨b,o,none⟩∧E.Ka w cs xs[i] G∧(∀x∈G,x∈F)∧b∈F∧cs≠[]∧w.rangeAt b (o+i * E.sz) cs:=by
 obtain ⟨hz,a',cap,hv,hl,h|⟨b,o,F',rfl,hne,rfl,hc⟩⟩:=h
 ·rw [h.1] at hi;simp at hi
 ·simp only [Value.slice.injEq] at hv
  obtain ⟨rfl, -, -⟩:=hv
  obtain ⟨cs,F1,h1,h2,h3⟩:=hc.get i hi
  have hl:=E.len h1
  refine ⟨b,o,cs,F1,rfl,h1,fun x hx=>by simp [h3 x hx],by simp,fun e=>by subst e;simp at hl;omega,fun j u hu=>?_⟩
  have hj:j < E.sz:=by have:=(List.getElem?_eq_some_iff.1 hu).1;omega
  rw [h2 j hj];exact hu
theorem In {a:Option Addr} {n cp:Nat} {xs:List Int} {F:List Nat} (i:Nat) (h:∀(hi:i < xs.length) b o,a=some ⟨b,o,none⟩→T c fr (.cel b (o+i * 1) [.int .i64 xs[i]]::H) Φ) (hm:.sl Bd (.slice a n cp) xs F∈H:=by exact B8) (hi:i < xs.length:=by omega):T c fr H Φ:=.mk fun ac w s g=>by
 obtain ⟨b,o,cs,G,ha,⟨rfl,rfl⟩, -,hb,hne,hr⟩:=Tw (s.get hm) i hi
 exact (h hi b o ha).h ac w (s.ro hm rfl rfl ⟨hne,hr⟩ (by intro x hx;simp [Pc.F] at hx;subst hx;exact hb)) g
theorem V1 {a:Option Addr} {n cp:Nat} {xs:List ByteArray} {F:List Nat} (i:Nat) (h:∀(hi:i < xs.length) b o,a=some ⟨b,o,none⟩→xs[i].size≤maxLen→T c fr (.cel b (o+i * 1) [.string xs[i]]::H) Φ) (hm:.sl Ba (.slice a n cp) xs F∈H:=by exact B8) (hi:i < xs.length:=by omega):T c fr H Φ:=.mk fun ac w s g=>by
 obtain ⟨b,o,cs,G,ha,⟨rfl,hs,rfl⟩, -,hb,hne,hr⟩:=Tw (s.get hm) i hi
 exact (h hi b o ha hs).h ac w (s.ro hm rfl rfl ⟨hne,hr⟩ (by intro x hx;simp [Pc.F] at hx;subst hx;exact hb)) g
theorem A1 {α:Type} {E:Bv α} {t:TypeId} {v:Value} {xs:List α} {F:List Nat} {S:List Pc} (h:∀F',T c fr (.sl E v xs F'::S) Φ) (hp:C0 H (.ow E t v xs F) S:=by exact D0) (hz:0 < E.sz:=by decide):T c fr H Φ:=.mk fun a w s g=>by
 have s1:=s.pick hp
 obtain ⟨-,ho⟩:=s1.on (.ow E t v xs F) (by simp)
 obtain ⟨F',hF,hs⟩:=ho.read
 exact (h F').h a w (s1.conv rfl ⟨hz,hs⟩ hF) g
theorem Ow.takeO {α:Type} {E:Bv α} {t:TypeId} {w:World} {a:Option Addr} {n cp:Nat} {xs:List α} {F:List Nat} (h:Ow E t w (.slice a n cp) xs F) (k:Nat) (hk:k≤xs.length):∃F',F'.Sublist F∧Ow E t w (.slice a k cp) (xs.take k) F':=by
 rcases h with ⟨h1,rfl,rfl⟩|⟨g,cap,cs,rest,G,h1,h2,h3,h4,h5,h6,rfl⟩
 ·cases h1
  have:k=0:=by simpa using hk
  subst this
  exact ⟨[],.slnil,.inl ⟨rfl,rfl,rfl⟩⟩
 ·cases h1
  rw [←List.take_append_drop k xs] at h6
  obtain ⟨c1,c2,G1,G2,rfl,rfl,f1,f2⟩:=h6.split
  have hl:(xs.take k).length=k:=by simp [Nat.min_eq_left hk]
  refine ⟨g::G1,(List.sublist_append_left G1 G2).cons_cons g,.inr ⟨g,cp,c1,c2++rest,G1,by rw [hl],by rw [←List.append_assoc];exact h2,by omega,h4,by simp only [List.length_append] at h5 ⊢;omega,f1,rfl⟩⟩
theorem Z3 {α:Type} {E:Bv α} {t:TypeId} {a:Option Addr} {n cp:Nat} {xs:List α} {F:List Nat} {S:List Pc} (k:Nat) (h:∀F',T c fr (.ow E t (.slice a k cp) (xs.take k) F'::S) Φ) (hk:k≤xs.length:=by omega) (hp:C0 H (.ow E t (.slice a n cp) xs F) S:=by exact D0):T c fr H Φ:=.mk fun ac w s g=>by
 have s1:=s.pick hp
 obtain ⟨hn,ho⟩:=s1.on (.ow E t (.slice a n cp) xs F) (by simp)
 obtain ⟨F',hF,hs⟩:=ho.takeO k hk
 exact (h F').h ac w (s1.conv rfl ⟨hn.sublist hF,hs⟩ hF.subset) g
theorem Ahh {α:Type} {E:Bv α} {t:TypeId} {a:Option Addr} {n cp:Nat} {xs:List α} {F:List Nat} (h:n≤cp→cp≤9223372036854775807→T c fr H Φ) (hm:.ow E t (.slice a n cp) xs F∈H:=by exact B8):T c fr H Φ:=.mk fun ac w s g=>by
 obtain ⟨-,h'|⟨g',cap,cs,rest,G,h1,h2,h3,h4, -⟩⟩:=s.get hm
 ·obtain ⟨h1,h2, -⟩:=h'
  cases h1
  exact (h (by simp) (by decide)).h ac w s g
 ·cases h1
  exact (h h3 (by unfold maxLen at h4;omega)).h ac w s g
theorem Cb {α:Type} (E:Bv α) (t:TypeId) (h:T c fr (.ow E t (.slice none 0 0) [] []::H) Φ):T c fr H Φ:=.mk fun a w s g =>
 h.h a w (s.add (N:=[.ow E t (.slice none 0 0) [] []]) (Below.refl _ _) (by intro p hp;simp at hp;subst hp;exact ⟨by simp,.inl ⟨rfl,rfl,rfl⟩⟩) ⟨by simp,trivial⟩ (by intro p hp b hb;simp at hp;subst hp;simp [Pc.F] at hb)) g
theorem Bw {α:Type} (E:Bv α) (hz:0 < E.sz) (h:T c fr (.sl E (.slice none 0 0) [] []::H) Φ):T c fr H Φ:=.mk fun a w s g =>
 h.h a w (s.add (N:=[.sl E (.slice none 0 0) [] []]) (Below.refl _ _) (by intro p hp;simp at hp;subst hp;exact ⟨hz,none,0,rfl,⟨Nat.le_refl _,by unfold maxLen;omega⟩,.inl ⟨rfl,rfl,fun _=>rfl⟩⟩) ⟨by simp,trivial⟩ (by intro p hp b hb;simp at hp;subst hp;simp [Pc.F] at hb)) g
theorem C9 {α:Type} (E:Bv α) {t g:Nat} {S:List Pc} (h:T c fr (.ow E t (.slice (some ⟨g,0,none⟩) 0 0) [] [g]::S) Φ) (hp:C0 H (.row g t 0 [] [] []) S:=by exact D0):T c fr H Φ:=.mk fun a w s ag=>by
 have s1:=s.pick hp
 obtain ⟨-,hr⟩:=s1.on (.row g t 0 [] [] []) (by simp)
 exact h.h a w (s1.conv rfl ⟨by simp,Ow.empty (by simpa using hr)⟩ (fun b hb=>hb)) ag
theorem bs0 {t e m:Nat} {gd:Option (Nat × Bool)} [hS:SlC c.P t e m] (h:∀g,T c ((d,.slice (some ⟨g,0,none⟩) 0 0)::fr) (.row g e 0 [] [] []::H) Φ) (hd:Nat.blt d c.n=true:=by rfl):Ef c fr H ⟨some d,.buildSlice t 0 #[],ty,pos,Cg,gd⟩ Φ:=Ni fun Q a w s g=>by
 have e1:(execOp a.eval ⟨some d,.buildSlice t 0 #[],ty,pos,Cg,gd⟩).run c.P w=.ok (.value (.slice (some ⟨w.heap.size,0,none⟩) 0 0)) (w.alloc (.cells #[] e)):=by
  simp [execOp,Instr.buildSlice,run_underlying hS.u,Ki hS.s,Instr.fill,newRow,Array.range_zero']
 rw [e1]
 exact (h _).h _ _ (s.new e []) (g.put hd)
inductive Ahp:List Value→List Value→List Value→Prop
 | nil {r}:Ahp [] r r
 | cons {u l r q}:Ahp l r q→Ahp (u::l) r (u::q)
theorem Ahp.eq {l r q} (h:Ahp l r q):l++r=q:=by
 induction h with
 | nil=>rfl
 | cons _ ih=>simp [ih]
inductive Rpt (zs:List Value):Nat→List Value→Prop
 | zero:Rpt zs 0 []
 | succ {n r q}:Rpt zs n r→Ahp zs r q→Rpt zs (n+1) q
theorem Rpt.eq {zs:List Value} {n q} (h:Rpt zs n q):q=(List.replicate n zs).flatten:=by
 induction h with
 | zero=>rfl
 | succ _ h2 ih=>rw [←h2.eq,ih,List.replicate_succ,List.flatten_cons]
theorem bs {t e m b len:Nat} {z:Value} {zs cs q:List Value} {ps:List (Nat × Operand)} {gd:Option (Nat × Bool)} [hS:SlC c.P t e m] [hE:ElT c.P e z m b] [hZ:ZC c.P e zs] (h:∀g,T c ((d,.slice (some ⟨g,0,none⟩) len len)::fr) (.row g e 0 [] q []::H) Φ)
  (hc:Rpt zs len cs:=by repeat constructor) (hf:Fil (fun i=>some (i * m,m)) fr cs ps q:=by repeat (first|exact Fil.nil|apply Fil.cons (by rfl) (by rfl) (by rfl) (by repeat constructor))) (hl:Nat.ble (len * m) 1000=true:=by rfl) (hm:Nat.blt 0 m=true:=by rfl) (hlen:Nat.blt 0 len=true:=by rfl) (hd:Nat.blt d c.n=true:=by rfl) :
  Ef c fr H ⟨some d,.buildSlice t len ps.toArray,ty,pos,Cg,gd⟩ Φ:=Ni fun Q a w s g=>by
 have hm0:m≠0:=by have:0 < m:=by simpa using hm
                  omega
 have hlen0:len≠0:=by have:0 < len:=by simpa using hlen
                      omega
 have hl2:len * m≤1000:=by simpa using hl
 obtain ⟨i,hi,hz⟩:=Option.map_eq_some_iff.1 hE.i
 simp only [Prod.mk.injEq] at hz
 obtain ⟨hz,hs, -⟩:=hz
 obtain ⟨z',hz',hzc⟩:=hZ.z
 obtain rfl:z'=z:=by rw [hi] at hz';simp [hz] at hz';exact hz'.symm
 have hzl:zs.length=m:=by have:=hE.s;rw [hzc] at this;simpa using this
 have e2:((Array.range (len * m)).map (zs.toArray[· % zs.toArray.size]!))=cs.toArray:=by
  have:=Lr zs.toArray len
  rw [hc.eq]
  apply Array.ext'
  rw [show zs.toArray.size=m from by simp [hzl]] at this
  simpa [madeCells] using this
 have e1:(execOp a.eval ⟨some d,.buildSlice t len ps.toArray,ty,pos,Cg,gd⟩).run c.P w=.ok (.value (.slice (some ⟨w.heap.size,0,none⟩) len len)) (w.alloc (.cells q.toArray e)):=by
  have h3:=hf.run g
  have hne:¬(len * m=0):=Nat.mul_ne_zero hlen0 hm0
  have hns:¬(len * m > 2 ^ 24):=by omega
  have hzv:(zeroValue e).run c.P w=.ok z' w:=by simp [zeroValue,typeInfo,hi,hz]
  simp only [execOp,Instr.buildSlice,Sem.run_bind,run_underlying hS.u,Ki hS.s,Result.andThen_ok,if_neg hns,if_neg hne,hzv,hzc,Sem.run_pure,Sem.run_ite,e2]
  simp only [List.map_toArray,h3,newRow,Sem.run_bind,run_newObj_alloc,Result.andThen_ok,Sem.run_pure]
 rw [e1]
 exact (h _).h _ _ (s.new e q) (g.put hd)
theorem Jw {t e m:Nat} [SlC c.P t e m] (hd:Nat.blt d c.n=true) (h:∀g,T c ((d,.slice (some ⟨g,0,none⟩) 0 0)::fr) (.row g e 0 [] [] []::H) Φ):On c fr H (some d) (.buildSlice t 0 #[]) ty Φ:=⟨fun _ _ _=>bs0 h hd⟩
theorem Hl {zs:List Value} {n:Nat} {q:List Value} (h:Rpt zs n q:=by repeat constructor):Rpt zs n q:=h
theorem Ho {t e m b len:Nat} {z:Value} {zs cs q:List Value} {ps:List (Nat × Operand)} [SlC c.P t e m] [ElT c.P e z m b] [ZC c.P e zs] (hd:Nat.blt d c.n=true) (hlen:Nat.blt 0 len=true) (hm:Nat.blt 0 m=true) (hl:Nat.ble (len * m) 1000=true) (hc:Rpt zs len cs) (hf:Fil (fun i=>some (i * m,m)) fr cs ps q) (h:∀g,T c ((d,.slice (some ⟨g,0,none⟩) len len)::fr) (.row g e 0 [] q []::H) Φ) :
  On c fr H (some d) (.buildSlice t len ps.toArray) ty Φ:=⟨fun _ _ _=>bs h hc hf hl hm hlen hd⟩
end
end Go.Proofs.YtaemjogbahcbcaaGreatDoor
