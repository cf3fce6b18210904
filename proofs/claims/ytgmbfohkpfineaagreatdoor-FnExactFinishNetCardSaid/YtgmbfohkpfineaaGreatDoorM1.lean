/- Part 1 of the proof: 26 texts, one behind the other. -/
import Derived.WalkKit
import Derived.Lib.Hide
import Derived.Deep.Draws
import Derived.Deep.AppendLies
import Derived.OwnWalk
import Derived.Test.YtgmbfohkpfineaaGreatDoorRows
import Derived.WalkSpells
import Derived.WalkLawsBesides
import Derived.Deep.QuietTactic
import Derived.BigQuiet
import Derived.Deep.RegionHeld3
import Derived.Deep.OwnRows
import Derived.Lib.SliceRun
import Derived.Deep.RegionHeld
set_option maxRecDepth 100000
set_option maxHeartbeats 8000000
set_option linter.all false
set_option linter.unusedVariables false
set_option linter.unusedSimpArgs false
namespace Go.Proofs.YtgmbfohkpfineaaGreatDoor
open Go.RowKit
theorem kc {w w':World} {a:Addr} {v:Value} (hb:Below w.heap.size w w') (h:w.cell? a=some v):w'.cell? a=some v :=
 (hb.cell (World.block_lt_of_cell? w a h)).trans h
theorem kf {w w':World} {a:Addr} {v:Value} (hb:Below w.heap.size w w') (h:w.cell? a=some v):w'.frozen? a=w.frozen? a :=
 hb.frozen (World.block_lt_of_cell? w a h)
theorem tr {B:Nat} {w w1 w2:World} (h:Below B w w1) (h':Below w1.heap.size w1 w2) (hB:B≤w.heap.size):Below B w w2:=h.trans (h'.mono (Nat.le_trans hB h.size))
structure Elem (α:Type) where
 sz:Nat
 rep:World→List Value→α→List Nat→Prop
 len:∀{w cs x F},rep w cs x F→cs.length=sz
 lt:∀{w cs x F},rep w cs x F→∀b∈F,b < w.heap.size
 frame:∀{w w':World} {cs x F},rep w cs x F→(∀b∈F,w'.heap[b]?=w.heap[b]?)→rep w' cs x F
def Cells {α:Type} (E:Elem α) (w:World) (b:Nat):Nat→List α→List Nat→Prop
 | _,[],F=>F=[]
 | off,x::r,F=>∃cs F1 F2,F=F1++F2∧E.rep w cs x F1∧(∀j,j < E.sz→w.cell? ⟨b,off+j,none⟩=cs[j]?)∧Cells E w b (off+E.sz) r F2
def Sl {α:Type} (E:Elem α) (w:World) (v:Value) (xs:List α) (F:List Nat):Prop :=
 ∃a cap,v=.slice a xs.length cap∧(xs.length≤cap∧cap≤maxLen) ∧
  ((xs=[]∧F=[]∧(a=none→cap=0))∨∃b off F',a=some ⟨b,off,none⟩∧xs≠[]∧F=b::F'∧Cells E w b off xs F')
theorem Cells.lt {α:Type} {E:Elem α} {w:World} {b:Nat}:∀{xs:List α} {off:Nat} {F:List Nat},Cells E w b off xs F→∀c∈F,c < w.heap.size
 | [],_,_,h=>by simp [Cells] at h;simp [h]
 | _::r,_,_,h=>by
  obtain ⟨cs,F1,F2,rfl,h1,_,h2⟩:=h
  intro c hc
  rcases List.mem_append.1 hc with hc|hc
  ·exact E.lt h1 c hc
  ·exact Cells.lt h2 c hc
theorem Cells.frame {α:Type} {E:Elem α} {w w':World} {b:Nat} (hb:w'.heap[b]?=w.heap[b]?):∀{xs:List α} {off:Nat} {F:List Nat},Cells E w b off xs F →
  (∀c∈F,w'.heap[c]?=w.heap[c]?)→Cells E w' b off xs F
 | [],_,_,h,_=>h
 | _::r,_,_,h,hF=>by
  obtain ⟨cs,F1,F2,rfl,h1,hc,h2⟩:=h
  refine ⟨cs,F1,F2,rfl,E.frame h1 fun c hc=>hF c (by simp [hc]),fun j hj=>?_,Cells.frame hb h2 fun c hc=>hF c (by simp [hc])⟩
  rw [World.cell?_of_block (w:=w) hb];exact hc j hj
theorem Cells.get {α:Type} {E:Elem α} {w:World} {b:Nat}:∀{xs:List α} {off:Nat} {F:List Nat},Cells E w b off xs F→∀(i:Nat) (hi:i < xs.length),
  ∃cs F1,E.rep w cs xs[i] F1∧(∀j,j < E.sz→w.cell? ⟨b,off+i * E.sz+j,none⟩=cs[j]?)∧∀c∈F1,c∈F
 | [],_,_,_,i,hi=>by simp at hi
 | x::r,off,_,h,0,_=>by
  obtain ⟨cs,F1,F2,rfl,h1,hc,h2⟩:=h
  exact ⟨cs,F1,h1,by simpa using hc,fun c hc=>by simp [hc]⟩
 | x::r,off,_,h,i+1,hi=>by
  obtain ⟨cs,F1,F2,rfl,h1,hc,h2⟩:=h
  obtain ⟨cs',F3,h3,hc3,hm⟩:=Cells.get h2 i (by simpa using hi)
  refine ⟨cs',F3,by simpa using h3,fun j hj=>?_,fun c hc=>by simp [hm c hc]⟩
  rw [←hc3 j hj,show off+(i+1) * E.sz+j=off+E.sz+i * E.sz+j by rw [Nat.add_mul];omega]
theorem Cells.block {α:Type} {E:Elem α} {w:World} {b off:Nat} {xs:List α} {F:List Nat} (h:Cells E w b off xs F) (hne:xs≠[]) (hz:0 < E.sz):b < w.heap.size:=by
 cases xs with
 | nil=>exact absurd rfl hne
 | cons x r =>
  obtain ⟨cs,F1,F2,rfl,h1,hc,h2⟩:=h
  have h0:=hc 0 hz
  have hl:=E.len h1
  rw [List.getElem?_eq_getElem (by omega)] at h0
  exact World.block_lt_of_cell? w _ h0
theorem Sl.lt {α:Type} {E:Elem α} (hz:0 < E.sz) {w v xs F} (h:Sl E w v xs F):∀c∈F,c < w.heap.size:=by
 obtain ⟨a,cap,_,_,⟨_,rfl,_⟩|⟨b,off,F',_,hne,rfl,hc⟩⟩:=h
 ·simp
 ·intro c hm
  rcases List.mem_cons.1 hm with rfl|hm
  ·exact hc.block hne hz
  ·exact hc.lt c hm
theorem Sl.frame {α:Type} {E:Elem α} {w w':World} {v xs F} (h:Sl E w v xs F) (hF:∀b∈F,w'.heap[b]?=w.heap[b]?):Sl E w' v xs F:=by
 obtain ⟨a,cap,hv,hl,⟨h1,h2⟩|⟨b,off,F',h1,hne,rfl,hc⟩⟩:=h
 ·exact ⟨a,cap,hv,hl,.inl ⟨h1,h2⟩⟩
 ·exact ⟨a,cap,hv,hl,.inr ⟨b,off,F',h1,hne,rfl,hc.frame (hF b (by simp)) fun c hc=>hF c (by simp [hc])⟩⟩
theorem Sl.below {α:Type} {E:Elem α} (hz:0 < E.sz) {w w':World} {v xs F} (h:Sl E w v xs F) (hb:Below w.heap.size w w'):Sl E w' v xs F :=
 h.frame fun c hc=>hb.block c (h.lt hz c hc)
def EInt:Elem Int where
 sz:=1
 rep _ cs z F:=cs=[.int .i64 z]∧F=[]
 len h:=by simp [h.1]
 lt h:=by simp [h.2]
 frame h _:=h
def EBool:Elem Bool where
 sz:=1
 rep _ cs z F:=cs=[.bool z]∧F=[]
 len h:=by simp [h.1]
 lt h:=by simp [h.2]
 frame h _:=h
def EStr:Elem ByteArray where
 sz:=1
 rep _ cs s F:=cs=[.string s]∧s.size≤maxLen∧F=[]
 len h:=by simp [h.1]
 lt h:=by simp [h.2.2]
 frame h _:=h
def ESl {α:Type} (E:Elem α) (hz:0 < E.sz):Elem (List α) where
 sz:=1
 rep w cs xs F:=∃v,cs=[v]∧Sl E w v xs F
 len h:=by obtain ⟨v,rfl,_⟩:=h;rfl
 lt h:=by obtain ⟨v,rfl,h⟩:=h;exact h.lt hz
 frame h hF:=by obtain ⟨v,rfl,h⟩:=h;exact ⟨v,rfl,h.frame hF⟩
def EUnit:Elem Unit where
 sz:=0
 rep _ cs _ F:=cs=[]∧F=[]
 len h:=by simp [h.1]
 lt h:=by simp [h.2]
 frame h _:=h
def EProd {α β:Type} (A:Elem α) (B:Elem β):Elem (α × β) where
 sz:=A.sz+B.sz
 rep w cs x F:=∃c1 c2 F1 F2,cs=c1++c2∧F=F1++F2∧A.rep w c1 x.1 F1∧B.rep w c2 x.2 F2
 len h:=by obtain ⟨c1,c2,F1,F2,rfl,rfl,h1,h2⟩:=h;simp [A.len h1,B.len h2]
 lt h:=by
  obtain ⟨c1,c2,F1,F2,rfl,rfl,h1,h2⟩:=h
  intro b hb
  rcases List.mem_append.1 hb with hb|hb
  ·exact A.lt h1 b hb
  ·exact B.lt h2 b hb
 frame h hF:=by
  obtain ⟨c1,c2,F1,F2,rfl,rfl,h1,h2⟩:=h
  exact ⟨c1,c2,F1,F2,rfl,rfl,A.frame h1 fun b hb=>hF b (by simp [hb]),B.frame h2 fun b hb=>hF b (by simp [hb])⟩
def Elem.comap {α β:Type} (B:Elem β) (f:α→β):Elem α where
 sz:=B.sz
 rep w cs x F:=B.rep w cs (f x) F
 len h:=B.len h
 lt h:=B.lt h
 frame h hF:=B.frame h hF
theorem Elem.below {α:Type} (E:Elem α) {w w':World} {cs x F} (h:E.rep w cs x F) (hb:Below w.heap.size w w'):E.rep w' cs x F :=
 E.frame h fun c hc=>hb.block c (E.lt h c hc)
structure LogRec where
 command:ByteArray
 reply:ByteArray
def ERec:Elem LogRec:=(EProd EStr (EProd EStr EUnit)).comap fun x=>(x.command,x.reply,())
theorem ERec.open {w cs x F} (h:ERec.rep w cs x F):cs=[.string x.command,.string x.reply]∧x.command.size≤maxLen∧x.reply.size≤maxLen:=by
 obtain ⟨c1,c2,F1,F2,rfl,rfl,⟨rfl,h1,_⟩,c3,c4,F3,F4,rfl,rfl,⟨rfl,h2,_⟩,rfl,_⟩:=h
 exact ⟨rfl,h1,h2⟩
structure Keep (F:List Nat) (w w':World):Prop where
 os:w'.os=w.os
 tape:w'.tape=w.tape
 output:w'.output=w.output
 size:w.heap.size≤w'.heap.size
 block:∀k,k < w.heap.size→k ∉ F→w'.heap[k]?=w.heap[k]?
theorem Keep.refl (F:List Nat) (w:World):Keep F w w:=⟨rfl,rfl,rfl,Nat.le_refl _,fun _ _ _=>rfl⟩
theorem Keep.trans {F:List Nat} {a b c:World} (h:Keep F a b) (k:Keep F b c):Keep F a c :=
 ⟨k.os.trans h.os,k.tape.trans h.tape,k.output.trans h.output,Nat.le_trans h.size k.size,fun i hi hf=>(k.block i (Nat.lt_of_lt_of_le hi h.size) hf).trans (h.block i hi hf)⟩
theorem Keep.mono {F G:List Nat} {a b:World} (h:Keep F a b) (hs:∀x∈F,x < a.heap.size→x∈G):Keep G a b :=
 ⟨h.os,h.tape,h.output,h.size,fun k hk hg=>h.block k hk fun hf=>hg (hs k hf hk)⟩
theorem Keep.ofBelow {F:List Nat} {w w':World} (h:Below w.heap.size w w'):Keep F w w':=⟨h.os,h.tape,h.output,h.size,fun k hk _=>h.block k hk⟩
theorem Keep.below {F:List Nat} {w w':World} {B:Nat} (h:Keep F w w') (hB:B≤w.heap.size) (hF:∀b∈F,B≤b):Below B w w' :=
 ⟨h.os,h.tape,h.output,h.size,fun k hk=>h.block k (by omega) fun hf=>by have:=hF k hf;omega⟩
theorem Keep.setCell {F:List Nat} {w w':World} (h:Keep F w w') {p:Addr} (hp:p.block∈F) (u:Value):Keep F w (w'.setCell p u) :=
 h.trans ⟨rfl,rfl,rfl,by simp [World.setCell],fun k _ hf=>Below.heap_setCell _ _ _ _ (fun e=>hf (e▸hp))⟩
theorem Keep.alloc {F:List Nat} {w w':World} (h:Keep F w w') (o:Obj):Keep F w (w'.alloc o) :=
 h.trans ⟨rfl,rfl,rfl,by simp,fun k hk _=>Below.heap_alloc _ _ _ hk⟩
theorem Keep.drewN {F:List Nat} {w w':World} (h:Keep F w w') (n:Nat):Keep F w (w'.drewN n):=⟨h.os,h.tape,h.output,h.size,h.block⟩
theorem Keep.cell {F:List Nat} {w w':World} (h:Keep F w w') {a:Addr} {v:Value} (ha:a.block ∉ F) (hc:w.cell? a=some v):w'.cell? a=some v :=
 (World.cell?_of_block (w:=w) (h.block a.block (World.block_lt_of_cell? w a hc) ha)).trans hc
theorem belowDrewN {B:Nat} {a w:World} (h:Below B a w) (n:Nat):Below B a (w.drewN n):=⟨h.os,h.tape,h.output,h.size,h.block⟩
def Row (w:World) (g:Nat) (t:TypeId) (cs:List Value):Prop:=w.heap[g]?=some (.cells cs.toArray t (0,0))
theorem Row.lt {w g t cs} (h:Row w g t cs):g < w.heap.size:=by
 rcases Nat.lt_or_ge g w.heap.size with h1|h1
 ·exact h1
 ·rw [Row,Array.getElem?_eq_none h1] at h;simp at h
theorem Row.cell {w g t cs} (h:Row w g t cs) (j:Nat):w.cell? ⟨g,j,none⟩=cs[j]?:=by
 simp [World.cell?,show w.heap[g]?=_ from h]
theorem Row.frozen {w g t cs} (h:Row w g t cs) (j:Nat):w.frozen? ⟨g,j,none⟩=false:=by
 simp [World.frozen?,show w.heap[g]?=_ from h]
theorem Row.keep {w w' g t cs} (h:Row w g t cs) (e:w'.heap[g]?=w.heap[g]?):Row w' g t cs:=e.trans h
theorem Row.below {w w' g t cs} (h:Row w g t cs) (hb:Below w.heap.size w w'):Row w' g t cs:=h.keep (hb.block g h.lt)
theorem Row.set {w g t cs} (h:Row w g t cs) (j:Nat) (u:Value):Row (w.setCell ⟨g,j,none⟩ u) g t (cs.set j u):=by
 have h':w.heap[g]?=_:=h
 simp [Row,World.setCell,Array.getElem?_modify,h']
theorem Row.setOther {w g t cs} (h:Row w g t cs) {p:Addr} (hp:p.block≠g) (u:Value):Row (w.setCell p u) g t cs :=
 h.keep (Below.heap_setCell _ _ _ _ (fun e=>hp e.symm))
theorem Row.cells {w g t cs} (h:Row w g t cs):∀j,w.cell? ⟨g,j,none⟩=cs[j]?:=h.cell
theorem Row.frozens {w g t cs} (h:Row w g t cs):∀j,w.frozen? ⟨g,j,none⟩=false:=h.frozen
theorem Row.made (w:World) (t:TypeId) (cs:List Value):Row (w.alloc (.cells cs.toArray t)) w.heap.size t cs:=heap_alloc_new w _
theorem Row.alloc {w g t cs} (h:Row w g t cs) (o:Obj):Row (w.alloc o) g t cs:=h.keep (Below.heap_alloc _ _ _ h.lt)
theorem row_alloc (w:World) (o:Obj) (g:Nat) (t:TypeId) (cs:List Value):Row (w.alloc o) g t cs↔if g=w.heap.size then o=.cells cs.toArray t (0,0) else Row w g t cs:=by
 unfold Row
 show (w.heap.push o)[g]?=_↔_
 rw [Array.getElem?_push]
 split <;> simp
def Flat {α:Type} (E:Elem α) (w:World):List Value→List α→List Nat→Prop
 | cs,[],G=>cs=[]∧G=[]
 | cs,x::r,G=>∃c1 c2 F1 F2,cs=c1++c2∧G=F1++F2∧E.rep w c1 x F1∧Flat E w c2 r F2
section
variable {α:Type} {E:Elem α}
theorem Flat.len {w:World}:∀{xs:List α} {cs:List Value} {G:List Nat},Flat E w cs xs G→cs.length=xs.length * E.sz
 | [],_,_,h=>by simp [h.1]
 | x::r,_,_,h=>by
  obtain ⟨c1,c2,F1,F2,rfl,rfl,h1,h2⟩:=h
  rw [List.length_append,E.len h1,h2.len,List.length_cons,Nat.add_mul];omega
theorem Flat.lt {w:World}:∀{xs:List α} {cs:List Value} {G:List Nat},Flat E w cs xs G→∀b∈G,b < w.heap.size
 | [],_,_,h=>by simp [h.2]
 | x::r,_,_,h=>by
  obtain ⟨c1,c2,F1,F2,rfl,rfl,h1,h2⟩:=h
  intro b hb
  rcases List.mem_append.1 hb with hb|hb
  ·exact E.lt h1 b hb
  ·exact h2.lt b hb
theorem Flat.frame {w w':World}:∀{xs:List α} {cs:List Value} {G:List Nat},Flat E w cs xs G→(∀b∈G,w'.heap[b]?=w.heap[b]?)→Flat E w' cs xs G
 | [],_,_,h,_=>h
 | x::r,_,_,h,hG=>by
  obtain ⟨c1,c2,F1,F2,rfl,rfl,h1,h2⟩:=h
  exact ⟨c1,c2,F1,F2,rfl,rfl,E.frame h1 fun b hb=>hG b (by simp [hb]),h2.frame fun b hb=>hG b (by simp [hb])⟩
theorem Flat.append {w:World}:∀{xs ys:List α} {cs ds:List Value} {G H:List Nat},Flat E w cs xs G→Flat E w ds ys H→Flat E w (cs++ds) (xs++ys) (G++H)
 | [],_,_,_,_,_,h,k=>by obtain ⟨rfl,rfl⟩:=h;simpa using k
 | x::r,_,_,_,_,_,h,k=>by
  obtain ⟨c1,c2,F1,F2,rfl,rfl,h1,h2⟩:=h
  exact ⟨c1,_,F1,_,by rw [List.append_assoc],by rw [List.append_assoc],h1,h2.append k⟩
theorem Flat.one {w:World} {x:α} {cs:List Value} {G:List Nat} (h:E.rep w cs x G):Flat E w cs [x] G:=⟨cs,[],G,[],by simp,by simp,h,rfl,rfl⟩
theorem Flat.split {w:World}:∀{xs ys:List α} {cs:List Value} {G:List Nat},Flat E w cs (xs++ys) G→∃c1 c2 G1 G2,cs=c1++c2∧G=G1++G2∧Flat E w c1 xs G1∧Flat E w c2 ys G2
 | [],_,cs,G,h=>⟨[],cs,[],G,rfl,rfl,⟨rfl,rfl⟩,h⟩
 | x::r,_,_,_,h=>by
  obtain ⟨c1,c2,F1,F2,rfl,rfl,h1,h2⟩:=h
  obtain ⟨d1,d2,G1,G2,rfl,rfl,h3,h4⟩:=h2.split
  exact ⟨c1++d1,d2,F1++G1,G2,by simp,by simp,⟨c1,d1,F1,G1,rfl,rfl,h1,h3⟩,h4⟩
theorem Flat.focus {w:World} {xs:List α} {cs:List Value} {G:List Nat} (h:Flat E w cs xs G) (i:Nat) (hi:i < xs.length) :
  ∃A c B G1 Fi G2,cs=A++c++B∧G=G1++Fi++G2∧A.length=i * E.sz∧c.length=E.sz∧Flat E w A (xs.take i) G1∧E.rep w c xs[i] Fi∧Flat E w B (xs.drop (i+1)) G2:=by
 have e:xs=xs.take i++xs[i]::xs.drop (i+1):=by simp
 rw [e] at h
 obtain ⟨A,c2,G1,G2,rfl,rfl,h1,c,B,F1,F2,rfl,rfl,h2,h3⟩:=h.split
 exact ⟨A,c,B,G1,F1,F2,by simp,by simp,by rw [h1.len,List.length_take,Nat.min_eq_left (by omega)],E.len h2,h1,h2,h3⟩
theorem Flat.build {w:World} {xs:List α} {A c B:List Value} {G1 Fi G2:List Nat} {i:Nat} (hi:i < xs.length) {x:α} (h1:Flat E w A (xs.take i) G1) (h2:E.rep w c x Fi) (h3:Flat E w B (xs.drop (i+1)) G2) :
  Flat E w (A++c++B) (xs.set i x) (G1++Fi++G2):=by
 have e:xs.set i x=xs.take i++[x]++xs.drop (i+1):=by
  rw [List.set_eq_take_append_cons_drop];simp [hi]
 rw [e]
 exact (h1.append (Flat.one h2)).append h3
def Ow (E:Elem α) (t:TypeId) (w:World) (v:Value) (xs:List α) (F:List Nat):Prop :=
 (v=.slice none 0 0∧xs=[]∧F=[]) ∨
 ∃g cap cs rest G,v=.slice (some ⟨g,0,none⟩) xs.length cap∧Row w g t (cs++rest)∧xs.length≤cap∧cap≤maxLen∧cs.length+rest.length=cap * E.sz∧Flat E w cs xs G∧F=g::G
theorem Ow.lt {t:TypeId} {w v} {xs:List α} {F} (h:Ow E t w v xs F):∀b∈F,b < w.heap.size:=by
 rcases h with ⟨_,_,rfl⟩|⟨g,cap,cs,rest,G,_,hr,_,_,_,hf,rfl⟩
 ·simp
 ·intro b hb
  rcases List.mem_cons.1 hb with rfl|hb
  ·exact hr.lt
  ·exact hf.lt b hb
theorem Ow.frame {t:TypeId} {w w':World} {v} {xs:List α} {F} (h:Ow E t w v xs F) (hF:∀b∈F,w'.heap[b]?=w.heap[b]?):Ow E t w' v xs F:=by
 rcases h with h|⟨g,cap,cs,rest,G,hv,hr,h1,h2,h3,hf,rfl⟩
 ·exact .inl h
 ·exact .inr ⟨g,cap,cs,rest,G,hv,hr.keep (hF g (by simp)),h1,h2,h3,hf.frame fun b hb=>hF b (by simp [hb]),rfl⟩
theorem Ow.below {t:TypeId} {w w':World} {v} {xs:List α} {F} (h:Ow E t w v xs F) (hb:Below w.heap.size w w'):Ow E t w' v xs F :=
 h.frame fun b h'=>hb.block b (h.lt b h')
theorem Ow.keep {t:TypeId} {w w':World} {v} {xs:List α} {F K} (h:Ow E t w v xs F) (hk:Keep K w w') (hd:∀b∈F,b ∉ K):Ow E t w' v xs F :=
 h.frame fun b h'=>hk.block b (h.lt b h') (hd b h')
theorem Ow.setFar {t:TypeId} {w:World} {v} {xs:List α} {F} (h:Ow E t w v xs F) {p:Addr} (hp:p.block ∉ F) (u:Value):Ow E t (w.setCell p u) v xs F :=
 h.frame fun b hb=>Below.heap_setCell _ _ _ _ fun e=>hp (e▸hb)
theorem Ow.len {t:TypeId} {w v} {xs:List α} {F} (h:Ow E t w v xs F):xs.length≤maxLen:=by
 rcases h with ⟨_,rfl,_⟩|⟨g,cap,cs,rest,G,_,_,h1,h2,_⟩
 ·simp
 ·omega
theorem Ow.slice {t:TypeId} {w v} {xs:List α} {F} (h:Ow E t w v xs F):∃a cap,v=.slice a xs.length cap:=by
 rcases h with ⟨rfl,rfl,_⟩|⟨g,cap,cs,rest,G,rfl,_⟩
 ·exact ⟨none,0,rfl⟩
 ·exact ⟨_,_,rfl⟩
theorem Ow.focus {t:TypeId} {w v} {xs:List α} {F} (h:Ow E t w v xs F) (i:Nat) (hi:i < xs.length) :
  ∃g cap A c B G1 Fi G2,v=.slice (some ⟨g,0,none⟩) xs.length cap∧Row w g t (A++c++B)∧A.length=i * E.sz∧c.length=E.sz∧E.rep w c xs[i] Fi∧F=g::(G1++Fi++G2) ∧
   (∀b∈G1++G2,b < w.heap.size) ∧
   ∀w' c' x' Fi',Row w' g t (A++c'++B)→E.rep w' c' x' Fi'→(∀b∈G1++G2,w'.heap[b]?=w.heap[b]?)→Ow E t w' v (xs.set i x') (g::(G1++Fi'++G2)):=by
 rcases h with ⟨_,rfl,_⟩|⟨g,cap,cs,rest,G,rfl,hr,h1,h2,h3,hf,rfl⟩
 ·simp at hi
 ·obtain ⟨A,c,B,G1,Fi,G2,rfl,rfl,hA,hc,hfA,hx,hfB⟩:=hf.focus i hi
  refine ⟨g,cap,A,c,B++rest,G1,Fi,G2,rfl,by simpa using hr,hA,hc,hx,rfl,?_,?_⟩
  ·intro b hb
   rcases List.mem_append.1 hb with hb|hb
   ·exact hfA.lt b hb
   ·exact hfB.lt b hb
  ·intro w' c' x' Fi' hr' hx' hG
   refine .inr ⟨g,cap,A++c'++B,rest,G1++Fi'++G2,by simp,by simpa using hr',by simpa using h1,h2,?_,?_,rfl⟩
   ·have:=E.len hx'
    simp only [List.length_append] at h3 ⊢
    omega
   ·exact Flat.build hi (hfA.frame fun b hb=>hG b (by simp [hb])) hx' (hfB.frame fun b hb=>hG b (by simp [hb]))
structure Weak {α:Type} (O R:Elem α):Prop where
 sz:O.sz=R.sz
 rep:∀{w cs x F},O.rep w cs x F→∃F',(∀b∈F',b∈F)∧R.rep w cs x F'
theorem Weak.refl {α:Type} (E:Elem α):Weak E E:=⟨rfl,fun h=>⟨_,fun _ h=>h,h⟩⟩
theorem Ow.sl {O R:Elem α} (hW:Weak O R) {t:TypeId} {w v} {xs:List α} {F} (h:Ow O t w v xs F):∃F',(∀b∈F',b∈F)∧Sl R w v xs F':=by
 have key:∀(xs:List α) (cs:List Value) (G:List Nat) (g off:Nat),Flat O w cs xs G→(∀j,j < cs.length→w.cell? ⟨g,off+j,none⟩=cs[j]?)→∃G',(∀b∈G',b∈G)∧Cells R w g off xs G':=by
  intro xs
  induction xs with
  | nil=>intro cs G g off h _;exact ⟨[],by simp,rfl⟩
  | cons x r ih =>
   intro cs G g off h hc
   obtain ⟨c1,c2,F1,F2,rfl,rfl,h1,h2⟩:=h
   have hl:=O.len h1
   have hs:=hW.sz
   obtain ⟨F1',hs1,hr1⟩:=hW.rep h1
   obtain ⟨F2',hs2,hr2⟩:=ih c2 F2 g (off+R.sz) h2 fun j hj=>by
    have:=hc (c1.length+j) (by simp;omega)
    rw [List.getElem?_append_right (by omega),show c1.length+j - c1.length=j by omega] at this
    rw [←this,show off+R.sz+j=off+(c1.length+j) by omega]
   refine ⟨F1'++F2',fun b hb=>?_,c1,F1',F2',rfl,hr1,fun j hj=>?_,hr2⟩
   ·rcases List.mem_append.1 hb with hb|hb
    ·simp [hs1 b hb]
    ·simp [hs2 b hb]
   ·rw [hc j (by simp;omega),List.getElem?_append_left (by omega)]
 have hl:=h.len
 rcases h with ⟨rfl,rfl,rfl⟩|⟨g,cap,cs,rest,G,rfl,hrow,h1,h2,h3,hf,rfl⟩
 ·exact ⟨[],by simp,none,0,rfl,by simp,.inl ⟨rfl,rfl,fun _=>rfl⟩⟩
 ·by_cases h0:xs=[]
  ·subst h0
   exact ⟨[],by simp,some ⟨g,0,none⟩,cap,rfl,⟨by simp,h2⟩,.inl ⟨rfl,rfl,fun e=>by cases e⟩⟩
  ·obtain ⟨G',hG,hc⟩:=key xs cs G g 0 hf fun j hj=>by rw [Nat.zero_add,hrow.cell,List.getElem?_append_left hj]
   exact ⟨g::G',fun b hb=>by rcases List.mem_cons.1 hb with rfl|hb;simp;simp [hG b hb],_,cap,rfl,⟨h1,h2⟩,.inr ⟨g,0,G',rfl,h0,rfl,hc⟩⟩
theorem Ow.read {t:TypeId} {w v} {xs:List α} {F} (h:Ow E t w v xs F):∃F',(∀b∈F',b∈F)∧Sl E w v xs F':=by
 exact h.sl (Weak.refl E)
end
theorem Weak.slice {α:Type} {O R:Elem α} (h:Weak O R) (hz:0 < R.sz) (t:TypeId) {w v} {xs:List α} {F} (ho:Ow O t w v xs F):∃F',(∀b∈F',b∈F)∧(ESl R hz).rep w [v] xs F':=by
 obtain ⟨F',h1,h2⟩:=ho.sl h;exact ⟨F',h1,v,rfl,h2⟩
def OSl {α:Type} (E:Elem α) (t:TypeId):Elem (List α) where
 sz:=1
 rep w cs xs F:=∃v,cs=[v]∧Ow E t w v xs F
 len h:=by obtain ⟨v,rfl,_⟩:=h;rfl
 lt h:=by obtain ⟨v,rfl,h⟩:=h;exact h.lt
 frame h hF:=by obtain ⟨v,rfl,h⟩:=h;exact ⟨v,rfl,h.frame hF⟩
theorem set_mid (A c B:List Value) (j:Nat) (hj:j < c.length) (u:Value):(A++c++B).set (A.length+j) u=A++c.set j u++B:=by
 rw [List.append_assoc,List.set_append_right _ _ (by omega),show A.length+j - A.length=j by omega,List.set_append_left _ _ hj,List.append_assoc]
theorem Row.setMid {w g t} {A c B:List Value} (h:Row w g t (A++c++B)) {p j:Nat} (hp:p=A.length+j) (hj:j < c.length) (u:Value):Row (w.setCell ⟨g,p,none⟩ u) g t (A++c.set j u++B):=by
 subst hp;rw [←set_mid _ _ _ _ hj];exact h.set _ u
theorem Row.cellMid {w g t} {A c B:List Value} (h:Row w g t (A++c++B)) {p j:Nat} (hp:p=A.length+j) (hj:j < c.length):w.cell? ⟨g,p,none⟩=c[j]?:=by
 subst hp;rw [h.cell,List.append_assoc,List.getElem?_append_right (by omega),show A.length+j - A.length=j by omega,List.getElem?_append_left hj]
def putCells (w:World) (g:Nat):Nat→List Value→World
 | _,[]=>w
 | p,u::r=>putCells (w.setCell ⟨g,p,none⟩ u) g (p+1) r
theorem Row.put {g t}:∀(c' c:List Value) {w:World} {A B:List Value} {p:Nat},Row w g t (A++c++B)→p=A.length→c'.length=c.length→Row (putCells w g p c') g t (A++c'++B)
 | [],[],_,_,_,_,h,_,_=>h
 | u::r,d::c,w,A,B,p,h,hp,hl=>by
  have h1:=h.setMid (p:=p) (j:=0) (by omega) (by simp) u
  simp only [List.set_cons_zero] at h1
  have h2:=Row.put r c (w:=w.setCell ⟨g,p,none⟩ u) (A:=A++[u]) (B:=B) (p:=p+1) (by simpa using h1) (by simp;omega) (by simpa using hl)
  simpa [putCells] using h2
 | [],_::_,_,_,_,_,_,_,hl=>by simp at hl
 | _::_,[],_,_,_,_,_,_,hl=>by simp at hl
theorem putCells_other {g:Nat}:∀(c:List Value) (w:World) (p:Nat) (b:Nat),b≠g→(putCells w g p c).heap[b]?=w.heap[b]?
 | [],_,_,_,_=>rfl
 | _::r,_,_,b,hb=>(putCells_other r _ _ b hb).trans (Below.heap_setCell _ _ _ _ hb)
theorem putCells_keep {g:Nat}:∀(c:List Value) (w:World) (p:Nat),Keep [g] w (putCells w g p c)
 | [],w,_=>Keep.refl _ w
 | u::r,w,p=>((Keep.refl [g] w).setCell (p:=⟨g,p,none⟩) (by simp) u).trans (putCells_keep r _ _)
theorem Ow.put {α:Type} {E:Elem α} {t:TypeId} {w:World} {g n cap:Nat} {xs:List α} {F:List Nat} (h:Ow E t w (.slice (some ⟨g,0,none⟩) n cap) xs F) (hn:F.Nodup) (i:Nat) (hi:i < xs.length) :
  g∈F∧(∀j,j < E.sz→(∃u,w.cell? ⟨g,i * E.sz+j,none⟩=some u)∧w.frozen? ⟨g,i * E.sz+j,none⟩=false) ∧
  ∀c' x' F',E.rep w c' x' F'→F'.Nodup→(∀b∈F',b ∉ F)→∃F2,Ow E t (putCells w g (i * E.sz) c') (.slice (some ⟨g,0,none⟩) n cap) (xs.set i x') F2∧F2.Nodup∧∀b∈F2,b∈F∨b∈F':=by
 obtain ⟨g',cp,A,c,B,G1,Fi,G2,hv,hrow,hA,hcl,hx,rfl,hlt,back⟩:=h.focus i hi
 simp only [Value.slice.injEq,Option.some.injEq,Addr.mk.injEq] at hv
 obtain ⟨⟨rfl,_⟩,rfl,rfl⟩:=hv
 have hnd:g ∉ G1++G2:=fun hm=>by simp at hn hm;rcases hm with hm|hm <;> simp [hm] at hn
 refine ⟨by simp,fun j hj=>⟨⟨c[j]'(by omega),by rw [hrow.cellMid (j:=j) (by omega) (by omega),List.getElem?_eq_getElem]⟩,hrow.frozen _⟩,fun c' x' F' hx' hn' hd=>⟨g::(G1++F'++G2),?_,?_,?_⟩⟩
 ·have hl:=E.len hx'
  have hg:g ∉ F':=fun e=>hd g e (by simp)
  exact back _ c' x' F' (hrow.put c' c (by omega) (by omega)) (E.frame hx' fun b hb=>putCells_other _ _ _ _ fun e=>hg (e▸hb)) fun b hb=>putCells_other _ _ _ _ fun e=>hnd (e▸hb)
 ·have hd1:∀b∈F',b≠g∧b ∉ G1∧b ∉ G2:=fun b hb=>by have:=hd b hb;simp at this;exact ⟨this.1,this.2.1,this.2.2.2⟩
  simp only [List.nodup_cons,List.nodup_append,List.mem_append,not_or] at hn ⊢
  obtain ⟨⟨⟨h1,h2⟩,h3⟩,⟨h4,h5,h6⟩,h7,h8⟩:=hn
  refine ⟨⟨⟨h1,fun e=>(hd1 g e).1 rfl⟩,h3⟩,⟨h4,hn',fun a ha b hb e=>(hd1 b hb).2.1 (e▸ha)⟩,h7,fun a ha b hb=>?_⟩
  rcases ha with ha|ha
  ·exact h8 a (.inl ha) b hb
  ·exact fun e=>(hd1 a ha).2.2 (e▸hb)
 ·intro b hb;simp at hb ⊢;rcases hb with hb|hb|hb|hb <;> simp [hb]
theorem Ow.inPlace {α:Type} {E:Elem α} {t:TypeId} {w:World} {g n cap:Nat} {xs:List α} {F:List Nat} (h:Ow E t w (.slice (some ⟨g,0,none⟩) n cap) xs F) (hn:F.Nodup) (i:Nat) (hi:i < xs.length) :
  ∃A c B Fi,Row w g t (A++c++B)∧A.length=i * E.sz∧c.length=E.sz∧E.rep w c xs[i] Fi∧Fi.Nodup∧g ∉ Fi∧g∈F∧(∀b∈Fi,b∈F) ∧
   ∀w' c' x',Row w' g t (A++c'++B)→E.rep w' c' x' Fi→Keep (g::Fi) w w'→Ow E t w' (.slice (some ⟨g,0,none⟩) n cap) (xs.set i x') F:=by
 obtain ⟨g',cp,A,c,B,G1,Fi,G2,hv,hrow,hA,hcl,hx,rfl,hlt,back⟩:=h.focus i hi
 simp only [Value.slice.injEq,Option.some.injEq,Addr.mk.injEq] at hv
 obtain ⟨⟨rfl,_⟩,rfl,rfl⟩:=hv
 simp only [List.nodup_cons,List.nodup_append,List.mem_append,not_or] at hn
 obtain ⟨⟨⟨h1,h2⟩,h3⟩,⟨h4,h5,h6⟩,h7,h8⟩:=hn
 refine ⟨A,c,B,Fi,hrow,hA,hcl,hx,h5,h2,by simp,fun b hb=>by simp [hb],fun w' c' x' hr hx' hk=>back w' c' x' Fi hr hx' fun b hb=>hk.block b (hlt b hb) fun hm=>?_⟩
 rcases List.mem_append.1 hb with hb|hb <;> rcases List.mem_cons.1 hm with e|hm
 ·exact h1 (e▸hb)
 ·exact h6 b hb b hm rfl
 ·exact h3 (e▸hb)
 ·exact h8 b (.inr hm) b hb rfl
theorem Ow.head {α:Type} {E:Elem α} {t:TypeId} {w:World} {a:Option Addr} {n cap:Nat} {xs:List α} {F:List Nat} (h:Ow E t w (.slice a n cap) xs F) (i:Nat) (hi:i < xs.length):∃g,a=some ⟨g,0,none⟩:=by
 obtain ⟨g,cp,A,c,B,G1,Fi,G2,hv, -⟩:=h.focus i hi
 simp only [Value.slice.injEq] at hv
 exact ⟨g,hv.1⟩
theorem madeCells_flat (z:Array Value) (n:Nat):(madeCells z (n * z.size)).toList=(List.replicate n z.toList).flatten:=by
 apply List.ext_getElem?
 intro p
 by_cases hz:z.size=0
 ·have:z = #[]:=Array.eq_empty_of_size_eq_zero hz
  subst this;simp [madeCells]
 ·have hlen:∀m,((List.replicate m z.toList).flatten).length=m * z.size:=fun m=>by simp
  by_cases hp:p < n * z.size
  ·have h1:(madeCells z (n * z.size)).toList[p]?=some z[p % z.size]!:=by simp [madeCells,hp]
   rw [h1]
   have hq:p / z.size < n:=Nat.div_lt_of_lt_mul (by rwa [Nat.mul_comm])
   have e:List.replicate n z.toList=List.replicate (p / z.size) z.toList++z.toList::List.replicate (n - p / z.size - 1) z.toList:=by
    rw [←List.replicate_succ,List.replicate_append_replicate];congr 1;omega
   have hd:=Nat.div_add_mod p z.size
   have hm:=Nat.mod_lt p (Nat.pos_of_ne_zero hz)
   rw [Nat.mul_comm] at hd
   rw [e,List.flatten_append,List.flatten_cons,List.getElem?_append_right (by rw [hlen];omega),hlen,show p - p / z.size * z.size=p % z.size by omega,List.getElem?_append_left (by simpa using hm)]
   simp [hm]
  ·rw [List.getElem?_eq_none (by simp [madeCells];omega),List.getElem?_eq_none (by rw [hlen];omega)]
theorem Ow.made {α:Type} {E:Elem α} {t:TypeId} (w:World) (z:Array Value) (n:Nat) (x:α) (hsz:z.size=E.sz) (hz:∀w,E.rep w z.toList x []) (hn:n≤maxLen) :
  Ow E t (w.alloc (.cells (madeCells z (n * E.sz)) t)) (.slice (some ⟨w.heap.size,0,none⟩) n n) (List.replicate n x) [w.heap.size]:=by
 have hf:∀(w:World) (m:Nat),Flat E w (List.replicate m z.toList).flatten (List.replicate m x) []:=by
  intro w m
  induction m with
  | zero=>exact ⟨rfl,rfl⟩
  | succ m ih=>exact ⟨z.toList,_,[],[],by rw [List.replicate_succ,List.flatten_cons],rfl,hz w,ih⟩
 refine .inr ⟨w.heap.size,n,(madeCells z (n * E.sz)).toList,[],[],by simp,?_,by simp,hn,?_,?_,rfl⟩
 ·simp only [List.append_nil,Row]
  exact heap_alloc_new w _
 ·rw [←hsz,madeCells_flat];simp
 ·rw [←hsz,madeCells_flat];exact hf _ _
theorem weak_OSl {α:Type} {O R:Elem α} (h:Weak O R) (hz:0 < R.sz) (t:TypeId):Weak (OSl O t) (ESl R hz):=⟨rfl,fun hh=>by
 obtain ⟨v,rfl,ho⟩:=hh;exact h.slice hz t ho⟩
theorem Sl.at {α:Type} {E:Elem α} {w:World} {a:Option Addr} {n cap:Nat} {xs:List α} {F} (h:Sl E w (.slice a n cap) xs F) (k:Nat) (hk:k < xs.length) :
  ∃b off cs F1,a=some ⟨b,off,none⟩∧E.rep w cs xs[k] F1∧(∀c∈F1,c∈F)∧∀j,j < E.sz→w.cell? ⟨b,off+k * E.sz+j,none⟩=cs[j]?:=by
 obtain ⟨a',cap',hv,hl,h⟩:=h
 cases hv
 rcases h with ⟨rfl,_⟩|⟨b,off,F',rfl,_,rfl,hc⟩
 ·simp at hk
 ·obtain ⟨cs,F1,h1,hj,hm⟩:=hc.get k hk
  exact ⟨b,off,cs,F1,rfl,h1,fun c hc=>by simp [hm c hc],hj⟩
theorem Sl.slice {α:Type} {E:Elem α} {w v} {xs:List α} {F} (h:Sl E w v xs F):∃a cap,v=.slice a xs.length cap:=by
 obtain ⟨a,cap,h,_⟩:=h;exact ⟨a,cap,h⟩
theorem Sl.len {α:Type} {E:Elem α} {w v} {xs:List α} {F} (h:Sl E w v xs F):xs.length≤maxLen:=by
 obtain ⟨a,cap,_,h,_⟩:=h;omega
theorem Sl.caps {α:Type} {E:Elem α} {w} {a:Option Addr} {n cap:Nat} {xs:List α} {F} (h:Sl E w (.slice a n cap) xs F):n=xs.length∧n≤cap∧cap≤maxLen:=by
 obtain ⟨a',cap',hv,h,_⟩:=h;cases hv;exact ⟨rfl,h⟩
def IsV {α:Type} (E:Elem α) (w:World) (v:Value) (x:α) (F:List Nat):Prop:=∃cs:List Value,v=.agg cs.toArray∧E.rep w cs x F
theorem IsV.below {α:Type} {E:Elem α} {w w':World} {v x F} (h:IsV E w v x F) (hb:Below w.heap.size w w'):IsV E w' v x F:=by
 obtain ⟨cs,hv,h⟩:=h;exact ⟨cs,hv,E.below h hb⟩
def RetV {α:Type} (E:Elem α) (x:α) (w:World) (e:Ending) (w':World):Prop :=
 ∃v F,e=.returned v∧IsV E w' v x F∧F.Nodup∧(∀b∈F,w.heap.size≤b)∧Below w.heap.size w w'
def RetNew {α:Type} (E:Elem α) (t:TypeId) (xs:List α) (w:World) (e:Ending) (w':World):Prop :=
 ∃v F,e=.returned v∧Ow E t w' v xs F∧F.Nodup∧(∀b∈F,w.heap.size≤b)∧Below w.heap.size w w'
def RetMark {α:Type} (E:Elem α) (t:TypeId) (v:Value) (m:Int) (xs:List α) (F:List Nat) (w:World) (e:Ending) (w':World):Prop :=
 e=.returned (.int .i64 m)∧Ow E t w' v xs F∧Keep F w w'
def RetMarkV {α:Type} (E:Elem α) (v:Value) (m:Int) (x:α) (F:List Nat) (w:World) (e:Ending) (w':World):Prop :=
 e=.returned (.int .i64 m)∧IsV E w' v x F∧Keep F w w'
theorem Row.keepK {w w' g t cs F} (h:Row w g t cs) (hk:Keep F w w') (hg:g ∉ F):Row w' g t cs:=h.keep (hk.block g h.lt hg)
structure Body (P:Program) (f:FuncId):Prop where
 ok:∃fn,P.funcs[f]?=some fn∧(fn.name == "runtime.NumGoroutine")=false∧fn.body.isNone=false
theorem Body.mk' {P:Program} {f:FuncId} {fn:Func} (h:P.funcs[f]?=some fn) (h1:(fn.name == "runtime.NumGoroutine")=false) (h2:fn.body.isNone=false):Body P f:=⟨fn,h,h1,h2⟩
theorem Body.run {P:Program} {f:FuncId} (h:Body P f) (args:Array Value) (w:World):(callFunc f args).run P w=.ok (.enter f args) w:=by
 obtain ⟨fn,h0,h1,h2⟩:=h.ok
 have h1':¬fn.name = "runtime.NumGoroutine" := by simpa using h1
 have h2':¬fn.body=none:=fun e=>by rw [e] at h2;simp at h2
 simp [callFunc,program,Sem.run,h0,h1',h2',bind,Sem.bind,pure]
theorem Body.upon {P:Program} {f:FuncId} (h:Body P f) {o:Oper} {a:Act} {K:Act→World→Prop} {Q:Exit→Act→World→Prop} {args:Array Value} {w:World} {R:Ending→World→Prop}
  (hc:Calls P f args w R) (hr:∀e w',R e w'→∃v,e=.returned v∧K (a.put o.dst v) w'):Oper.upon P o a K Q ((callFunc f args).run P w):=by
 rw [h.run,Oper.upon_enter]
 exact hc.mono fun e w' hR=>by obtain ⟨v,rfl,hk⟩:=hr e w' hR;exact hk
def IsC {α:Type} (E:Elem α) (w:World) (v:Value) (x:α) (F:List Nat):Prop:=∃u,v=u∧E.rep w [u] x F
def fidx {α:Type} (p:α→Bool) (xs:List α):Int:=if xs.any p then (xs.findIdx p:Int) else -1
theorem fidx_hit {α:Type} {p:α→Bool} {xs:List α} {k:Nat} (hk:k < xs.length) (h0:∀j,j < k→∀hj:j < xs.length,p xs[j]=false) (h1:p xs[k]=true):fidx p xs=k:=by
 have h:xs.findIdx p=k:=by
  rw [List.findIdx_eq hk]
  exact ⟨h1,fun j hj=>h0 j hj (by omega)⟩
 have ha:xs.any p=true:=List.any_eq_true.2 ⟨xs[k],List.getElem_mem _,h1⟩
 unfold fidx;rw [if_pos ha,h]
theorem fidx_none {α:Type} {p:α→Bool} {xs:List α} (h0:∀j,∀hj:j < xs.length,p xs[j]=false):fidx p xs=-1:=by
 unfold fidx
 rw [if_neg]
 intro ha
 obtain ⟨x,hx,hp⟩:=List.any_eq_true.1 ha
 obtain ⟨i,hi,rfl⟩:=List.getElem_of_mem hx
 rw [h0 i hi] at hp;simp at hp
theorem fidx_any {α:Type} (p:α→Bool) (xs:List α):decide (0≤fidx p xs)=xs.any p:=by
 unfold fidx;cases h:xs.any p <;> simp
def allUpTo (p:Nat→Bool) (n:Nat):Bool:=(List.range n).all p
theorem allUpTo_yes {p:Nat→Bool} {n:Nat} (h:∀i,i < n→p i=true):allUpTo p n=true:=by simp [allUpTo];exact h
theorem allUpTo_no {p:Nat→Bool} {n k:Nat} (hk:k < n) (h:p k=false):allUpTo p n=false:=by
 rw [Bool.eq_false_iff];intro ha;simp [allUpTo] at ha;rw [ha k hk] at h;simp at h
theorem allUpTo_get {p:Nat→Bool} {n:Nat} (h:allUpTo p n=true) (i:Nat) (hi:i < n):p i=true:=by simp [allUpTo] at h;exact h i hi
theorem upto_snoc {p:Nat→Bool} {k:Nat} (h:∀i,i < k→p i=true) (hk:p k=true):∀i,i < k+1→p i=true:=fun i hi=>by
 rcases Nat.lt_or_eq_of_le (Nat.le_of_lt_succ hi) with h'|rfl
 ·exact h i h'
 ·exact hk
theorem quiet_eq {P:Program} {f:FuncId} {args:Array Value} {w:World} {n:Nat} {v:Value}
  (h:Calls P f args (w.drewN n) fun e w'=>e=.returned v∧w.drewN n=w'):Calls P f args (w.drewN n) fun e w''=>e=.returned v∧∃m,w''=w.drewN m :=
 h.mono fun _ _ ⟨he,hm⟩=>⟨he,n,hm.symm⟩
def szr (n:Int) (k:Nat):Int:=if (k:Int)≤n then n - k else -1
theorem szr_or (n:Int) (k:Nat):(szr n k=-1∧n < k)∨(szr n k=n - k∧(k:Int)≤n):=by unfold szr;split <;> omega
theorem szr_no {n:Int} {k:Nat} (h:n < k):szr n k=-1:=by unfold szr;split <;> omega
theorem szr_yes {n:Int} {k:Nat} (h:(k:Int)≤n):szr n k=n - k:=by unfold szr;split <;> omega
def wtL {α:Type} (f:α→Nat) (xs:List α):Nat:=xs.length+(xs.map f).sum
def psum {α:Type} (f:α→Nat) (xs:List α) (k:Nat):Nat:=((xs.take k).map f).sum
theorem psum_zero {α:Type} (f:α→Nat) (xs:List α):psum f xs 0=0:=rfl
theorem psum_snoc {α:Type} (f:α→Nat) (xs:List α) (k:Nat) (h:k < xs.length):psum f xs (k+1)=psum f xs k+f xs[k]:=by
 unfold psum
 rw [List.take_succ_eq_append_getElem h,List.map_append,List.sum_append];simp
theorem psum_all {α:Type} (f:α→Nat) (xs:List α):psum f xs xs.length=(xs.map f).sum:=by unfold psum;rw [List.take_length]
theorem psum_le {α:Type} (f:α→Nat) (xs:List α) (k:Nat):psum f xs k≤(xs.map f).sum:=by
 have:(xs.map f).sum=psum f xs k+((xs.drop k).map f).sum:=by unfold psum;rw [←List.sum_append,←List.map_append,List.take_append_drop]
 omega
theorem wtL_eq {α:Type} (f:α→Nat) (xs:List α):wtL f xs=xs.length+psum f xs xs.length:=by rw [psum_all];rfl
theorem wtL_le {α:Type} (f:α→Nat) (xs:List α) (k:Nat):xs.length+psum f xs k≤wtL f xs:=by have:=psum_le f xs k;unfold wtL;omega
theorem wtL_zero {α:Type} (xs:List α):wtL (fun _=>0) xs=xs.length:=by
 have:∀ys:List α,(ys.map fun _=>0).sum=0:=fun ys=>by induction ys <;> simp_all
 unfold wtL;rw [this];rfl
def mkI (k _x:Int):Int:=k
def cntI (_x:Int):Nat:=1
def mkB (k:Int) (_x:Bool):Bool:=k % 3 == 0
def cntB (_x:Bool):Nat:=1
def mdigits:Nat→Nat→List UInt8→List UInt8
 | 0,_,r=>r
 | m+1,k,r=>if k=0 then r else mdigits m (k / 10) (UInt8.ofNat (48+k % 10)::r)
def mtext (k:Int):ByteArray:=if k≤0 then ⟨#[109,48]⟩ else ⟨(109::mdigits 20 k.toNat []).toArray⟩
def mkS (k:Int) (_x:ByteArray):ByteArray:=mtext k
def cntS (_x:ByteArray):Nat:=1
theorem mdigits_len:∀(m k:Nat) (r:List UInt8),(mdigits m k r).length≤m+r.length
 | 0,_,r=>by simp [mdigits]
 | m+1,k,r=>by
  simp only [mdigits]
  split
  ·omega
  ·have:=mdigits_len m (k / 10) (UInt8.ofNat (48+k % 10)::r);simp only [List.length_cons] at this;omega
theorem mtext_len (k:Int):(mtext k).size≤maxLen:=by
 have:=mdigits_len 20 k.toNat []
 unfold mtext
 split
 ·simp [ByteArray.size,maxLen]
 ·simp only [ByteArray.size,maxLen,List.size_toArray,List.length_cons]
  simp at this;omega
def markL {α:Type} (mk:Int→α→α) (cnt:α→Nat):Int→List α→List α
 | _,[]=>[]
 | k,x::r=>mk k x::markL mk cnt (k+cnt x) r
def cntL {α:Type} (cnt:α→Nat) (xs:List α):Nat:=(xs.map cnt).sum
theorem cntL_eq {α:Type} (cnt:α→Nat) (xs:List α):cntL cnt xs=psum cnt xs xs.length:=(psum_all cnt xs).symm
theorem cntL_le {α:Type} (cnt:α→Nat) (xs:List α) (k:Nat):psum cnt xs k≤cntL cnt xs:=psum_le cnt xs k
theorem markL_len {α:Type} (mk:Int→α→α) (cnt:α→Nat):∀(xs:List α) (k:Int),(markL mk cnt k xs).length=xs.length
 | [],_=>rfl
 | x::r,k=>by simp [markL,markL_len mk cnt r]
theorem markL_get {α:Type} (mk:Int→α→α) (cnt:α→Nat):∀(xs:List α) (k:Int) (i:Nat) (h:i < xs.length),(markL mk cnt k xs)[i]'(by rw [markL_len];exact h)=mk (k+psum cnt xs i) xs[i]
 | x::r,k,0,_=>by simp [markL,psum]
 | x::r,k,i+1,h=>by
  simp only [markL,List.getElem_cons_succ,psum,List.take_succ_cons,List.map_cons,List.sum_cons]
  rw [markL_get mk cnt r (k+cnt x) i (by simpa using h)]
  unfold psum
  congr 1;omega
theorem markL_step {α:Type} (mk:Int→α→α) (cnt:α→Nat) (xs:List α) (k:Int) (i:Nat) (h:i < xs.length) :
  ((markL mk cnt k xs).take i++xs.drop i).set i (mk (k+psum cnt xs i) xs[i])=(markL mk cnt k xs).take (i+1)++xs.drop (i+1):=by
 have hl:((markL mk cnt k xs).take i).length=i:=by simp [markL_len];omega
 rw [List.set_append_right _ _ (by omega),hl,Nat.sub_self,List.drop_eq_getElem_cons h,List.set_cons_zero,List.take_add_one,List.getElem?_eq_getElem (by rw [markL_len];exact h),markL_get mk cnt xs k i h]
 simp
theorem mid_get {α:Type} (ys xs:List α) (i:Nat) (hl:ys.length=xs.length) (h:i < xs.length):(ys.take i++xs.drop i)[i]'(by simp;omega)=xs[i]:=by
 have hl':(ys.take i).length=i:=by simp;omega
 rw [List.getElem_append_right (by omega)]
 simp [hl']
theorem cntL_wt {α:Type} (cnt wt:α→Nat) (C:Nat) (h:∀x,cnt x≤C * (1+wt x)):∀xs:List α,cntL cnt xs≤C * wtL wt xs
 | []=>by simp [cntL,wtL]
 | x::r=>by
  have:=h x
  have:=cntL_wt cnt wt C h r
  simp only [cntL,wtL,List.map_cons,List.sum_cons,List.length_cons,Nat.mul_add,Nat.mul_one] at *
  omega
theorem nodup_apart {A B:List Nat} (h:(A++B).Nodup):A.Nodup∧B.Nodup∧∀b∈A,b ∉ B:=by
 obtain ⟨h1,h2,h3⟩:=List.nodup_append.1 h
 exact ⟨h1,h2,fun b ha hb=>h3 b ha b hb rfl⟩
def One {α:Type} (E:Elem α):Prop:=∀{w cs x F},E.rep w cs x F→∀u∈cs,u.oneCell'=true
theorem one_EInt:One EInt:=fun h u hu=>by obtain ⟨rfl,_⟩:=h;simp at hu;subst hu;rfl
theorem one_EStr:One EStr:=fun h u hu=>by obtain ⟨rfl,_⟩:=h;simp at hu;subst hu;rfl
theorem Sl.one {α:Type} {E:Elem α} {w v} {xs:List α} {F} (h:Sl E w v xs F):v.oneCell'=true:=by obtain ⟨a,c,rfl,_⟩:=h;rfl
theorem Ow.one {α:Type} {E:Elem α} {t w v} {xs:List α} {F} (h:Ow E t w v xs F):v.oneCell'=true:=by obtain ⟨a,c,rfl⟩:=h.slice;rfl
theorem Flat.one' {α:Type} {E:Elem α} (hE:One E) {w:World}:∀{xs:List α} {cs:List Value} {G:List Nat},Flat E w cs xs G→∀u∈cs,u.oneCell'=true
 | [],_,_,h=>by simp [h.1]
 | x::r,_,_,h=>by
  obtain ⟨c1,c2,F1,F2,rfl,rfl,h1,h2⟩:=h
  intro u hu
  rcases List.mem_append.1 hu with hu|hu
  ·exact hE h1 u hu
  ·exact h2.one' hE u hu
theorem Cells.flat {α:Type} {E:Elem α} {w:World} {b:Nat}:∀{xs:List α} {off:Nat} {F:List Nat},Cells E w b off xs F→∃cs,Flat E w cs xs F∧∀j u,cs[j]?=some u→w.cell? ⟨b,off+j,none⟩=some u
 | [],off,_,h=>⟨[],⟨rfl,h⟩,fun j u hu=>by simp at hu⟩
 | x::r,off,_,h=>by
  obtain ⟨c1,F1,F2,rfl,h1,hc,h2⟩:=h
  obtain ⟨c2,hf,hc2⟩:=h2.flat
  have hl:=E.len h1
  refine ⟨c1++c2,⟨c1,c2,F1,F2,rfl,rfl,h1,hf⟩,fun j u hu=>?_⟩
  rcases Nat.lt_or_ge j c1.length with hj|hj
  ·rw [List.getElem?_append_left hj] at hu
   rw [hc j (by omega)];exact hu
  ·rw [List.getElem?_append_right hj] at hu
   have:=hc2 _ _ hu
   rw [←this];congr 2;omega
theorem Flat.cells {α:Type} {E:Elem α} {w:World} {b:Nat}:∀{xs:List α} {cs:List Value} {off:Nat} {F:List Nat},Flat E w cs xs F→(∀j u,cs[j]?=some u→w.cell? ⟨b,off+j,none⟩=some u)→Cells E w b off xs F
 | [],_,off,_,h,_=>h.2
 | x::r,_,off,_,h,hc=>by
  obtain ⟨c1,c2,F1,F2,rfl,rfl,h1,h2⟩:=h
  have hl:=E.len h1
  refine ⟨c1,F1,F2,rfl,h1,fun j hj=>?_,h2.cells fun j u hu=>?_⟩
  ·have:j < c1.length:=by omega
   rw [List.getElem?_eq_getElem this]
   exact hc j _ (by rw [List.getElem?_append_left this,List.getElem?_eq_getElem this])
  ·have:=hc (c1.length+j) u (by rw [List.getElem?_append_right (by omega),show c1.length+j - c1.length=j by omega];exact hu)
   rw [←this];congr 2;omega
def Hd (F:List Nat):Prop:=∀g G,F=g::G→g ∉ G
theorem Hd.of {F:List Nat} (h:F.Nodup):Hd F:=fun g G e=>by subst e;simp at h;exact h.1
theorem Ow.owns {α:Type} {E:Elem α} {t w v} {xs:List α} {F} (h:Ow E t w v xs F):∃cs G,w.ownsRow 0 t E.sz v xs.length cs∧Flat E w cs xs G∧F=v.ownBlock.toList++G:=by
 rcases h with ⟨rfl,rfl,rfl⟩|⟨g,cap,cs,rest,G,rfl,hr,h1,h2,h3,hf,rfl⟩
 ·exact ⟨[],[],⟨by simp,.inl ⟨rfl,rfl⟩⟩,⟨rfl,rfl⟩,rfl⟩
 ·refine ⟨cs,G,⟨hf.len,.inr ⟨g,cap,(cs++rest).toArray,rfl,Nat.zero_le _,hr,h1,h2,by simp [h3],?_⟩⟩,hf,rfl⟩
  rw [←hf.len];simp
theorem Ow.ofOwns {α:Type} {E:Elem α} {t w v n} {cs:List Value} {xs:List α} {G} (h:w.ownsRow 0 t E.sz v n cs) (hf:Flat E w cs xs G) (hn:n=xs.length):Ow E t w v xs (v.ownBlock.toList++G):=by
 subst hn
 obtain ⟨hl,h⟩:=h
 rcases h with ⟨rfl,h0⟩|⟨g,cap,cur,rfl,_,hg,h1,h2,h3,h4⟩
 ·have:xs=[]:=List.eq_nil_of_length_eq_zero h0
  subst this
  exact .inl ⟨rfl,rfl,by rw [hf.2];rfl⟩
 ·refine .inr ⟨g,cap,cs,cur.toList.drop cs.length,G,rfl,?_,h1,h2,?_,hf,rfl⟩
  ·have:cs++cur.toList.drop cs.length=cur.toList:=by
    rw [hl,←h4];simp
   rw [this];exact hg
  ·rw [←h3];simp;rw [hl];have:=Nat.mul_le_mul_right E.sz h1;omega
theorem ownBlock_lt {w:World} {t v n sz} {cs:List Value} (h:w.ownsRow 0 t sz v n cs):∀b,v.ownBlock=some b→b < w.heap.size:=by
 intro b hb
 rcases h.2 with ⟨rfl,_⟩|⟨g,cap,cur,rfl,_,hg,_⟩
 ·cases hb
 ·cases hb
  rcases Nat.lt_or_ge g w.heap.size with hlt|hge
  ·exact hlt
  ·rw [Array.getElem?_eq_none hge] at hg;cases hg
section
variable {P:Program} {α:Type} {E:Elem α}
structure Apd (E:Elem α) (e:TypeId) (w:World) (v:Value) (xs ys:List α) (F Fy:List Nat) (v':Value) (w':World) (F':List Nat):Prop where
 ow:Ow E e w' v' (xs++ys) F'
 hd:Hd F'
 nodup:F.Nodup→Fy.Nodup→(∀b∈Fy,b ∉ F)→F'.Nodup
 mem:∀b∈F',b∈F∨b∈Fy∨b=w.heap.size
 keep:Keep F w w'
 keep1:Keep v.ownBlock.toList w w'
 val:∃a cap,v'=.slice a (xs.length+ys.length) cap
 same:v'.ownBlock=v.ownBlock∨v'.ownBlock=some w.heap.size
 form:∀Gx,F=v.ownBlock.toList++Gx→F'=v'.ownBlock.toList++(Gx++Fy)
theorem apd_of {e:TypeId} {w:World} {v:Value} {xs ys:List α} {F Fy:List Nat} {v' w'} {cs news G} (hown:w.ownsRow 0 e E.sz v xs.length cs) (hf:Flat E w cs xs G) (hF:F=v.ownBlock.toList++G) (hd:Hd F)
  (hfy:Flat E w news ys Fy) (hdis:∀b∈Fy,v.ownBlock≠some b) (h':w'.ownsRow 0 e E.sz v' (xs.length+ys.length) (cs++news)) (hg:w.grownBy w' v.ownBlock)
  (hb:v'.ownBlock=v.ownBlock∨v'.ownBlock=some w.heap.size) (hs:∃a cap,v'=.slice a (xs.length+ys.length) cap):∃F',Apd E e w v xs ys F Fy v' w' F':=by
 have hGn:∀b∈G,v.ownBlock≠some b:=fun b hb e=>by
  rw [e] at hF;exact hd b G hF hb
 have hfr:∀b,b < w.heap.size→v.ownBlock≠some b→w'.heap[b]?=w.heap[b]?:=fun b hb hn=>hg.block b hb (fun e=>hn e.symm)
 have hfl:Flat E w' (cs++news) (xs++ys) (G++Fy):=(hf.frame fun b hb=>hfr b (hf.lt b hb) (hGn b hb)).append (hfy.frame fun b hb=>hfr b (hfy.lt b hb) (hdis b hb))
 have hvl:=ownBlock_lt hown
 have hhead:∀g,v'.ownBlock=some g→g ∉ G∧g ∉ Fy:=fun g e=>by
  rcases hb with hb|hb
  ·rw [hb] at e;exact ⟨fun hm=>hGn g hm e,fun hm=>hdis g hm e⟩
  ·rw [hb] at e;cases e
   exact ⟨fun hm=>Nat.lt_irrefl _ (hf.lt _ hm),fun hm=>Nat.lt_irrefl _ (hfy.lt _ hm)⟩
 refine ⟨v'.ownBlock.toList++(G++Fy),Ow.ofOwns h' hfl (by simp),?_,?_,?_,?_,⟨hg.os,hg.tape,hg.output,hg.size,fun k hk hm=>hfr k hk fun e=>hm (by rw [e];simp)⟩,hs,hb,fun Gx e=>by rw [hF] at e;rw [List.append_cancel_left e]⟩
 ·intro g G' e
  cases hv:v'.ownBlock with
  | none =>
   have hxy:xs++ys=[]:=by
    rcases h'.2 with ⟨rfl,h0⟩|⟨g,cap,cur,rfl,_⟩
    ·exact List.eq_nil_of_length_eq_zero (by rw [List.length_append];omega)
    ·simp [Value.ownBlock] at hv
   rw [hxy] at hfl;rw [hfl.2,hv] at e;simp at e
  | some g2 =>
   rw [hv] at e;simp at e;obtain ⟨rfl,rfl⟩:=e
   have:=hhead g2 hv;simp [this]
 ·intro h1 h2 h3
  subst hF
  have hn:(G++Fy).Nodup:=by
   rw [List.nodup_append] at h1 ⊢
   exact ⟨h1.2.1,h2,fun a ha b hb e=>h3 b hb (by rw [←e];simp [ha])⟩
  cases hv:v'.ownBlock with
  | none=>simpa using hn
  | some g2=>have:=hhead g2 hv;simp only [Option.toList_some,List.singleton_append,List.nodup_cons,List.mem_append];exact ⟨by simp [this],hn⟩
 ·intro b hm
  simp at hm
  rcases hm with hm|hm|hm
  ·rcases hb with hb|hb
   ·rw [hb] at hm;left;rw [hF];simp [hm]
   ·rw [hb] at hm;cases hm;simp
  ·left;rw [hF];simp [hm]
  ·simp [hm]
 ·exact ⟨hg.os,hg.tape,hg.output,hg.size,fun k hk hm=>hfr k hk fun e=>hm (by rw [hF,e];simp)⟩
theorem wp_apd (hone:One E) (hsz:0 < E.sz) {o:Oper} {a:Act} {K:Act→World→Prop} {Q:Exit→Act→World→Prop} {w:World} (s x:Operand) (t:TypeId)
  (ho:o.op=.call { callee:=.builtin .append,args:=#[s,x],argTypes:=#[t,t] }) (e:TypeId) (z:Value) (bytes:Nat) (ht:P.underlying t=some (.slice e))
  (hinfo:(P.info? e).map (fun i=>(i.zero,i.size,i.bytes))=some (some z,E.sz,bytes)) (hzs:z.cells.size=E.sz)
  (v:Value) (xs:List α) (F:List Nat) (hs:a.eval s=v) (hown:Ow E e w v xs F) (hd:Hd F)
  (ao:Option Addr) (ys:List α) (c:Nat) (hx:a.eval x=.slice ao ys.length c) (news:List Value) (Fy:List Nat) (hfy:Flat E w news ys Fy)
  (hsrc:(ao=none∧c=0∧ys=[])∨∃ad,ao=some ad∧∀j u,news[j]?=some u→w.cell? (ad.add j)=some u)
  (hdis:∀b∈Fy,v.ownBlock≠some b) (h63:xs.length+ys.length≤maxLen) (hbytes:(xs.length+ys.length) * bytes≤140737488355328)
  (h:∀v' w' F',Apd E e w v xs ys F Fy v' w' F'→K (a.put o.dst v') w'):o.wp P a w K Q:=by
 obtain ⟨i,hi,hzz⟩:=Option.map_eq_some_iff.1 hinfo
 simp only [Prod.mk.injEq] at hzz
 obtain ⟨hz,hsize,hby⟩:=hzz
 obtain ⟨cs,G,hrow,hf,hF⟩:=hown.owns
 rcases hsrc with ⟨rfl,rfl,rfl⟩|⟨ad,rfl,hnews⟩
 ·have hn0:news=[]:=hfy.1
  subst hn0
  unfold Oper.wp execOp
  simp only [ho,resolve,invoke,builtin,Sem.run_bind,Sem.run_pure,Result.andThen_ok,List.map_toArray,List.map_cons,List.map_nil,hs,hx]
  have hrun:=run_append_owned_none (P:=P) w 0 t o.type e i E.sz ht hi _ xs.length cs hrow
  rw [show ([]:List α).length=0 from rfl,hrun]
  obtain ⟨F',hA⟩:=apd_of (ys:=[]) hrow hf hF hd hfy hdis (by simpa using hrow) (World.grownBy.refl _ _) (.inl rfl) (by obtain ⟨a,c,rfl⟩:=hown.slice;exact ⟨a,c,by simp⟩)
  exact h _ _ _ hA
 ·obtain ⟨v',w',hr,h2,h3,h4,h5⟩:=run_append_own_at (P:=P) w 0 t o.type e i z E.sz bytes ht hi hz hsize hby hzs hsz v xs.length cs hrow ad ys.length c news hfy.len hnews (hfy.one' hone) h63 hbytes (Nat.zero_le _)
  unfold Oper.wp execOp
  simp only [ho,resolve,invoke,builtin,Sem.run_bind,Sem.run_pure,Result.andThen_ok,List.map_toArray,List.map_cons,List.map_nil,hs,hx,hr]
  have hs2:∃a cap,v'=.slice a (xs.length+ys.length) cap:=by
   rcases h2.2 with ⟨rfl,h0⟩|⟨g,cap,cur,rfl,_⟩
   ·exact ⟨none,0,by rw [h0]⟩
   ·exact ⟨_,_,rfl⟩
  obtain ⟨F',hA⟩:=apd_of (ys:=ys) hrow hf hF hd hfy hdis h2 h3 h5 hs2
  exact h _ _ _ hA
theorem wpList_apd (hone:One E) (hsz:0 < E.sz) {ops:Array Oper} {rest:List Oper} {o:Oper} {a:Act} {Q:Exit→Act→World→Prop} {w:World} (hgd:o.guard=none) (s x:Operand) (t:TypeId)
  (ho:o.op=.call { callee:=.builtin .append,args:=#[s,x],argTypes:=#[t,t] }) (e:TypeId) (z:Value) (bytes:Nat) (ht:P.underlying t=some (.slice e))
  (hinfo:(P.info? e).map (fun i=>(i.zero,i.size,i.bytes))=some (some z,E.sz,bytes)) (hzs:z.cells.size=E.sz)
  (v:Value) (xs:List α) (F:List Nat) (hs:a.eval s=v) (hown:Ow E e w v xs F) (hd:Hd F)
  (ao:Option Addr) (ys:List α) (c:Nat) (hx:a.eval x=.slice ao ys.length c) (news:List Value) (Fy:List Nat) (hfy:Flat E w news ys Fy)
  (hsrc:(ao=none∧c=0∧ys=[])∨∃ad,ao=some ad∧∀j u,news[j]?=some u→w.cell? (ad.add j)=some u)
  (hdis:∀b∈Fy,v.ownBlock≠some b) (h63:xs.length+ys.length≤maxLen) (hbytes:(xs.length+ys.length) * bytes≤140737488355328)
  (h:∀v' w' F',Apd E e w v xs ys F Fy v' w' F'→wpList P ops Q rest (a.put o.dst v') w'):wpList P ops Q (o::rest) a w :=
 wpList_plain hgd fun _ hK=>wp_apd hone hsz s x t ho e z bytes ht hinfo hzs v xs F hs hown hd ao ys c hx news Fy hfy hsrc hdis h63 hbytes fun v' w' F' hA=>hK _ _ (h v' w' F' hA)
theorem step_apd (hone:One E) (hsz:0 < E.sz) {ops:Array Oper} {o:Oper} {a:Act} {K:Act→World→Prop} {Q:Exit→Act→World→Prop} {Z:Prop} {w:World} (hgd:o.guard=none) (s x:Operand) (t:TypeId)
  (ho:o.op=.call { callee:=.builtin .append,args:=#[s,x],argTypes:=#[t,t] }) (e:TypeId) (z:Value) (bytes:Nat) (ht:P.underlying t=some (.slice e))
  (hinfo:(P.info? e).map (fun i=>(i.zero,i.size,i.bytes))=some (some z,E.sz,bytes)) (hzs:z.cells.size=E.sz)
  (v:Value) (xs:List α) (F:List Nat) (hs:a.eval s=v) (hown:Ow E e w v xs F) (hd:Hd F)
  (ao:Option Addr) (ys:List α) (c:Nat) (hx:a.eval x=.slice ao ys.length c) (news:List Value) (Fy:List Nat) (hfy:Flat E w news ys Fy)
  (hsrc:(ao=none∧c=0∧ys=[])∨∃ad,ao=some ad∧∀j u,news[j]?=some u→w.cell? (ad.add j)=some u)
  (hdis:∀b∈Fy,v.ownBlock≠some b) (h63:xs.length+ys.length≤maxLen) (hbytes:(xs.length+ys.length) * bytes≤140737488355328)
  (h:∀v' w' F',Apd E e w v xs ys F Fy v' w' F'→K (a.put o.dst v') w'):if Region.wanted o (yielded ops a.tmps)=true then Oper.wp P o a w K Q else Z:=by
 have hw:Region.wanted o (yielded ops a.tmps)=true:=by simp [Region.wanted,hgd]
 rw [if_pos hw]
 exact wp_apd hone hsz s x t ho e z bytes ht hinfo hzs v xs F hs hown hd ao ys c hx news Fy hfy hsrc hdis h63 hbytes h
end
theorem Ow.own_mem {α:Type} {E:Elem α} {t w v} {xs:List α} {F} (h:Ow E t w v xs F):∀b,v.ownBlock=some b→b∈F:=fun b hb=>by
 obtain ⟨cs,G,_,_,rfl⟩:=h.owns;simp [hb]
def RetR {α:Type} (E:Elem α) (x:α) (w:World) (e:Ending) (w':World):Prop :=
 ∃v F,e=.returned v∧IsV E w' v x F∧(∀b∈F,w.heap.size≤b)∧Below w.heap.size w w'
theorem IsV.weak {α:Type} {O R:Elem α} (h:Weak O R) {w v x F} (ho:IsV O w v x F):∃F',(∀b∈F',b∈F)∧IsV R w v x F':=by
 obtain ⟨cs,hv,hx⟩:=ho
 obtain ⟨F',h1,h2⟩:=h.rep hx
 exact ⟨F',h1,cs,hv,h2⟩
theorem Ow.empty {α:Type} {E:Elem α} {t:TypeId} {w:World} {g:Nat} (h:Row w g t []):Ow E t w (.slice (some ⟨g,0,none⟩) 0 0) ([]:List α) [g] :=
 .inr ⟨g,0,[],[],[],rfl,by simpa using h,by simp,by simp,by simp,⟨rfl,rfl⟩,rfl⟩
theorem Hd.one (g:Nat):Hd [g]:=fun a G e=>by cases e;simp
theorem Hd.nil:Hd []:=fun a G e=>by cases e
theorem Sl.src {α:Type} {E:Elem α} {w:World} {v:Value} {xs:List α} {F} (h:Sl E w v xs F):∃ao c news Fy,v=.slice ao xs.length c∧xs.length≤maxLen∧Flat E w news xs Fy∧(∀b∈Fy,b∈F) ∧
  ((ao=none∧c=0∧xs=[])∨∃ad,ao=some ad∧∀j u,news[j]?=some u→w.cell? (ad.add j)=some u):=by
 obtain ⟨a,cap,rfl,hl,⟨rfl,rfl,h0⟩|⟨b,off,F',rfl,hne,rfl,hc⟩⟩:=h
 ·refine ⟨a,cap,[],[],rfl,by simp,⟨rfl,rfl⟩,by simp,?_⟩
  cases a with
  | none=>exact .inl ⟨rfl,h0 rfl,rfl⟩
  | some ad=>exact .inr ⟨ad,rfl,fun j u hu=>by simp at hu⟩
 ·obtain ⟨cs,hf,hcs⟩:=hc.flat
  refine ⟨_,cap,cs,F',rfl,by omega,hf,fun b hb=>by simp [hb],.inr ⟨_,rfl,fun j u hu=>?_⟩⟩
  rw [←hcs j u hu]
  unfold Addr.add;split <;> simp_all
theorem Sl.takeS {α:Type} {E:Elem α} {w:World} {a:Option Addr} {n cap:Nat} {xs:List α} {F} (h:Sl E w (.slice a n cap) xs F) (k:Nat) (hk:k≤xs.length):∃F',(∀b∈F',b∈F)∧Sl E w (.slice a k cap) (xs.take k) F':=by
 obtain ⟨a',cap',hv,hl,h⟩:=h
 cases hv
 have hlen:(xs.take k).length=k:=by simp;omega
 rcases h with ⟨rfl,rfl,h0⟩|⟨b,off,F',rfl,hne,rfl,hc⟩
 ·simp at hk;subst hk;exact ⟨[],by simp,a,cap,by simp,⟨by simp,hl.2⟩,.inl ⟨by simp,rfl,h0⟩⟩
 ·by_cases hk0:k=0
  ·subst hk0;exact ⟨[],by simp,some ⟨b,off,none⟩,cap,by simp,⟨by simp,hl.2⟩,.inl ⟨by simp,rfl,fun e=>by cases e⟩⟩
  ·obtain ⟨cs,hf,hcs⟩:=hc.flat
   have e:xs=xs.take k++xs.drop k:=by simp
   rw [e] at hf
   obtain ⟨c1,c2,G1,G2,rfl,rfl,h1,h2⟩:=hf.split
   refine ⟨b::G1,by intro x hx;simp at hx ⊢;rcases hx with hx|hx <;> simp [hx],_,cap,by rw [hlen],by rw [hlen];omega,.inr ⟨b,off,G1,rfl,fun e=>by rw [e] at hlen;simp at hlen;omega,rfl,h1.cells fun j u hu=>hcs j u ?_⟩⟩
   have hj:j < c1.length:=by
    rcases Nat.lt_or_ge j c1.length with h|h
    ·exact h
    ·rw [List.getElem?_eq_none h] at hu;cases hu
   rw [List.getElem?_append_left hj];exact hu
def Scal {α:Type} (E:Elem α):Prop:=∀{w cs x F},E.rep w cs x F→F=[]
theorem scal_EInt:Scal EInt:=fun h=>h.2
theorem scal_EStr:Scal EStr:=fun h=>h.2.2
theorem Flat.scal {α:Type} {E:Elem α} (hE:Scal E) {w:World}:∀{xs:List α} {cs:List Value} {G:List Nat},Flat E w cs xs G→G=[]
 | [],_,_,h=>h.2
 | x::r,_,_,h=>by
  obtain ⟨c1,c2,F1,F2,rfl,rfl,h1,h2⟩:=h
  rw [hE h1,h2.scal hE];rfl
theorem Ow.scal {α:Type} {E:Elem α} (hE:Scal E) {t w v} {xs:List α} {F} (h:Ow E t w v xs F):F=v.ownBlock.toList:=by
 obtain ⟨cs,G,_,hf,rfl⟩:=h.owns
 rw [hf.scal hE,List.append_nil]
def Mix {α:Type} (O R:Elem α) (t:TypeId) (B1 B0:Nat) (w:World) (v:Value) (xs:List α) (k:Nat):Prop :=
 (v=.slice none 0 0∧xs=[])∨∃g cap c1 c2 rest F G,v=.slice (some ⟨g,0,none⟩) xs.length cap∧Row w g t (c1++c2++rest)∧xs.length≤cap∧cap≤maxLen∧c1.length+c2.length+rest.length=cap * O.sz ∧
  Flat O w c1 (xs.take k) F∧Flat R w c2 (xs.drop k) G∧(g::F).Nodup∧(∀b∈g::F,B0≤b)∧∀b∈G,b < B1
section
variable {α:Type} {O R:Elem α} {t:TypeId} {B1 B0:Nat} {w:World} {v:Value} {xs:List α}
theorem Mix.start (hsz:R.sz=O.sz) {F:List Nat} (h:Ow R t w v xs F) (h1:∀b,v.ownBlock=some b→B0≤b) (h2:∀b∈F,v.ownBlock=some b∨b < B1) (hd:Hd F):Mix O R t B1 B0 w v xs 0:=by
 rcases h with ⟨rfl,rfl,_⟩|⟨g,cap,cs,rest,G,rfl,hr,h3,h4,h5,hf,rfl⟩
 ·exact .inl ⟨rfl,rfl⟩
 ·refine .inr ⟨g,cap,[],cs,rest,[],G,rfl,by simpa using hr,h3,h4,by simpa [←hsz] using h5,⟨rfl,by simp⟩,by simpa using hf,by simp,by simpa using h1 g rfl,fun b hb=>?_⟩
  rcases h2 b (by simp [hb]) with e|e
  ·cases e;exact absurd hb (hd g G rfl)
  ·exact e
theorem Mix.done (h:Mix O R t B1 B0 w v xs xs.length):∃F,Ow O t w v xs F∧F.Nodup∧∀b∈F,B0≤b:=by
 rcases h with ⟨rfl,rfl⟩|⟨g,cap,c1,c2,rest,F,G,rfl,hr,h3,h4,h5,hf,hf2,hn,hb,_⟩
 ·exact ⟨[],.inl ⟨rfl,rfl,rfl⟩,by simp,by simp⟩
 ·have:c2=[]:=by simp at hf2;exact hf2.1
  subst this
  exact ⟨g::F,.inr ⟨g,cap,c1,rest,F,rfl,by simpa using hr,h3,h4,by simpa using h5,by simpa using hf,rfl⟩,hn,hb⟩
theorem Mix.frame {w':World} {k:Nat} (h:Mix O R t B1 B0 w v xs k) (hb:∀b,b < w.heap.size→b < B1∨B0≤b→w'.heap[b]?=w.heap[b]?):Mix O R t B1 B0 w' v xs k:=by
 rcases h with h|⟨g,cap,c1,c2,rest,F,G,hv,hr,h3,h4,h5,hf,hf2,hn,hb1,hb2⟩
 ·exact .inl h
 ·exact .inr ⟨g,cap,c1,c2,rest,F,G,hv,hr.keep (hb g hr.lt (.inr (hb1 g (by simp)))),h3,h4,h5,hf.frame fun b h=>hb b (hf.lt b h) (.inr (hb1 b (by simp [h]))),hf2.frame fun b h=>hb b (hf2.lt b h) (.inl (hb2 b h)),hn,hb1,hb2⟩
theorem Mix.setFar {k:Nat} (h:Mix O R t B1 B0 w v xs k) {p:Addr} (h1:B1≤p.block) (h2:p.block < B0) (u:Value):Mix O R t B1 B0 (w.setCell p u) v xs k :=
 h.frame fun b _ hb=>Below.heap_setCell _ _ _ _ (by omega)
theorem Mix.below {w':World} {k:Nat} (h:Mix O R t B1 B0 w v xs k) (hb:Below w.heap.size w w'):Mix O R t B1 B0 w' v xs k:=h.frame fun b h _=>hb.block b h
theorem Mix.slice {k:Nat} (h:Mix O R t B1 B0 w v xs k):∃a cap,v=.slice a xs.length cap:=by
 rcases h with ⟨rfl,rfl⟩|⟨g,cap,c1,c2,rest,F,G,rfl,_⟩
 ·exact ⟨none,0,rfl⟩
 ·exact ⟨_,_,rfl⟩
theorem Mix.at {k:Nat} (h:Mix O R t B1 B0 w v xs k) (hsz:R.sz=O.sz) (hk:k < xs.length) (hB:B0≤w.heap.size) (h01:B1≤B0) :
  ∃g cap A c B Fk,v=.slice (some ⟨g,0,none⟩) xs.length cap∧B0≤g∧Row w g t (A++c++B)∧A.length=k * O.sz∧c.length=O.sz∧R.rep w c xs[k] Fk∧(∀b∈Fk,b < B1) ∧
   ∀w' c' F',Row w' g t (A++c'++B)→O.rep w' c' xs[k] F'→F'.Nodup→(∀b∈F',w.heap.size≤b)→(∀b,b < w.heap.size→b≠g→w'.heap[b]?=w.heap[b]?)→Mix O R t B1 B0 w' v xs (k+1):=by
 rcases h with ⟨_,rfl⟩|⟨g,cap,c1,c2,rest,F,G,rfl,hr,h3,h4,h5,hf,hf2,hn,hb1,hb2⟩
 ·simp at hk
 ·rw [List.drop_eq_getElem_cons hk] at hf2
  obtain ⟨c,c3,G1,G2,rfl,rfl,h6,h7⟩:=hf2
  have hc1:c1.length=k * O.sz:=by rw [hf.len,List.length_take,Nat.min_eq_left (by omega)]
  have hlc:=R.len h6
  refine ⟨g,cap,c1,c,c3++rest,G1,rfl,hb1 g (by simp),by simpa using hr,hc1,by rw [←hsz];exact hlc,h6,fun b hb=>hb2 b (by simp [hb]),fun w' c' F' hr' h8 hn' hF' hk'=>?_⟩
  have hlc':=O.len h8
  have hne:∀b∈F++G2,b < w.heap.size∧b≠g:=fun b hb=>by
   rcases List.mem_append.1 hb with hb|hb
   ·refine ⟨hf.lt b hb,fun e=>?_⟩
    subst e;simp at hn;exact hn.1 hb
   ·have:=hb2 b (by simp [hb]);have:=hb1 g (by simp);exact ⟨by omega,by omega⟩
  refine .inr ⟨g,cap,c1++c',c3,rest,F++F',G2,rfl,by simpa using hr',h3,h4,?_,?_,?_,?_,?_,fun b hb=>hb2 b (by simp [hb])⟩
  ·simp only [List.length_append] at h5 ⊢;omega
  ·rw [List.take_succ_eq_append_getElem hk]
   exact (hf.frame fun b hb=>hk' b (hne b (by simp [hb])).1 (hne b (by simp [hb])).2).append (Flat.one h8)
  ·exact h7.frame fun b hb=>hk' b (hne b (by simp [hb])).1 (hne b (by simp [hb])).2
  ·have hg:=hr.lt
   simp only [List.nodup_cons,List.mem_append,not_or,List.nodup_append] at hn ⊢
   exact ⟨⟨hn.1,fun hm=>by have:=hF' g hm;omega⟩,hn.2,hn',fun a ha b hb e=>by have:=hf.lt a ha;have:=hF' b hb;omega⟩
  ·intro b hb
   simp at hb
   rcases hb with rfl|hb|hb
   ·exact hb1 b (by simp)
   ·exact hb1 b (by simp [hb])
   ·have:=hF' b hb;omega
end
def btw (lo x hi:Int):Bool:=decide (lo≤x) && decide (x≤hi)
theorem ret_bool {a b:Bool} (h:a=b):Ending.returned (.bool a)=.returned (.bool b):=by rw [h]
theorem drop_at (s:ByteArray) (k:Nat) (h:k < s.size):s.data.toList.drop k=s[k]::s.data.toList.drop (k+1):=by
 rw [List.drop_eq_getElem_cons (by simpa using h)];rfl
theorem drop_end (s:ByteArray) (k:Nat) (h:¬k < s.size):s.data.toList.drop k=[]:=List.drop_of_length_le (by simp;omega)
theorem within_c (x lo hi:Int) (w:World) :
  Calls Tryz.prog 64 #[.int .i64 x,.int .i64 lo,.int .i64 hi] w fun e w'=>e=.returned (.bool (btw lo x hi))∧w=w':=by
 go_enter Tryz.func64,Tryz.ntmps64
 go_wp2
 all_goals go_ret
 all_goals exact ⟨ret_bool (by simp [btw, *] <;> omega),rfl⟩
theorem l1In_c (x lo hi:Int) (w:World) :
  Calls Tryz.prog 63 #[.int .i64 x,.int .i64 lo,.int .i64 hi] w fun e w'=>e=.returned (.bool (btw lo x hi))∧w=w':=by
 go_enter Tryz.func63,Tryz.ntmps63
 go_wp2
 all_goals go_ret
 all_goals exact ⟨ret_bool (by simp [btw, *] <;> omega),rfl⟩
def stands (c:UInt8) (l:List UInt8):Bool:=l.any (· == c)
theorem ret_int {a b:Int} (h:a=b):Ending.returned (.int .i64 a)=.returned (.int .i64 b):=by rw [h]
theorem info_int:(Tryz.prog.info? 3).map (fun i=>(i.zero,i.size,i.bytes))=some (some (.int .i64 0),1,8):=by kernel_rfl
theorem Sl.int {w:World} {a:Option Addr} {n cap:Nat} {xs:List Int} {F} (h:Sl EInt w (.slice a n cap) xs F):n=xs.length∧n≤maxLen ∧
  ∀k (hk:k < xs.length),∃b off,a=some ⟨b,off,none⟩∧w.cell? ⟨b,off+k,none⟩=some (.int .i64 xs[k]):=by
 obtain ⟨a',cap',hv,hl,h⟩:=h
 cases hv
 refine ⟨rfl,by omega,fun k hk=>?_⟩
 rcases h with ⟨rfl,_⟩|⟨b,off,F',rfl,_,_,hc⟩
 ·simp at hk
 ·obtain ⟨cs,F1,⟨rfl,_⟩,hj,_⟩:=hc.get k hk
  exact ⟨b,off,rfl,by simpa [EInt] using hj 0 (by decide)⟩
theorem szIntS_c (v:Value) (zs:List Int) (F:List Nat) (n:Int) (w:World) (h:Sl EInt w v zs F) (h0:0≤n) (h1:n≤1048576) :
  Calls Tryz.prog 70 #[v,.int .i64 n] w fun e w'=>e=.returned (.int .i64 (szr n (wtL (fun _=>0) zs)))∧Below w.heap.size w w':=by
 obtain ⟨a,cap,rfl,_,_⟩:=id h
 obtain ⟨_,hl,_⟩:=h.int
 unfold maxLen at hl
 rw [wtL_zero]
 go_enter Tryz.func70,Tryz.ntmps70
 go_wp2
 all_goals go_ret
 all_goals exact ⟨ret_int (by unfold szr;split <;> omega),Below.refl _ _⟩
theorem eqIntS_c (va vb:Value) (zs:List Int) (Fa Fb:List Nat) (w:World) (ha:Sl EInt w va zs Fa) (hb:Sl EInt w vb zs Fb) :
  Calls Tryz.prog 106 #[va,vb] w fun e w'=>e=.returned (.bool true)∧Below w.heap.size w w':=by
 obtain ⟨a,ca,rfl,_,_⟩:=id ha
 obtain ⟨b,cb,rfl,_,_⟩:=id hb
 obtain ⟨_,hla,ha⟩:=ha.int
 obtain ⟨_, -,hb⟩:=hb.int
 unfold maxLen at hla
 go_enter Tryz.func106,Tryz.ntmps106
 go_wp2
 go_loopw [5] (fun i wr=>∃k:Nat,k≤zs.length∧i=.int .i64 k∧∃n,wr=w.drewN n) (fun i _=>zs.length - (intOf i).toNat)
 case atStart=>exact ⟨0,Nat.zero_le _,rfl,0,rfl⟩
 case round =>
  obtain ⟨k,hk,rfl,n,rfl⟩:=hrel
  by_cases hlt:k < zs.length
  ·obtain ⟨ba,oa,rfl,hca⟩:=ha k hlt
   obtain ⟨bb,ob,rfl,hcb⟩:=hb k hlt
   clear ha hb
   have he':(zs[k] != zs[k])=false:=by simp
   go_wp2
   go_quiet (fail)
   go_wp2
   exact ⟨⟨k+1,by omega,by go_num,n+nq,by simp⟩,by simp [intOf];omega⟩
  ·go_wp2
   go_ret
   exact ⟨rfl,belowDrewN (Below.refl _ _) _⟩
theorem sum_cntI (xs:List Int) (k:Nat) (h:k≤xs.length):psum cntI xs k=k:=by
 have:∀ys:List Int,(ys.map cntI).sum=ys.length:=fun ys=>by
  induction ys with
  | nil=>rfl
  | cons y r ih=>simp only [List.map_cons,List.sum_cons,ih,List.length_cons,cntI];omega
 unfold psum;rw [this];simp;omega
theorem cntL_int (xs:List Int):cntL cntI xs=xs.length:=by have:=sum_cntI xs xs.length (Nat.le_refl _);rwa [psum_all] at this
theorem markIntS_c (v:Value) (zs:List Int) (F:List Nat) (k0:Int) (w:World) (h:Ow EInt 3 w v zs F) (hn:F.Nodup) (h0:0≤k0) (h1:k0+cntL cntI zs≤1099511627776) :
  Calls Tryz.prog 112 #[v,.int .i64 k0] w (RetMark EInt 3 v (k0+cntL cntI zs) (markL mkI cntI k0 zs) F w):=by
 obtain ⟨a,cap,rfl⟩:=h.slice
 rw [cntL_int] at h1
 go_enter Tryz.func112,Tryz.ntmps112
 go_wp2
 go_loopw [1,5] (fun kk i wr=>∃k:Nat,k≤zs.length∧i=.int .i64 k∧kk=.int .i64 (k0+k)∧Ow EInt 3 wr (.slice a zs.length cap) ((markL mkI cntI k0 zs).take k++zs.drop k) F∧Keep F w wr) (fun _ i _=>zs.length - (intOf i).toNat)
 case atStart=>exact ⟨0,Nat.zero_le _,rfl,by simp,by simpa using h,Keep.refl _ _⟩
 case round =>
  obtain ⟨k,hk,rfl,rfl,ho,hb⟩:=hrel
  by_cases hlt:k < zs.length
  ·have hln:k < ((markL mkI cntI k0 zs).take k++zs.drop k).length:=by simp [markL_len];omega
   obtain ⟨g,rfl⟩:=ho.head k hln
   obtain ⟨A,c,B,Fi,hrow,hA,hcl,⟨rfl,rfl⟩, -, -,hgF, -,back⟩:=ho.inPlace hn k hln
   rw [show EInt.sz=1 from rfl,Nat.mul_one] at hA
   have hg:=hrow.cellMid (p:=k) (j:=0) (by omega) (by simp)
   have hfz:=hrow.frozen k
   have HB:=Lib.hid (back (wr.setCell ⟨g,k,none⟩ (.int .i64 (k0+k))) [.int .i64 (k0+k)] (k0+k) (hrow.setMid (p:=k) (j:=0) (by omega) (by simp) _) ⟨rfl,rfl⟩ ((Keep.refl _ _).setCell (by simp) _))
   have hst:=markL_step mkI cntI zs k0 k hlt
   rw [sum_cntI zs k (by omega)] at hst
   simp only [mkI] at hst
   rw [hst] at HB
   clear hst
   clear ho back hA
   simp only [List.getElem?_cons_zero] at hg
   go_wp2
   exact ⟨⟨k+1,by omega,by go_num,by go_num,HB.out,hb.setCell hgF _⟩,by simp [intOf];omega⟩
  ·have hk:k=zs.length:=by omega
   subst hk
   have HO:=Lib.hid ho
   clear ho
   go_wp2
   go_ret
   exact ⟨ret_int (by rw [cntL_int]),by simpa [markL_len,List.take_of_length_le] using HO.out,hb⟩
theorem heldIntS_c (v:Value) (zs:List Int) (F:List Nat) (k0:Int) (w:World) (h:Sl EInt w v (markL mkI cntI k0 zs) F) (h0:0≤k0) (h1:k0+cntL cntI zs≤1099511627776) :
  Calls Tryz.prog 119 #[v,.int .i64 k0] w fun e w'=>e=.returned (.int .i64 (k0+cntL cntI zs))∧Below w.heap.size w w':=by
 obtain ⟨a,cap,rfl,_,_⟩:=id h
 obtain ⟨_,_,h⟩:=h.int
 have hm:∀k (hk:k < zs.length),(markL mkI cntI k0 zs)[k]'(by rw [markL_len];exact hk)=k0+k:=fun k hk=>by
  rw [markL_get mkI cntI zs k0 k hk,sum_cntI zs k (by omega)];rfl
 rw [cntL_int] at h1 ⊢
 rw [markL_len]
 go_enter Tryz.func119,Tryz.ntmps119
 go_wp2
 go_loop [1,5] (fun kk i=>∃k:Nat,k≤zs.length∧i=.int .i64 k∧kk=.int .i64 (k0+k)) (fun _ i=>zs.length - (intOf i).toNat)
 case atStart=>exact ⟨0,Nat.zero_le _,rfl,by simp⟩
 case round =>
  obtain ⟨k,hk,rfl,rfl⟩:=hrel
  by_cases hlt:k < zs.length
  ·obtain ⟨b,off,rfl,hc⟩:=h k (by rw [markL_len];exact hlt)
   rw [hm k hlt] at hc
   clear h hm
   have he:((k0+k:Int) != k0+k)=false:=by simp
   go_wp2
   go_round
   case rel=>exact ⟨k+1,by omega,by go_num,by go_num⟩
   case measure=>simp [intOf];omega
  ·have hk:k=zs.length:=by omega
   subst hk
   go_wp2
   go_ret
   exact ⟨rfl,Below.refl _ _⟩
structure Tree where
 parent:List Int
def ETree:Elem Tree where
 sz:=1
 rep w cs x F:=∃v1,cs=[v1]∧Sl EInt w v1 x.parent F
 len h:=by obtain ⟨v1,rfl,h1⟩:=h;rfl
 lt h:=by obtain ⟨v1,rfl,h1⟩:=h;exact h1.lt (by decide)
 frame h hF:=by obtain ⟨v1,rfl,h1⟩:=h;exact ⟨v1,rfl,h1.frame hF⟩
def OTree:Elem Tree where
 sz:=1
 rep w cs x F:=∃v1,cs=[v1]∧Ow EInt 3 w v1 x.parent F
 len h:=by obtain ⟨v1,rfl,h1⟩:=h;rfl
 lt h:=by obtain ⟨v1,rfl,h1⟩:=h;exact h1.lt
 frame h hF:=by obtain ⟨v1,rfl,h1⟩:=h;exact ⟨v1,rfl,h1.frame hF⟩
def wtTree (x:Tree):Nat:=wtL (fun _=>0) x.parent
def cvTree (x:Tree):Nat:=(cntL cntI) x.parent
def mvTree (k:Int) (x:Tree):Tree:=⟨(markL mkI cntI) (k) x.parent⟩
theorem markTree_c (v:Value) (x:Tree) (F:List Nat) (k0:Int) (w:World) (h:IsV OTree w v x F) (hn:F.Nodup) (p0:0≤k0) (p1:k0+cvTree x≤1099511627776) :
  Calls Tryz.prog 51 #[v,.int .i64 k0] w (RetMarkV OTree v (k0+cvTree x) (mvTree k0 x) F w):=by
 have hlt:∀b∈F,b < w.heap.size:=by obtain ⟨cs, -,hx⟩:=h;exact OTree.lt hx
 obtain ⟨_,rfl,v1,rfl,h1⟩:=h
 unfold cvTree at p1 ⊢
 have hB0:∀A:Obj,Below w.heap.size w (w.alloc A):=fun A=>(Below.refl _ _).alloc (Nat.le_refl _) _
 have hw:w.heap.size ∉ F:=fun e=>by have:=hlt _ e;omega
 have nF1:=hn
 have w1_:=hw
 go_enter Tryz.func51,Tryz.ntmps51
 go_wp2_with fail
 refine (markIntS_c _ x.parent _ (k0) _ (h1.below (hB0 _)) nF1 (by omega) (by omega)).mono ?_
 rintro e w1 ⟨rfl,o1,kp1⟩
 have r0:=Row.keepK (g:=w.heap.size) (t:=40) (cs:=[v1]) (by simp [row_alloc]) kp1 w1_
 have KK:Keep F w w1:=(Keep.ofBelow (hB0 _)).trans (kp1.mono (fun b hb _=>hb))
 clear kp1
 have c0:=r0.cells
 go_wp2_with fail
 go_ret
 exact ⟨ret_int (by omega),⟨_,rfl,_,rfl,o1⟩,KK⟩
theorem heldTree_c (v:Value) (x:Tree) (F:List Nat) (k0:Int) (w:World) (h:IsV ETree w v (mvTree k0 x) F) (p0:0≤k0) (p1:k0+cvTree x≤1099511627776) :
  Calls Tryz.prog 57 #[v,.int .i64 k0] w fun e w'=>e=.returned (.int .i64 (k0+cvTree x))∧Below w.heap.size w w':=by
 obtain ⟨_,rfl,v1,rfl,h1⟩:=h
 unfold cvTree at p1 ⊢
 have hB0:∀A:Obj,Below w.heap.size w (w.alloc A):=fun A=>(Below.refl _ _).alloc (Nat.le_refl _) _
 go_enter Tryz.func57,Tryz.ntmps57
 go_wp2_with fail
 refine (heldIntS_c _ x.parent _ (k0) _ (h1.below (by decide) (hB0 _)) (by omega) (by omega)).mono ?_
 rintro e w1 ⟨rfl,hb1⟩
 have r0:=Row.below (g:=w.heap.size) (t:=40) (cs:=[v1]) (by simp [row_alloc,mvTree]) hb1
 have hB:=tr (hB0 _) hb1 (Nat.le_refl _)
 clear hb1
 have c0:=r0.cells
 go_wp2_with fail
 go_ret
 exact ⟨ret_int (by omega),hB⟩
theorem info_string:(Tryz.prog.info? 9).map (fun i=>(i.zero,i.size,i.bytes))=some (some (.string ⟨#[]⟩),1,16):=by kernel_rfl
theorem Sl.str {w:World} {a:Option Addr} {n cap:Nat} {xs:List ByteArray} {F} (h:Sl EStr w (.slice a n cap) xs F):n=xs.length∧n≤maxLen ∧
  ∀k (hk:k < xs.length),xs[k].size≤maxLen∧∃b off,a=some ⟨b,off,none⟩∧w.cell? ⟨b,off+k,none⟩=some (.string xs[k]):=by
 obtain ⟨a',cap',hv,hl,h⟩:=h
 cases hv
 refine ⟨rfl,by omega,fun k hk=>?_⟩
 rcases h with ⟨rfl,_⟩|⟨b,off,F',rfl,_,_,hc⟩
 ·simp at hk
 ·obtain ⟨cs,F1,⟨rfl,hs,_⟩,hj,_⟩:=hc.get k hk
  exact ⟨hs,b,off,rfl,by simpa [EStr] using hj 0 (by decide)⟩
theorem szStringS_c (v:Value) (zs:List ByteArray) (F:List Nat) (n:Int) (w:World) (h:Sl EStr w v zs F) (h0:0≤n) (h1:n≤1048576) :
  Calls Tryz.prog 141 #[v,.int .i64 n] w fun e w'=>e=.returned (.int .i64 (szr n (wtL ByteArray.size zs)))∧Below w.heap.size w w':=by
 obtain ⟨a,cap,rfl⟩:=h.slice
 obtain ⟨_,hl,hc⟩:=h.str
 unfold maxLen at hl hc
 go_enter Tryz.func141,Tryz.ntmps141
 by_cases hn:n < zs.length
 ·go_wp2
  go_ret
  exact ⟨ret_int (szr_no (by have:=wtL_le ByteArray.size zs 0;omega)).symm,Below.refl _ _⟩
 go_wp2
 go_loop [1,5] (fun l i=>∃k:Nat,k≤zs.length∧i=.int .i64 k∧l=.int .i64 (n - zs.length - psum ByteArray.size zs k)∧(psum ByteArray.size zs k:Int)+zs.length≤n) (fun _ i=>zs.length - (intOf i).toNat)
 case atStart=>exact ⟨0,Nat.zero_le _,rfl,by rw [psum_zero];simp,by rw [psum_zero];omega⟩
 case round =>
  obtain ⟨k,hk,rfl,rfl,hle⟩:=hrel
  by_cases hlt:k < zs.length
  ·have hsn:=psum_snoc ByteArray.size zs k hlt
   have hsl:=wtL_le ByteArray.size zs (k+1)
   obtain ⟨hs,b,off,rfl,c0⟩:=hc k hlt
   have hS:=Lib.hid hsn;clear hsn hc
   by_cases hr:n - zs.length - psum ByteArray.size zs k < zs[k].size
   ·have hr2:n - zs.length - psum ByteArray.size zs k - zs[k].size < 0:=by omega
    go_wp2
    go_ret
    exact ⟨ret_int (szr_no (by have:=hS.out;omega)).symm,Below.refl _ _⟩
   ·have hr2:¬n - zs.length - psum ByteArray.size zs k - zs[k].size < 0:=by omega
    go_wp2
    go_round
    case rel=>exact ⟨k+1,by omega,by go_num,congrArg (Value.int .i64) (by have:=hS.out;omega),by have:=hS.out;omega⟩
    case measure=>simp [intOf];omega
  ·have hk:k=zs.length:=by omega
   subst hk
   go_wp2
   go_ret
   exact ⟨ret_int (by rw [szr_yes (by rw [wtL_eq];omega),wtL_eq];omega),Below.refl _ _⟩
theorem eqStringS_c (va vb:Value) (zs:List ByteArray) (Fa Fb:List Nat) (w:World) (ha:Sl EStr w va zs Fa) (hb:Sl EStr w vb zs Fb) :
  Calls Tryz.prog 14 #[va,vb] w fun e w'=>e=.returned (.bool true)∧Below w.heap.size w w':=by
 obtain ⟨a,ca,rfl⟩:=ha.slice
 obtain ⟨b,cb,rfl⟩:=hb.slice
 obtain ⟨_,hla,ha⟩:=ha.str
 obtain ⟨_, -,hb⟩:=hb.str
 unfold maxLen at hla ha
 go_enter Tryz.func14,Tryz.ntmps14
 go_wp2
 go_loopw [5] (fun i wr=>∃k:Nat,k≤zs.length∧i=.int .i64 k∧∃n,wr=w.drewN n) (fun i _=>zs.length - (intOf i).toNat)
 case atStart=>exact ⟨0,Nat.zero_le _,rfl,0,rfl⟩
 case round =>
  obtain ⟨k,hk,rfl,n,rfl⟩:=hrel
  by_cases hlt:k < zs.length
  ·obtain ⟨hs,ba,oa,rfl,hca⟩:=ha k hlt
   obtain ⟨-,bb,ob,rfl,hcb⟩:=hb k hlt
   clear ha hb
   go_wp2
   go_quiet (fail)
   go_wp2
   exact ⟨⟨k+1,by omega,by go_num,n+nq,by simp⟩,by simp [intOf];omega⟩
  ·go_wp2
   go_ret
   exact ⟨rfl,belowDrewN (Below.refl _ _) _⟩
theorem sum_cntS (xs:List ByteArray) (k:Nat) (h:k≤xs.length):psum cntS xs k=k:=by
 have:∀ys:List ByteArray,(ys.map cntS).sum=ys.length:=fun ys=>by
  induction ys with
  | nil=>rfl
  | cons y r ih=>simp only [List.map_cons,List.sum_cons,ih,List.length_cons,cntS];omega
 unfold psum;rw [this];simp;omega
theorem cntL_str (xs:List ByteArray):cntL cntS xs=xs.length:=by have:=sum_cntS xs xs.length (Nat.le_refl _);rwa [psum_all] at this
theorem ba_append (a b:Array UInt8):(⟨a⟩:ByteArray)++⟨b⟩=⟨a++b⟩:=by apply ByteArray.ext;simp [ByteArray.data_append]
theorem mdigits_zero (m:Nat) (r:List UInt8):mdigits m 0 r=r:=by cases m <;> simp [mdigits]
theorem mdigits_pos (m k:Nat) (r:List UInt8) (h:k≠0):mdigits (m+1) k r=mdigits m (k / 10) (UInt8.ofNat (48+k % 10)::r):=by simp [mdigits,h]
theorem markText_c (k:Int) (w:World) (h0:0≤k) (h1:k≤1099511627776) :
  Calls Tryz.prog 56 #[.int .i64 k] w fun e w'=>e=.returned (.string (mtext k))∧Below w.heap.size w w':=by
 by_cases hk:k≤0
 ·have hm:mtext k=⟨#[109,48]⟩:=by unfold mtext;rw [if_pos hk]
  have hm:=Lib.hid hm
  go_enter Tryz.func56,Tryz.ntmps56
  go_wp2
  go_ret
  exact ⟨by rw [hm.out];rfl,Below.refl _ _⟩
 obtain ⟨kn,rfl⟩:=Int.eq_ofNat_of_zero_le h0
 have hm:mtext (kn:Int)=⟨(109::mdigits 20 kn []).toArray⟩:=by unfold mtext;rw [if_neg hk];rfl
 have hm:=Lib.hid hm
 generalize hD:mdigits 20 kn []=D at *
 have hD:=Lib.hid hD
 have hk:¬kn≤0:=by omega
 go_enter Tryz.func56,Tryz.ntmps56
 go_wp2
 go_loopw [0,3] (fun k o wr=>∃(m kk:Nat) (r:List UInt8),k=.int .i64 (kk:Int)∧o=.string ⟨r.toArray⟩∧(kk:Int)≤1099511627776∧r.length+m≤20∧Hid (kk < 10 ^ m)∧Hid (mdigits m kk r=D)∧Below w.heap.size w wr) (fun k _ _=>(intOf k).toNat)
 case atStart=>exact ⟨20,kn,[],rfl,rfl,h1,by simp,by show kn < 10 ^ 20;omega,hD,Below.refl _ _⟩
 case round =>
  obtain ⟨m,kk,r,rfl,rfl,hkk,hr,hp,hd,hB⟩:=hrel
  by_cases h0:0 < kk
  ·have b0:(0:Int)≤(kk:Int) % 10:=by omega
   have b1:(kk:Int) % 10≤9:=by omega
   have hcv:((convert 174 9 (.slice (some ⟨wr.heap.size,0,none⟩) 1 1)).run Tryz.prog (wr.alloc (.cells #[.int .u8 (48+(kk:Int) % 10)] 5)))=.ok (.string ⟨[UInt8.ofNat (48+kk % 10)].toArray⟩) (wr.alloc (.cells #[.int .u8 (48+(kk:Int) % 10)] 5)):=by
    have h:=run_convert_bytes_back (P:=Tryz.prog) (wr.alloc (.cells #[.int .u8 (48+(kk:Int) % 10)] 5)) 174 9 5 ⟨wr.heap.size,0,none⟩ 1 [UInt8.ofNat (48+kk % 10)] Tryz.underlying174 Tryz.underlying5 Tryz.underlying9 (fun j hj=>by
     obtain rfl:j=0:=by simpa using hj
     have e1:(UInt8.ofNat (48+kk % 10)).toNat=48+kk % 10:=by rw [UInt8.toNat_ofNat'];omega
     simp only [List.getElem_cons_zero,e1]
     simp [Addr.add])
    exact h
   obtain ⟨m',rfl⟩:∃m',m=m'+1:=⟨m - 1,by have:=hp.out;rcases m with _|m <;> simp at this ⊢;omega⟩
   have hp':Hid (kk / 10 < 10 ^ m'):=by have:=hp.out;rw [Nat.pow_succ] at this;show kk / 10 < 10 ^ m';omega
   have hd':Hid (mdigits m' (kk / 10) (UInt8.ofNat (48+kk % 10)::r)=D):=by rw [←mdigits_pos m' kk r (by omega)];exact hd
   clear hd hp
   go_wp2
   exact ⟨⟨m',kk / 10,UInt8.ofNat (48+kk % 10)::r,by simp,congrArg Value.string (by rw [ba_append];simp),by omega,by simp;omega,hp',hd',hB.alloc hB.size _⟩,by simp [intOf];omega⟩
  ·go_wp2
   go_ret
   have hk0:kk=0:=by omega
   have hd:=hd.out
   rw [hk0,mdigits_zero] at hd
   subst hd
   exact ⟨by rw [hm.out,ba_append];simp,hB⟩
theorem markStringS_c (v:Value) (zs:List ByteArray) (F:List Nat) (k0:Int) (w:World) (h:Ow EStr 9 w v zs F) (hn:F.Nodup) (h0:0≤k0) (h1:k0+cntL cntS zs≤1099511627776) :
  Calls Tryz.prog 16 #[v,.int .i64 k0] w (RetMark EStr 9 v (k0+cntL cntS zs) (markL mkS cntS k0 zs) F w):=by
 obtain ⟨a,cap,rfl⟩:=h.slice
 have hl:=h.len
 unfold maxLen at hl
 rw [cntL_str] at h1
 go_enter Tryz.func16,Tryz.ntmps16
 go_wp2
 go_loopw [1,5] (fun kk i wr=>∃k:Nat,k≤zs.length∧i=.int .i64 k∧kk=.int .i64 (k0+k)∧Ow EStr 9 wr (.slice a zs.length cap) ((markL mkS cntS k0 zs).take k++zs.drop k) F∧Keep F w wr) (fun _ i _=>zs.length - (intOf i).toNat)
 case atStart=>exact ⟨0,Nat.zero_le _,rfl,by simp,by simpa using h,Keep.refl _ _⟩
 case round =>
  obtain ⟨k,hk,rfl,rfl,ho,hK⟩:=hrel
  by_cases hlt:k < zs.length
  ·have hln:k < ((markL mkS cntS k0 zs).take k++zs.drop k).length:=by simp [markL_len];omega
   obtain ⟨g,rfl⟩:=ho.head k hln
   obtain ⟨A,c,B,Fi,hrow,hA,hcl,⟨rfl, -,rfl⟩, -, -,hgF, -,back⟩:=ho.inPlace hn k hln
   rw [show EStr.sz=1 from rfl,Nat.mul_one] at hA
   have hst:=markL_step mkS cntS zs k0 k hlt
   rw [sum_cntS zs k (by omega)] at hst
   have hst:=Lib.hid hst
   have hbk:=Lib.hid back
   clear ho back
   have z0:=hrow.cellMid (p:=k) (j:=0) (by omega) (by simp)
   have hfz:=hrow.frozens
   simp only [List.getElem?_cons_zero] at z0
   go_wp2_with fail
   refine (markText_c (k0+k) _ (by omega) (by omega)).mono ?_
   rintro e w1 ⟨rfl,hb1⟩
   have hrow:=hrow.below hb1
   have KK:=Keep.ofBelow (F:=[g]) hb1
   have z0:=hrow.cellMid (p:=k) (j:=0) (by omega) (by simp)
   have hfz:=hrow.frozens
   simp only [List.getElem?_cons_zero] at z0
   clear hb1
   go_wp2_with fail
   have HB:=hbk.out (w1.setCell ⟨g,k,none⟩ (.string (mtext (k0+k)))) [.string (mtext (k0+k))] (mtext (k0+k)) (hrow.setMid (p:=k) (j:=0) (by omega) (by simp) _) ⟨rfl,mtext_len _,rfl⟩ (KK.setCell (by simp) _)
   have hst:=hst.out
   simp only [mkS] at hst
   rw [hst] at HB
   exact ⟨⟨k+1,by omega,by go_num,by go_num,HB,(hK.trans (KK.mono (fun b hb _=>by simp at hb;subst hb;exact hgF))).setCell hgF _⟩,by simp [intOf];omega⟩
  ·have hk:k=zs.length:=by omega
   subst hk
   have HO:=Lib.hid ho
   clear ho
   go_wp2
   go_ret
   exact ⟨ret_int (by rw [cntL_str]),by simpa [markL_len,List.take_of_length_le] using HO.out,hK⟩
theorem heldStringS_c (v:Value) (zs:List ByteArray) (F:List Nat) (k0:Int) (w:World) (h:Sl EStr w v (markL mkS cntS k0 zs) F) (h0:0≤k0) (h1:k0+cntL cntS zs≤1099511627776) :
  Calls Tryz.prog 18 #[v,.int .i64 k0] w fun e w'=>e=.returned (.int .i64 (k0+cntL cntS zs))∧Below w.heap.size w w':=by
 obtain ⟨a,cap,rfl⟩:=h.slice
 have hm:∀k (hk:k < zs.length),(markL mkS cntS k0 zs)[k]'(by rw [markL_len];exact hk)=mtext (k0+k):=fun k hk=>by
  rw [markL_get mkS cntS zs k0 k hk,sum_cntS zs k (by omega)];rfl
 have hl:=h.len
 rw [markL_len] at hl
 unfold maxLen at hl
 rw [cntL_str] at h1 ⊢
 rw [markL_len]
 go_enter Tryz.func18,Tryz.ntmps18
 go_wp2
 go_loopw [1,5] (fun kk i wr=>∃k:Nat,k≤zs.length∧i=.int .i64 k∧kk=.int .i64 (k0+k)∧Below w.heap.size w wr) (fun _ i _=>zs.length - (intOf i).toNat)
 case atStart=>exact ⟨0,Nat.zero_le _,rfl,by simp,Below.refl _ _⟩
 case round =>
  obtain ⟨k,hk,rfl,rfl,hB⟩:=hrel
  by_cases hlt:k < zs.length
  ·obtain ⟨hs,b,off,hab,hc⟩:=(h.below (by decide) hB).str.2.2 k (by rw [markL_len];exact hlt)
   rw [hm k hlt] at hc
   have h:=Lib.hid h
   have hm:=Lib.hid hm
   subst hab
   go_wp2_with fail
   go_region_held3 (fun w'=>w'.cell? ⟨b,off+k,none⟩=some (.string (mtext (k0+k)))) (first|go_keep|(exact kc hb1 hc)|(exact hc))
    (first|(go_at_call 56;refine (markText_c (k0+k) wr.drew (by omega) (by omega)).mono ?_;rintro e w1 ⟨rfl,hb1⟩))
   have hB:=tr (belowDrewN hB 1) hb1 (Nat.le_refl _)
   clear hb1
   go_wp2_with fail
   exact ⟨⟨k+1,by omega,by go_num,by go_num,hB⟩,by simp [intOf];omega⟩
  ·have hk:k=zs.length:=by omega
   subst hk
   go_wp2
   go_ret
   exact ⟨rfl,hB⟩
structure SendWindow where
 trail:Int
 size:Int
 items:List ByteArray
def ESendWindow:Elem SendWindow where
 sz:=3
 rep w cs x F:=∃v1,cs=[.int .i64 x.trail,.int .i64 x.size,v1]∧Sl EStr w v1 x.items F
 len h:=by obtain ⟨v1,rfl,h1⟩:=h;rfl
 lt h:=by obtain ⟨v1,rfl,h1⟩:=h;exact h1.lt (by decide)
 frame h hF:=by obtain ⟨v1,rfl,h1⟩:=h;exact ⟨v1,rfl,h1.frame hF⟩
def OSendWindow:Elem SendWindow where
 sz:=3
 rep w cs x F:=∃v1,cs=[.int .i64 x.trail,.int .i64 x.size,v1]∧Ow EStr 9 w v1 x.items F
 len h:=by obtain ⟨v1,rfl,h1⟩:=h;rfl
 lt h:=by obtain ⟨v1,rfl,h1⟩:=h;exact h1.lt
 frame h hF:=by obtain ⟨v1,rfl,h1⟩:=h;exact ⟨v1,rfl,h1.frame hF⟩
def wtSendWindow (x:SendWindow):Nat:=wtL ByteArray.size x.items
def cvSendWindow (x:SendWindow):Nat:=(cntL cntS) x.items
def mvSendWindow (k:Int) (x:SendWindow):SendWindow:=⟨x.trail,x.size,(markL mkS cntS) (k) x.items⟩
theorem markSendWindow_c (v:Value) (x:SendWindow) (F:List Nat) (k0:Int) (w:World) (h:IsV OSendWindow w v x F) (hn:F.Nodup) (p0:0≤k0) (p1:k0+cvSendWindow x≤1099511627776) :
  Calls Tryz.prog 113 #[v,.int .i64 k0] w (RetMarkV OSendWindow v (k0+cvSendWindow x) (mvSendWindow k0 x) F w):=by
 have hlt:∀b∈F,b < w.heap.size:=by obtain ⟨cs, -,hx⟩:=h;exact OSendWindow.lt hx
 obtain ⟨_,rfl,v1,rfl,h1⟩:=h
 unfold cvSendWindow at p1 ⊢
 have hB0:∀A:Obj,Below w.heap.size w (w.alloc A):=fun A=>(Below.refl _ _).alloc (Nat.le_refl _) _
 have hw:w.heap.size ∉ F:=fun e=>by have:=hlt _ e;omega
 have nF1:=hn
 have w1_:=hw
 go_enter Tryz.func113,Tryz.ntmps113
 go_wp2_with fail
 refine (markStringS_c _ x.items _ (k0) _ (h1.below (hB0 _)) nF1 (by omega) (by omega)).mono ?_
 rintro e w1 ⟨rfl,o1,kp1⟩
 have r0:=Row.keepK (g:=w.heap.size) (t:=41) (cs:=[.int .i64 x.trail,.int .i64 x.size,v1]) (by simp [row_alloc]) kp1 w1_
 have KK:Keep F w w1:=(Keep.ofBelow (hB0 _)).trans (kp1.mono (fun b hb _=>hb))
 clear kp1
 have c0:=r0.cells
 go_wp2_with fail
 go_ret
 exact ⟨ret_int (by omega),⟨_,rfl,_,rfl,o1⟩,KK⟩
theorem heldSendWindow_c (v:Value) (x:SendWindow) (F:List Nat) (k0:Int) (w:World) (h:IsV ESendWindow w v (mvSendWindow k0 x) F) (p0:0≤k0) (p1:k0+cvSendWindow x≤1099511627776) :
  Calls Tryz.prog 120 #[v,.int .i64 k0] w fun e w'=>e=.returned (.int .i64 (k0+cvSendWindow x))∧Below w.heap.size w w':=by
 obtain ⟨_,rfl,v1,rfl,h1⟩:=h
 unfold cvSendWindow at p1 ⊢
 have hB0:∀A:Obj,Below w.heap.size w (w.alloc A):=fun A=>(Below.refl _ _).alloc (Nat.le_refl _) _
 go_enter Tryz.func120,Tryz.ntmps120
 go_wp2_with fail
 refine (heldStringS_c _ x.items _ (k0) _ (h1.below (by decide) (hB0 _)) (by omega) (by omega)).mono ?_
 rintro e w1 ⟨rfl,hb1⟩
 have r0:=Row.below (g:=w.heap.size) (t:=41) (cs:=[.int .i64 x.trail,.int .i64 x.size,v1]) (by simp [row_alloc,mvSendWindow]) hb1
 have hB:=tr (hB0 _) hb1 (Nat.le_refl _)
 clear hb1
 have c0:=r0.cells
 go_wp2_with fail
 go_ret
 exact ⟨ret_int (by omega),hB⟩
structure Hold where
 number:Int
 untl:Int
def EHold:Elem Hold where
 sz:=2
 rep _ cs x F:=cs=[.int .i64 x.number,.int .i64 x.untl]∧F=[]
 len h:=by obtain ⟨rfl,rfl⟩:=h;rfl
 lt h:=by obtain ⟨rfl,rfl⟩:=h;simp
 frame h _:=h
theorem one_EHold:One EHold:=fun h u hu=>by
 obtain ⟨rfl,rfl⟩:=h
 simp only [List.mem_cons,List.not_mem_nil,or_false] at hu
 rcases hu with rfl|rfl
 ·rfl
 ·rfl
theorem scal_EHold:Scal EHold:=fun h=>by obtain ⟨rfl,rfl⟩:=h;rfl
theorem info_Hold:(Tryz.prog.info? 194).map (fun i=>(i.zero,i.size,i.bytes))=some (some (.agg #[.int .i64 0,.int .i64 0]),2,16):=by kernel_rfl
def cntHold (x:Hold):Nat:=cntI x.number+cntI x.untl
def mkHold (k:Int) (x:Hold):Hold:=⟨mkI (k) x.number,mkI (k+cntI x.number) x.untl⟩
theorem cntHold_wt (x:Hold):cntHold x≤2 * (1+(fun _=>0) x):=by
 simp only [cntHold,cntI,cntB,cntS]
 omega
theorem szHoldS_c (v:Value) (xs:List Hold) (F:List Nat) (n:Int) (w:World) (h:Sl EHold w v xs F) (h0:0≤n) (h1:n≤1048576) :
  Calls Tryz.prog 72 #[v,.int .i64 n] w fun e w'=>e=.returned (.int .i64 (szr n (wtL (fun _=>0) xs)))∧Below w.heap.size w w':=by
 obtain ⟨a,cap,rfl⟩:=h.slice
 have hl:=h.len
 unfold maxLen at hl
 rw [wtL_zero]
 go_enter Tryz.func72,Tryz.ntmps72
 go_wp2
 all_goals go_ret
 all_goals exact ⟨ret_int (by unfold szr;split <;> omega),Below.refl _ _⟩
theorem toHold_c (v:Value) (x:Hold) (F:List Nat) (w:World) (h:IsV EHold w v x F)  :
  Calls Tryz.prog 167 #[v] w (RetV EHold x w):=by
 obtain ⟨_,rfl,rfl,rfl⟩:=h
 have hB0:∀A B C:Obj,Below w.heap.size w (((w.alloc A).alloc B).alloc C):=fun A B C=>(((Below.refl _ _).alloc (Nat.le_refl _) _).alloc (by simp) _).alloc (by simp <;> omega) _
 go_enter Tryz.func167,Tryz.ntmps167
 go_wp2_with fail
 refine bodyPost_ret (v:=.agg #[.int .i64 x.number,.int .i64 x.untl]) ?_ rfl ?_
 ·simp [results,Tryz.results167,go_sem]
 ·exact ⟨_,[],rfl,⟨_,rfl,rfl,rfl⟩,by simp,by simp,by repeat (first|exact Below.refl _ _|refine Below.setCell ?_ (by simp <;> omega) _|refine Below.alloc ?_ (by simp <;> omega) _)⟩
theorem eqHold_c (va vb:Value) (x:Hold) (Fa Fb:List Nat) (w:World) (ha:IsV EHold w va x Fa) (hb:IsV EHold w vb x Fb) :
  Calls Tryz.prog 196 #[va,vb] w fun e w'=>e=.returned (.bool true)∧Below w.heap.size w w':=by
 obtain ⟨_,rfl,rfl,rfl⟩:=ha
 obtain ⟨_,rfl,rfl,rfl⟩:=hb
 have hB0:∀A B:Obj,Below w.heap.size w ((w.alloc A).alloc B):=fun A B=>((Below.refl _ _).alloc (Nat.le_refl _) _).alloc (by simp) _
 have hE:∀z:Int,(z != z)=false:=fun z=>by simp
 go_enter Tryz.func196,Tryz.ntmps196
 go_wp2_with fail
 go_ret
 exact ⟨rfl,hB0 _ _⟩
theorem markHoldS_c (v:Value) (xs:List Hold) (F:List Nat) (k0:Int) (w:World) (h:Ow EHold 194 w v xs F) (hn:F.Nodup) (h0:0≤k0) (h1:k0+cntL cntHold xs≤1099511627776) :
  Calls Tryz.prog 114 #[v,.int .i64 k0] w (RetMark EHold 194 v (k0+cntL cntHold xs) (markL mkHold cntHold k0 xs) F w):=by
 obtain ⟨a,cap,rfl⟩:=h.slice
 have hl:=h.len
 unfold maxLen at hl
 go_enter Tryz.func114,Tryz.ntmps114
 go_wp2
 go_loopw [1,5] (fun kk i wr=>∃k:Nat,k≤xs.length∧i=.int .i64 k∧kk=.int .i64 (k0+psum cntHold xs k)∧Ow EHold 194 wr (.slice a xs.length cap) ((markL mkHold cntHold k0 xs).take k++xs.drop k) F∧Keep F w wr) (fun _ i _=>xs.length - (intOf i).toNat)
 case atStart=>exact ⟨0,Nat.zero_le _,rfl,by rw [psum_zero];simp,by simpa using h,Keep.refl _ _⟩
 case round =>
  obtain ⟨k,hk,rfl,rfl,ho,hK⟩:=hrel
  by_cases hlt:k < xs.length
  ·have hln:k < ((markL mkHold cntHold k0 xs).take k++xs.drop k).length:=by simp [markL_len];omega
   have hsn:=Lib.hid (psum_snoc cntHold xs k hlt)
   have hsl:k0+psum cntHold xs k+cntHold xs[k]≤1099511627776:=by have:=hsn.out;have:=cntL_le cntHold xs (k+1);omega
   obtain ⟨g,rfl⟩:=ho.head k hln
   obtain ⟨A,c,B,Fi,hrow,hA,hcl,hx,hnF,hgF,hgm,hsub,back⟩:=ho.inPlace hn k hln
   rw [mid_get _ _ _ (markL_len ..) hlt] at hx
   simp only [show EHold.sz=2 from rfl] at hA
   have hst:=Lib.hid (markL_step mkHold cntHold xs k0 k hlt)
   simp only [cntHold,cntI] at hsl
   obtain ⟨rfl,rfl⟩:=hx
   have KK:=Keep.refl (g::[]) wr
   clear ho
   have z0:=hrow.cellMid (p:=k * 2) (j:=0) (by omega) (by simp)
   have z1:=hrow.cellMid (p:=k * 2+1) (j:=1) (by omega) (by simp)
   simp only [List.getElem?_cons_zero,List.getElem?_cons_succ] at z0 z1
   have hfz:=hrow.frozens
   have HBk:=Lib.hid back;clear back
   go_wp2_with fail
   have HB:=HBk.out _ [.int .i64 (k0+psum cntHold xs k),.int .i64 (k0+psum cntHold xs k+1)] (mkHold (k0+psum cntHold xs k) xs[k]) (by exact (Row.setMid (Row.setMid hrow (p:=k * 2) (j:=0) (by omega) (by simp) (.int .i64 (k0+psum cntHold xs k))) (p:=k * 2+1) (j:=1) (by omega) (by simp) (.int .i64 (k0+psum cntHold xs k+1)))) ⟨rfl,rfl⟩ (by (repeat (refine Keep.setCell ?_ (by simp) _));exact KK)
   rw [hst.out] at HB
   exact ⟨⟨k+1,by omega,by go_num,congrArg (Value.int .i64) (by rw [hsn.out];simp only [cntHold,cntI];omega),HB,by (repeat (refine Keep.setCell ?_ hgm _));exact hK.trans (KK.mono (fun b hb _=>by rcases List.mem_cons.1 hb with rfl|hb;exact hgm;exact hsub b hb))⟩,by simp [intOf];omega⟩
  ·have hk:k=xs.length:=by omega
   subst hk
   have HO:=Lib.hid ho
   clear ho
   go_wp2
   go_ret
   exact ⟨ret_int (by rw [cntL_eq]),by simpa [markL_len,List.take_of_length_le] using HO.out,hK⟩
theorem heldHoldS_c (v:Value) (xs:List Hold) (F:List Nat) (k0:Int) (w:World) (h:Sl EHold w v (markL mkHold cntHold k0 xs) F) (h0:0≤k0) (h1:k0+cntL cntHold xs≤1099511627776) :
  Calls Tryz.prog 121 #[v,.int .i64 k0] w fun e w'=>e=.returned (.int .i64 (k0+cntL cntHold xs))∧Below w.heap.size w w':=by
 obtain ⟨a,cap,rfl⟩:=h.slice
 have hl:=h.len
 unfold maxLen at hl
 have hml:=Lib.hid (markL_len mkHold cntHold xs k0)
 rw [hml.out] at hl
 rw [hml.out]
 have hE:∀z:Int,(z != z)=false:=fun z=>by simp
 go_enter Tryz.func121,Tryz.ntmps121
 go_wp2
 go_loopw [1,5] (fun kk i wr=>∃k:Nat,k≤xs.length∧i=.int .i64 k∧kk=.int .i64 (k0+psum cntHold xs k)∧Below w.heap.size w wr) (fun _ i _=>xs.length - (intOf i).toNat)
 case atStart=>exact ⟨0,Nat.zero_le _,rfl,by rw [psum_zero];simp,Below.refl _ _⟩
 case round =>
  obtain ⟨k,hk,rfl,rfl,hB⟩:=hrel
  by_cases hlt:k < xs.length
  ·have hsn:=Lib.hid (psum_snoc cntHold xs k hlt)
   have hsl:k0+psum cntHold xs k+cntHold xs[k]≤1099511627776:=by have:=hsn.out;have:=cntL_le cntHold xs (k+1);omega
   obtain ⟨b,off,_,F1,hab,hx, -,ja⟩:=(h.below (by decide) hB).at k (by rw [hml.out];exact hlt)
   rw [markL_get mkHold cntHold xs k0 k hlt] at hx
   rw [hml.out] at h
   subst hab
   simp only [cntHold,cntI] at hsl
   obtain ⟨rfl,rfl⟩:=hx
   have a0:wr.cell? ⟨b,off+k * 2,none⟩=some (.int .i64 (k0+psum cntHold xs k)):=by have:=ja 0 (by decide);simp only [show EHold.sz=2 from rfl,Nat.mul_one,Nat.add_zero,List.getElem?_cons_zero,List.getElem?_cons_succ] at this;exact this
   have a1:wr.cell? ⟨b,off+k * 2+1,none⟩=some (.int .i64 (k0+psum cntHold xs k+1)):=by have:=ja 1 (by decide);simp only [show EHold.sz=2 from rfl,Nat.mul_one,Nat.add_zero,List.getElem?_cons_zero,List.getElem?_cons_succ] at this;exact this
   clear ja
   go_wp2_with fail
   exact ⟨⟨k+1,by omega,by go_num,congrArg (Value.int .i64) (by rw [hsn.out];simp only [cntHold,cntI];omega),hB⟩,by simp [intOf];omega⟩
  ·have hk:k=xs.length:=by omega
   subst hk
   go_wp2
   go_ret
   exact ⟨ret_int (by rw [cntL_eq]),hB⟩
structure Source where
 window:SendWindow
 clock:Int
 quiet:Int
 holds:List Hold
def ESource:Elem Source where
 sz:=6
 rep w cs x F:=∃v1 v2 F1 F2,cs=[.int .i64 x.window.trail,.int .i64 x.window.size,v1,.int .i64 x.clock,.int .i64 x.quiet,v2]∧Sl EStr w v1 x.window.items F1∧Sl EHold w v2 x.holds F2∧F=F1++F2
 len h:=by obtain ⟨v1,v2,F1,F2,rfl,h1,h2,rfl⟩:=h;rfl
 lt h:=by
  obtain ⟨v1,v2,F1,F2,rfl,h1,h2,rfl⟩:=h
  intro b hb
  simp only [List.mem_append] at hb
  rcases hb with hb|hb
  ·exact h1.lt (by decide) b hb
  ·exact h2.lt (by decide) b hb
 frame h hF:=by obtain ⟨v1,v2,F1,F2,rfl,h1,h2,rfl⟩:=h;exact ⟨v1,v2,F1,F2,rfl,h1.frame fun b hb=>hF b (by simp [hb]),h2.frame fun b hb=>hF b (by simp [hb]),rfl⟩
def OSource:Elem Source where
 sz:=6
 rep w cs x F:=∃v1 v2 F1 F2,cs=[.int .i64 x.window.trail,.int .i64 x.window.size,v1,.int .i64 x.clock,.int .i64 x.quiet,v2]∧Ow EStr 9 w v1 x.window.items F1∧Ow EHold 194 w v2 x.holds F2∧F=F1++F2
 len h:=by obtain ⟨v1,v2,F1,F2,rfl,h1,h2,rfl⟩:=h;rfl
 lt h:=by
  obtain ⟨v1,v2,F1,F2,rfl,h1,h2,rfl⟩:=h
  intro b hb
  simp only [List.mem_append] at hb
  rcases hb with hb|hb
  ·exact h1.lt b hb
  ·exact h2.lt b hb
 frame h hF:=by obtain ⟨v1,v2,F1,F2,rfl,h1,h2,rfl⟩:=h;exact ⟨v1,v2,F1,F2,rfl,h1.frame fun b hb=>hF b (by simp [hb]),h2.frame fun b hb=>hF b (by simp [hb]),rfl⟩
def wtSource (x:Source):Nat:=wtSendWindow x.window+wtL (fun _=>0) x.holds
def cvSource (x:Source):Nat:=cvSendWindow x.window+(cntL cntHold) x.holds
def mvSource (k:Int) (x:Source):Source:=⟨mvSendWindow (k) x.window,x.clock,x.quiet,(markL mkHold cntHold) (k+cvSendWindow x.window) x.holds⟩
theorem markSource_c (v:Value) (x:Source) (F:List Nat) (k0:Int) (w:World) (h:IsV OSource w v x F) (hn:F.Nodup) (p0:0≤k0) (p1:k0+cvSource x≤1099511627776) :
  Calls Tryz.prog 52 #[v,.int .i64 k0] w (RetMarkV OSource v (k0+cvSource x) (mvSource k0 x) F w):=by
 have hlt:∀b∈F,b < w.heap.size:=by obtain ⟨cs, -,hx⟩:=h;exact OSource.lt hx
 obtain ⟨_,rfl,v1,v2,F1,F2,rfl,h1,h2,rfl⟩:=h
 unfold cvSource at p1 ⊢
 have hB0:∀A:Obj,Below w.heap.size w (w.alloc A):=fun A=>(Below.refl _ _).alloc (Nat.le_refl _) _
 have hw:w.heap.size ∉ F1++F2:=fun e=>by have:=hlt _ e;omega
 obtain ⟨nF1,nF2,dF2⟩:=nodup_apart hn
 have w1_:w.heap.size ∉ F1:=fun e=>hw (by simp [e])
 have w2_:w.heap.size ∉ F2:=fun e=>hw (by simp [e])
 go_enter Tryz.func52,Tryz.ntmps52
 go_wp2_with fail
 refine (markSendWindow_c _ x.window F1 (k0) _ ⟨_,rfl,_,rfl,h1.below (hB0 _)⟩ nF1 (by omega) (by omega)).mono ?_
 rintro e w1 ⟨rfl,⟨cs_,hcs_,hx_⟩,kp1⟩
 obtain ⟨q1_,rfl,o1⟩:=hx_
 obtain rfl:v1=q1_:=by have:=congrArg Value.cells hcs_;simp [Value.cells] at this;first|exact this|exact this.1|exact this.2|exact this.2.1|exact this.2.2
 have r0:=Row.keepK (g:=w.heap.size) (t:=44) (cs:=[.int .i64 x.window.trail,.int .i64 x.window.size,v1,.int .i64 x.clock,.int .i64 x.quiet,v2]) (by simp [row_alloc]) kp1 w1_
 have h2:=Ow.keep (h2.below (hB0 _)) kp1 (fun b hb hc=>dF2 b (by simp [hc]) hb)
 have KK:Keep (F1++F2) w w1:=(Keep.ofBelow (hB0 _)).trans (kp1.mono (fun b hb _=>by simp [hb]))
 clear kp1
 have c0:=r0.cells
 go_wp2_with fail
 refine (markHoldS_c _ x.holds _ (k0+cvSendWindow x.window) _ h2 nF2 (by omega) (by omega)).mono ?_
 rintro e w2 ⟨rfl,o2,kp2⟩
 have r0:=r0.keepK kp2 w2_
 have o1:=Ow.keep o1 kp2 (fun b hb=>dF2 b (by simp [hb]))
 have KK:=KK.trans (kp2.mono (fun b hb _=>by simp [hb]))
 clear kp2
 have c0:=r0.cells
 go_wp2_with fail
 go_ret
 exact ⟨ret_int (by omega),⟨_,rfl,_,_,F1,F2,rfl,o1,o2,rfl⟩,KK⟩
theorem heldSource_c (v:Value) (x:Source) (F:List Nat) (k0:Int) (w:World) (h:IsV ESource w v (mvSource k0 x) F) (p0:0≤k0) (p1:k0+cvSource x≤1099511627776) :
  Calls Tryz.prog 58 #[v,.int .i64 k0] w fun e w'=>e=.returned (.int .i64 (k0+cvSource x))∧Below w.heap.size w w':=by
 obtain ⟨_,rfl,v1,v2,F1,F2,rfl,h1,h2,rfl⟩:=h
 unfold cvSource at p1 ⊢
 have hB0:∀A:Obj,Below w.heap.size w (w.alloc A):=fun A=>(Below.refl _ _).alloc (Nat.le_refl _) _
 go_enter Tryz.func58,Tryz.ntmps58
 go_wp2_with fail
 refine (heldSendWindow_c _ x.window _ (k0) _ ⟨_,rfl,_,rfl,h1.below (by decide) (hB0 _)⟩ (by omega) (by omega)).mono ?_
 rintro e w1 ⟨rfl,hb1⟩
 have r0:=Row.below (g:=w.heap.size) (t:=44) (cs:=[.int .i64 x.window.trail,.int .i64 x.window.size,v1,.int .i64 x.clock,.int .i64 x.quiet,v2]) (by simp [row_alloc,mvSource,mvSendWindow]) hb1
 have hB:=tr (hB0 _) hb1 (Nat.le_refl _)
 clear hb1
 have c0:=r0.cells
 go_wp2_with fail
 refine (heldHoldS_c _ x.holds _ (k0+cvSendWindow x.window) _ (h2.below (by decide) hB) (by omega) (by omega)).mono ?_
 rintro e w2 ⟨rfl,hb2⟩
 have r0:=r0.below hb2;have hB:=tr hB hb2 (Nat.le_refl _)
 clear hb2
 have c0:=r0.cells
 go_wp2_with fail
 go_ret
 exact ⟨ret_int (by omega),hB⟩
structure Entry where
 number:Int
 faces:List Int
 untl:Int
def EEntry:Elem Entry where
 sz:=3
 rep w cs x F:=∃v1,cs=[.int .i64 x.number,v1,.int .i64 x.untl]∧Sl EInt w v1 x.faces F
 len h:=by obtain ⟨v1,rfl,h1⟩:=h;rfl
 lt h:=by obtain ⟨v1,rfl,h1⟩:=h;exact h1.lt (by decide)
 frame h hF:=by obtain ⟨v1,rfl,h1⟩:=h;exact ⟨v1,rfl,h1.frame hF⟩
theorem one_EEntry:One EEntry:=fun h u hu=>by
 obtain ⟨v1,rfl,h1⟩:=h
 simp only [List.mem_cons,List.not_mem_nil,or_false] at hu
 rcases hu with rfl|rfl|rfl
 ·rfl
 ·exact h1.one
 ·rfl
theorem info_Entry:(Tryz.prog.info? 231).map (fun i=>(i.zero,i.size,i.bytes))=some (some (.agg #[.int .i64 0,.slice none 0 0,.int .i64 0]),3,40):=by kernel_rfl
def OEntry:Elem Entry where
 sz:=3
 rep w cs x F:=∃v1,cs=[.int .i64 x.number,v1,.int .i64 x.untl]∧Ow EInt 3 w v1 x.faces F
 len h:=by obtain ⟨v1,rfl,h1⟩:=h;rfl
 lt h:=by obtain ⟨v1,rfl,h1⟩:=h;exact h1.lt
 frame h hF:=by obtain ⟨v1,rfl,h1⟩:=h;exact ⟨v1,rfl,h1.frame hF⟩
theorem one_OEntry:One OEntry:=fun h u hu=>by
 obtain ⟨v1,rfl,h1⟩:=h
 simp only [List.mem_cons,List.not_mem_nil,or_false] at hu
 rcases hu with rfl|rfl|rfl
 ·rfl
 ·exact h1.one
 ·rfl
theorem weak_Entry:Weak OEntry EEntry:=⟨rfl,fun h=>by
 obtain ⟨v1,rfl,h1⟩:=h
 obtain ⟨G1,g1,k1⟩:=h1.sl (Weak.refl _)
 exact ⟨G1,g1,v1,rfl,k1⟩⟩
def wtEntry (x:Entry):Nat:=wtL (fun _=>0) x.faces
def cntEntry (x:Entry):Nat:=cntI x.number+(cntL cntI) x.faces+cntI x.untl
def mkEntry (k:Int) (x:Entry):Entry:=⟨mkI (k) x.number,(markL mkI cntI) (k+cntI x.number) x.faces,mkI (k+cntI x.number+(cntL cntI) x.faces) x.untl⟩
theorem cntEntry_wt (x:Entry):cntEntry x≤2 * (1+wtEntry x):=by
 have h0:=cntL_wt cntI (fun _=>0) 1 (fun x=>by simp [cntI]) x.faces
 simp only [cntEntry,wtEntry,cntI,cntB,cntS]
 omega
theorem markEntryS_c (v:Value) (xs:List Entry) (F:List Nat) (k0:Int) (w:World) (h:Ow OEntry 231 w v xs F) (hn:F.Nodup) (h0:0≤k0) (h1:k0+cntL cntEntry xs≤1099511627776) :
  Calls Tryz.prog 115 #[v,.int .i64 k0] w (RetMark OEntry 231 v (k0+cntL cntEntry xs) (markL mkEntry cntEntry k0 xs) F w):=by
 obtain ⟨a,cap,rfl⟩:=h.slice
 have hl:=h.len
 unfold maxLen at hl
 go_enter Tryz.func115,Tryz.ntmps115
 go_wp2
 go_loopw [1,5] (fun kk i wr=>∃k:Nat,k≤xs.length∧i=.int .i64 k∧kk=.int .i64 (k0+psum cntEntry xs k)∧Ow OEntry 231 wr (.slice a xs.length cap) ((markL mkEntry cntEntry k0 xs).take k++xs.drop k) F∧Keep F w wr) (fun _ i _=>xs.length - (intOf i).toNat)
 case atStart=>exact ⟨0,Nat.zero_le _,rfl,by rw [psum_zero];simp,by simpa using h,Keep.refl _ _⟩
 case round =>
  obtain ⟨k,hk,rfl,rfl,ho,hK⟩:=hrel
  by_cases hlt:k < xs.length
  ·have hln:k < ((markL mkEntry cntEntry k0 xs).take k++xs.drop k).length:=by simp [markL_len];omega
   have hsn:=Lib.hid (psum_snoc cntEntry xs k hlt)
   have hsl:k0+psum cntEntry xs k+cntEntry xs[k]≤1099511627776:=by have:=hsn.out;have:=cntL_le cntEntry xs (k+1);omega
   obtain ⟨g,rfl⟩:=ho.head k hln
   obtain ⟨A,c,B,Fi,hrow,hA,hcl,hx,hnF,hgF,hgm,hsub,back⟩:=ho.inPlace hn k hln
   rw [mid_get _ _ _ (markL_len ..) hlt] at hx
   simp only [show OEntry.sz=3 from rfl] at hA
   have hst:=Lib.hid (markL_step mkEntry cntEntry xs k0 k hlt)
   simp only [cntEntry,cntI] at hsl
   obtain ⟨v1,rfl,h1⟩:=hx
   have nF1:=hnF
   have gF1:=hgF
   have KK:=Keep.refl (g::Fi) wr
   clear ho
   have z0:=hrow.cellMid (p:=k * 3) (j:=0) (by omega) (by simp)
   have z1:=hrow.cellMid (p:=k * 3+1) (j:=1) (by omega) (by simp)
   have z2:=hrow.cellMid (p:=k * 3+2) (j:=2) (by omega) (by simp)
   simp only [List.getElem?_cons_zero,List.getElem?_cons_succ] at z0 z1 z2
   have hfz:=hrow.frozens
   have HBk:=Lib.hid back;clear back
   go_wp2_with fail
   refine (markIntS_c _ xs[k].faces _ (k0+psum cntEntry xs k+1) _ (by (repeat (refine Ow.setFar ?_ gF1 _));exact h1) nF1 (by omega) (by omega)).mono ?_
   rintro e w1 ⟨rfl,o1,kp1⟩
   have hrow:Row w1 g 231 (A++[.int .i64 (k0+psum cntEntry xs k),v1,.int .i64 xs[k].untl]++B):=Row.keepK (by exact (Row.setMid hrow (p:=k * 3) (j:=0) (by omega) (by simp) (.int .i64 (k0+psum cntEntry xs k)))) kp1 gF1
   have KK:=Keep.trans (F:=g::Fi) (a:=wr) (by (repeat (refine Keep.setCell ?_ (by simp) _));exact KK) (Keep.mono kp1 (fun b hb _=>by simp [hb]))
   clear kp1
   have z0:=hrow.cellMid (p:=k * 3) (j:=0) (by omega) (by simp)
   have z1:=hrow.cellMid (p:=k * 3+1) (j:=1) (by omega) (by simp)
   have z2:=hrow.cellMid (p:=k * 3+2) (j:=2) (by omega) (by simp)
   simp only [List.getElem?_cons_zero,List.getElem?_cons_succ] at z0 z1 z2
   have hfz:=hrow.frozens
   go_wp2_with fail
   have HB:=HBk.out _ [.int .i64 (k0+psum cntEntry xs k),v1,.int .i64 (k0+psum cntEntry xs k+1+cntL cntI xs[k].faces)] (mkEntry (k0+psum cntEntry xs k) xs[k]) (by exact (Row.setMid hrow (p:=k * 3+2) (j:=2) (by omega) (by simp) (.int .i64 (k0+psum cntEntry xs k+1+cntL cntI xs[k].faces)))) ⟨_,rfl,(by (repeat (refine Ow.setFar ?_ gF1 _));exact o1)⟩ (by (repeat (refine Keep.setCell ?_ (by simp) _));exact KK)
   rw [hst.out] at HB
   exact ⟨⟨k+1,by omega,by go_num,congrArg (Value.int .i64) (by rw [hsn.out];simp only [cntEntry,cntI];omega),HB,by (repeat (refine Keep.setCell ?_ hgm _));exact hK.trans (KK.mono (fun b hb _=>by rcases List.mem_cons.1 hb with rfl|hb;exact hgm;exact hsub b hb))⟩,by simp [intOf];omega⟩
  ·have hk:k=xs.length:=by omega
   subst hk
   have HO:=Lib.hid ho
   clear ho
   go_wp2
   go_ret
   exact ⟨ret_int (by rw [cntL_eq]),by simpa [markL_len,List.take_of_length_le] using HO.out,hK⟩
theorem heldEntryS_c (v:Value) (xs:List Entry) (F:List Nat) (k0:Int) (w:World) (h:Sl EEntry w v (markL mkEntry cntEntry k0 xs) F) (h0:0≤k0) (h1:k0+cntL cntEntry xs≤1099511627776) :
  Calls Tryz.prog 122 #[v,.int .i64 k0] w fun e w'=>e=.returned (.int .i64 (k0+cntL cntEntry xs))∧Below w.heap.size w w':=by
 obtain ⟨a,cap,rfl⟩:=h.slice
 have hl:=h.len
 unfold maxLen at hl
 have hml:=Lib.hid (markL_len mkEntry cntEntry xs k0)
 rw [hml.out] at hl
 rw [hml.out]
 have hE:∀z:Int,(z != z)=false:=fun z=>by simp
 go_enter Tryz.func122,Tryz.ntmps122
 go_wp2
 go_loopw [1,5] (fun kk i wr=>∃k:Nat,k≤xs.length∧i=.int .i64 k∧kk=.int .i64 (k0+psum cntEntry xs k)∧Below w.heap.size w wr) (fun _ i _=>xs.length - (intOf i).toNat)
 case atStart=>exact ⟨0,Nat.zero_le _,rfl,by rw [psum_zero];simp,Below.refl _ _⟩
 case round =>
  obtain ⟨k,hk,rfl,rfl,hB⟩:=hrel
  by_cases hlt:k < xs.length
  ·have hsn:=Lib.hid (psum_snoc cntEntry xs k hlt)
   have hsl:k0+psum cntEntry xs k+cntEntry xs[k]≤1099511627776:=by have:=hsn.out;have:=cntL_le cntEntry xs (k+1);omega
   obtain ⟨b,off,_,F1,hab,hx, -,ja⟩:=(h.below (by decide) hB).at k (by rw [hml.out];exact hlt)
   rw [markL_get mkEntry cntEntry xs k0 k hlt] at hx
   rw [hml.out] at h
   subst hab
   simp only [cntEntry,cntI] at hsl
   obtain ⟨v1,rfl,k1⟩:=hx
   have a0:wr.cell? ⟨b,off+k * 3,none⟩=some (.int .i64 (k0+psum cntEntry xs k)):=by have:=ja 0 (by decide);simp only [show EEntry.sz=3 from rfl,Nat.mul_one,Nat.add_zero,List.getElem?_cons_zero,List.getElem?_cons_succ] at this;exact this
   have a1:wr.cell? ⟨b,off+k * 3+1,none⟩=some (v1):=by have:=ja 1 (by decide);simp only [show EEntry.sz=3 from rfl,Nat.mul_one,Nat.add_zero,List.getElem?_cons_zero,List.getElem?_cons_succ] at this;exact this
   have a2:wr.cell? ⟨b,off+k * 3+2,none⟩=some (.int .i64 (k0+psum cntEntry xs k+1+cntL cntI xs[k].faces)):=by have:=ja 2 (by decide);simp only [show EEntry.sz=3 from rfl,Nat.mul_one,Nat.add_zero,List.getElem?_cons_zero,List.getElem?_cons_succ] at this;exact this
   clear ja
   go_wp2_with fail
   refine (heldIntS_c _ xs[k].faces _ (k0+psum cntEntry xs k+1) _ (k1.below (by decide) (Below.refl _ _)) (by omega) (by omega)).mono ?_
   rintro e w1 ⟨rfl,hb1⟩
   have a0:=kc hb1 a0
   have a1:=kc hb1 a1
   have a2:=kc hb1 a2
   have hB:=tr hB hb1 (Nat.le_refl _)
   have k1:=k1.below (by decide) hb1
   clear hb1
   go_wp2_with fail
   exact ⟨⟨k+1,by omega,by go_num,congrArg (Value.int .i64) (by rw [hsn.out];simp only [cntEntry,cntI];omega),hB⟩,by simp [intOf];omega⟩
  ·have hk:k=xs.length:=by omega
   subst hk
   go_wp2
   go_ret
   exact ⟨ret_int (by rw [cntL_eq]),hB⟩
structure Element where
 clock:Int
 entries:List Entry
def EElement:Elem Element where
 sz:=2
 rep w cs x F:=∃v1,cs=[.int .i64 x.clock,v1]∧Sl EEntry w v1 x.entries F
 len h:=by obtain ⟨v1,rfl,h1⟩:=h;rfl
 lt h:=by obtain ⟨v1,rfl,h1⟩:=h;exact h1.lt (by decide)
 frame h hF:=by obtain ⟨v1,rfl,h1⟩:=h;exact ⟨v1,rfl,h1.frame hF⟩
def OElement:Elem Element where
 sz:=2
 rep w cs x F:=∃v1,cs=[.int .i64 x.clock,v1]∧Ow OEntry 231 w v1 x.entries F
 len h:=by obtain ⟨v1,rfl,h1⟩:=h;rfl
 lt h:=by obtain ⟨v1,rfl,h1⟩:=h;exact h1.lt
 frame h hF:=by obtain ⟨v1,rfl,h1⟩:=h;exact ⟨v1,rfl,h1.frame hF⟩
theorem one_OElement:One OElement:=fun h u hu=>by
 obtain ⟨v1,rfl,h1⟩:=h
 simp only [List.mem_cons,List.not_mem_nil,or_false] at hu
 rcases hu with rfl|rfl
 ·rfl
 ·exact h1.one
theorem weak_Element:Weak OElement EElement:=⟨rfl,fun h=>by
 obtain ⟨v1,rfl,h1⟩:=h
 obtain ⟨G1,g1,k1⟩:=h1.sl weak_Entry
 exact ⟨G1,g1,v1,rfl,k1⟩⟩
def wtElement (x:Element):Nat:=wtL wtEntry x.entries
def cntElement (x:Element):Nat:=cntI x.clock+(cntL cntEntry) x.entries
def mkElement (k:Int) (x:Element):Element:=⟨mkI (k) x.clock,(markL mkEntry cntEntry) (k+cntI x.clock) x.entries⟩
theorem cntElement_wt (x:Element):cntElement x≤2 * (1+wtElement x):=by
 have h0:=cntL_wt cntEntry wtEntry 2 cntEntry_wt x.entries
 simp only [cntElement,wtElement,cntI,cntB,cntS]
 omega
theorem markElementS_c (v:Value) (xs:List Element) (F:List Nat) (k0:Int) (w:World) (h:Ow OElement 142 w v xs F) (hn:F.Nodup) (h0:0≤k0) (h1:k0+cntL cntElement xs≤1099511627776) :
  Calls Tryz.prog 53 #[v,.int .i64 k0] w (RetMark OElement 142 v (k0+cntL cntElement xs) (markL mkElement cntElement k0 xs) F w):=by
 obtain ⟨a,cap,rfl⟩:=h.slice
 have hl:=h.len
 unfold maxLen at hl
 go_enter Tryz.func53,Tryz.ntmps53
 go_wp2
 go_loopw [1,5] (fun kk i wr=>∃k:Nat,k≤xs.length∧i=.int .i64 k∧kk=.int .i64 (k0+psum cntElement xs k)∧Ow OElement 142 wr (.slice a xs.length cap) ((markL mkElement cntElement k0 xs).take k++xs.drop k) F∧Keep F w wr) (fun _ i _=>xs.length - (intOf i).toNat)
 case atStart=>exact ⟨0,Nat.zero_le _,rfl,by rw [psum_zero];simp,by simpa using h,Keep.refl _ _⟩
 case round =>
  obtain ⟨k,hk,rfl,rfl,ho,hK⟩:=hrel
  by_cases hlt:k < xs.length
  ·have hln:k < ((markL mkElement cntElement k0 xs).take k++xs.drop k).length:=by simp [markL_len];omega
   have hsn:=Lib.hid (psum_snoc cntElement xs k hlt)
   have hsl:k0+psum cntElement xs k+cntElement xs[k]≤1099511627776:=by have:=hsn.out;have:=cntL_le cntElement xs (k+1);omega
   obtain ⟨g,rfl⟩:=ho.head k hln
   obtain ⟨A,c,B,Fi,hrow,hA,hcl,hx,hnF,hgF,hgm,hsub,back⟩:=ho.inPlace hn k hln
   rw [mid_get _ _ _ (markL_len ..) hlt] at hx
   simp only [show OElement.sz=2 from rfl] at hA
   have hst:=Lib.hid (markL_step mkElement cntElement xs k0 k hlt)
   simp only [cntElement,cntI] at hsl
   obtain ⟨v1,rfl,h1⟩:=hx
   have nF1:=hnF
   have gF1:=hgF
   have KK:=Keep.refl (g::Fi) wr
   clear ho
   have z0:=hrow.cellMid (p:=k * 2) (j:=0) (by omega) (by simp)
   have z1:=hrow.cellMid (p:=k * 2+1) (j:=1) (by omega) (by simp)
   simp only [List.getElem?_cons_zero,List.getElem?_cons_succ] at z0 z1
   have hfz:=hrow.frozens
   have HBk:=Lib.hid back;clear back
   go_wp2_with fail
   refine (markEntryS_c _ xs[k].entries _ (k0+psum cntElement xs k+1) _ (by (repeat (refine Ow.setFar ?_ gF1 _));exact h1) nF1 (by omega) (by omega)).mono ?_
   rintro e w1 ⟨rfl,o1,kp1⟩
   have hrow:Row w1 g 142 (A++[.int .i64 (k0+psum cntElement xs k),v1]++B):=Row.keepK (by exact (Row.setMid hrow (p:=k * 2) (j:=0) (by omega) (by simp) (.int .i64 (k0+psum cntElement xs k)))) kp1 gF1
   have KK:=Keep.trans (F:=g::Fi) (a:=wr) (by (repeat (refine Keep.setCell ?_ (by simp) _));exact KK) (Keep.mono kp1 (fun b hb _=>by simp [hb]))
   clear kp1
   have z0:=hrow.cellMid (p:=k * 2) (j:=0) (by omega) (by simp)
   have z1:=hrow.cellMid (p:=k * 2+1) (j:=1) (by omega) (by simp)
   simp only [List.getElem?_cons_zero,List.getElem?_cons_succ] at z0 z1
   have hfz:=hrow.frozens
   go_wp2_with fail
   have HB:=HBk.out _ [.int .i64 (k0+psum cntElement xs k),v1] (mkElement (k0+psum cntElement xs k) xs[k]) (by exact hrow) ⟨_,rfl,(by (repeat (refine Ow.setFar ?_ gF1 _));exact o1)⟩ (by (repeat (refine Keep.setCell ?_ (by simp) _));exact KK)
   rw [hst.out] at HB
   exact ⟨⟨k+1,by omega,by go_num,congrArg (Value.int .i64) (by rw [hsn.out];simp only [cntElement,cntI];omega),HB,by (repeat (refine Keep.setCell ?_ hgm _));exact hK.trans (KK.mono (fun b hb _=>by rcases List.mem_cons.1 hb with rfl|hb;exact hgm;exact hsub b hb))⟩,by simp [intOf];omega⟩
  ·have hk:k=xs.length:=by omega
   subst hk
   have HO:=Lib.hid ho
   clear ho
   go_wp2
   go_ret
   exact ⟨ret_int (by rw [cntL_eq]),by simpa [markL_len,List.take_of_length_le] using HO.out,hK⟩
theorem heldElementS_c (v:Value) (xs:List Element) (F:List Nat) (k0:Int) (w:World) (h:Sl EElement w v (markL mkElement cntElement k0 xs) F) (h0:0≤k0) (h1:k0+cntL cntElement xs≤1099511627776) :
  Calls Tryz.prog 59 #[v,.int .i64 k0] w fun e w'=>e=.returned (.int .i64 (k0+cntL cntElement xs))∧Below w.heap.size w w':=by
 obtain ⟨a,cap,rfl⟩:=h.slice
 have hl:=h.len
 unfold maxLen at hl
 have hml:=Lib.hid (markL_len mkElement cntElement xs k0)
 rw [hml.out] at hl
 rw [hml.out]
 have hE:∀z:Int,(z != z)=false:=fun z=>by simp
 go_enter Tryz.func59,Tryz.ntmps59
 go_wp2
 go_loopw [1,5] (fun kk i wr=>∃k:Nat,k≤xs.length∧i=.int .i64 k∧kk=.int .i64 (k0+psum cntElement xs k)∧Below w.heap.size w wr) (fun _ i _=>xs.length - (intOf i).toNat)
 case atStart=>exact ⟨0,Nat.zero_le _,rfl,by rw [psum_zero];simp,Below.refl _ _⟩
 case round =>
  obtain ⟨k,hk,rfl,rfl,hB⟩:=hrel
  by_cases hlt:k < xs.length
  ·have hsn:=Lib.hid (psum_snoc cntElement xs k hlt)
   have hsl:k0+psum cntElement xs k+cntElement xs[k]≤1099511627776:=by have:=hsn.out;have:=cntL_le cntElement xs (k+1);omega
   obtain ⟨b,off,_,F1,hab,hx, -,ja⟩:=(h.below (by decide) hB).at k (by rw [hml.out];exact hlt)
   rw [markL_get mkElement cntElement xs k0 k hlt] at hx
   rw [hml.out] at h
   subst hab
   simp only [cntElement,cntI] at hsl
   obtain ⟨v1,rfl,k1⟩:=hx
   have a0:wr.cell? ⟨b,off+k * 2,none⟩=some (.int .i64 (k0+psum cntElement xs k)):=by have:=ja 0 (by decide);simp only [show EElement.sz=2 from rfl,Nat.mul_one,Nat.add_zero,List.getElem?_cons_zero,List.getElem?_cons_succ] at this;exact this
   have a1:wr.cell? ⟨b,off+k * 2+1,none⟩=some (v1):=by have:=ja 1 (by decide);simp only [show EElement.sz=2 from rfl,Nat.mul_one,Nat.add_zero,List.getElem?_cons_zero,List.getElem?_cons_succ] at this;exact this
   clear ja
   go_wp2_with fail
   refine (heldEntryS_c _ xs[k].entries _ (k0+psum cntElement xs k+1) _ (k1.below (by decide) (Below.refl _ _)) (by omega) (by omega)).mono ?_
   rintro e w1 ⟨rfl,hb1⟩
   have a0:=kc hb1 a0
   have a1:=kc hb1 a1
   have hB:=tr hB hb1 (Nat.le_refl _)
   have k1:=k1.below (by decide) hb1
   clear hb1
   go_wp2_with fail
   exact ⟨⟨k+1,by omega,by go_num,congrArg (Value.int .i64) (by rw [hsn.out];simp only [cntElement,cntI];omega),hB⟩,by simp [intOf];omega⟩
  ·have hk:k=xs.length:=by omega
   subst hk
   go_wp2
   go_ret
   exact ⟨ret_int (by rw [cntL_eq]),hB⟩
structure Slot where
 hav:Bool
 item:ByteArray
def ESlot:Elem Slot where
 sz:=2
 rep _ cs x F:=cs=[.bool x.hav,.string x.item]∧x.item.size≤maxLen∧F=[]
 len h:=by obtain ⟨rfl,s1,rfl⟩:=h;rfl
 lt h:=by obtain ⟨rfl,s1,rfl⟩:=h;simp
 frame h _:=h
theorem one_ESlot:One ESlot:=fun h u hu=>by
 obtain ⟨rfl,s1,rfl⟩:=h
 simp only [List.mem_cons,List.not_mem_nil,or_false] at hu
 rcases hu with rfl|rfl
 ·rfl
 ·rfl
theorem scal_ESlot:Scal ESlot:=fun h=>by obtain ⟨rfl,s1,rfl⟩:=h;rfl
theorem info_Slot:(Tryz.prog.info? 247).map (fun i=>(i.zero,i.size,i.bytes))=some (some (.agg #[.bool false,.string ⟨#[]⟩]),2,24):=by kernel_rfl
def wtSlot (x:Slot):Nat:=x.item.size
def cntSlot (x:Slot):Nat:=cntB x.hav+cntS x.item
def mkSlot (k:Int) (x:Slot):Slot:=⟨mkB (k) x.hav,mkS (k+cntB x.hav) x.item⟩
theorem cntSlot_wt (x:Slot):cntSlot x≤2 * (1+wtSlot x):=by
 simp only [cntSlot,wtSlot,cntI,cntB,cntS]
 omega
theorem szSlot_c (v:Value) (x:Slot) (F:List Nat) (n:Int) (w:World) (h:IsV ESlot w v x F) (h0:0≤n) (h1:n≤1048576) :
  Calls Tryz.prog 279 #[v,.int .i64 n] w fun e w'=>e=.returned (.int .i64 (szr n (wtSlot x)))∧Below w.heap.size w w':=by
 obtain ⟨_,rfl,rfl,s1,rfl⟩:=h
 have hB0:∀A:Obj,Below w.heap.size w (w.alloc A):=fun A=>(Below.refl _ _).alloc (Nat.le_refl _) _
 unfold maxLen at s1
 unfold wtSlot
 go_enter Tryz.func279,Tryz.ntmps279
 go_wp2
 all_goals go_ret
 all_goals exact ⟨ret_int (by unfold szr;split <;> omega),hB0 _⟩
theorem toSlot_c (v:Value) (x:Slot) (F:List Nat) (w:World) (h:IsV ESlot w v x F) (hl:wtSlot x≤1048576) :
  Calls Tryz.prog 289 #[v] w (RetV ESlot x w):=by
 obtain ⟨_,rfl,rfl,s1,rfl⟩:=h
 have hB0:∀A B C:Obj,Below w.heap.size w (((w.alloc A).alloc B).alloc C):=fun A B C=>(((Below.refl _ _).alloc (Nat.le_refl _) _).alloc (by simp) _).alloc (by simp <;> omega) _
 go_enter Tryz.func289,Tryz.ntmps289
 go_wp2_with fail
 refine bodyPost_ret (v:=.agg #[.bool x.hav,.string x.item]) ?_ rfl ?_
 ·simp [results,Tryz.results289,go_sem]
 ·exact ⟨_,[],rfl,⟨_,rfl,rfl,s1,rfl⟩,by simp,by simp,by repeat (first|exact Below.refl _ _|refine Below.setCell ?_ (by simp <;> omega) _|refine Below.alloc ?_ (by simp <;> omega) _)⟩
theorem eqSlot_c (va vb:Value) (x:Slot) (Fa Fb:List Nat) (w:World) (ha:IsV ESlot w va x Fa) (hb:IsV ESlot w vb x Fb) :
  Calls Tryz.prog 311 #[va,vb] w fun e w'=>e=.returned (.bool true)∧Below w.heap.size w w':=by
 obtain ⟨_,rfl,rfl,s1,rfl⟩:=ha
 obtain ⟨_,rfl,rfl,t1,rfl⟩:=hb
 have hB0:∀A B:Obj,Below w.heap.size w ((w.alloc A).alloc B):=fun A B=>((Below.refl _ _).alloc (Nat.le_refl _) _).alloc (by simp) _
 have hE:∀z:Int,(z != z)=false:=fun z=>by simp
 go_enter Tryz.func311,Tryz.ntmps311
 go_wp2_with fail
 go_ret
 exact ⟨rfl,hB0 _ _⟩
theorem markSlotS_c (v:Value) (xs:List Slot) (F:List Nat) (k0:Int) (w:World) (h:Ow ESlot 247 w v xs F) (hn:F.Nodup) (h0:0≤k0) (h1:k0+cntL cntSlot xs≤1099511627776) :
  Calls Tryz.prog 116 #[v,.int .i64 k0] w (RetMark ESlot 247 v (k0+cntL cntSlot xs) (markL mkSlot cntSlot k0 xs) F w):=by
 obtain ⟨a,cap,rfl⟩:=h.slice
 have hl:=h.len
 unfold maxLen at hl
 go_enter Tryz.func116,Tryz.ntmps116
 go_wp2
 go_loopw [1,5] (fun kk i wr=>∃k:Nat,k≤xs.length∧i=.int .i64 k∧kk=.int .i64 (k0+psum cntSlot xs k)∧Ow ESlot 247 wr (.slice a xs.length cap) ((markL mkSlot cntSlot k0 xs).take k++xs.drop k) F∧Keep F w wr) (fun _ i _=>xs.length - (intOf i).toNat)
 case atStart=>exact ⟨0,Nat.zero_le _,rfl,by rw [psum_zero];simp,by simpa using h,Keep.refl _ _⟩
 case round =>
  obtain ⟨k,hk,rfl,rfl,ho,hK⟩:=hrel
  by_cases hlt:k < xs.length
  ·have hln:k < ((markL mkSlot cntSlot k0 xs).take k++xs.drop k).length:=by simp [markL_len];omega
   have hsn:=Lib.hid (psum_snoc cntSlot xs k hlt)
   have hsl:k0+psum cntSlot xs k+cntSlot xs[k]≤1099511627776:=by have:=hsn.out;have:=cntL_le cntSlot xs (k+1);omega
   obtain ⟨g,rfl⟩:=ho.head k hln
   obtain ⟨A,c,B,Fi,hrow,hA,hcl,hx,hnF,hgF,hgm,hsub,back⟩:=ho.inPlace hn k hln
   rw [mid_get _ _ _ (markL_len ..) hlt] at hx
   simp only [show ESlot.sz=2 from rfl] at hA
   have hst:=Lib.hid (markL_step mkSlot cntSlot xs k0 k hlt)
   simp only [cntB,cntS,cntSlot] at hsl
   obtain ⟨rfl,s1,rfl⟩:=hx
   have KK:=Keep.refl (g::[]) wr
   clear ho
   have z0:=hrow.cellMid (p:=k * 2) (j:=0) (by omega) (by simp)
   have z1:=hrow.cellMid (p:=k * 2+1) (j:=1) (by omega) (by simp)
   simp only [List.getElem?_cons_zero,List.getElem?_cons_succ] at z0 z1
   have hfz:=hrow.frozens
   have HBk:=Lib.hid back;clear back
   go_wp2_with fail
   refine (markText_c (k0+psum cntSlot xs k+1) _ (by omega) (by omega)).mono ?_
   rintro e w1 ⟨rfl,hb1⟩
   have hrow:Row w1 g 247 (A++[.bool ((k0+psum cntSlot xs k) % 3 == 0),.string xs[k].item]++B):=Row.keepK (by exact (Row.setMid hrow (p:=k * 2) (j:=0) (by omega) (by simp) (.bool ((k0+psum cntSlot xs k) % 3 == 0)))) (Keep.ofBelow (F:=[]) hb1) (by simp)
   have KK:=Keep.trans (F:=g::[]) (a:=wr) (by (repeat (refine Keep.setCell ?_ (by simp) _));exact KK) (Keep.mono (Keep.ofBelow (F:=[]) hb1) (fun b hb _=>by simp at hb))
   clear hb1
   have z0:=hrow.cellMid (p:=k * 2) (j:=0) (by omega) (by simp)
   have z1:=hrow.cellMid (p:=k * 2+1) (j:=1) (by omega) (by simp)
   simp only [List.getElem?_cons_zero,List.getElem?_cons_succ] at z0 z1
   have hfz:=hrow.frozens
   go_wp2_with fail
   have HB:=HBk.out _ [.bool ((k0+psum cntSlot xs k) % 3 == 0),.string (mtext (k0+psum cntSlot xs k+1))] (mkSlot (k0+psum cntSlot xs k) xs[k]) (by exact (Row.setMid hrow (p:=k * 2+1) (j:=1) (by omega) (by simp) (.string (mtext (k0+psum cntSlot xs k+1))))) ⟨rfl,mtext_len _,rfl⟩ (by (repeat (refine Keep.setCell ?_ (by simp) _));exact KK)
   rw [hst.out] at HB
   exact ⟨⟨k+1,by omega,by go_num,congrArg (Value.int .i64) (by rw [hsn.out];simp only [cntB,cntS,cntSlot];omega),HB,by (repeat (refine Keep.setCell ?_ hgm _));exact hK.trans (KK.mono (fun b hb _=>by rcases List.mem_cons.1 hb with rfl|hb;exact hgm;exact hsub b hb))⟩,by simp [intOf];omega⟩
  ·have hk:k=xs.length:=by omega
   subst hk
   have HO:=Lib.hid ho
   clear ho
   go_wp2
   go_ret
   exact ⟨ret_int (by rw [cntL_eq]),by simpa [markL_len,List.take_of_length_le] using HO.out,hK⟩
theorem heldSlotS_c (v:Value) (xs:List Slot) (F:List Nat) (k0:Int) (w:World) (h:Sl ESlot w v (markL mkSlot cntSlot k0 xs) F) (h0:0≤k0) (h1:k0+cntL cntSlot xs≤1099511627776) :
  Calls Tryz.prog 123 #[v,.int .i64 k0] w fun e w'=>e=.returned (.int .i64 (k0+cntL cntSlot xs))∧Below w.heap.size w w':=by
 obtain ⟨a,cap,rfl⟩:=h.slice
 have hl:=h.len
 unfold maxLen at hl
 have hml:=Lib.hid (markL_len mkSlot cntSlot xs k0)
 rw [hml.out] at hl
 rw [hml.out]
 have hE:∀z:Int,(z != z)=false:=fun z=>by simp
 go_enter Tryz.func123,Tryz.ntmps123
 go_wp2
 go_loopw [1,5] (fun kk i wr=>∃k:Nat,k≤xs.length∧i=.int .i64 k∧kk=.int .i64 (k0+psum cntSlot xs k)∧Below w.heap.size w wr) (fun _ i _=>xs.length - (intOf i).toNat)
 case atStart=>exact ⟨0,Nat.zero_le _,rfl,by rw [psum_zero];simp,Below.refl _ _⟩
 case round =>
  obtain ⟨k,hk,rfl,rfl,hB⟩:=hrel
  by_cases hlt:k < xs.length
  ·have hsn:=Lib.hid (psum_snoc cntSlot xs k hlt)
   have hsl:k0+psum cntSlot xs k+cntSlot xs[k]≤1099511627776:=by have:=hsn.out;have:=cntL_le cntSlot xs (k+1);omega
   obtain ⟨b,off,_,F1,hab,hx, -,ja⟩:=(h.below (by decide) hB).at k (by rw [hml.out];exact hlt)
   rw [markL_get mkSlot cntSlot xs k0 k hlt] at hx
   rw [hml.out] at h
   subst hab
   simp only [cntB,cntS,cntSlot] at hsl
   obtain ⟨rfl,s1,rfl⟩:=hx
   have a0:wr.cell? ⟨b,off+k * 2,none⟩=some (.bool ((k0+psum cntSlot xs k) % 3 == 0)):=by have:=ja 0 (by decide);simp only [show ESlot.sz=2 from rfl,Nat.mul_one,Nat.add_zero,List.getElem?_cons_zero,List.getElem?_cons_succ] at this;exact this
   have a1:wr.cell? ⟨b,off+k * 2+1,none⟩=some (.string (mtext (k0+psum cntSlot xs k+1))):=by have:=ja 1 (by decide);simp only [show ESlot.sz=2 from rfl,Nat.mul_one,Nat.add_zero,List.getElem?_cons_zero,List.getElem?_cons_succ] at this;exact this
   clear ja
   go_wp2_with fail
   go_region_held3 (fun w'=>w'.cell? ⟨b,off+k * 2+1,none⟩=some (.string (mtext (k0+psum cntSlot xs k+1)))) (first|go_keep|(exact kc hb1 a1)|(exact a1))
    (first|(go_at_call 56;refine (markText_c (k0+psum cntSlot xs k+1) wr.drew (by omega) (by omega)).mono ?_;rintro e w1 ⟨rfl,hb1⟩))
   have a0:=kc hb1 (show wr.drew.cell? _=_ from a0)
   have a1:=kc hb1 (show wr.drew.cell? _=_ from a1)
   have hB:=tr (belowDrewN hB 1) hb1 (Nat.le_refl _)
   clear hb1
   go_wp2_with fail
   exact ⟨⟨k+1,by omega,by go_num,congrArg (Value.int .i64) (by rw [hsn.out];simp only [cntB,cntS,cntSlot];omega),hB⟩,by simp [intOf];omega⟩
  ·have hk:k=xs.length:=by omega
   subst hk
   go_wp2
   go_ret
   exact ⟨ret_int (by rw [cntL_eq]),hB⟩
structure ReceiveWindow where
 next:Int
 slots:List Slot
def EReceiveWindow:Elem ReceiveWindow where
 sz:=2
 rep w cs x F:=∃v1,cs=[.int .i64 x.next,v1]∧Sl ESlot w v1 x.slots F
 len h:=by obtain ⟨v1,rfl,h1⟩:=h;rfl
 lt h:=by obtain ⟨v1,rfl,h1⟩:=h;exact h1.lt (by decide)
 frame h hF:=by obtain ⟨v1,rfl,h1⟩:=h;exact ⟨v1,rfl,h1.frame hF⟩
def OReceiveWindow:Elem ReceiveWindow where
 sz:=2
 rep w cs x F:=∃v1,cs=[.int .i64 x.next,v1]∧Ow ESlot 247 w v1 x.slots F
 len h:=by obtain ⟨v1,rfl,h1⟩:=h;rfl
 lt h:=by obtain ⟨v1,rfl,h1⟩:=h;exact h1.lt
 frame h hF:=by obtain ⟨v1,rfl,h1⟩:=h;exact ⟨v1,rfl,h1.frame hF⟩
def wtReceiveWindow (x:ReceiveWindow):Nat:=wtL wtSlot x.slots
structure Request where
 number:Int
 state:Int
 untl:Int
 tries:Int
def ERequest:Elem Request where
 sz:=4
 rep _ cs x F:=cs=[.int .i64 x.number,.int .i64 x.state,.int .i64 x.untl,.int .i64 x.tries]∧F=[]
 len h:=by obtain ⟨rfl,rfl⟩:=h;rfl
 lt h:=by obtain ⟨rfl,rfl⟩:=h;simp
 frame h _:=h
theorem one_ERequest:One ERequest:=fun h u hu=>by
 obtain ⟨rfl,rfl⟩:=h
 simp only [List.mem_cons,List.not_mem_nil,or_false] at hu
 rcases hu with rfl|rfl|rfl|rfl
 ·rfl
 ·rfl
 ·rfl
 ·rfl
theorem scal_ERequest:Scal ERequest:=fun h=>by obtain ⟨rfl,rfl⟩:=h;rfl
def cntRequest (x:Request):Nat:=cntI x.number+cntI x.state+cntI x.untl+cntI x.tries
def mkRequest (k:Int) (x:Request):Request:=⟨mkI (k) x.number,mkI (k+cntI x.number) x.state,mkI (k+cntI x.number+cntI x.state) x.untl,mkI (k+cntI x.number+cntI x.state+cntI x.untl) x.tries⟩
theorem cntRequest_wt (x:Request):cntRequest x≤4 * (1+(fun _=>0) x):=by
 simp only [cntRequest,cntI,cntB,cntS]
 omega
theorem szRequestS_c (v:Value) (xs:List Request) (F:List Nat) (n:Int) (w:World) (h:Sl ERequest w v xs F) (h0:0≤n) (h1:n≤1048576) :
  Calls Tryz.prog 144 #[v,.int .i64 n] w fun e w'=>e=.returned (.int .i64 (szr n (wtL (fun _=>0) xs)))∧Below w.heap.size w w':=by
 obtain ⟨a,cap,rfl⟩:=h.slice
 have hl:=h.len
 unfold maxLen at hl
 rw [wtL_zero]
 go_enter Tryz.func144,Tryz.ntmps144
 go_wp2
 all_goals go_ret
 all_goals exact ⟨ret_int (by unfold szr;split <;> omega),Below.refl _ _⟩
theorem toRequest_c (v:Value) (x:Request) (F:List Nat) (w:World) (h:IsV ERequest w v x F)  :
  Calls Tryz.prog 237 #[v] w (RetV ERequest x w):=by
 obtain ⟨_,rfl,rfl,rfl⟩:=h
 have hB0:∀A B C:Obj,Below w.heap.size w (((w.alloc A).alloc B).alloc C):=fun A B C=>(((Below.refl _ _).alloc (Nat.le_refl _) _).alloc (by simp) _).alloc (by simp <;> omega) _
 go_enter Tryz.func237,Tryz.ntmps237
 go_wp2_with fail
 refine bodyPost_ret (v:=.agg #[.int .i64 x.number,.int .i64 x.state,.int .i64 x.untl,.int .i64 x.tries]) ?_ rfl ?_
 ·simp [results,Tryz.results237,go_sem]
 ·exact ⟨_,[],rfl,⟨_,rfl,rfl,rfl⟩,by simp,by simp,by repeat (first|exact Below.refl _ _|refine Below.setCell ?_ (by simp <;> omega) _|refine Below.alloc ?_ (by simp <;> omega) _)⟩
theorem eqRequest_c (va vb:Value) (x:Request) (Fa Fb:List Nat) (w:World) (ha:IsV ERequest w va x Fa) (hb:IsV ERequest w vb x Fb) :
  Calls Tryz.prog 269 #[va,vb] w fun e w'=>e=.returned (.bool true)∧Below w.heap.size w w':=by
 obtain ⟨_,rfl,rfl,rfl⟩:=ha
 obtain ⟨_,rfl,rfl,rfl⟩:=hb
 have hB0:∀A B:Obj,Below w.heap.size w ((w.alloc A).alloc B):=fun A B=>((Below.refl _ _).alloc (Nat.le_refl _) _).alloc (by simp) _
 have hE:∀z:Int,(z != z)=false:=fun z=>by simp
 go_enter Tryz.func269,Tryz.ntmps269
 go_wp2_with fail
 go_ret
 exact ⟨rfl,hB0 _ _⟩
theorem markRequestS_c (v:Value) (xs:List Request) (F:List Nat) (k0:Int) (w:World) (h:Ow ERequest 235 w v xs F) (hn:F.Nodup) (h0:0≤k0) (h1:k0+cntL cntRequest xs≤1099511627776) :
  Calls Tryz.prog 117 #[v,.int .i64 k0] w (RetMark ERequest 235 v (k0+cntL cntRequest xs) (markL mkRequest cntRequest k0 xs) F w):=by
 obtain ⟨a,cap,rfl⟩:=h.slice
 have hl:=h.len
 unfold maxLen at hl
 go_enter Tryz.func117,Tryz.ntmps117
 go_wp2
 go_loopw [1,5] (fun kk i wr=>∃k:Nat,k≤xs.length∧i=.int .i64 k∧kk=.int .i64 (k0+psum cntRequest xs k)∧Ow ERequest 235 wr (.slice a xs.length cap) ((markL mkRequest cntRequest k0 xs).take k++xs.drop k) F∧Keep F w wr) (fun _ i _=>xs.length - (intOf i).toNat)
 case atStart=>exact ⟨0,Nat.zero_le _,rfl,by rw [psum_zero];simp,by simpa using h,Keep.refl _ _⟩
 case round =>
  obtain ⟨k,hk,rfl,rfl,ho,hK⟩:=hrel
  by_cases hlt:k < xs.length
  ·have hln:k < ((markL mkRequest cntRequest k0 xs).take k++xs.drop k).length:=by simp [markL_len];omega
   have hsn:=Lib.hid (psum_snoc cntRequest xs k hlt)
   have hsl:k0+psum cntRequest xs k+cntRequest xs[k]≤1099511627776:=by have:=hsn.out;have:=cntL_le cntRequest xs (k+1);omega
   obtain ⟨g,rfl⟩:=ho.head k hln
   obtain ⟨A,c,B,Fi,hrow,hA,hcl,hx,hnF,hgF,hgm,hsub,back⟩:=ho.inPlace hn k hln
   rw [mid_get _ _ _ (markL_len ..) hlt] at hx
   simp only [show ERequest.sz=4 from rfl] at hA
   have hst:=Lib.hid (markL_step mkRequest cntRequest xs k0 k hlt)
   simp only [cntI,cntRequest] at hsl
   obtain ⟨rfl,rfl⟩:=hx
   have KK:=Keep.refl (g::[]) wr
   clear ho
   have z0:=hrow.cellMid (p:=k * 4) (j:=0) (by omega) (by simp)
   have z1:=hrow.cellMid (p:=k * 4+1) (j:=1) (by omega) (by simp)
   have z2:=hrow.cellMid (p:=k * 4+2) (j:=2) (by omega) (by simp)
   have z3:=hrow.cellMid (p:=k * 4+3) (j:=3) (by omega) (by simp)
   simp only [List.getElem?_cons_zero,List.getElem?_cons_succ] at z0 z1 z2 z3
   have hfz:=hrow.frozens
   have HBk:=Lib.hid back;clear back
   go_wp2_with fail
   have HB:=HBk.out _ [.int .i64 (k0+psum cntRequest xs k),.int .i64 (k0+psum cntRequest xs k+1),.int .i64 (k0+psum cntRequest xs k+1+1),.int .i64 (k0+psum cntRequest xs k+1+1+1)] (mkRequest (k0+psum cntRequest xs k) xs[k]) (by exact (Row.setMid (Row.setMid (Row.setMid (Row.setMid hrow (p:=k * 4) (j:=0) (by omega) (by simp) (.int .i64 (k0+psum cntRequest xs k))) (p:=k * 4+1) (j:=1) (by omega) (by simp) (.int .i64 (k0+psum cntRequest xs k+1))) (p:=k * 4+2) (j:=2) (by omega) (by simp) (.int .i64 (k0+psum cntRequest xs k+1+1))) (p:=k * 4+3) (j:=3) (by omega) (by simp) (.int .i64 (k0+psum cntRequest xs k+1+1+1)))) ⟨rfl,rfl⟩ (by (repeat (refine Keep.setCell ?_ (by simp) _));exact KK)
   rw [hst.out] at HB
   exact ⟨⟨k+1,by omega,by go_num,congrArg (Value.int .i64) (by rw [hsn.out];simp only [cntI,cntRequest];omega),HB,by (repeat (refine Keep.setCell ?_ hgm _));exact hK.trans (KK.mono (fun b hb _=>by rcases List.mem_cons.1 hb with rfl|hb;exact hgm;exact hsub b hb))⟩,by simp [intOf];omega⟩
  ·have hk:k=xs.length:=by omega
   subst hk
   have HO:=Lib.hid ho
   clear ho
   go_wp2
   go_ret
   exact ⟨ret_int (by rw [cntL_eq]),by simpa [markL_len,List.take_of_length_le] using HO.out,hK⟩
theorem heldRequestS_c (v:Value) (xs:List Request) (F:List Nat) (k0:Int) (w:World) (h:Sl ERequest w v (markL mkRequest cntRequest k0 xs) F) (h0:0≤k0) (h1:k0+cntL cntRequest xs≤1099511627776) :
  Calls Tryz.prog 124 #[v,.int .i64 k0] w fun e w'=>e=.returned (.int .i64 (k0+cntL cntRequest xs))∧Below w.heap.size w w':=by
 obtain ⟨a,cap,rfl⟩:=h.slice
 have hl:=h.len
 unfold maxLen at hl
 have hml:=Lib.hid (markL_len mkRequest cntRequest xs k0)
 rw [hml.out] at hl
 rw [hml.out]
 have hE:∀z:Int,(z != z)=false:=fun z=>by simp
 go_enter Tryz.func124,Tryz.ntmps124
 go_wp2
 go_loopw [1,5] (fun kk i wr=>∃k:Nat,k≤xs.length∧i=.int .i64 k∧kk=.int .i64 (k0+psum cntRequest xs k)∧Below w.heap.size w wr) (fun _ i _=>xs.length - (intOf i).toNat)
 case atStart=>exact ⟨0,Nat.zero_le _,rfl,by rw [psum_zero];simp,Below.refl _ _⟩
 case round =>
  obtain ⟨k,hk,rfl,rfl,hB⟩:=hrel
  by_cases hlt:k < xs.length
  ·have hsn:=Lib.hid (psum_snoc cntRequest xs k hlt)
   have hsl:k0+psum cntRequest xs k+cntRequest xs[k]≤1099511627776:=by have:=hsn.out;have:=cntL_le cntRequest xs (k+1);omega
   obtain ⟨b,off,_,F1,hab,hx, -,ja⟩:=(h.below (by decide) hB).at k (by rw [hml.out];exact hlt)
   rw [markL_get mkRequest cntRequest xs k0 k hlt] at hx
   rw [hml.out] at h
   subst hab
   simp only [cntI,cntRequest] at hsl
   obtain ⟨rfl,rfl⟩:=hx
   have a0:wr.cell? ⟨b,off+k * 4,none⟩=some (.int .i64 (k0+psum cntRequest xs k)):=by have:=ja 0 (by decide);simp only [show ERequest.sz=4 from rfl,Nat.mul_one,Nat.add_zero,List.getElem?_cons_zero,List.getElem?_cons_succ] at this;exact this
   have a1:wr.cell? ⟨b,off+k * 4+1,none⟩=some (.int .i64 (k0+psum cntRequest xs k+1)):=by have:=ja 1 (by decide);simp only [show ERequest.sz=4 from rfl,Nat.mul_one,Nat.add_zero,List.getElem?_cons_zero,List.getElem?_cons_succ] at this;exact this
   have a2:wr.cell? ⟨b,off+k * 4+2,none⟩=some (.int .i64 (k0+psum cntRequest xs k+1+1)):=by have:=ja 2 (by decide);simp only [show ERequest.sz=4 from rfl,Nat.mul_one,Nat.add_zero,List.getElem?_cons_zero,List.getElem?_cons_succ] at this;exact this
   have a3:wr.cell? ⟨b,off+k * 4+3,none⟩=some (.int .i64 (k0+psum cntRequest xs k+1+1+1)):=by have:=ja 3 (by decide);simp only [show ERequest.sz=4 from rfl,Nat.mul_one,Nat.add_zero,List.getElem?_cons_zero,List.getElem?_cons_succ] at this;exact this
   clear ja
   go_wp2_with fail
   exact ⟨⟨k+1,by omega,by go_num,congrArg (Value.int .i64) (by rw [hsn.out];simp only [cntI,cntRequest];omega),hB⟩,by simp [intOf];omega⟩
  ·have hk:k=xs.length:=by omega
   subst hk
   go_wp2
   go_ret
   exact ⟨ret_int (by rw [cntL_eq]),hB⟩
structure Receiver where
 started:Bool
 clock:Int
 window:ReceiveWindow
 requests:List Request
def EReceiver:Elem Receiver where
 sz:=5
 rep w cs x F:=∃v1 v2 F1 F2,cs=[.bool x.started,.int .i64 x.clock,.int .i64 x.window.next,v1,v2]∧Sl ESlot w v1 x.window.slots F1∧Sl ERequest w v2 x.requests F2∧F=F1++F2
 len h:=by obtain ⟨v1,v2,F1,F2,rfl,h1,h2,rfl⟩:=h;rfl
 lt h:=by
  obtain ⟨v1,v2,F1,F2,rfl,h1,h2,rfl⟩:=h
  intro b hb
  simp only [List.mem_append] at hb
  rcases hb with hb|hb
  ·exact h1.lt (by decide) b hb
  ·exact h2.lt (by decide) b hb
 frame h hF:=by obtain ⟨v1,v2,F1,F2,rfl,h1,h2,rfl⟩:=h;exact ⟨v1,v2,F1,F2,rfl,h1.frame fun b hb=>hF b (by simp [hb]),h2.frame fun b hb=>hF b (by simp [hb]),rfl⟩
def OReceiver:Elem Receiver where
 sz:=5
 rep w cs x F:=∃v1 v2 F1 F2,cs=[.bool x.started,.int .i64 x.clock,.int .i64 x.window.next,v1,v2]∧Ow ESlot 247 w v1 x.window.slots F1∧Ow ERequest 235 w v2 x.requests F2∧F=F1++F2
 len h:=by obtain ⟨v1,v2,F1,F2,rfl,h1,h2,rfl⟩:=h;rfl
 lt h:=by
  obtain ⟨v1,v2,F1,F2,rfl,h1,h2,rfl⟩:=h
  intro b hb
  simp only [List.mem_append] at hb
  rcases hb with hb|hb
  ·exact h1.lt b hb
  ·exact h2.lt b hb
 frame h hF:=by obtain ⟨v1,v2,F1,F2,rfl,h1,h2,rfl⟩:=h;exact ⟨v1,v2,F1,F2,rfl,h1.frame fun b hb=>hF b (by simp [hb]),h2.frame fun b hb=>hF b (by simp [hb]),rfl⟩
theorem one_OReceiver:One OReceiver:=fun h u hu=>by
 obtain ⟨v1,v2,F1,F2,rfl,h1,h2,rfl⟩:=h
 simp only [List.mem_cons,List.not_mem_nil,or_false] at hu
 rcases hu with rfl|rfl|rfl|rfl|rfl
 ·rfl
 ·rfl
 ·rfl
 ·exact h1.one
 ·exact h2.one
theorem weak_Receiver:Weak OReceiver EReceiver:=⟨rfl,fun h=>by
 obtain ⟨v1,v2,F1,F2,rfl,h1,h2,rfl⟩:=h
 obtain ⟨G1,g1,k1⟩:=h1.sl (Weak.refl _)
 obtain ⟨G2,g2,k2⟩:=h2.sl (Weak.refl _)
 refine ⟨G1++G2,?_,v1,v2,G1,G2,rfl,k1,k2,rfl⟩
 intro b hb
 simp only [List.mem_append] at hb ⊢
 rcases hb with hb|hb
 ·simp [g1 b hb]
 ·simp [g2 b hb]⟩
def wtReceiver (x:Receiver):Nat:=wtReceiveWindow x.window+wtL (fun _=>0) x.requests
def cntReceiver (x:Receiver):Nat:=cntB x.started+cntI x.clock+cntI x.window.next+(cntL cntSlot) x.window.slots+(cntL cntRequest) x.requests
def mkReceiver (k:Int) (x:Receiver):Receiver:=⟨mkB (k) x.started,mkI (k+cntB x.started) x.clock,⟨mkI (k+cntB x.started+cntI x.clock) x.window.next,(markL mkSlot cntSlot) (k+cntB x.started+cntI x.clock+cntI x.window.next) x.window.slots⟩,(markL mkRequest cntRequest) (k+cntB x.started+cntI x.clock+cntI x.window.next+(cntL cntSlot) x.window.slots) x.requests⟩
theorem cntReceiver_wt (x:Receiver):cntReceiver x≤4 * (1+wtReceiver x):=by
 have h0:=cntL_wt cntSlot wtSlot 2 cntSlot_wt x.window.slots
 have h1:=cntL_wt cntRequest (fun _=>0) 4 cntRequest_wt x.requests
 simp only [cntReceiver,wtReceiver,wtReceiveWindow,cntI,cntB,cntS]
 omega
theorem markReceiverS_c (v:Value) (xs:List Receiver) (F:List Nat) (k0:Int) (w:World) (h:Ow OReceiver 149 w v xs F) (hn:F.Nodup) (h0:0≤k0) (h1:k0+cntL cntReceiver xs≤1099511627776) :
  Calls Tryz.prog 54 #[v,.int .i64 k0] w (RetMark OReceiver 149 v (k0+cntL cntReceiver xs) (markL mkReceiver cntReceiver k0 xs) F w):=by
 obtain ⟨a,cap,rfl⟩:=h.slice
 have hl:=h.len
 unfold maxLen at hl
 go_enter Tryz.func54,Tryz.ntmps54
 go_wp2
 go_loopw [1,5] (fun kk i wr=>∃k:Nat,k≤xs.length∧i=.int .i64 k∧kk=.int .i64 (k0+psum cntReceiver xs k)∧Ow OReceiver 149 wr (.slice a xs.length cap) ((markL mkReceiver cntReceiver k0 xs).take k++xs.drop k) F∧Keep F w wr) (fun _ i _=>xs.length - (intOf i).toNat)
 case atStart=>exact ⟨0,Nat.zero_le _,rfl,by rw [psum_zero];simp,by simpa using h,Keep.refl _ _⟩
 case round =>
  obtain ⟨k,hk,rfl,rfl,ho,hK⟩:=hrel
  by_cases hlt:k < xs.length
  ·have hln:k < ((markL mkReceiver cntReceiver k0 xs).take k++xs.drop k).length:=by simp [markL_len];omega
   have hsn:=Lib.hid (psum_snoc cntReceiver xs k hlt)
   have hsl:k0+psum cntReceiver xs k+cntReceiver xs[k]≤1099511627776:=by have:=hsn.out;have:=cntL_le cntReceiver xs (k+1);omega
   obtain ⟨g,rfl⟩:=ho.head k hln
   obtain ⟨A,c,B,Fi,hrow,hA,hcl,hx,hnF,hgF,hgm,hsub,back⟩:=ho.inPlace hn k hln
   rw [mid_get _ _ _ (markL_len ..) hlt] at hx
   simp only [show OReceiver.sz=5 from rfl] at hA
   have hst:=Lib.hid (markL_step mkReceiver cntReceiver xs k0 k hlt)
   simp only [cntB,cntI,cntReceiver] at hsl
   obtain ⟨v1,v2,F1,F2,rfl,h1,h2,rfl⟩:=hx
   obtain ⟨nF1,nF2,dF2⟩:=nodup_apart hnF
   have gF1:g ∉ F1:=fun e=>hgF (by simp [e])
   have gF2:g ∉ F2:=fun e=>hgF (by simp [e])
   have KK:=Keep.refl (g::(F1++F2)) wr
   clear ho
   have z0:=hrow.cellMid (p:=k * 5) (j:=0) (by omega) (by simp)
   have z1:=hrow.cellMid (p:=k * 5+1) (j:=1) (by omega) (by simp)
   have z2:=hrow.cellMid (p:=k * 5+2) (j:=2) (by omega) (by simp)
   have z3:=hrow.cellMid (p:=k * 5+3) (j:=3) (by omega) (by simp)
   have z4:=hrow.cellMid (p:=k * 5+4) (j:=4) (by omega) (by simp)
   simp only [List.getElem?_cons_zero,List.getElem?_cons_succ] at z0 z1 z2 z3 z4
   have hfz:=hrow.frozens
   have HBk:=Lib.hid back;clear back
   go_wp2_with fail
   refine (markSlotS_c _ xs[k].window.slots _ (k0+psum cntReceiver xs k+1+1+1) _ (by (repeat (refine Ow.setFar ?_ gF1 _));exact h1) nF1 (by omega) (by omega)).mono ?_
   rintro e w1 ⟨rfl,o1,kp1⟩
   have hrow:Row w1 g 149 (A++[.bool ((k0+psum cntReceiver xs k) % 3 == 0),.int .i64 (k0+psum cntReceiver xs k+1),.int .i64 (k0+psum cntReceiver xs k+1+1),v1,v2]++B):=Row.keepK (by exact (Row.setMid (Row.setMid (Row.setMid hrow (p:=k * 5) (j:=0) (by omega) (by simp) (.bool ((k0+psum cntReceiver xs k) % 3 == 0))) (p:=k * 5+1) (j:=1) (by omega) (by simp) (.int .i64 (k0+psum cntReceiver xs k+1))) (p:=k * 5+2) (j:=2) (by omega) (by simp) (.int .i64 (k0+psum cntReceiver xs k+1+1)))) kp1 gF1
   have h2:=Ow.keep (E:=ERequest) (t:=235) (v:=v2) (F:=F2) (by exact (Ow.setFar (Ow.setFar (Ow.setFar h2 gF2 _) gF2 _) gF2 _)) kp1 (fun b hb hc=>dF2 b (by simp [hc]) hb)
   have KK:=Keep.trans (F:=g::(F1++F2)) (a:=wr) (by (repeat (refine Keep.setCell ?_ (by simp) _));exact KK) (Keep.mono kp1 (fun b hb _=>by simp [hb]))
   clear kp1
   have z0:=hrow.cellMid (p:=k * 5) (j:=0) (by omega) (by simp)
   have z1:=hrow.cellMid (p:=k * 5+1) (j:=1) (by omega) (by simp)
   have z2:=hrow.cellMid (p:=k * 5+2) (j:=2) (by omega) (by simp)
   have z3:=hrow.cellMid (p:=k * 5+3) (j:=3) (by omega) (by simp)
   have z4:=hrow.cellMid (p:=k * 5+4) (j:=4) (by omega) (by simp)
   simp only [List.getElem?_cons_zero,List.getElem?_cons_succ] at z0 z1 z2 z3 z4
   have hfz:=hrow.frozens
   go_wp2_with fail
   refine (markRequestS_c _ xs[k].requests _ (k0+psum cntReceiver xs k+1+1+1+cntL cntSlot xs[k].window.slots) _ (by (repeat (refine Ow.setFar ?_ gF2 _));exact h2) nF2 (by omega) (by omega)).mono ?_
   rintro e w2 ⟨rfl,o2,kp2⟩
   have hrow:Row w2 g 149 (A++[.bool ((k0+psum cntReceiver xs k) % 3 == 0),.int .i64 (k0+psum cntReceiver xs k+1),.int .i64 (k0+psum cntReceiver xs k+1+1),v1,v2]++B):=Row.keepK (by exact hrow) kp2 gF2
   have o1:=Ow.keep (E:=ESlot) (t:=247) (v:=v1) (F:=F1) (by exact o1) kp2 (fun b hb=>dF2 b (by simp [hb]))
   have KK:=Keep.trans (F:=g::(F1++F2)) (a:=wr) (by (repeat (refine Keep.setCell ?_ (by simp) _));exact KK) (Keep.mono kp2 (fun b hb _=>by simp [hb]))
   clear kp2
   have z0:=hrow.cellMid (p:=k * 5) (j:=0) (by omega) (by simp)
   have z1:=hrow.cellMid (p:=k * 5+1) (j:=1) (by omega) (by simp)
   have z2:=hrow.cellMid (p:=k * 5+2) (j:=2) (by omega) (by simp)
   have z3:=hrow.cellMid (p:=k * 5+3) (j:=3) (by omega) (by simp)
   have z4:=hrow.cellMid (p:=k * 5+4) (j:=4) (by omega) (by simp)
   simp only [List.getElem?_cons_zero,List.getElem?_cons_succ] at z0 z1 z2 z3 z4
   have hfz:=hrow.frozens
   go_wp2_with fail
   have HB:=HBk.out _ [.bool ((k0+psum cntReceiver xs k) % 3 == 0),.int .i64 (k0+psum cntReceiver xs k+1),.int .i64 (k0+psum cntReceiver xs k+1+1),v1,v2] (mkReceiver (k0+psum cntReceiver xs k) xs[k]) (by exact hrow) ⟨_,_,_,_,rfl,(by (repeat (refine Ow.setFar ?_ gF1 _));exact o1),(by (repeat (refine Ow.setFar ?_ gF2 _));exact o2),rfl⟩ (by (repeat (refine Keep.setCell ?_ (by simp) _));exact KK)
   rw [hst.out] at HB
   exact ⟨⟨k+1,by omega,by go_num,congrArg (Value.int .i64) (by rw [hsn.out];simp only [cntB,cntI,cntReceiver];omega),HB,by (repeat (refine Keep.setCell ?_ hgm _));exact hK.trans (KK.mono (fun b hb _=>by rcases List.mem_cons.1 hb with rfl|hb;exact hgm;exact hsub b hb))⟩,by simp [intOf];omega⟩
  ·have hk:k=xs.length:=by omega
   subst hk
   have HO:=Lib.hid ho
   clear ho
   go_wp2
   go_ret
   exact ⟨ret_int (by rw [cntL_eq]),by simpa [markL_len,List.take_of_length_le] using HO.out,hK⟩
theorem heldReceiverS_c (v:Value) (xs:List Receiver) (F:List Nat) (k0:Int) (w:World) (h:Sl EReceiver w v (markL mkReceiver cntReceiver k0 xs) F) (h0:0≤k0) (h1:k0+cntL cntReceiver xs≤1099511627776) :
  Calls Tryz.prog 60 #[v,.int .i64 k0] w fun e w'=>e=.returned (.int .i64 (k0+cntL cntReceiver xs))∧Below w.heap.size w w':=by
 obtain ⟨a,cap,rfl⟩:=h.slice
 have hl:=h.len
 unfold maxLen at hl
 have hml:=Lib.hid (markL_len mkReceiver cntReceiver xs k0)
 rw [hml.out] at hl
 rw [hml.out]
 have hE:∀z:Int,(z != z)=false:=fun z=>by simp
 go_enter Tryz.func60,Tryz.ntmps60
 go_wp2
 go_loopw [1,5] (fun kk i wr=>∃k:Nat,k≤xs.length∧i=.int .i64 k∧kk=.int .i64 (k0+psum cntReceiver xs k)∧Below w.heap.size w wr) (fun _ i _=>xs.length - (intOf i).toNat)
 case atStart=>exact ⟨0,Nat.zero_le _,rfl,by rw [psum_zero];simp,Below.refl _ _⟩
 case round =>
  obtain ⟨k,hk,rfl,rfl,hB⟩:=hrel
  by_cases hlt:k < xs.length
  ·have hsn:=Lib.hid (psum_snoc cntReceiver xs k hlt)
   have hsl:k0+psum cntReceiver xs k+cntReceiver xs[k]≤1099511627776:=by have:=hsn.out;have:=cntL_le cntReceiver xs (k+1);omega
   obtain ⟨b,off,_,F1,hab,hx, -,ja⟩:=(h.below (by decide) hB).at k (by rw [hml.out];exact hlt)
   rw [markL_get mkReceiver cntReceiver xs k0 k hlt] at hx
   rw [hml.out] at h
   subst hab
   simp only [cntB,cntI,cntReceiver] at hsl
   obtain ⟨v1,v2,G1,G2,rfl,k1,k2,rfl⟩:=hx
   have a0:wr.cell? ⟨b,off+k * 5,none⟩=some (.bool ((k0+psum cntReceiver xs k) % 3 == 0)):=by have:=ja 0 (by decide);simp only [show EReceiver.sz=5 from rfl,Nat.mul_one,Nat.add_zero,List.getElem?_cons_zero,List.getElem?_cons_succ] at this;exact this
   have a1:wr.cell? ⟨b,off+k * 5+1,none⟩=some (.int .i64 (k0+psum cntReceiver xs k+1)):=by have:=ja 1 (by decide);simp only [show EReceiver.sz=5 from rfl,Nat.mul_one,Nat.add_zero,List.getElem?_cons_zero,List.getElem?_cons_succ] at this;exact this
   have a2:wr.cell? ⟨b,off+k * 5+2,none⟩=some (.int .i64 (k0+psum cntReceiver xs k+1+1)):=by have:=ja 2 (by decide);simp only [show EReceiver.sz=5 from rfl,Nat.mul_one,Nat.add_zero,List.getElem?_cons_zero,List.getElem?_cons_succ] at this;exact this
   have a3:wr.cell? ⟨b,off+k * 5+3,none⟩=some (v1):=by have:=ja 3 (by decide);simp only [show EReceiver.sz=5 from rfl,Nat.mul_one,Nat.add_zero,List.getElem?_cons_zero,List.getElem?_cons_succ] at this;exact this
   have a4:wr.cell? ⟨b,off+k * 5+4,none⟩=some (v2):=by have:=ja 4 (by decide);simp only [show EReceiver.sz=5 from rfl,Nat.mul_one,Nat.add_zero,List.getElem?_cons_zero,List.getElem?_cons_succ] at this;exact this
   clear ja
   go_wp2_with fail
   refine (heldSlotS_c _ xs[k].window.slots _ (k0+psum cntReceiver xs k+1+1+1) _ (k1.below (by decide) (Below.refl _ _)) (by omega) (by omega)).mono ?_
   rintro e w1 ⟨rfl,hb1⟩
   have a0:=kc hb1 a0
   have a1:=kc hb1 a1
   have a2:=kc hb1 a2
   have a3:=kc hb1 a3
   have a4:=kc hb1 a4
   have hB:=tr hB hb1 (Nat.le_refl _)
   have k1:=k1.below (by decide) hb1
   have k2:=k2.below (by decide) hb1
   clear hb1
   go_wp2_with fail
   refine (heldRequestS_c _ xs[k].requests _ (k0+psum cntReceiver xs k+1+1+1+cntL cntSlot xs[k].window.slots) _ (k2.below (by decide) (Below.refl _ _)) (by omega) (by omega)).mono ?_
   rintro e w2 ⟨rfl,hb2⟩
   have a0:=kc hb2 a0
   have a1:=kc hb2 a1
   have a2:=kc hb2 a2
   have a3:=kc hb2 a3
   have a4:=kc hb2 a4
   have hB:=tr hB hb2 (Nat.le_refl _)
   have k1:=k1.below (by decide) hb2
   have k2:=k2.below (by decide) hb2
   clear hb2
   go_wp2_with fail
   exact ⟨⟨k+1,by omega,by go_num,congrArg (Value.int .i64) (by rw [hsn.out];simp only [cntB,cntI,cntReceiver];omega),hB⟩,by simp [intOf];omega⟩
  ·have hk:k=xs.length:=by omega
   subst hk
   go_wp2
   go_ret
   exact ⟨ret_int (by rw [cntL_eq]),hB⟩
structure Packet where
 kind:Int
 number:Int
 trail:Int
 lead:Int
 data:ByteArray
def EPacket:Elem Packet where
 sz:=5
 rep _ cs x F:=cs=[.int .i64 x.kind,.int .i64 x.number,.int .i64 x.trail,.int .i64 x.lead,.string x.data]∧x.data.size≤maxLen∧F=[]
 len h:=by obtain ⟨rfl,s1,rfl⟩:=h;rfl
 lt h:=by obtain ⟨rfl,s1,rfl⟩:=h;simp
 frame h _:=h
theorem one_EPacket:One EPacket:=fun h u hu=>by
 obtain ⟨rfl,s1,rfl⟩:=h
 simp only [List.mem_cons,List.not_mem_nil,or_false] at hu
 rcases hu with rfl|rfl|rfl|rfl|rfl
 ·rfl
 ·rfl
 ·rfl
 ·rfl
 ·rfl
theorem scal_EPacket:Scal EPacket:=fun h=>by obtain ⟨rfl,s1,rfl⟩:=h;rfl
def wtPacket (x:Packet):Nat:=x.data.size
def cntPacket (x:Packet):Nat:=cntI x.kind+cntI x.number+cntI x.trail+cntI x.lead+cntS x.data
def mkPacket (k:Int) (x:Packet):Packet:=⟨mkI (k) x.kind,mkI (k+cntI x.kind) x.number,mkI (k+cntI x.kind+cntI x.number) x.trail,mkI (k+cntI x.kind+cntI x.number+cntI x.trail) x.lead,mkS (k+cntI x.kind+cntI x.number+cntI x.trail+cntI x.lead) x.data⟩
theorem cntPacket_wt (x:Packet):cntPacket x≤5 * (1+wtPacket x):=by
 simp only [cntPacket,wtPacket,cntI,cntB,cntS]
 omega
theorem szPacket_c (v:Value) (x:Packet) (F:List Nat) (n:Int) (w:World) (h:IsV EPacket w v x F) (h0:0≤n) (h1:n≤1048576) :
  Calls Tryz.prog 145 #[v,.int .i64 n] w fun e w'=>e=.returned (.int .i64 (szr n (wtPacket x)))∧Below w.heap.size w w':=by
 obtain ⟨_,rfl,rfl,s1,rfl⟩:=h
 have hB0:∀A:Obj,Below w.heap.size w (w.alloc A):=fun A=>(Below.refl _ _).alloc (Nat.le_refl _) _
 unfold maxLen at s1
 unfold wtPacket
 go_enter Tryz.func145,Tryz.ntmps145
 go_wp2
 all_goals go_ret
 all_goals exact ⟨ret_int (by unfold szr;split <;> omega),hB0 _⟩
theorem toPacket_c (v:Value) (x:Packet) (F:List Nat) (w:World) (h:IsV EPacket w v x F) (hl:wtPacket x≤1048576) :
  Calls Tryz.prog 171 #[v] w (RetV EPacket x w):=by
 obtain ⟨_,rfl,rfl,s1,rfl⟩:=h
 have hB0:∀A B C:Obj,Below w.heap.size w (((w.alloc A).alloc B).alloc C):=fun A B C=>(((Below.refl _ _).alloc (Nat.le_refl _) _).alloc (by simp) _).alloc (by simp <;> omega) _
 go_enter Tryz.func171,Tryz.ntmps171
 go_wp2_with fail
 refine bodyPost_ret (v:=.agg #[.int .i64 x.kind,.int .i64 x.number,.int .i64 x.trail,.int .i64 x.lead,.string x.data]) ?_ rfl ?_
 ·simp [results,Tryz.results171,go_sem]
 ·exact ⟨_,[],rfl,⟨_,rfl,rfl,s1,rfl⟩,by simp,by simp,by repeat (first|exact Below.refl _ _|refine Below.setCell ?_ (by simp <;> omega) _|refine Below.alloc ?_ (by simp <;> omega) _)⟩
theorem eqPacket_c (va vb:Value) (x:Packet) (Fa Fb:List Nat) (w:World) (ha:IsV EPacket w va x Fa) (hb:IsV EPacket w vb x Fb) :
  Calls Tryz.prog 200 #[va,vb] w fun e w'=>e=.returned (.bool true)∧Below w.heap.size w w':=by
 obtain ⟨_,rfl,rfl,s1,rfl⟩:=ha
 obtain ⟨_,rfl,rfl,t1,rfl⟩:=hb
 have hB0:∀A B:Obj,Below w.heap.size w ((w.alloc A).alloc B):=fun A B=>((Below.refl _ _).alloc (Nat.le_refl _) _).alloc (by simp) _
 have hE:∀z:Int,(z != z)=false:=fun z=>by simp
 go_enter Tryz.func200,Tryz.ntmps200
 go_wp2_with fail
 go_ret
 exact ⟨rfl,hB0 _ _⟩
theorem markPacketS_c (v:Value) (xs:List Packet) (F:List Nat) (k0:Int) (w:World) (h:Ow EPacket 127 w v xs F) (hn:F.Nodup) (h0:0≤k0) (h1:k0+cntL cntPacket xs≤1099511627776) :
  Calls Tryz.prog 118 #[v,.int .i64 k0] w (RetMark EPacket 127 v (k0+cntL cntPacket xs) (markL mkPacket cntPacket k0 xs) F w):=by
 obtain ⟨a,cap,rfl⟩:=h.slice
 have hl:=h.len
 unfold maxLen at hl
 go_enter Tryz.func118,Tryz.ntmps118
 go_wp2
 go_loopw [1,5] (fun kk i wr=>∃k:Nat,k≤xs.length∧i=.int .i64 k∧kk=.int .i64 (k0+psum cntPacket xs k)∧Ow EPacket 127 wr (.slice a xs.length cap) ((markL mkPacket cntPacket k0 xs).take k++xs.drop k) F∧Keep F w wr) (fun _ i _=>xs.length - (intOf i).toNat)
 case atStart=>exact ⟨0,Nat.zero_le _,rfl,by rw [psum_zero];simp,by simpa using h,Keep.refl _ _⟩
 case round =>
  obtain ⟨k,hk,rfl,rfl,ho,hK⟩:=hrel
  by_cases hlt:k < xs.length
  ·have hln:k < ((markL mkPacket cntPacket k0 xs).take k++xs.drop k).length:=by simp [markL_len];omega
   have hsn:=Lib.hid (psum_snoc cntPacket xs k hlt)
   have hsl:k0+psum cntPacket xs k+cntPacket xs[k]≤1099511627776:=by have:=hsn.out;have:=cntL_le cntPacket xs (k+1);omega
   obtain ⟨g,rfl⟩:=ho.head k hln
   obtain ⟨A,c,B,Fi,hrow,hA,hcl,hx,hnF,hgF,hgm,hsub,back⟩:=ho.inPlace hn k hln
   rw [mid_get _ _ _ (markL_len ..) hlt] at hx
   simp only [show EPacket.sz=5 from rfl] at hA
   have hst:=Lib.hid (markL_step mkPacket cntPacket xs k0 k hlt)
   simp only [cntI,cntPacket,cntS] at hsl
   obtain ⟨rfl,s1,rfl⟩:=hx
   have KK:=Keep.refl (g::[]) wr
   clear ho
   have z0:=hrow.cellMid (p:=k * 5) (j:=0) (by omega) (by simp)
   have z1:=hrow.cellMid (p:=k * 5+1) (j:=1) (by omega) (by simp)
   have z2:=hrow.cellMid (p:=k * 5+2) (j:=2) (by omega) (by simp)
   have z3:=hrow.cellMid (p:=k * 5+3) (j:=3) (by omega) (by simp)
   have z4:=hrow.cellMid (p:=k * 5+4) (j:=4) (by omega) (by simp)
   simp only [List.getElem?_cons_zero,List.getElem?_cons_succ] at z0 z1 z2 z3 z4
   have hfz:=hrow.frozens
   have HBk:=Lib.hid back;clear back
   go_wp2_with fail
   refine (markText_c (k0+psum cntPacket xs k+1+1+1+1) _ (by omega) (by omega)).mono ?_
   rintro e w1 ⟨rfl,hb1⟩
   have hrow:Row w1 g 127 (A++[.int .i64 (k0+psum cntPacket xs k),.int .i64 (k0+psum cntPacket xs k+1),.int .i64 (k0+psum cntPacket xs k+1+1),.int .i64 (k0+psum cntPacket xs k+1+1+1),.string xs[k].data]++B):=Row.keepK (by exact (Row.setMid (Row.setMid (Row.setMid (Row.setMid hrow (p:=k * 5) (j:=0) (by omega) (by simp) (.int .i64 (k0+psum cntPacket xs k))) (p:=k * 5+1) (j:=1) (by omega) (by simp) (.int .i64 (k0+psum cntPacket xs k+1))) (p:=k * 5+2) (j:=2) (by omega) (by simp) (.int .i64 (k0+psum cntPacket xs k+1+1))) (p:=k * 5+3) (j:=3) (by omega) (by simp) (.int .i64 (k0+psum cntPacket xs k+1+1+1)))) (Keep.ofBelow (F:=[]) hb1) (by simp)
   have KK:=Keep.trans (F:=g::[]) (a:=wr) (by (repeat (refine Keep.setCell ?_ (by simp) _));exact KK) (Keep.mono (Keep.ofBelow (F:=[]) hb1) (fun b hb _=>by simp at hb))
   clear hb1
   have z0:=hrow.cellMid (p:=k * 5) (j:=0) (by omega) (by simp)
   have z1:=hrow.cellMid (p:=k * 5+1) (j:=1) (by omega) (by simp)
   have z2:=hrow.cellMid (p:=k * 5+2) (j:=2) (by omega) (by simp)
   have z3:=hrow.cellMid (p:=k * 5+3) (j:=3) (by omega) (by simp)
   have z4:=hrow.cellMid (p:=k * 5+4) (j:=4) (by omega) (by simp)
   simp only [List.getElem?_cons_zero,List.getElem?_cons_succ] at z0 z1 z2 z3 z4
   have hfz:=hrow.frozens
   go_wp2_with fail
   have HB:=HBk.out _ [.int .i64 (k0+psum cntPacket xs k),.int .i64 (k0+psum cntPacket xs k+1),.int .i64 (k0+psum cntPacket xs k+1+1),.int .i64 (k0+psum cntPacket xs k+1+1+1),.string (mtext (k0+psum cntPacket xs k+1+1+1+1))] (mkPacket (k0+psum cntPacket xs k) xs[k]) (by exact (Row.setMid hrow (p:=k * 5+4) (j:=4) (by omega) (by simp) (.string (mtext (k0+psum cntPacket xs k+1+1+1+1))))) ⟨rfl,mtext_len _,rfl⟩ (by (repeat (refine Keep.setCell ?_ (by simp) _));exact KK)
   rw [hst.out] at HB
   exact ⟨⟨k+1,by omega,by go_num,congrArg (Value.int .i64) (by rw [hsn.out];simp only [cntI,cntPacket,cntS];omega),HB,by (repeat (refine Keep.setCell ?_ hgm _));exact hK.trans (KK.mono (fun b hb _=>by rcases List.mem_cons.1 hb with rfl|hb;exact hgm;exact hsub b hb))⟩,by simp [intOf];omega⟩
  ·have hk:k=xs.length:=by omega
   subst hk
   have HO:=Lib.hid ho
   clear ho
   go_wp2
   go_ret
   exact ⟨ret_int (by rw [cntL_eq]),by simpa [markL_len,List.take_of_length_le] using HO.out,hK⟩
theorem heldPacketS_c (v:Value) (xs:List Packet) (F:List Nat) (k0:Int) (w:World) (h:Sl EPacket w v (markL mkPacket cntPacket k0 xs) F) (h0:0≤k0) (h1:k0+cntL cntPacket xs≤1099511627776) :
  Calls Tryz.prog 125 #[v,.int .i64 k0] w fun e w'=>e=.returned (.int .i64 (k0+cntL cntPacket xs))∧Below w.heap.size w w':=by
 obtain ⟨a,cap,rfl⟩:=h.slice
 have hl:=h.len
 unfold maxLen at hl
 have hml:=Lib.hid (markL_len mkPacket cntPacket xs k0)
 rw [hml.out] at hl
 rw [hml.out]
 have hE:∀z:Int,(z != z)=false:=fun z=>by simp
 go_enter Tryz.func125,Tryz.ntmps125
 go_wp2
 go_loopw [1,5] (fun kk i wr=>∃k:Nat,k≤xs.length∧i=.int .i64 k∧kk=.int .i64 (k0+psum cntPacket xs k)∧Below w.heap.size w wr) (fun _ i _=>xs.length - (intOf i).toNat)
 case atStart=>exact ⟨0,Nat.zero_le _,rfl,by rw [psum_zero];simp,Below.refl _ _⟩
 case round =>
  obtain ⟨k,hk,rfl,rfl,hB⟩:=hrel
  by_cases hlt:k < xs.length
  ·have hsn:=Lib.hid (psum_snoc cntPacket xs k hlt)
   have hsl:k0+psum cntPacket xs k+cntPacket xs[k]≤1099511627776:=by have:=hsn.out;have:=cntL_le cntPacket xs (k+1);omega
   obtain ⟨b,off,_,F1,hab,hx, -,ja⟩:=(h.below (by decide) hB).at k (by rw [hml.out];exact hlt)
   rw [markL_get mkPacket cntPacket xs k0 k hlt] at hx
   rw [hml.out] at h
   subst hab
   simp only [cntI,cntPacket,cntS] at hsl
   obtain ⟨rfl,s1,rfl⟩:=hx
   have a0:wr.cell? ⟨b,off+k * 5,none⟩=some (.int .i64 (k0+psum cntPacket xs k)):=by have:=ja 0 (by decide);simp only [show EPacket.sz=5 from rfl,Nat.mul_one,Nat.add_zero,List.getElem?_cons_zero,List.getElem?_cons_succ] at this;exact this
   have a1:wr.cell? ⟨b,off+k * 5+1,none⟩=some (.int .i64 (k0+psum cntPacket xs k+1)):=by have:=ja 1 (by decide);simp only [show EPacket.sz=5 from rfl,Nat.mul_one,Nat.add_zero,List.getElem?_cons_zero,List.getElem?_cons_succ] at this;exact this
   have a2:wr.cell? ⟨b,off+k * 5+2,none⟩=some (.int .i64 (k0+psum cntPacket xs k+1+1)):=by have:=ja 2 (by decide);simp only [show EPacket.sz=5 from rfl,Nat.mul_one,Nat.add_zero,List.getElem?_cons_zero,List.getElem?_cons_succ] at this;exact this
   have a3:wr.cell? ⟨b,off+k * 5+3,none⟩=some (.int .i64 (k0+psum cntPacket xs k+1+1+1)):=by have:=ja 3 (by decide);simp only [show EPacket.sz=5 from rfl,Nat.mul_one,Nat.add_zero,List.getElem?_cons_zero,List.getElem?_cons_succ] at this;exact this
   have a4:wr.cell? ⟨b,off+k * 5+4,none⟩=some (.string (mtext (k0+psum cntPacket xs k+1+1+1+1))):=by have:=ja 4 (by decide);simp only [show EPacket.sz=5 from rfl,Nat.mul_one,Nat.add_zero,List.getElem?_cons_zero,List.getElem?_cons_succ] at this;exact this
   clear ja
   go_wp2_with fail
   go_region_held3 (fun w'=>w'.cell? ⟨b,off+k * 5+4,none⟩=some (.string (mtext (k0+psum cntPacket xs k+1+1+1+1)))) (first|go_keep|(exact kc hb1 a4)|(exact a4))
    (first|(go_at_call 56;refine (markText_c (k0+psum cntPacket xs k+1+1+1+1) wr.drew (by omega) (by omega)).mono ?_;rintro e w1 ⟨rfl,hb1⟩))
   have a0:=kc hb1 (show wr.drew.cell? _=_ from a0)
   have a1:=kc hb1 (show wr.drew.cell? _=_ from a1)
   have a2:=kc hb1 (show wr.drew.cell? _=_ from a2)
   have a3:=kc hb1 (show wr.drew.cell? _=_ from a3)
   have a4:=kc hb1 (show wr.drew.cell? _=_ from a4)
   have hB:=tr (belowDrewN hB 1) hb1 (Nat.le_refl _)
   clear hb1
   go_wp2_with fail
   exact ⟨⟨k+1,by omega,by go_num,congrArg (Value.int .i64) (by rw [hsn.out];simp only [cntI,cntPacket,cntS];omega),hB⟩,by simp [intOf];omega⟩
  ·have hk:k=xs.length:=by omega
   subst hk
   go_wp2
   go_ret
   exact ⟨ret_int (by rw [cntL_eq]),hB⟩
theorem markPacketSS_c (v:Value) (xs:List (List Packet)) (F:List Nat) (k0:Int) (w:World) (h:Ow (OSl EPacket 127) 132 w v xs F) (hn:F.Nodup) (h0:0≤k0) (h1:k0+cntL (cntL cntPacket) xs≤1099511627776) :
  Calls Tryz.prog 55 #[v,.int .i64 k0] w (RetMark (OSl EPacket 127) 132 v (k0+cntL (cntL cntPacket) xs) (markL (markL mkPacket cntPacket) (cntL cntPacket) k0 xs) F w):=by
 obtain ⟨a,cap,rfl⟩:=h.slice
 have hl:=h.len
 unfold maxLen at hl
 go_enter Tryz.func55,Tryz.ntmps55
 go_wp2
 go_loopw [1,5] (fun kk i wr=>∃k:Nat,k≤xs.length∧i=.int .i64 k∧kk=.int .i64 (k0+psum (cntL cntPacket) xs k)∧Ow (OSl EPacket 127) 132 wr (.slice a xs.length cap) ((markL (markL mkPacket cntPacket) (cntL cntPacket) k0 xs).take k++xs.drop k) F∧Keep F w wr) (fun _ i _=>xs.length - (intOf i).toNat)
 case atStart=>exact ⟨0,Nat.zero_le _,rfl,by rw [psum_zero];simp,by simpa using h,Keep.refl _ _⟩
 case round =>
  obtain ⟨k,hk,rfl,rfl,ho,hK⟩:=hrel
  by_cases hlt:k < xs.length
  ·have hln:k < ((markL (markL mkPacket cntPacket) (cntL cntPacket) k0 xs).take k++xs.drop k).length:=by simp [markL_len];omega
   have hsn:=Lib.hid (psum_snoc (cntL cntPacket) xs k hlt)
   have hsl:k0+psum (cntL cntPacket) xs k+(cntL cntPacket) xs[k]≤1099511627776:=by have:=hsn.out;have:=cntL_le (cntL cntPacket) xs (k+1);omega
   obtain ⟨g,rfl⟩:=ho.head k hln
   obtain ⟨A,c,B,Fi,hrow,hA,hcl,hx,hnF,hgF,hgm,hsub,back⟩:=ho.inPlace hn k hln
   rw [mid_get _ _ _ (markL_len ..) hlt] at hx
   simp only [show (OSl EPacket 127).sz=1 from rfl,Nat.mul_one] at hA
   have hst:=Lib.hid (markL_step (markL mkPacket cntPacket) (cntL cntPacket) xs k0 k hlt)
   obtain ⟨v1,rfl,h1⟩:=hx
   have nF1:=hnF
   have gF1:=hgF
   have KK:=Keep.refl (g::Fi) wr
   clear ho
   have z0:=hrow.cellMid (p:=k) (j:=0) (by omega) (by simp)
   simp only [List.getElem?_cons_zero,List.getElem?_cons_succ] at z0
   have hfz:=hrow.frozens
   have HBk:=Lib.hid back;clear back
   go_wp2_with fail
   refine (markPacketS_c _ xs[k] _ (k0+psum (cntL cntPacket) xs k) _ (by (repeat (refine Ow.setFar ?_ gF1 _));exact h1) nF1 (by omega) (by omega)).mono ?_
   rintro e w1 ⟨rfl,o1,kp1⟩
   have hrow:Row w1 g 132 (A++[v1]++B):=Row.keepK (by exact hrow) kp1 gF1
   have KK:=Keep.trans (F:=g::Fi) (a:=wr) (by (repeat (refine Keep.setCell ?_ (by simp) _));exact KK) (Keep.mono kp1 (fun b hb _=>by simp [hb]))
   clear kp1
   have z0:=hrow.cellMid (p:=k) (j:=0) (by omega) (by simp)
   simp only [List.getElem?_cons_zero,List.getElem?_cons_succ] at z0
   have hfz:=hrow.frozens
   go_wp2_with fail
   have HB:=HBk.out _ [v1] ((markL mkPacket cntPacket) (k0+psum (cntL cntPacket) xs k) xs[k]) (by exact hrow) ⟨_,rfl,o1⟩ (by (repeat (refine Keep.setCell ?_ (by simp) _));exact KK)
   rw [hst.out] at HB
   exact ⟨⟨k+1,by omega,by go_num,congrArg (Value.int .i64) (by rw [hsn.out];omega),HB,by (repeat (refine Keep.setCell ?_ hgm _));exact hK.trans (KK.mono (fun b hb _=>by rcases List.mem_cons.1 hb with rfl|hb;exact hgm;exact hsub b hb))⟩,by simp [intOf];omega⟩
  ·have hk:k=xs.length:=by omega
   subst hk
   have HO:=Lib.hid ho
   clear ho
   go_wp2
   go_ret
   exact ⟨ret_int (by rw [cntL_eq]),by simpa [markL_len,List.take_of_length_le] using HO.out,hK⟩
theorem heldPacketSS_c (v:Value) (xs:List (List Packet)) (F:List Nat) (k0:Int) (w:World) (h:Sl (ESl EPacket (by decide)) w v (markL (markL mkPacket cntPacket) (cntL cntPacket) k0 xs) F) (h0:0≤k0) (h1:k0+cntL (cntL cntPacket) xs≤1099511627776) :
  Calls Tryz.prog 61 #[v,.int .i64 k0] w fun e w'=>e=.returned (.int .i64 (k0+cntL (cntL cntPacket) xs))∧Below w.heap.size w w':=by
 obtain ⟨a,cap,rfl⟩:=h.slice
 have hl:=h.len
 unfold maxLen at hl
 have hml:=Lib.hid (markL_len (markL mkPacket cntPacket) (cntL cntPacket) xs k0)
 rw [hml.out] at hl
 rw [hml.out]
 have hE:∀z:Int,(z != z)=false:=fun z=>by simp
 go_enter Tryz.func61,Tryz.ntmps61
 go_wp2
 go_loopw [1,5] (fun kk i wr=>∃k:Nat,k≤xs.length∧i=.int .i64 k∧kk=.int .i64 (k0+psum (cntL cntPacket) xs k)∧Below w.heap.size w wr) (fun _ i _=>xs.length - (intOf i).toNat)
 case atStart=>exact ⟨0,Nat.zero_le _,rfl,by rw [psum_zero];simp,Below.refl _ _⟩
 case round =>
  obtain ⟨k,hk,rfl,rfl,hB⟩:=hrel
  by_cases hlt:k < xs.length
  ·have hsn:=Lib.hid (psum_snoc (cntL cntPacket) xs k hlt)
   have hsl:k0+psum (cntL cntPacket) xs k+(cntL cntPacket) xs[k]≤1099511627776:=by have:=hsn.out;have:=cntL_le (cntL cntPacket) xs (k+1);omega
   obtain ⟨b,off,_,F1,hab,hx, -,ja⟩:=(h.below (by decide) hB).at k (by rw [hml.out];exact hlt)
   rw [markL_get (markL mkPacket cntPacket) (cntL cntPacket) xs k0 k hlt] at hx
   rw [hml.out] at h
   subst hab
   obtain ⟨v1,rfl,k1⟩:=hx
   have a0:wr.cell? ⟨b,off+k,none⟩=some (v1):=by have:=ja 0 (by decide);simp only [show (ESl EPacket (by decide)).sz=1 from rfl,Nat.mul_one,Nat.add_zero,List.getElem?_cons_zero,List.getElem?_cons_succ] at this;exact this
   clear ja
   go_wp2_with fail
   refine (heldPacketS_c _ xs[k] _ (k0+psum (cntL cntPacket) xs k) _ (k1.below (by decide) (Below.refl _ _)) (by omega) (by omega)).mono ?_
   rintro e w1 ⟨rfl,hb1⟩
   have a0:=kc hb1 a0
   have hB:=tr hB hb1 (Nat.le_refl _)
   have k1:=k1.below (by decide) hb1
   clear hb1
   go_wp2_with fail
   exact ⟨⟨k+1,by omega,by go_num,congrArg (Value.int .i64) (by rw [hsn.out];omega),hB⟩,by simp [intOf];omega⟩
  ·have hk:k=xs.length:=by omega
   subst hk
   go_wp2
   go_ret
   exact ⟨ret_int (by rw [cntL_eq]),hB⟩
structure Net where
 tree:Tree
 source:Source
 elements:List Element
 receivers:List Receiver
 down:List (List Packet)
 up:List (List Packet)
def ENet:Elem Net where
 sz:=11
 rep w cs x F:=∃v1 v2 v3 v4 v5 v6 v7 F1 F2 F3 F4 F5 F6 F7,cs=[v1,.int .i64 x.source.window.trail,.int .i64 x.source.window.size,v2,.int .i64 x.source.clock,.int .i64 x.source.quiet,v3,v4,v5,v6,v7]∧Sl EInt w v1 x.tree.parent F1∧Sl EStr w v2 x.source.window.items F2∧Sl EHold w v3 x.source.holds F3∧Sl EElement w v4 x.elements F4∧Sl EReceiver w v5 x.receivers F5∧Sl (ESl EPacket (by decide)) w v6 x.down F6∧Sl (ESl EPacket (by decide)) w v7 x.up F7∧F=F1++F2++F3++F4++F5++F6++F7
 len h:=by obtain ⟨v1,v2,v3,v4,v5,v6,v7,F1,F2,F3,F4,F5,F6,F7,rfl,h1,h2,h3,h4,h5,h6,h7,rfl⟩:=h;rfl
 lt h:=by
  obtain ⟨v1,v2,v3,v4,v5,v6,v7,F1,F2,F3,F4,F5,F6,F7,rfl,h1,h2,h3,h4,h5,h6,h7,rfl⟩:=h
  intro b hb
  simp only [List.mem_append] at hb
  rcases hb with (((((hb|hb)|hb)|hb)|hb)|hb)|hb
  ·exact h1.lt (by decide) b hb
  ·exact h2.lt (by decide) b hb
  ·exact h3.lt (by decide) b hb
  ·exact h4.lt (by decide) b hb
  ·exact h5.lt (by decide) b hb
  ·exact h6.lt (by decide) b hb
  ·exact h7.lt (by decide) b hb
 frame h hF:=by obtain ⟨v1,v2,v3,v4,v5,v6,v7,F1,F2,F3,F4,F5,F6,F7,rfl,h1,h2,h3,h4,h5,h6,h7,rfl⟩:=h;exact ⟨v1,v2,v3,v4,v5,v6,v7,F1,F2,F3,F4,F5,F6,F7,rfl,h1.frame fun b hb=>hF b (by simp [hb]),h2.frame fun b hb=>hF b (by simp [hb]),h3.frame fun b hb=>hF b (by simp [hb]),h4.frame fun b hb=>hF b (by simp [hb]),h5.frame fun b hb=>hF b (by simp [hb]),h6.frame fun b hb=>hF b (by simp [hb]),h7.frame fun b hb=>hF b (by simp [hb]),rfl⟩
theorem one_ENet:One ENet:=fun h u hu=>by
 obtain ⟨v1,v2,v3,v4,v5,v6,v7,F1,F2,F3,F4,F5,F6,F7,rfl,h1,h2,h3,h4,h5,h6,h7,rfl⟩:=h
 simp only [List.mem_cons,List.not_mem_nil,or_false] at hu
 rcases hu with rfl|rfl|rfl|rfl|rfl|rfl|rfl|rfl|rfl|rfl|rfl
 ·exact h1.one
 ·rfl
 ·rfl
 ·exact h2.one
 ·rfl
 ·rfl
 ·exact h3.one
 ·exact h4.one
 ·exact h5.one
 ·exact h6.one
 ·exact h7.one
def ONet:Elem Net where
 sz:=11
 rep w cs x F:=∃v1 v2 v3 v4 v5 v6 v7 F1 F2 F3 F4 F5 F6 F7,cs=[v1,.int .i64 x.source.window.trail,.int .i64 x.source.window.size,v2,.int .i64 x.source.clock,.int .i64 x.source.quiet,v3,v4,v5,v6,v7]∧Ow EInt 3 w v1 x.tree.parent F1∧Ow EStr 9 w v2 x.source.window.items F2∧Ow EHold 194 w v3 x.source.holds F3∧Ow OElement 142 w v4 x.elements F4∧Ow OReceiver 149 w v5 x.receivers F5∧Ow (OSl EPacket 127) 132 w v6 x.down F6∧Ow (OSl EPacket 127) 132 w v7 x.up F7∧F=F1++F2++F3++F4++F5++F6++F7
 len h:=by obtain ⟨v1,v2,v3,v4,v5,v6,v7,F1,F2,F3,F4,F5,F6,F7,rfl,h1,h2,h3,h4,h5,h6,h7,rfl⟩:=h;rfl
 lt h:=by
  obtain ⟨v1,v2,v3,v4,v5,v6,v7,F1,F2,F3,F4,F5,F6,F7,rfl,h1,h2,h3,h4,h5,h6,h7,rfl⟩:=h
  intro b hb
  simp only [List.mem_append] at hb
  rcases hb with (((((hb|hb)|hb)|hb)|hb)|hb)|hb
  ·exact h1.lt b hb
  ·exact h2.lt b hb
  ·exact h3.lt b hb
  ·exact h4.lt b hb
  ·exact h5.lt b hb
  ·exact h6.lt b hb
  ·exact h7.lt b hb
 frame h hF:=by obtain ⟨v1,v2,v3,v4,v5,v6,v7,F1,F2,F3,F4,F5,F6,F7,rfl,h1,h2,h3,h4,h5,h6,h7,rfl⟩:=h;exact ⟨v1,v2,v3,v4,v5,v6,v7,F1,F2,F3,F4,F5,F6,F7,rfl,h1.frame fun b hb=>hF b (by simp [hb]),h2.frame fun b hb=>hF b (by simp [hb]),h3.frame fun b hb=>hF b (by simp [hb]),h4.frame fun b hb=>hF b (by simp [hb]),h5.frame fun b hb=>hF b (by simp [hb]),h6.frame fun b hb=>hF b (by simp [hb]),h7.frame fun b hb=>hF b (by simp [hb]),rfl⟩
theorem one_ONet:One ONet:=fun h u hu=>by
 obtain ⟨v1,v2,v3,v4,v5,v6,v7,F1,F2,F3,F4,F5,F6,F7,rfl,h1,h2,h3,h4,h5,h6,h7,rfl⟩:=h
 simp only [List.mem_cons,List.not_mem_nil,or_false] at hu
 rcases hu with rfl|rfl|rfl|rfl|rfl|rfl|rfl|rfl|rfl|rfl|rfl
 ·exact h1.one
 ·rfl
 ·rfl
 ·exact h2.one
 ·rfl
 ·rfl
 ·exact h3.one
 ·exact h4.one
 ·exact h5.one
 ·exact h6.one
 ·exact h7.one
theorem weak_Net:Weak ONet ENet:=⟨rfl,fun h=>by
 obtain ⟨v1,v2,v3,v4,v5,v6,v7,F1,F2,F3,F4,F5,F6,F7,rfl,h1,h2,h3,h4,h5,h6,h7,rfl⟩:=h
 obtain ⟨G1,g1,k1⟩:=h1.sl (Weak.refl _)
 obtain ⟨G2,g2,k2⟩:=h2.sl (Weak.refl _)
 obtain ⟨G3,g3,k3⟩:=h3.sl (Weak.refl _)
 obtain ⟨G4,g4,k4⟩:=h4.sl weak_Element
 obtain ⟨G5,g5,k5⟩:=h5.sl weak_Receiver
 obtain ⟨G6,g6,k6⟩:=h6.sl (weak_OSl (Weak.refl _) (by decide) _)
 obtain ⟨G7,g7,k7⟩:=h7.sl (weak_OSl (Weak.refl _) (by decide) _)
 refine ⟨G1++G2++G3++G4++G5++G6++G7,?_,v1,v2,v3,v4,v5,v6,v7,G1,G2,G3,G4,G5,G6,G7,rfl,k1,k2,k3,k4,k5,k6,k7,rfl⟩
 intro b hb
 simp only [List.mem_append] at hb ⊢
 rcases hb with (((((hb|hb)|hb)|hb)|hb)|hb)|hb
 ·simp [g1 b hb]
 ·simp [g2 b hb]
 ·simp [g3 b hb]
 ·simp [g4 b hb]
 ·simp [g5 b hb]
 ·simp [g6 b hb]
 ·simp [g7 b hb]⟩
def wtNet (x:Net):Nat:=wtTree x.tree+wtSource x.source+wtL wtElement x.elements+wtL wtReceiver x.receivers+wtL (wtL wtPacket) x.down+wtL (wtL wtPacket) x.up
def cvNet (x:Net):Nat:=cvTree x.tree+cvSource x.source+(cntL cntElement) x.elements+(cntL cntReceiver) x.receivers+(cntL (cntL cntPacket)) x.down+(cntL (cntL cntPacket)) x.up
def mvNet (k:Int) (x:Net):Net:=⟨mvTree (k) x.tree,mvSource (k+cvTree x.tree) x.source,(markL mkElement cntElement) (k+cvTree x.tree+cvSource x.source) x.elements,(markL mkReceiver cntReceiver) (k+cvTree x.tree+cvSource x.source+(cntL cntElement) x.elements) x.receivers,(markL (markL mkPacket cntPacket) (cntL cntPacket)) (k+cvTree x.tree+cvSource x.source+(cntL cntElement) x.elements+(cntL cntReceiver) x.receivers) x.down,(markL (markL mkPacket cntPacket) (cntL cntPacket)) (k+cvTree x.tree+cvSource x.source+(cntL cntElement) x.elements+(cntL cntReceiver) x.receivers+(cntL (cntL cntPacket)) x.down) x.up⟩
theorem cvNet_wt (x:Net) (h:wtNet x≤1048576):cvNet x≤4294967296:=by
 have h0:=cntL_wt cntI (fun _=>0) 1 (fun x=>by simp [cntI]) x.tree.parent
 have h1:=cntL_wt cntS ByteArray.size 1 (fun x=>by simp [cntS]) x.source.window.items
 have h2:=cntL_wt cntHold (fun _=>0) 2 cntHold_wt x.source.holds
 have h3:=cntL_wt cntElement wtElement 2 cntElement_wt x.elements
 have h4:=cntL_wt cntReceiver wtReceiver 4 cntReceiver_wt x.receivers
 have h5:=cntL_wt (cntL cntPacket) (wtL wtPacket) 5 (fun x=>by have:=cntL_wt cntPacket wtPacket 5 cntPacket_wt x;omega) x.down
 have h6:=cntL_wt (cntL cntPacket) (wtL wtPacket) 5 (fun x=>by have:=cntL_wt cntPacket wtPacket 5 cntPacket_wt x;omega) x.up
 simp only [wtNet,wtTree,wtSendWindow,wtSource,cvNet,cvTree,cvSendWindow,cvSource] at h ⊢
 omega
-- markNet: a nested struct with several slices is not written here
theorem heldNet_c (v:Value) (x:Net) (F:List Nat) (k0:Int) (w:World) (h:IsV ENet w v (mvNet k0 x) F) (p0:0≤k0) (p1:k0+cvNet x≤1099511627776) :
  Calls Tryz.prog 17 #[v,.int .i64 k0] w fun e w'=>e=.returned (.int .i64 (k0+cvNet x))∧Below w.heap.size w w':=by
 obtain ⟨_,rfl,v1,v2,v3,v4,v5,v6,v7,F1,F2,F3,F4,F5,F6,F7,rfl,h1,h2,h3,h4,h5,h6,h7,rfl⟩:=h
 unfold cvNet at p1 ⊢
 have hB0:∀A:Obj,Below w.heap.size w (w.alloc A):=fun A=>(Below.refl _ _).alloc (Nat.le_refl _) _
 go_enter Tryz.func17,Tryz.ntmps17
 go_wp2_with fail
 refine (heldTree_c _ x.tree _ (k0) _ ⟨_,rfl,_,rfl,h1.below (by decide) (hB0 _)⟩ (by omega) (by omega)).mono ?_
 rintro e w1 ⟨rfl,hb1⟩
 have r0:=Row.below (g:=w.heap.size) (t:=49) (cs:=[v1,.int .i64 x.source.window.trail,.int .i64 x.source.window.size,v2,.int .i64 x.source.clock,.int .i64 x.source.quiet,v3,v4,v5,v6,v7]) (by simp [row_alloc,mvNet,mvTree,mvSource,mvSendWindow]) hb1
 have hB:=tr (hB0 _) hb1 (Nat.le_refl _)
 clear hb1
 have c0:=r0.cells
 go_wp2_with fail
 refine (heldSource_c _ x.source _ (k0+cvTree x.tree) _ ⟨_,rfl,_,_,_,_,rfl,h2.below (by decide) hB,h3.below (by decide) hB,rfl⟩ (by omega) (by omega)).mono ?_
 rintro e w2 ⟨rfl,hb2⟩
 have r0:=r0.below hb2;have hB:=tr hB hb2 (Nat.le_refl _)
 clear hb2
 have c0:=r0.cells
 go_wp2_with fail
 refine (heldElementS_c _ x.elements _ (k0+cvTree x.tree+cvSource x.source) _ (h4.below (by decide) hB) (by omega) (by omega)).mono ?_
 rintro e w3 ⟨rfl,hb3⟩
 have r0:=r0.below hb3;have hB:=tr hB hb3 (Nat.le_refl _)
 clear hb3
 have c0:=r0.cells
 go_wp2_with fail
 refine (heldReceiverS_c _ x.receivers _ (k0+cvTree x.tree+cvSource x.source+cntL cntElement x.elements) _ (h5.below (by decide) hB) (by omega) (by omega)).mono ?_
 rintro e w4 ⟨rfl,hb4⟩
 have r0:=r0.below hb4;have hB:=tr hB hb4 (Nat.le_refl _)
 clear hb4
 have c0:=r0.cells
 go_wp2_with fail
 refine (heldPacketSS_c _ x.down _ (k0+cvTree x.tree+cvSource x.source+cntL cntElement x.elements+cntL cntReceiver x.receivers) _ (h6.below (by decide) hB) (by omega) (by omega)).mono ?_
 rintro e w5 ⟨rfl,hb5⟩
 have r0:=r0.below hb5;have hB:=tr hB hb5 (Nat.le_refl _)
 clear hb5
 have c0:=r0.cells
 go_wp2_with fail
 refine (heldPacketSS_c _ x.up _ (k0+cvTree x.tree+cvSource x.source+cntL cntElement x.elements+cntL cntReceiver x.receivers+cntL (cntL cntPacket) x.down) _ (h7.below (by decide) hB) (by omega) (by omega)).mono ?_
 rintro e w6 ⟨rfl,hb6⟩
 have r0:=r0.below hb6;have hB:=tr hB hb6 (Nat.le_refl _)
 clear hb6
 have c0:=r0.cells
 go_wp2_with fail
 go_ret
 exact ⟨ret_int (by omega),hB⟩
def parAt (l:List Int) (i:Nat):Bool:=match l[i]? with
 | some p=>if i=0 then decide (p=-1) else btw 0 p ((i:Int) - 1)
 | none=>true
def goodTree (t:Tree):Bool:=btw 2 (t.parent.length:Int) 8 && allUpTo (parAt t.parent) t.parent.length
theorem parAt_zero {l:List Int} (h:0 < l.length):parAt l 0=decide (l[0]=-1):=by unfold parAt;rw [List.getElem?_eq_getElem h];rfl
theorem parAt_pos {l:List Int} {i:Nat} (h:i < l.length) (h0:0 < i):parAt l i=btw 0 l[i] ((i:Int) - 1):=by
 unfold parAt;rw [List.getElem?_eq_getElem h]
 show (if i=0 then _ else _)=_
 rw [if_neg (by omega)]
structure GoodT (l:List Int):Prop where
 n0:2≤l.length
 n1:l.length≤8
 z:∀h:0 < l.length,l[0]=-1
 p:∀i (h:i < l.length),0 < i→0≤l[i]∧l[i] < i
theorem goodT {t:Tree} (h:goodTree t=true):GoodT t.parent:=by
 unfold goodTree at h
 rw [Bool.and_eq_true] at h
 obtain ⟨h1,h2⟩:=h
 unfold btw at h1
 simp only [Bool.and_eq_true,decide_eq_true_eq] at h1
 refine ⟨by omega,by omega,fun h=>?_,fun i h h0=>?_⟩
 ·have:=allUpTo_get h2 0 h
  rw [parAt_zero h] at this
  exact of_decide_eq_true this
 ·have:=allUpTo_get h2 i h
  rw [parAt_pos h h0] at this
  unfold btw at this
  simp only [Bool.and_eq_true,decide_eq_true_eq] at this
  omega
theorem goodT_len {t:Tree} (h:btw 2 (t.parent.length:Int) 8=false):goodTree t=false:=by unfold goodTree;rw [h];rfl
theorem goodT_at {t:Tree} {i:Nat} (hi:i < t.parent.length) (h:parAt t.parent i=false):goodTree t=false:=by unfold goodTree;rw [allUpTo_no hi h,Bool.and_false]
def kidsTo (l:List Int) (node:Int) (k:Nat):List Int:=((List.range k).filter fun i=>decide (l[i]?=some node)).map fun (i:Nat)=>((i:Nat):Int)
def kids (l:List Int) (node:Int):List Int:=kidsTo l node l.length
theorem kidsTo_yes {l:List Int} {node:Int} {k:Nat} (h:k < l.length) (e:l[k]=node):kidsTo l node (k+1)=kidsTo l node k++[(k:Int)]:=by
 unfold kidsTo
 rw [List.range_succ,List.filter_append,List.map_append]
 simp [List.getElem?_eq_getElem h,e]
theorem kidsTo_no {l:List Int} {node:Int} {k:Nat} (h:k < l.length) (e:¬l[k]=node):kidsTo l node (k+1)=kidsTo l node k:=by
 unfold kidsTo
 rw [List.range_succ,List.filter_append,List.map_append]
 simp [List.getElem?_eq_getElem h,e]
theorem kidsTo_len (l:List Int) (node:Int) (k:Nat):(kidsTo l node k).length≤k:=by
 unfold kidsTo
 rw [List.length_map]
 exact Nat.le_trans (List.length_filter_le _ _) (by simp)
theorem kids_mem {l:List Int} {node x:Int} (h:x∈kids l node):∃i,∃hi:i < l.length,x=(i:Int)∧l[i]=node:=by
 unfold kids kidsTo at h
 obtain ⟨i,hi,rfl⟩:=List.mem_map.1 h
 obtain ⟨h1,h2⟩:=List.mem_filter.1 hi
 have h3:=List.mem_range.1 h1
 have h4:=of_decide_eq_true h2
 rw [List.getElem?_eq_getElem h3] at h4
 exact ⟨i,h3,rfl,Option.some.inj h4⟩
def leafT (l:List Int) (node:Int):Bool:=!decide (node∈l)
theorem leaf_kids (l:List Int) (node:Int):leafT l node=decide (kids l node=[]):=by
 unfold leafT
 by_cases h:node∈l
 ·obtain ⟨i,hi,rfl⟩:=List.getElem_of_mem h
  have:(i:Int)∈kids l l[i]:=by
   unfold kids kidsTo
   exact List.mem_map.2 ⟨i,List.mem_filter.2 ⟨List.mem_range.2 hi,by simp [List.getElem?_eq_getElem hi]⟩,rfl⟩
  rw [decide_eq_true h,decide_eq_false fun e=>by rw [e] at this;cases this];rfl
 ·have:kids l node=[]:=List.eq_nil_iff_forall_not_mem.2 fun x hx=>by
   obtain ⟨i,hi, -,e⟩:=kids_mem hx
   exact h (e▸List.getElem_mem hi)
  rw [decide_eq_false h,decide_eq_true this];rfl
def kids1 (l:List Int) (node:Int) (k:Nat):List Int:=((List.range k).filter fun i=>decide (l[i+1]?=some node)).map fun (i:Nat)=>((i+1:Nat):Int)
theorem kidsTo_succ (l:List Int) (node:Int) (k:Nat):kidsTo l node (k+1)=kidsTo l node k++if l[k]?=some node then [(k:Int)] else []:=by
 unfold kidsTo
 rw [List.range_succ,List.filter_append,List.map_append]
 split <;> simp_all
theorem kids1_succ (l:List Int) (node:Int) (k:Nat):kids1 l node (k+1)=kids1 l node k++if l[k+1]?=some node then [((k+1:Nat):Int)] else []:=by
 unfold kids1
 rw [List.range_succ,List.filter_append,List.map_append]
 split <;> simp_all
theorem kids1_eq {l:List Int} {node:Int} (hz:kidsTo l node 1=[]):∀k,kidsTo l node (k+1)=kids1 l node k
 | 0=>by rw [hz];rfl
 | k+1=>by rw [kidsTo_succ,kids1_eq hz k,kids1_succ]
theorem kids1_all {l:List Int} {node:Int} (hz:kidsTo l node 1=[]) {k:Nat} (hk:k+1=l.length):kids1 l node k=kids l node:=by
 rw [←kids1_eq hz];unfold kids;rw [hk]
theorem kids1_yes {l:List Int} {node:Int} {k:Nat} (h:k+1 < l.length) (e:l[k+1]=node):kids1 l node (k+1)=kids1 l node k++[((k+1:Nat):Int)]:=by
 rw [kids1_succ,List.getElem?_eq_getElem h,e,if_pos rfl]
theorem kids1_no {l:List Int} {node:Int} {k:Nat} (h:k+1 < l.length) (e:¬l[k+1]=node):kids1 l node (k+1)=kids1 l node k:=by
 rw [kids1_succ,List.getElem?_eq_getElem h,if_neg (by simpa using e),List.append_nil]
theorem kids1_len (l:List Int) (node:Int) (k:Nat):(kids1 l node k).length≤k:=by
 unfold kids1
 rw [List.length_map]
 exact Nat.le_trans (List.length_filter_le _ _) (by simp)
theorem kids_zero {l:List Int} {node:Int} (hz:∀h:0 < l.length,l[0]=-1) (h:0≤node):kidsTo l node 1=[]:=by
 rw [kidsTo_succ]
 by_cases h0:0 < l.length
 ·have:=hz h0
  rw [List.getElem?_eq_getElem h0,if_neg (by simp;omega)];rfl
 ·rw [List.getElem?_eq_none (by omega)];rfl
def isSer (x:Int):Bool:=btw 0 x 65535
def isClk (x:Int):Bool:=btw 0 x 9999
def isFac (x:Int):Bool:=btw 1 x 7
theorem IsSerial_c (x:Int) (w:World):Calls Tryz.prog 174 #[.int .i64 x] w fun e w'=>e=.returned (.bool (isSer x))∧w=w':=by
 go_enter Tryz.func174,Tryz.ntmps174
 go_wp2_with (go_at_call 64;refine (within_c _ _ _ _).mono ?_;rintro e w' ⟨rfl,rfl⟩)
 go_ret
 exact ⟨rfl,rfl⟩
theorem l2Good_c (x:Int) (w:World):Calls Tryz.prog 148 #[.int .i64 x] w fun e w'=>e=.returned (.bool (isSer x))∧w=w':=by
 go_enter Tryz.func148,Tryz.ntmps148
 go_wp2_with (go_at_call 63;refine (l1In_c _ _ _ _).mono ?_;rintro e w' ⟨rfl,rfl⟩)
 go_ret
 exact ⟨rfl,rfl⟩
theorem isClock_c (x:Int) (w:World):Calls Tryz.prog 173 #[.int .i64 x] w fun e w'=>e=.returned (.bool (isClk x))∧w=w':=by
 go_enter Tryz.func173,Tryz.ntmps173
 go_wp2_with (go_at_call 64;refine (within_c _ _ _ _).mono ?_;rintro e w' ⟨rfl,rfl⟩)
 go_ret
 exact ⟨rfl,rfl⟩
theorem l11Clock_c (x:Int) (w:World):Calls Tryz.prog 147 #[.int .i64 x] w fun e w'=>e=.returned (.bool (isClk x))∧w=w':=by
 go_enter Tryz.func147,Tryz.ntmps147
 go_wp2_with (go_at_call 63;refine (l1In_c _ _ _ _).mono ?_;rintro e w' ⟨rfl,rfl⟩)
 go_ret
 exact ⟨rfl,rfl⟩
theorem isFace_c (x:Int) (w:World):Calls Tryz.prog 96 #[.int .i64 x] w fun e w'=>e=.returned (.bool (isFac x))∧w=w':=by
 go_enter Tryz.func96,Tryz.ntmps96
 go_wp2_with (go_at_call 64;refine (within_c _ _ _ _).mono ?_;rintro e w' ⟨rfl,rfl⟩)
 go_ret
 exact ⟨rfl,rfl⟩
def risAt (lo hi:Int) (zs:List Int) (i:Nat):Bool:=btw lo (zs.getD i 0) hi && (i == 0 || decide (zs.getD (i - 1) 0 < zs.getD i 0))
def rising (lo hi:Int) (zs:List Int):Bool:=allUpTo (risAt lo hi zs) zs.length
theorem risAt_zero {lo hi:Int} {zs:List Int} (h:0 < zs.length):risAt lo hi zs 0=btw lo zs[0] hi:=by simp [risAt,h]
theorem risAt_succ {lo hi:Int} {zs:List Int} {m:Nat} (h:m+1 < zs.length):risAt lo hi zs (m+1)=(btw lo zs[m+1] hi && decide (zs[m]'(by omega) < zs[m+1])):=by
 simp [risAt,h,show m < zs.length by omega]
theorem areFaces_c (v:Value) (zs:List Int) (F:List Nat) (w:World) (h:Sl EInt w v zs F) :
  Calls Tryz.prog 247 #[v] w fun e w'=>e=.returned (.bool (rising 1 7 zs))∧w=w':=by
 obtain ⟨a,cap,rfl⟩:=h.slice
 obtain ⟨-,hl,hc⟩:=h.int
 unfold maxLen at hl
 go_enter Tryz.func247,Tryz.ntmps247
 go_wp2
 go_loop [3,4,7] (fun _ _ i=>∃k:Nat,k≤zs.length∧i=.int .i64 k∧Hid (∀j,j < k→risAt 1 7 zs j=true)) (fun _ _ i=>zs.length - (intOf i).toNat)
 case atStart=>exact ⟨0,Nat.zero_le _,rfl,fun j hj=>by omega⟩
 case round =>
  obtain ⟨k,hk,rfl,hz⟩:=hrel
  by_cases hlt:k < zs.length
  ·obtain ⟨b,off,rfl,c0⟩:=hc k hlt
   rcases k with _|m
   ·have hr:=Lib.hid (risAt_zero (lo:=1) (hi:=7) hlt)
    clear hc
    simp only [Nat.add_zero] at c0
    go_wp2_with (go_at_call 96;refine (isFace_c _ _).mono ?_;rintro e w' ⟨rfl,rfl⟩)
    ·have t:btw 1 zs[0] 7=true:=by assumption
     exact ⟨⟨1,by omega,by go_num,upto_snoc hz.out (by rw [hr.out,t])⟩,by simp [intOf];omega⟩
    ·have t:¬btw 1 zs[0] 7=true:=by assumption
     go_ret
     exact ⟨ret_bool (allUpTo_no hlt (by rw [hr.out];simpa using t)).symm,rfl⟩
   ·obtain ⟨b',off',hb',c1⟩:=hc m (by omega)
    cases hb'
    have hr:=Lib.hid (risAt_succ (lo:=1) (hi:=7) hlt)
    clear hc
    go_wp2_with (go_at_call 96;refine (isFace_c _ _).mono ?_;rintro e w' ⟨rfl,rfl⟩)
    ·have t:zs[m+1]≤zs[m]:=by assumption
     go_ret
     exact ⟨ret_bool (allUpTo_no hlt (by rw [hr.out];simp;omega)).symm,rfl⟩
    ·have t:btw 1 zs[m+1] 7=true:=by assumption
     have t2:zs[m] < zs[m+1]:=by assumption
     exact ⟨⟨m+2,by omega,by go_num,upto_snoc hz.out (by rw [hr.out,t];simp;omega)⟩,by simp [intOf];omega⟩
    ·have t:¬btw 1 zs[m+1] 7=true:=by assumption
     go_ret
     exact ⟨ret_bool (allUpTo_no hlt (by rw [hr.out];simp [t])).symm,rfl⟩
  ·go_wp2
   go_ret
   exact ⟨ret_bool (allUpTo_yes (fun i hi=>hz.out i (by omega))).symm,rfl⟩
theorem l1Rising_c (v:Value) (zs:List Int) (F:List Nat) (lo hi:Int) (w:World) (h:Sl EInt w v zs F) :
  Calls Tryz.prog 280 #[v,.int .i64 lo,.int .i64 hi] w fun e w'=>e=.returned (.bool (rising lo hi zs))∧Below w.heap.size w w':=by
 obtain ⟨a,cap,rfl⟩:=h.slice
 obtain ⟨-,hl, -⟩:=h.int
 unfold maxLen at hl
 go_enter Tryz.func280,Tryz.ntmps280
 go_wp2
 go_loopw [7] (fun i wr=>∃k:Nat,k≤zs.length∧i=.int .i64 k∧Hid (∀j,j < k→risAt lo hi zs j=true)∧Below w.heap.size w wr) (fun i _=>zs.length - (intOf i).toNat)
 case atStart=>exact ⟨0,Nat.zero_le _,rfl,fun j hj=>by omega,Below.refl _ _⟩
 case round =>
  obtain ⟨k,hk,rfl,hz,hB⟩:=hrel
  have hc:=(h.below (by decide) hB).int.2.2
  by_cases hlt:k < zs.length
  ·obtain ⟨b,off,rfl,c0⟩:=hc k hlt
   rcases k with _|m
   ·have hr:=Lib.hid (risAt_zero (lo:=lo) (hi:=hi) hlt)
    clear hc
    simp only [Nat.add_zero] at c0
    cases t:btw lo zs[0] hi
    ·go_wp2_with fail
     go_quiet ((go_at_call 63;exact quiet_eq (l1In_c _ _ _ _)))
     go_wp2_with fail
     go_ret
     exact ⟨ret_bool (allUpTo_no hlt (by rw [hr.out,t])).symm,belowDrewN hB _⟩
    ·go_wp2_with fail
     go_quiet ((go_at_call 63;exact quiet_eq (l1In_c _ _ _ _)))
     go_wp2_with fail
     exact ⟨⟨1,by omega,by go_num,upto_snoc hz.out (by rw [hr.out,t]),belowDrewN hB _⟩,by simp [intOf];omega⟩
   ·obtain ⟨b',off',hb',c1⟩:=hc m (by omega)
    cases hb'
    have hr:=Lib.hid (risAt_succ (lo:=lo) (hi:=hi) hlt)
    clear hc
    cases t:btw lo zs[m+1] hi
    ·go_wp2_with fail
     go_quiet ((go_at_call 63;exact quiet_eq (l1In_c _ _ _ _)))
     go_wp2_with fail
     go_ret
     exact ⟨ret_bool (allUpTo_no hlt (by rw [hr.out,t];rfl)).symm,belowDrewN hB _⟩
    ·by_cases t2:zs[m] < zs[m+1]
     ·go_wp2_with fail
      go_quiet ((go_at_call 63;exact quiet_eq (l1In_c _ _ _ _)))
      go_wp2_with fail
      exact ⟨⟨m+2,by omega,by go_num,upto_snoc hz.out (by rw [hr.out,t];simpa using t2),belowDrewN hB _⟩,by simp [intOf];omega⟩
     ·have t3:zs[m+1]≤zs[m]:=by omega
      go_wp2_with fail
      go_quiet ((go_at_call 63;exact quiet_eq (l1In_c _ _ _ _)))
      go_wp2_with fail
      go_ret
      exact ⟨ret_bool (allUpTo_no hlt (by rw [hr.out];simp;omega)).symm,belowDrewN hB _⟩
  ·go_wp2
   go_ret
   exact ⟨ret_bool (allUpTo_yes (fun i hi=>hz.out i (by omega))).symm,hB⟩
theorem l14Faces_c (v:Value) (zs:List Int) (F:List Nat) (w:World) (h:Sl EInt w v zs F) :
  Calls Tryz.prog 217 #[v] w fun e w'=>e=.returned (.bool (rising 1 7 zs))∧Below w.heap.size w w':=by
 go_enter Tryz.func217,Tryz.ntmps217
 go_wp2_with (go_at_call 280;refine (l1Rising_c _ zs F _ _ _ h).mono ?_;rintro e w' ⟨rfl,hb1⟩)
 go_ret
 exact ⟨rfl,hb1⟩
theorem putCells_eq (w:World) (g:Nat):∀(c:List Value) (w:World) (p:Nat),putCells w g p c=w.setCells g p c
 | [],_,_=>rfl
 | _::r,_,_=>putCells_eq w g r _ _
theorem zeroCells_len (z:Array Value) (n:Nat):(Builtin.zeroCells z n).toList.length=n * z.size:=by simp [Builtin.zeroCells]
theorem zeroCells_one (z:Array Value) (h:∀u∈z,u.oneCell'=true) (n:Nat):∀u∈(Builtin.zeroCells z n).toList,u.oneCell'=true:=by
 intro u hu
 simp only [Builtin.zeroCells,Array.toList_map,List.mem_map] at hu
 obtain ⟨i,hi,rfl⟩:=hu
 simp at hi
 have hz:0 < z.size:=Nat.pos_of_ne_zero fun e=>by rw [e,Nat.mul_zero] at hi;omega
 have hm:i % z.size < z.size:=Nat.mod_lt _ hz
 rw [getElem!_pos z _ hm]
 exact h _ (Array.getElem_mem _)
theorem run_clear_rows {P:Program} (w:World) (t e ty:TypeId) (z:Value) (ht:P.underlying t=some (.slice e)) (hv:∀w,(zeroValue e).run P w=.ok z w) (h1:∀u∈z.cells,u.oneCell'=true) (b o n c:Nat) (hn:0 < n)
  (hc:∀j,j < n * z.cells.size→(w.cell? ⟨b,o+j,none⟩).isSome=true) (hf:∀j,j < n * z.cells.size→w.frozen? ⟨b,o+j,none⟩=false) :
  (Builtin.clear_ #[t] ty #[.slice (some ⟨b,o,none⟩) n c]).run P w=.ok (.tuple #[]) (w.setCells b o (Builtin.zeroCells z.cells n).toList):=by
 have hst:=run_storeCells_cells (P:=P) b o (Builtin.zeroCells z.cells n).toList 0 w (by rw [zeroCells_len];simpa using hc) (by rw [zeroCells_len];simpa using hf) (zeroCells_one _ h1 _)
 simp only [Nat.add_zero] at hst
 obtain ⟨m,rfl⟩:∃m,n=m+1:=⟨n - 1,by omega⟩
 simp [Builtin.clear_,run_underlying ht,hv,hst]
theorem zeroValue_of {P:Program} {e:TypeId} {z:Value} {size bytes:Nat} (h:(P.info? e).map (fun i=>(i.zero,i.size,i.bytes))=some (some z,size,bytes)):∀w,(zeroValue e).run P w=.ok z w:=fun w=>by
 obtain ⟨i,hi,hzz⟩:=Option.map_eq_some_iff.1 h
 simp only [Prod.mk.injEq] at hzz
 obtain ⟨hz, -, -⟩:=hzz
 simp [zeroValue,typeInfo,hi,hz]
theorem fidx_some {α:Type} {p:α→Bool} {xs:List α} (h:xs.any p=true):∃k,∃hk:k < xs.length,fidx p xs=k∧p xs[k]=true∧(xs.take k).filter (fun x=>!p x)=xs.take k:=by
 have hk:xs.findIdx p < xs.length:=List.findIdx_lt_length_of_exists (by obtain ⟨x,hx,hp⟩:=List.any_eq_true.1 h;exact ⟨x,hx,hp⟩)
 refine ⟨_,hk,by unfold fidx;rw [if_pos h],List.findIdx_getElem (w:=hk),?_⟩
 rw [List.filter_eq_self]
 intro x hx
 obtain ⟨i,hi,rfl⟩:=List.mem_take_iff_getElem.1 hx
 have:=List.not_of_lt_findIdx (p:=p) (xs:=xs) (show i < xs.findIdx p by omega)
 simpa using this
theorem fidx_all {α:Type} {p:α→Bool} {xs:List α} (h:¬xs.any p=true):fidx p xs=-1∧xs.filter (fun x=>!p x)=xs:=by
 refine ⟨by unfold fidx;rw [if_neg h],?_⟩
 rw [List.filter_eq_self]
 intro x hx
 cases hp:p x
 ·rfl
 ·exact absurd (List.any_eq_true.2 ⟨x,hx,hp⟩) h
theorem filter_take_yes {α:Type} {q:α→Bool} {xs:List α} {j:Nat} (h:j < xs.length) (hq:q xs[j]=true):(xs.take (j+1)).filter q=(xs.take j).filter q++[xs[j]]:=by
 rw [List.take_succ_eq_append_getElem h,List.filter_append];simp [hq]
theorem filter_take_no {α:Type} {q:α→Bool} {xs:List α} {j:Nat} (h:j < xs.length) (hq:q xs[j]=false):(xs.take (j+1)).filter q=(xs.take j).filter q:=by
 rw [List.take_succ_eq_append_getElem h,List.filter_append];simp [hq]
theorem same_cells {w:World} {g off n:Nat} {c c':List Value} (h:c.length=n) (h':c'.length=n) (hc:∀j,j < n→w.cell? ⟨g,off+j,none⟩=c[j]?) (hc':∀j,j < n→w.cell? ⟨g,off+j,none⟩=c'[j]?):c=c':=by
 apply List.ext_getElem?
 intro j
 by_cases hj:j < n
 ·rw [←hc j hj,hc' j hj]
 ·rw [List.getElem?_eq_none (by omega),List.getElem?_eq_none (by omega)]
def Gap {α:Type} (O:Elem α) (t:TypeId) (w:World) (g n cap:Nat) (ys:List α) (m:Nat) (zs:List α) (F:List Nat):Prop :=
 ∃c1 jk c3 rest G1 G3,n=ys.length+m+zs.length∧Row w g t (c1++jk++c3++rest)∧n≤cap∧cap≤maxLen∧c1.length+jk.length+c3.length+rest.length=cap * O.sz∧jk.length=m * O.sz ∧
  Flat O w c1 ys G1∧Flat O w c3 zs G3∧F=g::(G1++G3)∧F.Nodup
section
variable {α:Type} {O:Elem α} {t:TypeId} {w:World} {g n cap m:Nat} {ys zs:List α} {F:List Nat}
theorem Gap.start {a:Option Addr} {n:Nat} {xs:List α} (h:Ow O t w (.slice a n cap) xs F) (hn:F.Nodup) (e:xs=ys++zs) (h0:0 < xs.length):∃g,a=some ⟨g,0,none⟩∧n=xs.length∧Gap O t w g n cap ys 0 zs F:=by
 subst e
 rcases h with ⟨_,h1,_⟩|⟨g,cap',cs,rest,G,hv,hr,h3,h4,h5,hf,rfl⟩
 ·rw [h1] at h0;simp at h0
 ·cases hv
  obtain ⟨c1,c2,G1,G2,rfl,rfl,f1,f2⟩:=hf.split
  refine ⟨g,rfl,rfl,c1,[],c2,rest,G1,G2,by simp,by simpa using hr,h3,h4,by simpa using h5,by simp,f1,f2,rfl,hn⟩
theorem Gap.skip {x:α} (h:Gap O t w g n cap ys m (x::zs) F):∃F',Gap O t w g n cap ys (m+1) zs F'∧∀b∈F',b∈F:=by
 obtain ⟨c1,jk,c3,rest,G1,G3,hn,hr,h1,h2,h3,h4,f1,⟨c,c4,Fx,G4,rfl,rfl,hx,f3⟩,rfl,hnd⟩:=h
 have hl:=O.len hx
 refine ⟨g::(G1++G4),⟨c1,jk++c,c4,rest,G1,G4,by simp at hn ⊢;omega,by simpa using hr,h1,h2,by simp at h3 ⊢;omega,by rw [List.length_append,h4,hl,Nat.add_mul];simp,f1,f3,rfl,?_⟩,by intro b hb;simp at hb ⊢;rcases hb with hb|hb|hb <;> simp [hb]⟩
 simp only [List.nodup_cons,List.nodup_append,List.mem_append,not_or] at hnd ⊢
 exact ⟨⟨hnd.1.1,hnd.1.2.2⟩,hnd.2.1,hnd.2.2.1.2.1,fun a ha b hb=>hnd.2.2.2 a ha b (.inr hb)⟩
theorem Gap.first {x:α} (h:Gap O t w g n cap ys m (x::zs) F):∃c Fx,O.rep w c x Fx∧(∀b∈Fx,b∈F)∧∀j,j < O.sz→w.cell? ⟨g,(ys.length+m) * O.sz+j,none⟩=c[j]?:=by
 obtain ⟨c1,jk,c3,rest,G1,G3,hn,hr,h1,h2,h3,h4,f1,⟨c,c4,Fx,G4,rfl,rfl,hx,f3⟩,rfl,hnd⟩:=h
 have hl:=O.len hx
 refine ⟨c,Fx,hx,fun b hb=>by simp [hb],fun j hj=>?_⟩
 have hr':Row w g t ((c1++jk)++c++(c4++rest)):=by simpa using hr
 exact hr'.cellMid (by rw [List.length_append,f1.len,h4,Nat.add_mul]) (by omega)
theorem Gap.move {x:α} (hm:0 < m) (h:Gap O t w g n cap ys m (x::zs) F) :
  (∀j,j < O.sz→(∃u,w.cell? ⟨g,ys.length * O.sz+j,none⟩=some u)∧w.frozen? ⟨g,ys.length * O.sz+j,none⟩=false) ∧
  ∃c Fx,O.rep w c x Fx∧(∀b∈Fx,b∈F)∧(∀j,j < O.sz→w.cell? ⟨g,(ys.length+m) * O.sz+j,none⟩=c[j]?)∧∀w',Below w.heap.size w w'→∃F',Gap O t (putCells w' g (ys.length * O.sz) c) g n cap (ys++[x]) m zs F'∧∀b∈F',b∈F:=by
 obtain ⟨c,Fx,hx0,hxF,hcell⟩:=h.first
 obtain ⟨c1,jk,c3,rest,G1,G3,hn,hr,h1,h2,h3,h4,f1,⟨c',c4,Fx',G4,rfl,rfl,hx,f3⟩,rfl,hnd⟩:=h
 have hl:=O.len hx
 have hl0:=O.len hx0
 obtain ⟨m',rfl⟩:∃m',m=m'+1:=⟨m - 1,by omega⟩
 have hjk:jk=jk.take O.sz++jk.drop O.sz:=by simp
 have hjl:(jk.take O.sz).length=O.sz:=by rw [List.length_take,h4,Nat.add_mul];omega
 have hA:=f1.len
 have hr':Row w g t (c1++jk.take O.sz++(jk.drop O.sz++c'++c4++rest)):=by
  have e:c1++jk.take O.sz++(jk.drop O.sz++c'++c4++rest)=c1++jk++(c'++c4)++rest:=by
   simp only [List.append_assoc]
   rw [←List.append_assoc (jk.take O.sz),List.take_append_drop]
  rw [e];exact hr
 have hcc:c=c':=by
  apply List.ext_getElem? 
  intro j
  by_cases hj:j < O.sz
  ·have hr2:Row w g t ((c1++jk)++c'++(c4++rest)):=by simpa using hr
   rw [←hcell j hj,hr2.cellMid (by rw [List.length_append,hA,h4,←Nat.add_mul]) (by omega)]
  ·rw [List.getElem?_eq_none (by omega),List.getElem?_eq_none (by omega)]
 refine ⟨fun j hj=>⟨⟨_,by rw [hr'.cellMid (j:=j) (by omega) (by omega),List.getElem?_eq_getElem (by omega)]⟩,hr'.frozen _⟩,c,Fx',hcc▸hx,fun b hb=>by simp [hb],hcell,fun w' hb=>?_⟩
 subst hcc
 have hgl:=hr.lt
 have hnd':=hnd
 simp only [List.nodup_cons,List.nodup_append,List.mem_append,not_or] at hnd'
 have hrow:=(hr'.below hb).put c (jk.take O.sz) (p:=ys.length * O.sz) hA.symm (by omega)
 have hfr:∀b,b < w.heap.size→b≠g→(putCells w' g (ys.length * O.sz) c).heap[b]?=w.heap[b]?:=fun b hb1 hb2=>(putCells_other c w' _ b hb2).trans (hb.block b hb1)
 have n1:∀b∈G1,b≠g:=fun b hb e=>hnd'.1.1 (e▸hb)
 have n2:∀b∈Fx',b≠g:=fun b hb e=>hnd'.1.2.1 (e▸hb)
 have n3:∀b∈G4,b≠g:=fun b hb e=>hnd'.1.2.2 (e▸hb)
 refine ⟨g::((G1++Fx')++G4),⟨c1++c,jk.drop O.sz++c,c4,rest,G1++Fx',G4,by simp at hn ⊢;omega,?_,h1,h2,?_,?_,?_,f3.frame fun b hb=>hfr b (f3.lt b hb) (n3 b hb),rfl,?_⟩,by intro b hb;simpa [or_assoc] using hb⟩
 ·simpa using hrow
 ·simp [h4,Nat.add_mul] at h3 ⊢;omega
 ·simp [h4,Nat.add_mul];omega
 ·exact (f1.frame fun b hb=>hfr b (f1.lt b hb) (n1 b hb)).append (Flat.one (O.frame hx fun b hb=>hfr b (O.lt hx b hb) (n2 b hb)))
 ·simpa using hnd
theorem Gap.below {w':World} (h:Gap O t w g n cap ys m zs F) (hb:Below w.heap.size w w'):Gap O t w' g n cap ys m zs F:=by
 obtain ⟨c1,jk,c3,rest,G1,G3,hn,hr,h1,h2,h3,h4,f1,f3,hF,hnd⟩:=h
 exact ⟨c1,jk,c3,rest,G1,G3,hn,hr.below hb,h1,h2,h3,h4,f1.frame fun b h=>hb.block b (f1.lt b h),f3.frame fun b h=>hb.block b (f3.lt b h),hF,hnd⟩
theorem Gap.caps (h:Gap O t w g n cap ys m zs F):n=ys.length+m+zs.length∧n≤cap∧cap≤maxLen∧g < w.heap.size∧g∈F∧F.Nodup:=by
 obtain ⟨c1,jk,c3,rest,G1,G3,hn,hr,h1,h2,h3,h4,f1,f3,rfl,hnd⟩:=h
 exact ⟨hn,h1,h2,hr.lt,by simp,hnd⟩
theorem Gap.done {z:Array Value} (hz:z.size=O.sz) (h:Gap O t w g n cap ys m [] F) :
  (∀j,j < m * O.sz→(w.cell? ⟨g,ys.length * O.sz+j,none⟩).isSome=true∧w.frozen? ⟨g,ys.length * O.sz+j,none⟩=false) ∧
  ∃F',Ow O t (w.setCells g (ys.length * O.sz) (Builtin.zeroCells z m).toList) (.slice (some ⟨g,0,none⟩) ys.length cap) ys F'∧F'.Nodup∧∀b∈F',b∈F:=by
 obtain ⟨c1,jk,c3,rest,G1,G3,hn,hr,h1,h2,h3,h4,f1,⟨rfl,rfl⟩,rfl,hnd⟩:=h
 have hA:=f1.len
 simp only [List.append_nil] at hr hnd
 have hr':Row w g t (c1++jk++rest):=hr
 refine ⟨fun j hj=>⟨?_,hr'.frozen _⟩,g::G1,?_,hnd,by simp⟩
 ·rw [hr'.cellMid (j:=j) (by omega) (by omega),List.getElem?_eq_getElem (by omega)];rfl
 ·rw [←putCells_eq w]
  have hrow:=hr'.put (Builtin.zeroCells z m).toList jk (p:=ys.length * O.sz) hA.symm (by rw [zeroCells_len,h4,hz])
  have hng:g ∉ G1:=by simp at hnd;exact hnd.1
  refine .inr ⟨g,cap,c1,(Builtin.zeroCells z m).toList++rest,G1,rfl,by simpa using hrow,by simp at hn;omega,h2,?_,f1.frame fun b hb=>putCells_other _ _ _ _ fun e=>hng (e▸hb),rfl⟩
  rw [List.length_append,zeroCells_len,hz,←h4];simp at h3;omega
end
theorem IndexFunc_Entry (fid:FuncId) (hbd:Body Tryz.prog fid) (caps:Array Value) (v:Value) (xs:List Entry) (F:List Nat) (p:Entry→Bool) (w:World) (h:Sl EEntry w v xs F)
  (hp:∀(k:Nat) (hk:k < xs.length) (wr:World) (u:Value) (G:List Nat),Below w.heap.size w wr→IsV EEntry wr u xs[k] G→Calls Tryz.prog fid (#[u]++caps) wr fun e w'=>e=.returned (.bool (p xs[k]))∧Below wr.heap.size wr w') :
  Calls Tryz.prog 272 #[v,.func (.func fid) #[] caps] w fun e w'=>e=.returned (.int .i64 (fidx p xs))∧Below w.heap.size w w':=by
 obtain ⟨a,cap,rfl⟩:=h.slice
 have hl:=h.len
 unfold maxLen at hl
 go_enter Tryz.func272,Tryz.ntmps272
 go_wp2
 go_loopw [5,8] (fun _ i wr=>∃k:Nat,k≤xs.length∧i=.int .i64 k∧Hid (∀j,j < k→∀hj:j < xs.length,p xs[j]=false)∧Below w.heap.size w wr) (fun _ i _=>xs.length - (intOf i).toNat)
 case atStart=>exact ⟨0,Nat.zero_le _,rfl,fun j hj=>by omega,Below.refl _ _⟩
 case round =>
  obtain ⟨k,hk,rfl,hz,hB⟩:=hrel
  by_cases hlt:k < xs.length
  ·have hz0:=hz;clear hz
   obtain ⟨b,off,_,F1,rfl,hx, -,ja⟩:=(h.below (by decide) hB).at k hlt
   obtain ⟨v1,rfl,h1⟩:=id hx
   have a0:=ja 0 (by decide)
   have a1:=ja 1 (by decide)
   have a2:=ja 2 (by decide)
   simp only [show EEntry.sz=3 from rfl,Nat.mul_one,Nat.add_zero,List.getElem?_cons_zero,List.getElem?_cons_succ] at a0 a1 a2
   clear ja
   have hr:=hp k hlt wr _ F1 hB ⟨_,rfl,hx⟩
   have hp:=Lib.hid hp
   cases hpk:p xs[k]
   all_goals
    rw [hpk] at hr
    have hpk:=Lib.hid hpk
    have hr:=Lib.hid hr
    go_wp2_with fail
    refine hbd.upon hr.out ?_
    rintro e w1 ⟨rfl,hb1⟩
    refine ⟨_,rfl,?_⟩
    have hB:=tr hB hb1 (Nat.le_refl _)
    clear hb1
    go_wp2_with fail
   ·exact ⟨⟨k+1,by omega,by go_num,fun j hj hl=>by rcases Nat.lt_or_eq_of_le (Nat.le_of_lt_succ hj) with h|h;exact hz0.out j h hl;subst h;exact hpk.out,hB⟩,by simp [intOf];omega⟩
   ·go_ret
    exact ⟨ret_int (fidx_hit hlt hz0.out hpk.out).symm,hB⟩
  ·go_wp2
   go_ret
   exact ⟨ret_int (fidx_none (fun j hj=>hz.out j (by omega) hj)).symm,hB⟩
theorem ContainsFunc_Entry (fid:FuncId) (hbd:Body Tryz.prog fid) (caps:Array Value) (v:Value) (xs:List Entry) (F:List Nat) (p:Entry→Bool) (w:World) (h:Sl EEntry w v xs F)
  (hp:∀(k:Nat) (hk:k < xs.length) (wr:World) (u:Value) (G:List Nat),Below w.heap.size w wr→IsV EEntry wr u xs[k] G→Calls Tryz.prog fid (#[u]++caps) wr fun e w'=>e=.returned (.bool (p xs[k]))∧Below wr.heap.size wr w') :
  Calls Tryz.prog 248 #[v,.func (.func fid) #[] caps] w fun e w'=>e=.returned (.bool (xs.any p))∧Below w.heap.size w w':=by
 have hp:=Lib.hid hp
 go_enter Tryz.func248,Tryz.ntmps248
 go_wp2_with fail
 refine (IndexFunc_Entry fid hbd caps v xs F p _ h hp.out).mono ?_
 rintro e w1 ⟨rfl,hb1⟩
 go_wp2_with fail
 go_ret
 exact ⟨ret_bool (fidx_any p xs),hb1⟩
theorem Clone_Entry (v:Value) (xs:List Entry) (F:List Nat) (w:World) (h:Sl EEntry w v xs F) (hm:xs.length≤4294967296) :
  Calls Tryz.prog 188 #[v] w fun e w'=>∃v' F',e=.returned v'∧Ow EEntry 231 w' v' xs F'∧Hd F'∧(∀b,v'.ownBlock=some b→w.heap.size≤b)∧(∀b∈F',v'.ownBlock=some b∨b∈F)∧Below w.heap.size w w':=by
 obtain ⟨ao,c,news,Fy,rfl,hl,hfy,hFy,hsrc⟩:=h.src
 have hFl:=hfy.lt
 have he:=fun w (a:Option Addr) (n c:Nat)=>Lib.run_eql_slice_nil (P:=Tryz.prog) w 140 _ a n c 0 0 Tryz.underlying140
 go_enter Tryz.func188,Tryz.ntmps188
 rcases hsrc with ⟨rfl,rfl,rfl⟩|⟨ad,rfl,hn⟩
 ·go_wp2
  go_ret
  exact ⟨.slice none 0 0,[],rfl,.inl ⟨rfl,rfl,rfl⟩,Hd.nil,(fun b e=>by simp [Value.ownBlock] at e),by simp,Below.refl _ _⟩
 ·go_wp2_with (at_builtin;refine wpList_apd one_EEntry (by decide) (by rfl) _ _ _ (by rfl) 231 (.agg #[.int .i64 0,.slice none 0 0,.int .i64 0]) 40 Tryz.underlying140 info_Entry rfl (.slice (some ⟨w.heap.size,0,none⟩) 0 0) [] [w.heap.size] (by rfl) (Ow.empty (Row.made _ _ _)) (Hd.one _) (some ad) xs c (by rfl) news Fy (hfy.frame fun b hb=>Below.heap_alloc _ _ _ (hFl b hb)) (.inr ⟨ad,rfl,fun j u hu=>kc ((Below.refl _ _).alloc (Nat.le_refl _) _) (hn j u hu)⟩) (fun b hb e=>by have:=hFl b hb;simp [Value.ownBlock] at e;omega) (by simpa using hl) (by unfold maxLen at hl;simp;omega) ?_)
  intro v2 w2 F2 hA
  go_wp2_with fail
  go_ret
  have hB:Below w.heap.size w w2:=((Below.refl _ _).alloc (Nat.le_refl _) _).trans (hA.keep.below (by simp) (by simp))
  have hs:∀b,v2.ownBlock=some b→w.heap.size≤b:=fun b hb=>by rcases hA.same with e|e <;> rw [e] at hb <;> simp [Value.ownBlock] at hb <;> omega
  refine ⟨v2,F2,rfl,by simpa using hA.ow,hA.hd,hs,fun b hb=>?_,hB⟩
  rw [hA.form [] (by simp [Value.ownBlock])] at hb
  simp at hb
  rcases hb with hb|hb
  ·exact .inl hb
  ·exact .inr (hFy b hb)
theorem DeleteFunc_Entry (fid:FuncId) (hbd:Body Tryz.prog fid) (caps:Array Value) (v:Value) (xs:List Entry) (F:List Nat) (p:Entry→Bool) (w:World) (h:Ow OEntry 231 w v xs F) (hn:F.Nodup)
  (hp:∀(k:Nat) (hk:k < xs.length) (wr:World) (u:Value) (G:List Nat),Keep F w wr→IsV EEntry wr u xs[k] G→Calls Tryz.prog fid (#[u]++caps) wr fun e w'=>e=.returned (.bool (p xs[k]))∧Below wr.heap.size wr w') :
  Calls Tryz.prog 205 #[v,.func (.func fid) #[] caps] w fun e w'=>∃v' F',e=.returned v'∧Ow OEntry 231 w' v' (xs.filter fun x=>!p x) F'∧F'.Nodup∧(∀b∈F',b∈F)∧Keep F w w':=by
 obtain ⟨F1,hF1,hs⟩:=h.sl weak_Entry
 obtain ⟨a,cap,rfl⟩:=h.slice
 have hl:=h.len
 unfold maxLen at hl
 have hp:=Lib.hid hp
 go_enter Tryz.func205,Tryz.ntmps205
 go_wp2_with fail
 refine (IndexFunc_Entry fid hbd caps _ xs F1 p _ hs (fun k hk wr u G hb hu=>hp.out k hk wr u G (Keep.ofBelow hb) hu)).mono ?_
 rintro e w1 ⟨rfl,hb1⟩
 have hK1:=Keep.ofBelow (F:=F) hb1
 by_cases hany:xs.any p=true
 ·obtain ⟨k0,hk0,hfx,hpk,hfl⟩:=fidx_some hany
  rw [hfx]
  obtain ⟨g,rfl, -,hg0⟩:=Gap.start (h.below hb1) hn (ys:=xs.take k0) (zs:=xs[k0]::xs.drop (k0+1)) (by simp) (by omega)
  obtain ⟨F0,hg0,hF0⟩:=hg0.skip
  have hG0:=Lib.hid hg0
  clear hg0
  have hk1:((k0:Int) == -1)=false:=by simp
  go_wp2_with fail
  go_loopw [5,6,7] (fun i j _ wr=>∃(q m:Nat) (F1:List Nat),q≤xs.length∧0 < m∧((xs.take q).filter fun x=>!p x).length+m=q∧i=.int .i64 ((xs.take q).filter fun x=>!p x).length∧j=.int .i64 q∧Hid (Gap OEntry 231 wr g xs.length cap ((xs.take q).filter fun x=>!p x) m (xs.drop q) F1)∧(∀b∈F1,b∈F)∧Keep F w wr) (fun _ j _ _=>xs.length - (intOf j).toNat)
  case atStart=>exact ⟨k0+1,1,F0,hk0,by omega,by rw [filter_take_no hk0 (by simp [hpk]),hfl];simp;omega,by rw [filter_take_no hk0 (by simp [hpk]),hfl];simp;omega,by go_num,by rw [filter_take_no hk0 (by simp [hpk]),hfl];exact hG0,hF0,hK1⟩
  case round =>
   obtain ⟨q,m,F1,hq,hm,hlen,rfl,rfl,hG,hF1,hK⟩:=hrel
   obtain ⟨-,hcap, -⟩:=hG.out.caps
   generalize hys:((xs.take q).filter fun x=>!p x)=ys at *
   by_cases hlt:q < xs.length
   ·rw [List.drop_eq_getElem_cons hlt] at hG
    obtain ⟨c,Fx,hx,hFx,hcell⟩:=hG.out.first
    obtain ⟨Fx2, -,hxe⟩:=weak_Entry.rep hx
    obtain ⟨v1,rfl,h1⟩:=id hx
    obtain ⟨d1,p1,rfl⟩:=h1.slice
    have a0:=hcell 0 (by decide)
    have a1:=hcell 1 (by decide)
    have a2:=hcell 2 (by decide)
    simp only [hlen,show OEntry.sz=3 from rfl,Nat.mul_one,Nat.add_zero,List.getElem?_cons_zero,List.getElem?_cons_succ] at a0 a1 a2
    have hr:=fun A=>hp.out q hlt (wr.alloc A) _ Fx2 (hK.alloc A) ⟨_,rfl,EEntry.below hxe ((Below.refl wr.heap.size wr).alloc (Nat.le_refl _) A)⟩
    cases hpq:p xs[q]
    ·obtain ⟨st,c2,Fx3,hx3, -,hcell2,back⟩:=hG.out.move hm
     simp only [hpq] at hr
     obtain rfl:=same_cells (OEntry.len hx) (OEntry.len hx3) hcell hcell2
     have st:=st
     obtain ⟨⟨x0,z0⟩,g0⟩:=st 0 (by decide)
     obtain ⟨⟨x1,z1⟩,g1⟩:=st 1 (by decide)
     obtain ⟨⟨x2,z2⟩,g2⟩:=st 2 (by decide)
     simp only [show OEntry.sz=3 from rfl,Nat.mul_one,Nat.add_zero] at z0 g0 z1 g1 z2 g2
     have hr:=Lib.hid hr;have hbk:=Lib.hid back;have hpq:=Lib.hid hpq;have hys:=Lib.hid hys;have hlen:=Lib.hid hlen
     have hyl:ys.length < xs.length:=by have:=hlen.out;omega
     clear hx hxe hcell hcell2 hx3 back st hfx hpk hfl
     go_wp2_with fail
     refine hbd.upon (hr.out _) ?_
     rintro e w2 ⟨rfl,hb2⟩
     refine ⟨_,rfl,?_⟩
     have b2:=(Row.below (g:=wr.heap.size) (t:=231) (cs:=[.int .i64 xs[q].number,.slice d1 xs[q].faces.length p1,.int .i64 xs[q].untl]) (by simp [row_alloc]) hb2).cells
     have hbb:=tr ((Below.refl wr.heap.size wr).alloc (Nat.le_refl _) _) hb2 (Nat.le_refl _)
     clear hb2
     have g0:=(kf hbb z0).trans g0;have z0:=kc hbb z0
     have g1:=(kf hbb z1).trans g1;have z1:=kc hbb z1
     have g2:=(kf hbb z2).trans g2;have z2:=kc hbb z2
     obtain ⟨F2,hg2,hF2⟩:=hbk.out w2 hbb
     simp only [putCells,show OEntry.sz=3 from rfl,Nat.mul_one] at hg2
     have hg2:=Lib.hid hg2
     have hgF:g∈F:=hF1 g hG.out.caps.2.2.2.2.1
     go_wp2_with fail
     exact ⟨⟨q+1,m,F2,by omega,hm,by rw [filter_take_yes hlt (by simp [hpq.out]),hys.out];have:=hlen.out;simp;omega,by rw [filter_take_yes hlt (by simp [hpq.out]),hys.out,List.length_append];go_num,by go_num,by rw [filter_take_yes hlt (by simp [hpq.out]),hys.out];exact hg2.out,fun b hb=>hF1 b (hF2 b hb),by (repeat (refine Keep.setCell ?_ hgF _));exact hK.trans (Keep.ofBelow hbb)⟩,by simp [intOf];omega⟩
    ·obtain ⟨F2,hg2,hF2⟩:=hG.out.skip
     simp only [hpq] at hr
     have hr:=Lib.hid hr;have hg2:=Lib.hid hg2;have hpq:=Lib.hid hpq;have hys:=Lib.hid hys;have hlen:=Lib.hid hlen
     clear hx hxe hcell hfx hpk hfl
     go_wp2_with fail
     refine hbd.upon (hr.out _) ?_
     rintro e w2 ⟨rfl,hb2⟩
     refine ⟨_,rfl,?_⟩
     have hbb:=tr ((Below.refl wr.heap.size wr).alloc (Nat.le_refl _) _) hb2 (Nat.le_refl _)
     clear hb2
     go_wp2_with fail
     exact ⟨⟨q+1,m+1,F2,by omega,by omega,by rw [filter_take_no hlt (by simp [hpq.out]),hys.out];have:=hlen.out;omega,by rw [filter_take_no hlt (by simp [hpq.out]),hys.out],by go_num,by rw [filter_take_no hlt (by simp [hpq.out]),hys.out];exact hg2.out.below hbb,fun b hb=>hF1 b (hF2 b hb),hK.trans (Keep.ofBelow hbb)⟩,by simp [intOf];omega⟩
   ·have hqe:q=xs.length:=by omega
    subst hqe
    simp only [List.drop_length,List.take_length] at hG hys
    obtain ⟨hc,F2,ho2,hn2,hF2⟩:=hG.out.done (z:=#[.int .i64 0,.slice none 0 0,.int .i64 0]) rfl
    have hmm:xs.length - ys.length=m:=by omega
    have hcl:=fun ty=>run_clear_rows (P:=Tryz.prog) wr 140 231 ty (.agg #[.int .i64 0,.slice none 0 0,.int .i64 0]) Tryz.underlying140 (zeroValue_of info_Entry) (by simp [Value.cells,Value.oneCell']) g (ys.length * 3) m (cap - ys.length) hm (fun j hj=>(hc j hj).1) (fun j hj=>(hc j hj).2)
    have hyl:ys.length < xs.length:=by omega
    have hgF:g∈F:=hF1 g hG.out.caps.2.2.2.2.1
    have hO:=Lib.hid ho2;have hlen:=Lib.hid hlen;have hys:=Lib.hid hys
    clear ho2 hc hfx hpk hfl
    go_wp2_with fail
    go_ret
    refine ⟨_,F2,rfl,by rw [hys.out];exact hO.out,hn2,fun b hb=>hF1 b (hF2 b hb),hK.trans ?_⟩
    rw [←putCells_eq wr];exact (putCells_keep _ _ _).mono (fun b hb _=>by simp at hb;subst hb;exact hgF)
 ·obtain ⟨hfx,hfl⟩:=fidx_all hany
  rw [hfx]
  go_wp2_with fail
  go_ret
  exact ⟨_,F,rfl,by rw [hfl];exact h.below hb1,hn,fun b hb=>hb,hK1⟩
def okEntry (c:Int) (x:Entry):Bool:=isSer x.number && (decide (0 < x.faces.length) && (rising 1 7 x.faces && btw (c+1) x.untl (c+6)))
def entAt (c:Int) (es:List Entry) (i:Nat):Bool:=match es[i]? with
 | none=>true
 | some x=>okEntry c x && !((es.take i).any fun o=>o.number == x.number)
theorem entAt_of {c:Int} {es:List Entry} {i:Nat} (h:i < es.length):entAt c es i=(okEntry c es[i] && !((es.take i).any fun o=>o.number == es[i].number)):=by
 simp [entAt,h]
def goodElement (e:Element):Bool:=isClk e.clock && decide (e.entries.length≤5) && allUpTo (entAt e.clock e.entries) e.entries.length
theorem isClk_iff {c:Int}:isClk c=true↔0≤c∧c≤9999:=by unfold isClk btw;simp
theorem any_take {es:List Entry} {m k:Nat} {p:Entry→Bool} (h:m < es.length) (hk:m < k) (hp:p es[m]=true):(es.take k).any p=true:=by
 rw [List.any_eq_true];exact ⟨es[m],List.mem_take_iff_getElem.2 ⟨m,by omega,rfl⟩,hp⟩
theorem any_take_no {es:List Entry} {k:Nat} {n:Int} (h:∀q,q < k→∀hq:q < es.length,es[q].number≠n):((es.take k).any fun o=>o.number == n)=false:=by
 rw [List.any_eq_false];intro x hx
 obtain ⟨i,hi,rfl⟩:=List.mem_take_iff_getElem.1 hx
 simpa using h i (by omega) (by omega)
theorem wrap_clk {c d:Int} (h:isClk c=true) (h1:0≤d) (h2:d≤100):wrap64 (c+d)=c+d:=by
 have:=isClk_iff.1 h;unfold wrap64;omega
theorem good_no {e:Element} {k:Nat} (hk:k < e.entries.length) (h:isClk e.clock=true→entAt e.clock e.entries k=false):goodElement e=false:=by
 unfold goodElement
 cases hc:isClk e.clock
 ·rfl
 ·rw [allUpTo_no hk (h hc)];simp
theorem IsValidElement_1_c (x:Entry) (num:Int) (b:Nat) (G:List Nat) (u:Value) (w:World) (h:IsV EEntry w u x G) (hc:w.cell? ⟨b,0,none⟩=some (.int .i64 num)) :
  Calls Tryz.prog 249 #[u,.pointer (some ⟨b,0,none⟩)] w fun e w'=>e=.returned (.bool (x.number == num))∧Below w.heap.size w w':=by
 obtain ⟨_,rfl,v1,rfl, -⟩:=h
 have hc1:=fun o:Obj=>kc ((Below.refl w.heap.size w).alloc (Nat.le_refl _) o) hc
 go_enter Tryz.func249,Tryz.ntmps249
 go_wp2
 go_ret
 exact ⟨ret_bool rfl,(Below.refl _ _).alloc (Nat.le_refl _) _⟩
theorem IsValidElement_c (v:Value) (e:Element) (F:List Nat) (w:World) (h:IsV EElement w v e F) :
  Calls Tryz.prog 183 #[v] w fun e' w'=>e'=.returned (.bool (goodElement e))∧Below w.heap.size w w':=by
 obtain ⟨_,rfl,v1,rfl,h1⟩:=h
 obtain ⟨a,cap,rfl⟩:=h1.slice
 have hl:=h1.len
 unfold maxLen at hl
 have hB0:∀A:Obj,Below w.heap.size w (w.alloc A):=fun A=>(Below.refl _ _).alloc (Nat.le_refl _) _
 go_enter Tryz.func183,Tryz.ntmps183
 go_wp2
 go_loopw [3,4,8] (fun _ _ i wr=>∃k:Nat,k≤e.entries.length∧i=.int .i64 k∧Hid (isClk e.clock=true→∀j,j < k→entAt e.clock e.entries j=true)∧Row wr w.heap.size 142 [.int .i64 e.clock,.slice a e.entries.length cap]∧Below w.heap.size w wr) (fun _ _ i _=>e.entries.length - (intOf i).toNat)
 case atStart=>exact ⟨0,Nat.zero_le _,rfl,fun _ j hj=>by omega,by simp [row_alloc],hB0 _⟩
 case round =>
  obtain ⟨k,hk,rfl,hz,hr,hB⟩:=hrel
  have c0:=hr.cells
  by_cases hlt:k < e.entries.length
  ·have hz0:=hz;clear hz
   obtain ⟨b,off,_,F1,rfl,hx, -,ja⟩:=(h1.below (by decide) hB).at k hlt
   obtain ⟨u1,rfl,hf⟩:=id hx
   obtain ⟨fa,fc,rfl⟩:=hf.slice
   have a0:=ja 0 (by decide)
   have a1:=ja 1 (by decide)
   have a2:=ja 2 (by decide)
   simp only [show EEntry.sz=3 from rfl,Nat.mul_one,Nat.add_zero,List.getElem?_cons_zero,List.getElem?_cons_succ] at a0 a1 a2
   clear ja
   have d0:=fun A=>(hr.alloc A).cells
   have hf1:=fun A:Obj=>hf.below (by decide) ((Below.refl wr.heap.size wr).alloc (Nat.le_refl _) A)
   have hB1:=fun A:Obj=>tr hB ((Below.refl wr.heap.size wr).alloc (Nat.le_refl _) A) (Nat.le_refl _)
   have hcp:=h1.caps
   by_cases hfe:e.entries[k].faces=[]
   ·have hE:((e.entries[k].faces.length:Int) == 0)=true:=by simp [hfe]
    have hno:=Lib.hid (good_no hlt (fun _=>by rw [entAt_of hlt];simp [okEntry,hfe]))
    go_wp2_with (first
     | (go_at_call 174;refine (IsSerial_c _ _).mono ?_;rintro e' w' ⟨rfl,rfl⟩)
     | (go_at_call 247;refine (areFaces_c _ _ _ _ (hf1 _)).mono ?_;rintro e' w' ⟨rfl,rfl⟩)
     | (go_at_call 64;refine (within_c _ _ _ _).mono ?_;rintro e' w' ⟨rfl,rfl⟩))
    all_goals go_ret
    all_goals exact ⟨ret_bool hno.out.symm,hB1 _⟩
   ·have hE:((e.entries[k].faces.length:Int) == 0)=false:=by simp [hfe]
    have hfe:=Lib.hid hfe
    go_wp2_with (first
     | (go_at_call 174;refine (IsSerial_c _ _).mono ?_;rintro e' w' ⟨rfl,rfl⟩)
     | (go_at_call 247;refine (areFaces_c _ _ _ _ (hf1 _)).mono ?_;rintro e' w' ⟨rfl,rfl⟩)
     | (go_at_call 64;refine (within_c _ _ _ _).mono ?_;rintro e' w' ⟨rfl,rfl⟩))
    ·have t:(!btw (wrap64 (e.clock+1)) e.entries[k].untl (wrap64 (e.clock+6)))=true:=by assumption
     go_ret
     refine ⟨ret_bool (good_no hlt fun hc=>?_).symm,hB1 _⟩
     rw [wrap_clk hc (by omega) (by omega),wrap_clk hc (by omega) (by omega)] at t
     rw [entAt_of hlt];simp only [okEntry];simp at t;simp [t]
    ·have t1:isSer e.entries[k].number=true:=by assumption
     have t2:rising 1 7 e.entries[k].faces=true:=by assumption
     have t:(!btw (wrap64 (e.clock+1)) e.entries[k].untl (wrap64 (e.clock+6)))=false:=by assumption
     obtain ⟨G, -,hs⟩:=h1.takeS k hk
     refine (ContainsFunc_Entry _ (.mk' Tryz.func249 rfl rfl) _ _ _ _ (fun o=>o.number == e.entries[k].number) _ (hs.below (by decide) (hB1 _)) ?_).mono ?_
     ·intro j hj w2 u G2 hb2 hu
      exact IsValidElement_1_c _ _ _ _ _ _ hu (kc hb2 (by simp))
     rintro e' w2 ⟨rfl,hb2⟩
     have hr2:=(hr.alloc _).below hb2
     have hB2:=tr (hB1 _) hb2 (Nat.le_refl _)
     have hc2:=hr2.cells
     have hAt:=Lib.hid (entAt_of (c:=e.clock) hlt)
     cases hany:(e.entries.take k).any fun o=>o.number == e.entries[k].number
     ·rw [hany] at hAt
      have hany:=Lib.hid hany
      go_wp2_with fail
      refine ⟨⟨k+1,by omega,by go_num,fun hc=>upto_snoc (hz0.out hc) ?_,hr2,hB2⟩,by simp [intOf];omega⟩
      rw [wrap_clk hc (by omega) (by omega),wrap_clk hc (by omega) (by omega)] at t
      rw [hAt.out];simp only [okEntry,t1,t2];simp at t;simp [t,List.length_pos_iff,hfe.out]
     ·rw [hany] at hAt
      have hany:=Lib.hid hany
      go_wp2_with fail
      go_ret
      exact ⟨ret_bool (good_no hlt fun _=>by rw [hAt.out];simp).symm,hB2⟩
    ·have t:¬rising 1 7 e.entries[k].faces=true:=by assumption
     go_ret
     refine ⟨ret_bool (good_no hlt fun hc=>?_).symm,hB1 _⟩
     rw [entAt_of hlt];simp [okEntry,t]
    ·have t:¬isSer e.entries[k].number=true:=by assumption
     go_ret
     refine ⟨ret_bool (good_no hlt fun hc=>?_).symm,hB1 _⟩
     rw [entAt_of hlt];simp [okEntry,t]
  ·have hk:k=e.entries.length:=by omega
   subst hk
   have hz0:=hz;clear hz
   cases hck:isClk e.clock
   ·have hn:=Lib.hid (show goodElement e=false by unfold goodElement;rw [hck];rfl)
    have hck:=Lib.hid hck
    go_wp2_with (go_at_call 173;refine (isClock_c _ _).mono ?_;rintro e' w' ⟨rfl,rfl⟩;rw [hck.out])
    go_ret
    exact ⟨ret_bool hn.out.symm,hB⟩
   ·have hn:=Lib.hid (show goodElement e=decide ((e.entries.length:Int)≤5) by unfold goodElement;rw [hck,allUpTo_yes (hz0.out hck)];simp;omega)
    have hck:=Lib.hid hck
    go_wp2_with (go_at_call 173;refine (isClock_c _ _).mono ?_;rintro e' w' ⟨rfl,rfl⟩;rw [hck.out])
    go_ret
    exact ⟨ret_bool hn.out.symm,hB⟩
theorem l14Good_c (v:Value) (e:Element) (F:List Nat) (w:World) (h:IsV EElement w v e F) :
  Calls Tryz.prog 151 #[v] w fun e' w'=>e'=.returned (.bool (goodElement e))∧Below w.heap.size w w':=by
 obtain ⟨_,rfl,v1,rfl,h1⟩:=h
 obtain ⟨a,cap,rfl⟩:=h1.slice
 have hl:=h1.len
 unfold maxLen at hl
 have hB0:∀A:Obj,Below w.heap.size w (w.alloc A):=fun A=>(Below.refl _ _).alloc (Nat.le_refl _) _
 go_enter Tryz.func151,Tryz.ntmps151
 cases hck:isClk e.clock
 ·have hn:=Lib.hid (show goodElement e=false by unfold goodElement;rw [hck];rfl)
  have hck:=Lib.hid hck
  go_wp2_with (go_at_call 147;refine (l11Clock_c _ _).mono ?_;rintro e' w' ⟨rfl,rfl⟩;rw [hck.out])
  go_ret
  exact ⟨ret_bool hn.out.symm,hB0 _⟩
 by_cases h5:¬(e.entries.length:Int)≤5
 ·have hn:=Lib.hid (show goodElement e=false by unfold goodElement;rw [hck,decide_eq_false (by omega)];rfl)
  have hck:=Lib.hid hck
  go_wp2_with (go_at_call 147;refine (l11Clock_c _ _).mono ?_;rintro e' w' ⟨rfl,rfl⟩;rw [hck.out])
  go_ret
  exact ⟨ret_bool hn.out.symm,hB0 _⟩
 have h5:(e.entries.length:Int)≤5:=by omega
 have hcb:=isClk_iff.1 hck
 have hgood:=Lib.hid (show goodElement e=allUpTo (entAt e.clock e.entries) e.entries.length by unfold goodElement;rw [hck,decide_eq_true (by omega)];rfl)
 have hck:=Lib.hid hck
 go_wp2_with (go_at_call 147;refine (l11Clock_c _ _).mono ?_;rintro e' w' ⟨rfl,rfl⟩;rw [hck.out])
 go_loopw [3,4,5] (fun i _ _ wr=>∃k:Nat,k≤e.entries.length∧i=.int .i64 k∧Hid (∀j,j < k→entAt e.clock e.entries j=true)∧Row wr w.heap.size 142 [.int .i64 e.clock,.slice a e.entries.length cap]∧Below w.heap.size w wr) (fun i _ _ _=>e.entries.length - (intOf i).toNat)
 case atStart=>exact ⟨0,Nat.zero_le _,rfl,fun j hj=>by omega,by simp [row_alloc],hB0 _⟩
 case round =>
  obtain ⟨k,hk,rfl,hz,hr,hB⟩:=hrel
  have c0:=hr.cells
  by_cases hlt:k < e.entries.length
  ·have hz0:=hz;clear hz
   obtain ⟨b,off,_,F1,rfl,hx, -,ja⟩:=(h1.below (by decide) hB).at k hlt
   obtain ⟨u1,rfl,hf⟩:=id hx
   obtain ⟨fa,fc,rfl⟩:=hf.slice
   have a0:=ja 0 (by decide)
   have a1:=ja 1 (by decide)
   have a2:=ja 2 (by decide)
   simp only [show EEntry.sz=3 from rfl,Nat.add_zero,List.getElem?_cons_zero,List.getElem?_cons_succ] at a0 a1 a2
   clear ja
   have d0:=fun A=>(hr.alloc A).cells
   have hf1:=fun A:Obj=>hf.below (by decide) ((Below.refl wr.heap.size wr).alloc (Nat.le_refl _) A)
   have hB1:=fun A:Obj=>tr hB ((Below.refl wr.heap.size wr).alloc (Nat.le_refl _) A) (Nat.le_refl _)
   by_cases hfe:e.entries[k].faces=[]
   ·have hE:((e.entries[k].faces.length:Int) == 0)=true:=by simp [hfe]
    have hno:=Lib.hid (good_no hlt (fun _=>by rw [entAt_of hlt];simp [okEntry,hfe]))
    go_wp2_with (go_at_call 148;refine (l2Good_c _ _).mono ?_;rintro e' w' ⟨rfl,rfl⟩)
    all_goals go_ret
    all_goals exact ⟨ret_bool hno.out.symm,hB1 _⟩
   ·have hE:((e.entries[k].faces.length:Int) == 0)=false:=by simp [hfe]
    have hfe:=Lib.hid hfe
    go_wp2_with (go_at_call 148;refine (l2Good_c _ _).mono ?_;rintro e' w' ⟨rfl,rfl⟩)
    ·have t1:isSer e.entries[k].number=true:=by assumption
     refine (l14Faces_c _ _ _ _ (hf1 _)).mono ?_
     rintro e' w2 ⟨rfl,hb2⟩
     have hr2:=(hr.alloc _).below hb2
     have q2:=Row.below (g:=wr.heap.size) (t:=231) (cs:=[.int .i64 e.entries[k].number,.slice fa e.entries[k].faces.length fc,.int .i64 e.entries[k].untl]) (by simp [row_alloc]) hb2
     have hB2:=tr (hB1 _) hb2 (Nat.le_refl _)
     have c2:=hr2.cells;have d2:=q2.cells
     clear hb2
     cases t2:rising 1 7 e.entries[k].faces
     ·have hno:=Lib.hid (good_no hlt (fun _=>by rw [entAt_of hlt];simp [okEntry,t2]))
      go_wp2_with fail
      go_ret
      exact ⟨ret_bool hno.out.symm,hB2⟩
     cases t3:btw (e.clock+1) e.entries[k].untl (e.clock+6)
     ·have hno:=Lib.hid (good_no hlt (fun _=>by rw [entAt_of hlt];simp [okEntry,t3]))
      have t3:=Lib.hid t3
      go_wp2_with (go_at_call 63;refine (l1In_c _ _ _ _).mono ?_;rintro e' w' ⟨rfl,rfl⟩;rw [t3.out])
      go_ret
      exact ⟨ret_bool hno.out.symm,hB2⟩
     have hAt:=Lib.hid (show entAt e.clock e.entries k = !((e.entries.take k).any fun o=>o.number == e.entries[k].number) by rw [entAt_of hlt];simp [okEntry,t1,t2,t3,List.length_pos_iff,hfe.out])
     have t3:=Lib.hid t3
     clear t1 t2 hE hf1 hx
     go_wp2_with (go_at_call 63;refine (l1In_c _ _ _ _).mono ?_;rintro e' w' ⟨rfl,rfl⟩;rw [t3.out])
     go_loopw [5] (fun j wr2=>∃m:Nat,m≤k∧j=.int .i64 m∧Hid (∀q,q < m→∀hq:q < e.entries.length,e.entries[q].number≠e.entries[k].number)∧Row wr2 w.heap.size 142 [.int .i64 e.clock,.slice (some ⟨b,off,none⟩) e.entries.length cap]∧Row wr2 wr.heap.size 231 [.int .i64 e.entries[k].number,.slice fa e.entries[k].faces.length fc,.int .i64 e.entries[k].untl]∧Below w.heap.size w wr2) (fun j _=>k - (intOf j).toNat)
     case atStart=>exact ⟨0,Nat.zero_le _,rfl,fun q hq=>by omega,hr2,q2,hB2⟩
     case round =>
      obtain ⟨m,hm,rfl,hy,hr3,q3,hB3⟩:=hrel
      rename_i wr2
      have c3:=hr3.cells;have d3:=q3.cells
      by_cases hlm:m < k
      ·have hy0:=hy;clear hy
       obtain ⟨bb,oo,_,F2,he,hx2, -,jb⟩:=(h1.below (by decide) hB3).at m (by omega)
       cases he
       obtain ⟨u2,rfl, -⟩:=hx2
       have b0:=jb 0 (by decide)
       simp only [show EEntry.sz=3 from rfl,Nat.add_zero,List.getElem?_cons_zero] at b0
       clear jb
       have hmi:m < e.entries.length:=by omega
       by_cases hnum:e.entries[m].number=e.entries[k].number
       ·have hno:=Lib.hid (good_no hlt fun _=>by rw [hAt.out,any_take hmi hlm (by simpa using hnum)];rfl)
        have hEq:(e.entries[m].number == e.entries[k].number)=true:=by simpa using hnum
        go_wp2_with fail
        go_quiet (fail)
        go_wp2_with fail
        go_ret
        exact ⟨ret_bool hno.out.symm,belowDrewN hB3 _⟩
       ·have hEq:(e.entries[m].number == e.entries[k].number)=false:=by simpa using hnum
        have hnum:=Lib.hid hnum
        go_wp2_with fail
        go_quiet (fail)
        go_wp2_with fail
        exact ⟨⟨m+1,by omega,by go_num,fun q hq hql=>by rcases Nat.lt_or_eq_of_le (Nat.le_of_lt_succ hq) with h|h;exact hy0.out q h hql;subst h;exact hnum.out,hr3,q3,belowDrewN hB3 _⟩,by simp [intOf];omega⟩
      ·have hmk:m=k:=by omega
       subst hmk
       have hat:entAt e.clock e.entries m=true:=by
        rw [hAt.out,any_take_no hy.out];rfl
       have hat:=Lib.hid hat
       have hy0:=hy;clear hy
       go_wp2_with fail
       exact ⟨⟨m+1,by omega,by go_num,upto_snoc hz0.out hat.out,hr3,hB3⟩,by simp [intOf];omega⟩
    ·have t:¬isSer e.entries[k].number=true:=by assumption
     go_ret
     refine ⟨ret_bool (good_no hlt fun hc=>?_).symm,hB1 _⟩
     rw [entAt_of hlt];simp [okEntry,t]
  ·have hk:k=e.entries.length:=by omega
   subst hk
   have hn:=Lib.hid (show goodElement e=true by rw [hgood.out,allUpTo_yes hz.out])
   have hz0:=hz;clear hz
   go_wp2_with fail
   go_ret
   exact ⟨ret_bool hn.out.symm,hB⟩
theorem IsV.keep {α:Type} {E:Elem α} {w w':World} {v x F K} (h:IsV E w v x F) (hk:Keep K w w') (hd:∀b∈F,b ∉ K):IsV E w' v x F:=by
 obtain ⟨cs,hv,h⟩:=h;exact ⟨cs,hv,E.frame h fun b hb=>hk.block b (E.lt h b hb) (hd b hb)⟩
theorem IsV.lt {α:Type} {E:Elem α} {w:World} {v x F} (h:IsV E w v x F):∀b∈F,b < w.heap.size:=by
 obtain ⟨cs,hv,h⟩:=h;exact E.lt h
theorem IsV.drewN {α:Type} {E:Elem α} {w:World} {v x F} (h:IsV E w v x F) (n:Nat):IsV E (w.drewN n) v x F:=by
 obtain ⟨cs,hv,h⟩:=h;exact ⟨cs,hv,E.frame h fun _ _=>rfl⟩
theorem Sl.drewN {α:Type} {E:Elem α} {w:World} {v} {xs:List α} {F} (h:Sl E w v xs F) (n:Nat):Sl E (w.drewN n) v xs F:=h.frame fun _ _=>rfl
theorem Sl.keep {α:Type} {E:Elem α} {w w':World} {v} {xs:List α} {F K} (h:Sl E w v xs F) (hk:Keep K w w') (hd:∀b∈F,b ∉ K) (hz:0 < E.sz:=by decide):Sl E w' v xs F :=
 h.frame fun b hb=>hk.block b (h.lt hz b hb) (hd b hb)
theorem Ow.drewN {α:Type} {E:Elem α} {t:TypeId} {w:World} {v} {xs:List α} {F} (h:Ow E t w v xs F) (n:Nat):Ow E t (w.drewN n) v xs F:=h.frame fun _ _=>rfl
theorem Row.drewN {w g t cs} (h:Row w g t cs) (n:Nat):Row (w.drewN n) g t cs:=h
section
variable {P:Program} {ops:Array Oper} {Q:Exit→Act→World→Prop} {md:Region.Mode} {S:World→Prop} {X:Nat→Bool}
def AnyX (P:Program) (md:Region.Mode) (ops:Array Oper) (Q:Exit→Act→World→Prop) (S:World→Prop) (X:Nat→Bool):Nat→Array Bool→Act→World→Prop
 | 0,listed,a,w=>Region.ready md ops listed=[]∧Q .normal a w
 | f+1,listed,a,w=>(Region.ready md ops listed=[]→Q .normal a w) ∧
  ∀i∈Region.ready md ops listed,wpOp P ops Q i (fun a' w'=>(X i=false→S w')∧AnyX P md ops Q S X f (listed.setIfInBounds i true) a' w') a w
theorem AnyX.any:∀(f:Nat) (listed:Array Bool) (a:Act) (w:World),AnyX P md ops Q S X f listed a w→wpAny P md ops Q f listed a w
 | 0,_,_,_,h=>h
 | f+1,_,_,_,h=>⟨h.1,fun i hi=>wpOp_mono (fun a' w' h'=>AnyX.any f _ a' w' h'.2) (h.2 i hi)⟩
def Closed (md:Region.Mode) (ops:Array Oper) (listed:Array Bool):Prop:=∀j oj,ops[j]?=some oj→listed.getD j false=true→∀e∈oj.after,Region.binds md e=true→listed.getD e.on false=true
def closedB (md:Region.Mode) (ops:Array Oper) (listed:Array Bool):Bool :=
 (List.range ops.size).all fun j=>!listed.getD j false || ((ops[j]?).map fun o=>o.after.all fun e=>!Region.binds md e || listed.getD e.on false).getD true
theorem closed_of {listed:Array Bool} (h:closedB md ops listed=true):Closed md ops listed:=fun j oj hj hl e he hb=>by
 have h1:=List.all_eq_true.1 h j (List.mem_range.2 (Array.getElem?_eq_some_iff.1 hj).1)
 rw [hl,hj] at h1
 simp only [Bool.not_true,Bool.false_or,Option.map_some,Option.getD_some] at h1
 have h2:=Array.all_eq_true'.1 h1 e he
 rw [hb] at h2;simpa using h2
theorem Closed.set {listed:Array Bool} {i:Nat} (h:Closed md ops listed) (hi:i∈Region.ready md ops listed):Closed md ops (listed.setIfInBounds i true):=fun j oj hj hl e he hb=>by
 obtain ⟨_,oi,hoi,hall⟩:=mem_ready.1 hi
 by_cases hij:i=j
 ·subst hij
  obtain rfl:=Option.some.inj (hj.symm.trans hoi)
  exact getD_set_true (hall e he hb)
 ·rw [getD_set_ne false hij] at hl
  exact getD_set_true (h j oj hj hl e he hb)
def waitsFor' (md:Region.Mode) (ops:Array Oper) (i:Nat):Nat→Nat→Bool
 | 0,_=>false
 | f+1,j=>((ops[j]?).map fun o=>o.after.any fun e=>Region.binds md e && (e.on == i || waitsFor' md ops i f e.on)).getD false
theorem waits_listed {listed:Array Bool} {i:Nat} (hc:Closed md ops listed):∀(f j:Nat),(∀oj,ops[j]?=some oj→∀e∈oj.after,Region.binds md e=true→listed.getD e.on false=true)→waitsFor' md ops i f j=true→listed.getD i false=true
 | 0,_,_,h=>by cases h
 | f+1,j,hd,h=>by
  unfold waitsFor' at h
  cases hj:ops[j]? with
  | none=>rw [hj] at h;cases h
  | some o =>
   rw [hj] at h
   simp only [Option.map_some,Option.getD_some] at h
   obtain ⟨e,he,hb⟩:=Array.any_eq_true'.1 h
   simp only [Bool.and_eq_true,Bool.or_eq_true,beq_iff_eq] at hb
   have h1:=hd o hj e he hb.1
   rcases hb.2 with h2|h2
   ·rw [←h2];exact h1
   ·exact waits_listed hc f e.on (fun oe ho=>hc e.on oe ho h1) h2
def waitsAll (md:Region.Mode) (ops:Array Oper) (X:Nat→Bool) (i:Nat):Bool:=(List.range ops.size).all fun j=>!X j || waitsFor' md ops i ops.size j
theorem unlisted {listed:Array Bool} {i:Nat} (h:listed.getD i true=false):listed.getD i false=false:=by
 rcases Nat.lt_or_ge i listed.size with h'|h'
 ·simp [h'] at h ⊢;exact h
 ·simp [Array.getElem?_eq_none h'] at h
theorem AnyX.first {i:Nat} {oi:Oper} {v:Value} (hi:ops[i]?=some oi) (hsel:∀(j:Nat) (o:Oper) cs b,ops[j]?=some o→o.op≠.select cs b)
  (hQ:∀c a w,Q (.panic c) (a.put oi.dst v) w→Q (.panic c) a w) (hX:waitsAll md ops X i=true) :
  ∀(f:Nat) (listed:Array Bool) (a:Act) (w:World),
   (∀j oj,ops[j]?=some oj→j≠i→listed.getD j true=false→(∀e∈oj.after,Region.binds md e=true→e.on≠i)→oi.apart ops oj=true) →
   Closed md ops listed→i∈Region.ready md ops listed→YieldsIf P ops S oi v a→S w→AnyX P md ops Q S X f (listed.setIfInBounds i true) (a.put oi.dst v) w→AnyX P md ops Q S X (f+1) listed a w:=by
 intro f
 induction f with
 | zero =>
  intro listed a w _ _ hr hy hS H
  refine ⟨fun h=>(by rw [h] at hr;cases hr),fun j hj=>?_⟩
  by_cases hji:j=i
  ·subst hji;exact hy.wpOp hi hS ⟨fun _=>hS,H⟩
  ·have:=ready_mono hj hji
   rw [H.1] at this;cases this
 | succ f ih =>
  intro listed a w hfree hcl hr hy hS H
  refine ⟨fun h=>(by rw [h] at hr;cases hr),fun j hj=>?_⟩
  by_cases hji:j=i
  ·subst hji;exact hy.wpOp hi hS ⟨fun _=>hS,H⟩
  ·obtain ⟨hju,oj,hoj,hall⟩:=mem_ready.1 hj
   have hiu:=unlisted (mem_ready.1 hr).1
   have hnot:∀e∈oj.after,Region.binds md e=true→e.on≠i:=fun e he hb heq=>by
    have h1:=hall e he hb
    rw [heq,hiu] at h1;cases h1
   have hXj:X j=false:=by
    cases hx:X j
    ·rfl
    ·have h1:=List.all_eq_true.1 hX j (List.mem_range.2 (Array.getElem?_eq_some_iff.1 hoj).1)
     rw [hx] at h1
     have h2:=waits_listed hcl ops.size j (fun o ho=>by obtain rfl:=Option.some.inj (ho.symm.trans hoj);exact hall) (by simpa using h1)
     rw [hiu] at h2;cases h2
   have h2:=wpOp_putIf hoj (hfree j oj hoj hji hju hnot) (fun cs b=>hsel i oi cs b hi) (fun cs b=>hsel j oj cs b hoj) hQ hy (H.2 j (ready_mono hj hji))
   refine wpOp_mono (fun a' w' h3=>⟨fun _=>h3.2.1 hXj,ih (listed.setIfInBounds j true) a' w' (fun k ok hk hki hun hno=>hfree k ok hk hki ?_ hno) (hcl.set hj) (ready_mono hr (Ne.symm hji)) h3.1 (h3.2.1 hXj) ?_⟩) h2
   ·by_cases hjk:j=k
    ·subst hjk;exact hju
    ·rw [getD_set_ne true hjk] at hun;exact hun
   ·rw [Array.setIfInBounds_comm _ _ hji];exact h3.2.2
theorem AnyX.take {i:Nat} {oi:Oper} {v:Value} {f:Nat} {listed:Array Bool} {a:Act} {w:World} (hi:ops[i]?=some oi)
  (hs:Region.noSelect ops=true) (hf:Region.free md ops listed i=true) (hr:(Region.ready md ops listed).contains i=true) (hX:waitsAll md ops X i=true) (hc:closedB md ops listed=true)
  (hQ:∀c a w,Q (.panic c) (a.put oi.dst v) w→Q (.panic c) a w) (hy:YieldsIf P ops S oi v a) (hS:S w)
  (h:AnyX P md ops Q S X f (listed.setIfInBounds i true) (a.put oi.dst v) w):AnyX P md ops Q S X (f+1) listed a w :=
 AnyX.first hi (Region.noSelect_spec hs) hQ hX f listed a w (Region.free_spec hi hf) (closed_of hc) (by simpa using hr) hy hS h
theorem AnyX.only {i:Nat} {o:Oper} {f:Nat} {listed:Array Bool} {a:Act} {w:World} (hr:Region.ready md ops listed=[i]) (ho:ops[i]?=some o)
  (h:∀K':Act→World→Prop,Shut (∀a w,(X i=false→S w)→AnyX P md ops Q S X f (listed.setIfInBounds i true) a w→K' a w)→if Region.wanted o (yielded ops a.tmps)=true then Oper.wp P o a w K' Q else K' (a.put o.dst undef) w) :
  AnyX P md ops Q S X (f+1) listed a w :=
 by
 refine ⟨fun h0=>(by rw [hr] at h0;cases h0),fun j hj=>?_⟩
 rw [hr] at hj
 obtain rfl:j=i:=by simpa using hj
 exact wpOp_step ho (fun K' hK=>h K' (fun a w hS hW=>hK a w ⟨hS,hW⟩))
theorem AnyX.two {i j:Nat} {oi oj:Oper} {f:Nat} {listed:Array Bool} {a:Act} {w:World} (hr:Region.ready md ops listed=[i,j]) (hoi:ops[i]?=some oi) (hoj:ops[j]?=some oj)
  (h:∀K':Act→World→Prop,Shut (∀a w,(X i=false→S w)→AnyX P md ops Q S X f (listed.setIfInBounds i true) a w→K' a w)→if Region.wanted oi (yielded ops a.tmps)=true then Oper.wp P oi a w K' Q else K' (a.put oi.dst undef) w)
  (h2:∀K':Act→World→Prop,Shut (∀a w,(X j=false→S w)→AnyX P md ops Q S X f (listed.setIfInBounds j true) a w→K' a w)→if Region.wanted oj (yielded ops a.tmps)=true then Oper.wp P oj a w K' Q else K' (a.put oj.dst undef) w) :
  AnyX P md ops Q S X (f+1) listed a w:=by
 refine ⟨fun h0=>(by rw [hr] at h0;cases h0),fun k hk=>?_⟩
 rw [hr] at hk
 simp only [List.mem_cons,List.not_mem_nil,or_false] at hk
 rcases hk with rfl|rfl
 ·exact wpOp_step hoi (fun K' hK=>h K' (fun a w hS hW=>hK a w ⟨hS,hW⟩))
 ·exact wpOp_step hoj (fun K' hK=>h2 K' (fun a w hS hW=>hK a w ⟨hS,hW⟩))
theorem AnyX.done {listed:Array Bool} {a:Act} {w:World} (hr:Region.ready md ops listed=[]) (h:Q .normal a w):∀f,AnyX P md ops Q S X f listed a w
 | 0=>⟨hr,h⟩
 | _+1=>⟨fun _=>h,by rw [hr];simp⟩
theorem AnyX.start {id:Nat} {a:Act} {w:World} (hm:P.follows .mixedOrders=true) (h:AnyX P .any ops Q S X ops.size (Array.replicate ops.size false) a w.drew):(Code.region id ops true).wp P Q a w :=
 wp_region_any hm (AnyX.any _ _ _ _ h)
end
end Go.Proofs.YtgmbfohkpfineaaGreatDoor
