/- Part 1 of the proof: 16 texts, one behind the other. -/
import Derived.WalkKit
import Derived.Lib.Hide
import Derived.Deep.Draws
import Derived.Deep.AppendLies
import Derived.OwnWalk
import Derived.Test.YtgmbfohkpfineaaGreatDoorRows
import Derived.WalkSpells
import Derived.WalkLawsBesides
import Derived.Deep.QuietTactic
import Derived.BigQuiet
import Derived.Deep.RegionHeld3
import Derived.Deep.OwnRows
set_option maxRecDepth 100000
set_option maxHeartbeats 8000000
set_option linter.all false
set_option linter.unusedVariables false
set_option linter.unusedSimpArgs false
namespace Go.Proofs.YtgmbfohkpfineaaGreatDoor
open Go.RowKit
theorem kc {w w':World} {a:Addr} {v:Value} (hb:Below w.heap.size w w') (h:w.cell? a=some v):w'.cell? a=some v :=
 (hb.cell (World.block_lt_of_cell? w a h)).trans h
theorem kf {w w':World} {a:Addr} {v:Value} (hb:Below w.heap.size w w') (h:w.cell? a=some v):w'.frozen? a=w.frozen? a :=
 hb.frozen (World.block_lt_of_cell? w a h)
theorem tr {B:Nat} {w w1 w2:World} (h:Below B w w1) (h':Below w1.heap.size w1 w2) (hB:B≤w.heap.size):Below B w w2:=h.trans (h'.mono (Nat.le_trans hB h.size))
structure Elem (α:Type) where
 sz:Nat
 rep:World→List Value→α→List Nat→Prop
 len:∀{w cs x F},rep w cs x F→cs.length=sz
 lt:∀{w cs x F},rep w cs x F→∀b∈F,b < w.heap.size
 frame:∀{w w':World} {cs x F},rep w cs x F→(∀b∈F,w'.heap[b]?=w.heap[b]?)→rep w' cs x F
def Cells {α:Type} (E:Elem α) (w:World) (b:Nat):Nat→List α→List Nat→Prop
 | _,[],F=>F=[]
 | off,x::r,F=>∃cs F1 F2,F=F1++F2∧E.rep w cs x F1∧(∀j,j < E.sz→w.cell? ⟨b,off+j,none⟩=cs[j]?)∧Cells E w b (off+E.sz) r F2
def Sl {α:Type} (E:Elem α) (w:World) (v:Value) (xs:List α) (F:List Nat):Prop :=
 ∃a cap,v=.slice a xs.length cap∧(xs.length≤cap∧cap≤maxLen) ∧
  ((xs=[]∧F=[]∧(a=none→cap=0))∨∃b off F',a=some ⟨b,off,none⟩∧xs≠[]∧F=b::F'∧Cells E w b off xs F')
theorem Cells.lt {α:Type} {E:Elem α} {w:World} {b:Nat}:∀{xs:List α} {off:Nat} {F:List Nat},Cells E w b off xs F→∀c∈F,c < w.heap.size
 | [],_,_,h=>by simp [Cells] at h;simp [h]
 | _::r,_,_,h=>by
  obtain ⟨cs,F1,F2,rfl,h1,_,h2⟩:=h
  intro c hc
  rcases List.mem_append.1 hc with hc|hc
  ·exact E.lt h1 c hc
  ·exact Cells.lt h2 c hc
theorem Cells.frame {α:Type} {E:Elem α} {w w':World} {b:Nat} (hb:w'.heap[b]?=w.heap[b]?):∀{xs:List α} {off:Nat} {F:List Nat},Cells E w b off xs F →
  (∀c∈F,w'.heap[c]?=w.heap[c]?)→Cells E w' b off xs F
 | [],_,_,h,_=>h
 | _::r,_,_,h,hF=>by
  obtain ⟨cs,F1,F2,rfl,h1,hc,h2⟩:=h
  refine ⟨cs,F1,F2,rfl,E.frame h1 fun c hc=>hF c (by simp [hc]),fun j hj=>?_,Cells.frame hb h2 fun c hc=>hF c (by simp [hc])⟩
  rw [World.cell?_of_block (w:=w) hb];exact hc j hj
theorem Cells.get {α:Type} {E:Elem α} {w:World} {b:Nat}:∀{xs:List α} {off:Nat} {F:List Nat},Cells E w b off xs F→∀(i:Nat) (hi:i < xs.length),
  ∃cs F1,E.rep w cs xs[i] F1∧(∀j,j < E.sz→w.cell? ⟨b,off+i * E.sz+j,none⟩=cs[j]?)∧∀c∈F1,c∈F
 | [],_,_,_,i,hi=>by simp at hi
 | x::r,off,_,h,0,_=>by
  obtain ⟨cs,F1,F2,rfl,h1,hc,h2⟩:=h
  exact ⟨cs,F1,h1,by simpa using hc,fun c hc=>by simp [hc]⟩
 | x::r,off,_,h,i+1,hi=>by
  obtain ⟨cs,F1,F2,rfl,h1,hc,h2⟩:=h
  obtain ⟨cs',F3,h3,hc3,hm⟩:=Cells.get h2 i (by simpa using hi)
  refine ⟨cs',F3,by simpa using h3,fun j hj=>?_,fun c hc=>by simp [hm c hc]⟩
  rw [←hc3 j hj,show off+(i+1) * E.sz+j=off+E.sz+i * E.sz+j by rw [Nat.add_mul];omega]
theorem Cells.block {α:Type} {E:Elem α} {w:World} {b off:Nat} {xs:List α} {F:List Nat} (h:Cells E w b off xs F) (hne:xs≠[]) (hz:0 < E.sz):b < w.heap.size:=by
 cases xs with
 | nil=>exact absurd rfl hne
 | cons x r =>
  obtain ⟨cs,F1,F2,rfl,h1,hc,h2⟩:=h
  have h0:=hc 0 hz
  have hl:=E.len h1
  rw [List.getElem?_eq_getElem (by omega)] at h0
  exact World.block_lt_of_cell? w _ h0
theorem Sl.lt {α:Type} {E:Elem α} (hz:0 < E.sz) {w v xs F} (h:Sl E w v xs F):∀c∈F,c < w.heap.size:=by
 obtain ⟨a,cap,_,_,⟨_,rfl,_⟩|⟨b,off,F',_,hne,rfl,hc⟩⟩:=h
 ·simp
 ·intro c hm
  rcases List.mem_cons.1 hm with rfl|hm
  ·exact hc.block hne hz
  ·exact hc.lt c hm
theorem Sl.frame {α:Type} {E:Elem α} {w w':World} {v xs F} (h:Sl E w v xs F) (hF:∀b∈F,w'.heap[b]?=w.heap[b]?):Sl E w' v xs F:=by
 obtain ⟨a,cap,hv,hl,⟨h1,h2⟩|⟨b,off,F',h1,hne,rfl,hc⟩⟩:=h
 ·exact ⟨a,cap,hv,hl,.inl ⟨h1,h2⟩⟩
 ·exact ⟨a,cap,hv,hl,.inr ⟨b,off,F',h1,hne,rfl,hc.frame (hF b (by simp)) fun c hc=>hF c (by simp [hc])⟩⟩
theorem Sl.below {α:Type} {E:Elem α} (hz:0 < E.sz) {w w':World} {v xs F} (h:Sl E w v xs F) (hb:Below w.heap.size w w'):Sl E w' v xs F :=
 h.frame fun c hc=>hb.block c (h.lt hz c hc)
def EInt:Elem Int where
 sz:=1
 rep _ cs z F:=cs=[.int .i64 z]∧F=[]
 len h:=by simp [h.1]
 lt h:=by simp [h.2]
 frame h _:=h
def EBool:Elem Bool where
 sz:=1
 rep _ cs z F:=cs=[.bool z]∧F=[]
 len h:=by simp [h.1]
 lt h:=by simp [h.2]
 frame h _:=h
def EStr:Elem ByteArray where
 sz:=1
 rep _ cs s F:=cs=[.string s]∧s.size≤maxLen∧F=[]
 len h:=by simp [h.1]
 lt h:=by simp [h.2.2]
 frame h _:=h
def ESl {α:Type} (E:Elem α) (hz:0 < E.sz):Elem (List α) where
 sz:=1
 rep w cs xs F:=∃v,cs=[v]∧Sl E w v xs F
 len h:=by obtain ⟨v,rfl,_⟩:=h;rfl
 lt h:=by obtain ⟨v,rfl,h⟩:=h;exact h.lt hz
 frame h hF:=by obtain ⟨v,rfl,h⟩:=h;exact ⟨v,rfl,h.frame hF⟩
def EUnit:Elem Unit where
 sz:=0
 rep _ cs _ F:=cs=[]∧F=[]
 len h:=by simp [h.1]
 lt h:=by simp [h.2]
 frame h _:=h
def EProd {α β:Type} (A:Elem α) (B:Elem β):Elem (α × β) where
 sz:=A.sz+B.sz
 rep w cs x F:=∃c1 c2 F1 F2,cs=c1++c2∧F=F1++F2∧A.rep w c1 x.1 F1∧B.rep w c2 x.2 F2
 len h:=by obtain ⟨c1,c2,F1,F2,rfl,rfl,h1,h2⟩:=h;simp [A.len h1,B.len h2]
 lt h:=by
  obtain ⟨c1,c2,F1,F2,rfl,rfl,h1,h2⟩:=h
  intro b hb
  rcases List.mem_append.1 hb with hb|hb
  ·exact A.lt h1 b hb
  ·exact B.lt h2 b hb
 frame h hF:=by
  obtain ⟨c1,c2,F1,F2,rfl,rfl,h1,h2⟩:=h
  exact ⟨c1,c2,F1,F2,rfl,rfl,A.frame h1 fun b hb=>hF b (by simp [hb]),B.frame h2 fun b hb=>hF b (by simp [hb])⟩
def Elem.comap {α β:Type} (B:Elem β) (f:α→β):Elem α where
 sz:=B.sz
 rep w cs x F:=B.rep w cs (f x) F
 len h:=B.len h
 lt h:=B.lt h
 frame h hF:=B.frame h hF
theorem Elem.below {α:Type} (E:Elem α) {w w':World} {cs x F} (h:E.rep w cs x F) (hb:Below w.heap.size w w'):E.rep w' cs x F :=
 E.frame h fun c hc=>hb.block c (E.lt h c hc)
structure LogRec where
 command:ByteArray
 reply:ByteArray
def ERec:Elem LogRec:=(EProd EStr (EProd EStr EUnit)).comap fun x=>(x.command,x.reply,())
theorem ERec.open {w cs x F} (h:ERec.rep w cs x F):cs=[.string x.command,.string x.reply]∧x.command.size≤maxLen∧x.reply.size≤maxLen:=by
 obtain ⟨c1,c2,F1,F2,rfl,rfl,⟨rfl,h1,_⟩,c3,c4,F3,F4,rfl,rfl,⟨rfl,h2,_⟩,rfl,_⟩:=h
 exact ⟨rfl,h1,h2⟩
structure Keep (F:List Nat) (w w':World):Prop where
 os:w'.os=w.os
 tape:w'.tape=w.tape
 output:w'.output=w.output
 size:w.heap.size≤w'.heap.size
 block:∀k,k < w.heap.size→k ∉ F→w'.heap[k]?=w.heap[k]?
theorem Keep.refl (F:List Nat) (w:World):Keep F w w:=⟨rfl,rfl,rfl,Nat.le_refl _,fun _ _ _=>rfl⟩
theorem Keep.trans {F:List Nat} {a b c:World} (h:Keep F a b) (k:Keep F b c):Keep F a c :=
 ⟨k.os.trans h.os,k.tape.trans h.tape,k.output.trans h.output,Nat.le_trans h.size k.size,fun i hi hf=>(k.block i (Nat.lt_of_lt_of_le hi h.size) hf).trans (h.block i hi hf)⟩
theorem Keep.mono {F G:List Nat} {a b:World} (h:Keep F a b) (hs:∀x∈F,x < a.heap.size→x∈G):Keep G a b :=
 ⟨h.os,h.tape,h.output,h.size,fun k hk hg=>h.block k hk fun hf=>hg (hs k hf hk)⟩
theorem Keep.ofBelow {F:List Nat} {w w':World} (h:Below w.heap.size w w'):Keep F w w':=⟨h.os,h.tape,h.output,h.size,fun k hk _=>h.block k hk⟩
theorem Keep.below {F:List Nat} {w w':World} {B:Nat} (h:Keep F w w') (hB:B≤w.heap.size) (hF:∀b∈F,B≤b):Below B w w' :=
 ⟨h.os,h.tape,h.output,h.size,fun k hk=>h.block k (by omega) fun hf=>by have:=hF k hf;omega⟩
theorem Keep.setCell {F:List Nat} {w w':World} (h:Keep F w w') {p:Addr} (hp:p.block∈F) (u:Value):Keep F w (w'.setCell p u) :=
 h.trans ⟨rfl,rfl,rfl,by simp [World.setCell],fun k _ hf=>Below.heap_setCell _ _ _ _ (fun e=>hf (e▸hp))⟩
theorem Keep.alloc {F:List Nat} {w w':World} (h:Keep F w w') (o:Obj):Keep F w (w'.alloc o) :=
 h.trans ⟨rfl,rfl,rfl,by simp,fun k hk _=>Below.heap_alloc _ _ _ hk⟩
theorem Keep.drewN {F:List Nat} {w w':World} (h:Keep F w w') (n:Nat):Keep F w (w'.drewN n):=⟨h.os,h.tape,h.output,h.size,h.block⟩
theorem Keep.cell {F:List Nat} {w w':World} (h:Keep F w w') {a:Addr} {v:Value} (ha:a.block ∉ F) (hc:w.cell? a=some v):w'.cell? a=some v :=
 (World.cell?_of_block (w:=w) (h.block a.block (World.block_lt_of_cell? w a hc) ha)).trans hc
theorem belowDrewN {B:Nat} {a w:World} (h:Below B a w) (n:Nat):Below B a (w.drewN n):=⟨h.os,h.tape,h.output,h.size,h.block⟩
def Row (w:World) (g:Nat) (t:TypeId) (cs:List Value):Prop:=w.heap[g]?=some (.cells cs.toArray t (0,0))
theorem Row.lt {w g t cs} (h:Row w g t cs):g < w.heap.size:=by
 rcases Nat.lt_or_ge g w.heap.size with h1|h1
 ·exact h1
 ·rw [Row,Array.getElem?_eq_none h1] at h;simp at h
theorem Row.cell {w g t cs} (h:Row w g t cs) (j:Nat):w.cell? ⟨g,j,none⟩=cs[j]?:=by
 simp [World.cell?,show w.heap[g]?=_ from h]
theorem Row.frozen {w g t cs} (h:Row w g t cs) (j:Nat):w.frozen? ⟨g,j,none⟩=false:=by
 simp [World.frozen?,show w.heap[g]?=_ from h]
theorem Row.keep {w w' g t cs} (h:Row w g t cs) (e:w'.heap[g]?=w.heap[g]?):Row w' g t cs:=e.trans h
theorem Row.below {w w' g t cs} (h:Row w g t cs) (hb:Below w.heap.size w w'):Row w' g t cs:=h.keep (hb.block g h.lt)
theorem Row.set {w g t cs} (h:Row w g t cs) (j:Nat) (u:Value):Row (w.setCell ⟨g,j,none⟩ u) g t (cs.set j u):=by
 have h':w.heap[g]?=_:=h
 simp [Row,World.setCell,Array.getElem?_modify,h']
theorem Row.setOther {w g t cs} (h:Row w g t cs) {p:Addr} (hp:p.block≠g) (u:Value):Row (w.setCell p u) g t cs :=
 h.keep (Below.heap_setCell _ _ _ _ (fun e=>hp e.symm))
theorem Row.cells {w g t cs} (h:Row w g t cs):∀j,w.cell? ⟨g,j,none⟩=cs[j]?:=h.cell
theorem Row.frozens {w g t cs} (h:Row w g t cs):∀j,w.frozen? ⟨g,j,none⟩=false:=h.frozen
theorem Row.made (w:World) (t:TypeId) (cs:List Value):Row (w.alloc (.cells cs.toArray t)) w.heap.size t cs:=heap_alloc_new w _
theorem Row.alloc {w g t cs} (h:Row w g t cs) (o:Obj):Row (w.alloc o) g t cs:=h.keep (Below.heap_alloc _ _ _ h.lt)
theorem row_alloc (w:World) (o:Obj) (g:Nat) (t:TypeId) (cs:List Value):Row (w.alloc o) g t cs↔if g=w.heap.size then o=.cells cs.toArray t (0,0) else Row w g t cs:=by
 unfold Row
 show (w.heap.push o)[g]?=_↔_
 rw [Array.getElem?_push]
 split <;> simp
def Flat {α:Type} (E:Elem α) (w:World):List Value→List α→List Nat→Prop
 | cs,[],G=>cs=[]∧G=[]
 | cs,x::r,G=>∃c1 c2 F1 F2,cs=c1++c2∧G=F1++F2∧E.rep w c1 x F1∧Flat E w c2 r F2
section
variable {α:Type} {E:Elem α}
theorem Flat.len {w:World}:∀{xs:List α} {cs:List Value} {G:List Nat},Flat E w cs xs G→cs.length=xs.length * E.sz
 | [],_,_,h=>by simp [h.1]
 | x::r,_,_,h=>by
  obtain ⟨c1,c2,F1,F2,rfl,rfl,h1,h2⟩:=h
  rw [List.length_append,E.len h1,h2.len,List.length_cons,Nat.add_mul];omega
theorem Flat.lt {w:World}:∀{xs:List α} {cs:List Value} {G:List Nat},Flat E w cs xs G→∀b∈G,b < w.heap.size
 | [],_,_,h=>by simp [h.2]
 | x::r,_,_,h=>by
  obtain ⟨c1,c2,F1,F2,rfl,rfl,h1,h2⟩:=h
  intro b hb
  rcases List.mem_append.1 hb with hb|hb
  ·exact E.lt h1 b hb
  ·exact h2.lt b hb
theorem Flat.frame {w w':World}:∀{xs:List α} {cs:List Value} {G:List Nat},Flat E w cs xs G→(∀b∈G,w'.heap[b]?=w.heap[b]?)→Flat E w' cs xs G
 | [],_,_,h,_=>h
 | x::r,_,_,h,hG=>by
  obtain ⟨c1,c2,F1,F2,rfl,rfl,h1,h2⟩:=h
  exact ⟨c1,c2,F1,F2,rfl,rfl,E.frame h1 fun b hb=>hG b (by simp [hb]),h2.frame fun b hb=>hG b (by simp [hb])⟩
theorem Flat.append {w:World}:∀{xs ys:List α} {cs ds:List Value} {G H:List Nat},Flat E w cs xs G→Flat E w ds ys H→Flat E w (cs++ds) (xs++ys) (G++H)
 | [],_,_,_,_,_,h,k=>by obtain ⟨rfl,rfl⟩:=h;simpa using k
 | x::r,_,_,_,_,_,h,k=>by
  obtain ⟨c1,c2,F1,F2,rfl,rfl,h1,h2⟩:=h
  exact ⟨c1,_,F1,_,by rw [List.append_assoc],by rw [List.append_assoc],h1,h2.append k⟩
theorem Flat.one {w:World} {x:α} {cs:List Value} {G:List Nat} (h:E.rep w cs x G):Flat E w cs [x] G:=⟨cs,[],G,[],by simp,by simp,h,rfl,rfl⟩
theorem Flat.split {w:World}:∀{xs ys:List α} {cs:List Value} {G:List Nat},Flat E w cs (xs++ys) G→∃c1 c2 G1 G2,cs=c1++c2∧G=G1++G2∧Flat E w c1 xs G1∧Flat E w c2 ys G2
 | [],_,cs,G,h=>⟨[],cs,[],G,rfl,rfl,⟨rfl,rfl⟩,h⟩
 | x::r,_,_,_,h=>by
  obtain ⟨c1,c2,F1,F2,rfl,rfl,h1,h2⟩:=h
  obtain ⟨d1,d2,G1,G2,rfl,rfl,h3,h4⟩:=h2.split
  exact ⟨c1++d1,d2,F1++G1,G2,by simp,by simp,⟨c1,d1,F1,G1,rfl,rfl,h1,h3⟩,h4⟩
theorem Flat.focus {w:World} {xs:List α} {cs:List Value} {G:List Nat} (h:Flat E w cs xs G) (i:Nat) (hi:i < xs.length) :
  ∃A c B G1 Fi G2,cs=A++c++B∧G=G1++Fi++G2∧A.length=i * E.sz∧c.length=E.sz∧Flat E w A (xs.take i) G1∧E.rep w c xs[i] Fi∧Flat E w B (xs.drop (i+1)) G2:=by
 have e:xs=xs.take i++xs[i]::xs.drop (i+1):=by simp
 rw [e] at h
 obtain ⟨A,c2,G1,G2,rfl,rfl,h1,c,B,F1,F2,rfl,rfl,h2,h3⟩:=h.split
 exact ⟨A,c,B,G1,F1,F2,by simp,by simp,by rw [h1.len,List.length_take,Nat.min_eq_left (by omega)],E.len h2,h1,h2,h3⟩
theorem Flat.build {w:World} {xs:List α} {A c B:List Value} {G1 Fi G2:List Nat} {i:Nat} (hi:i < xs.length) {x:α} (h1:Flat E w A (xs.take i) G1) (h2:E.rep w c x Fi) (h3:Flat E w B (xs.drop (i+1)) G2) :
  Flat E w (A++c++B) (xs.set i x) (G1++Fi++G2):=by
 have e:xs.set i x=xs.take i++[x]++xs.drop (i+1):=by
  rw [List.set_eq_take_append_cons_drop];simp [hi]
 rw [e]
 exact (h1.append (Flat.one h2)).append h3
def Ow (E:Elem α) (t:TypeId) (w:World) (v:Value) (xs:List α) (F:List Nat):Prop :=
 (v=.slice none 0 0∧xs=[]∧F=[]) ∨
 ∃g cap cs rest G,v=.slice (some ⟨g,0,none⟩) xs.length cap∧Row w g t (cs++rest)∧xs.length≤cap∧cap≤maxLen∧cs.length+rest.length=cap * E.sz∧Flat E w cs xs G∧F=g::G
theorem Ow.lt {t:TypeId} {w v} {xs:List α} {F} (h:Ow E t w v xs F):∀b∈F,b < w.heap.size:=by
 rcases h with ⟨_,_,rfl⟩|⟨g,cap,cs,rest,G,_,hr,_,_,_,hf,rfl⟩
 ·simp
 ·intro b hb
  rcases List.mem_cons.1 hb with rfl|hb
  ·exact hr.lt
  ·exact hf.lt b hb
theorem Ow.frame {t:TypeId} {w w':World} {v} {xs:List α} {F} (h:Ow E t w v xs F) (hF:∀b∈F,w'.heap[b]?=w.heap[b]?):Ow E t w' v xs F:=by
 rcases h with h|⟨g,cap,cs,rest,G,hv,hr,h1,h2,h3,hf,rfl⟩
 ·exact .inl h
 ·exact .inr ⟨g,cap,cs,rest,G,hv,hr.keep (hF g (by simp)),h1,h2,h3,hf.frame fun b hb=>hF b (by simp [hb]),rfl⟩
theorem Ow.below {t:TypeId} {w w':World} {v} {xs:List α} {F} (h:Ow E t w v xs F) (hb:Below w.heap.size w w'):Ow E t w' v xs F :=
 h.frame fun b h'=>hb.block b (h.lt b h')
theorem Ow.keep {t:TypeId} {w w':World} {v} {xs:List α} {F K} (h:Ow E t w v xs F) (hk:Keep K w w') (hd:∀b∈F,b ∉ K):Ow E t w' v xs F :=
 h.frame fun b h'=>hk.block b (h.lt b h') (hd b h')
theorem Ow.setFar {t:TypeId} {w:World} {v} {xs:List α} {F} (h:Ow E t w v xs F) {p:Addr} (hp:p.block ∉ F) (u:Value):Ow E t (w.setCell p u) v xs F :=
 h.frame fun b hb=>Below.heap_setCell _ _ _ _ fun e=>hp (e▸hb)
theorem Ow.len {t:TypeId} {w v} {xs:List α} {F} (h:Ow E t w v xs F):xs.length≤maxLen:=by
 rcases h with ⟨_,rfl,_⟩|⟨g,cap,cs,rest,G,_,_,h1,h2,_⟩
 ·simp
 ·omega
theorem Ow.slice {t:TypeId} {w v} {xs:List α} {F} (h:Ow E t w v xs F):∃a cap,v=.slice a xs.length cap:=by
 rcases h with ⟨rfl,rfl,_⟩|⟨g,cap,cs,rest,G,rfl,_⟩
 ·exact ⟨none,0,rfl⟩
 ·exact ⟨_,_,rfl⟩
theorem Ow.focus {t:TypeId} {w v} {xs:List α} {F} (h:Ow E t w v xs F) (i:Nat) (hi:i < xs.length) :
  ∃g cap A c B G1 Fi G2,v=.slice (some ⟨g,0,none⟩) xs.length cap∧Row w g t (A++c++B)∧A.length=i * E.sz∧c.length=E.sz∧E.rep w c xs[i] Fi∧F=g::(G1++Fi++G2) ∧
   (∀b∈G1++G2,b < w.heap.size) ∧
   ∀w' c' x' Fi',Row w' g t (A++c'++B)→E.rep w' c' x' Fi'→(∀b∈G1++G2,w'.heap[b]?=w.heap[b]?)→Ow E t w' v (xs.set i x') (g::(G1++Fi'++G2)):=by
 rcases h with ⟨_,rfl,_⟩|⟨g,cap,cs,rest,G,rfl,hr,h1,h2,h3,hf,rfl⟩
 ·simp at hi
 ·obtain ⟨A,c,B,G1,Fi,G2,rfl,rfl,hA,hc,hfA,hx,hfB⟩:=hf.focus i hi
  refine ⟨g,cap,A,c,B++rest,G1,Fi,G2,rfl,by simpa using hr,hA,hc,hx,rfl,?_,?_⟩
  ·intro b hb
   rcases List.mem_append.1 hb with hb|hb
   ·exact hfA.lt b hb
   ·exact hfB.lt b hb
  ·intro w' c' x' Fi' hr' hx' hG
   refine .inr ⟨g,cap,A++c'++B,rest,G1++Fi'++G2,by simp,by simpa using hr',by simpa using h1,h2,?_,?_,rfl⟩
   ·have:=E.len hx'
    simp only [List.length_append] at h3 ⊢
    omega
   ·exact Flat.build hi (hfA.frame fun b hb=>hG b (by simp [hb])) hx' (hfB.frame fun b hb=>hG b (by simp [hb]))
structure Weak {α:Type} (O R:Elem α):Prop where
 sz:O.sz=R.sz
 rep:∀{w cs x F},O.rep w cs x F→∃F',(∀b∈F',b∈F)∧R.rep w cs x F'
theorem Weak.refl {α:Type} (E:Elem α):Weak E E:=⟨rfl,fun h=>⟨_,fun _ h=>h,h⟩⟩
theorem Ow.sl {O R:Elem α} (hW:Weak O R) {t:TypeId} {w v} {xs:List α} {F} (h:Ow O t w v xs F):∃F',(∀b∈F',b∈F)∧Sl R w v xs F':=by
 have key:∀(xs:List α) (cs:List Value) (G:List Nat) (g off:Nat),Flat O w cs xs G→(∀j,j < cs.length→w.cell? ⟨g,off+j,none⟩=cs[j]?)→∃G',(∀b∈G',b∈G)∧Cells R w g off xs G':=by
  intro xs
  induction xs with
  | nil=>intro cs G g off h _;exact ⟨[],by simp,rfl⟩
  | cons x r ih =>
   intro cs G g off h hc
   obtain ⟨c1,c2,F1,F2,rfl,rfl,h1,h2⟩:=h
   have hl:=O.len h1
   have hs:=hW.sz
   obtain ⟨F1',hs1,hr1⟩:=hW.rep h1
   obtain ⟨F2',hs2,hr2⟩:=ih c2 F2 g (off+R.sz) h2 fun j hj=>by
    have:=hc (c1.length+j) (by simp;omega)
    rw [List.getElem?_append_right (by omega),show c1.length+j - c1.length=j by omega] at this
    rw [←this,show off+R.sz+j=off+(c1.length+j) by omega]
   refine ⟨F1'++F2',fun b hb=>?_,c1,F1',F2',rfl,hr1,fun j hj=>?_,hr2⟩
   ·rcases List.mem_append.1 hb with hb|hb
    ·simp [hs1 b hb]
    ·simp [hs2 b hb]
   ·rw [hc j (by simp;omega),List.getElem?_append_left (by omega)]
 have hl:=h.len
 rcases h with ⟨rfl,rfl,rfl⟩|⟨g,cap,cs,rest,G,rfl,hrow,h1,h2,h3,hf,rfl⟩
 ·exact ⟨[],by simp,none,0,rfl,by simp,.inl ⟨rfl,rfl,fun _=>rfl⟩⟩
 ·by_cases h0:xs=[]
  ·subst h0
   exact ⟨[],by simp,some ⟨g,0,none⟩,cap,rfl,⟨by simp,h2⟩,.inl ⟨rfl,rfl,fun e=>by cases e⟩⟩
  ·obtain ⟨G',hG,hc⟩:=key xs cs G g 0 hf fun j hj=>by rw [Nat.zero_add,hrow.cell,List.getElem?_append_left hj]
   exact ⟨g::G',fun b hb=>by rcases List.mem_cons.1 hb with rfl|hb;simp;simp [hG b hb],_,cap,rfl,⟨h1,h2⟩,.inr ⟨g,0,G',rfl,h0,rfl,hc⟩⟩
theorem Ow.read {t:TypeId} {w v} {xs:List α} {F} (h:Ow E t w v xs F):∃F',(∀b∈F',b∈F)∧Sl E w v xs F':=by
 exact h.sl (Weak.refl E)
end
theorem Weak.slice {α:Type} {O R:Elem α} (h:Weak O R) (hz:0 < R.sz) (t:TypeId) {w v} {xs:List α} {F} (ho:Ow O t w v xs F):∃F',(∀b∈F',b∈F)∧(ESl R hz).rep w [v] xs F':=by
 obtain ⟨F',h1,h2⟩:=ho.sl h;exact ⟨F',h1,v,rfl,h2⟩
def OSl {α:Type} (E:Elem α) (t:TypeId):Elem (List α) where
 sz:=1
 rep w cs xs F:=∃v,cs=[v]∧Ow E t w v xs F
 len h:=by obtain ⟨v,rfl,_⟩:=h;rfl
 lt h:=by obtain ⟨v,rfl,h⟩:=h;exact h.lt
 frame h hF:=by obtain ⟨v,rfl,h⟩:=h;exact ⟨v,rfl,h.frame hF⟩
theorem set_mid (A c B:List Value) (j:Nat) (hj:j < c.length) (u:Value):(A++c++B).set (A.length+j) u=A++c.set j u++B:=by
 rw [List.append_assoc,List.set_append_right _ _ (by omega),show A.length+j - A.length=j by omega,List.set_append_left _ _ hj,List.append_assoc]
theorem Row.setMid {w g t} {A c B:List Value} (h:Row w g t (A++c++B)) {p j:Nat} (hp:p=A.length+j) (hj:j < c.length) (u:Value):Row (w.setCell ⟨g,p,none⟩ u) g t (A++c.set j u++B):=by
 subst hp;rw [←set_mid _ _ _ _ hj];exact h.set _ u
theorem Row.cellMid {w g t} {A c B:List Value} (h:Row w g t (A++c++B)) {p j:Nat} (hp:p=A.length+j) (hj:j < c.length):w.cell? ⟨g,p,none⟩=c[j]?:=by
 subst hp;rw [h.cell,List.append_assoc,List.getElem?_append_right (by omega),show A.length+j - A.length=j by omega,List.getElem?_append_left hj]
def putCells (w:World) (g:Nat):Nat→List Value→World
 | _,[]=>w
 | p,u::r=>putCells (w.setCell ⟨g,p,none⟩ u) g (p+1) r
theorem Row.put {g t}:∀(c' c:List Value) {w:World} {A B:List Value} {p:Nat},Row w g t (A++c++B)→p=A.length→c'.length=c.length→Row (putCells w g p c') g t (A++c'++B)
 | [],[],_,_,_,_,h,_,_=>h
 | u::r,d::c,w,A,B,p,h,hp,hl=>by
  have h1:=h.setMid (p:=p) (j:=0) (by omega) (by simp) u
  simp only [List.set_cons_zero] at h1
  have h2:=Row.put r c (w:=w.setCell ⟨g,p,none⟩ u) (A:=A++[u]) (B:=B) (p:=p+1) (by simpa using h1) (by simp;omega) (by simpa using hl)
  simpa [putCells] using h2
 | [],_::_,_,_,_,_,_,_,hl=>by simp at hl
 | _::_,[],_,_,_,_,_,_,hl=>by simp at hl
theorem putCells_other {g:Nat}:∀(c:List Value) (w:World) (p:Nat) (b:Nat),b≠g→(putCells w g p c).heap[b]?=w.heap[b]?
 | [],_,_,_,_=>rfl
 | _::r,_,_,b,hb=>(putCells_other r _ _ b hb).trans (Below.heap_setCell _ _ _ _ hb)
theorem putCells_keep {g:Nat}:∀(c:List Value) (w:World) (p:Nat),Keep [g] w (putCells w g p c)
 | [],w,_=>Keep.refl _ w
 | u::r,w,p=>((Keep.refl [g] w).setCell (p:=⟨g,p,none⟩) (by simp) u).trans (putCells_keep r _ _)
theorem Ow.put {α:Type} {E:Elem α} {t:TypeId} {w:World} {g n cap:Nat} {xs:List α} {F:List Nat} (h:Ow E t w (.slice (some ⟨g,0,none⟩) n cap) xs F) (hn:F.Nodup) (i:Nat) (hi:i < xs.length) :
  g∈F∧(∀j,j < E.sz→(∃u,w.cell? ⟨g,i * E.sz+j,none⟩=some u)∧w.frozen? ⟨g,i * E.sz+j,none⟩=false) ∧
  ∀c' x' F',E.rep w c' x' F'→F'.Nodup→(∀b∈F',b ∉ F)→∃F2,Ow E t (putCells w g (i * E.sz) c') (.slice (some ⟨g,0,none⟩) n cap) (xs.set i x') F2∧F2.Nodup∧∀b∈F2,b∈F∨b∈F':=by
 obtain ⟨g',cp,A,c,B,G1,Fi,G2,hv,hrow,hA,hcl,hx,rfl,hlt,back⟩:=h.focus i hi
 simp only [Value.slice.injEq,Option.some.injEq,Addr.mk.injEq] at hv
 obtain ⟨⟨rfl,_⟩,rfl,rfl⟩:=hv
 have hnd:g ∉ G1++G2:=fun hm=>by simp at hn hm;rcases hm with hm|hm <;> simp [hm] at hn
 refine ⟨by simp,fun j hj=>⟨⟨c[j]'(by omega),by rw [hrow.cellMid (j:=j) (by omega) (by omega),List.getElem?_eq_getElem]⟩,hrow.frozen _⟩,fun c' x' F' hx' hn' hd=>⟨g::(G1++F'++G2),?_,?_,?_⟩⟩
 ·have hl:=E.len hx'
  have hg:g ∉ F':=fun e=>hd g e (by simp)
  exact back _ c' x' F' (hrow.put c' c (by omega) (by omega)) (E.frame hx' fun b hb=>putCells_other _ _ _ _ fun e=>hg (e▸hb)) fun b hb=>putCells_other _ _ _ _ fun e=>hnd (e▸hb)
 ·have hd1:∀b∈F',b≠g∧b ∉ G1∧b ∉ G2:=fun b hb=>by have:=hd b hb;simp at this;exact ⟨this.1,this.2.1,this.2.2.2⟩
  simp only [List.nodup_cons,List.nodup_append,List.mem_append,not_or] at hn ⊢
  obtain ⟨⟨⟨h1,h2⟩,h3⟩,⟨h4,h5,h6⟩,h7,h8⟩:=hn
  refine ⟨⟨⟨h1,fun e=>(hd1 g e).1 rfl⟩,h3⟩,⟨h4,hn',fun a ha b hb e=>(hd1 b hb).2.1 (e▸ha)⟩,h7,fun a ha b hb=>?_⟩
  rcases ha with ha|ha
  ·exact h8 a (.inl ha) b hb
  ·exact fun e=>(hd1 a ha).2.2 (e▸hb)
 ·intro b hb;simp at hb ⊢;rcases hb with hb|hb|hb|hb <;> simp [hb]
theorem Ow.inPlace {α:Type} {E:Elem α} {t:TypeId} {w:World} {g n cap:Nat} {xs:List α} {F:List Nat} (h:Ow E t w (.slice (some ⟨g,0,none⟩) n cap) xs F) (hn:F.Nodup) (i:Nat) (hi:i < xs.length) :
  ∃A c B Fi,Row w g t (A++c++B)∧A.length=i * E.sz∧c.length=E.sz∧E.rep w c xs[i] Fi∧Fi.Nodup∧g ∉ Fi∧g∈F∧(∀b∈Fi,b∈F) ∧
   ∀w' c' x',Row w' g t (A++c'++B)→E.rep w' c' x' Fi→Keep (g::Fi) w w'→Ow E t w' (.slice (some ⟨g,0,none⟩) n cap) (xs.set i x') F:=by
 obtain ⟨g',cp,A,c,B,G1,Fi,G2,hv,hrow,hA,hcl,hx,rfl,hlt,back⟩:=h.focus i hi
 simp only [Value.slice.injEq,Option.some.injEq,Addr.mk.injEq] at hv
 obtain ⟨⟨rfl,_⟩,rfl,rfl⟩:=hv
 simp only [List.nodup_cons,List.nodup_append,List.mem_append,not_or] at hn
 obtain ⟨⟨⟨h1,h2⟩,h3⟩,⟨h4,h5,h6⟩,h7,h8⟩:=hn
 refine ⟨A,c,B,Fi,hrow,hA,hcl,hx,h5,h2,by simp,fun b hb=>by simp [hb],fun w' c' x' hr hx' hk=>back w' c' x' Fi hr hx' fun b hb=>hk.block b (hlt b hb) fun hm=>?_⟩
 rcases List.mem_append.1 hb with hb|hb <;> rcases List.mem_cons.1 hm with e|hm
 ·exact h1 (e▸hb)
 ·exact h6 b hb b hm rfl
 ·exact h3 (e▸hb)
 ·exact h8 b (.inr hm) b hb rfl
theorem Ow.head {α:Type} {E:Elem α} {t:TypeId} {w:World} {a:Option Addr} {n cap:Nat} {xs:List α} {F:List Nat} (h:Ow E t w (.slice a n cap) xs F) (i:Nat) (hi:i < xs.length):∃g,a=some ⟨g,0,none⟩:=by
 obtain ⟨g,cp,A,c,B,G1,Fi,G2,hv, -⟩:=h.focus i hi
 simp only [Value.slice.injEq] at hv
 exact ⟨g,hv.1⟩
theorem madeCells_flat (z:Array Value) (n:Nat):(madeCells z (n * z.size)).toList=(List.replicate n z.toList).flatten:=by
 apply List.ext_getElem?
 intro p
 by_cases hz:z.size=0
 ·have:z = #[]:=Array.eq_empty_of_size_eq_zero hz
  subst this;simp [madeCells]
 ·have hlen:∀m,((List.replicate m z.toList).flatten).length=m * z.size:=fun m=>by simp
  by_cases hp:p < n * z.size
  ·have h1:(madeCells z (n * z.size)).toList[p]?=some z[p % z.size]!:=by simp [madeCells,hp]
   rw [h1]
   have hq:p / z.size < n:=Nat.div_lt_of_lt_mul (by rwa [Nat.mul_comm])
   have e:List.replicate n z.toList=List.replicate (p / z.size) z.toList++z.toList::List.replicate (n - p / z.size - 1) z.toList:=by
    rw [←List.replicate_succ,List.replicate_append_replicate];congr 1;omega
   have hd:=Nat.div_add_mod p z.size
   have hm:=Nat.mod_lt p (Nat.pos_of_ne_zero hz)
   rw [Nat.mul_comm] at hd
   rw [e,List.flatten_append,List.flatten_cons,List.getElem?_append_right (by rw [hlen];omega),hlen,show p - p / z.size * z.size=p % z.size by omega,List.getElem?_append_left (by simpa using hm)]
   simp [hm]
  ·rw [List.getElem?_eq_none (by simp [madeCells];omega),List.getElem?_eq_none (by rw [hlen];omega)]
theorem Ow.made {α:Type} {E:Elem α} {t:TypeId} (w:World) (z:Array Value) (n:Nat) (x:α) (hsz:z.size=E.sz) (hz:∀w,E.rep w z.toList x []) (hn:n≤maxLen) :
  Ow E t (w.alloc (.cells (madeCells z (n * E.sz)) t)) (.slice (some ⟨w.heap.size,0,none⟩) n n) (List.replicate n x) [w.heap.size]:=by
 have hf:∀(w:World) (m:Nat),Flat E w (List.replicate m z.toList).flatten (List.replicate m x) []:=by
  intro w m
  induction m with
  | zero=>exact ⟨rfl,rfl⟩
  | succ m ih=>exact ⟨z.toList,_,[],[],by rw [List.replicate_succ,List.flatten_cons],rfl,hz w,ih⟩
 refine .inr ⟨w.heap.size,n,(madeCells z (n * E.sz)).toList,[],[],by simp,?_,by simp,hn,?_,?_,rfl⟩
 ·simp only [List.append_nil,Row]
  exact heap_alloc_new w _
 ·rw [←hsz,madeCells_flat];simp
 ·rw [←hsz,madeCells_flat];exact hf _ _
theorem run_make_rows {P:Program} (t e:TypeId) (z:Value) (size bytes:Nat) (ht:P.underlying t=some (.slice e)) (hinfo:(P.info? e).map (fun i=>(i.zero,i.size,i.bytes))=some (some z,size,bytes))
  (n:Nat) (hbytes:bytes * n≤281474976710656) (h63:n≤9223372036854775807) (w:World) :
  (Instr.makeSlice t (.int .i64 (n:Int)) (.int .i64 (n:Int))).run P w=.ok (.slice (some ⟨w.heap.size,0,none⟩) n n) (w.alloc (.cells (madeCells z.cells (n * size)) e)):=by
 obtain ⟨i,hi,hzz⟩:=Option.map_eq_some_iff.1 hinfo
 simp only [Prod.mk.injEq] at hzz
 obtain ⟨hz,rfl,rfl⟩:=hzz
 have hb':(i.bytes:Int) * (n:Int)≤281474976710656:=by
  have h:((i.bytes * n:Nat):Int)≤281474976710656:=by omega
  rwa [Int.natCast_mul] at h
 have hr:=run_make (P:=P) w t e i z ht hi hz .i64 .i64 n n (by omega) (Int.le_refl _) hb' (by omega)
 simpa only [Int.toNat_natCast] using hr
theorem set_take_rep {α:Type} (xs:List α) (z:α) (k n:Nat) (hn:n=xs.length) (hk:k < n) (x:α) (hx:xs[k]?=some x) :
  (xs.take k++List.replicate (n - k) z).set k x=xs.take (k+1)++List.replicate (n - (k+1)) z:=by
 have hl:(xs.take k).length=k:=by simp;omega
 rw [List.set_append_right _ _ (by omega),hl,Nat.sub_self,show n - k=(n - (k+1))+1 by omega,List.replicate_succ,List.set_cons_zero,List.take_add_one,hx]
 simp
theorem weak_OSl {α:Type} {O R:Elem α} (h:Weak O R) (hz:0 < R.sz) (t:TypeId):Weak (OSl O t) (ESl R hz):=⟨rfl,fun hh=>by
 obtain ⟨v,rfl,ho⟩:=hh;exact h.slice hz t ho⟩
theorem Sl.at {α:Type} {E:Elem α} {w:World} {a:Option Addr} {n cap:Nat} {xs:List α} {F} (h:Sl E w (.slice a n cap) xs F) (k:Nat) (hk:k < xs.length) :
  ∃b off cs F1,a=some ⟨b,off,none⟩∧E.rep w cs xs[k] F1∧(∀c∈F1,c∈F)∧∀j,j < E.sz→w.cell? ⟨b,off+k * E.sz+j,none⟩=cs[j]?:=by
 obtain ⟨a',cap',hv,hl,h⟩:=h
 cases hv
 rcases h with ⟨rfl,_⟩|⟨b,off,F',rfl,_,rfl,hc⟩
 ·simp at hk
 ·obtain ⟨cs,F1,h1,hj,hm⟩:=hc.get k hk
  exact ⟨b,off,cs,F1,rfl,h1,fun c hc=>by simp [hm c hc],hj⟩
theorem Sl.slice {α:Type} {E:Elem α} {w v} {xs:List α} {F} (h:Sl E w v xs F):∃a cap,v=.slice a xs.length cap:=by
 obtain ⟨a,cap,h,_⟩:=h;exact ⟨a,cap,h⟩
theorem Sl.len {α:Type} {E:Elem α} {w v} {xs:List α} {F} (h:Sl E w v xs F):xs.length≤maxLen:=by
 obtain ⟨a,cap,_,h,_⟩:=h;omega
theorem Sl.caps {α:Type} {E:Elem α} {w} {a:Option Addr} {n cap:Nat} {xs:List α} {F} (h:Sl E w (.slice a n cap) xs F):n=xs.length∧n≤cap∧cap≤maxLen:=by
 obtain ⟨a',cap',hv,h,_⟩:=h;cases hv;exact ⟨rfl,h⟩
def IsV {α:Type} (E:Elem α) (w:World) (v:Value) (x:α) (F:List Nat):Prop:=∃cs:List Value,v=.agg cs.toArray∧E.rep w cs x F
theorem IsV.below {α:Type} {E:Elem α} {w w':World} {v x F} (h:IsV E w v x F) (hb:Below w.heap.size w w'):IsV E w' v x F:=by
 obtain ⟨cs,hv,h⟩:=h;exact ⟨cs,hv,E.below h hb⟩
def RetV {α:Type} (E:Elem α) (x:α) (w:World) (e:Ending) (w':World):Prop :=
 ∃v F,e=.returned v∧IsV E w' v x F∧F.Nodup∧(∀b∈F,w.heap.size≤b)∧Below w.heap.size w w'
def RetNew {α:Type} (E:Elem α) (t:TypeId) (xs:List α) (w:World) (e:Ending) (w':World):Prop :=
 ∃v F,e=.returned v∧Ow E t w' v xs F∧F.Nodup∧(∀b∈F,w.heap.size≤b)∧Below w.heap.size w w'
def RetMark {α:Type} (E:Elem α) (t:TypeId) (v:Value) (m:Int) (xs:List α) (F:List Nat) (w:World) (e:Ending) (w':World):Prop :=
 e=.returned (.int .i64 m)∧Ow E t w' v xs F∧Keep F w w'
def RetMarkV {α:Type} (E:Elem α) (v:Value) (m:Int) (x:α) (F:List Nat) (w:World) (e:Ending) (w':World):Prop :=
 e=.returned (.int .i64 m)∧IsV E w' v x F∧Keep F w w'
theorem Row.keepK {w w' g t cs F} (h:Row w g t cs) (hk:Keep F w w') (hg:g ∉ F):Row w' g t cs:=h.keep (hk.block g h.lt hg)
structure Body (P:Program) (f:FuncId):Prop where
 ok:∃fn,P.funcs[f]?=some fn∧(fn.name == "runtime.NumGoroutine")=false∧fn.body.isNone=false
theorem Body.mk' {P:Program} {f:FuncId} {fn:Func} (h:P.funcs[f]?=some fn) (h1:(fn.name == "runtime.NumGoroutine")=false) (h2:fn.body.isNone=false):Body P f:=⟨fn,h,h1,h2⟩
theorem Body.run {P:Program} {f:FuncId} (h:Body P f) (args:Array Value) (w:World):(callFunc f args).run P w=.ok (.enter f args) w:=by
 obtain ⟨fn,h0,h1,h2⟩:=h.ok
 have h1':¬fn.name = "runtime.NumGoroutine" := by simpa using h1
 have h2':¬fn.body=none:=fun e=>by rw [e] at h2;simp at h2
 simp [callFunc,program,Sem.run,h0,h1',h2',bind,Sem.bind,pure]
theorem Body.upon {P:Program} {f:FuncId} (h:Body P f) {o:Oper} {a:Act} {K:Act→World→Prop} {Q:Exit→Act→World→Prop} {args:Array Value} {w:World} {R:Ending→World→Prop}
  (hc:Calls P f args w R) (hr:∀e w',R e w'→∃v,e=.returned v∧K (a.put o.dst v) w'):Oper.upon P o a K Q ((callFunc f args).run P w):=by
 rw [h.run,Oper.upon_enter]
 exact hc.mono fun e w' hR=>by obtain ⟨v,rfl,hk⟩:=hr e w' hR;exact hk
def IsC {α:Type} (E:Elem α) (w:World) (v:Value) (x:α) (F:List Nat):Prop:=∃u,v=u∧E.rep w [u] x F
def fidx {α:Type} (p:α→Bool) (xs:List α):Int:=if xs.any p then (xs.findIdx p:Int) else -1
theorem fidx_hit {α:Type} {p:α→Bool} {xs:List α} {k:Nat} (hk:k < xs.length) (h0:∀j,j < k→∀hj:j < xs.length,p xs[j]=false) (h1:p xs[k]=true):fidx p xs=k:=by
 have h:xs.findIdx p=k:=by
  rw [List.findIdx_eq hk]
  exact ⟨h1,fun j hj=>h0 j hj (by omega)⟩
 have ha:xs.any p=true:=List.any_eq_true.2 ⟨xs[k],List.getElem_mem _,h1⟩
 unfold fidx;rw [if_pos ha,h]
theorem fidx_none {α:Type} {p:α→Bool} {xs:List α} (h0:∀j,∀hj:j < xs.length,p xs[j]=false):fidx p xs=-1:=by
 unfold fidx
 rw [if_neg]
 intro ha
 obtain ⟨x,hx,hp⟩:=List.any_eq_true.1 ha
 obtain ⟨i,hi,rfl⟩:=List.getElem_of_mem hx
 rw [h0 i hi] at hp;simp at hp
theorem fidx_any {α:Type} (p:α→Bool) (xs:List α):decide (0≤fidx p xs)=xs.any p:=by
 unfold fidx;cases h:xs.any p <;> simp
def allUpTo (p:Nat→Bool) (n:Nat):Bool:=(List.range n).all p
theorem allUpTo_yes {p:Nat→Bool} {n:Nat} (h:∀i,i < n→p i=true):allUpTo p n=true:=by simp [allUpTo];exact h
theorem allUpTo_no {p:Nat→Bool} {n k:Nat} (hk:k < n) (h:p k=false):allUpTo p n=false:=by
 rw [Bool.eq_false_iff];intro ha;simp [allUpTo] at ha;rw [ha k hk] at h;simp at h
theorem allUpTo_get {p:Nat→Bool} {n:Nat} (h:allUpTo p n=true) (i:Nat) (hi:i < n):p i=true:=by simp [allUpTo] at h;exact h i hi
theorem upto_snoc {p:Nat→Bool} {k:Nat} (h:∀i,i < k→p i=true) (hk:p k=true):∀i,i < k+1→p i=true:=fun i hi=>by
 rcases Nat.lt_or_eq_of_le (Nat.le_of_lt_succ hi) with h'|rfl
 ·exact h i h'
 ·exact hk
theorem quiet_eq {P:Program} {f:FuncId} {args:Array Value} {w:World} {n:Nat} {v:Value}
  (h:Calls P f args (w.drewN n) fun e w'=>e=.returned v∧w.drewN n=w'):Calls P f args (w.drewN n) fun e w''=>e=.returned v∧∃m,w''=w.drewN m :=
 h.mono fun _ _ ⟨he,hm⟩=>⟨he,n,hm.symm⟩
def szr (n:Int) (k:Nat):Int:=if (k:Int)≤n then n - k else -1
theorem szr_or (n:Int) (k:Nat):(szr n k=-1∧n < k)∨(szr n k=n - k∧(k:Int)≤n):=by unfold szr;split <;> omega
theorem szr_no {n:Int} {k:Nat} (h:n < k):szr n k=-1:=by unfold szr;split <;> omega
theorem szr_yes {n:Int} {k:Nat} (h:(k:Int)≤n):szr n k=n - k:=by unfold szr;split <;> omega
def wtL {α:Type} (f:α→Nat) (xs:List α):Nat:=xs.length+(xs.map f).sum
def psum {α:Type} (f:α→Nat) (xs:List α) (k:Nat):Nat:=((xs.take k).map f).sum
theorem psum_zero {α:Type} (f:α→Nat) (xs:List α):psum f xs 0=0:=rfl
theorem psum_snoc {α:Type} (f:α→Nat) (xs:List α) (k:Nat) (h:k < xs.length):psum f xs (k+1)=psum f xs k+f xs[k]:=by
 unfold psum
 rw [List.take_succ_eq_append_getElem h,List.map_append,List.sum_append];simp
theorem psum_all {α:Type} (f:α→Nat) (xs:List α):psum f xs xs.length=(xs.map f).sum:=by unfold psum;rw [List.take_length]
theorem psum_le {α:Type} (f:α→Nat) (xs:List α) (k:Nat):psum f xs k≤(xs.map f).sum:=by
 have:(xs.map f).sum=psum f xs k+((xs.drop k).map f).sum:=by unfold psum;rw [←List.sum_append,←List.map_append,List.take_append_drop]
 omega
theorem wtL_eq {α:Type} (f:α→Nat) (xs:List α):wtL f xs=xs.length+psum f xs xs.length:=by rw [psum_all];rfl
theorem wtL_le {α:Type} (f:α→Nat) (xs:List α) (k:Nat):xs.length+psum f xs k≤wtL f xs:=by have:=psum_le f xs k;unfold wtL;omega
theorem wtL_zero {α:Type} (xs:List α):wtL (fun _=>0) xs=xs.length:=by
 have:∀ys:List α,(ys.map fun _=>0).sum=0:=fun ys=>by induction ys <;> simp_all
 unfold wtL;rw [this];rfl
def mkI (k _x:Int):Int:=k
def cntI (_x:Int):Nat:=1
def mkB (k:Int) (_x:Bool):Bool:=k % 3 == 0
def cntB (_x:Bool):Nat:=1
def mdigits:Nat→Nat→List UInt8→List UInt8
 | 0,_,r=>r
 | m+1,k,r=>if k=0 then r else mdigits m (k / 10) (UInt8.ofNat (48+k % 10)::r)
def mtext (k:Int):ByteArray:=if k≤0 then ⟨#[109,48]⟩ else ⟨(109::mdigits 20 k.toNat []).toArray⟩
def mkS (k:Int) (_x:ByteArray):ByteArray:=mtext k
def cntS (_x:ByteArray):Nat:=1
theorem mdigits_len:∀(m k:Nat) (r:List UInt8),(mdigits m k r).length≤m+r.length
 | 0,_,r=>by simp [mdigits]
 | m+1,k,r=>by
  simp only [mdigits]
  split
  ·omega
  ·have:=mdigits_len m (k / 10) (UInt8.ofNat (48+k % 10)::r);simp only [List.length_cons] at this;omega
theorem mtext_len (k:Int):(mtext k).size≤maxLen:=by
 have:=mdigits_len 20 k.toNat []
 unfold mtext
 split
 ·simp [ByteArray.size,maxLen]
 ·simp only [ByteArray.size,maxLen,List.size_toArray,List.length_cons]
  simp at this;omega
def markL {α:Type} (mk:Int→α→α) (cnt:α→Nat):Int→List α→List α
 | _,[]=>[]
 | k,x::r=>mk k x::markL mk cnt (k+cnt x) r
def cntL {α:Type} (cnt:α→Nat) (xs:List α):Nat:=(xs.map cnt).sum
theorem cntL_eq {α:Type} (cnt:α→Nat) (xs:List α):cntL cnt xs=psum cnt xs xs.length:=(psum_all cnt xs).symm
theorem cntL_le {α:Type} (cnt:α→Nat) (xs:List α) (k:Nat):psum cnt xs k≤cntL cnt xs:=psum_le cnt xs k
theorem markL_len {α:Type} (mk:Int→α→α) (cnt:α→Nat):∀(xs:List α) (k:Int),(markL mk cnt k xs).length=xs.length
 | [],_=>rfl
 | x::r,k=>by simp [markL,markL_len mk cnt r]
theorem markL_get {α:Type} (mk:Int→α→α) (cnt:α→Nat):∀(xs:List α) (k:Int) (i:Nat) (h:i < xs.length),(markL mk cnt k xs)[i]'(by rw [markL_len];exact h)=mk (k+psum cnt xs i) xs[i]
 | x::r,k,0,_=>by simp [markL,psum]
 | x::r,k,i+1,h=>by
  simp only [markL,List.getElem_cons_succ,psum,List.take_succ_cons,List.map_cons,List.sum_cons]
  rw [markL_get mk cnt r (k+cnt x) i (by simpa using h)]
  unfold psum
  congr 1;omega
theorem markL_step {α:Type} (mk:Int→α→α) (cnt:α→Nat) (xs:List α) (k:Int) (i:Nat) (h:i < xs.length) :
  ((markL mk cnt k xs).take i++xs.drop i).set i (mk (k+psum cnt xs i) xs[i])=(markL mk cnt k xs).take (i+1)++xs.drop (i+1):=by
 have hl:((markL mk cnt k xs).take i).length=i:=by simp [markL_len];omega
 rw [List.set_append_right _ _ (by omega),hl,Nat.sub_self,List.drop_eq_getElem_cons h,List.set_cons_zero,List.take_add_one,List.getElem?_eq_getElem (by rw [markL_len];exact h),markL_get mk cnt xs k i h]
 simp
theorem mid_get {α:Type} (ys xs:List α) (i:Nat) (hl:ys.length=xs.length) (h:i < xs.length):(ys.take i++xs.drop i)[i]'(by simp;omega)=xs[i]:=by
 have hl':(ys.take i).length=i:=by simp;omega
 rw [List.getElem_append_right (by omega)]
 simp [hl']
theorem cntL_wt {α:Type} (cnt wt:α→Nat) (C:Nat) (h:∀x,cnt x≤C * (1+wt x)):∀xs:List α,cntL cnt xs≤C * wtL wt xs
 | []=>by simp [cntL,wtL]
 | x::r=>by
  have:=h x
  have:=cntL_wt cnt wt C h r
  simp only [cntL,wtL,List.map_cons,List.sum_cons,List.length_cons,Nat.mul_add,Nat.mul_one] at *
  omega
theorem nodup_up {A B:List Nat} {m:Nat} (ha:A.Nodup) (hb:B.Nodup) (la:∀b∈A,b < m) (lb:∀b∈B,m≤b):(A++B).Nodup :=
 List.nodup_append.2 ⟨ha,hb,fun a h1 b h2 e=>by have:=la a h1;have:=lb b h2;omega⟩
theorem nodup_apart {A B:List Nat} (h:(A++B).Nodup):A.Nodup∧B.Nodup∧∀b∈A,b ∉ B:=by
 obtain ⟨h1,h2,h3⟩:=List.nodup_append.1 h
 exact ⟨h1,h2,fun b ha hb=>h3 b ha b hb rfl⟩
def One {α:Type} (E:Elem α):Prop:=∀{w cs x F},E.rep w cs x F→∀u∈cs,u.oneCell'=true
theorem one_EInt:One EInt:=fun h u hu=>by obtain ⟨rfl,_⟩:=h;simp at hu;subst hu;rfl
theorem one_EStr:One EStr:=fun h u hu=>by obtain ⟨rfl,_⟩:=h;simp at hu;subst hu;rfl
theorem Sl.one {α:Type} {E:Elem α} {w v} {xs:List α} {F} (h:Sl E w v xs F):v.oneCell'=true:=by obtain ⟨a,c,rfl,_⟩:=h;rfl
theorem Ow.one {α:Type} {E:Elem α} {t w v} {xs:List α} {F} (h:Ow E t w v xs F):v.oneCell'=true:=by obtain ⟨a,c,rfl⟩:=h.slice;rfl
theorem Flat.one' {α:Type} {E:Elem α} (hE:One E) {w:World}:∀{xs:List α} {cs:List Value} {G:List Nat},Flat E w cs xs G→∀u∈cs,u.oneCell'=true
 | [],_,_,h=>by simp [h.1]
 | x::r,_,_,h=>by
  obtain ⟨c1,c2,F1,F2,rfl,rfl,h1,h2⟩:=h
  intro u hu
  rcases List.mem_append.1 hu with hu|hu
  ·exact hE h1 u hu
  ·exact h2.one' hE u hu
theorem Cells.flat {α:Type} {E:Elem α} {w:World} {b:Nat}:∀{xs:List α} {off:Nat} {F:List Nat},Cells E w b off xs F→∃cs,Flat E w cs xs F∧∀j u,cs[j]?=some u→w.cell? ⟨b,off+j,none⟩=some u
 | [],off,_,h=>⟨[],⟨rfl,h⟩,fun j u hu=>by simp at hu⟩
 | x::r,off,_,h=>by
  obtain ⟨c1,F1,F2,rfl,h1,hc,h2⟩:=h
  obtain ⟨c2,hf,hc2⟩:=h2.flat
  have hl:=E.len h1
  refine ⟨c1++c2,⟨c1,c2,F1,F2,rfl,rfl,h1,hf⟩,fun j u hu=>?_⟩
  rcases Nat.lt_or_ge j c1.length with hj|hj
  ·rw [List.getElem?_append_left hj] at hu
   rw [hc j (by omega)];exact hu
  ·rw [List.getElem?_append_right hj] at hu
   have:=hc2 _ _ hu
   rw [←this];congr 2;omega
theorem Flat.cells {α:Type} {E:Elem α} {w:World} {b:Nat}:∀{xs:List α} {cs:List Value} {off:Nat} {F:List Nat},Flat E w cs xs F→(∀j u,cs[j]?=some u→w.cell? ⟨b,off+j,none⟩=some u)→Cells E w b off xs F
 | [],_,off,_,h,_=>h.2
 | x::r,_,off,_,h,hc=>by
  obtain ⟨c1,c2,F1,F2,rfl,rfl,h1,h2⟩:=h
  have hl:=E.len h1
  refine ⟨c1,F1,F2,rfl,h1,fun j hj=>?_,h2.cells fun j u hu=>?_⟩
  ·have:j < c1.length:=by omega
   rw [List.getElem?_eq_getElem this]
   exact hc j _ (by rw [List.getElem?_append_left this,List.getElem?_eq_getElem this])
  ·have:=hc (c1.length+j) u (by rw [List.getElem?_append_right (by omega),show c1.length+j - c1.length=j by omega];exact hu)
   rw [←this];congr 2;omega
def Hd (F:List Nat):Prop:=∀g G,F=g::G→g ∉ G
theorem Hd.of {F:List Nat} (h:F.Nodup):Hd F:=fun g G e=>by subst e;simp at h;exact h.1
theorem Ow.owns {α:Type} {E:Elem α} {t w v} {xs:List α} {F} (h:Ow E t w v xs F):∃cs G,w.ownsRow 0 t E.sz v xs.length cs∧Flat E w cs xs G∧F=v.ownBlock.toList++G:=by
 rcases h with ⟨rfl,rfl,rfl⟩|⟨g,cap,cs,rest,G,rfl,hr,h1,h2,h3,hf,rfl⟩
 ·exact ⟨[],[],⟨by simp,.inl ⟨rfl,rfl⟩⟩,⟨rfl,rfl⟩,rfl⟩
 ·refine ⟨cs,G,⟨hf.len,.inr ⟨g,cap,(cs++rest).toArray,rfl,Nat.zero_le _,hr,h1,h2,by simp [h3],?_⟩⟩,hf,rfl⟩
  rw [←hf.len];simp
theorem Ow.ofOwns {α:Type} {E:Elem α} {t w v n} {cs:List Value} {xs:List α} {G} (h:w.ownsRow 0 t E.sz v n cs) (hf:Flat E w cs xs G) (hn:n=xs.length):Ow E t w v xs (v.ownBlock.toList++G):=by
 subst hn
 obtain ⟨hl,h⟩:=h
 rcases h with ⟨rfl,h0⟩|⟨g,cap,cur,rfl,_,hg,h1,h2,h3,h4⟩
 ·have:xs=[]:=List.eq_nil_of_length_eq_zero h0
  subst this
  exact .inl ⟨rfl,rfl,by rw [hf.2];rfl⟩
 ·refine .inr ⟨g,cap,cs,cur.toList.drop cs.length,G,rfl,?_,h1,h2,?_,hf,rfl⟩
  ·have:cs++cur.toList.drop cs.length=cur.toList:=by
    rw [hl,←h4];simp
   rw [this];exact hg
  ·rw [←h3];simp;rw [hl];have:=Nat.mul_le_mul_right E.sz h1;omega
theorem ownBlock_lt {w:World} {t v n sz} {cs:List Value} (h:w.ownsRow 0 t sz v n cs):∀b,v.ownBlock=some b→b < w.heap.size:=by
 intro b hb
 rcases h.2 with ⟨rfl,_⟩|⟨g,cap,cur,rfl,_,hg,_⟩
 ·cases hb
 ·cases hb
  rcases Nat.lt_or_ge g w.heap.size with hlt|hge
  ·exact hlt
  ·rw [Array.getElem?_eq_none hge] at hg;cases hg
section
variable {P:Program} {α:Type} {E:Elem α}
structure Apd (E:Elem α) (e:TypeId) (w:World) (v:Value) (xs ys:List α) (F Fy:List Nat) (v':Value) (w':World) (F':List Nat):Prop where
 ow:Ow E e w' v' (xs++ys) F'
 hd:Hd F'
 nodup:F.Nodup→Fy.Nodup→(∀b∈Fy,b ∉ F)→F'.Nodup
 mem:∀b∈F',b∈F∨b∈Fy∨b=w.heap.size
 keep:Keep F w w'
 keep1:Keep v.ownBlock.toList w w'
 val:∃a cap,v'=.slice a (xs.length+ys.length) cap
 same:v'.ownBlock=v.ownBlock∨v'.ownBlock=some w.heap.size
 form:∀Gx,F=v.ownBlock.toList++Gx→F'=v'.ownBlock.toList++(Gx++Fy)
theorem apd_of {e:TypeId} {w:World} {v:Value} {xs ys:List α} {F Fy:List Nat} {v' w'} {cs news G} (hown:w.ownsRow 0 e E.sz v xs.length cs) (hf:Flat E w cs xs G) (hF:F=v.ownBlock.toList++G) (hd:Hd F)
  (hfy:Flat E w news ys Fy) (hdis:∀b∈Fy,v.ownBlock≠some b) (h':w'.ownsRow 0 e E.sz v' (xs.length+ys.length) (cs++news)) (hg:w.grownBy w' v.ownBlock)
  (hb:v'.ownBlock=v.ownBlock∨v'.ownBlock=some w.heap.size) (hs:∃a cap,v'=.slice a (xs.length+ys.length) cap):∃F',Apd E e w v xs ys F Fy v' w' F':=by
 have hGn:∀b∈G,v.ownBlock≠some b:=fun b hb e=>by
  rw [e] at hF;exact hd b G hF hb
 have hfr:∀b,b < w.heap.size→v.ownBlock≠some b→w'.heap[b]?=w.heap[b]?:=fun b hb hn=>hg.block b hb (fun e=>hn e.symm)
 have hfl:Flat E w' (cs++news) (xs++ys) (G++Fy):=(hf.frame fun b hb=>hfr b (hf.lt b hb) (hGn b hb)).append (hfy.frame fun b hb=>hfr b (hfy.lt b hb) (hdis b hb))
 have hvl:=ownBlock_lt hown
 have hhead:∀g,v'.ownBlock=some g→g ∉ G∧g ∉ Fy:=fun g e=>by
  rcases hb with hb|hb
  ·rw [hb] at e;exact ⟨fun hm=>hGn g hm e,fun hm=>hdis g hm e⟩
  ·rw [hb] at e;cases e
   exact ⟨fun hm=>Nat.lt_irrefl _ (hf.lt _ hm),fun hm=>Nat.lt_irrefl _ (hfy.lt _ hm)⟩
 refine ⟨v'.ownBlock.toList++(G++Fy),Ow.ofOwns h' hfl (by simp),?_,?_,?_,?_,⟨hg.os,hg.tape,hg.output,hg.size,fun k hk hm=>hfr k hk fun e=>hm (by rw [e];simp)⟩,hs,hb,fun Gx e=>by rw [hF] at e;rw [List.append_cancel_left e]⟩
 ·intro g G' e
  cases hv:v'.ownBlock with
  | none =>
   have hxy:xs++ys=[]:=by
    rcases h'.2 with ⟨rfl,h0⟩|⟨g,cap,cur,rfl,_⟩
    ·exact List.eq_nil_of_length_eq_zero (by rw [List.length_append];omega)
    ·simp [Value.ownBlock] at hv
   rw [hxy] at hfl;rw [hfl.2,hv] at e;simp at e
  | some g2 =>
   rw [hv] at e;simp at e;obtain ⟨rfl,rfl⟩:=e
   have:=hhead g2 hv;simp [this]
 ·intro h1 h2 h3
  subst hF
  have hn:(G++Fy).Nodup:=by
   rw [List.nodup_append] at h1 ⊢
   exact ⟨h1.2.1,h2,fun a ha b hb e=>h3 b hb (by rw [←e];simp [ha])⟩
  cases hv:v'.ownBlock with
  | none=>simpa using hn
  | some g2=>have:=hhead g2 hv;simp only [Option.toList_some,List.singleton_append,List.nodup_cons,List.mem_append];exact ⟨by simp [this],hn⟩
 ·intro b hm
  simp at hm
  rcases hm with hm|hm|hm
  ·rcases hb with hb|hb
   ·rw [hb] at hm;left;rw [hF];simp [hm]
   ·rw [hb] at hm;cases hm;simp
  ·left;rw [hF];simp [hm]
  ·simp [hm]
 ·exact ⟨hg.os,hg.tape,hg.output,hg.size,fun k hk hm=>hfr k hk fun e=>hm (by rw [hF,e];simp)⟩
theorem wp_apd (hone:One E) (hsz:0 < E.sz) {o:Oper} {a:Act} {K:Act→World→Prop} {Q:Exit→Act→World→Prop} {w:World} (s x:Operand) (t:TypeId)
  (ho:o.op=.call { callee:=.builtin .append,args:=#[s,x],argTypes:=#[t,t] }) (e:TypeId) (z:Value) (bytes:Nat) (ht:P.underlying t=some (.slice e))
  (hinfo:(P.info? e).map (fun i=>(i.zero,i.size,i.bytes))=some (some z,E.sz,bytes)) (hzs:z.cells.size=E.sz)
  (v:Value) (xs:List α) (F:List Nat) (hs:a.eval s=v) (hown:Ow E e w v xs F) (hd:Hd F)
  (ao:Option Addr) (ys:List α) (c:Nat) (hx:a.eval x=.slice ao ys.length c) (news:List Value) (Fy:List Nat) (hfy:Flat E w news ys Fy)
  (hsrc:(ao=none∧c=0∧ys=[])∨∃ad,ao=some ad∧∀j u,news[j]?=some u→w.cell? (ad.add j)=some u)
  (hdis:∀b∈Fy,v.ownBlock≠some b) (h63:xs.length+ys.length≤maxLen) (hbytes:(xs.length+ys.length) * bytes≤140737488355328)
  (h:∀v' w' F',Apd E e w v xs ys F Fy v' w' F'→K (a.put o.dst v') w'):o.wp P a w K Q:=by
 obtain ⟨i,hi,hzz⟩:=Option.map_eq_some_iff.1 hinfo
 simp only [Prod.mk.injEq] at hzz
 obtain ⟨hz,hsize,hby⟩:=hzz
 obtain ⟨cs,G,hrow,hf,hF⟩:=hown.owns
 rcases hsrc with ⟨rfl,rfl,rfl⟩|⟨ad,rfl,hnews⟩
 ·have hn0:news=[]:=hfy.1
  subst hn0
  unfold Oper.wp execOp
  simp only [ho,resolve,invoke,builtin,Sem.run_bind,Sem.run_pure,Result.andThen_ok,List.map_toArray,List.map_cons,List.map_nil,hs,hx]
  have hrun:=run_append_owned_none (P:=P) w 0 t o.type e i E.sz ht hi _ xs.length cs hrow
  rw [show ([]:List α).length=0 from rfl,hrun]
  obtain ⟨F',hA⟩:=apd_of (ys:=[]) hrow hf hF hd hfy hdis (by simpa using hrow) (World.grownBy.refl _ _) (.inl rfl) (by obtain ⟨a,c,rfl⟩:=hown.slice;exact ⟨a,c,by simp⟩)
  exact h _ _ _ hA
 ·obtain ⟨v',w',hr,h2,h3,h4,h5⟩:=run_append_own_at (P:=P) w 0 t o.type e i z E.sz bytes ht hi hz hsize hby hzs hsz v xs.length cs hrow ad ys.length c news hfy.len hnews (hfy.one' hone) h63 hbytes (Nat.zero_le _)
  unfold Oper.wp execOp
  simp only [ho,resolve,invoke,builtin,Sem.run_bind,Sem.run_pure,Result.andThen_ok,List.map_toArray,List.map_cons,List.map_nil,hs,hx,hr]
  have hs2:∃a cap,v'=.slice a (xs.length+ys.length) cap:=by
   rcases h2.2 with ⟨rfl,h0⟩|⟨g,cap,cur,rfl,_⟩
   ·exact ⟨none,0,by rw [h0]⟩
   ·exact ⟨_,_,rfl⟩
  obtain ⟨F',hA⟩:=apd_of (ys:=ys) hrow hf hF hd hfy hdis h2 h3 h5 hs2
  exact h _ _ _ hA
theorem wpList_apd (hone:One E) (hsz:0 < E.sz) {ops:Array Oper} {rest:List Oper} {o:Oper} {a:Act} {Q:Exit→Act→World→Prop} {w:World} (hgd:o.guard=none) (s x:Operand) (t:TypeId)
  (ho:o.op=.call { callee:=.builtin .append,args:=#[s,x],argTypes:=#[t,t] }) (e:TypeId) (z:Value) (bytes:Nat) (ht:P.underlying t=some (.slice e))
  (hinfo:(P.info? e).map (fun i=>(i.zero,i.size,i.bytes))=some (some z,E.sz,bytes)) (hzs:z.cells.size=E.sz)
  (v:Value) (xs:List α) (F:List Nat) (hs:a.eval s=v) (hown:Ow E e w v xs F) (hd:Hd F)
  (ao:Option Addr) (ys:List α) (c:Nat) (hx:a.eval x=.slice ao ys.length c) (news:List Value) (Fy:List Nat) (hfy:Flat E w news ys Fy)
  (hsrc:(ao=none∧c=0∧ys=[])∨∃ad,ao=some ad∧∀j u,news[j]?=some u→w.cell? (ad.add j)=some u)
  (hdis:∀b∈Fy,v.ownBlock≠some b) (h63:xs.length+ys.length≤maxLen) (hbytes:(xs.length+ys.length) * bytes≤140737488355328)
  (h:∀v' w' F',Apd E e w v xs ys F Fy v' w' F'→wpList P ops Q rest (a.put o.dst v') w'):wpList P ops Q (o::rest) a w :=
 wpList_plain hgd fun _ hK=>wp_apd hone hsz s x t ho e z bytes ht hinfo hzs v xs F hs hown hd ao ys c hx news Fy hfy hsrc hdis h63 hbytes fun v' w' F' hA=>hK _ _ (h v' w' F' hA)
theorem step_apd (hone:One E) (hsz:0 < E.sz) {ops:Array Oper} {o:Oper} {a:Act} {K:Act→World→Prop} {Q:Exit→Act→World→Prop} {Z:Prop} {w:World} (hgd:o.guard=none) (s x:Operand) (t:TypeId)
  (ho:o.op=.call { callee:=.builtin .append,args:=#[s,x],argTypes:=#[t,t] }) (e:TypeId) (z:Value) (bytes:Nat) (ht:P.underlying t=some (.slice e))
  (hinfo:(P.info? e).map (fun i=>(i.zero,i.size,i.bytes))=some (some z,E.sz,bytes)) (hzs:z.cells.size=E.sz)
  (v:Value) (xs:List α) (F:List Nat) (hs:a.eval s=v) (hown:Ow E e w v xs F) (hd:Hd F)
  (ao:Option Addr) (ys:List α) (c:Nat) (hx:a.eval x=.slice ao ys.length c) (news:List Value) (Fy:List Nat) (hfy:Flat E w news ys Fy)
  (hsrc:(ao=none∧c=0∧ys=[])∨∃ad,ao=some ad∧∀j u,news[j]?=some u→w.cell? (ad.add j)=some u)
  (hdis:∀b∈Fy,v.ownBlock≠some b) (h63:xs.length+ys.length≤maxLen) (hbytes:(xs.length+ys.length) * bytes≤140737488355328)
  (h:∀v' w' F',Apd E e w v xs ys F Fy v' w' F'→K (a.put o.dst v') w'):if Region.wanted o (yielded ops a.tmps)=true then Oper.wp P o a w K Q else Z:=by
 have hw:Region.wanted o (yielded ops a.tmps)=true:=by simp [Region.wanted,hgd]
 rw [if_pos hw]
 exact wp_apd hone hsz s x t ho e z bytes ht hinfo hzs v xs F hs hown hd ao ys c hx news Fy hfy hsrc hdis h63 hbytes h
end
theorem Ow.own_mem {α:Type} {E:Elem α} {t w v} {xs:List α} {F} (h:Ow E t w v xs F):∀b,v.ownBlock=some b→b∈F:=fun b hb=>by
 obtain ⟨cs,G,_,_,rfl⟩:=h.owns;simp [hb]
def RetR {α:Type} (E:Elem α) (x:α) (w:World) (e:Ending) (w':World):Prop :=
 ∃v F,e=.returned v∧IsV E w' v x F∧(∀b∈F,w.heap.size≤b)∧Below w.heap.size w w'
theorem IsV.weak {α:Type} {O R:Elem α} (h:Weak O R) {w v x F} (ho:IsV O w v x F):∃F',(∀b∈F',b∈F)∧IsV R w v x F':=by
 obtain ⟨cs,hv,hx⟩:=ho
 obtain ⟨F',h1,h2⟩:=h.rep hx
 exact ⟨F',h1,cs,hv,h2⟩
theorem Ow.empty {α:Type} {E:Elem α} {t:TypeId} {w:World} {g:Nat} (h:Row w g t []):Ow E t w (.slice (some ⟨g,0,none⟩) 0 0) ([]:List α) [g] :=
 .inr ⟨g,0,[],[],[],rfl,by simpa using h,by simp,by simp,by simp,⟨rfl,rfl⟩,rfl⟩
theorem Hd.one (g:Nat):Hd [g]:=fun a G e=>by cases e;simp
theorem Hd.nil:Hd []:=fun a G e=>by cases e
theorem Sl.src {α:Type} {E:Elem α} {w:World} {v:Value} {xs:List α} {F} (h:Sl E w v xs F):∃ao c news Fy,v=.slice ao xs.length c∧xs.length≤maxLen∧Flat E w news xs Fy∧(∀b∈Fy,b∈F) ∧
  ((ao=none∧c=0∧xs=[])∨∃ad,ao=some ad∧∀j u,news[j]?=some u→w.cell? (ad.add j)=some u):=by
 obtain ⟨a,cap,rfl,hl,⟨rfl,rfl,h0⟩|⟨b,off,F',rfl,hne,rfl,hc⟩⟩:=h
 ·refine ⟨a,cap,[],[],rfl,by simp,⟨rfl,rfl⟩,by simp,?_⟩
  cases a with
  | none=>exact .inl ⟨rfl,h0 rfl,rfl⟩
  | some ad=>exact .inr ⟨ad,rfl,fun j u hu=>by simp at hu⟩
 ·obtain ⟨cs,hf,hcs⟩:=hc.flat
  refine ⟨_,cap,cs,F',rfl,by omega,hf,fun b hb=>by simp [hb],.inr ⟨_,rfl,fun j u hu=>?_⟩⟩
  rw [←hcs j u hu]
  unfold Addr.add;split <;> simp_all
theorem Sl.takeS {α:Type} {E:Elem α} {w:World} {a:Option Addr} {n cap:Nat} {xs:List α} {F} (h:Sl E w (.slice a n cap) xs F) (k:Nat) (hk:k≤xs.length):∃F',(∀b∈F',b∈F)∧Sl E w (.slice a k cap) (xs.take k) F':=by
 obtain ⟨a',cap',hv,hl,h⟩:=h
 cases hv
 have hlen:(xs.take k).length=k:=by simp;omega
 rcases h with ⟨rfl,rfl,h0⟩|⟨b,off,F',rfl,hne,rfl,hc⟩
 ·simp at hk;subst hk;exact ⟨[],by simp,a,cap,by simp,⟨by simp,hl.2⟩,.inl ⟨by simp,rfl,h0⟩⟩
 ·by_cases hk0:k=0
  ·subst hk0;exact ⟨[],by simp,some ⟨b,off,none⟩,cap,by simp,⟨by simp,hl.2⟩,.inl ⟨by simp,rfl,fun e=>by cases e⟩⟩
  ·obtain ⟨cs,hf,hcs⟩:=hc.flat
   have e:xs=xs.take k++xs.drop k:=by simp
   rw [e] at hf
   obtain ⟨c1,c2,G1,G2,rfl,rfl,h1,h2⟩:=hf.split
   refine ⟨b::G1,by intro x hx;simp at hx ⊢;rcases hx with hx|hx <;> simp [hx],_,cap,by rw [hlen],by rw [hlen];omega,.inr ⟨b,off,G1,rfl,fun e=>by rw [e] at hlen;simp at hlen;omega,rfl,h1.cells fun j u hu=>hcs j u ?_⟩⟩
   have hj:j < c1.length:=by
    rcases Nat.lt_or_ge j c1.length with h|h
    ·exact h
    ·rw [List.getElem?_eq_none h] at hu;cases hu
   rw [List.getElem?_append_left hj];exact hu
def Scal {α:Type} (E:Elem α):Prop:=∀{w cs x F},E.rep w cs x F→F=[]
theorem scal_EInt:Scal EInt:=fun h=>h.2
theorem scal_EStr:Scal EStr:=fun h=>h.2.2
theorem Flat.scal {α:Type} {E:Elem α} (hE:Scal E) {w:World}:∀{xs:List α} {cs:List Value} {G:List Nat},Flat E w cs xs G→G=[]
 | [],_,_,h=>h.2
 | x::r,_,_,h=>by
  obtain ⟨c1,c2,F1,F2,rfl,rfl,h1,h2⟩:=h
  rw [hE h1,h2.scal hE];rfl
theorem Ow.scal {α:Type} {E:Elem α} (hE:Scal E) {t w v} {xs:List α} {F} (h:Ow E t w v xs F):F=v.ownBlock.toList:=by
 obtain ⟨cs,G,_,hf,rfl⟩:=h.owns
 rw [hf.scal hE,List.append_nil]
def Mix {α:Type} (O R:Elem α) (t:TypeId) (B1 B0:Nat) (w:World) (v:Value) (xs:List α) (k:Nat):Prop :=
 (v=.slice none 0 0∧xs=[])∨∃g cap c1 c2 rest F G,v=.slice (some ⟨g,0,none⟩) xs.length cap∧Row w g t (c1++c2++rest)∧xs.length≤cap∧cap≤maxLen∧c1.length+c2.length+rest.length=cap * O.sz ∧
  Flat O w c1 (xs.take k) F∧Flat R w c2 (xs.drop k) G∧(g::F).Nodup∧(∀b∈g::F,B0≤b)∧∀b∈G,b < B1
section
variable {α:Type} {O R:Elem α} {t:TypeId} {B1 B0:Nat} {w:World} {v:Value} {xs:List α}
theorem Mix.start (hsz:R.sz=O.sz) {F:List Nat} (h:Ow R t w v xs F) (h1:∀b,v.ownBlock=some b→B0≤b) (h2:∀b∈F,v.ownBlock=some b∨b < B1) (hd:Hd F):Mix O R t B1 B0 w v xs 0:=by
 rcases h with ⟨rfl,rfl,_⟩|⟨g,cap,cs,rest,G,rfl,hr,h3,h4,h5,hf,rfl⟩
 ·exact .inl ⟨rfl,rfl⟩
 ·refine .inr ⟨g,cap,[],cs,rest,[],G,rfl,by simpa using hr,h3,h4,by simpa [←hsz] using h5,⟨rfl,by simp⟩,by simpa using hf,by simp,by simpa using h1 g rfl,fun b hb=>?_⟩
  rcases h2 b (by simp [hb]) with e|e
  ·cases e;exact absurd hb (hd g G rfl)
  ·exact e
theorem Mix.done (h:Mix O R t B1 B0 w v xs xs.length):∃F,Ow O t w v xs F∧F.Nodup∧∀b∈F,B0≤b:=by
 rcases h with ⟨rfl,rfl⟩|⟨g,cap,c1,c2,rest,F,G,rfl,hr,h3,h4,h5,hf,hf2,hn,hb,_⟩
 ·exact ⟨[],.inl ⟨rfl,rfl,rfl⟩,by simp,by simp⟩
 ·have:c2=[]:=by simp at hf2;exact hf2.1
  subst this
  exact ⟨g::F,.inr ⟨g,cap,c1,rest,F,rfl,by simpa using hr,h3,h4,by simpa using h5,by simpa using hf,rfl⟩,hn,hb⟩
theorem Mix.frame {w':World} {k:Nat} (h:Mix O R t B1 B0 w v xs k) (hb:∀b,b < w.heap.size→b < B1∨B0≤b→w'.heap[b]?=w.heap[b]?):Mix O R t B1 B0 w' v xs k:=by
 rcases h with h|⟨g,cap,c1,c2,rest,F,G,hv,hr,h3,h4,h5,hf,hf2,hn,hb1,hb2⟩
 ·exact .inl h
 ·exact .inr ⟨g,cap,c1,c2,rest,F,G,hv,hr.keep (hb g hr.lt (.inr (hb1 g (by simp)))),h3,h4,h5,hf.frame fun b h=>hb b (hf.lt b h) (.inr (hb1 b (by simp [h]))),hf2.frame fun b h=>hb b (hf2.lt b h) (.inl (hb2 b h)),hn,hb1,hb2⟩
theorem Mix.setFar {k:Nat} (h:Mix O R t B1 B0 w v xs k) {p:Addr} (h1:B1≤p.block) (h2:p.block < B0) (u:Value):Mix O R t B1 B0 (w.setCell p u) v xs k :=
 h.frame fun b _ hb=>Below.heap_setCell _ _ _ _ (by omega)
theorem Mix.below {w':World} {k:Nat} (h:Mix O R t B1 B0 w v xs k) (hb:Below w.heap.size w w'):Mix O R t B1 B0 w' v xs k:=h.frame fun b h _=>hb.block b h
theorem Mix.slice {k:Nat} (h:Mix O R t B1 B0 w v xs k):∃a cap,v=.slice a xs.length cap:=by
 rcases h with ⟨rfl,rfl⟩|⟨g,cap,c1,c2,rest,F,G,rfl,_⟩
 ·exact ⟨none,0,rfl⟩
 ·exact ⟨_,_,rfl⟩
theorem Mix.at {k:Nat} (h:Mix O R t B1 B0 w v xs k) (hsz:R.sz=O.sz) (hk:k < xs.length) (hB:B0≤w.heap.size) (h01:B1≤B0) :
  ∃g cap A c B Fk,v=.slice (some ⟨g,0,none⟩) xs.length cap∧B0≤g∧Row w g t (A++c++B)∧A.length=k * O.sz∧c.length=O.sz∧R.rep w c xs[k] Fk∧(∀b∈Fk,b < B1) ∧
   ∀w' c' F',Row w' g t (A++c'++B)→O.rep w' c' xs[k] F'→F'.Nodup→(∀b∈F',w.heap.size≤b)→(∀b,b < w.heap.size→b≠g→w'.heap[b]?=w.heap[b]?)→Mix O R t B1 B0 w' v xs (k+1):=by
 rcases h with ⟨_,rfl⟩|⟨g,cap,c1,c2,rest,F,G,rfl,hr,h3,h4,h5,hf,hf2,hn,hb1,hb2⟩
 ·simp at hk
 ·rw [List.drop_eq_getElem_cons hk] at hf2
  obtain ⟨c,c3,G1,G2,rfl,rfl,h6,h7⟩:=hf2
  have hc1:c1.length=k * O.sz:=by rw [hf.len,List.length_take,Nat.min_eq_left (by omega)]
  have hlc:=R.len h6
  refine ⟨g,cap,c1,c,c3++rest,G1,rfl,hb1 g (by simp),by simpa using hr,hc1,by rw [←hsz];exact hlc,h6,fun b hb=>hb2 b (by simp [hb]),fun w' c' F' hr' h8 hn' hF' hk'=>?_⟩
  have hlc':=O.len h8
  have hne:∀b∈F++G2,b < w.heap.size∧b≠g:=fun b hb=>by
   rcases List.mem_append.1 hb with hb|hb
   ·refine ⟨hf.lt b hb,fun e=>?_⟩
    subst e;simp at hn;exact hn.1 hb
   ·have:=hb2 b (by simp [hb]);have:=hb1 g (by simp);exact ⟨by omega,by omega⟩
  refine .inr ⟨g,cap,c1++c',c3,rest,F++F',G2,rfl,by simpa using hr',h3,h4,?_,?_,?_,?_,?_,fun b hb=>hb2 b (by simp [hb])⟩
  ·simp only [List.length_append] at h5 ⊢;omega
  ·rw [List.take_succ_eq_append_getElem hk]
   exact (hf.frame fun b hb=>hk' b (hne b (by simp [hb])).1 (hne b (by simp [hb])).2).append (Flat.one h8)
  ·exact h7.frame fun b hb=>hk' b (hne b (by simp [hb])).1 (hne b (by simp [hb])).2
  ·have hg:=hr.lt
   simp only [List.nodup_cons,List.mem_append,not_or,List.nodup_append] at hn ⊢
   exact ⟨⟨hn.1,fun hm=>by have:=hF' g hm;omega⟩,hn.2,hn',fun a ha b hb e=>by have:=hf.lt a ha;have:=hF' b hb;omega⟩
  ·intro b hb
   simp at hb
   rcases hb with rfl|hb|hb
   ·exact hb1 b (by simp)
   ·exact hb1 b (by simp [hb])
   ·have:=hF' b hb;omega
end
def btw (lo x hi:Int):Bool:=decide (lo≤x) && decide (x≤hi)
theorem ret_bool {a b:Bool} (h:a=b):Ending.returned (.bool a)=.returned (.bool b):=by rw [h]
theorem drop_at (s:ByteArray) (k:Nat) (h:k < s.size):s.data.toList.drop k=s[k]::s.data.toList.drop (k+1):=by
 rw [List.drop_eq_getElem_cons (by simpa using h)];rfl
theorem drop_end (s:ByteArray) (k:Nat) (h:¬k < s.size):s.data.toList.drop k=[]:=List.drop_of_length_le (by simp;omega)
theorem within_c (x lo hi:Int) (w:World) :
  Calls Tryz.prog 64 #[.int .i64 x,.int .i64 lo,.int .i64 hi] w fun e w'=>e=.returned (.bool (btw lo x hi))∧w=w':=by
 go_enter Tryz.func64,Tryz.ntmps64
 go_wp2
 all_goals go_ret
 all_goals exact ⟨ret_bool (by simp [btw, *] <;> omega),rfl⟩
theorem l1In_c (x lo hi:Int) (w:World) :
  Calls Tryz.prog 63 #[.int .i64 x,.int .i64 lo,.int .i64 hi] w fun e w'=>e=.returned (.bool (btw lo x hi))∧w=w':=by
 go_enter Tryz.func63,Tryz.ntmps63
 go_wp2
 all_goals go_ret
 all_goals exact ⟨ret_bool (by simp [btw, *] <;> omega),rfl⟩
def stands (c:UInt8) (l:List UInt8):Bool:=l.any (· == c)
theorem ret_int {a b:Int} (h:a=b):Ending.returned (.int .i64 a)=.returned (.int .i64 b):=by rw [h]
theorem info_int:(Tryz.prog.info? 3).map (fun i=>(i.zero,i.size,i.bytes))=some (some (.int .i64 0),1,8):=by kernel_rfl
theorem Sl.int {w:World} {a:Option Addr} {n cap:Nat} {xs:List Int} {F} (h:Sl EInt w (.slice a n cap) xs F):n=xs.length∧n≤maxLen ∧
  ∀k (hk:k < xs.length),∃b off,a=some ⟨b,off,none⟩∧w.cell? ⟨b,off+k,none⟩=some (.int .i64 xs[k]):=by
 obtain ⟨a',cap',hv,hl,h⟩:=h
 cases hv
 refine ⟨rfl,by omega,fun k hk=>?_⟩
 rcases h with ⟨rfl,_⟩|⟨b,off,F',rfl,_,_,hc⟩
 ·simp at hk
 ·obtain ⟨cs,F1,⟨rfl,_⟩,hj,_⟩:=hc.get k hk
  exact ⟨b,off,rfl,by simpa [EInt] using hj 0 (by decide)⟩
theorem szIntS_c (v:Value) (zs:List Int) (F:List Nat) (n:Int) (w:World) (h:Sl EInt w v zs F) (h0:0≤n) (h1:n≤1048576) :
  Calls Tryz.prog 70 #[v,.int .i64 n] w fun e w'=>e=.returned (.int .i64 (szr n (wtL (fun _=>0) zs)))∧Below w.heap.size w w':=by
 obtain ⟨a,cap,rfl,_,_⟩:=id h
 obtain ⟨_,hl,_⟩:=h.int
 unfold maxLen at hl
 rw [wtL_zero]
 go_enter Tryz.func70,Tryz.ntmps70
 go_wp2
 all_goals go_ret
 all_goals exact ⟨ret_int (by unfold szr;split <;> omega),Below.refl _ _⟩
theorem toIntS_c (v:Value) (zs:List Int) (F:List Nat) (w:World) (h:Sl EInt w v zs F) (hl0:wtL (fun _=>0) zs≤1048576) :
  Calls Tryz.prog 86 #[v] w (RetNew EInt 3 zs w):=by
 have hl1:zs.length≤1048576:=by rw [wtL_zero] at hl0;exact hl0
 obtain ⟨a,cap,rfl,_,_⟩:=id h
 have hmk:=fun w=>run_make_row' (P:=Tryz.prog) 22 3 (.int .i64 0) 8 Tryz.underlying22 info_int rfl .i64 .i64 zs.length (by omega) (by omega) w
 have hm:=Ow.made (E:=EInt) (t:=3) w #[.int .i64 0] zs.length 0 rfl (fun _=>⟨rfl,rfl⟩) (by unfold maxLen;omega)
 simp only [show EInt.sz=1 from rfl,Nat.mul_one] at hm
 go_enter Tryz.func86,Tryz.ntmps86
 go_wp2
 clear hmk
 go_loopw [4] (fun i wr=>∃k:Nat,k≤zs.length∧i=.int .i64 k∧∃F,Ow EInt 3 wr (.slice (some ⟨w.heap.size,0,none⟩) zs.length zs.length) (zs.take k++List.replicate (zs.length - k) 0) F∧F.Nodup∧(∀b∈F,w.heap.size≤b)∧Below w.heap.size w wr) (fun i _=>zs.length - (intOf i).toNat)
 case atStart=>exact ⟨0,Nat.zero_le _,rfl,_,by simpa using hm,by simp,by simp,(Below.refl _ _).alloc (Nat.le_refl _) _⟩
 case round =>
  obtain ⟨k,hk,rfl,F,ho,hn,hF,hb⟩:=hrel
  by_cases hlt:k < zs.length
  ·obtain ⟨b,off,rfl,hc⟩:=h.int.2.2 k hlt
   have hcl:=hc
   have hc:=(hb.cell (World.block_lt_of_cell? w _ hc)).trans hc
   obtain ⟨_,hcell,hput⟩:=ho.put hn k (by simp;omega)
   obtain ⟨⟨u,hg⟩,hfz⟩:=hcell 0 (by decide)
   simp only [show EInt.sz=1 from rfl,Nat.mul_one,Nat.add_zero] at hg hfz hput
   obtain ⟨F2,ho2,hn2,hs2⟩:=hput [.int .i64 zs[k]] zs[k] [] ⟨rfl,rfl⟩ (by simp) (by simp)
   rw [set_take_rep zs 0 k zs.length rfl hlt zs[k] (by simp)] at ho2
   have HO:=Lib.hid ho2
   clear ho ho2 hput hcell hcl
   go_wp2
   exact ⟨⟨k+1,by omega,by go_num,F2,HO.out,hn2,fun b hb=>by rcases hs2 b hb with hb|hb;exact hF b hb;simp at hb,hb.setCell (Nat.le_refl _) _⟩,by simp [intOf];omega⟩
  ·have hk:k=zs.length:=by omega
   subst hk
   have HO:=Lib.hid ho
   clear ho
   go_wp2
   go_ret
   exact ⟨_,F,rfl,by simpa using HO.out,hn,hF,hb⟩
theorem eqIntS_c (va vb:Value) (zs:List Int) (Fa Fb:List Nat) (w:World) (ha:Sl EInt w va zs Fa) (hb:Sl EInt w vb zs Fb) :
  Calls Tryz.prog 106 #[va,vb] w fun e w'=>e=.returned (.bool true)∧Below w.heap.size w w':=by
 obtain ⟨a,ca,rfl,_,_⟩:=id ha
 obtain ⟨b,cb,rfl,_,_⟩:=id hb
 obtain ⟨_,hla,ha⟩:=ha.int
 obtain ⟨_, -,hb⟩:=hb.int
 unfold maxLen at hla
 go_enter Tryz.func106,Tryz.ntmps106
 go_wp2
 go_loopw [5] (fun i wr=>∃k:Nat,k≤zs.length∧i=.int .i64 k∧∃n,wr=w.drewN n) (fun i _=>zs.length - (intOf i).toNat)
 case atStart=>exact ⟨0,Nat.zero_le _,rfl,0,rfl⟩
 case round =>
  obtain ⟨k,hk,rfl,n,rfl⟩:=hrel
  by_cases hlt:k < zs.length
  ·obtain ⟨ba,oa,rfl,hca⟩:=ha k hlt
   obtain ⟨bb,ob,rfl,hcb⟩:=hb k hlt
   clear ha hb
   have he':(zs[k] != zs[k])=false:=by simp
   go_wp2
   go_quiet (fail)
   go_wp2
   exact ⟨⟨k+1,by omega,by go_num,n+nq,by simp⟩,by simp [intOf];omega⟩
  ·go_wp2
   go_ret
   exact ⟨rfl,belowDrewN (Below.refl _ _) _⟩
theorem sum_cntI (xs:List Int) (k:Nat) (h:k≤xs.length):psum cntI xs k=k:=by
 have:∀ys:List Int,(ys.map cntI).sum=ys.length:=fun ys=>by
  induction ys with
  | nil=>rfl
  | cons y r ih=>simp only [List.map_cons,List.sum_cons,ih,List.length_cons,cntI];omega
 unfold psum;rw [this];simp;omega
theorem cntL_int (xs:List Int):cntL cntI xs=xs.length:=by have:=sum_cntI xs xs.length (Nat.le_refl _);rwa [psum_all] at this
theorem markIntS_c (v:Value) (zs:List Int) (F:List Nat) (k0:Int) (w:World) (h:Ow EInt 3 w v zs F) (hn:F.Nodup) (h0:0≤k0) (h1:k0+cntL cntI zs≤1099511627776) :
  Calls Tryz.prog 112 #[v,.int .i64 k0] w (RetMark EInt 3 v (k0+cntL cntI zs) (markL mkI cntI k0 zs) F w):=by
 obtain ⟨a,cap,rfl⟩:=h.slice
 rw [cntL_int] at h1
 go_enter Tryz.func112,Tryz.ntmps112
 go_wp2
 go_loopw [1,5] (fun kk i wr=>∃k:Nat,k≤zs.length∧i=.int .i64 k∧kk=.int .i64 (k0+k)∧Ow EInt 3 wr (.slice a zs.length cap) ((markL mkI cntI k0 zs).take k++zs.drop k) F∧Keep F w wr) (fun _ i _=>zs.length - (intOf i).toNat)
 case atStart=>exact ⟨0,Nat.zero_le _,rfl,by simp,by simpa using h,Keep.refl _ _⟩
 case round =>
  obtain ⟨k,hk,rfl,rfl,ho,hb⟩:=hrel
  by_cases hlt:k < zs.length
  ·have hln:k < ((markL mkI cntI k0 zs).take k++zs.drop k).length:=by simp [markL_len];omega
   obtain ⟨g,rfl⟩:=ho.head k hln
   obtain ⟨A,c,B,Fi,hrow,hA,hcl,⟨rfl,rfl⟩, -, -,hgF, -,back⟩:=ho.inPlace hn k hln
   rw [show EInt.sz=1 from rfl,Nat.mul_one] at hA
   have hg:=hrow.cellMid (p:=k) (j:=0) (by omega) (by simp)
   have hfz:=hrow.frozen k
   have HB:=Lib.hid (back (wr.setCell ⟨g,k,none⟩ (.int .i64 (k0+k))) [.int .i64 (k0+k)] (k0+k) (hrow.setMid (p:=k) (j:=0) (by omega) (by simp) _) ⟨rfl,rfl⟩ ((Keep.refl _ _).setCell (by simp) _))
   have hst:=markL_step mkI cntI zs k0 k hlt
   rw [sum_cntI zs k (by omega)] at hst
   simp only [mkI] at hst
   rw [hst] at HB
   clear hst
   clear ho back hA
   simp only [List.getElem?_cons_zero] at hg
   go_wp2
   exact ⟨⟨k+1,by omega,by go_num,by go_num,HB.out,hb.setCell hgF _⟩,by simp [intOf];omega⟩
  ·have hk:k=zs.length:=by omega
   subst hk
   have HO:=Lib.hid ho
   clear ho
   go_wp2
   go_ret
   exact ⟨ret_int (by rw [cntL_int]),by simpa [markL_len,List.take_of_length_le] using HO.out,hb⟩
theorem heldIntS_c (v:Value) (zs:List Int) (F:List Nat) (k0:Int) (w:World) (h:Sl EInt w v (markL mkI cntI k0 zs) F) (h0:0≤k0) (h1:k0+cntL cntI zs≤1099511627776) :
  Calls Tryz.prog 119 #[v,.int .i64 k0] w fun e w'=>e=.returned (.int .i64 (k0+cntL cntI zs))∧Below w.heap.size w w':=by
 obtain ⟨a,cap,rfl,_,_⟩:=id h
 obtain ⟨_,_,h⟩:=h.int
 have hm:∀k (hk:k < zs.length),(markL mkI cntI k0 zs)[k]'(by rw [markL_len];exact hk)=k0+k:=fun k hk=>by
  rw [markL_get mkI cntI zs k0 k hk,sum_cntI zs k (by omega)];rfl
 rw [cntL_int] at h1 ⊢
 rw [markL_len]
 go_enter Tryz.func119,Tryz.ntmps119
 go_wp2
 go_loop [1,5] (fun kk i=>∃k:Nat,k≤zs.length∧i=.int .i64 k∧kk=.int .i64 (k0+k)) (fun _ i=>zs.length - (intOf i).toNat)
 case atStart=>exact ⟨0,Nat.zero_le _,rfl,by simp⟩
 case round =>
  obtain ⟨k,hk,rfl,rfl⟩:=hrel
  by_cases hlt:k < zs.length
  ·obtain ⟨b,off,rfl,hc⟩:=h k (by rw [markL_len];exact hlt)
   rw [hm k hlt] at hc
   clear h hm
   have he:((k0+k:Int) != k0+k)=false:=by simp
   go_wp2
   go_round
   case rel=>exact ⟨k+1,by omega,by go_num,by go_num⟩
   case measure=>simp [intOf];omega
  ·have hk:k=zs.length:=by omega
   subst hk
   go_wp2
   go_ret
   exact ⟨rfl,Below.refl _ _⟩
structure Tree where
 parent:List Int
def ETree:Elem Tree where
 sz:=1
 rep w cs x F:=∃v1,cs=[v1]∧Sl EInt w v1 x.parent F
 len h:=by obtain ⟨v1,rfl,h1⟩:=h;rfl
 lt h:=by obtain ⟨v1,rfl,h1⟩:=h;exact h1.lt (by decide)
 frame h hF:=by obtain ⟨v1,rfl,h1⟩:=h;exact ⟨v1,rfl,h1.frame hF⟩
def OTree:Elem Tree where
 sz:=1
 rep w cs x F:=∃v1,cs=[v1]∧Ow EInt 3 w v1 x.parent F
 len h:=by obtain ⟨v1,rfl,h1⟩:=h;rfl
 lt h:=by obtain ⟨v1,rfl,h1⟩:=h;exact h1.lt
 frame h hF:=by obtain ⟨v1,rfl,h1⟩:=h;exact ⟨v1,rfl,h1.frame hF⟩
def wtTree (x:Tree):Nat:=wtL (fun _=>0) x.parent
def cvTree (x:Tree):Nat:=(cntL cntI) x.parent
def mvTree (k:Int) (x:Tree):Tree:=⟨(markL mkI cntI) (k) x.parent⟩
theorem szTree_c (v:Value) (x:Tree) (F:List Nat) (n:Int) (w:World) (h:IsV ETree w v x F) (h0:0≤n) (h1:n≤1048576) :
  Calls Tryz.prog 29 #[v,.int .i64 n] w fun e w'=>e=.returned (.int .i64 (szr n (wtTree x)))∧Below w.heap.size w w':=by
 obtain ⟨_,rfl,v1,rfl,h1⟩:=h
 have hB0:∀A:Obj,Below w.heap.size w (w.alloc A):=fun A=>(Below.refl _ _).alloc (Nat.le_refl _) _
 unfold wtTree
 go_enter Tryz.func29,Tryz.ntmps29
 go_wp2_with fail
 refine (szIntS_c _ x.parent _ _ _ (h1.below (by decide) (hB0 _)) (by omega) (by omega)).mono ?_
 rintro e w1 ⟨rfl,hb1⟩
 have r0:=Row.below (g:=w.heap.size) (t:=24) (cs:=[v1]) (by simp [row_alloc]) hb1
 have hB:=tr (hB0 _) hb1 (Nat.le_refl _)
 have c0:=r0.cells
 clear hb1
 rcases szr_or (n) (wtL (fun _=>0) x.parent) with ⟨e1,l1⟩|⟨e1,l1⟩
 ·simp only [e1]
  have z1:=Lib.hid e1;clear e1
  go_wp2_with fail
  go_ret
  exact ⟨ret_int (szr_no (by omega)).symm,hB⟩
 simp only [e1]
 have z1:=Lib.hid e1;clear e1
 go_wp2_with fail
 go_ret
 exact ⟨ret_int (by rw [szr_yes (by omega)];all_goals omega),hB⟩
theorem toTree_c (v:Value) (x:Tree) (F:List Nat) (w:World) (h:IsV ETree w v x F) (hl:wtTree x≤1048576) :
  Calls Tryz.prog 37 #[v] w (RetV OTree x w):=by
 obtain ⟨_,rfl,v1,rfl,h1⟩:=h
 unfold wtTree at hl
 have hB0:∀A B C:Obj,Below w.heap.size w (((w.alloc A).alloc B).alloc C):=fun A B C=>(((Below.refl _ _).alloc (Nat.le_refl _) _).alloc (by simp) _).alloc (by simp <;> omega) _
 go_enter Tryz.func37,Tryz.ntmps37
 go_wp2_with fail
 refine (toIntS_c _ x.parent _ _ (h1.below (by decide) (hB0 _ _ _)) (by omega)).mono ?_
 rintro e w1 ⟨y1,K1,rfl,o1,n1,g1,hb1⟩
 obtain ⟨d1,p1,rfl⟩:=o1.slice
 have l1:∀b∈K1,b < w1.heap.size:=o1.lt
 have r0:=Row.below (g:=w.heap.size) (t:=24) (cs:=[v1]) (by simp [row_alloc] <;> omega) hb1
 have r1:=Row.below (g:=w.heap.size+1) (t:=40) (cs:=[.slice none 0 0]) (by simp [row_alloc] <;> omega) hb1
 have r2:=Row.below (g:=w.heap.size+1+1) (t:=40) (cs:=[.slice none 0 0]) (by simp [row_alloc] <;> omega) hb1
 have hB:=tr (hB0 _ _ _) hb1 (Nat.le_refl _)
 have hs1:=hb1.size
 simp only [World.size_alloc] at hs1 g1
 clear hb1
 have c0:=r0.cells;have c1:=r1.cells;have c2:=r2.cells;have f1:=r1.frozens;have f2:=r2.frozens
 have o1_:=Lib.hid o1
 go_wp2_with fail
 refine bodyPost_ret (v:=.agg #[.slice d1 x.parent.length p1]) ?_ rfl ?_
 ·simp [results,Tryz.results37,go_sem,c0,c1,c2,f1,f2]
 ·refine ⟨_,K1,rfl,⟨_,rfl,_,rfl,?_⟩,?_,?_,?_⟩
  ·repeat refine Ow.setFar ?_ (fun hm=>by have:=g1 _ hm;simp at this <;> omega) _
   exact o1
  ·exact n1
  ·intro b hb
   have:=g1 b hb;omega
  ·repeat refine Below.setCell ?_ (by simp <;> omega) _
   exact hB
theorem eqTree_c (va vb:Value) (x:Tree) (Fa Fb:List Nat) (w:World) (ha:IsV ETree w va x Fa) (hb:IsV ETree w vb x Fb) :
  Calls Tryz.prog 46 #[va,vb] w fun e w'=>e=.returned (.bool true)∧Below w.heap.size w w':=by
 obtain ⟨_,rfl,v1,rfl,h1⟩:=ha
 obtain ⟨_,rfl,u1,rfl,k1⟩:=hb
 have hB0:∀A B:Obj,Below w.heap.size w ((w.alloc A).alloc B):=fun A B=>((Below.refl _ _).alloc (Nat.le_refl _) _).alloc (by simp) _
 have hE:∀z:Int,(z != z)=false:=fun z=>by simp
 go_enter Tryz.func46,Tryz.ntmps46
 go_wp2_with fail
 refine (eqIntS_c _ _ x.parent _ _ _ (h1.below (by decide) (hB0 _ _)) (k1.below (by decide) (hB0 _ _))).mono ?_
 rintro e w1 ⟨rfl,hb1⟩
 have r0:=Row.below (g:=w.heap.size) (t:=40) (cs:=[v1]) (by simp [row_alloc] <;> omega) hb1
 have r1:=Row.below (g:=w.heap.size+1) (t:=40) (cs:=[u1]) (by simp [row_alloc] <;> omega) hb1
 have hB:=tr (hB0 _ _) hb1 (Nat.le_refl _)
 clear hb1
 have c0:=r0.cells;have c1:=r1.cells
 go_wp2_with fail
 go_ret
 exact ⟨rfl,hB⟩
theorem markTree_c (v:Value) (x:Tree) (F:List Nat) (k0:Int) (w:World) (h:IsV OTree w v x F) (hn:F.Nodup) (p0:0≤k0) (p1:k0+cvTree x≤1099511627776) :
  Calls Tryz.prog 51 #[v,.int .i64 k0] w (RetMarkV OTree v (k0+cvTree x) (mvTree k0 x) F w):=by
 have hlt:∀b∈F,b < w.heap.size:=by obtain ⟨cs, -,hx⟩:=h;exact OTree.lt hx
 obtain ⟨_,rfl,v1,rfl,h1⟩:=h
 unfold cvTree at p1 ⊢
 have hB0:∀A:Obj,Below w.heap.size w (w.alloc A):=fun A=>(Below.refl _ _).alloc (Nat.le_refl _) _
 have hw:w.heap.size ∉ F:=fun e=>by have:=hlt _ e;omega
 have nF1:=hn
 have w1_:=hw
 go_enter Tryz.func51,Tryz.ntmps51
 go_wp2_with fail
 refine (markIntS_c _ x.parent _ (k0) _ (h1.below (hB0 _)) nF1 (by omega) (by omega)).mono ?_
 rintro e w1 ⟨rfl,o1,kp1⟩
 have r0:=Row.keepK (g:=w.heap.size) (t:=40) (cs:=[v1]) (by simp [row_alloc]) kp1 w1_
 have KK:Keep F w w1:=(Keep.ofBelow (hB0 _)).trans (kp1.mono (fun b hb _=>hb))
 clear kp1
 have c0:=r0.cells
 go_wp2_with fail
 go_ret
 exact ⟨ret_int (by omega),⟨_,rfl,_,rfl,o1⟩,KK⟩
theorem heldTree_c (v:Value) (x:Tree) (F:List Nat) (k0:Int) (w:World) (h:IsV ETree w v (mvTree k0 x) F) (p0:0≤k0) (p1:k0+cvTree x≤1099511627776) :
  Calls Tryz.prog 57 #[v,.int .i64 k0] w fun e w'=>e=.returned (.int .i64 (k0+cvTree x))∧Below w.heap.size w w':=by
 obtain ⟨_,rfl,v1,rfl,h1⟩:=h
 unfold cvTree at p1 ⊢
 have hB0:∀A:Obj,Below w.heap.size w (w.alloc A):=fun A=>(Below.refl _ _).alloc (Nat.le_refl _) _
 go_enter Tryz.func57,Tryz.ntmps57
 go_wp2_with fail
 refine (heldIntS_c _ x.parent _ (k0) _ (h1.below (by decide) (hB0 _)) (by omega) (by omega)).mono ?_
 rintro e w1 ⟨rfl,hb1⟩
 have r0:=Row.below (g:=w.heap.size) (t:=40) (cs:=[v1]) (by simp [row_alloc,mvTree]) hb1
 have hB:=tr (hB0 _) hb1 (Nat.le_refl _)
 clear hb1
 have c0:=r0.cells
 go_wp2_with fail
 go_ret
 exact ⟨ret_int (by omega),hB⟩
theorem info_string:(Tryz.prog.info? 9).map (fun i=>(i.zero,i.size,i.bytes))=some (some (.string ⟨#[]⟩),1,16):=by kernel_rfl
theorem Sl.str {w:World} {a:Option Addr} {n cap:Nat} {xs:List ByteArray} {F} (h:Sl EStr w (.slice a n cap) xs F):n=xs.length∧n≤maxLen ∧
  ∀k (hk:k < xs.length),xs[k].size≤maxLen∧∃b off,a=some ⟨b,off,none⟩∧w.cell? ⟨b,off+k,none⟩=some (.string xs[k]):=by
 obtain ⟨a',cap',hv,hl,h⟩:=h
 cases hv
 refine ⟨rfl,by omega,fun k hk=>?_⟩
 rcases h with ⟨rfl,_⟩|⟨b,off,F',rfl,_,_,hc⟩
 ·simp at hk
 ·obtain ⟨cs,F1,⟨rfl,hs,_⟩,hj,_⟩:=hc.get k hk
  exact ⟨hs,b,off,rfl,by simpa [EStr] using hj 0 (by decide)⟩
theorem szStringS_c (v:Value) (zs:List ByteArray) (F:List Nat) (n:Int) (w:World) (h:Sl EStr w v zs F) (h0:0≤n) (h1:n≤1048576) :
  Calls Tryz.prog 141 #[v,.int .i64 n] w fun e w'=>e=.returned (.int .i64 (szr n (wtL ByteArray.size zs)))∧Below w.heap.size w w':=by
 obtain ⟨a,cap,rfl⟩:=h.slice
 obtain ⟨_,hl,hc⟩:=h.str
 unfold maxLen at hl hc
 go_enter Tryz.func141,Tryz.ntmps141
 by_cases hn:n < zs.length
 ·go_wp2
  go_ret
  exact ⟨ret_int (szr_no (by have:=wtL_le ByteArray.size zs 0;omega)).symm,Below.refl _ _⟩
 go_wp2
 go_loop [1,5] (fun l i=>∃k:Nat,k≤zs.length∧i=.int .i64 k∧l=.int .i64 (n - zs.length - psum ByteArray.size zs k)∧(psum ByteArray.size zs k:Int)+zs.length≤n) (fun _ i=>zs.length - (intOf i).toNat)
 case atStart=>exact ⟨0,Nat.zero_le _,rfl,by rw [psum_zero];simp,by rw [psum_zero];omega⟩
 case round =>
  obtain ⟨k,hk,rfl,rfl,hle⟩:=hrel
  by_cases hlt:k < zs.length
  ·have hsn:=psum_snoc ByteArray.size zs k hlt
   have hsl:=wtL_le ByteArray.size zs (k+1)
   obtain ⟨hs,b,off,rfl,c0⟩:=hc k hlt
   have hS:=Lib.hid hsn;clear hsn hc
   by_cases hr:n - zs.length - psum ByteArray.size zs k < zs[k].size
   ·have hr2:n - zs.length - psum ByteArray.size zs k - zs[k].size < 0:=by omega
    go_wp2
    go_ret
    exact ⟨ret_int (szr_no (by have:=hS.out;omega)).symm,Below.refl _ _⟩
   ·have hr2:¬n - zs.length - psum ByteArray.size zs k - zs[k].size < 0:=by omega
    go_wp2
    go_round
    case rel=>exact ⟨k+1,by omega,by go_num,congrArg (Value.int .i64) (by have:=hS.out;omega),by have:=hS.out;omega⟩
    case measure=>simp [intOf];omega
  ·have hk:k=zs.length:=by omega
   subst hk
   go_wp2
   go_ret
   exact ⟨ret_int (by rw [szr_yes (by rw [wtL_eq];omega),wtL_eq];omega),Below.refl _ _⟩
theorem toStringS_c (v:Value) (zs:List ByteArray) (F:List Nat) (w:World) (h:Sl EStr w v zs F) (hl0:wtL ByteArray.size zs≤1048576) :
  Calls Tryz.prog 166 #[v] w (RetNew EStr 9 zs w):=by
 have hl1:zs.length≤1048576:=by have:=wtL_le ByteArray.size zs 0;omega
 obtain ⟨a,cap,rfl⟩:=h.slice
 have hmk:=fun w=>run_make_row' (P:=Tryz.prog) 25 9 (.string ⟨#[]⟩) 16 Tryz.underlying25 info_string rfl .i64 .i64 zs.length (by omega) (by omega) w
 have hm:=Ow.made (E:=EStr) (t:=9) w #[.string ⟨#[]⟩] zs.length ⟨#[]⟩ rfl (fun _=>⟨rfl,by simp [ByteArray.size],rfl⟩) (by unfold maxLen;omega)
 simp only [show EStr.sz=1 from rfl,Nat.mul_one] at hm
 go_enter Tryz.func166,Tryz.ntmps166
 go_wp2
 clear hmk
 go_loopw [4] (fun i wr=>∃k:Nat,k≤zs.length∧i=.int .i64 k∧∃F,Ow EStr 9 wr (.slice (some ⟨w.heap.size,0,none⟩) zs.length zs.length) (zs.take k++List.replicate (zs.length - k) ⟨#[]⟩) F∧F.Nodup∧(∀b∈F,w.heap.size≤b)∧Below w.heap.size w wr) (fun i _=>zs.length - (intOf i).toNat)
 case atStart=>exact ⟨0,Nat.zero_le _,rfl,_,by simpa using hm,by simp,by simp,(Below.refl _ _).alloc (Nat.le_refl _) _⟩
 case round =>
  obtain ⟨k,hk,rfl,F,ho,hn,hF,hb⟩:=hrel
  by_cases hlt:k < zs.length
  ·obtain ⟨hs,b,off,rfl,hc⟩:=h.str.2.2 k hlt
   have hcl:=hc
   have hc:=(hb.cell (World.block_lt_of_cell? w _ hc)).trans hc
   obtain ⟨_,hcell,hput⟩:=ho.put hn k (by simp;omega)
   obtain ⟨⟨u,hg⟩,hfz⟩:=hcell 0 (by decide)
   simp only [show EStr.sz=1 from rfl,Nat.mul_one,Nat.add_zero] at hg hfz hput
   obtain ⟨F2,ho2,hn2,hs2⟩:=hput [.string zs[k]] zs[k] [] ⟨rfl,hs,rfl⟩ (by simp) (by simp)
   rw [set_take_rep zs ⟨#[]⟩ k zs.length rfl hlt zs[k] (by simp)] at ho2
   have HO:=Lib.hid ho2
   clear ho ho2 hput hcell hcl
   go_wp2
   exact ⟨⟨k+1,by omega,by go_num,F2,HO.out,hn2,fun b hb=>by rcases hs2 b hb with hb|hb;exact hF b hb;simp at hb,hb.setCell (Nat.le_refl _) _⟩,by simp [intOf];omega⟩
  ·have hk:k=zs.length:=by omega
   subst hk
   have HO:=Lib.hid ho
   clear ho
   go_wp2
   go_ret
   exact ⟨_,F,rfl,by simpa using HO.out,hn,hF,hb⟩
theorem eqStringS_c (va vb:Value) (zs:List ByteArray) (Fa Fb:List Nat) (w:World) (ha:Sl EStr w va zs Fa) (hb:Sl EStr w vb zs Fb) :
  Calls Tryz.prog 14 #[va,vb] w fun e w'=>e=.returned (.bool true)∧Below w.heap.size w w':=by
 obtain ⟨a,ca,rfl⟩:=ha.slice
 obtain ⟨b,cb,rfl⟩:=hb.slice
 obtain ⟨_,hla,ha⟩:=ha.str
 obtain ⟨_, -,hb⟩:=hb.str
 unfold maxLen at hla ha
 go_enter Tryz.func14,Tryz.ntmps14
 go_wp2
 go_loopw [5] (fun i wr=>∃k:Nat,k≤zs.length∧i=.int .i64 k∧∃n,wr=w.drewN n) (fun i _=>zs.length - (intOf i).toNat)
 case atStart=>exact ⟨0,Nat.zero_le _,rfl,0,rfl⟩
 case round =>
  obtain ⟨k,hk,rfl,n,rfl⟩:=hrel
  by_cases hlt:k < zs.length
  ·obtain ⟨hs,ba,oa,rfl,hca⟩:=ha k hlt
   obtain ⟨-,bb,ob,rfl,hcb⟩:=hb k hlt
   clear ha hb
   go_wp2
   go_quiet (fail)
   go_wp2
   exact ⟨⟨k+1,by omega,by go_num,n+nq,by simp⟩,by simp [intOf];omega⟩
  ·go_wp2
   go_ret
   exact ⟨rfl,belowDrewN (Below.refl _ _) _⟩
theorem sum_cntS (xs:List ByteArray) (k:Nat) (h:k≤xs.length):psum cntS xs k=k:=by
 have:∀ys:List ByteArray,(ys.map cntS).sum=ys.length:=fun ys=>by
  induction ys with
  | nil=>rfl
  | cons y r ih=>simp only [List.map_cons,List.sum_cons,ih,List.length_cons,cntS];omega
 unfold psum;rw [this];simp;omega
theorem cntL_str (xs:List ByteArray):cntL cntS xs=xs.length:=by have:=sum_cntS xs xs.length (Nat.le_refl _);rwa [psum_all] at this
theorem ba_append (a b:Array UInt8):(⟨a⟩:ByteArray)++⟨b⟩=⟨a++b⟩:=by apply ByteArray.ext;simp [ByteArray.data_append]
theorem mdigits_zero (m:Nat) (r:List UInt8):mdigits m 0 r=r:=by cases m <;> simp [mdigits]
theorem mdigits_pos (m k:Nat) (r:List UInt8) (h:k≠0):mdigits (m+1) k r=mdigits m (k / 10) (UInt8.ofNat (48+k % 10)::r):=by simp [mdigits,h]
theorem markText_c (k:Int) (w:World) (h0:0≤k) (h1:k≤1099511627776) :
  Calls Tryz.prog 56 #[.int .i64 k] w fun e w'=>e=.returned (.string (mtext k))∧Below w.heap.size w w':=by
 by_cases hk:k≤0
 ·have hm:mtext k=⟨#[109,48]⟩:=by unfold mtext;rw [if_pos hk]
  have hm:=Lib.hid hm
  go_enter Tryz.func56,Tryz.ntmps56
  go_wp2
  go_ret
  exact ⟨by rw [hm.out];rfl,Below.refl _ _⟩
 obtain ⟨kn,rfl⟩:=Int.eq_ofNat_of_zero_le h0
 have hm:mtext (kn:Int)=⟨(109::mdigits 20 kn []).toArray⟩:=by unfold mtext;rw [if_neg hk];rfl
 have hm:=Lib.hid hm
 generalize hD:mdigits 20 kn []=D at *
 have hD:=Lib.hid hD
 have hk:¬kn≤0:=by omega
 go_enter Tryz.func56,Tryz.ntmps56
 go_wp2
 go_loopw [0,3] (fun k o wr=>∃(m kk:Nat) (r:List UInt8),k=.int .i64 (kk:Int)∧o=.string ⟨r.toArray⟩∧(kk:Int)≤1099511627776∧r.length+m≤20∧Hid (kk < 10 ^ m)∧Hid (mdigits m kk r=D)∧Below w.heap.size w wr) (fun k _ _=>(intOf k).toNat)
 case atStart=>exact ⟨20,kn,[],rfl,rfl,h1,by simp,by show kn < 10 ^ 20;omega,hD,Below.refl _ _⟩
 case round =>
  obtain ⟨m,kk,r,rfl,rfl,hkk,hr,hp,hd,hB⟩:=hrel
  by_cases h0:0 < kk
  ·have b0:(0:Int)≤(kk:Int) % 10:=by omega
   have b1:(kk:Int) % 10≤9:=by omega
   have hcv:((convert 174 9 (.slice (some ⟨wr.heap.size,0,none⟩) 1 1)).run Tryz.prog (wr.alloc (.cells #[.int .u8 (48+(kk:Int) % 10)] 5)))=.ok (.string ⟨[UInt8.ofNat (48+kk % 10)].toArray⟩) (wr.alloc (.cells #[.int .u8 (48+(kk:Int) % 10)] 5)):=by
    have h:=run_convert_bytes_back (P:=Tryz.prog) (wr.alloc (.cells #[.int .u8 (48+(kk:Int) % 10)] 5)) 174 9 5 ⟨wr.heap.size,0,none⟩ 1 [UInt8.ofNat (48+kk % 10)] Tryz.underlying174 Tryz.underlying5 Tryz.underlying9 (fun j hj=>by
     obtain rfl:j=0:=by simpa using hj
     have e1:(UInt8.ofNat (48+kk % 10)).toNat=48+kk % 10:=by rw [UInt8.toNat_ofNat'];omega
     simp only [List.getElem_cons_zero,e1]
     simp [Addr.add])
    exact h
   obtain ⟨m',rfl⟩:∃m',m=m'+1:=⟨m - 1,by have:=hp.out;rcases m with _|m <;> simp at this ⊢;omega⟩
   have hp':Hid (kk / 10 < 10 ^ m'):=by have:=hp.out;rw [Nat.pow_succ] at this;show kk / 10 < 10 ^ m';omega
   have hd':Hid (mdigits m' (kk / 10) (UInt8.ofNat (48+kk % 10)::r)=D):=by rw [←mdigits_pos m' kk r (by omega)];exact hd
   clear hd hp
   go_wp2
   exact ⟨⟨m',kk / 10,UInt8.ofNat (48+kk % 10)::r,by simp,congrArg Value.string (by rw [ba_append];simp),by omega,by simp;omega,hp',hd',hB.alloc hB.size _⟩,by simp [intOf];omega⟩
  ·go_wp2
   go_ret
   have hk0:kk=0:=by omega
   have hd:=hd.out
   rw [hk0,mdigits_zero] at hd
   subst hd
   exact ⟨by rw [hm.out,ba_append];simp,hB⟩
theorem markStringS_c (v:Value) (zs:List ByteArray) (F:List Nat) (k0:Int) (w:World) (h:Ow EStr 9 w v zs F) (hn:F.Nodup) (h0:0≤k0) (h1:k0+cntL cntS zs≤1099511627776) :
  Calls Tryz.prog 16 #[v,.int .i64 k0] w (RetMark EStr 9 v (k0+cntL cntS zs) (markL mkS cntS k0 zs) F w):=by
 obtain ⟨a,cap,rfl⟩:=h.slice
 have hl:=h.len
 unfold maxLen at hl
 rw [cntL_str] at h1
 go_enter Tryz.func16,Tryz.ntmps16
 go_wp2
 go_loopw [1,5] (fun kk i wr=>∃k:Nat,k≤zs.length∧i=.int .i64 k∧kk=.int .i64 (k0+k)∧Ow EStr 9 wr (.slice a zs.length cap) ((markL mkS cntS k0 zs).take k++zs.drop k) F∧Keep F w wr) (fun _ i _=>zs.length - (intOf i).toNat)
 case atStart=>exact ⟨0,Nat.zero_le _,rfl,by simp,by simpa using h,Keep.refl _ _⟩
 case round =>
  obtain ⟨k,hk,rfl,rfl,ho,hK⟩:=hrel
  by_cases hlt:k < zs.length
  ·have hln:k < ((markL mkS cntS k0 zs).take k++zs.drop k).length:=by simp [markL_len];omega
   obtain ⟨g,rfl⟩:=ho.head k hln
   obtain ⟨A,c,B,Fi,hrow,hA,hcl,⟨rfl, -,rfl⟩, -, -,hgF, -,back⟩:=ho.inPlace hn k hln
   rw [show EStr.sz=1 from rfl,Nat.mul_one] at hA
   have hst:=markL_step mkS cntS zs k0 k hlt
   rw [sum_cntS zs k (by omega)] at hst
   have hst:=Lib.hid hst
   have hbk:=Lib.hid back
   clear ho back
   have z0:=hrow.cellMid (p:=k) (j:=0) (by omega) (by simp)
   have hfz:=hrow.frozens
   simp only [List.getElem?_cons_zero] at z0
   go_wp2_with fail
   refine (markText_c (k0+k) _ (by omega) (by omega)).mono ?_
   rintro e w1 ⟨rfl,hb1⟩
   have hrow:=hrow.below hb1
   have KK:=Keep.ofBelow (F:=[g]) hb1
   have z0:=hrow.cellMid (p:=k) (j:=0) (by omega) (by simp)
   have hfz:=hrow.frozens
   simp only [List.getElem?_cons_zero] at z0
   clear hb1
   go_wp2_with fail
   have HB:=hbk.out (w1.setCell ⟨g,k,none⟩ (.string (mtext (k0+k)))) [.string (mtext (k0+k))] (mtext (k0+k)) (hrow.setMid (p:=k) (j:=0) (by omega) (by simp) _) ⟨rfl,mtext_len _,rfl⟩ (KK.setCell (by simp) _)
   have hst:=hst.out
   simp only [mkS] at hst
   rw [hst] at HB
   exact ⟨⟨k+1,by omega,by go_num,by go_num,HB,(hK.trans (KK.mono (fun b hb _=>by simp at hb;subst hb;exact hgF))).setCell hgF _⟩,by simp [intOf];omega⟩
  ·have hk:k=zs.length:=by omega
   subst hk
   have HO:=Lib.hid ho
   clear ho
   go_wp2
   go_ret
   exact ⟨ret_int (by rw [cntL_str]),by simpa [markL_len,List.take_of_length_le] using HO.out,hK⟩
theorem heldStringS_c (v:Value) (zs:List ByteArray) (F:List Nat) (k0:Int) (w:World) (h:Sl EStr w v (markL mkS cntS k0 zs) F) (h0:0≤k0) (h1:k0+cntL cntS zs≤1099511627776) :
  Calls Tryz.prog 18 #[v,.int .i64 k0] w fun e w'=>e=.returned (.int .i64 (k0+cntL cntS zs))∧Below w.heap.size w w':=by
 obtain ⟨a,cap,rfl⟩:=h.slice
 have hm:∀k (hk:k < zs.length),(markL mkS cntS k0 zs)[k]'(by rw [markL_len];exact hk)=mtext (k0+k):=fun k hk=>by
  rw [markL_get mkS cntS zs k0 k hk,sum_cntS zs k (by omega)];rfl
 have hl:=h.len
 rw [markL_len] at hl
 unfold maxLen at hl
 rw [cntL_str] at h1 ⊢
 rw [markL_len]
 go_enter Tryz.func18,Tryz.ntmps18
 go_wp2
 go_loopw [1,5] (fun kk i wr=>∃k:Nat,k≤zs.length∧i=.int .i64 k∧kk=.int .i64 (k0+k)∧Below w.heap.size w wr) (fun _ i _=>zs.length - (intOf i).toNat)
 case atStart=>exact ⟨0,Nat.zero_le _,rfl,by simp,Below.refl _ _⟩
 case round =>
  obtain ⟨k,hk,rfl,rfl,hB⟩:=hrel
  by_cases hlt:k < zs.length
  ·obtain ⟨hs,b,off,hab,hc⟩:=(h.below (by decide) hB).str.2.2 k (by rw [markL_len];exact hlt)
   rw [hm k hlt] at hc
   have h:=Lib.hid h
   have hm:=Lib.hid hm
   subst hab
   go_wp2_with fail
   go_region_held3 (fun w'=>w'.cell? ⟨b,off+k,none⟩=some (.string (mtext (k0+k)))) (first|go_keep|(exact kc hb1 hc)|(exact hc))
    (first|(go_at_call 56;refine (markText_c (k0+k) wr.drew (by omega) (by omega)).mono ?_;rintro e w1 ⟨rfl,hb1⟩))
   have hB:=tr (belowDrewN hB 1) hb1 (Nat.le_refl _)
   clear hb1
   go_wp2_with fail
   exact ⟨⟨k+1,by omega,by go_num,by go_num,hB⟩,by simp [intOf];omega⟩
  ·have hk:k=zs.length:=by omega
   subst hk
   go_wp2
   go_ret
   exact ⟨rfl,hB⟩
structure SendWindow where
 trail:Int
 size:Int
 items:List ByteArray
def ESendWindow:Elem SendWindow where
 sz:=3
 rep w cs x F:=∃v1,cs=[.int .i64 x.trail,.int .i64 x.size,v1]∧Sl EStr w v1 x.items F
 len h:=by obtain ⟨v1,rfl,h1⟩:=h;rfl
 lt h:=by obtain ⟨v1,rfl,h1⟩:=h;exact h1.lt (by decide)
 frame h hF:=by obtain ⟨v1,rfl,h1⟩:=h;exact ⟨v1,rfl,h1.frame hF⟩
def OSendWindow:Elem SendWindow where
 sz:=3
 rep w cs x F:=∃v1,cs=[.int .i64 x.trail,.int .i64 x.size,v1]∧Ow EStr 9 w v1 x.items F
 len h:=by obtain ⟨v1,rfl,h1⟩:=h;rfl
 lt h:=by obtain ⟨v1,rfl,h1⟩:=h;exact h1.lt
 frame h hF:=by obtain ⟨v1,rfl,h1⟩:=h;exact ⟨v1,rfl,h1.frame hF⟩
def wtSendWindow (x:SendWindow):Nat:=wtL ByteArray.size x.items
def cvSendWindow (x:SendWindow):Nat:=(cntL cntS) x.items
def mvSendWindow (k:Int) (x:SendWindow):SendWindow:=⟨x.trail,x.size,(markL mkS cntS) (k) x.items⟩
theorem szSendWindow_c (v:Value) (x:SendWindow) (F:List Nat) (n:Int) (w:World) (h:IsV ESendWindow w v x F) (h0:0≤n) (h1:n≤1048576) :
  Calls Tryz.prog 71 #[v,.int .i64 n] w fun e w'=>e=.returned (.int .i64 (szr n (wtSendWindow x)))∧Below w.heap.size w w':=by
 obtain ⟨_,rfl,v1,rfl,h1⟩:=h
 have hB0:∀A:Obj,Below w.heap.size w (w.alloc A):=fun A=>(Below.refl _ _).alloc (Nat.le_refl _) _
 unfold wtSendWindow
 go_enter Tryz.func71,Tryz.ntmps71
 go_wp2_with fail
 refine (szStringS_c _ x.items _ _ _ (h1.below (by decide) (hB0 _)) (by omega) (by omega)).mono ?_
 rintro e w1 ⟨rfl,hb1⟩
 have r0:=Row.below (g:=w.heap.size) (t:=27) (cs:=[.int .i64 x.trail,.int .i64 x.size,v1]) (by simp [row_alloc]) hb1
 have hB:=tr (hB0 _) hb1 (Nat.le_refl _)
 have c0:=r0.cells
 clear hb1
 rcases szr_or (n) (wtL ByteArray.size x.items) with ⟨e1,l1⟩|⟨e1,l1⟩
 ·simp only [e1]
  have z1:=Lib.hid e1;clear e1
  go_wp2_with fail
  go_ret
  exact ⟨ret_int (szr_no (by omega)).symm,hB⟩
 simp only [e1]
 have z1:=Lib.hid e1;clear e1
 go_wp2_with fail
 go_ret
 exact ⟨ret_int (by rw [szr_yes (by omega)];all_goals omega),hB⟩
theorem toSendWindow_c (v:Value) (x:SendWindow) (F:List Nat) (w:World) (h:IsV ESendWindow w v x F) (hl:wtSendWindow x≤1048576) :
  Calls Tryz.prog 87 #[v] w (RetV OSendWindow x w):=by
 obtain ⟨_,rfl,v1,rfl,h1⟩:=h
 unfold wtSendWindow at hl
 have hB0:∀A B C:Obj,Below w.heap.size w (((w.alloc A).alloc B).alloc C):=fun A B C=>(((Below.refl _ _).alloc (Nat.le_refl _) _).alloc (by simp) _).alloc (by simp <;> omega) _
 go_enter Tryz.func87,Tryz.ntmps87
 go_wp2_with fail
 refine (toStringS_c _ x.items _ _ (h1.below (by decide) (hB0 _ _ _)) (by omega)).mono ?_
 rintro e w1 ⟨y1,K1,rfl,o1,n1,g1,hb1⟩
 obtain ⟨d1,p1,rfl⟩:=o1.slice
 have l1:∀b∈K1,b < w1.heap.size:=o1.lt
 have r0:=Row.below (g:=w.heap.size) (t:=27) (cs:=[.int .i64 x.trail,.int .i64 x.size,v1]) (by simp [row_alloc] <;> omega) hb1
 have r1:=Row.below (g:=w.heap.size+1) (t:=41) (cs:=[.int .i64 0,.int .i64 0,.slice none 0 0]) (by simp [row_alloc] <;> omega) hb1
 have r2:=Row.below (g:=w.heap.size+1+1) (t:=41) (cs:=[.int .i64 x.trail,.int .i64 x.size,.slice none 0 0]) (by simp [row_alloc] <;> omega) hb1
 have hB:=tr (hB0 _ _ _) hb1 (Nat.le_refl _)
 have hs1:=hb1.size
 simp only [World.size_alloc] at hs1 g1
 clear hb1
 have c0:=r0.cells;have c1:=r1.cells;have c2:=r2.cells;have f1:=r1.frozens;have f2:=r2.frozens
 have o1_:=Lib.hid o1
 go_wp2_with fail
 refine bodyPost_ret (v:=.agg #[.int .i64 x.trail,.int .i64 x.size,.slice d1 x.items.length p1]) ?_ rfl ?_
 ·simp [results,Tryz.results87,go_sem,c0,c1,c2,f1,f2]
 ·refine ⟨_,K1,rfl,⟨_,rfl,_,rfl,?_⟩,?_,?_,?_⟩
  ·repeat refine Ow.setFar ?_ (fun hm=>by have:=g1 _ hm;simp at this <;> omega) _
   exact o1
  ·exact n1
  ·intro b hb
   have:=g1 b hb;omega
  ·repeat refine Below.setCell ?_ (by simp <;> omega) _
   exact hB
theorem eqSendWindow_c (va vb:Value) (x:SendWindow) (Fa Fb:List Nat) (w:World) (ha:IsV ESendWindow w va x Fa) (hb:IsV ESendWindow w vb x Fb) :
  Calls Tryz.prog 107 #[va,vb] w fun e w'=>e=.returned (.bool true)∧Below w.heap.size w w':=by
 obtain ⟨_,rfl,v1,rfl,h1⟩:=ha
 obtain ⟨_,rfl,u1,rfl,k1⟩:=hb
 have hB0:∀A B:Obj,Below w.heap.size w ((w.alloc A).alloc B):=fun A B=>((Below.refl _ _).alloc (Nat.le_refl _) _).alloc (by simp) _
 have hE:∀z:Int,(z != z)=false:=fun z=>by simp
 go_enter Tryz.func107,Tryz.ntmps107
 go_wp2_with fail
 refine (eqStringS_c _ _ x.items _ _ _ (h1.below (by decide) (hB0 _ _)) (k1.below (by decide) (hB0 _ _))).mono ?_
 rintro e w1 ⟨rfl,hb1⟩
 have r0:=Row.below (g:=w.heap.size) (t:=41) (cs:=[.int .i64 x.trail,.int .i64 x.size,v1]) (by simp [row_alloc] <;> omega) hb1
 have r1:=Row.below (g:=w.heap.size+1) (t:=41) (cs:=[.int .i64 x.trail,.int .i64 x.size,u1]) (by simp [row_alloc] <;> omega) hb1
 have hB:=tr (hB0 _ _) hb1 (Nat.le_refl _)
 clear hb1
 have c0:=r0.cells;have c1:=r1.cells
 go_wp2_with fail
 go_ret
 exact ⟨rfl,hB⟩
theorem markSendWindow_c (v:Value) (x:SendWindow) (F:List Nat) (k0:Int) (w:World) (h:IsV OSendWindow w v x F) (hn:F.Nodup) (p0:0≤k0) (p1:k0+cvSendWindow x≤1099511627776) :
  Calls Tryz.prog 113 #[v,.int .i64 k0] w (RetMarkV OSendWindow v (k0+cvSendWindow x) (mvSendWindow k0 x) F w):=by
 have hlt:∀b∈F,b < w.heap.size:=by obtain ⟨cs, -,hx⟩:=h;exact OSendWindow.lt hx
 obtain ⟨_,rfl,v1,rfl,h1⟩:=h
 unfold cvSendWindow at p1 ⊢
 have hB0:∀A:Obj,Below w.heap.size w (w.alloc A):=fun A=>(Below.refl _ _).alloc (Nat.le_refl _) _
 have hw:w.heap.size ∉ F:=fun e=>by have:=hlt _ e;omega
 have nF1:=hn
 have w1_:=hw
 go_enter Tryz.func113,Tryz.ntmps113
 go_wp2_with fail
 refine (markStringS_c _ x.items _ (k0) _ (h1.below (hB0 _)) nF1 (by omega) (by omega)).mono ?_
 rintro e w1 ⟨rfl,o1,kp1⟩
 have r0:=Row.keepK (g:=w.heap.size) (t:=41) (cs:=[.int .i64 x.trail,.int .i64 x.size,v1]) (by simp [row_alloc]) kp1 w1_
 have KK:Keep F w w1:=(Keep.ofBelow (hB0 _)).trans (kp1.mono (fun b hb _=>hb))
 clear kp1
 have c0:=r0.cells
 go_wp2_with fail
 go_ret
 exact ⟨ret_int (by omega),⟨_,rfl,_,rfl,o1⟩,KK⟩
theorem heldSendWindow_c (v:Value) (x:SendWindow) (F:List Nat) (k0:Int) (w:World) (h:IsV ESendWindow w v (mvSendWindow k0 x) F) (p0:0≤k0) (p1:k0+cvSendWindow x≤1099511627776) :
  Calls Tryz.prog 120 #[v,.int .i64 k0] w fun e w'=>e=.returned (.int .i64 (k0+cvSendWindow x))∧Below w.heap.size w w':=by
 obtain ⟨_,rfl,v1,rfl,h1⟩:=h
 unfold cvSendWindow at p1 ⊢
 have hB0:∀A:Obj,Below w.heap.size w (w.alloc A):=fun A=>(Below.refl _ _).alloc (Nat.le_refl _) _
 go_enter Tryz.func120,Tryz.ntmps120
 go_wp2_with fail
 refine (heldStringS_c _ x.items _ (k0) _ (h1.below (by decide) (hB0 _)) (by omega) (by omega)).mono ?_
 rintro e w1 ⟨rfl,hb1⟩
 have r0:=Row.below (g:=w.heap.size) (t:=41) (cs:=[.int .i64 x.trail,.int .i64 x.size,v1]) (by simp [row_alloc,mvSendWindow]) hb1
 have hB:=tr (hB0 _) hb1 (Nat.le_refl _)
 clear hb1
 have c0:=r0.cells
 go_wp2_with fail
 go_ret
 exact ⟨ret_int (by omega),hB⟩
structure Hold where
 number:Int
 untl:Int
def EHold:Elem Hold where
 sz:=2
 rep _ cs x F:=cs=[.int .i64 x.number,.int .i64 x.untl]∧F=[]
 len h:=by obtain ⟨rfl,rfl⟩:=h;rfl
 lt h:=by obtain ⟨rfl,rfl⟩:=h;simp
 frame h _:=h
theorem one_EHold:One EHold:=fun h u hu=>by
 obtain ⟨rfl,rfl⟩:=h
 simp only [List.mem_cons,List.not_mem_nil,or_false] at hu
 rcases hu with rfl|rfl
 ·rfl
 ·rfl
theorem scal_EHold:Scal EHold:=fun h=>by obtain ⟨rfl,rfl⟩:=h;rfl
theorem info_Hold:(Tryz.prog.info? 194).map (fun i=>(i.zero,i.size,i.bytes))=some (some (.agg #[.int .i64 0,.int .i64 0]),2,16):=by kernel_rfl
def cntHold (x:Hold):Nat:=cntI x.number+cntI x.untl
def mkHold (k:Int) (x:Hold):Hold:=⟨mkI (k) x.number,mkI (k+cntI x.number) x.untl⟩
theorem cntHold_wt (x:Hold):cntHold x≤2 * (1+(fun _=>0) x):=by
 simp only [cntHold,cntI,cntB,cntS]
 omega
theorem szHoldS_c (v:Value) (xs:List Hold) (F:List Nat) (n:Int) (w:World) (h:Sl EHold w v xs F) (h0:0≤n) (h1:n≤1048576) :
  Calls Tryz.prog 72 #[v,.int .i64 n] w fun e w'=>e=.returned (.int .i64 (szr n (wtL (fun _=>0) xs)))∧Below w.heap.size w w':=by
 obtain ⟨a,cap,rfl⟩:=h.slice
 have hl:=h.len
 unfold maxLen at hl
 rw [wtL_zero]
 go_enter Tryz.func72,Tryz.ntmps72
 go_wp2
 all_goals go_ret
 all_goals exact ⟨ret_int (by unfold szr;split <;> omega),Below.refl _ _⟩
theorem toHold_c (v:Value) (x:Hold) (F:List Nat) (w:World) (h:IsV EHold w v x F)  :
  Calls Tryz.prog 167 #[v] w (RetV EHold x w):=by
 obtain ⟨_,rfl,rfl,rfl⟩:=h
 have hB0:∀A B C:Obj,Below w.heap.size w (((w.alloc A).alloc B).alloc C):=fun A B C=>(((Below.refl _ _).alloc (Nat.le_refl _) _).alloc (by simp) _).alloc (by simp <;> omega) _
 go_enter Tryz.func167,Tryz.ntmps167
 go_wp2_with fail
 refine bodyPost_ret (v:=.agg #[.int .i64 x.number,.int .i64 x.untl]) ?_ rfl ?_
 ·simp [results,Tryz.results167,go_sem]
 ·exact ⟨_,[],rfl,⟨_,rfl,rfl,rfl⟩,by simp,by simp,by repeat (first|exact Below.refl _ _|refine Below.setCell ?_ (by simp <;> omega) _|refine Below.alloc ?_ (by simp <;> omega) _)⟩
theorem toHoldS_c (v:Value) (xs:List Hold) (F:List Nat) (w:World) (h:Sl EHold w v xs F) (hl1:wtL (fun _=>0) xs≤1048576) :
  Calls Tryz.prog 88 #[v] w (RetNew EHold 194 xs w):=by
 obtain ⟨a,cap,rfl⟩:=h.slice
 have hl2:xs.length≤1048576:=by unfold wtL at hl1;omega
 have hmk:=fun w=>run_make_rows (P:=Tryz.prog) 42 194 (.agg #[.int .i64 0,.int .i64 0]) 2 16 Tryz.underlying42 info_Hold xs.length (by omega) (by omega) w
 have hm:=Lib.hid (Ow.made (E:=EHold) (t:=194) w #[.int .i64 0,.int .i64 0] xs.length (⟨0,0⟩:Hold) rfl (fun _=>⟨rfl,rfl⟩) (by unfold maxLen;omega))
 go_enter Tryz.func88,Tryz.ntmps88
 go_wp2
 clear hmk
 go_loopw [4] (fun i wr=>∃k:Nat,k≤xs.length∧i=.int .i64 k∧∃F,Ow EHold 194 wr (.slice (some ⟨w.heap.size,0,none⟩) xs.length xs.length) (xs.take k++List.replicate (xs.length - k) (⟨0,0⟩:Hold)) F∧F.Nodup∧(∀b∈F,w.heap.size≤b)∧Below w.heap.size w wr) (fun i _=>xs.length - (intOf i).toNat)
 case atStart=>exact ⟨0,Nat.zero_le _,rfl,_,by simpa [show EHold.sz=2 from rfl,Value.cells] using hm.out,by simp,by simp,(Below.refl _ _).alloc (Nat.le_refl _) _⟩
 case round =>
  obtain ⟨k,hk,rfl,F2,ho,hn,hF,hB⟩:=hrel
  by_cases hlt:k < xs.length
  ·obtain ⟨b,off,_,F1,rfl,hx, -,ja⟩:=(h.below (by decide) hB).at k hlt
   obtain ⟨rfl,rfl⟩:=id hx
   have a0:=ja 0 (by decide)
   have a1:=ja 1 (by decide)
   simp only [show EHold.sz=2 from rfl,Nat.mul_one,Nat.add_zero,List.getElem?_cons_zero,List.getElem?_cons_succ] at a0 a1
   clear ja
   have hst:=Lib.hid (set_take_rep xs (⟨0,0⟩:Hold) k xs.length rfl hlt xs[k] (by simp))
   have HO0:=Lib.hid ho
   clear ho
   go_wp2_with fail
   refine (toHold_c _ xs[k] _ _ ⟨_,rfl,hx⟩).mono ?_
   rintro e w1 ⟨_,K,rfl,⟨cs1,rfl,oo⟩,nn,gg,hb1⟩
   have ho:=HO0.out.below hb1
   obtain ⟨hgF,hcell,hput⟩:=ho.put hn k (by simp;omega)
   have hlt2:=HO0.out.lt
   obtain ⟨F3,ho3,hn3,hs3⟩:=hput cs1 xs[k] K oo nn (fun b hb hc=>by have:=gg b hb;have:=hlt2 b hc;omega)
   obtain ⟨rfl,rfl⟩:=id oo
   rw [hst.out] at ho3
   simp only [show EHold.sz=2 from rfl,Nat.mul_one,putCells] at ho3
   obtain ⟨⟨q0_,z0⟩,f0⟩:=hcell 0 (by decide)
   obtain ⟨⟨q1_,z1⟩,f1⟩:=hcell 1 (by decide)
   simp only [show EHold.sz=2 from rfl,Nat.mul_one,Nat.add_zero] at z0 f0 z1 f1
   have HO:=Lib.hid ho3
   have hB1:=tr hB hb1 (Nat.le_refl _)
   have hF3:∀b∈F3,w.heap.size≤b:=fun b hb=>by
    rcases hs3 b hb with hb|hb
    ·exact hF b hb
    ·have:=gg b hb;have:=hB.size;omega
   clear ho ho3 hput hcell HO0 oo
   go_wp2_with fail
   exact ⟨⟨k+1,by omega,by go_num,F3,HO.out,hn3,hF3,by (repeat (refine Below.setCell ?_ (by simp) _));exact hB1⟩,by simp [intOf];omega⟩
  ·have hk:k=xs.length:=by omega
   subst hk
   have HO:=Lib.hid ho
   clear ho
   go_wp2_with fail
   go_ret
   exact ⟨_,F2,rfl,by simpa using HO.out,hn,hF,hB⟩
theorem eqHold_c (va vb:Value) (x:Hold) (Fa Fb:List Nat) (w:World) (ha:IsV EHold w va x Fa) (hb:IsV EHold w vb x Fb) :
  Calls Tryz.prog 196 #[va,vb] w fun e w'=>e=.returned (.bool true)∧Below w.heap.size w w':=by
 obtain ⟨_,rfl,rfl,rfl⟩:=ha
 obtain ⟨_,rfl,rfl,rfl⟩:=hb
 have hB0:∀A B:Obj,Below w.heap.size w ((w.alloc A).alloc B):=fun A B=>((Below.refl _ _).alloc (Nat.le_refl _) _).alloc (by simp) _
 have hE:∀z:Int,(z != z)=false:=fun z=>by simp
 go_enter Tryz.func196,Tryz.ntmps196
 go_wp2_with fail
 go_ret
 exact ⟨rfl,hB0 _ _⟩
theorem eqHoldS_c (va vb:Value) (xs:List Hold) (Fa Fb:List Nat) (w:World) (ha:Sl EHold w va xs Fa) (hb:Sl EHold w vb xs Fb) :
  Calls Tryz.prog 108 #[va,vb] w fun e w'=>e=.returned (.bool true)∧Below w.heap.size w w':=by
 obtain ⟨a,ca,rfl⟩:=ha.slice
 obtain ⟨b,cb,rfl⟩:=hb.slice
 have hl:=ha.len
 unfold maxLen at hl
 go_enter Tryz.func108,Tryz.ntmps108
 go_wp2
 go_loopw [5] (fun i wr=>∃k:Nat,k≤xs.length∧i=.int .i64 k∧Below w.heap.size w wr) (fun i _=>xs.length - (intOf i).toNat)
 case atStart=>exact ⟨0,Nat.zero_le _,rfl,Below.refl _ _⟩
 case round =>
  obtain ⟨k,hk,rfl,hB⟩:=hrel
  by_cases hlt:k < xs.length
  ·obtain ⟨ba,oa,_,F_,rfl,hx, -,ja⟩:=(ha.below (by decide) hB).at k hlt
   obtain ⟨bb,ob,_,G_,rfl,hy, -,jb⟩:=(hb.below (by decide) hB).at k hlt
   obtain ⟨rfl,rfl⟩:=id hx
   obtain ⟨rfl,rfl⟩:=id hy
   have a0:=ja 0 (by decide);have b0:=jb 0 (by decide)
   have a1:=ja 1 (by decide);have b1:=jb 1 (by decide)
   simp only [show EHold.sz=2 from rfl,Nat.mul_one,Nat.add_zero,List.getElem?_cons_zero,List.getElem?_cons_succ] at a0 b0 a1 b1
   clear ja jb
   go_wp2_with fail
   go_region_held3 (fun w'=>w'.cell? ⟨ba,oa+k * 2,none⟩=some (.int .i64 xs[k].number)∧w'.cell? ⟨ba,oa+k * 2+1,none⟩=some (.int .i64 xs[k].untl)∧w'.cell? ⟨bb,ob+k * 2,none⟩=some (.int .i64 xs[k].number)∧w'.cell? ⟨bb,ob+k * 2+1,none⟩=some (.int .i64 xs[k].untl))
    (first|go_keep|(exact ⟨kc hb1 (by simpa using a0),kc hb1 (by simpa using a1),kc hb1 (by simpa using b0),kc hb1 (by simpa using b1)⟩))
    (first|(go_at_call 196;refine (eqHold_c _ _ xs[k] _ _ wr.drew ⟨_,rfl,EHold.frame hx (fun _ _=>rfl)⟩ ⟨_,rfl,EHold.frame hy (fun _ _=>rfl)⟩).mono ?_;rintro e w1 ⟨rfl,hb1⟩))
   go_wp2_with fail
   exact ⟨⟨k+1,by omega,by go_num,tr (belowDrewN hB 1) hb1 (Nat.le_refl _)⟩,by simp [intOf];omega⟩
  ·go_wp2_with fail
   go_ret
   exact ⟨rfl,hB⟩
theorem markHoldS_c (v:Value) (xs:List Hold) (F:List Nat) (k0:Int) (w:World) (h:Ow EHold 194 w v xs F) (hn:F.Nodup) (h0:0≤k0) (h1:k0+cntL cntHold xs≤1099511627776) :
  Calls Tryz.prog 114 #[v,.int .i64 k0] w (RetMark EHold 194 v (k0+cntL cntHold xs) (markL mkHold cntHold k0 xs) F w):=by
 obtain ⟨a,cap,rfl⟩:=h.slice
 have hl:=h.len
 unfold maxLen at hl
 go_enter Tryz.func114,Tryz.ntmps114
 go_wp2
 go_loopw [1,5] (fun kk i wr=>∃k:Nat,k≤xs.length∧i=.int .i64 k∧kk=.int .i64 (k0+psum cntHold xs k)∧Ow EHold 194 wr (.slice a xs.length cap) ((markL mkHold cntHold k0 xs).take k++xs.drop k) F∧Keep F w wr) (fun _ i _=>xs.length - (intOf i).toNat)
 case atStart=>exact ⟨0,Nat.zero_le _,rfl,by rw [psum_zero];simp,by simpa using h,Keep.refl _ _⟩
 case round =>
  obtain ⟨k,hk,rfl,rfl,ho,hK⟩:=hrel
  by_cases hlt:k < xs.length
  ·have hln:k < ((markL mkHold cntHold k0 xs).take k++xs.drop k).length:=by simp [markL_len];omega
   have hsn:=Lib.hid (psum_snoc cntHold xs k hlt)
   have hsl:k0+psum cntHold xs k+cntHold xs[k]≤1099511627776:=by have:=hsn.out;have:=cntL_le cntHold xs (k+1);omega
   obtain ⟨g,rfl⟩:=ho.head k hln
   obtain ⟨A,c,B,Fi,hrow,hA,hcl,hx,hnF,hgF,hgm,hsub,back⟩:=ho.inPlace hn k hln
   rw [mid_get _ _ _ (markL_len ..) hlt] at hx
   simp only [show EHold.sz=2 from rfl] at hA
   have hst:=Lib.hid (markL_step mkHold cntHold xs k0 k hlt)
   simp only [cntHold,cntI] at hsl
   obtain ⟨rfl,rfl⟩:=hx
   have KK:=Keep.refl (g::[]) wr
   clear ho
   have z0:=hrow.cellMid (p:=k * 2) (j:=0) (by omega) (by simp)
   have z1:=hrow.cellMid (p:=k * 2+1) (j:=1) (by omega) (by simp)
   simp only [List.getElem?_cons_zero,List.getElem?_cons_succ] at z0 z1
   have hfz:=hrow.frozens
   have HBk:=Lib.hid back;clear back
   go_wp2_with fail
   have HB:=HBk.out _ [.int .i64 (k0+psum cntHold xs k),.int .i64 (k0+psum cntHold xs k+1)] (mkHold (k0+psum cntHold xs k) xs[k]) (by exact (Row.setMid (Row.setMid hrow (p:=k * 2) (j:=0) (by omega) (by simp) (.int .i64 (k0+psum cntHold xs k))) (p:=k * 2+1) (j:=1) (by omega) (by simp) (.int .i64 (k0+psum cntHold xs k+1)))) ⟨rfl,rfl⟩ (by (repeat (refine Keep.setCell ?_ (by simp) _));exact KK)
   rw [hst.out] at HB
   exact ⟨⟨k+1,by omega,by go_num,congrArg (Value.int .i64) (by rw [hsn.out];simp only [cntHold,cntI];omega),HB,by (repeat (refine Keep.setCell ?_ hgm _));exact hK.trans (KK.mono (fun b hb _=>by rcases List.mem_cons.1 hb with rfl|hb;exact hgm;exact hsub b hb))⟩,by simp [intOf];omega⟩
  ·have hk:k=xs.length:=by omega
   subst hk
   have HO:=Lib.hid ho
   clear ho
   go_wp2
   go_ret
   exact ⟨ret_int (by rw [cntL_eq]),by simpa [markL_len,List.take_of_length_le] using HO.out,hK⟩
theorem heldHoldS_c (v:Value) (xs:List Hold) (F:List Nat) (k0:Int) (w:World) (h:Sl EHold w v (markL mkHold cntHold k0 xs) F) (h0:0≤k0) (h1:k0+cntL cntHold xs≤1099511627776) :
  Calls Tryz.prog 121 #[v,.int .i64 k0] w fun e w'=>e=.returned (.int .i64 (k0+cntL cntHold xs))∧Below w.heap.size w w':=by
 obtain ⟨a,cap,rfl⟩:=h.slice
 have hl:=h.len
 unfold maxLen at hl
 have hml:=Lib.hid (markL_len mkHold cntHold xs k0)
 rw [hml.out] at hl
 rw [hml.out]
 have hE:∀z:Int,(z != z)=false:=fun z=>by simp
 go_enter Tryz.func121,Tryz.ntmps121
 go_wp2
 go_loopw [1,5] (fun kk i wr=>∃k:Nat,k≤xs.length∧i=.int .i64 k∧kk=.int .i64 (k0+psum cntHold xs k)∧Below w.heap.size w wr) (fun _ i _=>xs.length - (intOf i).toNat)
 case atStart=>exact ⟨0,Nat.zero_le _,rfl,by rw [psum_zero];simp,Below.refl _ _⟩
 case round =>
  obtain ⟨k,hk,rfl,rfl,hB⟩:=hrel
  by_cases hlt:k < xs.length
  ·have hsn:=Lib.hid (psum_snoc cntHold xs k hlt)
   have hsl:k0+psum cntHold xs k+cntHold xs[k]≤1099511627776:=by have:=hsn.out;have:=cntL_le cntHold xs (k+1);omega
   obtain ⟨b,off,_,F1,hab,hx, -,ja⟩:=(h.below (by decide) hB).at k (by rw [hml.out];exact hlt)
   rw [markL_get mkHold cntHold xs k0 k hlt] at hx
   rw [hml.out] at h
   subst hab
   simp only [cntHold,cntI] at hsl
   obtain ⟨rfl,rfl⟩:=hx
   have a0:wr.cell? ⟨b,off+k * 2,none⟩=some (.int .i64 (k0+psum cntHold xs k)):=by have:=ja 0 (by decide);simp only [show EHold.sz=2 from rfl,Nat.mul_one,Nat.add_zero,List.getElem?_cons_zero,List.getElem?_cons_succ] at this;exact this
   have a1:wr.cell? ⟨b,off+k * 2+1,none⟩=some (.int .i64 (k0+psum cntHold xs k+1)):=by have:=ja 1 (by decide);simp only [show EHold.sz=2 from rfl,Nat.mul_one,Nat.add_zero,List.getElem?_cons_zero,List.getElem?_cons_succ] at this;exact this
   clear ja
   go_wp2_with fail
   exact ⟨⟨k+1,by omega,by go_num,congrArg (Value.int .i64) (by rw [hsn.out];simp only [cntHold,cntI];omega),hB⟩,by simp [intOf];omega⟩
  ·have hk:k=xs.length:=by omega
   subst hk
   go_wp2
   go_ret
   exact ⟨ret_int (by rw [cntL_eq]),hB⟩
structure Source where
 window:SendWindow
 clock:Int
 quiet:Int
 holds:List Hold
def ESource:Elem Source where
 sz:=6
 rep w cs x F:=∃v1 v2 F1 F2,cs=[.int .i64 x.window.trail,.int .i64 x.window.size,v1,.int .i64 x.clock,.int .i64 x.quiet,v2]∧Sl EStr w v1 x.window.items F1∧Sl EHold w v2 x.holds F2∧F=F1++F2
 len h:=by obtain ⟨v1,v2,F1,F2,rfl,h1,h2,rfl⟩:=h;rfl
 lt h:=by
  obtain ⟨v1,v2,F1,F2,rfl,h1,h2,rfl⟩:=h
  intro b hb
  simp only [List.mem_append] at hb
  rcases hb with hb|hb
  ·exact h1.lt (by decide) b hb
  ·exact h2.lt (by decide) b hb
 frame h hF:=by obtain ⟨v1,v2,F1,F2,rfl,h1,h2,rfl⟩:=h;exact ⟨v1,v2,F1,F2,rfl,h1.frame fun b hb=>hF b (by simp [hb]),h2.frame fun b hb=>hF b (by simp [hb]),rfl⟩
def OSource:Elem Source where
 sz:=6
 rep w cs x F:=∃v1 v2 F1 F2,cs=[.int .i64 x.window.trail,.int .i64 x.window.size,v1,.int .i64 x.clock,.int .i64 x.quiet,v2]∧Ow EStr 9 w v1 x.window.items F1∧Ow EHold 194 w v2 x.holds F2∧F=F1++F2
 len h:=by obtain ⟨v1,v2,F1,F2,rfl,h1,h2,rfl⟩:=h;rfl
 lt h:=by
  obtain ⟨v1,v2,F1,F2,rfl,h1,h2,rfl⟩:=h
  intro b hb
  simp only [List.mem_append] at hb
  rcases hb with hb|hb
  ·exact h1.lt b hb
  ·exact h2.lt b hb
 frame h hF:=by obtain ⟨v1,v2,F1,F2,rfl,h1,h2,rfl⟩:=h;exact ⟨v1,v2,F1,F2,rfl,h1.frame fun b hb=>hF b (by simp [hb]),h2.frame fun b hb=>hF b (by simp [hb]),rfl⟩
def wtSource (x:Source):Nat:=wtSendWindow x.window+wtL (fun _=>0) x.holds
def cvSource (x:Source):Nat:=cvSendWindow x.window+(cntL cntHold) x.holds
def mvSource (k:Int) (x:Source):Source:=⟨mvSendWindow (k) x.window,x.clock,x.quiet,(markL mkHold cntHold) (k+cvSendWindow x.window) x.holds⟩
theorem szSource_c (v:Value) (x:Source) (F:List Nat) (n:Int) (w:World) (h:IsV ESource w v x F) (h0:0≤n) (h1:n≤1048576) :
  Calls Tryz.prog 30 #[v,.int .i64 n] w fun e w'=>e=.returned (.int .i64 (szr n (wtSource x)))∧Below w.heap.size w w':=by
 obtain ⟨_,rfl,v1,v2,F1,F2,rfl,h1,h2,rfl⟩:=h
 have hB0:∀A:Obj,Below w.heap.size w (w.alloc A):=fun A=>(Below.refl _ _).alloc (Nat.le_refl _) _
 unfold wtSource
 go_enter Tryz.func30,Tryz.ntmps30
 go_wp2_with fail
 refine (szSendWindow_c _ x.window _ _ _ ⟨_,rfl,_,rfl,h1.below (by decide) (hB0 _)⟩ (by omega) (by omega)).mono ?_
 rintro e w1 ⟨rfl,hb1⟩
 have r0:=Row.below (g:=w.heap.size) (t:=30) (cs:=[.int .i64 x.window.trail,.int .i64 x.window.size,v1,.int .i64 x.clock,.int .i64 x.quiet,v2]) (by simp [row_alloc]) hb1
 have hB:=tr (hB0 _) hb1 (Nat.le_refl _)
 have c0:=r0.cells
 clear hb1
 rcases szr_or (n) (wtSendWindow x.window) with ⟨e1,l1⟩|⟨e1,l1⟩
 ·simp only [e1]
  have z1:=Lib.hid e1;clear e1
  go_wp2_with fail
  go_ret
  exact ⟨ret_int (szr_no (by omega)).symm,hB⟩
 simp only [e1]
 have z1:=Lib.hid e1;clear e1
 go_wp2_with fail
 refine (szHoldS_c _ x.holds _ _ _ (h2.below (by decide) hB) (by omega) (by omega)).mono ?_
 rintro e w2 ⟨rfl,hb2⟩
 have r0:=r0.below hb2
 have hB:=tr hB hb2 (Nat.le_refl _)
 have c0:=r0.cells
 clear hb2
 rcases szr_or (n - (wtSendWindow x.window:Nat)) (wtL (fun _=>0) x.holds) with ⟨e2,l2⟩|⟨e2,l2⟩
 ·simp only [e2]
  have z2:=Lib.hid e2;clear e2
  go_wp2_with fail
  go_ret
  exact ⟨ret_int (szr_no (by omega)).symm,hB⟩
 simp only [e2]
 have z2:=Lib.hid e2;clear e2
 go_wp2_with fail
 go_ret
 exact ⟨ret_int (by rw [szr_yes (by omega)];all_goals omega),hB⟩
theorem toSource_c (v:Value) (x:Source) (F:List Nat) (w:World) (h:IsV ESource w v x F) (hl:wtSource x≤1048576) :
  Calls Tryz.prog 38 #[v] w (RetV OSource x w):=by
 obtain ⟨_,rfl,v1,v2,F1,F2,rfl,h1,h2,rfl⟩:=h
 unfold wtSource at hl
 have hB0:∀A B C:Obj,Below w.heap.size w (((w.alloc A).alloc B).alloc C):=fun A B C=>(((Below.refl _ _).alloc (Nat.le_refl _) _).alloc (by simp) _).alloc (by simp <;> omega) _
 go_enter Tryz.func38,Tryz.ntmps38
 go_wp2_with fail
 refine (toSendWindow_c _ x.window _ _ ⟨_,rfl,_,rfl,h1.below (by decide) (hB0 _ _ _)⟩ (by omega)).mono ?_
 rintro e w1 ⟨_,K1,rfl,⟨_,rfl,y1_1,rfl,o1_1⟩,n1,g1,hb1⟩
 obtain ⟨d1_1,p1_1,rfl⟩:=o1_1.slice
 have l1:∀b∈K1,b < w1.heap.size:=o1_1.lt
 have r0:=Row.below (g:=w.heap.size) (t:=30) (cs:=[.int .i64 x.window.trail,.int .i64 x.window.size,v1,.int .i64 x.clock,.int .i64 x.quiet,v2]) (by simp [row_alloc] <;> omega) hb1
 have r1:=Row.below (g:=w.heap.size+1) (t:=44) (cs:=[.int .i64 0,.int .i64 0,.slice none 0 0,.int .i64 0,.int .i64 0,.slice none 0 0]) (by simp [row_alloc] <;> omega) hb1
 have r2:=Row.below (g:=w.heap.size+1+1) (t:=44) (cs:=[.int .i64 0,.int .i64 0,.slice none 0 0,.int .i64 0,.int .i64 0,.slice none 0 0]) (by simp [row_alloc] <;> omega) hb1
 have hB:=tr (hB0 _ _ _) hb1 (Nat.le_refl _)
 have hs1:=hb1.size
 simp only [World.size_alloc] at hs1 g1
 clear hb1
 have c0:=r0.cells;have c1:=r1.cells;have c2:=r2.cells;have f1:=r1.frozens;have f2:=r2.frozens
 have o1_1_:=Lib.hid o1_1
 go_wp2_with fail
 refine (toHoldS_c _ x.holds _ _ (h2.below (by decide) (by (repeat (refine Below.setCell ?_ (by simp <;> omega) _));exact hB)) (by omega)).mono ?_
 rintro e w2 ⟨y2,K2,rfl,o2,n2,g2,hb2⟩
 obtain ⟨d2,p2,rfl⟩:=o2.slice
 have l2:∀b∈K2,b < w2.heap.size:=o2.lt
 have r0:=Row.below (g:=w.heap.size) (t:=30) (cs:=[.int .i64 x.window.trail,.int .i64 x.window.size,v1,.int .i64 x.clock,.int .i64 x.quiet,v2]) (by (repeat (refine Row.setOther ?_ (by simp <;> omega) _));exact r0) hb2
 have r1:=Row.below (g:=w.heap.size+1) (t:=44) (cs:=[.int .i64 0,.int .i64 0,.slice none 0 0,.int .i64 0,.int .i64 0,.slice none 0 0]) (by (repeat (refine Row.setOther ?_ (by simp <;> omega) _));exact r1) hb2
 have r2:=Row.below (g:=w.heap.size+1+1) (t:=44) (cs:=[.int .i64 x.window.trail,.int .i64 x.window.size,.slice d1_1 x.window.items.length p1_1,.int .i64 x.clock,.int .i64 x.quiet,.slice none 0 0]) (by exact (Row.set (Row.set (Row.set (Row.set (Row.set r2 0 (.int .i64 x.window.trail)) 1 (.int .i64 x.window.size)) 2 (.slice d1_1 x.window.items.length p1_1)) 3 (.int .i64 x.clock)) 4 (.int .i64 x.quiet))) hb2
 have o1_1:=Ow.below (E:=EStr) (t:=9) (v:=.slice d1_1 x.window.items.length p1_1) (xs:=x.window.items) (F:=K1) (by (repeat (refine Ow.setFar ?_ (fun hm=>by have:=g1 _ hm;simp at this <;> omega) _));exact o1_1) hb2
 have hB:=tr (B:=w.heap.size) (w:=w) (by (repeat (refine Below.setCell ?_ (by simp <;> omega) _));exact hB) hb2 (Nat.le_refl _)
 have hs2:=hb2.size
 simp only [World.size_setCell] at hs2 g2
 clear hb2
 have c0:=r0.cells;have c1:=r1.cells;have c2:=r2.cells;have f1:=r1.frozens;have f2:=r2.frozens
 have o2_:=Lib.hid o2
 go_wp2_with fail
 refine bodyPost_ret (v:=.agg #[.int .i64 x.window.trail,.int .i64 x.window.size,.slice d1_1 x.window.items.length p1_1,.int .i64 x.clock,.int .i64 x.quiet,.slice d2 x.holds.length p2]) ?_ rfl ?_
 ·simp [results,Tryz.results38,go_sem,c0,c1,c2,f1,f2]
 ·refine ⟨_,K1++K2,rfl,⟨_,rfl,_,_,K1,K2,rfl,?_,?_,rfl⟩,?_,?_,?_⟩
  ·repeat refine Ow.setFar ?_ (fun hm=>by have:=g1 _ hm;simp at this <;> omega) _
   exact o1_1
  ·repeat refine Ow.setFar ?_ (fun hm=>by have:=g2 _ hm;simp at this <;> omega) _
   exact o2
  ·simpa only [List.append_assoc] using (nodup_up n1 n2 (fun b hb=>by have:=l1 b hb;omega) g2)
  ·intro b hb
   simp only [List.mem_append] at hb
   rcases hb with hb|hb
   ·have:=g1 b hb;omega
   ·have:=g2 b hb;omega
  ·repeat refine Below.setCell ?_ (by simp <;> omega) _
   exact hB
theorem eqSource_c (va vb:Value) (x:Source) (Fa Fb:List Nat) (w:World) (ha:IsV ESource w va x Fa) (hb:IsV ESource w vb x Fb) :
  Calls Tryz.prog 47 #[va,vb] w fun e w'=>e=.returned (.bool true)∧Below w.heap.size w w':=by
 obtain ⟨_,rfl,v1,v2,F1,F2,rfl,h1,h2,rfl⟩:=ha
 obtain ⟨_,rfl,u1,u2,G1,G2,rfl,k1,k2,rfl⟩:=hb
 have hB0:∀A B:Obj,Below w.heap.size w ((w.alloc A).alloc B):=fun A B=>((Below.refl _ _).alloc (Nat.le_refl _) _).alloc (by simp) _
 have hE:∀z:Int,(z != z)=false:=fun z=>by simp
 go_enter Tryz.func47,Tryz.ntmps47
 go_wp2_with fail
 refine (eqSendWindow_c _ _ x.window _ _ _ ⟨_,rfl,_,rfl,h1.below (by decide) (hB0 _ _)⟩ ⟨_,rfl,_,rfl,k1.below (by decide) (hB0 _ _)⟩).mono ?_
 rintro e w1 ⟨rfl,hb1⟩
 have r0:=Row.below (g:=w.heap.size) (t:=44) (cs:=[.int .i64 x.window.trail,.int .i64 x.window.size,v1,.int .i64 x.clock,.int .i64 x.quiet,v2]) (by simp [row_alloc] <;> omega) hb1
 have r1:=Row.below (g:=w.heap.size+1) (t:=44) (cs:=[.int .i64 x.window.trail,.int .i64 x.window.size,u1,.int .i64 x.clock,.int .i64 x.quiet,u2]) (by simp [row_alloc] <;> omega) hb1
 have hB:=tr (hB0 _ _) hb1 (Nat.le_refl _)
 clear hb1
 have c0:=r0.cells;have c1:=r1.cells
 go_wp2_with fail
 refine (eqHoldS_c _ _ x.holds _ _ _ (h2.below (by decide) hB) (k2.below (by decide) hB)).mono ?_
 rintro e w2 ⟨rfl,hb2⟩
 have r0:=r0.below hb2;have r1:=r1.below hb2;have hB:=tr hB hb2 (Nat.le_refl _)
 clear hb2
 have c0:=r0.cells;have c1:=r1.cells
 go_wp2_with fail
 go_ret
 exact ⟨rfl,hB⟩
theorem markSource_c (v:Value) (x:Source) (F:List Nat) (k0:Int) (w:World) (h:IsV OSource w v x F) (hn:F.Nodup) (p0:0≤k0) (p1:k0+cvSource x≤1099511627776) :
  Calls Tryz.prog 52 #[v,.int .i64 k0] w (RetMarkV OSource v (k0+cvSource x) (mvSource k0 x) F w):=by
 have hlt:∀b∈F,b < w.heap.size:=by obtain ⟨cs, -,hx⟩:=h;exact OSource.lt hx
 obtain ⟨_,rfl,v1,v2,F1,F2,rfl,h1,h2,rfl⟩:=h
 unfold cvSource at p1 ⊢
 have hB0:∀A:Obj,Below w.heap.size w (w.alloc A):=fun A=>(Below.refl _ _).alloc (Nat.le_refl _) _
 have hw:w.heap.size ∉ F1++F2:=fun e=>by have:=hlt _ e;omega
 obtain ⟨nF1,nF2,dF2⟩:=nodup_apart hn
 have w1_:w.heap.size ∉ F1:=fun e=>hw (by simp [e])
 have w2_:w.heap.size ∉ F2:=fun e=>hw (by simp [e])
 go_enter Tryz.func52,Tryz.ntmps52
 go_wp2_with fail
 refine (markSendWindow_c _ x.window F1 (k0) _ ⟨_,rfl,_,rfl,h1.below (hB0 _)⟩ nF1 (by omega) (by omega)).mono ?_
 rintro e w1 ⟨rfl,⟨cs_,hcs_,hx_⟩,kp1⟩
 obtain ⟨q1_,rfl,o1⟩:=hx_
 obtain rfl:v1=q1_:=by have:=congrArg Value.cells hcs_;simp [Value.cells] at this;first|exact this|exact this.1|exact this.2|exact this.2.1|exact this.2.2
 have r0:=Row.keepK (g:=w.heap.size) (t:=44) (cs:=[.int .i64 x.window.trail,.int .i64 x.window.size,v1,.int .i64 x.clock,.int .i64 x.quiet,v2]) (by simp [row_alloc]) kp1 w1_
 have h2:=Ow.keep (h2.below (hB0 _)) kp1 (fun b hb hc=>dF2 b (by simp [hc]) hb)
 have KK:Keep (F1++F2) w w1:=(Keep.ofBelow (hB0 _)).trans (kp1.mono (fun b hb _=>by simp [hb]))
 clear kp1
 have c0:=r0.cells
 go_wp2_with fail
 refine (markHoldS_c _ x.holds _ (k0+cvSendWindow x.window) _ h2 nF2 (by omega) (by omega)).mono ?_
 rintro e w2 ⟨rfl,o2,kp2⟩
 have r0:=r0.keepK kp2 w2_
 have o1:=Ow.keep o1 kp2 (fun b hb=>dF2 b (by simp [hb]))
 have KK:=KK.trans (kp2.mono (fun b hb _=>by simp [hb]))
 clear kp2
 have c0:=r0.cells
 go_wp2_with fail
 go_ret
 exact ⟨ret_int (by omega),⟨_,rfl,_,_,F1,F2,rfl,o1,o2,rfl⟩,KK⟩
theorem heldSource_c (v:Value) (x:Source) (F:List Nat) (k0:Int) (w:World) (h:IsV ESource w v (mvSource k0 x) F) (p0:0≤k0) (p1:k0+cvSource x≤1099511627776) :
  Calls Tryz.prog 58 #[v,.int .i64 k0] w fun e w'=>e=.returned (.int .i64 (k0+cvSource x))∧Below w.heap.size w w':=by
 obtain ⟨_,rfl,v1,v2,F1,F2,rfl,h1,h2,rfl⟩:=h
 unfold cvSource at p1 ⊢
 have hB0:∀A:Obj,Below w.heap.size w (w.alloc A):=fun A=>(Below.refl _ _).alloc (Nat.le_refl _) _
 go_enter Tryz.func58,Tryz.ntmps58
 go_wp2_with fail
 refine (heldSendWindow_c _ x.window _ (k0) _ ⟨_,rfl,_,rfl,h1.below (by decide) (hB0 _)⟩ (by omega) (by omega)).mono ?_
 rintro e w1 ⟨rfl,hb1⟩
 have r0:=Row.below (g:=w.heap.size) (t:=44) (cs:=[.int .i64 x.window.trail,.int .i64 x.window.size,v1,.int .i64 x.clock,.int .i64 x.quiet,v2]) (by simp [row_alloc,mvSource,mvSendWindow]) hb1
 have hB:=tr (hB0 _) hb1 (Nat.le_refl _)
 clear hb1
 have c0:=r0.cells
 go_wp2_with fail
 refine (heldHoldS_c _ x.holds _ (k0+cvSendWindow x.window) _ (h2.below (by decide) hB) (by omega) (by omega)).mono ?_
 rintro e w2 ⟨rfl,hb2⟩
 have r0:=r0.below hb2;have hB:=tr hB hb2 (Nat.le_refl _)
 clear hb2
 have c0:=r0.cells
 go_wp2_with fail
 go_ret
 exact ⟨ret_int (by omega),hB⟩
structure Entry where
 number:Int
 faces:List Int
 untl:Int
def EEntry:Elem Entry where
 sz:=3
 rep w cs x F:=∃v1,cs=[.int .i64 x.number,v1,.int .i64 x.untl]∧Sl EInt w v1 x.faces F
 len h:=by obtain ⟨v1,rfl,h1⟩:=h;rfl
 lt h:=by obtain ⟨v1,rfl,h1⟩:=h;exact h1.lt (by decide)
 frame h hF:=by obtain ⟨v1,rfl,h1⟩:=h;exact ⟨v1,rfl,h1.frame hF⟩
theorem one_EEntry:One EEntry:=fun h u hu=>by
 obtain ⟨v1,rfl,h1⟩:=h
 simp only [List.mem_cons,List.not_mem_nil,or_false] at hu
 rcases hu with rfl|rfl|rfl
 ·rfl
 ·exact h1.one
 ·rfl
theorem info_Entry:(Tryz.prog.info? 231).map (fun i=>(i.zero,i.size,i.bytes))=some (some (.agg #[.int .i64 0,.slice none 0 0,.int .i64 0]),3,40):=by kernel_rfl
def OEntry:Elem Entry where
 sz:=3
 rep w cs x F:=∃v1,cs=[.int .i64 x.number,v1,.int .i64 x.untl]∧Ow EInt 3 w v1 x.faces F
 len h:=by obtain ⟨v1,rfl,h1⟩:=h;rfl
 lt h:=by obtain ⟨v1,rfl,h1⟩:=h;exact h1.lt
 frame h hF:=by obtain ⟨v1,rfl,h1⟩:=h;exact ⟨v1,rfl,h1.frame hF⟩
theorem one_OEntry:One OEntry:=fun h u hu=>by
 obtain ⟨v1,rfl,h1⟩:=h
 simp only [List.mem_cons,List.not_mem_nil,or_false] at hu
 rcases hu with rfl|rfl|rfl
 ·rfl
 ·exact h1.one
 ·rfl
theorem weak_Entry:Weak OEntry EEntry:=⟨rfl,fun h=>by
 obtain ⟨v1,rfl,h1⟩:=h
 obtain ⟨G1,g1,k1⟩:=h1.sl (Weak.refl _)
 exact ⟨G1,g1,v1,rfl,k1⟩⟩
def wtEntry (x:Entry):Nat:=wtL (fun _=>0) x.faces
def cntEntry (x:Entry):Nat:=cntI x.number+(cntL cntI) x.faces+cntI x.untl
def mkEntry (k:Int) (x:Entry):Entry:=⟨mkI (k) x.number,(markL mkI cntI) (k+cntI x.number) x.faces,mkI (k+cntI x.number+(cntL cntI) x.faces) x.untl⟩
theorem cntEntry_wt (x:Entry):cntEntry x≤2 * (1+wtEntry x):=by
 have h0:=cntL_wt cntI (fun _=>0) 1 (fun x=>by simp [cntI]) x.faces
 simp only [cntEntry,wtEntry,cntI,cntB,cntS]
 omega
theorem szEntry_c (v:Value) (x:Entry) (F:List Nat) (n:Int) (w:World) (h:IsV EEntry w v x F) (h0:0≤n) (h1:n≤1048576) :
  Calls Tryz.prog 215 #[v,.int .i64 n] w fun e w'=>e=.returned (.int .i64 (szr n (wtEntry x)))∧Below w.heap.size w w':=by
 obtain ⟨_,rfl,v1,rfl,h1⟩:=h
 have hB0:∀A:Obj,Below w.heap.size w (w.alloc A):=fun A=>(Below.refl _ _).alloc (Nat.le_refl _) _
 unfold wtEntry
 go_enter Tryz.func215,Tryz.ntmps215
 go_wp2_with fail
 refine (szIntS_c _ x.faces _ _ _ (h1.below (by decide) (hB0 _)) (by omega) (by omega)).mono ?_
 rintro e w1 ⟨rfl,hb1⟩
 have r0:=Row.below (g:=w.heap.size) (t:=263) (cs:=[.int .i64 x.number,v1,.int .i64 x.untl]) (by simp [row_alloc]) hb1
 have hB:=tr (hB0 _) hb1 (Nat.le_refl _)
 have c0:=r0.cells
 clear hb1
 rcases szr_or (n) (wtL (fun _=>0) x.faces) with ⟨e1,l1⟩|⟨e1,l1⟩
 ·simp only [e1]
  have z1:=Lib.hid e1;clear e1
  go_wp2_with fail
  go_ret
  exact ⟨ret_int (szr_no (by omega)).symm,hB⟩
 simp only [e1]
 have z1:=Lib.hid e1;clear e1
 go_wp2_with fail
 go_ret
 exact ⟨ret_int (by rw [szr_yes (by omega)];all_goals omega),hB⟩
theorem szEntryS_c (v:Value) (xs:List Entry) (F:List Nat) (n:Int) (w:World) (h:Sl EEntry w v xs F) (h0:0≤n) (h1:n≤1048576) :
  Calls Tryz.prog 142 #[v,.int .i64 n] w fun e w'=>e=.returned (.int .i64 (szr n (wtL wtEntry xs)))∧Below w.heap.size w w':=by
 obtain ⟨a,cap,rfl⟩:=h.slice
 have hl:=h.len
 unfold maxLen at hl
 go_enter Tryz.func142,Tryz.ntmps142
 by_cases hn:n < xs.length
 ·go_wp2
  go_ret
  exact ⟨ret_int (szr_no (by have:=wtL_le wtEntry xs 0;omega)).symm,Below.refl _ _⟩
 go_wp2
 go_loopw [1,5] (fun l i wr=>∃k:Nat,k≤xs.length∧i=.int .i64 k∧l=.int .i64 (n - xs.length - psum wtEntry xs k)∧(psum wtEntry xs k:Int)+xs.length≤n∧Below w.heap.size w wr) (fun _ i _=>xs.length - (intOf i).toNat)
 case atStart=>exact ⟨0,Nat.zero_le _,rfl,by rw [psum_zero];simp,by rw [psum_zero];omega,Below.refl _ _⟩
 case round =>
  obtain ⟨k,hk,rfl,rfl,hle,hB⟩:=hrel
  by_cases hlt:k < xs.length
  ·have hsn:=psum_snoc wtEntry xs k hlt
   have hsl:=wtL_le wtEntry xs (k+1)
   obtain ⟨b,off,_,F1,rfl,hx, -,ja⟩:=(h.below (by decide) hB).at k hlt
   obtain ⟨v1,rfl,h1⟩:=id hx
   have a0:=ja 0 (by decide)
   have a1:=ja 1 (by decide)
   have a2:=ja 2 (by decide)
   simp only [show EEntry.sz=3 from rfl,Nat.mul_one,Nat.add_zero,List.getElem?_cons_zero,List.getElem?_cons_succ] at a0 a1 a2
   clear ja
   have hS:=Lib.hid hsn;clear hsn
   go_wp2_with fail
   refine (szEntry_c _ xs[k] _ _ _ ⟨_,rfl,hx⟩ (by omega) (by omega)).mono ?_
   rintro e w1 ⟨rfl,hb1⟩
   have hB:=tr hB hb1 (Nat.le_refl _)
   rcases szr_or (n - xs.length - psum wtEntry xs k) (wtEntry xs[k]) with ⟨e1,l1⟩|⟨e1,l1⟩
   ·simp only [e1]
    have z1:=Lib.hid e1;clear e1
    go_wp2_with fail
    go_ret
    exact ⟨ret_int (szr_no (by have:=hS.out;omega)).symm,hB⟩
   ·simp only [e1]
    have z1:=Lib.hid e1;clear e1
    go_wp2_with fail
    exact ⟨⟨k+1,by omega,by go_num,congrArg (Value.int .i64) (by have:=hS.out;omega),by have:=hS.out;omega,hB⟩,by simp [intOf];omega⟩
  ·have hk:k=xs.length:=by omega
   subst hk
   go_wp2_with fail
   go_ret
   exact ⟨ret_int (by rw [szr_yes (by rw [wtL_eq];omega),wtL_eq];all_goals omega),hB⟩
theorem toEntry_c (v:Value) (x:Entry) (F:List Nat) (w:World) (h:IsV EEntry w v x F) (hl:wtEntry x≤1048576) :
  Calls Tryz.prog 235 #[v] w (RetV OEntry x w):=by
 obtain ⟨_,rfl,v1,rfl,h1⟩:=h
 unfold wtEntry at hl
 have hB0:∀A B C:Obj,Below w.heap.size w (((w.alloc A).alloc B).alloc C):=fun A B C=>(((Below.refl _ _).alloc (Nat.le_refl _) _).alloc (by simp) _).alloc (by simp <;> omega) _
 go_enter Tryz.func235,Tryz.ntmps235
 go_wp2_with fail
 refine (toIntS_c _ x.faces _ _ (h1.below (by decide) (hB0 _ _ _)) (by omega)).mono ?_
 rintro e w1 ⟨y1,K1,rfl,o1,n1,g1,hb1⟩
 obtain ⟨d1,p1,rfl⟩:=o1.slice
 have l1:∀b∈K1,b < w1.heap.size:=o1.lt
 have r0:=Row.below (g:=w.heap.size) (t:=263) (cs:=[.int .i64 x.number,v1,.int .i64 x.untl]) (by simp [row_alloc] <;> omega) hb1
 have r1:=Row.below (g:=w.heap.size+1) (t:=231) (cs:=[.int .i64 0,.slice none 0 0,.int .i64 0]) (by simp [row_alloc] <;> omega) hb1
 have r2:=Row.below (g:=w.heap.size+1+1) (t:=231) (cs:=[.int .i64 x.number,.slice none 0 0,.int .i64 0]) (by simp [row_alloc] <;> omega) hb1
 have hB:=tr (hB0 _ _ _) hb1 (Nat.le_refl _)
 have hs1:=hb1.size
 simp only [World.size_alloc] at hs1 g1
 clear hb1
 have c0:=r0.cells;have c1:=r1.cells;have c2:=r2.cells;have f1:=r1.frozens;have f2:=r2.frozens
 have o1_:=Lib.hid o1
 go_wp2_with fail
 refine bodyPost_ret (v:=.agg #[.int .i64 x.number,.slice d1 x.faces.length p1,.int .i64 x.untl]) ?_ rfl ?_
 ·simp [results,Tryz.results235,go_sem,c0,c1,c2,f1,f2]
 ·refine ⟨_,K1,rfl,⟨_,rfl,_,rfl,?_⟩,?_,?_,?_⟩
  ·repeat refine Ow.setFar ?_ (fun hm=>by have:=g1 _ hm;simp at this <;> omega) _
   exact o1
  ·exact n1
  ·intro b hb
   have:=g1 b hb;omega
  ·repeat refine Below.setCell ?_ (by simp <;> omega) _
   exact hB
theorem toEntryS_c (v:Value) (xs:List Entry) (F:List Nat) (w:World) (h:Sl EEntry w v xs F) (hl1:wtL wtEntry xs≤1048576) :
  Calls Tryz.prog 168 #[v] w (RetNew OEntry 231 xs w):=by
 obtain ⟨a,cap,rfl⟩:=h.slice
 have hl2:xs.length≤1048576:=by unfold wtL at hl1;omega
 have hmk:=fun w=>run_make_rows (P:=Tryz.prog) 140 231 (.agg #[.int .i64 0,.slice none 0 0,.int .i64 0]) 3 40 Tryz.underlying140 info_Entry xs.length (by omega) (by omega) w
 have hm:=Lib.hid (Ow.made (E:=OEntry) (t:=231) w #[.int .i64 0,.slice none 0 0,.int .i64 0] xs.length (⟨0,[],0⟩:Entry) rfl (fun _=>⟨_,rfl,.inl ⟨rfl,rfl,rfl⟩⟩) (by unfold maxLen;omega))
 go_enter Tryz.func168,Tryz.ntmps168
 go_wp2
 clear hmk
 go_loopw [4] (fun i wr=>∃k:Nat,k≤xs.length∧i=.int .i64 k∧∃F,Ow OEntry 231 wr (.slice (some ⟨w.heap.size,0,none⟩) xs.length xs.length) (xs.take k++List.replicate (xs.length - k) (⟨0,[],0⟩:Entry)) F∧F.Nodup∧(∀b∈F,w.heap.size≤b)∧Below w.heap.size w wr) (fun i _=>xs.length - (intOf i).toNat)
 case atStart=>exact ⟨0,Nat.zero_le _,rfl,_,by simpa [show OEntry.sz=3 from rfl,Value.cells] using hm.out,by simp,by simp,(Below.refl _ _).alloc (Nat.le_refl _) _⟩
 case round =>
  obtain ⟨k,hk,rfl,F2,ho,hn,hF,hB⟩:=hrel
  by_cases hlt:k < xs.length
  ·obtain ⟨b,off,_,F1,rfl,hx, -,ja⟩:=(h.below (by decide) hB).at k hlt
   obtain ⟨v1,rfl,h1⟩:=id hx
   have a0:=ja 0 (by decide)
   have a1:=ja 1 (by decide)
   have a2:=ja 2 (by decide)
   simp only [show EEntry.sz=3 from rfl,Nat.mul_one,Nat.add_zero,List.getElem?_cons_zero,List.getElem?_cons_succ] at a0 a1 a2
   clear ja
   have hst:=Lib.hid (set_take_rep xs (⟨0,[],0⟩:Entry) k xs.length rfl hlt xs[k] (by simp))
   have hws:wtEntry xs[k]≤1048576:=by have:=psum_snoc wtEntry xs k hlt;have:=wtL_le wtEntry xs (k+1);omega
   have HO0:=Lib.hid ho
   clear ho
   go_wp2_with fail
   refine (toEntry_c _ xs[k] _ _ ⟨_,rfl,hx⟩ hws).mono ?_
   rintro e w1 ⟨_,K,rfl,⟨cs1,rfl,oo⟩,nn,gg,hb1⟩
   have ho:=HO0.out.below hb1
   obtain ⟨hgF,hcell,hput⟩:=ho.put hn k (by simp;omega)
   have hlt2:=HO0.out.lt
   obtain ⟨F3,ho3,hn3,hs3⟩:=hput cs1 xs[k] K oo nn (fun b hb hc=>by have:=gg b hb;have:=hlt2 b hc;omega)
   obtain ⟨y1,rfl,q1⟩:=id oo
   obtain ⟨d1,p1,rfl⟩:=q1.slice
   rw [hst.out] at ho3
   simp only [show OEntry.sz=3 from rfl,Nat.mul_one,putCells] at ho3
   obtain ⟨⟨q0_,z0⟩,f0⟩:=hcell 0 (by decide)
   obtain ⟨⟨q1_,z1⟩,f1⟩:=hcell 1 (by decide)
   obtain ⟨⟨q2_,z2⟩,f2⟩:=hcell 2 (by decide)
   simp only [show OEntry.sz=3 from rfl,Nat.mul_one,Nat.add_zero] at z0 f0 z1 f1 z2 f2
   have HO:=Lib.hid ho3
   have hB1:=tr hB hb1 (Nat.le_refl _)
   have hF3:∀b∈F3,w.heap.size≤b:=fun b hb=>by
    rcases hs3 b hb with hb|hb
    ·exact hF b hb
    ·have:=gg b hb;have:=hB.size;omega
   clear ho ho3 hput hcell HO0 oo
   go_wp2_with fail
   exact ⟨⟨k+1,by omega,by go_num,F3,HO.out,hn3,hF3,by (repeat (refine Below.setCell ?_ (by simp) _));exact hB1⟩,by simp [intOf];omega⟩
  ·have hk:k=xs.length:=by omega
   subst hk
   have HO:=Lib.hid ho
   clear ho
   go_wp2_with fail
   go_ret
   exact ⟨_,F2,rfl,by simpa using HO.out,hn,hF,hB⟩
theorem eqEntry_c (va vb:Value) (x:Entry) (Fa Fb:List Nat) (w:World) (ha:IsV EEntry w va x Fa) (hb:IsV EEntry w vb x Fb) :
  Calls Tryz.prog 267 #[va,vb] w fun e w'=>e=.returned (.bool true)∧Below w.heap.size w w':=by
 obtain ⟨_,rfl,v1,rfl,h1⟩:=ha
 obtain ⟨_,rfl,u1,rfl,k1⟩:=hb
 have hB0:∀A B:Obj,Below w.heap.size w ((w.alloc A).alloc B):=fun A B=>((Below.refl _ _).alloc (Nat.le_refl _) _).alloc (by simp) _
 have hE:∀z:Int,(z != z)=false:=fun z=>by simp
 go_enter Tryz.func267,Tryz.ntmps267
 go_wp2_with fail
 refine (eqIntS_c _ _ x.faces _ _ _ (h1.below (by decide) (hB0 _ _)) (k1.below (by decide) (hB0 _ _))).mono ?_
 rintro e w1 ⟨rfl,hb1⟩
 have r0:=Row.below (g:=w.heap.size) (t:=231) (cs:=[.int .i64 x.number,v1,.int .i64 x.untl]) (by simp [row_alloc] <;> omega) hb1
 have r1:=Row.below (g:=w.heap.size+1) (t:=231) (cs:=[.int .i64 x.number,u1,.int .i64 x.untl]) (by simp [row_alloc] <;> omega) hb1
 have hB:=tr (hB0 _ _) hb1 (Nat.le_refl _)
 clear hb1
 have c0:=r0.cells;have c1:=r1.cells
 go_wp2_with fail
 go_ret
 exact ⟨rfl,hB⟩
theorem eqEntryS_c (va vb:Value) (xs:List Entry) (Fa Fb:List Nat) (w:World) (ha:Sl EEntry w va xs Fa) (hb:Sl EEntry w vb xs Fb) :
  Calls Tryz.prog 197 #[va,vb] w fun e w'=>e=.returned (.bool true)∧Below w.heap.size w w':=by
 obtain ⟨a,ca,rfl⟩:=ha.slice
 obtain ⟨b,cb,rfl⟩:=hb.slice
 have hl:=ha.len
 unfold maxLen at hl
 go_enter Tryz.func197,Tryz.ntmps197
 go_wp2
 go_loopw [5] (fun i wr=>∃k:Nat,k≤xs.length∧i=.int .i64 k∧Below w.heap.size w wr) (fun i _=>xs.length - (intOf i).toNat)
 case atStart=>exact ⟨0,Nat.zero_le _,rfl,Below.refl _ _⟩
 case round =>
  obtain ⟨k,hk,rfl,hB⟩:=hrel
  by_cases hlt:k < xs.length
  ·obtain ⟨ba,oa,_,F_,rfl,hx, -,ja⟩:=(ha.below (by decide) hB).at k hlt
   obtain ⟨bb,ob,_,G_,rfl,hy, -,jb⟩:=(hb.below (by decide) hB).at k hlt
   obtain ⟨v1,rfl,h1⟩:=id hx
   obtain ⟨u1,rfl,k1⟩:=id hy
   have a0:=ja 0 (by decide);have b0:=jb 0 (by decide)
   have a1:=ja 1 (by decide);have b1:=jb 1 (by decide)
   have a2:=ja 2 (by decide);have b2:=jb 2 (by decide)
   simp only [show EEntry.sz=3 from rfl,Nat.mul_one,Nat.add_zero,List.getElem?_cons_zero,List.getElem?_cons_succ] at a0 b0 a1 b1 a2 b2
   clear ja jb
   go_wp2_with fail
   go_region_held3 (fun w'=>w'.cell? ⟨ba,oa+k * 3,none⟩=some (.int .i64 xs[k].number)∧w'.cell? ⟨ba,oa+k * 3+1,none⟩=some (v1)∧w'.cell? ⟨ba,oa+k * 3+2,none⟩=some (.int .i64 xs[k].untl)∧w'.cell? ⟨bb,ob+k * 3,none⟩=some (.int .i64 xs[k].number)∧w'.cell? ⟨bb,ob+k * 3+1,none⟩=some (u1)∧w'.cell? ⟨bb,ob+k * 3+2,none⟩=some (.int .i64 xs[k].untl))
    (first|go_keep|(exact ⟨kc hb1 (by simpa using a0),kc hb1 (by simpa using a1),kc hb1 (by simpa using a2),kc hb1 (by simpa using b0),kc hb1 (by simpa using b1),kc hb1 (by simpa using b2)⟩))
    (first|(go_at_call 267;refine (eqEntry_c _ _ xs[k] _ _ wr.drew ⟨_,rfl,EEntry.frame hx (fun _ _=>rfl)⟩ ⟨_,rfl,EEntry.frame hy (fun _ _=>rfl)⟩).mono ?_;rintro e w1 ⟨rfl,hb1⟩))
   go_wp2_with fail
   exact ⟨⟨k+1,by omega,by go_num,tr (belowDrewN hB 1) hb1 (Nat.le_refl _)⟩,by simp [intOf];omega⟩
  ·go_wp2_with fail
   go_ret
   exact ⟨rfl,hB⟩
theorem markEntryS_c (v:Value) (xs:List Entry) (F:List Nat) (k0:Int) (w:World) (h:Ow OEntry 231 w v xs F) (hn:F.Nodup) (h0:0≤k0) (h1:k0+cntL cntEntry xs≤1099511627776) :
  Calls Tryz.prog 115 #[v,.int .i64 k0] w (RetMark OEntry 231 v (k0+cntL cntEntry xs) (markL mkEntry cntEntry k0 xs) F w):=by
 obtain ⟨a,cap,rfl⟩:=h.slice
 have hl:=h.len
 unfold maxLen at hl
 go_enter Tryz.func115,Tryz.ntmps115
 go_wp2
 go_loopw [1,5] (fun kk i wr=>∃k:Nat,k≤xs.length∧i=.int .i64 k∧kk=.int .i64 (k0+psum cntEntry xs k)∧Ow OEntry 231 wr (.slice a xs.length cap) ((markL mkEntry cntEntry k0 xs).take k++xs.drop k) F∧Keep F w wr) (fun _ i _=>xs.length - (intOf i).toNat)
 case atStart=>exact ⟨0,Nat.zero_le _,rfl,by rw [psum_zero];simp,by simpa using h,Keep.refl _ _⟩
 case round =>
  obtain ⟨k,hk,rfl,rfl,ho,hK⟩:=hrel
  by_cases hlt:k < xs.length
  ·have hln:k < ((markL mkEntry cntEntry k0 xs).take k++xs.drop k).length:=by simp [markL_len];omega
   have hsn:=Lib.hid (psum_snoc cntEntry xs k hlt)
   have hsl:k0+psum cntEntry xs k+cntEntry xs[k]≤1099511627776:=by have:=hsn.out;have:=cntL_le cntEntry xs (k+1);omega
   obtain ⟨g,rfl⟩:=ho.head k hln
   obtain ⟨A,c,B,Fi,hrow,hA,hcl,hx,hnF,hgF,hgm,hsub,back⟩:=ho.inPlace hn k hln
   rw [mid_get _ _ _ (markL_len ..) hlt] at hx
   simp only [show OEntry.sz=3 from rfl] at hA
   have hst:=Lib.hid (markL_step mkEntry cntEntry xs k0 k hlt)
   simp only [cntEntry,cntI] at hsl
   obtain ⟨v1,rfl,h1⟩:=hx
   have nF1:=hnF
   have gF1:=hgF
   have KK:=Keep.refl (g::Fi) wr
   clear ho
   have z0:=hrow.cellMid (p:=k * 3) (j:=0) (by omega) (by simp)
   have z1:=hrow.cellMid (p:=k * 3+1) (j:=1) (by omega) (by simp)
   have z2:=hrow.cellMid (p:=k * 3+2) (j:=2) (by omega) (by simp)
   simp only [List.getElem?_cons_zero,List.getElem?_cons_succ] at z0 z1 z2
   have hfz:=hrow.frozens
   have HBk:=Lib.hid back;clear back
   go_wp2_with fail
   refine (markIntS_c _ xs[k].faces _ (k0+psum cntEntry xs k+1) _ (by (repeat (refine Ow.setFar ?_ gF1 _));exact h1) nF1 (by omega) (by omega)).mono ?_
   rintro e w1 ⟨rfl,o1,kp1⟩
   have hrow:Row w1 g 231 (A++[.int .i64 (k0+psum cntEntry xs k),v1,.int .i64 xs[k].untl]++B):=Row.keepK (by exact (Row.setMid hrow (p:=k * 3) (j:=0) (by omega) (by simp) (.int .i64 (k0+psum cntEntry xs k)))) kp1 gF1
   have KK:=Keep.trans (F:=g::Fi) (a:=wr) (by (repeat (refine Keep.setCell ?_ (by simp) _));exact KK) (Keep.mono kp1 (fun b hb _=>by simp [hb]))
   clear kp1
   have z0:=hrow.cellMid (p:=k * 3) (j:=0) (by omega) (by simp)
   have z1:=hrow.cellMid (p:=k * 3+1) (j:=1) (by omega) (by simp)
   have z2:=hrow.cellMid (p:=k * 3+2) (j:=2) (by omega) (by simp)
   simp only [List.getElem?_cons_zero,List.getElem?_cons_succ] at z0 z1 z2
   have hfz:=hrow.frozens
   go_wp2_with fail
   have HB:=HBk.out _ [.int .i64 (k0+psum cntEntry xs k),v1,.int .i64 (k0+psum cntEntry xs k+1+cntL cntI xs[k].faces)] (mkEntry (k0+psum cntEntry xs k) xs[k]) (by exact (Row.setMid hrow (p:=k * 3+2) (j:=2) (by omega) (by simp) (.int .i64 (k0+psum cntEntry xs k+1+cntL cntI xs[k].faces)))) ⟨_,rfl,(by (repeat (refine Ow.setFar ?_ gF1 _));exact o1)⟩ (by (repeat (refine Keep.setCell ?_ (by simp) _));exact KK)
   rw [hst.out] at HB
   exact ⟨⟨k+1,by omega,by go_num,congrArg (Value.int .i64) (by rw [hsn.out];simp only [cntEntry,cntI];omega),HB,by (repeat (refine Keep.setCell ?_ hgm _));exact hK.trans (KK.mono (fun b hb _=>by rcases List.mem_cons.1 hb with rfl|hb;exact hgm;exact hsub b hb))⟩,by simp [intOf];omega⟩
  ·have hk:k=xs.length:=by omega
   subst hk
   have HO:=Lib.hid ho
   clear ho
   go_wp2
   go_ret
   exact ⟨ret_int (by rw [cntL_eq]),by simpa [markL_len,List.take_of_length_le] using HO.out,hK⟩
theorem heldEntryS_c (v:Value) (xs:List Entry) (F:List Nat) (k0:Int) (w:World) (h:Sl EEntry w v (markL mkEntry cntEntry k0 xs) F) (h0:0≤k0) (h1:k0+cntL cntEntry xs≤1099511627776) :
  Calls Tryz.prog 122 #[v,.int .i64 k0] w fun e w'=>e=.returned (.int .i64 (k0+cntL cntEntry xs))∧Below w.heap.size w w':=by
 obtain ⟨a,cap,rfl⟩:=h.slice
 have hl:=h.len
 unfold maxLen at hl
 have hml:=Lib.hid (markL_len mkEntry cntEntry xs k0)
 rw [hml.out] at hl
 rw [hml.out]
 have hE:∀z:Int,(z != z)=false:=fun z=>by simp
 go_enter Tryz.func122,Tryz.ntmps122
 go_wp2
 go_loopw [1,5] (fun kk i wr=>∃k:Nat,k≤xs.length∧i=.int .i64 k∧kk=.int .i64 (k0+psum cntEntry xs k)∧Below w.heap.size w wr) (fun _ i _=>xs.length - (intOf i).toNat)
 case atStart=>exact ⟨0,Nat.zero_le _,rfl,by rw [psum_zero];simp,Below.refl _ _⟩
 case round =>
  obtain ⟨k,hk,rfl,rfl,hB⟩:=hrel
  by_cases hlt:k < xs.length
  ·have hsn:=Lib.hid (psum_snoc cntEntry xs k hlt)
   have hsl:k0+psum cntEntry xs k+cntEntry xs[k]≤1099511627776:=by have:=hsn.out;have:=cntL_le cntEntry xs (k+1);omega
   obtain ⟨b,off,_,F1,hab,hx, -,ja⟩:=(h.below (by decide) hB).at k (by rw [hml.out];exact hlt)
   rw [markL_get mkEntry cntEntry xs k0 k hlt] at hx
   rw [hml.out] at h
   subst hab
   simp only [cntEntry,cntI] at hsl
   obtain ⟨v1,rfl,k1⟩:=hx
   have a0:wr.cell? ⟨b,off+k * 3,none⟩=some (.int .i64 (k0+psum cntEntry xs k)):=by have:=ja 0 (by decide);simp only [show EEntry.sz=3 from rfl,Nat.mul_one,Nat.add_zero,List.getElem?_cons_zero,List.getElem?_cons_succ] at this;exact this
   have a1:wr.cell? ⟨b,off+k * 3+1,none⟩=some (v1):=by have:=ja 1 (by decide);simp only [show EEntry.sz=3 from rfl,Nat.mul_one,Nat.add_zero,List.getElem?_cons_zero,List.getElem?_cons_succ] at this;exact this
   have a2:wr.cell? ⟨b,off+k * 3+2,none⟩=some (.int .i64 (k0+psum cntEntry xs k+1+cntL cntI xs[k].faces)):=by have:=ja 2 (by decide);simp only [show EEntry.sz=3 from rfl,Nat.mul_one,Nat.add_zero,List.getElem?_cons_zero,List.getElem?_cons_succ] at this;exact this
   clear ja
   go_wp2_with fail
   refine (heldIntS_c _ xs[k].faces _ (k0+psum cntEntry xs k+1) _ (k1.below (by decide) (Below.refl _ _)) (by omega) (by omega)).mono ?_
   rintro e w1 ⟨rfl,hb1⟩
   have a0:=kc hb1 a0
   have a1:=kc hb1 a1
   have a2:=kc hb1 a2
   have hB:=tr hB hb1 (Nat.le_refl _)
   have k1:=k1.below (by decide) hb1
   clear hb1
   go_wp2_with fail
   exact ⟨⟨k+1,by omega,by go_num,congrArg (Value.int .i64) (by rw [hsn.out];simp only [cntEntry,cntI];omega),hB⟩,by simp [intOf];omega⟩
  ·have hk:k=xs.length:=by omega
   subst hk
   go_wp2
   go_ret
   exact ⟨ret_int (by rw [cntL_eq]),hB⟩
structure Element where
 clock:Int
 entries:List Entry
def EElement:Elem Element where
 sz:=2
 rep w cs x F:=∃v1,cs=[.int .i64 x.clock,v1]∧Sl EEntry w v1 x.entries F
 len h:=by obtain ⟨v1,rfl,h1⟩:=h;rfl
 lt h:=by obtain ⟨v1,rfl,h1⟩:=h;exact h1.lt (by decide)
 frame h hF:=by obtain ⟨v1,rfl,h1⟩:=h;exact ⟨v1,rfl,h1.frame hF⟩
theorem info_Element:(Tryz.prog.info? 142).map (fun i=>(i.zero,i.size,i.bytes))=some (some (.agg #[.int .i64 0,.slice none 0 0]),2,32):=by kernel_rfl
def OElement:Elem Element where
 sz:=2
 rep w cs x F:=∃v1,cs=[.int .i64 x.clock,v1]∧Ow OEntry 231 w v1 x.entries F
 len h:=by obtain ⟨v1,rfl,h1⟩:=h;rfl
 lt h:=by obtain ⟨v1,rfl,h1⟩:=h;exact h1.lt
 frame h hF:=by obtain ⟨v1,rfl,h1⟩:=h;exact ⟨v1,rfl,h1.frame hF⟩
theorem one_OElement:One OElement:=fun h u hu=>by
 obtain ⟨v1,rfl,h1⟩:=h
 simp only [List.mem_cons,List.not_mem_nil,or_false] at hu
 rcases hu with rfl|rfl
 ·rfl
 ·exact h1.one
theorem weak_Element:Weak OElement EElement:=⟨rfl,fun h=>by
 obtain ⟨v1,rfl,h1⟩:=h
 obtain ⟨G1,g1,k1⟩:=h1.sl weak_Entry
 exact ⟨G1,g1,v1,rfl,k1⟩⟩
def wtElement (x:Element):Nat:=wtL wtEntry x.entries
def cntElement (x:Element):Nat:=cntI x.clock+(cntL cntEntry) x.entries
def mkElement (k:Int) (x:Element):Element:=⟨mkI (k) x.clock,(markL mkEntry cntEntry) (k+cntI x.clock) x.entries⟩
theorem cntElement_wt (x:Element):cntElement x≤2 * (1+wtElement x):=by
 have h0:=cntL_wt cntEntry wtEntry 2 cntEntry_wt x.entries
 simp only [cntElement,wtElement,cntI,cntB,cntS]
 omega
theorem szElement_c (v:Value) (x:Element) (F:List Nat) (n:Int) (w:World) (h:IsV EElement w v x F) (h0:0≤n) (h1:n≤1048576) :
  Calls Tryz.prog 73 #[v,.int .i64 n] w fun e w'=>e=.returned (.int .i64 (szr n (wtElement x)))∧Below w.heap.size w w':=by
 obtain ⟨_,rfl,v1,rfl,h1⟩:=h
 have hB0:∀A:Obj,Below w.heap.size w (w.alloc A):=fun A=>(Below.refl _ _).alloc (Nat.le_refl _) _
 unfold wtElement
 go_enter Tryz.func73,Tryz.ntmps73
 go_wp2_with fail
 refine (szEntryS_c _ x.entries _ _ _ (h1.below (by decide) (hB0 _)) (by omega) (by omega)).mono ?_
 rintro e w1 ⟨rfl,hb1⟩
 have r0:=Row.below (g:=w.heap.size) (t:=112) (cs:=[.int .i64 x.clock,v1]) (by simp [row_alloc]) hb1
 have hB:=tr (hB0 _) hb1 (Nat.le_refl _)
 have c0:=r0.cells
 clear hb1
 rcases szr_or (n) (wtL wtEntry x.entries) with ⟨e1,l1⟩|⟨e1,l1⟩
 ·simp only [e1]
  have z1:=Lib.hid e1;clear e1
  go_wp2_with fail
  go_ret
  exact ⟨ret_int (szr_no (by omega)).symm,hB⟩
 simp only [e1]
 have z1:=Lib.hid e1;clear e1
 go_wp2_with fail
 go_ret
 exact ⟨ret_int (by rw [szr_yes (by omega)];all_goals omega),hB⟩
theorem szElementS_c (v:Value) (xs:List Element) (F:List Nat) (n:Int) (w:World) (h:Sl EElement w v xs F) (h0:0≤n) (h1:n≤1048576) :
  Calls Tryz.prog 31 #[v,.int .i64 n] w fun e w'=>e=.returned (.int .i64 (szr n (wtL wtElement xs)))∧Below w.heap.size w w':=by
 obtain ⟨a,cap,rfl⟩:=h.slice
 have hl:=h.len
 unfold maxLen at hl
 go_enter Tryz.func31,Tryz.ntmps31
 by_cases hn:n < xs.length
 ·go_wp2
  go_ret
  exact ⟨ret_int (szr_no (by have:=wtL_le wtElement xs 0;omega)).symm,Below.refl _ _⟩
 go_wp2
 go_loopw [1,5] (fun l i wr=>∃k:Nat,k≤xs.length∧i=.int .i64 k∧l=.int .i64 (n - xs.length - psum wtElement xs k)∧(psum wtElement xs k:Int)+xs.length≤n∧Below w.heap.size w wr) (fun _ i _=>xs.length - (intOf i).toNat)
 case atStart=>exact ⟨0,Nat.zero_le _,rfl,by rw [psum_zero];simp,by rw [psum_zero];omega,Below.refl _ _⟩
 case round =>
  obtain ⟨k,hk,rfl,rfl,hle,hB⟩:=hrel
  by_cases hlt:k < xs.length
  ·have hsn:=psum_snoc wtElement xs k hlt
   have hsl:=wtL_le wtElement xs (k+1)
   obtain ⟨b,off,_,F1,rfl,hx, -,ja⟩:=(h.below (by decide) hB).at k hlt
   obtain ⟨v1,rfl,h1⟩:=id hx
   have a0:=ja 0 (by decide)
   have a1:=ja 1 (by decide)
   simp only [show EElement.sz=2 from rfl,Nat.mul_one,Nat.add_zero,List.getElem?_cons_zero,List.getElem?_cons_succ] at a0 a1
   clear ja
   have hS:=Lib.hid hsn;clear hsn
   go_wp2_with fail
   refine (szElement_c _ xs[k] _ _ _ ⟨_,rfl,hx⟩ (by omega) (by omega)).mono ?_
   rintro e w1 ⟨rfl,hb1⟩
   have hB:=tr hB hb1 (Nat.le_refl _)
   rcases szr_or (n - xs.length - psum wtElement xs k) (wtElement xs[k]) with ⟨e1,l1⟩|⟨e1,l1⟩
   ·simp only [e1]
    have z1:=Lib.hid e1;clear e1
    go_wp2_with fail
    go_ret
    exact ⟨ret_int (szr_no (by have:=hS.out;omega)).symm,hB⟩
   ·simp only [e1]
    have z1:=Lib.hid e1;clear e1
    go_wp2_with fail
    exact ⟨⟨k+1,by omega,by go_num,congrArg (Value.int .i64) (by have:=hS.out;omega),by have:=hS.out;omega,hB⟩,by simp [intOf];omega⟩
  ·have hk:k=xs.length:=by omega
   subst hk
   go_wp2_with fail
   go_ret
   exact ⟨ret_int (by rw [szr_yes (by rw [wtL_eq];omega),wtL_eq];all_goals omega),hB⟩
theorem toElement_c (v:Value) (x:Element) (F:List Nat) (w:World) (h:IsV EElement w v x F) (hl:wtElement x≤1048576) :
  Calls Tryz.prog 89 #[v] w (RetV OElement x w):=by
 obtain ⟨_,rfl,v1,rfl,h1⟩:=h
 unfold wtElement at hl
 have hB0:∀A B C:Obj,Below w.heap.size w (((w.alloc A).alloc B).alloc C):=fun A B C=>(((Below.refl _ _).alloc (Nat.le_refl _) _).alloc (by simp) _).alloc (by simp <;> omega) _
 go_enter Tryz.func89,Tryz.ntmps89
 go_wp2_with fail
 refine (toEntryS_c _ x.entries _ _ (h1.below (by decide) (hB0 _ _ _)) (by omega)).mono ?_
 rintro e w1 ⟨y1,K1,rfl,o1,n1,g1,hb1⟩
 obtain ⟨d1,p1,rfl⟩:=o1.slice
 have l1:∀b∈K1,b < w1.heap.size:=o1.lt
 have r0:=Row.below (g:=w.heap.size) (t:=112) (cs:=[.int .i64 x.clock,v1]) (by simp [row_alloc] <;> omega) hb1
 have r1:=Row.below (g:=w.heap.size+1) (t:=142) (cs:=[.int .i64 0,.slice none 0 0]) (by simp [row_alloc] <;> omega) hb1
 have r2:=Row.below (g:=w.heap.size+1+1) (t:=142) (cs:=[.int .i64 x.clock,.slice none 0 0]) (by simp [row_alloc] <;> omega) hb1
 have hB:=tr (hB0 _ _ _) hb1 (Nat.le_refl _)
 have hs1:=hb1.size
 simp only [World.size_alloc] at hs1 g1
 clear hb1
 have c0:=r0.cells;have c1:=r1.cells;have c2:=r2.cells;have f1:=r1.frozens;have f2:=r2.frozens
 have o1_:=Lib.hid o1
 go_wp2_with fail
 refine bodyPost_ret (v:=.agg #[.int .i64 x.clock,.slice d1 x.entries.length p1]) ?_ rfl ?_
 ·simp [results,Tryz.results89,go_sem,c0,c1,c2,f1,f2]
 ·refine ⟨_,K1,rfl,⟨_,rfl,_,rfl,?_⟩,?_,?_,?_⟩
  ·repeat refine Ow.setFar ?_ (fun hm=>by have:=g1 _ hm;simp at this <;> omega) _
   exact o1
  ·exact n1
  ·intro b hb
   have:=g1 b hb;omega
  ·repeat refine Below.setCell ?_ (by simp <;> omega) _
   exact hB
theorem toElementS_c (v:Value) (xs:List Element) (F:List Nat) (w:World) (h:Sl EElement w v xs F) (hl1:wtL wtElement xs≤1048576) :
  Calls Tryz.prog 39 #[v] w (RetNew OElement 142 xs w):=by
 obtain ⟨a,cap,rfl⟩:=h.slice
 have hl2:xs.length≤1048576:=by unfold wtL at hl1;omega
 have hmk:=fun w=>run_make_rows (P:=Tryz.prog) 45 142 (.agg #[.int .i64 0,.slice none 0 0]) 2 32 Tryz.underlying45 info_Element xs.length (by omega) (by omega) w
 have hm:=Lib.hid (Ow.made (E:=OElement) (t:=142) w #[.int .i64 0,.slice none 0 0] xs.length (⟨0,[]⟩:Element) rfl (fun _=>⟨_,rfl,.inl ⟨rfl,rfl,rfl⟩⟩) (by unfold maxLen;omega))
 go_enter Tryz.func39,Tryz.ntmps39
 go_wp2
 clear hmk
 go_loopw [4] (fun i wr=>∃k:Nat,k≤xs.length∧i=.int .i64 k∧∃F,Ow OElement 142 wr (.slice (some ⟨w.heap.size,0,none⟩) xs.length xs.length) (xs.take k++List.replicate (xs.length - k) (⟨0,[]⟩:Element)) F∧F.Nodup∧(∀b∈F,w.heap.size≤b)∧Below w.heap.size w wr) (fun i _=>xs.length - (intOf i).toNat)
 case atStart=>exact ⟨0,Nat.zero_le _,rfl,_,by simpa [show OElement.sz=2 from rfl,Value.cells] using hm.out,by simp,by simp,(Below.refl _ _).alloc (Nat.le_refl _) _⟩
 case round =>
  obtain ⟨k,hk,rfl,F2,ho,hn,hF,hB⟩:=hrel
  by_cases hlt:k < xs.length
  ·obtain ⟨b,off,_,F1,rfl,hx, -,ja⟩:=(h.below (by decide) hB).at k hlt
   obtain ⟨v1,rfl,h1⟩:=id hx
   have a0:=ja 0 (by decide)
   have a1:=ja 1 (by decide)
   simp only [show EElement.sz=2 from rfl,Nat.mul_one,Nat.add_zero,List.getElem?_cons_zero,List.getElem?_cons_succ] at a0 a1
   clear ja
   have hst:=Lib.hid (set_take_rep xs (⟨0,[]⟩:Element) k xs.length rfl hlt xs[k] (by simp))
   have hws:wtElement xs[k]≤1048576:=by have:=psum_snoc wtElement xs k hlt;have:=wtL_le wtElement xs (k+1);omega
   have HO0:=Lib.hid ho
   clear ho
   go_wp2_with fail
   refine (toElement_c _ xs[k] _ _ ⟨_,rfl,hx⟩ hws).mono ?_
   rintro e w1 ⟨_,K,rfl,⟨cs1,rfl,oo⟩,nn,gg,hb1⟩
   have ho:=HO0.out.below hb1
   obtain ⟨hgF,hcell,hput⟩:=ho.put hn k (by simp;omega)
   have hlt2:=HO0.out.lt
   obtain ⟨F3,ho3,hn3,hs3⟩:=hput cs1 xs[k] K oo nn (fun b hb hc=>by have:=gg b hb;have:=hlt2 b hc;omega)
   obtain ⟨y1,rfl,q1⟩:=id oo
   obtain ⟨d1,p1,rfl⟩:=q1.slice
   rw [hst.out] at ho3
   simp only [show OElement.sz=2 from rfl,Nat.mul_one,putCells] at ho3
   obtain ⟨⟨q0_,z0⟩,f0⟩:=hcell 0 (by decide)
   obtain ⟨⟨q1_,z1⟩,f1⟩:=hcell 1 (by decide)
   simp only [show OElement.sz=2 from rfl,Nat.mul_one,Nat.add_zero] at z0 f0 z1 f1
   have HO:=Lib.hid ho3
   have hB1:=tr hB hb1 (Nat.le_refl _)
   have hF3:∀b∈F3,w.heap.size≤b:=fun b hb=>by
    rcases hs3 b hb with hb|hb
    ·exact hF b hb
    ·have:=gg b hb;have:=hB.size;omega
   clear ho ho3 hput hcell HO0 oo
   go_wp2_with fail
   exact ⟨⟨k+1,by omega,by go_num,F3,HO.out,hn3,hF3,by (repeat (refine Below.setCell ?_ (by simp) _));exact hB1⟩,by simp [intOf];omega⟩
  ·have hk:k=xs.length:=by omega
   subst hk
   have HO:=Lib.hid ho
   clear ho
   go_wp2_with fail
   go_ret
   exact ⟨_,F2,rfl,by simpa using HO.out,hn,hF,hB⟩
theorem eqElement_c (va vb:Value) (x:Element) (Fa Fb:List Nat) (w:World) (ha:IsV EElement w va x Fa) (hb:IsV EElement w vb x Fb) :
  Calls Tryz.prog 109 #[va,vb] w fun e w'=>e=.returned (.bool true)∧Below w.heap.size w w':=by
 obtain ⟨_,rfl,v1,rfl,h1⟩:=ha
 obtain ⟨_,rfl,u1,rfl,k1⟩:=hb
 have hB0:∀A B:Obj,Below w.heap.size w ((w.alloc A).alloc B):=fun A B=>((Below.refl _ _).alloc (Nat.le_refl _) _).alloc (by simp) _
 have hE:∀z:Int,(z != z)=false:=fun z=>by simp
 go_enter Tryz.func109,Tryz.ntmps109
 go_wp2_with fail
 refine (eqEntryS_c _ _ x.entries _ _ _ (h1.below (by decide) (hB0 _ _)) (k1.below (by decide) (hB0 _ _))).mono ?_
 rintro e w1 ⟨rfl,hb1⟩
 have r0:=Row.below (g:=w.heap.size) (t:=142) (cs:=[.int .i64 x.clock,v1]) (by simp [row_alloc] <;> omega) hb1
 have r1:=Row.below (g:=w.heap.size+1) (t:=142) (cs:=[.int .i64 x.clock,u1]) (by simp [row_alloc] <;> omega) hb1
 have hB:=tr (hB0 _ _) hb1 (Nat.le_refl _)
 clear hb1
 have c0:=r0.cells;have c1:=r1.cells
 go_wp2_with fail
 go_ret
 exact ⟨rfl,hB⟩
theorem eqElementS_c (va vb:Value) (xs:List Element) (Fa Fb:List Nat) (w:World) (ha:Sl EElement w va xs Fa) (hb:Sl EElement w vb xs Fb) :
  Calls Tryz.prog 48 #[va,vb] w fun e w'=>e=.returned (.bool true)∧Below w.heap.size w w':=by
 obtain ⟨a,ca,rfl⟩:=ha.slice
 obtain ⟨b,cb,rfl⟩:=hb.slice
 have hl:=ha.len
 unfold maxLen at hl
 go_enter Tryz.func48,Tryz.ntmps48
 go_wp2
 go_loopw [5] (fun i wr=>∃k:Nat,k≤xs.length∧i=.int .i64 k∧Below w.heap.size w wr) (fun i _=>xs.length - (intOf i).toNat)
 case atStart=>exact ⟨0,Nat.zero_le _,rfl,Below.refl _ _⟩
 case round =>
  obtain ⟨k,hk,rfl,hB⟩:=hrel
  by_cases hlt:k < xs.length
  ·obtain ⟨ba,oa,_,F_,rfl,hx, -,ja⟩:=(ha.below (by decide) hB).at k hlt
   obtain ⟨bb,ob,_,G_,rfl,hy, -,jb⟩:=(hb.below (by decide) hB).at k hlt
   obtain ⟨v1,rfl,h1⟩:=id hx
   obtain ⟨u1,rfl,k1⟩:=id hy
   have a0:=ja 0 (by decide);have b0:=jb 0 (by decide)
   have a1:=ja 1 (by decide);have b1:=jb 1 (by decide)
   simp only [show EElement.sz=2 from rfl,Nat.mul_one,Nat.add_zero,List.getElem?_cons_zero,List.getElem?_cons_succ] at a0 b0 a1 b1
   clear ja jb
   go_wp2_with fail
   go_region_held3 (fun w'=>w'.cell? ⟨ba,oa+k * 2,none⟩=some (.int .i64 xs[k].clock)∧w'.cell? ⟨ba,oa+k * 2+1,none⟩=some (v1)∧w'.cell? ⟨bb,ob+k * 2,none⟩=some (.int .i64 xs[k].clock)∧w'.cell? ⟨bb,ob+k * 2+1,none⟩=some (u1))
    (first|go_keep|(exact ⟨kc hb1 (by simpa using a0),kc hb1 (by simpa using a1),kc hb1 (by simpa using b0),kc hb1 (by simpa using b1)⟩))
    (first|(go_at_call 109;refine (eqElement_c _ _ xs[k] _ _ wr.drew ⟨_,rfl,EElement.frame hx (fun _ _=>rfl)⟩ ⟨_,rfl,EElement.frame hy (fun _ _=>rfl)⟩).mono ?_;rintro e w1 ⟨rfl,hb1⟩))
   go_wp2_with fail
   exact ⟨⟨k+1,by omega,by go_num,tr (belowDrewN hB 1) hb1 (Nat.le_refl _)⟩,by simp [intOf];omega⟩
  ·go_wp2_with fail
   go_ret
   exact ⟨rfl,hB⟩
theorem markElementS_c (v:Value) (xs:List Element) (F:List Nat) (k0:Int) (w:World) (h:Ow OElement 142 w v xs F) (hn:F.Nodup) (h0:0≤k0) (h1:k0+cntL cntElement xs≤1099511627776) :
  Calls Tryz.prog 53 #[v,.int .i64 k0] w (RetMark OElement 142 v (k0+cntL cntElement xs) (markL mkElement cntElement k0 xs) F w):=by
 obtain ⟨a,cap,rfl⟩:=h.slice
 have hl:=h.len
 unfold maxLen at hl
 go_enter Tryz.func53,Tryz.ntmps53
 go_wp2
 go_loopw [1,5] (fun kk i wr=>∃k:Nat,k≤xs.length∧i=.int .i64 k∧kk=.int .i64 (k0+psum cntElement xs k)∧Ow OElement 142 wr (.slice a xs.length cap) ((markL mkElement cntElement k0 xs).take k++xs.drop k) F∧Keep F w wr) (fun _ i _=>xs.length - (intOf i).toNat)
 case atStart=>exact ⟨0,Nat.zero_le _,rfl,by rw [psum_zero];simp,by simpa using h,Keep.refl _ _⟩
 case round =>
  obtain ⟨k,hk,rfl,rfl,ho,hK⟩:=hrel
  by_cases hlt:k < xs.length
  ·have hln:k < ((markL mkElement cntElement k0 xs).take k++xs.drop k).length:=by simp [markL_len];omega
   have hsn:=Lib.hid (psum_snoc cntElement xs k hlt)
   have hsl:k0+psum cntElement xs k+cntElement xs[k]≤1099511627776:=by have:=hsn.out;have:=cntL_le cntElement xs (k+1);omega
   obtain ⟨g,rfl⟩:=ho.head k hln
   obtain ⟨A,c,B,Fi,hrow,hA,hcl,hx,hnF,hgF,hgm,hsub,back⟩:=ho.inPlace hn k hln
   rw [mid_get _ _ _ (markL_len ..) hlt] at hx
   simp only [show OElement.sz=2 from rfl] at hA
   have hst:=Lib.hid (markL_step mkElement cntElement xs k0 k hlt)
   simp only [cntElement,cntI] at hsl
   obtain ⟨v1,rfl,h1⟩:=hx
   have nF1:=hnF
   have gF1:=hgF
   have KK:=Keep.refl (g::Fi) wr
   clear ho
   have z0:=hrow.cellMid (p:=k * 2) (j:=0) (by omega) (by simp)
   have z1:=hrow.cellMid (p:=k * 2+1) (j:=1) (by omega) (by simp)
   simp only [List.getElem?_cons_zero,List.getElem?_cons_succ] at z0 z1
   have hfz:=hrow.frozens
   have HBk:=Lib.hid back;clear back
   go_wp2_with fail
   refine (markEntryS_c _ xs[k].entries _ (k0+psum cntElement xs k+1) _ (by (repeat (refine Ow.setFar ?_ gF1 _));exact h1) nF1 (by omega) (by omega)).mono ?_
   rintro e w1 ⟨rfl,o1,kp1⟩
   have hrow:Row w1 g 142 (A++[.int .i64 (k0+psum cntElement xs k),v1]++B):=Row.keepK (by exact (Row.setMid hrow (p:=k * 2) (j:=0) (by omega) (by simp) (.int .i64 (k0+psum cntElement xs k)))) kp1 gF1
   have KK:=Keep.trans (F:=g::Fi) (a:=wr) (by (repeat (refine Keep.setCell ?_ (by simp) _));exact KK) (Keep.mono kp1 (fun b hb _=>by simp [hb]))
   clear kp1
   have z0:=hrow.cellMid (p:=k * 2) (j:=0) (by omega) (by simp)
   have z1:=hrow.cellMid (p:=k * 2+1) (j:=1) (by omega) (by simp)
   simp only [List.getElem?_cons_zero,List.getElem?_cons_succ] at z0 z1
   have hfz:=hrow.frozens
   go_wp2_with fail
   have HB:=HBk.out _ [.int .i64 (k0+psum cntElement xs k),v1] (mkElement (k0+psum cntElement xs k) xs[k]) (by exact hrow) ⟨_,rfl,(by (repeat (refine Ow.setFar ?_ gF1 _));exact o1)⟩ (by (repeat (refine Keep.setCell ?_ (by simp) _));exact KK)
   rw [hst.out] at HB
   exact ⟨⟨k+1,by omega,by go_num,congrArg (Value.int .i64) (by rw [hsn.out];simp only [cntElement,cntI];omega),HB,by (repeat (refine Keep.setCell ?_ hgm _));exact hK.trans (KK.mono (fun b hb _=>by rcases List.mem_cons.1 hb with rfl|hb;exact hgm;exact hsub b hb))⟩,by simp [intOf];omega⟩
  ·have hk:k=xs.length:=by omega
   subst hk
   have HO:=Lib.hid ho
   clear ho
   go_wp2
   go_ret
   exact ⟨ret_int (by rw [cntL_eq]),by simpa [markL_len,List.take_of_length_le] using HO.out,hK⟩
theorem heldElementS_c (v:Value) (xs:List Element) (F:List Nat) (k0:Int) (w:World) (h:Sl EElement w v (markL mkElement cntElement k0 xs) F) (h0:0≤k0) (h1:k0+cntL cntElement xs≤1099511627776) :
  Calls Tryz.prog 59 #[v,.int .i64 k0] w fun e w'=>e=.returned (.int .i64 (k0+cntL cntElement xs))∧Below w.heap.size w w':=by
 obtain ⟨a,cap,rfl⟩:=h.slice
 have hl:=h.len
 unfold maxLen at hl
 have hml:=Lib.hid (markL_len mkElement cntElement xs k0)
 rw [hml.out] at hl
 rw [hml.out]
 have hE:∀z:Int,(z != z)=false:=fun z=>by simp
 go_enter Tryz.func59,Tryz.ntmps59
 go_wp2
 go_loopw [1,5] (fun kk i wr=>∃k:Nat,k≤xs.length∧i=.int .i64 k∧kk=.int .i64 (k0+psum cntElement xs k)∧Below w.heap.size w wr) (fun _ i _=>xs.length - (intOf i).toNat)
 case atStart=>exact ⟨0,Nat.zero_le _,rfl,by rw [psum_zero];simp,Below.refl _ _⟩
 case round =>
  obtain ⟨k,hk,rfl,rfl,hB⟩:=hrel
  by_cases hlt:k < xs.length
  ·have hsn:=Lib.hid (psum_snoc cntElement xs k hlt)
   have hsl:k0+psum cntElement xs k+cntElement xs[k]≤1099511627776:=by have:=hsn.out;have:=cntL_le cntElement xs (k+1);omega
   obtain ⟨b,off,_,F1,hab,hx, -,ja⟩:=(h.below (by decide) hB).at k (by rw [hml.out];exact hlt)
   rw [markL_get mkElement cntElement xs k0 k hlt] at hx
   rw [hml.out] at h
   subst hab
   simp only [cntElement,cntI] at hsl
   obtain ⟨v1,rfl,k1⟩:=hx
   have a0:wr.cell? ⟨b,off+k * 2,none⟩=some (.int .i64 (k0+psum cntElement xs k)):=by have:=ja 0 (by decide);simp only [show EElement.sz=2 from rfl,Nat.mul_one,Nat.add_zero,List.getElem?_cons_zero,List.getElem?_cons_succ] at this;exact this
   have a1:wr.cell? ⟨b,off+k * 2+1,none⟩=some (v1):=by have:=ja 1 (by decide);simp only [show EElement.sz=2 from rfl,Nat.mul_one,Nat.add_zero,List.getElem?_cons_zero,List.getElem?_cons_succ] at this;exact this
   clear ja
   go_wp2_with fail
   refine (heldEntryS_c _ xs[k].entries _ (k0+psum cntElement xs k+1) _ (k1.below (by decide) (Below.refl _ _)) (by omega) (by omega)).mono ?_
   rintro e w1 ⟨rfl,hb1⟩
   have a0:=kc hb1 a0
   have a1:=kc hb1 a1
   have hB:=tr hB hb1 (Nat.le_refl _)
   have k1:=k1.below (by decide) hb1
   clear hb1
   go_wp2_with fail
   exact ⟨⟨k+1,by omega,by go_num,congrArg (Value.int .i64) (by rw [hsn.out];simp only [cntElement,cntI];omega),hB⟩,by simp [intOf];omega⟩
  ·have hk:k=xs.length:=by omega
   subst hk
   go_wp2
   go_ret
   exact ⟨ret_int (by rw [cntL_eq]),hB⟩
structure Slot where
 hav:Bool
 item:ByteArray
def ESlot:Elem Slot where
 sz:=2
 rep _ cs x F:=cs=[.bool x.hav,.string x.item]∧x.item.size≤maxLen∧F=[]
 len h:=by obtain ⟨rfl,s1,rfl⟩:=h;rfl
 lt h:=by obtain ⟨rfl,s1,rfl⟩:=h;simp
 frame h _:=h
theorem one_ESlot:One ESlot:=fun h u hu=>by
 obtain ⟨rfl,s1,rfl⟩:=h
 simp only [List.mem_cons,List.not_mem_nil,or_false] at hu
 rcases hu with rfl|rfl
 ·rfl
 ·rfl
theorem scal_ESlot:Scal ESlot:=fun h=>by obtain ⟨rfl,s1,rfl⟩:=h;rfl
theorem info_Slot:(Tryz.prog.info? 247).map (fun i=>(i.zero,i.size,i.bytes))=some (some (.agg #[.bool false,.string ⟨#[]⟩]),2,24):=by kernel_rfl
def wtSlot (x:Slot):Nat:=x.item.size
def cntSlot (x:Slot):Nat:=cntB x.hav+cntS x.item
def mkSlot (k:Int) (x:Slot):Slot:=⟨mkB (k) x.hav,mkS (k+cntB x.hav) x.item⟩
theorem cntSlot_wt (x:Slot):cntSlot x≤2 * (1+wtSlot x):=by
 simp only [cntSlot,wtSlot,cntI,cntB,cntS]
 omega
theorem szSlot_c (v:Value) (x:Slot) (F:List Nat) (n:Int) (w:World) (h:IsV ESlot w v x F) (h0:0≤n) (h1:n≤1048576) :
  Calls Tryz.prog 279 #[v,.int .i64 n] w fun e w'=>e=.returned (.int .i64 (szr n (wtSlot x)))∧Below w.heap.size w w':=by
 obtain ⟨_,rfl,rfl,s1,rfl⟩:=h
 have hB0:∀A:Obj,Below w.heap.size w (w.alloc A):=fun A=>(Below.refl _ _).alloc (Nat.le_refl _) _
 unfold maxLen at s1
 unfold wtSlot
 go_enter Tryz.func279,Tryz.ntmps279
 go_wp2
 all_goals go_ret
 all_goals exact ⟨ret_int (by unfold szr;split <;> omega),hB0 _⟩
theorem szSlotS_c (v:Value) (xs:List Slot) (F:List Nat) (n:Int) (w:World) (h:Sl ESlot w v xs F) (h0:0≤n) (h1:n≤1048576) :
  Calls Tryz.prog 216 #[v,.int .i64 n] w fun e w'=>e=.returned (.int .i64 (szr n (wtL wtSlot xs)))∧Below w.heap.size w w':=by
 obtain ⟨a,cap,rfl⟩:=h.slice
 have hl:=h.len
 unfold maxLen at hl
 go_enter Tryz.func216,Tryz.ntmps216
 by_cases hn:n < xs.length
 ·go_wp2
  go_ret
  exact ⟨ret_int (szr_no (by have:=wtL_le wtSlot xs 0;omega)).symm,Below.refl _ _⟩
 go_wp2
 go_loopw [1,5] (fun l i wr=>∃k:Nat,k≤xs.length∧i=.int .i64 k∧l=.int .i64 (n - xs.length - psum wtSlot xs k)∧(psum wtSlot xs k:Int)+xs.length≤n∧Below w.heap.size w wr) (fun _ i _=>xs.length - (intOf i).toNat)
 case atStart=>exact ⟨0,Nat.zero_le _,rfl,by rw [psum_zero];simp,by rw [psum_zero];omega,Below.refl _ _⟩
 case round =>
  obtain ⟨k,hk,rfl,rfl,hle,hB⟩:=hrel
  by_cases hlt:k < xs.length
  ·have hsn:=psum_snoc wtSlot xs k hlt
   have hsl:=wtL_le wtSlot xs (k+1)
   obtain ⟨b,off,_,F1,rfl,hx, -,ja⟩:=(h.below (by decide) hB).at k hlt
   obtain ⟨rfl,s1,rfl⟩:=id hx
   have a0:=ja 0 (by decide)
   have a1:=ja 1 (by decide)
   simp only [show ESlot.sz=2 from rfl,Nat.mul_one,Nat.add_zero,List.getElem?_cons_zero,List.getElem?_cons_succ] at a0 a1
   clear ja
   have hS:=Lib.hid hsn;clear hsn
   go_wp2_with fail
   refine (szSlot_c _ xs[k] _ _ _ ⟨_,rfl,hx⟩ (by omega) (by omega)).mono ?_
   rintro e w1 ⟨rfl,hb1⟩
   have hB:=tr hB hb1 (Nat.le_refl _)
   rcases szr_or (n - xs.length - psum wtSlot xs k) (wtSlot xs[k]) with ⟨e1,l1⟩|⟨e1,l1⟩
   ·simp only [e1]
    have z1:=Lib.hid e1;clear e1
    go_wp2_with fail
    go_ret
    exact ⟨ret_int (szr_no (by have:=hS.out;omega)).symm,hB⟩
   ·simp only [e1]
    have z1:=Lib.hid e1;clear e1
    go_wp2_with fail
    exact ⟨⟨k+1,by omega,by go_num,congrArg (Value.int .i64) (by have:=hS.out;omega),by have:=hS.out;omega,hB⟩,by simp [intOf];omega⟩
  ·have hk:k=xs.length:=by omega
   subst hk
   go_wp2_with fail
   go_ret
   exact ⟨ret_int (by rw [szr_yes (by rw [wtL_eq];omega),wtL_eq];all_goals omega),hB⟩
theorem toSlot_c (v:Value) (x:Slot) (F:List Nat) (w:World) (h:IsV ESlot w v x F) (hl:wtSlot x≤1048576) :
  Calls Tryz.prog 289 #[v] w (RetV ESlot x w):=by
 obtain ⟨_,rfl,rfl,s1,rfl⟩:=h
 have hB0:∀A B C:Obj,Below w.heap.size w (((w.alloc A).alloc B).alloc C):=fun A B C=>(((Below.refl _ _).alloc (Nat.le_refl _) _).alloc (by simp) _).alloc (by simp <;> omega) _
 go_enter Tryz.func289,Tryz.ntmps289
 go_wp2_with fail
 refine bodyPost_ret (v:=.agg #[.bool x.hav,.string x.item]) ?_ rfl ?_
 ·simp [results,Tryz.results289,go_sem]
 ·exact ⟨_,[],rfl,⟨_,rfl,rfl,s1,rfl⟩,by simp,by simp,by repeat (first|exact Below.refl _ _|refine Below.setCell ?_ (by simp <;> omega) _|refine Below.alloc ?_ (by simp <;> omega) _)⟩
theorem toSlotS_c (v:Value) (xs:List Slot) (F:List Nat) (w:World) (h:Sl ESlot w v xs F) (hl1:wtL wtSlot xs≤1048576) :
  Calls Tryz.prog 236 #[v] w (RetNew ESlot 247 xs w):=by
 obtain ⟨a,cap,rfl⟩:=h.slice
 have hl2:xs.length≤1048576:=by unfold wtL at hl1;omega
 have hmk:=fun w=>run_make_rows (P:=Tryz.prog) 144 247 (.agg #[.bool false,.string ⟨#[]⟩]) 2 24 Tryz.underlying144 info_Slot xs.length (by omega) (by omega) w
 have hm:=Lib.hid (Ow.made (E:=ESlot) (t:=247) w #[.bool false,.string ⟨#[]⟩] xs.length (⟨false,⟨#[]⟩⟩:Slot) rfl (fun _=>⟨rfl,(Nat.zero_le _),rfl⟩) (by unfold maxLen;omega))
 go_enter Tryz.func236,Tryz.ntmps236
 go_wp2
 clear hmk
 go_loopw [4] (fun i wr=>∃k:Nat,k≤xs.length∧i=.int .i64 k∧∃F,Ow ESlot 247 wr (.slice (some ⟨w.heap.size,0,none⟩) xs.length xs.length) (xs.take k++List.replicate (xs.length - k) (⟨false,⟨#[]⟩⟩:Slot)) F∧F.Nodup∧(∀b∈F,w.heap.size≤b)∧Below w.heap.size w wr) (fun i _=>xs.length - (intOf i).toNat)
 case atStart=>exact ⟨0,Nat.zero_le _,rfl,_,by simpa [show ESlot.sz=2 from rfl,Value.cells] using hm.out,by simp,by simp,(Below.refl _ _).alloc (Nat.le_refl _) _⟩
 case round =>
  obtain ⟨k,hk,rfl,F2,ho,hn,hF,hB⟩:=hrel
  by_cases hlt:k < xs.length
  ·obtain ⟨b,off,_,F1,rfl,hx, -,ja⟩:=(h.below (by decide) hB).at k hlt
   obtain ⟨rfl,s1,rfl⟩:=id hx
   have a0:=ja 0 (by decide)
   have a1:=ja 1 (by decide)
   simp only [show ESlot.sz=2 from rfl,Nat.mul_one,Nat.add_zero,List.getElem?_cons_zero,List.getElem?_cons_succ] at a0 a1
   clear ja
   have hst:=Lib.hid (set_take_rep xs (⟨false,⟨#[]⟩⟩:Slot) k xs.length rfl hlt xs[k] (by simp))
   have hws:wtSlot xs[k]≤1048576:=by have:=psum_snoc wtSlot xs k hlt;have:=wtL_le wtSlot xs (k+1);omega
   have HO0:=Lib.hid ho
   clear ho
   go_wp2_with fail
   refine (toSlot_c _ xs[k] _ _ ⟨_,rfl,hx⟩ hws).mono ?_
   rintro e w1 ⟨_,K,rfl,⟨cs1,rfl,oo⟩,nn,gg,hb1⟩
   have ho:=HO0.out.below hb1
   obtain ⟨hgF,hcell,hput⟩:=ho.put hn k (by simp;omega)
   have hlt2:=HO0.out.lt
   obtain ⟨F3,ho3,hn3,hs3⟩:=hput cs1 xs[k] K oo nn (fun b hb hc=>by have:=gg b hb;have:=hlt2 b hc;omega)
   obtain ⟨rfl, -,rfl⟩:=id oo
   rw [hst.out] at ho3
   simp only [show ESlot.sz=2 from rfl,Nat.mul_one,putCells] at ho3
   obtain ⟨⟨q0_,z0⟩,f0⟩:=hcell 0 (by decide)
   obtain ⟨⟨q1_,z1⟩,f1⟩:=hcell 1 (by decide)
   simp only [show ESlot.sz=2 from rfl,Nat.mul_one,Nat.add_zero] at z0 f0 z1 f1
   have HO:=Lib.hid ho3
   have hB1:=tr hB hb1 (Nat.le_refl _)
   have hF3:∀b∈F3,w.heap.size≤b:=fun b hb=>by
    rcases hs3 b hb with hb|hb
    ·exact hF b hb
    ·have:=gg b hb;have:=hB.size;omega
   clear ho ho3 hput hcell HO0 oo
   go_wp2_with fail
   exact ⟨⟨k+1,by omega,by go_num,F3,HO.out,hn3,hF3,by (repeat (refine Below.setCell ?_ (by simp) _));exact hB1⟩,by simp [intOf];omega⟩
  ·have hk:k=xs.length:=by omega
   subst hk
   have HO:=Lib.hid ho
   clear ho
   go_wp2_with fail
   go_ret
   exact ⟨_,F2,rfl,by simpa using HO.out,hn,hF,hB⟩
theorem eqSlot_c (va vb:Value) (x:Slot) (Fa Fb:List Nat) (w:World) (ha:IsV ESlot w va x Fa) (hb:IsV ESlot w vb x Fb) :
  Calls Tryz.prog 311 #[va,vb] w fun e w'=>e=.returned (.bool true)∧Below w.heap.size w w':=by
 obtain ⟨_,rfl,rfl,s1,rfl⟩:=ha
 obtain ⟨_,rfl,rfl,t1,rfl⟩:=hb
 have hB0:∀A B:Obj,Below w.heap.size w ((w.alloc A).alloc B):=fun A B=>((Below.refl _ _).alloc (Nat.le_refl _) _).alloc (by simp) _
 have hE:∀z:Int,(z != z)=false:=fun z=>by simp
 go_enter Tryz.func311,Tryz.ntmps311
 go_wp2_with fail
 go_ret
 exact ⟨rfl,hB0 _ _⟩
theorem eqSlotS_c (va vb:Value) (xs:List Slot) (Fa Fb:List Nat) (w:World) (ha:Sl ESlot w va xs Fa) (hb:Sl ESlot w vb xs Fb) :
  Calls Tryz.prog 268 #[va,vb] w fun e w'=>e=.returned (.bool true)∧Below w.heap.size w w':=by
 obtain ⟨a,ca,rfl⟩:=ha.slice
 obtain ⟨b,cb,rfl⟩:=hb.slice
 have hl:=ha.len
 unfold maxLen at hl
 go_enter Tryz.func268,Tryz.ntmps268
 go_wp2
 go_loopw [5] (fun i wr=>∃k:Nat,k≤xs.length∧i=.int .i64 k∧Below w.heap.size w wr) (fun i _=>xs.length - (intOf i).toNat)
 case atStart=>exact ⟨0,Nat.zero_le _,rfl,Below.refl _ _⟩
 case round =>
  obtain ⟨k,hk,rfl,hB⟩:=hrel
  by_cases hlt:k < xs.length
  ·obtain ⟨ba,oa,_,F_,rfl,hx, -,ja⟩:=(ha.below (by decide) hB).at k hlt
   obtain ⟨bb,ob,_,G_,rfl,hy, -,jb⟩:=(hb.below (by decide) hB).at k hlt
   obtain ⟨rfl,s1,rfl⟩:=id hx
   obtain ⟨rfl,t1,rfl⟩:=id hy
   have a0:=ja 0 (by decide);have b0:=jb 0 (by decide)
   have a1:=ja 1 (by decide);have b1:=jb 1 (by decide)
   simp only [show ESlot.sz=2 from rfl,Nat.mul_one,Nat.add_zero,List.getElem?_cons_zero,List.getElem?_cons_succ] at a0 b0 a1 b1
   clear ja jb
   go_wp2_with fail
   go_region_held3 (fun w'=>w'.cell? ⟨ba,oa+k * 2,none⟩=some (.bool xs[k].hav)∧w'.cell? ⟨ba,oa+k * 2+1,none⟩=some (.string xs[k].item)∧w'.cell? ⟨bb,ob+k * 2,none⟩=some (.bool xs[k].hav)∧w'.cell? ⟨bb,ob+k * 2+1,none⟩=some (.string xs[k].item))
    (first|go_keep|(exact ⟨kc hb1 (by simpa using a0),kc hb1 (by simpa using a1),kc hb1 (by simpa using b0),kc hb1 (by simpa using b1)⟩))
    (first|(go_at_call 311;refine (eqSlot_c _ _ xs[k] _ _ wr.drew ⟨_,rfl,ESlot.frame hx (fun _ _=>rfl)⟩ ⟨_,rfl,ESlot.frame hy (fun _ _=>rfl)⟩).mono ?_;rintro e w1 ⟨rfl,hb1⟩))
   go_wp2_with fail
   exact ⟨⟨k+1,by omega,by go_num,tr (belowDrewN hB 1) hb1 (Nat.le_refl _)⟩,by simp [intOf];omega⟩
  ·go_wp2_with fail
   go_ret
   exact ⟨rfl,hB⟩
theorem markSlotS_c (v:Value) (xs:List Slot) (F:List Nat) (k0:Int) (w:World) (h:Ow ESlot 247 w v xs F) (hn:F.Nodup) (h0:0≤k0) (h1:k0+cntL cntSlot xs≤1099511627776) :
  Calls Tryz.prog 116 #[v,.int .i64 k0] w (RetMark ESlot 247 v (k0+cntL cntSlot xs) (markL mkSlot cntSlot k0 xs) F w):=by
 obtain ⟨a,cap,rfl⟩:=h.slice
 have hl:=h.len
 unfold maxLen at hl
 go_enter Tryz.func116,Tryz.ntmps116
 go_wp2
 go_loopw [1,5] (fun kk i wr=>∃k:Nat,k≤xs.length∧i=.int .i64 k∧kk=.int .i64 (k0+psum cntSlot xs k)∧Ow ESlot 247 wr (.slice a xs.length cap) ((markL mkSlot cntSlot k0 xs).take k++xs.drop k) F∧Keep F w wr) (fun _ i _=>xs.length - (intOf i).toNat)
 case atStart=>exact ⟨0,Nat.zero_le _,rfl,by rw [psum_zero];simp,by simpa using h,Keep.refl _ _⟩
 case round =>
  obtain ⟨k,hk,rfl,rfl,ho,hK⟩:=hrel
  by_cases hlt:k < xs.length
  ·have hln:k < ((markL mkSlot cntSlot k0 xs).take k++xs.drop k).length:=by simp [markL_len];omega
   have hsn:=Lib.hid (psum_snoc cntSlot xs k hlt)
   have hsl:k0+psum cntSlot xs k+cntSlot xs[k]≤1099511627776:=by have:=hsn.out;have:=cntL_le cntSlot xs (k+1);omega
   obtain ⟨g,rfl⟩:=ho.head k hln
   obtain ⟨A,c,B,Fi,hrow,hA,hcl,hx,hnF,hgF,hgm,hsub,back⟩:=ho.inPlace hn k hln
   rw [mid_get _ _ _ (markL_len ..) hlt] at hx
   simp only [show ESlot.sz=2 from rfl] at hA
   have hst:=Lib.hid (markL_step mkSlot cntSlot xs k0 k hlt)
   simp only [cntB,cntS,cntSlot] at hsl
   obtain ⟨rfl,s1,rfl⟩:=hx
   have KK:=Keep.refl (g::[]) wr
   clear ho
   have z0:=hrow.cellMid (p:=k * 2) (j:=0) (by omega) (by simp)
   have z1:=hrow.cellMid (p:=k * 2+1) (j:=1) (by omega) (by simp)
   simp only [List.getElem?_cons_zero,List.getElem?_cons_succ] at z0 z1
   have hfz:=hrow.frozens
   have HBk:=Lib.hid back;clear back
   go_wp2_with fail
   refine (markText_c (k0+psum cntSlot xs k+1) _ (by omega) (by omega)).mono ?_
   rintro e w1 ⟨rfl,hb1⟩
   have hrow:Row w1 g 247 (A++[.bool ((k0+psum cntSlot xs k) % 3 == 0),.string xs[k].item]++B):=Row.keepK (by exact (Row.setMid hrow (p:=k * 2) (j:=0) (by omega) (by simp) (.bool ((k0+psum cntSlot xs k) % 3 == 0)))) (Keep.ofBelow (F:=[]) hb1) (by simp)
   have KK:=Keep.trans (F:=g::[]) (a:=wr) (by (repeat (refine Keep.setCell ?_ (by simp) _));exact KK) (Keep.mono (Keep.ofBelow (F:=[]) hb1) (fun b hb _=>by simp at hb))
   clear hb1
   have z0:=hrow.cellMid (p:=k * 2) (j:=0) (by omega) (by simp)
   have z1:=hrow.cellMid (p:=k * 2+1) (j:=1) (by omega) (by simp)
   simp only [List.getElem?_cons_zero,List.getElem?_cons_succ] at z0 z1
   have hfz:=hrow.frozens
   go_wp2_with fail
   have HB:=HBk.out _ [.bool ((k0+psum cntSlot xs k) % 3 == 0),.string (mtext (k0+psum cntSlot xs k+1))] (mkSlot (k0+psum cntSlot xs k) xs[k]) (by exact (Row.setMid hrow (p:=k * 2+1) (j:=1) (by omega) (by simp) (.string (mtext (k0+psum cntSlot xs k+1))))) ⟨rfl,mtext_len _,rfl⟩ (by (repeat (refine Keep.setCell ?_ (by simp) _));exact KK)
   rw [hst.out] at HB
   exact ⟨⟨k+1,by omega,by go_num,congrArg (Value.int .i64) (by rw [hsn.out];simp only [cntB,cntS,cntSlot];omega),HB,by (repeat (refine Keep.setCell ?_ hgm _));exact hK.trans (KK.mono (fun b hb _=>by rcases List.mem_cons.1 hb with rfl|hb;exact hgm;exact hsub b hb))⟩,by simp [intOf];omega⟩
  ·have hk:k=xs.length:=by omega
   subst hk
   have HO:=Lib.hid ho
   clear ho
   go_wp2
   go_ret
   exact ⟨ret_int (by rw [cntL_eq]),by simpa [markL_len,List.take_of_length_le] using HO.out,hK⟩
theorem heldSlotS_c (v:Value) (xs:List Slot) (F:List Nat) (k0:Int) (w:World) (h:Sl ESlot w v (markL mkSlot cntSlot k0 xs) F) (h0:0≤k0) (h1:k0+cntL cntSlot xs≤1099511627776) :
  Calls Tryz.prog 123 #[v,.int .i64 k0] w fun e w'=>e=.returned (.int .i64 (k0+cntL cntSlot xs))∧Below w.heap.size w w':=by
 obtain ⟨a,cap,rfl⟩:=h.slice
 have hl:=h.len
 unfold maxLen at hl
 have hml:=Lib.hid (markL_len mkSlot cntSlot xs k0)
 rw [hml.out] at hl
 rw [hml.out]
 have hE:∀z:Int,(z != z)=false:=fun z=>by simp
 go_enter Tryz.func123,Tryz.ntmps123
 go_wp2
 go_loopw [1,5] (fun kk i wr=>∃k:Nat,k≤xs.length∧i=.int .i64 k∧kk=.int .i64 (k0+psum cntSlot xs k)∧Below w.heap.size w wr) (fun _ i _=>xs.length - (intOf i).toNat)
 case atStart=>exact ⟨0,Nat.zero_le _,rfl,by rw [psum_zero];simp,Below.refl _ _⟩
 case round =>
  obtain ⟨k,hk,rfl,rfl,hB⟩:=hrel
  by_cases hlt:k < xs.length
  ·have hsn:=Lib.hid (psum_snoc cntSlot xs k hlt)
   have hsl:k0+psum cntSlot xs k+cntSlot xs[k]≤1099511627776:=by have:=hsn.out;have:=cntL_le cntSlot xs (k+1);omega
   obtain ⟨b,off,_,F1,hab,hx, -,ja⟩:=(h.below (by decide) hB).at k (by rw [hml.out];exact hlt)
   rw [markL_get mkSlot cntSlot xs k0 k hlt] at hx
   rw [hml.out] at h
   subst hab
   simp only [cntB,cntS,cntSlot] at hsl
   obtain ⟨rfl,s1,rfl⟩:=hx
   have a0:wr.cell? ⟨b,off+k * 2,none⟩=some (.bool ((k0+psum cntSlot xs k) % 3 == 0)):=by have:=ja 0 (by decide);simp only [show ESlot.sz=2 from rfl,Nat.mul_one,Nat.add_zero,List.getElem?_cons_zero,List.getElem?_cons_succ] at this;exact this
   have a1:wr.cell? ⟨b,off+k * 2+1,none⟩=some (.string (mtext (k0+psum cntSlot xs k+1))):=by have:=ja 1 (by decide);simp only [show ESlot.sz=2 from rfl,Nat.mul_one,Nat.add_zero,List.getElem?_cons_zero,List.getElem?_cons_succ] at this;exact this
   clear ja
   go_wp2_with fail
   go_region_held3 (fun w'=>w'.cell? ⟨b,off+k * 2+1,none⟩=some (.string (mtext (k0+psum cntSlot xs k+1)))) (first|go_keep|(exact kc hb1 a1)|(exact a1))
    (first|(go_at_call 56;refine (markText_c (k0+psum cntSlot xs k+1) wr.drew (by omega) (by omega)).mono ?_;rintro e w1 ⟨rfl,hb1⟩))
   have a0:=kc hb1 (show wr.drew.cell? _=_ from a0)
   have a1:=kc hb1 (show wr.drew.cell? _=_ from a1)
   have hB:=tr (belowDrewN hB 1) hb1 (Nat.le_refl _)
   clear hb1
   go_wp2_with fail
   exact ⟨⟨k+1,by omega,by go_num,congrArg (Value.int .i64) (by rw [hsn.out];simp only [cntB,cntS,cntSlot];omega),hB⟩,by simp [intOf];omega⟩
  ·have hk:k=xs.length:=by omega
   subst hk
   go_wp2
   go_ret
   exact ⟨ret_int (by rw [cntL_eq]),hB⟩
structure ReceiveWindow where
 next:Int
 slots:List Slot
def EReceiveWindow:Elem ReceiveWindow where
 sz:=2
 rep w cs x F:=∃v1,cs=[.int .i64 x.next,v1]∧Sl ESlot w v1 x.slots F
 len h:=by obtain ⟨v1,rfl,h1⟩:=h;rfl
 lt h:=by obtain ⟨v1,rfl,h1⟩:=h;exact h1.lt (by decide)
 frame h hF:=by obtain ⟨v1,rfl,h1⟩:=h;exact ⟨v1,rfl,h1.frame hF⟩
def OReceiveWindow:Elem ReceiveWindow where
 sz:=2
 rep w cs x F:=∃v1,cs=[.int .i64 x.next,v1]∧Ow ESlot 247 w v1 x.slots F
 len h:=by obtain ⟨v1,rfl,h1⟩:=h;rfl
 lt h:=by obtain ⟨v1,rfl,h1⟩:=h;exact h1.lt
 frame h hF:=by obtain ⟨v1,rfl,h1⟩:=h;exact ⟨v1,rfl,h1.frame hF⟩
def wtReceiveWindow (x:ReceiveWindow):Nat:=wtL wtSlot x.slots
theorem szReceiveWindow_c (v:Value) (x:ReceiveWindow) (F:List Nat) (n:Int) (w:World) (h:IsV EReceiveWindow w v x F) (h0:0≤n) (h1:n≤1048576) :
  Calls Tryz.prog 143 #[v,.int .i64 n] w fun e w'=>e=.returned (.int .i64 (szr n (wtReceiveWindow x)))∧Below w.heap.size w w':=by
 obtain ⟨_,rfl,v1,rfl,h1⟩:=h
 have hB0:∀A:Obj,Below w.heap.size w (w.alloc A):=fun A=>(Below.refl _ _).alloc (Nat.le_refl _) _
 unfold wtReceiveWindow
 go_enter Tryz.func143,Tryz.ntmps143
 go_wp2_with fail
 refine (szSlotS_c _ x.slots _ _ _ (h1.below (by decide) (hB0 _)) (by omega) (by omega)).mono ?_
 rintro e w1 ⟨rfl,hb1⟩
 have r0:=Row.below (g:=w.heap.size) (t:=116) (cs:=[.int .i64 x.next,v1]) (by simp [row_alloc]) hb1
 have hB:=tr (hB0 _) hb1 (Nat.le_refl _)
 have c0:=r0.cells
 clear hb1
 rcases szr_or (n) (wtL wtSlot x.slots) with ⟨e1,l1⟩|⟨e1,l1⟩
 ·simp only [e1]
  have z1:=Lib.hid e1;clear e1
  go_wp2_with fail
  go_ret
  exact ⟨ret_int (szr_no (by omega)).symm,hB⟩
 simp only [e1]
 have z1:=Lib.hid e1;clear e1
 go_wp2_with fail
 go_ret
 exact ⟨ret_int (by rw [szr_yes (by omega)];all_goals omega),hB⟩
theorem toReceiveWindow_c (v:Value) (x:ReceiveWindow) (F:List Nat) (w:World) (h:IsV EReceiveWindow w v x F) (hl:wtReceiveWindow x≤1048576) :
  Calls Tryz.prog 169 #[v] w (RetV OReceiveWindow x w):=by
 obtain ⟨_,rfl,v1,rfl,h1⟩:=h
 unfold wtReceiveWindow at hl
 have hB0:∀A B C:Obj,Below w.heap.size w (((w.alloc A).alloc B).alloc C):=fun A B C=>(((Below.refl _ _).alloc (Nat.le_refl _) _).alloc (by simp) _).alloc (by simp <;> omega) _
 go_enter Tryz.func169,Tryz.ntmps169
 go_wp2_with fail
 refine (toSlotS_c _ x.slots _ _ (h1.below (by decide) (hB0 _ _ _)) (by omega)).mono ?_
 rintro e w1 ⟨y1,K1,rfl,o1,n1,g1,hb1⟩
 obtain ⟨d1,p1,rfl⟩:=o1.slice
 have l1:∀b∈K1,b < w1.heap.size:=o1.lt
 have r0:=Row.below (g:=w.heap.size) (t:=116) (cs:=[.int .i64 x.next,v1]) (by simp [row_alloc] <;> omega) hb1
 have r1:=Row.below (g:=w.heap.size+1) (t:=146) (cs:=[.int .i64 0,.slice none 0 0]) (by simp [row_alloc] <;> omega) hb1
 have r2:=Row.below (g:=w.heap.size+1+1) (t:=146) (cs:=[.int .i64 x.next,.slice none 0 0]) (by simp [row_alloc] <;> omega) hb1
 have hB:=tr (hB0 _ _ _) hb1 (Nat.le_refl _)
 have hs1:=hb1.size
 simp only [World.size_alloc] at hs1 g1
 clear hb1
 have c0:=r0.cells;have c1:=r1.cells;have c2:=r2.cells;have f1:=r1.frozens;have f2:=r2.frozens
 have o1_:=Lib.hid o1
 go_wp2_with fail
 refine bodyPost_ret (v:=.agg #[.int .i64 x.next,.slice d1 x.slots.length p1]) ?_ rfl ?_
 ·simp [results,Tryz.results169,go_sem,c0,c1,c2,f1,f2]
 ·refine ⟨_,K1,rfl,⟨_,rfl,_,rfl,?_⟩,?_,?_,?_⟩
  ·repeat refine Ow.setFar ?_ (fun hm=>by have:=g1 _ hm;simp at this <;> omega) _
   exact o1
  ·exact n1
  ·intro b hb
   have:=g1 b hb;omega
  ·repeat refine Below.setCell ?_ (by simp <;> omega) _
   exact hB
theorem eqReceiveWindow_c (va vb:Value) (x:ReceiveWindow) (Fa Fb:List Nat) (w:World) (ha:IsV EReceiveWindow w va x Fa) (hb:IsV EReceiveWindow w vb x Fb) :
  Calls Tryz.prog 198 #[va,vb] w fun e w'=>e=.returned (.bool true)∧Below w.heap.size w w':=by
 obtain ⟨_,rfl,v1,rfl,h1⟩:=ha
 obtain ⟨_,rfl,u1,rfl,k1⟩:=hb
 have hB0:∀A B:Obj,Below w.heap.size w ((w.alloc A).alloc B):=fun A B=>((Below.refl _ _).alloc (Nat.le_refl _) _).alloc (by simp) _
 have hE:∀z:Int,(z != z)=false:=fun z=>by simp
 go_enter Tryz.func198,Tryz.ntmps198
 go_wp2_with fail
 refine (eqSlotS_c _ _ x.slots _ _ _ (h1.below (by decide) (hB0 _ _)) (k1.below (by decide) (hB0 _ _))).mono ?_
 rintro e w1 ⟨rfl,hb1⟩
 have r0:=Row.below (g:=w.heap.size) (t:=146) (cs:=[.int .i64 x.next,v1]) (by simp [row_alloc] <;> omega) hb1
 have r1:=Row.below (g:=w.heap.size+1) (t:=146) (cs:=[.int .i64 x.next,u1]) (by simp [row_alloc] <;> omega) hb1
 have hB:=tr (hB0 _ _) hb1 (Nat.le_refl _)
 clear hb1
 have c0:=r0.cells;have c1:=r1.cells
 go_wp2_with fail
 go_ret
 exact ⟨rfl,hB⟩
structure Request where
 number:Int
 state:Int
 untl:Int
 tries:Int
def ERequest:Elem Request where
 sz:=4
 rep _ cs x F:=cs=[.int .i64 x.number,.int .i64 x.state,.int .i64 x.untl,.int .i64 x.tries]∧F=[]
 len h:=by obtain ⟨rfl,rfl⟩:=h;rfl
 lt h:=by obtain ⟨rfl,rfl⟩:=h;simp
 frame h _:=h
theorem one_ERequest:One ERequest:=fun h u hu=>by
 obtain ⟨rfl,rfl⟩:=h
 simp only [List.mem_cons,List.not_mem_nil,or_false] at hu
 rcases hu with rfl|rfl|rfl|rfl
 ·rfl
 ·rfl
 ·rfl
 ·rfl
theorem scal_ERequest:Scal ERequest:=fun h=>by obtain ⟨rfl,rfl⟩:=h;rfl
theorem info_Request:(Tryz.prog.info? 235).map (fun i=>(i.zero,i.size,i.bytes))=some (some (.agg #[.int .i64 0,.int .i64 0,.int .i64 0,.int .i64 0]),4,32):=by kernel_rfl
def cntRequest (x:Request):Nat:=cntI x.number+cntI x.state+cntI x.untl+cntI x.tries
def mkRequest (k:Int) (x:Request):Request:=⟨mkI (k) x.number,mkI (k+cntI x.number) x.state,mkI (k+cntI x.number+cntI x.state) x.untl,mkI (k+cntI x.number+cntI x.state+cntI x.untl) x.tries⟩
theorem cntRequest_wt (x:Request):cntRequest x≤4 * (1+(fun _=>0) x):=by
 simp only [cntRequest,cntI,cntB,cntS]
 omega
theorem szRequestS_c (v:Value) (xs:List Request) (F:List Nat) (n:Int) (w:World) (h:Sl ERequest w v xs F) (h0:0≤n) (h1:n≤1048576) :
  Calls Tryz.prog 144 #[v,.int .i64 n] w fun e w'=>e=.returned (.int .i64 (szr n (wtL (fun _=>0) xs)))∧Below w.heap.size w w':=by
 obtain ⟨a,cap,rfl⟩:=h.slice
 have hl:=h.len
 unfold maxLen at hl
 rw [wtL_zero]
 go_enter Tryz.func144,Tryz.ntmps144
 go_wp2
 all_goals go_ret
 all_goals exact ⟨ret_int (by unfold szr;split <;> omega),Below.refl _ _⟩
theorem toRequest_c (v:Value) (x:Request) (F:List Nat) (w:World) (h:IsV ERequest w v x F)  :
  Calls Tryz.prog 237 #[v] w (RetV ERequest x w):=by
 obtain ⟨_,rfl,rfl,rfl⟩:=h
 have hB0:∀A B C:Obj,Below w.heap.size w (((w.alloc A).alloc B).alloc C):=fun A B C=>(((Below.refl _ _).alloc (Nat.le_refl _) _).alloc (by simp) _).alloc (by simp <;> omega) _
 go_enter Tryz.func237,Tryz.ntmps237
 go_wp2_with fail
 refine bodyPost_ret (v:=.agg #[.int .i64 x.number,.int .i64 x.state,.int .i64 x.untl,.int .i64 x.tries]) ?_ rfl ?_
 ·simp [results,Tryz.results237,go_sem]
 ·exact ⟨_,[],rfl,⟨_,rfl,rfl,rfl⟩,by simp,by simp,by repeat (first|exact Below.refl _ _|refine Below.setCell ?_ (by simp <;> omega) _|refine Below.alloc ?_ (by simp <;> omega) _)⟩
theorem toRequestS_c (v:Value) (xs:List Request) (F:List Nat) (w:World) (h:Sl ERequest w v xs F) (hl1:wtL (fun _=>0) xs≤1048576) :
  Calls Tryz.prog 170 #[v] w (RetNew ERequest 235 xs w):=by
 obtain ⟨a,cap,rfl⟩:=h.slice
 have hl2:xs.length≤1048576:=by unfold wtL at hl1;omega
 have hmk:=fun w=>run_make_rows (P:=Tryz.prog) 147 235 (.agg #[.int .i64 0,.int .i64 0,.int .i64 0,.int .i64 0]) 4 32 Tryz.underlying147 info_Request xs.length (by omega) (by omega) w
 have hm:=Lib.hid (Ow.made (E:=ERequest) (t:=235) w #[.int .i64 0,.int .i64 0,.int .i64 0,.int .i64 0] xs.length (⟨0,0,0,0⟩:Request) rfl (fun _=>⟨rfl,rfl⟩) (by unfold maxLen;omega))
 go_enter Tryz.func170,Tryz.ntmps170
 go_wp2
 clear hmk
 go_loopw [4] (fun i wr=>∃k:Nat,k≤xs.length∧i=.int .i64 k∧∃F,Ow ERequest 235 wr (.slice (some ⟨w.heap.size,0,none⟩) xs.length xs.length) (xs.take k++List.replicate (xs.length - k) (⟨0,0,0,0⟩:Request)) F∧F.Nodup∧(∀b∈F,w.heap.size≤b)∧Below w.heap.size w wr) (fun i _=>xs.length - (intOf i).toNat)
 case atStart=>exact ⟨0,Nat.zero_le _,rfl,_,by simpa [show ERequest.sz=4 from rfl,Value.cells] using hm.out,by simp,by simp,(Below.refl _ _).alloc (Nat.le_refl _) _⟩
 case round =>
  obtain ⟨k,hk,rfl,F2,ho,hn,hF,hB⟩:=hrel
  by_cases hlt:k < xs.length
  ·obtain ⟨b,off,_,F1,rfl,hx, -,ja⟩:=(h.below (by decide) hB).at k hlt
   obtain ⟨rfl,rfl⟩:=id hx
   have a0:=ja 0 (by decide)
   have a1:=ja 1 (by decide)
   have a2:=ja 2 (by decide)
   have a3:=ja 3 (by decide)
   simp only [show ERequest.sz=4 from rfl,Nat.mul_one,Nat.add_zero,List.getElem?_cons_zero,List.getElem?_cons_succ] at a0 a1 a2 a3
   clear ja
   have hst:=Lib.hid (set_take_rep xs (⟨0,0,0,0⟩:Request) k xs.length rfl hlt xs[k] (by simp))
   have HO0:=Lib.hid ho
   clear ho
   go_wp2_with fail
   refine (toRequest_c _ xs[k] _ _ ⟨_,rfl,hx⟩).mono ?_
   rintro e w1 ⟨_,K,rfl,⟨cs1,rfl,oo⟩,nn,gg,hb1⟩
   have ho:=HO0.out.below hb1
   obtain ⟨hgF,hcell,hput⟩:=ho.put hn k (by simp;omega)
   have hlt2:=HO0.out.lt
   obtain ⟨F3,ho3,hn3,hs3⟩:=hput cs1 xs[k] K oo nn (fun b hb hc=>by have:=gg b hb;have:=hlt2 b hc;omega)
   obtain ⟨rfl,rfl⟩:=id oo
   rw [hst.out] at ho3
   simp only [show ERequest.sz=4 from rfl,Nat.mul_one,putCells] at ho3
   obtain ⟨⟨q0_,z0⟩,f0⟩:=hcell 0 (by decide)
   obtain ⟨⟨q1_,z1⟩,f1⟩:=hcell 1 (by decide)
   obtain ⟨⟨q2_,z2⟩,f2⟩:=hcell 2 (by decide)
   obtain ⟨⟨q3_,z3⟩,f3⟩:=hcell 3 (by decide)
   simp only [show ERequest.sz=4 from rfl,Nat.mul_one,Nat.add_zero] at z0 f0 z1 f1 z2 f2 z3 f3
   have HO:=Lib.hid ho3
   have hB1:=tr hB hb1 (Nat.le_refl _)
   have hF3:∀b∈F3,w.heap.size≤b:=fun b hb=>by
    rcases hs3 b hb with hb|hb
    ·exact hF b hb
    ·have:=gg b hb;have:=hB.size;omega
   clear ho ho3 hput hcell HO0 oo
   go_wp2_with fail
   exact ⟨⟨k+1,by omega,by go_num,F3,HO.out,hn3,hF3,by (repeat (refine Below.setCell ?_ (by simp) _));exact hB1⟩,by simp [intOf];omega⟩
  ·have hk:k=xs.length:=by omega
   subst hk
   have HO:=Lib.hid ho
   clear ho
   go_wp2_with fail
   go_ret
   exact ⟨_,F2,rfl,by simpa using HO.out,hn,hF,hB⟩
theorem eqRequest_c (va vb:Value) (x:Request) (Fa Fb:List Nat) (w:World) (ha:IsV ERequest w va x Fa) (hb:IsV ERequest w vb x Fb) :
  Calls Tryz.prog 269 #[va,vb] w fun e w'=>e=.returned (.bool true)∧Below w.heap.size w w':=by
 obtain ⟨_,rfl,rfl,rfl⟩:=ha
 obtain ⟨_,rfl,rfl,rfl⟩:=hb
 have hB0:∀A B:Obj,Below w.heap.size w ((w.alloc A).alloc B):=fun A B=>((Below.refl _ _).alloc (Nat.le_refl _) _).alloc (by simp) _
 have hE:∀z:Int,(z != z)=false:=fun z=>by simp
 go_enter Tryz.func269,Tryz.ntmps269
 go_wp2_with fail
 go_ret
 exact ⟨rfl,hB0 _ _⟩
theorem eqRequestS_c (va vb:Value) (xs:List Request) (Fa Fb:List Nat) (w:World) (ha:Sl ERequest w va xs Fa) (hb:Sl ERequest w vb xs Fb) :
  Calls Tryz.prog 199 #[va,vb] w fun e w'=>e=.returned (.bool true)∧Below w.heap.size w w':=by
 obtain ⟨a,ca,rfl⟩:=ha.slice
 obtain ⟨b,cb,rfl⟩:=hb.slice
 have hl:=ha.len
 unfold maxLen at hl
 go_enter Tryz.func199,Tryz.ntmps199
 go_wp2
 go_loopw [5] (fun i wr=>∃k:Nat,k≤xs.length∧i=.int .i64 k∧Below w.heap.size w wr) (fun i _=>xs.length - (intOf i).toNat)
 case atStart=>exact ⟨0,Nat.zero_le _,rfl,Below.refl _ _⟩
 case round =>
  obtain ⟨k,hk,rfl,hB⟩:=hrel
  by_cases hlt:k < xs.length
  ·obtain ⟨ba,oa,_,F_,rfl,hx, -,ja⟩:=(ha.below (by decide) hB).at k hlt
   obtain ⟨bb,ob,_,G_,rfl,hy, -,jb⟩:=(hb.below (by decide) hB).at k hlt
   obtain ⟨rfl,rfl⟩:=id hx
   obtain ⟨rfl,rfl⟩:=id hy
   have a0:=ja 0 (by decide);have b0:=jb 0 (by decide)
   have a1:=ja 1 (by decide);have b1:=jb 1 (by decide)
   have a2:=ja 2 (by decide);have b2:=jb 2 (by decide)
   have a3:=ja 3 (by decide);have b3:=jb 3 (by decide)
   simp only [show ERequest.sz=4 from rfl,Nat.mul_one,Nat.add_zero,List.getElem?_cons_zero,List.getElem?_cons_succ] at a0 b0 a1 b1 a2 b2 a3 b3
   clear ja jb
   go_wp2_with fail
   go_region_held3 (fun w'=>w'.cell? ⟨ba,oa+k * 4,none⟩=some (.int .i64 xs[k].number)∧w'.cell? ⟨ba,oa+k * 4+1,none⟩=some (.int .i64 xs[k].state)∧w'.cell? ⟨ba,oa+k * 4+2,none⟩=some (.int .i64 xs[k].untl)∧w'.cell? ⟨ba,oa+k * 4+3,none⟩=some (.int .i64 xs[k].tries)∧w'.cell? ⟨bb,ob+k * 4,none⟩=some (.int .i64 xs[k].number)∧w'.cell? ⟨bb,ob+k * 4+1,none⟩=some (.int .i64 xs[k].state)∧w'.cell? ⟨bb,ob+k * 4+2,none⟩=some (.int .i64 xs[k].untl)∧w'.cell? ⟨bb,ob+k * 4+3,none⟩=some (.int .i64 xs[k].tries))
    (first|go_keep|(exact ⟨kc hb1 (by simpa using a0),kc hb1 (by simpa using a1),kc hb1 (by simpa using a2),kc hb1 (by simpa using a3),kc hb1 (by simpa using b0),kc hb1 (by simpa using b1),kc hb1 (by simpa using b2),kc hb1 (by simpa using b3)⟩))
    (first|(go_at_call 269;refine (eqRequest_c _ _ xs[k] _ _ wr.drew ⟨_,rfl,ERequest.frame hx (fun _ _=>rfl)⟩ ⟨_,rfl,ERequest.frame hy (fun _ _=>rfl)⟩).mono ?_;rintro e w1 ⟨rfl,hb1⟩))
   go_wp2_with fail
   exact ⟨⟨k+1,by omega,by go_num,tr (belowDrewN hB 1) hb1 (Nat.le_refl _)⟩,by simp [intOf];omega⟩
  ·go_wp2_with fail
   go_ret
   exact ⟨rfl,hB⟩
theorem markRequestS_c (v:Value) (xs:List Request) (F:List Nat) (k0:Int) (w:World) (h:Ow ERequest 235 w v xs F) (hn:F.Nodup) (h0:0≤k0) (h1:k0+cntL cntRequest xs≤1099511627776) :
  Calls Tryz.prog 117 #[v,.int .i64 k0] w (RetMark ERequest 235 v (k0+cntL cntRequest xs) (markL mkRequest cntRequest k0 xs) F w):=by
 obtain ⟨a,cap,rfl⟩:=h.slice
 have hl:=h.len
 unfold maxLen at hl
 go_enter Tryz.func117,Tryz.ntmps117
 go_wp2
 go_loopw [1,5] (fun kk i wr=>∃k:Nat,k≤xs.length∧i=.int .i64 k∧kk=.int .i64 (k0+psum cntRequest xs k)∧Ow ERequest 235 wr (.slice a xs.length cap) ((markL mkRequest cntRequest k0 xs).take k++xs.drop k) F∧Keep F w wr) (fun _ i _=>xs.length - (intOf i).toNat)
 case atStart=>exact ⟨0,Nat.zero_le _,rfl,by rw [psum_zero];simp,by simpa using h,Keep.refl _ _⟩
 case round =>
  obtain ⟨k,hk,rfl,rfl,ho,hK⟩:=hrel
  by_cases hlt:k < xs.length
  ·have hln:k < ((markL mkRequest cntRequest k0 xs).take k++xs.drop k).length:=by simp [markL_len];omega
   have hsn:=Lib.hid (psum_snoc cntRequest xs k hlt)
   have hsl:k0+psum cntRequest xs k+cntRequest xs[k]≤1099511627776:=by have:=hsn.out;have:=cntL_le cntRequest xs (k+1);omega
   obtain ⟨g,rfl⟩:=ho.head k hln
   obtain ⟨A,c,B,Fi,hrow,hA,hcl,hx,hnF,hgF,hgm,hsub,back⟩:=ho.inPlace hn k hln
   rw [mid_get _ _ _ (markL_len ..) hlt] at hx
   simp only [show ERequest.sz=4 from rfl] at hA
   have hst:=Lib.hid (markL_step mkRequest cntRequest xs k0 k hlt)
   simp only [cntI,cntRequest] at hsl
   obtain ⟨rfl,rfl⟩:=hx
   have KK:=Keep.refl (g::[]) wr
   clear ho
   have z0:=hrow.cellMid (p:=k * 4) (j:=0) (by omega) (by simp)
   have z1:=hrow.cellMid (p:=k * 4+1) (j:=1) (by omega) (by simp)
   have z2:=hrow.cellMid (p:=k * 4+2) (j:=2) (by omega) (by simp)
   have z3:=hrow.cellMid (p:=k * 4+3) (j:=3) (by omega) (by simp)
   simp only [List.getElem?_cons_zero,List.getElem?_cons_succ] at z0 z1 z2 z3
   have hfz:=hrow.frozens
   have HBk:=Lib.hid back;clear back
   go_wp2_with fail
   have HB:=HBk.out _ [.int .i64 (k0+psum cntRequest xs k),.int .i64 (k0+psum cntRequest xs k+1),.int .i64 (k0+psum cntRequest xs k+1+1),.int .i64 (k0+psum cntRequest xs k+1+1+1)] (mkRequest (k0+psum cntRequest xs k) xs[k]) (by exact (Row.setMid (Row.setMid (Row.setMid (Row.setMid hrow (p:=k * 4) (j:=0) (by omega) (by simp) (.int .i64 (k0+psum cntRequest xs k))) (p:=k * 4+1) (j:=1) (by omega) (by simp) (.int .i64 (k0+psum cntRequest xs k+1))) (p:=k * 4+2) (j:=2) (by omega) (by simp) (.int .i64 (k0+psum cntRequest xs k+1+1))) (p:=k * 4+3) (j:=3) (by omega) (by simp) (.int .i64 (k0+psum cntRequest xs k+1+1+1)))) ⟨rfl,rfl⟩ (by (repeat (refine Keep.setCell ?_ (by simp) _));exact KK)
   rw [hst.out] at HB
   exact ⟨⟨k+1,by omega,by go_num,congrArg (Value.int .i64) (by rw [hsn.out];simp only [cntI,cntRequest];omega),HB,by (repeat (refine Keep.setCell ?_ hgm _));exact hK.trans (KK.mono (fun b hb _=>by rcases List.mem_cons.1 hb with rfl|hb;exact hgm;exact hsub b hb))⟩,by simp [intOf];omega⟩
  ·have hk:k=xs.length:=by omega
   subst hk
   have HO:=Lib.hid ho
   clear ho
   go_wp2
   go_ret
   exact ⟨ret_int (by rw [cntL_eq]),by simpa [markL_len,List.take_of_length_le] using HO.out,hK⟩
theorem heldRequestS_c (v:Value) (xs:List Request) (F:List Nat) (k0:Int) (w:World) (h:Sl ERequest w v (markL mkRequest cntRequest k0 xs) F) (h0:0≤k0) (h1:k0+cntL cntRequest xs≤1099511627776) :
  Calls Tryz.prog 124 #[v,.int .i64 k0] w fun e w'=>e=.returned (.int .i64 (k0+cntL cntRequest xs))∧Below w.heap.size w w':=by
 obtain ⟨a,cap,rfl⟩:=h.slice
 have hl:=h.len
 unfold maxLen at hl
 have hml:=Lib.hid (markL_len mkRequest cntRequest xs k0)
 rw [hml.out] at hl
 rw [hml.out]
 have hE:∀z:Int,(z != z)=false:=fun z=>by simp
 go_enter Tryz.func124,Tryz.ntmps124
 go_wp2
 go_loopw [1,5] (fun kk i wr=>∃k:Nat,k≤xs.length∧i=.int .i64 k∧kk=.int .i64 (k0+psum cntRequest xs k)∧Below w.heap.size w wr) (fun _ i _=>xs.length - (intOf i).toNat)
 case atStart=>exact ⟨0,Nat.zero_le _,rfl,by rw [psum_zero];simp,Below.refl _ _⟩
 case round =>
  obtain ⟨k,hk,rfl,rfl,hB⟩:=hrel
  by_cases hlt:k < xs.length
  ·have hsn:=Lib.hid (psum_snoc cntRequest xs k hlt)
   have hsl:k0+psum cntRequest xs k+cntRequest xs[k]≤1099511627776:=by have:=hsn.out;have:=cntL_le cntRequest xs (k+1);omega
   obtain ⟨b,off,_,F1,hab,hx, -,ja⟩:=(h.below (by decide) hB).at k (by rw [hml.out];exact hlt)
   rw [markL_get mkRequest cntRequest xs k0 k hlt] at hx
   rw [hml.out] at h
   subst hab
   simp only [cntI,cntRequest] at hsl
   obtain ⟨rfl,rfl⟩:=hx
   have a0:wr.cell? ⟨b,off+k * 4,none⟩=some (.int .i64 (k0+psum cntRequest xs k)):=by have:=ja 0 (by decide);simp only [show ERequest.sz=4 from rfl,Nat.mul_one,Nat.add_zero,List.getElem?_cons_zero,List.getElem?_cons_succ] at this;exact this
   have a1:wr.cell? ⟨b,off+k * 4+1,none⟩=some (.int .i64 (k0+psum cntRequest xs k+1)):=by have:=ja 1 (by decide);simp only [show ERequest.sz=4 from rfl,Nat.mul_one,Nat.add_zero,List.getElem?_cons_zero,List.getElem?_cons_succ] at this;exact this
   have a2:wr.cell? ⟨b,off+k * 4+2,none⟩=some (.int .i64 (k0+psum cntRequest xs k+1+1)):=by have:=ja 2 (by decide);simp only [show ERequest.sz=4 from rfl,Nat.mul_one,Nat.add_zero,List.getElem?_cons_zero,List.getElem?_cons_succ] at this;exact this
   have a3:wr.cell? ⟨b,off+k * 4+3,none⟩=some (.int .i64 (k0+psum cntRequest xs k+1+1+1)):=by have:=ja 3 (by decide);simp only [show ERequest.sz=4 from rfl,Nat.mul_one,Nat.add_zero,List.getElem?_cons_zero,List.getElem?_cons_succ] at this;exact this
   clear ja
   go_wp2_with fail
   exact ⟨⟨k+1,by omega,by go_num,congrArg (Value.int .i64) (by rw [hsn.out];simp only [cntI,cntRequest];omega),hB⟩,by simp [intOf];omega⟩
  ·have hk:k=xs.length:=by omega
   subst hk
   go_wp2
   go_ret
   exact ⟨ret_int (by rw [cntL_eq]),hB⟩
structure Receiver where
 started:Bool
 clock:Int
 window:ReceiveWindow
 requests:List Request
def EReceiver:Elem Receiver where
 sz:=5
 rep w cs x F:=∃v1 v2 F1 F2,cs=[.bool x.started,.int .i64 x.clock,.int .i64 x.window.next,v1,v2]∧Sl ESlot w v1 x.window.slots F1∧Sl ERequest w v2 x.requests F2∧F=F1++F2
 len h:=by obtain ⟨v1,v2,F1,F2,rfl,h1,h2,rfl⟩:=h;rfl
 lt h:=by
  obtain ⟨v1,v2,F1,F2,rfl,h1,h2,rfl⟩:=h
  intro b hb
  simp only [List.mem_append] at hb
  rcases hb with hb|hb
  ·exact h1.lt (by decide) b hb
  ·exact h2.lt (by decide) b hb
 frame h hF:=by obtain ⟨v1,v2,F1,F2,rfl,h1,h2,rfl⟩:=h;exact ⟨v1,v2,F1,F2,rfl,h1.frame fun b hb=>hF b (by simp [hb]),h2.frame fun b hb=>hF b (by simp [hb]),rfl⟩
theorem info_Receiver:(Tryz.prog.info? 149).map (fun i=>(i.zero,i.size,i.bytes))=some (some (.agg #[.bool false,.int .i64 0,.int .i64 0,.slice none 0 0,.slice none 0 0]),5,72):=by kernel_rfl
def OReceiver:Elem Receiver where
 sz:=5
 rep w cs x F:=∃v1 v2 F1 F2,cs=[.bool x.started,.int .i64 x.clock,.int .i64 x.window.next,v1,v2]∧Ow ESlot 247 w v1 x.window.slots F1∧Ow ERequest 235 w v2 x.requests F2∧F=F1++F2
 len h:=by obtain ⟨v1,v2,F1,F2,rfl,h1,h2,rfl⟩:=h;rfl
 lt h:=by
  obtain ⟨v1,v2,F1,F2,rfl,h1,h2,rfl⟩:=h
  intro b hb
  simp only [List.mem_append] at hb
  rcases hb with hb|hb
  ·exact h1.lt b hb
  ·exact h2.lt b hb
 frame h hF:=by obtain ⟨v1,v2,F1,F2,rfl,h1,h2,rfl⟩:=h;exact ⟨v1,v2,F1,F2,rfl,h1.frame fun b hb=>hF b (by simp [hb]),h2.frame fun b hb=>hF b (by simp [hb]),rfl⟩
theorem one_OReceiver:One OReceiver:=fun h u hu=>by
 obtain ⟨v1,v2,F1,F2,rfl,h1,h2,rfl⟩:=h
 simp only [List.mem_cons,List.not_mem_nil,or_false] at hu
 rcases hu with rfl|rfl|rfl|rfl|rfl
 ·rfl
 ·rfl
 ·rfl
 ·exact h1.one
 ·exact h2.one
theorem weak_Receiver:Weak OReceiver EReceiver:=⟨rfl,fun h=>by
 obtain ⟨v1,v2,F1,F2,rfl,h1,h2,rfl⟩:=h
 obtain ⟨G1,g1,k1⟩:=h1.sl (Weak.refl _)
 obtain ⟨G2,g2,k2⟩:=h2.sl (Weak.refl _)
 refine ⟨G1++G2,?_,v1,v2,G1,G2,rfl,k1,k2,rfl⟩
 intro b hb
 simp only [List.mem_append] at hb ⊢
 rcases hb with hb|hb
 ·simp [g1 b hb]
 ·simp [g2 b hb]⟩
def wtReceiver (x:Receiver):Nat:=wtReceiveWindow x.window+wtL (fun _=>0) x.requests
def cntReceiver (x:Receiver):Nat:=cntB x.started+cntI x.clock+cntI x.window.next+(cntL cntSlot) x.window.slots+(cntL cntRequest) x.requests
def mkReceiver (k:Int) (x:Receiver):Receiver:=⟨mkB (k) x.started,mkI (k+cntB x.started) x.clock,⟨mkI (k+cntB x.started+cntI x.clock) x.window.next,(markL mkSlot cntSlot) (k+cntB x.started+cntI x.clock+cntI x.window.next) x.window.slots⟩,(markL mkRequest cntRequest) (k+cntB x.started+cntI x.clock+cntI x.window.next+(cntL cntSlot) x.window.slots) x.requests⟩
theorem cntReceiver_wt (x:Receiver):cntReceiver x≤4 * (1+wtReceiver x):=by
 have h0:=cntL_wt cntSlot wtSlot 2 cntSlot_wt x.window.slots
 have h1:=cntL_wt cntRequest (fun _=>0) 4 cntRequest_wt x.requests
 simp only [cntReceiver,wtReceiver,wtReceiveWindow,cntI,cntB,cntS]
 omega
theorem szReceiver_c (v:Value) (x:Receiver) (F:List Nat) (n:Int) (w:World) (h:IsV EReceiver w v x F) (h0:0≤n) (h1:n≤1048576) :
  Calls Tryz.prog 74 #[v,.int .i64 n] w fun e w'=>e=.returned (.int .i64 (szr n (wtReceiver x)))∧Below w.heap.size w w':=by
 obtain ⟨_,rfl,v1,v2,F1,F2,rfl,h1,h2,rfl⟩:=h
 have hB0:∀A:Obj,Below w.heap.size w (w.alloc A):=fun A=>(Below.refl _ _).alloc (Nat.le_refl _) _
 unfold wtReceiver
 go_enter Tryz.func74,Tryz.ntmps74
 go_wp2_with fail
 refine (szReceiveWindow_c _ x.window _ _ _ ⟨_,rfl,_,rfl,h1.below (by decide) (hB0 _)⟩ (by omega) (by omega)).mono ?_
 rintro e w1 ⟨rfl,hb1⟩
 have r0:=Row.below (g:=w.heap.size) (t:=119) (cs:=[.bool x.started,.int .i64 x.clock,.int .i64 x.window.next,v1,v2]) (by simp [row_alloc]) hb1
 have hB:=tr (hB0 _) hb1 (Nat.le_refl _)
 have c0:=r0.cells
 clear hb1
 rcases szr_or (n) (wtReceiveWindow x.window) with ⟨e1,l1⟩|⟨e1,l1⟩
 ·simp only [e1]
  have z1:=Lib.hid e1;clear e1
  go_wp2_with fail
  go_ret
  exact ⟨ret_int (szr_no (by omega)).symm,hB⟩
 simp only [e1]
 have z1:=Lib.hid e1;clear e1
 go_wp2_with fail
 refine (szRequestS_c _ x.requests _ _ _ (h2.below (by decide) hB) (by omega) (by omega)).mono ?_
 rintro e w2 ⟨rfl,hb2⟩
 have r0:=r0.below hb2
 have hB:=tr hB hb2 (Nat.le_refl _)
 have c0:=r0.cells
 clear hb2
 rcases szr_or (n - (wtReceiveWindow x.window:Nat)) (wtL (fun _=>0) x.requests) with ⟨e2,l2⟩|⟨e2,l2⟩
 ·simp only [e2]
  have z2:=Lib.hid e2;clear e2
  go_wp2_with fail
  go_ret
  exact ⟨ret_int (szr_no (by omega)).symm,hB⟩
 simp only [e2]
 have z2:=Lib.hid e2;clear e2
 go_wp2_with fail
 go_ret
 exact ⟨ret_int (by rw [szr_yes (by omega)];all_goals omega),hB⟩
theorem szReceiverS_c (v:Value) (xs:List Receiver) (F:List Nat) (n:Int) (w:World) (h:Sl EReceiver w v xs F) (h0:0≤n) (h1:n≤1048576) :
  Calls Tryz.prog 32 #[v,.int .i64 n] w fun e w'=>e=.returned (.int .i64 (szr n (wtL wtReceiver xs)))∧Below w.heap.size w w':=by
 obtain ⟨a,cap,rfl⟩:=h.slice
 have hl:=h.len
 unfold maxLen at hl
 go_enter Tryz.func32,Tryz.ntmps32
 by_cases hn:n < xs.length
 ·go_wp2
  go_ret
  exact ⟨ret_int (szr_no (by have:=wtL_le wtReceiver xs 0;omega)).symm,Below.refl _ _⟩
 go_wp2
 go_loopw [1,5] (fun l i wr=>∃k:Nat,k≤xs.length∧i=.int .i64 k∧l=.int .i64 (n - xs.length - psum wtReceiver xs k)∧(psum wtReceiver xs k:Int)+xs.length≤n∧Below w.heap.size w wr) (fun _ i _=>xs.length - (intOf i).toNat)
 case atStart=>exact ⟨0,Nat.zero_le _,rfl,by rw [psum_zero];simp,by rw [psum_zero];omega,Below.refl _ _⟩
 case round =>
  obtain ⟨k,hk,rfl,rfl,hle,hB⟩:=hrel
  by_cases hlt:k < xs.length
  ·have hsn:=psum_snoc wtReceiver xs k hlt
   have hsl:=wtL_le wtReceiver xs (k+1)
   obtain ⟨b,off,_,F1,rfl,hx, -,ja⟩:=(h.below (by decide) hB).at k hlt
   obtain ⟨v1,v2,F1,F2,rfl,h1,h2,rfl⟩:=id hx
   have a0:=ja 0 (by decide)
   have a1:=ja 1 (by decide)
   have a2:=ja 2 (by decide)
   have a3:=ja 3 (by decide)
   have a4:=ja 4 (by decide)
   simp only [show EReceiver.sz=5 from rfl,Nat.mul_one,Nat.add_zero,List.getElem?_cons_zero,List.getElem?_cons_succ] at a0 a1 a2 a3 a4
   clear ja
   have hS:=Lib.hid hsn;clear hsn
   go_wp2_with fail
   refine (szReceiver_c _ xs[k] _ _ _ ⟨_,rfl,hx⟩ (by omega) (by omega)).mono ?_
   rintro e w1 ⟨rfl,hb1⟩
   have hB:=tr hB hb1 (Nat.le_refl _)
   rcases szr_or (n - xs.length - psum wtReceiver xs k) (wtReceiver xs[k]) with ⟨e1,l1⟩|⟨e1,l1⟩
   ·simp only [e1]
    have z1:=Lib.hid e1;clear e1
    go_wp2_with fail
    go_ret
    exact ⟨ret_int (szr_no (by have:=hS.out;omega)).symm,hB⟩
   ·simp only [e1]
    have z1:=Lib.hid e1;clear e1
    go_wp2_with fail
    exact ⟨⟨k+1,by omega,by go_num,congrArg (Value.int .i64) (by have:=hS.out;omega),by have:=hS.out;omega,hB⟩,by simp [intOf];omega⟩
  ·have hk:k=xs.length:=by omega
   subst hk
   go_wp2_with fail
   go_ret
   exact ⟨ret_int (by rw [szr_yes (by rw [wtL_eq];omega),wtL_eq];all_goals omega),hB⟩
theorem toReceiver_c (v:Value) (x:Receiver) (F:List Nat) (w:World) (h:IsV EReceiver w v x F) (hl:wtReceiver x≤1048576) :
  Calls Tryz.prog 90 #[v] w (RetV OReceiver x w):=by
 obtain ⟨_,rfl,v1,v2,F1,F2,rfl,h1,h2,rfl⟩:=h
 unfold wtReceiver at hl
 have hB0:∀A B C:Obj,Below w.heap.size w (((w.alloc A).alloc B).alloc C):=fun A B C=>(((Below.refl _ _).alloc (Nat.le_refl _) _).alloc (by simp) _).alloc (by simp <;> omega) _
 go_enter Tryz.func90,Tryz.ntmps90
 go_wp2_with fail
 refine (toReceiveWindow_c _ x.window _ _ ⟨_,rfl,_,rfl,h1.below (by decide) (hB0 _ _ _)⟩ (by omega)).mono ?_
 rintro e w1 ⟨_,K1,rfl,⟨_,rfl,y1_1,rfl,o1_1⟩,n1,g1,hb1⟩
 obtain ⟨d1_1,p1_1,rfl⟩:=o1_1.slice
 have l1:∀b∈K1,b < w1.heap.size:=o1_1.lt
 have r0:=Row.below (g:=w.heap.size) (t:=119) (cs:=[.bool x.started,.int .i64 x.clock,.int .i64 x.window.next,v1,v2]) (by simp [row_alloc] <;> omega) hb1
 have r1:=Row.below (g:=w.heap.size+1) (t:=149) (cs:=[.bool false,.int .i64 0,.int .i64 0,.slice none 0 0,.slice none 0 0]) (by simp [row_alloc] <;> omega) hb1
 have r2:=Row.below (g:=w.heap.size+1+1) (t:=149) (cs:=[.bool x.started,.int .i64 x.clock,.int .i64 0,.slice none 0 0,.slice none 0 0]) (by simp [row_alloc] <;> omega) hb1
 have hB:=tr (hB0 _ _ _) hb1 (Nat.le_refl _)
 have hs1:=hb1.size
 simp only [World.size_alloc] at hs1 g1
 clear hb1
 have c0:=r0.cells;have c1:=r1.cells;have c2:=r2.cells;have f1:=r1.frozens;have f2:=r2.frozens
 have o1_1_:=Lib.hid o1_1
 go_wp2_with fail
 refine (toRequestS_c _ x.requests _ _ (h2.below (by decide) (by (repeat (refine Below.setCell ?_ (by simp <;> omega) _));exact hB)) (by omega)).mono ?_
 rintro e w2 ⟨y2,K2,rfl,o2,n2,g2,hb2⟩
 obtain ⟨d2,p2,rfl⟩:=o2.slice
 have l2:∀b∈K2,b < w2.heap.size:=o2.lt
 have r0:=Row.below (g:=w.heap.size) (t:=119) (cs:=[.bool x.started,.int .i64 x.clock,.int .i64 x.window.next,v1,v2]) (by (repeat (refine Row.setOther ?_ (by simp <;> omega) _));exact r0) hb2
 have r1:=Row.below (g:=w.heap.size+1) (t:=149) (cs:=[.bool false,.int .i64 0,.int .i64 0,.slice none 0 0,.slice none 0 0]) (by (repeat (refine Row.setOther ?_ (by simp <;> omega) _));exact r1) hb2
 have r2:=Row.below (g:=w.heap.size+1+1) (t:=149) (cs:=[.bool x.started,.int .i64 x.clock,.int .i64 x.window.next,.slice d1_1 x.window.slots.length p1_1,.slice none 0 0]) (by exact (Row.set (Row.set r2 2 (.int .i64 x.window.next)) 3 (.slice d1_1 x.window.slots.length p1_1))) hb2
 have o1_1:=Ow.below (E:=ESlot) (t:=247) (v:=.slice d1_1 x.window.slots.length p1_1) (xs:=x.window.slots) (F:=K1) (by (repeat (refine Ow.setFar ?_ (fun hm=>by have:=g1 _ hm;simp at this <;> omega) _));exact o1_1) hb2
 have hB:=tr (B:=w.heap.size) (w:=w) (by (repeat (refine Below.setCell ?_ (by simp <;> omega) _));exact hB) hb2 (Nat.le_refl _)
 have hs2:=hb2.size
 simp only [World.size_setCell] at hs2 g2
 clear hb2
 have c0:=r0.cells;have c1:=r1.cells;have c2:=r2.cells;have f1:=r1.frozens;have f2:=r2.frozens
 have o2_:=Lib.hid o2
 go_wp2_with fail
 refine bodyPost_ret (v:=.agg #[.bool x.started,.int .i64 x.clock,.int .i64 x.window.next,.slice d1_1 x.window.slots.length p1_1,.slice d2 x.requests.length p2]) ?_ rfl ?_
 ·simp [results,Tryz.results90,go_sem,c0,c1,c2,f1,f2]
 ·refine ⟨_,K1++K2,rfl,⟨_,rfl,_,_,K1,K2,rfl,?_,?_,rfl⟩,?_,?_,?_⟩
  ·repeat refine Ow.setFar ?_ (fun hm=>by have:=g1 _ hm;simp at this <;> omega) _
   exact o1_1
  ·repeat refine Ow.setFar ?_ (fun hm=>by have:=g2 _ hm;simp at this <;> omega) _
   exact o2
  ·simpa only [List.append_assoc] using (nodup_up n1 n2 (fun b hb=>by have:=l1 b hb;omega) g2)
  ·intro b hb
   simp only [List.mem_append] at hb
   rcases hb with hb|hb
   ·have:=g1 b hb;omega
   ·have:=g2 b hb;omega
  ·repeat refine Below.setCell ?_ (by simp <;> omega) _
   exact hB
theorem toReceiverS_c (v:Value) (xs:List Receiver) (F:List Nat) (w:World) (h:Sl EReceiver w v xs F) (hl1:wtL wtReceiver xs≤1048576) :
  Calls Tryz.prog 40 #[v] w (RetNew OReceiver 149 xs w):=by
 obtain ⟨a,cap,rfl⟩:=h.slice
 have hl2:xs.length≤1048576:=by unfold wtL at hl1;omega
 have hmk:=fun w=>run_make_rows (P:=Tryz.prog) 46 149 (.agg #[.bool false,.int .i64 0,.int .i64 0,.slice none 0 0,.slice none 0 0]) 5 72 Tryz.underlying46 info_Receiver xs.length (by omega) (by omega) w
 have hm:=Lib.hid (Ow.made (E:=OReceiver) (t:=149) w #[.bool false,.int .i64 0,.int .i64 0,.slice none 0 0,.slice none 0 0] xs.length (⟨false,0,(⟨0,[]⟩:ReceiveWindow),[]⟩:Receiver) rfl (fun _=>⟨_,_,[],[],rfl,.inl ⟨rfl,rfl,rfl⟩,.inl ⟨rfl,rfl,rfl⟩,rfl⟩) (by unfold maxLen;omega))
 go_enter Tryz.func40,Tryz.ntmps40
 go_wp2
 clear hmk
 go_loopw [4] (fun i wr=>∃k:Nat,k≤xs.length∧i=.int .i64 k∧∃F,Ow OReceiver 149 wr (.slice (some ⟨w.heap.size,0,none⟩) xs.length xs.length) (xs.take k++List.replicate (xs.length - k) (⟨false,0,(⟨0,[]⟩:ReceiveWindow),[]⟩:Receiver)) F∧F.Nodup∧(∀b∈F,w.heap.size≤b)∧Below w.heap.size w wr) (fun i _=>xs.length - (intOf i).toNat)
 case atStart=>exact ⟨0,Nat.zero_le _,rfl,_,by simpa [show OReceiver.sz=5 from rfl,Value.cells] using hm.out,by simp,by simp,(Below.refl _ _).alloc (Nat.le_refl _) _⟩
 case round =>
  obtain ⟨k,hk,rfl,F2,ho,hn,hF,hB⟩:=hrel
  by_cases hlt:k < xs.length
  ·obtain ⟨b,off,_,F1,rfl,hx, -,ja⟩:=(h.below (by decide) hB).at k hlt
   obtain ⟨v1,v2,F1,F2,rfl,h1,h2,rfl⟩:=id hx
   have a0:=ja 0 (by decide)
   have a1:=ja 1 (by decide)
   have a2:=ja 2 (by decide)
   have a3:=ja 3 (by decide)
   have a4:=ja 4 (by decide)
   simp only [show EReceiver.sz=5 from rfl,Nat.mul_one,Nat.add_zero,List.getElem?_cons_zero,List.getElem?_cons_succ] at a0 a1 a2 a3 a4
   clear ja
   have hst:=Lib.hid (set_take_rep xs (⟨false,0,(⟨0,[]⟩:ReceiveWindow),[]⟩:Receiver) k xs.length rfl hlt xs[k] (by simp))
   have hws:wtReceiver xs[k]≤1048576:=by have:=psum_snoc wtReceiver xs k hlt;have:=wtL_le wtReceiver xs (k+1);omega
   have HO0:=Lib.hid ho
   clear ho
   go_wp2_with fail
   refine (toReceiver_c _ xs[k] _ _ ⟨_,rfl,hx⟩ hws).mono ?_
   rintro e w1 ⟨_,K,rfl,⟨cs1,rfl,oo⟩,nn,gg,hb1⟩
   have ho:=HO0.out.below hb1
   obtain ⟨hgF,hcell,hput⟩:=ho.put hn k (by simp;omega)
   have hlt2:=HO0.out.lt
   obtain ⟨F3,ho3,hn3,hs3⟩:=hput cs1 xs[k] K oo nn (fun b hb hc=>by have:=gg b hb;have:=hlt2 b hc;omega)
   obtain ⟨y1,y2,K1,K2,rfl,q1,q2,rfl⟩:=id oo
   obtain ⟨d1,p1,rfl⟩:=q1.slice
   obtain ⟨d2,p2,rfl⟩:=q2.slice
   rw [hst.out] at ho3
   simp only [show OReceiver.sz=5 from rfl,Nat.mul_one,putCells] at ho3
   obtain ⟨⟨q0_,z0⟩,f0⟩:=hcell 0 (by decide)
   obtain ⟨⟨q1_,z1⟩,f1⟩:=hcell 1 (by decide)
   obtain ⟨⟨q2_,z2⟩,f2⟩:=hcell 2 (by decide)
   obtain ⟨⟨q3_,z3⟩,f3⟩:=hcell 3 (by decide)
   obtain ⟨⟨q4_,z4⟩,f4⟩:=hcell 4 (by decide)
   simp only [show OReceiver.sz=5 from rfl,Nat.mul_one,Nat.add_zero] at z0 f0 z1 f1 z2 f2 z3 f3 z4 f4
   have HO:=Lib.hid ho3
   have hB1:=tr hB hb1 (Nat.le_refl _)
   have hF3:∀b∈F3,w.heap.size≤b:=fun b hb=>by
    rcases hs3 b hb with hb|hb
    ·exact hF b hb
    ·have:=gg b hb;have:=hB.size;omega
   clear ho ho3 hput hcell HO0 oo
   go_wp2_with fail
   exact ⟨⟨k+1,by omega,by go_num,F3,HO.out,hn3,hF3,by (repeat (refine Below.setCell ?_ (by simp) _));exact hB1⟩,by simp [intOf];omega⟩
  ·have hk:k=xs.length:=by omega
   subst hk
   have HO:=Lib.hid ho
   clear ho
   go_wp2_with fail
   go_ret
   exact ⟨_,F2,rfl,by simpa using HO.out,hn,hF,hB⟩
theorem eqReceiver_c (va vb:Value) (x:Receiver) (Fa Fb:List Nat) (w:World) (ha:IsV EReceiver w va x Fa) (hb:IsV EReceiver w vb x Fb) :
  Calls Tryz.prog 110 #[va,vb] w fun e w'=>e=.returned (.bool true)∧Below w.heap.size w w':=by
 obtain ⟨_,rfl,v1,v2,F1,F2,rfl,h1,h2,rfl⟩:=ha
 obtain ⟨_,rfl,u1,u2,G1,G2,rfl,k1,k2,rfl⟩:=hb
 have hB0:∀A B:Obj,Below w.heap.size w ((w.alloc A).alloc B):=fun A B=>((Below.refl _ _).alloc (Nat.le_refl _) _).alloc (by simp) _
 have hE:∀z:Int,(z != z)=false:=fun z=>by simp
 go_enter Tryz.func110,Tryz.ntmps110
 go_wp2_with fail
 refine (eqReceiveWindow_c _ _ x.window _ _ _ ⟨_,rfl,_,rfl,h1.below (by decide) (hB0 _ _)⟩ ⟨_,rfl,_,rfl,k1.below (by decide) (hB0 _ _)⟩).mono ?_
 rintro e w1 ⟨rfl,hb1⟩
 have r0:=Row.below (g:=w.heap.size) (t:=149) (cs:=[.bool x.started,.int .i64 x.clock,.int .i64 x.window.next,v1,v2]) (by simp [row_alloc] <;> omega) hb1
 have r1:=Row.below (g:=w.heap.size+1) (t:=149) (cs:=[.bool x.started,.int .i64 x.clock,.int .i64 x.window.next,u1,u2]) (by simp [row_alloc] <;> omega) hb1
 have hB:=tr (hB0 _ _) hb1 (Nat.le_refl _)
 clear hb1
 have c0:=r0.cells;have c1:=r1.cells
 go_wp2_with fail
 refine (eqRequestS_c _ _ x.requests _ _ _ (h2.below (by decide) hB) (k2.below (by decide) hB)).mono ?_
 rintro e w2 ⟨rfl,hb2⟩
 have r0:=r0.below hb2;have r1:=r1.below hb2;have hB:=tr hB hb2 (Nat.le_refl _)
 clear hb2
 have c0:=r0.cells;have c1:=r1.cells
 go_wp2_with fail
 go_ret
 exact ⟨rfl,hB⟩
theorem eqReceiverS_c (va vb:Value) (xs:List Receiver) (Fa Fb:List Nat) (w:World) (ha:Sl EReceiver w va xs Fa) (hb:Sl EReceiver w vb xs Fb) :
  Calls Tryz.prog 49 #[va,vb] w fun e w'=>e=.returned (.bool true)∧Below w.heap.size w w':=by
 obtain ⟨a,ca,rfl⟩:=ha.slice
 obtain ⟨b,cb,rfl⟩:=hb.slice
 have hl:=ha.len
 unfold maxLen at hl
 go_enter Tryz.func49,Tryz.ntmps49
 go_wp2
 go_loopw [5] (fun i wr=>∃k:Nat,k≤xs.length∧i=.int .i64 k∧Below w.heap.size w wr) (fun i _=>xs.length - (intOf i).toNat)
 case atStart=>exact ⟨0,Nat.zero_le _,rfl,Below.refl _ _⟩
 case round =>
  obtain ⟨k,hk,rfl,hB⟩:=hrel
  by_cases hlt:k < xs.length
  ·obtain ⟨ba,oa,_,F_,rfl,hx, -,ja⟩:=(ha.below (by decide) hB).at k hlt
   obtain ⟨bb,ob,_,G_,rfl,hy, -,jb⟩:=(hb.below (by decide) hB).at k hlt
   obtain ⟨v1,v2,F1,F2,rfl,h1,h2,rfl⟩:=id hx
   obtain ⟨u1,u2,G1,G2,rfl,k1,k2,rfl⟩:=id hy
   have a0:=ja 0 (by decide);have b0:=jb 0 (by decide)
   have a1:=ja 1 (by decide);have b1:=jb 1 (by decide)
   have a2:=ja 2 (by decide);have b2:=jb 2 (by decide)
   have a3:=ja 3 (by decide);have b3:=jb 3 (by decide)
   have a4:=ja 4 (by decide);have b4:=jb 4 (by decide)
   simp only [show EReceiver.sz=5 from rfl,Nat.mul_one,Nat.add_zero,List.getElem?_cons_zero,List.getElem?_cons_succ] at a0 b0 a1 b1 a2 b2 a3 b3 a4 b4
   clear ja jb
   go_wp2_with fail
   go_region_held3 (fun w'=>w'.cell? ⟨ba,oa+k * 5,none⟩=some (.bool xs[k].started)∧w'.cell? ⟨ba,oa+k * 5+1,none⟩=some (.int .i64 xs[k].clock)∧w'.cell? ⟨ba,oa+k * 5+2,none⟩=some (.int .i64 xs[k].window.next)∧w'.cell? ⟨ba,oa+k * 5+3,none⟩=some (v1)∧w'.cell? ⟨ba,oa+k * 5+4,none⟩=some (v2)∧w'.cell? ⟨bb,ob+k * 5,none⟩=some (.bool xs[k].started)∧w'.cell? ⟨bb,ob+k * 5+1,none⟩=some (.int .i64 xs[k].clock)∧w'.cell? ⟨bb,ob+k * 5+2,none⟩=some (.int .i64 xs[k].window.next)∧w'.cell? ⟨bb,ob+k * 5+3,none⟩=some (u1)∧w'.cell? ⟨bb,ob+k * 5+4,none⟩=some (u2))
    (first|go_keep|(exact ⟨kc hb1 (by simpa using a0),kc hb1 (by simpa using a1),kc hb1 (by simpa using a2),kc hb1 (by simpa using a3),kc hb1 (by simpa using a4),kc hb1 (by simpa using b0),kc hb1 (by simpa using b1),kc hb1 (by simpa using b2),kc hb1 (by simpa using b3),kc hb1 (by simpa using b4)⟩))
    (first|(go_at_call 110;refine (eqReceiver_c _ _ xs[k] _ _ wr.drew ⟨_,rfl,EReceiver.frame hx (fun _ _=>rfl)⟩ ⟨_,rfl,EReceiver.frame hy (fun _ _=>rfl)⟩).mono ?_;rintro e w1 ⟨rfl,hb1⟩))
   go_wp2_with fail
   exact ⟨⟨k+1,by omega,by go_num,tr (belowDrewN hB 1) hb1 (Nat.le_refl _)⟩,by simp [intOf];omega⟩
  ·go_wp2_with fail
   go_ret
   exact ⟨rfl,hB⟩
theorem markReceiverS_c (v:Value) (xs:List Receiver) (F:List Nat) (k0:Int) (w:World) (h:Ow OReceiver 149 w v xs F) (hn:F.Nodup) (h0:0≤k0) (h1:k0+cntL cntReceiver xs≤1099511627776) :
  Calls Tryz.prog 54 #[v,.int .i64 k0] w (RetMark OReceiver 149 v (k0+cntL cntReceiver xs) (markL mkReceiver cntReceiver k0 xs) F w):=by
 obtain ⟨a,cap,rfl⟩:=h.slice
 have hl:=h.len
 unfold maxLen at hl
 go_enter Tryz.func54,Tryz.ntmps54
 go_wp2
 go_loopw [1,5] (fun kk i wr=>∃k:Nat,k≤xs.length∧i=.int .i64 k∧kk=.int .i64 (k0+psum cntReceiver xs k)∧Ow OReceiver 149 wr (.slice a xs.length cap) ((markL mkReceiver cntReceiver k0 xs).take k++xs.drop k) F∧Keep F w wr) (fun _ i _=>xs.length - (intOf i).toNat)
 case atStart=>exact ⟨0,Nat.zero_le _,rfl,by rw [psum_zero];simp,by simpa using h,Keep.refl _ _⟩
 case round =>
  obtain ⟨k,hk,rfl,rfl,ho,hK⟩:=hrel
  by_cases hlt:k < xs.length
  ·have hln:k < ((markL mkReceiver cntReceiver k0 xs).take k++xs.drop k).length:=by simp [markL_len];omega
   have hsn:=Lib.hid (psum_snoc cntReceiver xs k hlt)
   have hsl:k0+psum cntReceiver xs k+cntReceiver xs[k]≤1099511627776:=by have:=hsn.out;have:=cntL_le cntReceiver xs (k+1);omega
   obtain ⟨g,rfl⟩:=ho.head k hln
   obtain ⟨A,c,B,Fi,hrow,hA,hcl,hx,hnF,hgF,hgm,hsub,back⟩:=ho.inPlace hn k hln
   rw [mid_get _ _ _ (markL_len ..) hlt] at hx
   simp only [show OReceiver.sz=5 from rfl] at hA
   have hst:=Lib.hid (markL_step mkReceiver cntReceiver xs k0 k hlt)
   simp only [cntB,cntI,cntReceiver] at hsl
   obtain ⟨v1,v2,F1,F2,rfl,h1,h2,rfl⟩:=hx
   obtain ⟨nF1,nF2,dF2⟩:=nodup_apart hnF
   have gF1:g ∉ F1:=fun e=>hgF (by simp [e])
   have gF2:g ∉ F2:=fun e=>hgF (by simp [e])
   have KK:=Keep.refl (g::(F1++F2)) wr
   clear ho
   have z0:=hrow.cellMid (p:=k * 5) (j:=0) (by omega) (by simp)
   have z1:=hrow.cellMid (p:=k * 5+1) (j:=1) (by omega) (by simp)
   have z2:=hrow.cellMid (p:=k * 5+2) (j:=2) (by omega) (by simp)
   have z3:=hrow.cellMid (p:=k * 5+3) (j:=3) (by omega) (by simp)
   have z4:=hrow.cellMid (p:=k * 5+4) (j:=4) (by omega) (by simp)
   simp only [List.getElem?_cons_zero,List.getElem?_cons_succ] at z0 z1 z2 z3 z4
   have hfz:=hrow.frozens
   have HBk:=Lib.hid back;clear back
   go_wp2_with fail
   refine (markSlotS_c _ xs[k].window.slots _ (k0+psum cntReceiver xs k+1+1+1) _ (by (repeat (refine Ow.setFar ?_ gF1 _));exact h1) nF1 (by omega) (by omega)).mono ?_
   rintro e w1 ⟨rfl,o1,kp1⟩
   have hrow:Row w1 g 149 (A++[.bool ((k0+psum cntReceiver xs k) % 3 == 0),.int .i64 (k0+psum cntReceiver xs k+1),.int .i64 (k0+psum cntReceiver xs k+1+1),v1,v2]++B):=Row.keepK (by exact (Row.setMid (Row.setMid (Row.setMid hrow (p:=k * 5) (j:=0) (by omega) (by simp) (.bool ((k0+psum cntReceiver xs k) % 3 == 0))) (p:=k * 5+1) (j:=1) (by omega) (by simp) (.int .i64 (k0+psum cntReceiver xs k+1))) (p:=k * 5+2) (j:=2) (by omega) (by simp) (.int .i64 (k0+psum cntReceiver xs k+1+1)))) kp1 gF1
   have h2:=Ow.keep (E:=ERequest) (t:=235) (v:=v2) (F:=F2) (by exact (Ow.setFar (Ow.setFar (Ow.setFar h2 gF2 _) gF2 _) gF2 _)) kp1 (fun b hb hc=>dF2 b (by simp [hc]) hb)
   have KK:=Keep.trans (F:=g::(F1++F2)) (a:=wr) (by (repeat (refine Keep.setCell ?_ (by simp) _));exact KK) (Keep.mono kp1 (fun b hb _=>by simp [hb]))
   clear kp1
   have z0:=hrow.cellMid (p:=k * 5) (j:=0) (by omega) (by simp)
   have z1:=hrow.cellMid (p:=k * 5+1) (j:=1) (by omega) (by simp)
   have z2:=hrow.cellMid (p:=k * 5+2) (j:=2) (by omega) (by simp)
   have z3:=hrow.cellMid (p:=k * 5+3) (j:=3) (by omega) (by simp)
   have z4:=hrow.cellMid (p:=k * 5+4) (j:=4) (by omega) (by simp)
   simp only [List.getElem?_cons_zero,List.getElem?_cons_succ] at z0 z1 z2 z3 z4
   have hfz:=hrow.frozens
   go_wp2_with fail
   refine (markRequestS_c _ xs[k].requests _ (k0+psum cntReceiver xs k+1+1+1+cntL cntSlot xs[k].window.slots) _ (by (repeat (refine Ow.setFar ?_ gF2 _));exact h2) nF2 (by omega) (by omega)).mono ?_
   rintro e w2 ⟨rfl,o2,kp2⟩
   have hrow:Row w2 g 149 (A++[.bool ((k0+psum cntReceiver xs k) % 3 == 0),.int .i64 (k0+psum cntReceiver xs k+1),.int .i64 (k0+psum cntReceiver xs k+1+1),v1,v2]++B):=Row.keepK (by exact hrow) kp2 gF2
   have o1:=Ow.keep (E:=ESlot) (t:=247) (v:=v1) (F:=F1) (by exact o1) kp2 (fun b hb=>dF2 b (by simp [hb]))
   have KK:=Keep.trans (F:=g::(F1++F2)) (a:=wr) (by (repeat (refine Keep.setCell ?_ (by simp) _));exact KK) (Keep.mono kp2 (fun b hb _=>by simp [hb]))
   clear kp2
   have z0:=hrow.cellMid (p:=k * 5) (j:=0) (by omega) (by simp)
   have z1:=hrow.cellMid (p:=k * 5+1) (j:=1) (by omega) (by simp)
   have z2:=hrow.cellMid (p:=k * 5+2) (j:=2) (by omega) (by simp)
   have z3:=hrow.cellMid (p:=k * 5+3) (j:=3) (by omega) (by simp)
   have z4:=hrow.cellMid (p:=k * 5+4) (j:=4) (by omega) (by simp)
   simp only [List.getElem?_cons_zero,List.getElem?_cons_succ] at z0 z1 z2 z3 z4
   have hfz:=hrow.frozens
   go_wp2_with fail
   have HB:=HBk.out _ [.bool ((k0+psum cntReceiver xs k) % 3 == 0),.int .i64 (k0+psum cntReceiver xs k+1),.int .i64 (k0+psum cntReceiver xs k+1+1),v1,v2] (mkReceiver (k0+psum cntReceiver xs k) xs[k]) (by exact hrow) ⟨_,_,_,_,rfl,(by (repeat (refine Ow.setFar ?_ gF1 _));exact o1),(by (repeat (refine Ow.setFar ?_ gF2 _));exact o2),rfl⟩ (by (repeat (refine Keep.setCell ?_ (by simp) _));exact KK)
   rw [hst.out] at HB
   exact ⟨⟨k+1,by omega,by go_num,congrArg (Value.int .i64) (by rw [hsn.out];simp only [cntB,cntI,cntReceiver];omega),HB,by (repeat (refine Keep.setCell ?_ hgm _));exact hK.trans (KK.mono (fun b hb _=>by rcases List.mem_cons.1 hb with rfl|hb;exact hgm;exact hsub b hb))⟩,by simp [intOf];omega⟩
  ·have hk:k=xs.length:=by omega
   subst hk
   have HO:=Lib.hid ho
   clear ho
   go_wp2
   go_ret
   exact ⟨ret_int (by rw [cntL_eq]),by simpa [markL_len,List.take_of_length_le] using HO.out,hK⟩
theorem heldReceiverS_c (v:Value) (xs:List Receiver) (F:List Nat) (k0:Int) (w:World) (h:Sl EReceiver w v (markL mkReceiver cntReceiver k0 xs) F) (h0:0≤k0) (h1:k0+cntL cntReceiver xs≤1099511627776) :
  Calls Tryz.prog 60 #[v,.int .i64 k0] w fun e w'=>e=.returned (.int .i64 (k0+cntL cntReceiver xs))∧Below w.heap.size w w':=by
 obtain ⟨a,cap,rfl⟩:=h.slice
 have hl:=h.len
 unfold maxLen at hl
 have hml:=Lib.hid (markL_len mkReceiver cntReceiver xs k0)
 rw [hml.out] at hl
 rw [hml.out]
 have hE:∀z:Int,(z != z)=false:=fun z=>by simp
 go_enter Tryz.func60,Tryz.ntmps60
 go_wp2
 go_loopw [1,5] (fun kk i wr=>∃k:Nat,k≤xs.length∧i=.int .i64 k∧kk=.int .i64 (k0+psum cntReceiver xs k)∧Below w.heap.size w wr) (fun _ i _=>xs.length - (intOf i).toNat)
 case atStart=>exact ⟨0,Nat.zero_le _,rfl,by rw [psum_zero];simp,Below.refl _ _⟩
 case round =>
  obtain ⟨k,hk,rfl,rfl,hB⟩:=hrel
  by_cases hlt:k < xs.length
  ·have hsn:=Lib.hid (psum_snoc cntReceiver xs k hlt)
   have hsl:k0+psum cntReceiver xs k+cntReceiver xs[k]≤1099511627776:=by have:=hsn.out;have:=cntL_le cntReceiver xs (k+1);omega
   obtain ⟨b,off,_,F1,hab,hx, -,ja⟩:=(h.below (by decide) hB).at k (by rw [hml.out];exact hlt)
   rw [markL_get mkReceiver cntReceiver xs k0 k hlt] at hx
   rw [hml.out] at h
   subst hab
   simp only [cntB,cntI,cntReceiver] at hsl
   obtain ⟨v1,v2,G1,G2,rfl,k1,k2,rfl⟩:=hx
   have a0:wr.cell? ⟨b,off+k * 5,none⟩=some (.bool ((k0+psum cntReceiver xs k) % 3 == 0)):=by have:=ja 0 (by decide);simp only [show EReceiver.sz=5 from rfl,Nat.mul_one,Nat.add_zero,List.getElem?_cons_zero,List.getElem?_cons_succ] at this;exact this
   have a1:wr.cell? ⟨b,off+k * 5+1,none⟩=some (.int .i64 (k0+psum cntReceiver xs k+1)):=by have:=ja 1 (by decide);simp only [show EReceiver.sz=5 from rfl,Nat.mul_one,Nat.add_zero,List.getElem?_cons_zero,List.getElem?_cons_succ] at this;exact this
   have a2:wr.cell? ⟨b,off+k * 5+2,none⟩=some (.int .i64 (k0+psum cntReceiver xs k+1+1)):=by have:=ja 2 (by decide);simp only [show EReceiver.sz=5 from rfl,Nat.mul_one,Nat.add_zero,List.getElem?_cons_zero,List.getElem?_cons_succ] at this;exact this
   have a3:wr.cell? ⟨b,off+k * 5+3,none⟩=some (v1):=by have:=ja 3 (by decide);simp only [show EReceiver.sz=5 from rfl,Nat.mul_one,Nat.add_zero,List.getElem?_cons_zero,List.getElem?_cons_succ] at this;exact this
   have a4:wr.cell? ⟨b,off+k * 5+4,none⟩=some (v2):=by have:=ja 4 (by decide);simp only [show EReceiver.sz=5 from rfl,Nat.mul_one,Nat.add_zero,List.getElem?_cons_zero,List.getElem?_cons_succ] at this;exact this
   clear ja
   go_wp2_with fail
   refine (heldSlotS_c _ xs[k].window.slots _ (k0+psum cntReceiver xs k+1+1+1) _ (k1.below (by decide) (Below.refl _ _)) (by omega) (by omega)).mono ?_
   rintro e w1 ⟨rfl,hb1⟩
   have a0:=kc hb1 a0
   have a1:=kc hb1 a1
   have a2:=kc hb1 a2
   have a3:=kc hb1 a3
   have a4:=kc hb1 a4
   have hB:=tr hB hb1 (Nat.le_refl _)
   have k1:=k1.below (by decide) hb1
   have k2:=k2.below (by decide) hb1
   clear hb1
   go_wp2_with fail
   refine (heldRequestS_c _ xs[k].requests _ (k0+psum cntReceiver xs k+1+1+1+cntL cntSlot xs[k].window.slots) _ (k2.below (by decide) (Below.refl _ _)) (by omega) (by omega)).mono ?_
   rintro e w2 ⟨rfl,hb2⟩
   have a0:=kc hb2 a0
   have a1:=kc hb2 a1
   have a2:=kc hb2 a2
   have a3:=kc hb2 a3
   have a4:=kc hb2 a4
   have hB:=tr hB hb2 (Nat.le_refl _)
   have k1:=k1.below (by decide) hb2
   have k2:=k2.below (by decide) hb2
   clear hb2
   go_wp2_with fail
   exact ⟨⟨k+1,by omega,by go_num,congrArg (Value.int .i64) (by rw [hsn.out];simp only [cntB,cntI,cntReceiver];omega),hB⟩,by simp [intOf];omega⟩
  ·have hk:k=xs.length:=by omega
   subst hk
   go_wp2
   go_ret
   exact ⟨ret_int (by rw [cntL_eq]),hB⟩
end Go.Proofs.YtgmbfohkpfineaaGreatDoor
