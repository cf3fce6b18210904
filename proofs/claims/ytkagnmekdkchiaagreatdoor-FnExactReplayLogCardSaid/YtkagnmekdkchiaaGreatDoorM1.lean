/- Part 1 of the proof: 32 texts, one behind the other. -/
import Derived.WalkKit
import Derived.Lib.Hide
import Derived.Deep.Draws
import Derived.Deep.AppendLies
import Derived.OwnWalk
import Derived.Test.YtkagnmekdkchiaaGreatDoorRows
import Derived.WalkSpells
import Derived.WalkLawsBesides
import Derived.Deep.QuietTactic
import Derived.BigQuiet
import Derived.Deep.RegionHeld3
import Derived.Deep.OwnRows
import Derived.Lib.SliceRun
import Derived.Deep.RegionHeld
import Derived.Deep.MidRow
import Derived.IntWalk
import Derived.Laws.Strings
import Derived.Test.YtkagnmekdkchiaaGreatDoorProg
open _root_.Go.Proofs.Tryz
set_option maxRecDepth 100000
set_option maxHeartbeats 8000000
set_option linter.all false
set_option linter.unusedVariables false
set_option linter.unusedSimpArgs false
namespace Go.Proofs.YtkagnmekdkchiaaGreatDoor
theorem AS{p:Prop}(h:p:=by exact ⟨⟨k+1,by omega,by go_num,fun j hj hl=>by rcases Nat.lt_or_eq_of_le (Nat.le_of_lt_succ hj) with h|h;exact hz0.out j h hl;subst h;exact hpk.out,hB⟩,by simp [intOf];omega⟩):p:=h
theorem AY{p:Prop}(h:p:=by simp only [execOp,Option.map_none,Option.map_some,hA.ev hx,hA.ev hy,Sem.run_bind,h3,Result.andThen_ok,Sem.run_pure]):p:=h
theorem BM{p:Prop}(h:p:=by exact ⟨⟨q+1,m+1,F2,by omega,by omega,by rw [C2 hlt (by simp [hpq.out]),hys.out];have:=hlen.out;omega,by rw [C2 hlt (by simp [hpq.out]),hys.out],by go_num,by rw [C2 hlt (by simp [hpq.out]),hys.out];exact hg2.out.below hbb,fun b hb=>hF1 b (hF2 b hb),hK.trans (Dn.ofBelow hbb)⟩,by simp [intOf];omega⟩):p:=h
theorem DL{p:Prop}(h:p:=by refine ⟨_,F2,rfl,by rw [hys.out];exact hO.out,hn2,fun b hb=>hF1 b (hF2 b hb),hK.trans ?_⟩;rw [←Mb wr];exact (Ln _ _ _).mono (fun b hb _=>by simp at hb;subst hb;exact hgF)):p:=h
theorem DN{p:Prop}(h:p:=by exact ⟨I2 (Mt (fun j hj=>hz.out j (by omega) hj)).symm,hB⟩):p:=h
theorem DW{p:Prop}(h:p:=by simp only [Instr.loadAt,Instr.sureAddr,Sem.run_bind,Sem.run_pure,Result.andThen_ok,Nat.add_zero] at h1;simp [List.mapM_cons,f2,g.at_ _ _ hl,Hm,Aen,h1,ih]):p:=h
theorem EI{p:Prop}(h:p:=by rw [List.length_map];exact Nat.le_trans (List.length_filter_le _ _) (by simp)):p:=h
theorem EM{p:Prop}(h:p:=by exact ⟨rfl,rfl⟩):p:=h
theorem ET{p:Prop}(h:p:=by refine ⟨B8 (P8 hlt fun hc=>?_).symm,hB1 _⟩;rw [Jw hlt];simp [Kc,t]):p:=h
theorem EW{p:Prop}(h:p:=by simp only [execOp,hA.ev hx,hA.ev hy,eqGuard_at_bool,e,Sem.run_bind,Sem.run_pure,Result.andThen_ok,Aez];cases a <;> cases b <;> rfl):p:=h
theorem FJ{p:Prop}(h:p:=by exact ⟨⟨k+1,by omega,by go_num,by refine Lib.hid ?_;rw [hz.out];rw [Ad9] at h2;simp [Pf,h1,h2]⟩,by simp [intOf];omega⟩):p:=h
theorem FL{p:Prop}(h:p:=by subst hji;exact hy.wpOp hi hS ⟨fun _=>hS,H⟩):p:=h
theorem FO{p:Prop}(h:p:=by exact ⟨I2 (N6 hlt hz0.out hpk.out).symm,hB⟩):p:=h
theorem GF{p:Prop}(h:p:=by simpa using this):p:=h
theorem GJ{p:Prop}(h:p:=by omega):p:=h
theorem GK{p:Prop}(h:p:=by kernel_rfl):p:=h
theorem GL{p:Prop}(h:p:=by simp):p:=h
theorem GM{p:Prop}(h:p:=by decide):p:=h
theorem GP{p:Prop}(h:p:=by repeat (first|exact .here|apply Cz.there)):p:=h
theorem GT{p:Prop}(h:p:=by simp [hb]):p:=h
theorem GU{p:Prop}(h:p:=by simp;omega):p:=h
theorem GV{p:Prop}(h:p:=by rfl):p:=h
theorem GW{p:Prop}(h:p:=by simpa using h):p:=h
theorem GZ{p:Prop}(h:p:=by unfold maxLen;omega):p:=h
theorem HA{p:Prop}(h:p:=by simp [intOf];omega):p:=h
theorem HG{p:Prop}(h:p:=by simp [hq]):p:=h
theorem HH{p:Prop}(h:p:=by rw [he2];exact hS.u):p:=h
theorem HI{p:Prop}(h:p:=by simp <;> omega):p:=h
theorem HN{p:Prop}(h:p:=by simp [Es] <;> omega):p:=h
theorem HT{p:Prop}(h:p:=by rw [List.length_append];omega):p:=h
theorem HY{p:Prop}(h:p:=by simpa using hr):p:=h
theorem HZ{p:Prop}(h:p:=by go_num):p:=h
theorem IA{p:Prop}(h:p:=by unfold maxLen at hl;simp;omega):p:=h
theorem IB{p:Prop}(h:p:=by simpa using s):p:=h
theorem IC{p:Prop}(h:p:=by assumption):p:=h
theorem IH{p:Prop}(h:p:=by simpa using hl):p:=h
theorem IJ{p:Prop}(h:p:=by rw [C2 hk0 (by simp [hpk]),hfl];simp;omega):p:=h
theorem IM{p:Prop}(h:p:=by (repeat (first|exact .here|apply Cz.there));first|done|fail):p:=h
theorem IP{p:Prop}(h:p:=by rw [h] at hr;cases hr):p:=h
theorem IR{p:Prop}(h:p:=by simp [hp]):p:=h
theorem IW{p:Prop}(h:p:=by simpa using hi):p:=h
theorem IX{p:Prop}(h:p:=by simp [hx]):p:=h
theorem JA{p:Prop}(h:p:=by rw [List.getElem?_append_right (by omega),show c1.length+j - c1.length=j by omega];exact hu):p:=h
theorem JB{p:Prop}(h:p:=by simp [h]):p:=h
theorem JC{p:Prop}(h:p:=by simpa using h2):p:=h
theorem JF{p:Prop}(h:p:=by simpa using hA.ow):p:=h
theorem JG{p:Prop}(h:p:=by simp [hpq.out]):p:=h
theorem JJ{p:Prop}(h:p:=by simpa using hA):p:=h
theorem JK{p:Prop}(h:p:=by simp [Pc.F]):p:=h
theorem JL{p:Prop}(h:p:=by simpa using hj):p:=h
theorem JM{p:Prop}(h:p:=by simpa using h1):p:=h
theorem JN{p:Prop}(h:p:=by simp [hc]):p:=h
theorem JO{p:Prop}(h:p:=by simpa using h3):p:=h
theorem JP{p:Prop}(h:p:=by simp [Es]):p:=h
theorem KE{p:Prop}(h:p:=by (repeat (refine Dn.setCell ?_ hgF _));exact hK.trans (Dn.ofBelow hbb)):p:=h
theorem KG{p:Prop}(h:p:=by simpa using hm):p:=h
theorem KH{p:Prop}(h:p:=by simp [hpk]):p:=h
theorem KJ{p:Prop}(h:p:=by rw [Gm hlt (by simp [hpq.out]),hys.out];have:=hlen.out;simp;omega):p:=h
theorem KK{p:Prop}(h:p:=by rw [Gm hlt (by simp [hpq.out]),hys.out,List.length_append];go_num):p:=h
end Go.Proofs.YtkagnmekdkchiaaGreatDoor
namespace Go.Proofs.YtkagnmekdkchiaaGreatDoor
open Go.RowKit
theorem kc {w w':World} {a:Addr} {v:Value} (hb:Below w.heap.size w w') (h:w.cell? a=some v):w'.cell? a=some v :=
 (hb.cell (World.block_lt_of_cell? w a h)).trans h
theorem kf {w w':World} {a:Addr} {v:Value} (hb:Below w.heap.size w w') (h:w.cell? a=some v):w'.frozen? a=w.frozen? a :=
 hb.frozen (World.block_lt_of_cell? w a h)
theorem tr {B:Nat} {w w1 w2:World} (h:Below B w w1) (h':Below w1.heap.size w1 w2) (hB:B≤w.heap.size):Below B w w2:=h.trans (h'.mono (Nat.le_trans hB h.size))
structure Bx (α:Type) where
 sz:Nat
 Lo:World→List Value→α→List Nat→Prop
 len:∀{w cs x F},Lo w cs x F→cs.length=sz
 lt:∀{w cs x F},Lo w cs x F→∀b∈F,b < w.heap.size
 frame:∀{w w':World} {cs x F},Lo w cs x F→(∀b∈F,w'.heap[b]?=w.heap[b]?)→Lo w' cs x F
def N4 {α:Type} (E:Bx α) (w:World) (b:Nat):Nat→List α→List Nat→Prop
 | _,[],F=>F=[]
 | off,x::r,F=>∃cs F1 F2,F=F1++F2∧E.Lo w cs x F1∧(∀j,j < E.sz→w.cell? ⟨b,off+j,none⟩=cs[j]?)∧N4 E w b (off+E.sz) r F2
def Sl {α:Type} (E:Bx α) (w:World) (v:Value) (xs:List α) (F:List Nat):Prop :=
 ∃a cap,v=.slice a xs.length cap∧(xs.length≤cap∧cap≤maxLen) ∧
  ((xs=[]∧F=[]∧(a=none→cap=0))∨∃b off F',a=some ⟨b,off,none⟩∧xs≠[]∧F=b::F'∧N4 E w b off xs F')
theorem N4.lt {α:Type} {E:Bx α} {w:World} {b:Nat}:∀{xs:List α} {off:Nat} {F:List Nat},N4 E w b off xs F→∀c∈F,c < w.heap.size
 | [],_,_,h=>by simp [N4] at h;simp [h]
 | _::r,_,_,h=>by
  obtain ⟨cs,F1,F2,rfl,h1,_,h2⟩:=h;intro c hc;rcases List.mem_append.1 hc with hc|hc
  ·exact E.lt h1 c hc
  ·exact N4.lt h2 c hc
theorem N4.frame {α:Type} {E:Bx α} {w w':World} {b:Nat} (hb:w'.heap[b]?=w.heap[b]?):∀{xs:List α} {off:Nat} {F:List Nat},N4 E w b off xs F →
  (∀c∈F,w'.heap[c]?=w.heap[c]?)→N4 E w' b off xs F
 | [],_,_,h,_=>h
 | _::r,_,_,h,hF=>by
  obtain ⟨cs,F1,F2,rfl,h1,hc,h2⟩:=h;refine ⟨cs,F1,F2,rfl,E.frame h1 fun c hc=>hF c JN,fun j hj=>?_,N4.frame hb h2 fun c hc=>hF c JN⟩;rw [World.cell?_of_block (w:=w) hb];exact hc j hj
theorem N4.get {α:Type} {E:Bx α} {w:World} {b:Nat}:∀{xs:List α} {off:Nat} {F:List Nat},N4 E w b off xs F→∀(i:Nat) (hi:i < xs.length),
  ∃cs F1,E.Lo w cs xs[i] F1∧(∀j,j < E.sz→w.cell? ⟨b,off+i * E.sz+j,none⟩=cs[j]?)∧∀c∈F1,c∈F
 | [],_,_,_,i,hi=>by simp at hi
 | x::r,off,_,h,0,_=>by
  obtain ⟨cs,F1,F2,rfl,h1,hc,h2⟩:=h;exact ⟨cs,F1,h1,by simpa using hc,fun c hc=>by simp [hc]⟩
 | x::r,off,_,h,i+1,hi=>by
  obtain ⟨cs,F1,F2,rfl,h1,hc,h2⟩:=h;obtain ⟨cs',F3,h3,hc3,hm⟩:=N4.get h2 i IW;refine ⟨cs',F3,JO,fun j hj=>?_,fun c hc=>by simp [hm c hc]⟩;rw [←hc3 j hj,show off+(i+1) * E.sz+j=off+E.sz+i * E.sz+j by rw [Nat.add_mul];omega]
theorem N4.block {α:Type} {E:Bx α} {w:World} {b off:Nat} {xs:List α} {F:List Nat} (h:N4 E w b off xs F) (hne:xs≠[]) (hz:0 < E.sz):b < w.heap.size:=by
 cases xs with
 | nil=>exact absurd rfl hne
 | cons x r =>
  obtain ⟨cs,F1,F2,rfl,h1,hc,h2⟩:=h;have h0:=hc 0 hz;have hl:=E.len h1;rw [List.getElem?_eq_getElem GJ] at h0;exact World.block_lt_of_cell? w _ h0
theorem Sl.lt {α:Type} {E:Bx α} (hz:0 < E.sz) {w v xs F} (h:Sl E w v xs F):∀c∈F,c < w.heap.size:=by
 obtain ⟨a,cap,_,_,⟨_,rfl,_⟩|⟨b,off,F',_,hne,rfl,hc⟩⟩:=h
 ·simp
 ·intro c hm;rcases List.mem_cons.1 hm with rfl|hm
  ·exact hc.block hne hz
  ·exact hc.lt c hm
theorem Sl.frame {α:Type} {E:Bx α} {w w':World} {v xs F} (h:Sl E w v xs F) (hF:∀b∈F,w'.heap[b]?=w.heap[b]?):Sl E w' v xs F:=by
 obtain ⟨a,cap,hv,hl,⟨h1,h2⟩|⟨b,off,F',h1,hne,rfl,hc⟩⟩:=h
 ·exact ⟨a,cap,hv,hl,.inl ⟨h1,h2⟩⟩
 ·exact ⟨a,cap,hv,hl,.inr ⟨b,off,F',h1,hne,rfl,hc.frame (hF b GL) fun c hc=>hF c JN⟩⟩
theorem Sl.below {α:Type} {E:Bx α} (hz:0 < E.sz) {w w':World} {v xs F} (h:Sl E w v xs F) (hb:Below w.heap.size w w'):Sl E w' v xs F :=
 h.frame fun c hc=>hb.block c (h.lt hz c hc)
def Bc:Bx Int where
 sz:=1
 Lo _ cs z F:=cs=[.int .i64 z]∧F=[]
 len h:=by simp [h.1]
 lt h:=by simp [h.2]
 frame h _:=h
def A8:Bx ByteArray where
 sz:=1
 Lo _ cs s F:=cs=[.string s]∧s.size≤maxLen∧F=[]
 len h:=by simp [h.1]
 lt h:=by simp [h.2.2]
 frame h _:=h
def Nn {α:Type} (E:Bx α) (hz:0 < E.sz):Bx (List α) where
 sz:=1
 Lo w cs xs F:=∃v,cs=[v]∧Sl E w v xs F
 len h:=by obtain ⟨v,rfl,_⟩:=h;rfl
 lt h:=by obtain ⟨v,rfl,h⟩:=h;exact h.lt hz
 frame h hF:=by obtain ⟨v,rfl,h⟩:=h;exact ⟨v,rfl,h.frame hF⟩
def Akr:Bx Unit where
 sz:=0
 Lo _ cs _ F:=cs=[]∧F=[]
 len h:=by simp [h.1]
 lt h:=by simp [h.2]
 frame h _:=h
def Ace {α β:Type} (A:Bx α) (B:Bx β):Bx (α × β) where
 sz:=A.sz+B.sz
 Lo w cs x F:=∃c1 c2 F1 F2,cs=c1++c2∧F=F1++F2∧A.Lo w c1 x.1 F1∧B.Lo w c2 x.2 F2
 len h:=by obtain ⟨c1,c2,F1,F2,rfl,rfl,h1,h2⟩:=h;simp [A.len h1,B.len h2]
 lt h:=by
  obtain ⟨c1,c2,F1,F2,rfl,rfl,h1,h2⟩:=h;intro b hb;rcases List.mem_append.1 hb with hb|hb
  ·exact A.lt h1 b hb
  ·exact B.lt h2 b hb
 frame h hF:=by
  obtain ⟨c1,c2,F1,F2,rfl,rfl,h1,h2⟩:=h;exact ⟨c1,c2,F1,F2,rfl,rfl,A.frame h1 fun b hb=>hF b GT,B.frame h2 fun b hb=>hF b GT⟩
def Bx.comap {α β:Type} (B:Bx β) (f:α→β):Bx α where
 sz:=B.sz
 Lo w cs x F:=B.Lo w cs (f x) F
 len h:=B.len h
 lt h:=B.lt h
 frame h hF:=B.frame h hF
theorem Bx.below {α:Type} (E:Bx α) {w w':World} {cs x F} (h:E.Lo w cs x F) (hb:Below w.heap.size w w'):E.Lo w' cs x F :=
 E.frame h fun c hc=>hb.block c (E.lt h c hc)
structure Bbm where
 Eh:ByteArray
 E6:ByteArray
def Bds:Bx Bbm:=(Ace A8 (Ace A8 Akr)).comap fun x=>(x.Eh,x.E6,())
theorem Bds.open {w cs x F} (h:Bds.Lo w cs x F):cs=[.string x.Eh,.string x.E6]∧x.Eh.size≤maxLen∧x.E6.size≤maxLen:=by
 obtain ⟨c1,c2,F1,F2,rfl,rfl,⟨rfl,h1,_⟩,c3,c4,F3,F4,rfl,rfl,⟨rfl,h2,_⟩,rfl,_⟩:=h;exact ⟨rfl,h1,h2⟩
structure Dn (F:List Nat) (w w':World):Prop where
 os:w'.os=w.os
 tape:w'.tape=w.tape
 output:w'.output=w.output
 size:w.heap.size≤w'.heap.size
 block:∀k,k < w.heap.size→k ∉ F→w'.heap[k]?=w.heap[k]?
theorem Dn.refl (F:List Nat) (w:World):Dn F w w:=⟨rfl,rfl,rfl,Nat.le_refl _,fun _ _ _=>rfl⟩
theorem Dn.trans {F:List Nat} {a b c:World} (h:Dn F a b) (k:Dn F b c):Dn F a c :=
 ⟨k.os.trans h.os,k.tape.trans h.tape,k.output.trans h.output,Nat.le_trans h.size k.size,fun i hi hf=>(k.block i (Nat.lt_of_lt_of_le hi h.size) hf).trans (h.block i hi hf)⟩
theorem Dn.mono {F G:List Nat} {a b:World} (h:Dn F a b) (hs:∀x∈F,x < a.heap.size→x∈G):Dn G a b :=
 ⟨h.os,h.tape,h.output,h.size,fun k hk hg=>h.block k hk fun hf=>hg (hs k hf hk)⟩
theorem Dn.ofBelow {F:List Nat} {w w':World} (h:Below w.heap.size w w'):Dn F w w':=⟨h.os,h.tape,h.output,h.size,fun k hk _=>h.block k hk⟩
theorem Dn.below {F:List Nat} {w w':World} {B:Nat} (h:Dn F w w') (hB:B≤w.heap.size) (hF:∀b∈F,B≤b):Below B w w' :=
 ⟨h.os,h.tape,h.output,h.size,fun k hk=>h.block k GJ fun hf=>by have:=hF k hf;omega⟩
theorem Dn.setCell {F:List Nat} {w w':World} (h:Dn F w w') {p:Addr} (hp:p.block∈F) (u:Value):Dn F w (w'.setCell p u) :=
 h.trans ⟨rfl,rfl,rfl,by simp [World.setCell],fun k _ hf=>Below.heap_setCell _ _ _ _ (fun e=>hf (e▸hp))⟩
theorem Dn.alloc {F:List Nat} {w w':World} (h:Dn F w w') (o:Obj):Dn F w (w'.alloc o) :=
 h.trans ⟨rfl,rfl,rfl,GL,fun k hk _=>Below.heap_alloc _ _ _ hk⟩
theorem Dn.drewN {F:List Nat} {w w':World} (h:Dn F w w') (n:Nat):Dn F w (w'.drewN n):=⟨h.os,h.tape,h.output,h.size,h.block⟩
theorem Dn.cell {F:List Nat} {w w':World} (h:Dn F w w') {a:Addr} {v:Value} (ha:a.block ∉ F) (hc:w.cell? a=some v):w'.cell? a=some v :=
 (World.cell?_of_block (w:=w) (h.block a.block (World.block_lt_of_cell? w a hc) ha)).trans hc
theorem Dl {B:Nat} {a w:World} (h:Below B a w) (n:Nat):Below B a (w.drewN n):=⟨h.os,h.tape,h.output,h.size,h.block⟩
def Ha (w:World) (g:Nat) (t:TypeId) (cs:List Value):Prop:=w.heap[g]?=some (.cells cs.toArray t (0,0))
theorem Ha.lt {w g t cs} (h:Ha w g t cs):g < w.heap.size:=by
 rcases Nat.lt_or_ge g w.heap.size with h1|h1
 ·exact h1
 ·rw [Ha,Array.getElem?_eq_none h1] at h;simp at h
theorem Ha.cell {w g t cs} (h:Ha w g t cs) (j:Nat):w.cell? ⟨g,j,none⟩=cs[j]?:=by
 simp [World.cell?,show w.heap[g]?=_ from h]
theorem Ha.frozen {w g t cs} (h:Ha w g t cs) (j:Nat):w.frozen? ⟨g,j,none⟩=false:=by
 simp [World.frozen?,show w.heap[g]?=_ from h]
theorem Ha.H8 {w w' g t cs} (h:Ha w g t cs) (e:w'.heap[g]?=w.heap[g]?):Ha w' g t cs:=e.trans h
theorem Ha.below {w w' g t cs} (h:Ha w g t cs) (hb:Below w.heap.size w w'):Ha w' g t cs:=h.H8 (hb.block g h.lt)
theorem Ha.set {w g t cs} (h:Ha w g t cs) (j:Nat) (u:Value):Ha (w.setCell ⟨g,j,none⟩ u) g t (cs.set j u):=by
 have h':w.heap[g]?=_:=h;simp [Ha,World.setCell,Array.getElem?_modify,h']
theorem Ha.setOther {w g t cs} (h:Ha w g t cs) {p:Addr} (hp:p.block≠g) (u:Value):Ha (w.setCell p u) g t cs :=
 h.H8 (Below.heap_setCell _ _ _ _ (fun e=>hp e.symm))
theorem Ha.cells {w g t cs} (h:Ha w g t cs):∀j,w.cell? ⟨g,j,none⟩=cs[j]?:=h.cell
theorem Ha.frozens {w g t cs} (h:Ha w g t cs):∀j,w.frozen? ⟨g,j,none⟩=false:=h.frozen
theorem Ha.made (w:World) (t:TypeId) (cs:List Value):Ha (w.alloc (.cells cs.toArray t)) w.heap.size t cs:=heap_alloc_new w _
theorem Ha.alloc {w g t cs} (h:Ha w g t cs) (o:Obj):Ha (w.alloc o) g t cs:=h.H8 (Below.heap_alloc _ _ _ h.lt)
theorem Es (w:World) (o:Obj) (g:Nat) (t:TypeId) (cs:List Value):Ha (w.alloc o) g t cs↔if g=w.heap.size then o=.cells cs.toArray t (0,0) else Ha w g t cs:=by
 unfold Ha;show (w.heap.push o)[g]?=_↔_;rw [Array.getElem?_push]
 split <;> simp
def Cw {α:Type} (E:Bx α) (w:World):List Value→List α→List Nat→Prop
 | cs,[],G=>cs=[]∧G=[]
 | cs,x::r,G=>∃c1 c2 F1 F2,cs=c1++c2∧G=F1++F2∧E.Lo w c1 x F1∧Cw E w c2 r F2
section
variable {α:Type} {E:Bx α}
theorem Cw.len {w:World}:∀{xs:List α} {cs:List Value} {G:List Nat},Cw E w cs xs G→cs.length=xs.length * E.sz
 | [],_,_,h=>by simp [h.1]
 | x::r,_,_,h=>by
  obtain ⟨c1,c2,F1,F2,rfl,rfl,h1,h2⟩:=h;rw [List.length_append,E.len h1,h2.len,List.length_cons,Nat.add_mul];omega
theorem Cw.lt {w:World}:∀{xs:List α} {cs:List Value} {G:List Nat},Cw E w cs xs G→∀b∈G,b < w.heap.size
 | [],_,_,h=>by simp [h.2]
 | x::r,_,_,h=>by
  obtain ⟨c1,c2,F1,F2,rfl,rfl,h1,h2⟩:=h;intro b hb;rcases List.mem_append.1 hb with hb|hb
  ·exact E.lt h1 b hb
  ·exact h2.lt b hb
theorem Cw.frame {w w':World}:∀{xs:List α} {cs:List Value} {G:List Nat},Cw E w cs xs G→(∀b∈G,w'.heap[b]?=w.heap[b]?)→Cw E w' cs xs G
 | [],_,_,h,_=>h
 | x::r,_,_,h,hG=>by
  obtain ⟨c1,c2,F1,F2,rfl,rfl,h1,h2⟩:=h;exact ⟨c1,c2,F1,F2,rfl,rfl,E.frame h1 fun b hb=>hG b GT,h2.frame fun b hb=>hG b GT⟩
theorem Cw.append {w:World}:∀{xs ys:List α} {cs ds:List Value} {G H:List Nat},Cw E w cs xs G→Cw E w ds ys H→Cw E w (cs++ds) (xs++ys) (G++H)
 | [],_,_,_,_,_,h,k=>by obtain ⟨rfl,rfl⟩:=h;simpa using k
 | x::r,_,_,_,_,_,h,k=>by
  obtain ⟨c1,c2,F1,F2,rfl,rfl,h1,h2⟩:=h;exact ⟨c1,_,F1,_,by rw [List.append_assoc],by rw [List.append_assoc],h1,h2.append k⟩
theorem Cw.one {w:World} {x:α} {cs:List Value} {G:List Nat} (h:E.Lo w cs x G):Cw E w cs [x] G:=⟨cs,[],G,[],GL,GL,h,rfl,rfl⟩
theorem Cw.split {w:World}:∀{xs ys:List α} {cs:List Value} {G:List Nat},Cw E w cs (xs++ys) G→∃c1 c2 G1 G2,cs=c1++c2∧G=G1++G2∧Cw E w c1 xs G1∧Cw E w c2 ys G2
 | [],_,cs,G,h=>⟨[],cs,[],G,rfl,rfl,⟨rfl,rfl⟩,h⟩
 | x::r,_,_,_,h=>by
  obtain ⟨c1,c2,F1,F2,rfl,rfl,h1,h2⟩:=h;obtain ⟨d1,d2,G1,G2,rfl,rfl,h3,h4⟩:=h2.split;exact ⟨c1++d1,d2,F1++G1,G2,GL,GL,⟨c1,d1,F1,G1,rfl,rfl,h1,h3⟩,h4⟩
theorem Cw.focus {w:World} {xs:List α} {cs:List Value} {G:List Nat} (h:Cw E w cs xs G) (i:Nat) (hi:i < xs.length) :
  ∃A c B G1 Fi G2,cs=A++c++B∧G=G1++Fi++G2∧A.length=i * E.sz∧c.length=E.sz∧Cw E w A (xs.take i) G1∧E.Lo w c xs[i] Fi∧Cw E w B (xs.drop (i+1)) G2:=by
 have e:xs=xs.take i++xs[i]::xs.drop (i+1):=by simp
 rw [e] at h;obtain ⟨A,c2,G1,G2,rfl,rfl,h1,c,B,F1,F2,rfl,rfl,h2,h3⟩:=h.split;exact ⟨A,c,B,G1,F1,F2,GL,GL,by rw [h1.len,List.length_take,Nat.min_eq_left GJ],E.len h2,h1,h2,h3⟩
theorem Cw.build {w:World} {xs:List α} {A c B:List Value} {G1 Fi G2:List Nat} {i:Nat} (hi:i < xs.length) {x:α} (h1:Cw E w A (xs.take i) G1) (h2:E.Lo w c x Fi) (h3:Cw E w B (xs.drop (i+1)) G2) :
  Cw E w (A++c++B) (xs.set i x) (G1++Fi++G2):=by
 have e:xs.set i x=xs.take i++[x]++xs.drop (i+1):=by
  rw [List.set_eq_take_append_cons_drop];simp [hi]
 rw [e];exact (h1.append (Cw.one h2)).append h3
def Ow (E:Bx α) (t:TypeId) (w:World) (v:Value) (xs:List α) (F:List Nat):Prop :=
 (v=.slice none 0 0∧xs=[]∧F=[]) ∨
 ∃g cap cs rest G,v=.slice (some ⟨g,0,none⟩) xs.length cap∧Ha w g t (cs++rest)∧xs.length≤cap∧cap≤maxLen∧cs.length+rest.length=cap * E.sz∧Cw E w cs xs G∧F=g::G
theorem Ow.lt {t:TypeId} {w v} {xs:List α} {F} (h:Ow E t w v xs F):∀b∈F,b < w.heap.size:=by
 rcases h with ⟨_,_,rfl⟩|⟨g,cap,cs,rest,G,_,hr,_,_,_,hf,rfl⟩
 ·simp
 ·intro b hb;rcases List.mem_cons.1 hb with rfl|hb
  ·exact hr.lt
  ·exact hf.lt b hb
theorem Ow.frame {t:TypeId} {w w':World} {v} {xs:List α} {F} (h:Ow E t w v xs F) (hF:∀b∈F,w'.heap[b]?=w.heap[b]?):Ow E t w' v xs F:=by
 rcases h with h|⟨g,cap,cs,rest,G,hv,hr,h1,h2,h3,hf,rfl⟩
 ·exact .inl h
 ·exact .inr ⟨g,cap,cs,rest,G,hv,hr.H8 (hF g GL),h1,h2,h3,hf.frame fun b hb=>hF b GT,rfl⟩
theorem Ow.below {t:TypeId} {w w':World} {v} {xs:List α} {F} (h:Ow E t w v xs F) (hb:Below w.heap.size w w'):Ow E t w' v xs F :=
 h.frame fun b h'=>hb.block b (h.lt b h')
theorem Ow.H8 {t:TypeId} {w w':World} {v} {xs:List α} {F K} (h:Ow E t w v xs F) (hk:Dn K w w') (hd:∀b∈F,b ∉ K):Ow E t w' v xs F :=
 h.frame fun b h'=>hk.block b (h.lt b h') (hd b h')
theorem Ow.setFar {t:TypeId} {w:World} {v} {xs:List α} {F} (h:Ow E t w v xs F) {p:Addr} (hp:p.block ∉ F) (u:Value):Ow E t (w.setCell p u) v xs F :=
 h.frame fun b hb=>Below.heap_setCell _ _ _ _ fun e=>hp (e▸hb)
theorem Ow.len {t:TypeId} {w v} {xs:List α} {F} (h:Ow E t w v xs F):xs.length≤maxLen:=by
 rcases h with ⟨_,rfl,_⟩|⟨g,cap,cs,rest,G,_,_,h1,h2,_⟩
 ·simp
 ·omega
theorem Ow.slice {t:TypeId} {w v} {xs:List α} {F} (h:Ow E t w v xs F):∃a cap,v=.slice a xs.length cap:=by
 rcases h with ⟨rfl,rfl,_⟩|⟨g,cap,cs,rest,G,rfl,_⟩
 ·exact ⟨none,0,rfl⟩
 ·exact ⟨_,_,rfl⟩
theorem Ow.focus {t:TypeId} {w v} {xs:List α} {F} (h:Ow E t w v xs F) (i:Nat) (hi:i < xs.length) :
  ∃g cap A c B G1 Fi G2,v=.slice (some ⟨g,0,none⟩) xs.length cap∧Ha w g t (A++c++B)∧A.length=i * E.sz∧c.length=E.sz∧E.Lo w c xs[i] Fi∧F=g::(G1++Fi++G2) ∧
   (∀b∈G1++G2,b < w.heap.size) ∧
   ∀w' c' x' Fi',Ha w' g t (A++c'++B)→E.Lo w' c' x' Fi'→(∀b∈G1++G2,w'.heap[b]?=w.heap[b]?)→Ow E t w' v (xs.set i x') (g::(G1++Fi'++G2)):=by
 rcases h with ⟨_,rfl,_⟩|⟨g,cap,cs,rest,G,rfl,hr,h1,h2,h3,hf,rfl⟩
 ·simp at hi
 ·obtain ⟨A,c,B,G1,Fi,G2,rfl,rfl,hA,hc,hfA,hx,hfB⟩:=hf.focus i hi;refine ⟨g,cap,A,c,B++rest,G1,Fi,G2,rfl,HY,hA,hc,hx,rfl,?_,?_⟩
  ·intro b hb;rcases List.mem_append.1 hb with hb|hb
   ·exact hfA.lt b hb
   ·exact hfB.lt b hb
  ·intro w' c' x' Fi' hr' hx' hG;refine .inr ⟨g,cap,A++c'++B,rest,G1++Fi'++G2,GL,by simpa using hr',JM,h2,?_,?_,rfl⟩
   ·have:=E.len hx';simp only [List.length_append] at h3 ⊢;omega
   ·exact Cw.build hi (hfA.frame fun b hb=>hG b GT) hx' (hfB.frame fun b hb=>hG b GT)
structure Kv {α:Type} (O R:Bx α):Prop where
 sz:O.sz=R.sz
 Lo:∀{w cs x F},O.Lo w cs x F→∃F',(∀b∈F',b∈F)∧R.Lo w cs x F'
theorem Kv.refl {α:Type} (E:Bx α):Kv E E:=⟨rfl,fun h=>⟨_,fun _ h=>h,h⟩⟩
theorem Ow.sl {O R:Bx α} (hW:Kv O R) {t:TypeId} {w v} {xs:List α} {F} (h:Ow O t w v xs F):∃F',(∀b∈F',b∈F)∧Sl R w v xs F':=by
 have key:∀(xs:List α) (cs:List Value) (G:List Nat) (g off:Nat),Cw O w cs xs G→(∀j,j < cs.length→w.cell? ⟨g,off+j,none⟩=cs[j]?)→∃G',(∀b∈G',b∈G)∧N4 R w g off xs G':=by
  intro xs
  induction xs with
  | nil=>intro cs G g off h _;exact ⟨[],GL,rfl⟩
  | cons x r ih =>
   intro cs G g off h hc;obtain ⟨c1,c2,F1,F2,rfl,rfl,h1,h2⟩:=h;have hl:=O.len h1;have hs:=hW.sz;obtain ⟨F1',hs1,hr1⟩:=hW.Lo h1;obtain ⟨F2',hs2,hr2⟩:=ih c2 F2 g (off+R.sz) h2 fun j hj=>by
    have:=hc (c1.length+j) GU;rw [List.getElem?_append_right GJ,show c1.length+j - c1.length=j by omega] at this;rw [←this,show off+R.sz+j=off+(c1.length+j) by omega]
   refine ⟨F1'++F2',fun b hb=>?_,c1,F1',F2',rfl,hr1,fun j hj=>?_,hr2⟩
   ·rcases List.mem_append.1 hb with hb|hb
    ·simp [hs1 b hb]
    ·simp [hs2 b hb]
   ·rw [hc j GU,List.getElem?_append_left GJ]
 have hl:=h.len;rcases h with ⟨rfl,rfl,rfl⟩|⟨g,cap,cs,rest,G,rfl,hrow,h1,h2,h3,hf,rfl⟩
 ·exact ⟨[],GL,none,0,rfl,GL,.inl ⟨rfl,rfl,fun _=>rfl⟩⟩
 ·by_cases h0:xs=[]
  ·subst h0;exact ⟨[],GL,some ⟨g,0,none⟩,cap,rfl,⟨GL,h2⟩,.inl ⟨rfl,rfl,fun e=>by cases e⟩⟩
  ·obtain ⟨G',hG,hc⟩:=key xs cs G g 0 hf fun j hj=>by rw [Nat.zero_add,hrow.cell,List.getElem?_append_left hj]
   exact ⟨g::G',fun b hb=>by rcases List.mem_cons.1 hb with rfl|hb;simp;simp [hG b hb],_,cap,rfl,⟨h1,h2⟩,.inr ⟨g,0,G',rfl,h0,rfl,hc⟩⟩
theorem Ow.read {t:TypeId} {w v} {xs:List α} {F} (h:Ow E t w v xs F):∃F',(∀b∈F',b∈F)∧Sl E w v xs F':=by
 exact h.sl (Kv.refl E)
end
theorem Kv.slice {α:Type} {O R:Bx α} (h:Kv O R) (hz:0 < R.sz) (t:TypeId) {w v} {xs:List α} {F} (ho:Ow O t w v xs F):∃F',(∀b∈F',b∈F)∧(Nn R hz).Lo w [v] xs F':=by
 obtain ⟨F',h1,h2⟩:=ho.sl h;exact ⟨F',h1,v,rfl,h2⟩
def Fv {α:Type} (E:Bx α) (t:TypeId):Bx (List α) where
 sz:=1
 Lo w cs xs F:=∃v,cs=[v]∧Ow E t w v xs F
 len h:=by obtain ⟨v,rfl,_⟩:=h;rfl
 lt h:=by obtain ⟨v,rfl,h⟩:=h;exact h.lt
 frame h hF:=by obtain ⟨v,rfl,h⟩:=h;exact ⟨v,rfl,h.frame hF⟩
theorem Bad (A c B:List Value) (j:Nat) (hj:j < c.length) (u:Value):(A++c++B).set (A.length+j) u=A++c.set j u++B:=by
 rw [List.append_assoc,List.set_append_right _ _ GJ,show A.length+j - A.length=j by omega,List.set_append_left _ _ hj,List.append_assoc]
theorem Ha.setMid {w g t} {A c B:List Value} (h:Ha w g t (A++c++B)) {p j:Nat} (hp:p=A.length+j) (hj:j < c.length) (u:Value):Ha (w.setCell ⟨g,p,none⟩ u) g t (A++c.set j u++B):=by
 subst hp;rw [←Bad _ _ _ _ hj];exact h.set _ u
theorem Ha.cellMid {w g t} {A c B:List Value} (h:Ha w g t (A++c++B)) {p j:Nat} (hp:p=A.length+j) (hj:j < c.length):w.cell? ⟨g,p,none⟩=c[j]?:=by
 subst hp;rw [h.cell,List.append_assoc,List.getElem?_append_right GJ,show A.length+j - A.length=j by omega,List.getElem?_append_left hj]
def Ni (w:World) (g:Nat):Nat→List Value→World
 | _,[]=>w
 | p,u::r=>Ni (w.setCell ⟨g,p,none⟩ u) g (p+1) r
theorem Ha.put {g t}:∀(c' c:List Value) {w:World} {A B:List Value} {p:Nat},Ha w g t (A++c++B)→p=A.length→c'.length=c.length→Ha (Ni w g p c') g t (A++c'++B)
 | [],[],_,_,_,_,h,_,_=>h
 | u::r,d::c,w,A,B,p,h,hp,hl=>by
  have h1:=h.setMid (p:=p) (j:=0) GJ GL u;simp only [List.set_cons_zero] at h1;have h2:=Ha.put r c (w:=w.setCell ⟨g,p,none⟩ u) (A:=A++[u]) (B:=B) (p:=p+1) JM GU IH;simpa [Ni] using h2
 | [],_::_,_,_,_,_,_,_,hl=>by simp at hl
 | _::_,[],_,_,_,_,_,_,hl=>by simp at hl
theorem Nj {g:Nat}:∀(c:List Value) (w:World) (p:Nat) (b:Nat),b≠g→(Ni w g p c).heap[b]?=w.heap[b]?
 | [],_,_,_,_=>rfl
 | _::r,_,_,b,hb=>(Nj r _ _ b hb).trans (Below.heap_setCell _ _ _ _ hb)
theorem Ln {g:Nat}:∀(c:List Value) (w:World) (p:Nat),Dn [g] w (Ni w g p c)
 | [],w,_=>Dn.refl _ w
 | u::r,w,p=>((Dn.refl [g] w).setCell (p:=⟨g,p,none⟩) GL u).trans (Ln r _ _)
theorem Ow.put {α:Type} {E:Bx α} {t:TypeId} {w:World} {g n cap:Nat} {xs:List α} {F:List Nat} (h:Ow E t w (.slice (some ⟨g,0,none⟩) n cap) xs F) (hn:F.Nodup) (i:Nat) (hi:i < xs.length) :
  g∈F∧(∀j,j < E.sz→(∃u,w.cell? ⟨g,i * E.sz+j,none⟩=some u)∧w.frozen? ⟨g,i * E.sz+j,none⟩=false) ∧
  ∀c' x' F',E.Lo w c' x' F'→F'.Nodup→(∀b∈F',b ∉ F)→∃F2,Ow E t (Ni w g (i * E.sz) c') (.slice (some ⟨g,0,none⟩) n cap) (xs.set i x') F2∧F2.Nodup∧∀b∈F2,b∈F∨b∈F':=by
 obtain ⟨g',cp,A,c,B,G1,Fi,G2,hv,hrow,hA,hcl,hx,rfl,hlt,back⟩:=h.focus i hi;simp only [Value.slice.injEq,Option.some.injEq,Addr.mk.injEq] at hv;obtain ⟨⟨rfl,_⟩,rfl,rfl⟩:=hv;have hnd:g ∉ G1++G2:=fun hm=>by simp at hn hm;rcases hm with hm|hm <;> simp [hm] at hn
 refine ⟨GL,fun j hj=>⟨⟨c[j]'GJ,by rw [hrow.cellMid (j:=j) GJ GJ,List.getElem?_eq_getElem]⟩,hrow.frozen _⟩,fun c' x' F' hx' hn' hd=>⟨g::(G1++F'++G2),?_,?_,?_⟩⟩
 ·have hl:=E.len hx';have hg:g ∉ F':=fun e=>hd g e GL;exact back _ c' x' F' (hrow.put c' c GJ GJ) (E.frame hx' fun b hb=>Nj _ _ _ _ fun e=>hg (e▸hb)) fun b hb=>Nj _ _ _ _ fun e=>hnd (e▸hb)
 ·have hd1:∀b∈F',b≠g∧b ∉ G1∧b ∉ G2:=fun b hb=>by have:=hd b hb;simp at this;exact ⟨this.1,this.2.1,this.2.2.2⟩
  simp only [List.nodup_cons,List.nodup_append,List.mem_append,not_or] at hn ⊢;obtain ⟨⟨⟨h1,h2⟩,h3⟩,⟨h4,h5,h6⟩,h7,h8⟩:=hn;refine ⟨⟨⟨h1,fun e=>(hd1 g e).1 rfl⟩,h3⟩,⟨h4,hn',fun a ha b hb e=>(hd1 b hb).2.1 (e▸ha)⟩,h7,fun a ha b hb=>?_⟩;rcases ha with ha|ha
  ·exact h8 a (.inl ha) b hb
  ·exact fun e=>(hd1 a ha).2.2 (e▸hb)
 ·intro b hb;simp at hb ⊢;rcases hb with hb|hb|hb|hb <;> simp [hb]
theorem Ow.head {α:Type} {E:Bx α} {t:TypeId} {w:World} {a:Option Addr} {n cap:Nat} {xs:List α} {F:List Nat} (h:Ow E t w (.slice a n cap) xs F) (i:Nat) (hi:i < xs.length):∃g,a=some ⟨g,0,none⟩:=by
 obtain ⟨g,cp,A,c,B,G1,Fi,G2,hv, -⟩:=h.focus i hi;simp only [Value.slice.injEq] at hv;exact ⟨g,hv.1⟩
theorem Nh (z:Array Value) (n:Nat):(madeCells z (n * z.size)).toList=(List.replicate n z.toList).flatten:=by
 apply List.ext_getElem?;intro p;by_cases hz:z.size=0
 ·have:z = #[]:=Array.eq_empty_of_size_eq_zero hz;subst this;simp [madeCells]
 ·have hlen:∀m,((List.replicate m z.toList).flatten).length=m * z.size:=fun m=>by simp
  by_cases hp:p < n * z.size
  ·have h1:(madeCells z (n * z.size)).toList[p]?=some z[p % z.size]!:=by simp [madeCells,hp]
   rw [h1];have hq:p / z.size < n:=Nat.div_lt_of_lt_mul (by rwa [Nat.mul_comm]);have e:List.replicate n z.toList=List.replicate (p / z.size) z.toList++z.toList::List.replicate (n - p / z.size - 1) z.toList:=by
    rw [←List.replicate_succ,List.replicate_append_replicate];congr 1;omega
   have hd:=Nat.div_add_mod p z.size;have hm:=Nat.mod_lt p (Nat.pos_of_ne_zero hz);rw [Nat.mul_comm] at hd;rw [e,List.flatten_append,List.flatten_cons,List.getElem?_append_right (by rw [hlen];omega),hlen,show p - p / z.size * z.size=p % z.size by omega,List.getElem?_append_left KG];simp [hm]
  ·rw [List.getElem?_eq_none (by simp [madeCells];omega),List.getElem?_eq_none (by rw [hlen];omega)]
theorem Ow.made {α:Type} {E:Bx α} {t:TypeId} (w:World) (z:Array Value) (n:Nat) (x:α) (hsz:z.size=E.sz) (hz:∀w,E.Lo w z.toList x []) (hn:n≤maxLen) :
  Ow E t (w.alloc (.cells (madeCells z (n * E.sz)) t)) (.slice (some ⟨w.heap.size,0,none⟩) n n) (List.replicate n x) [w.heap.size]:=by
 have hf:∀(w:World) (m:Nat),Cw E w (List.replicate m z.toList).flatten (List.replicate m x) []:=by
  intro w m
  induction m with
  | zero=>exact ⟨rfl,rfl⟩
  | succ m ih=>exact ⟨z.toList,_,[],[],by rw [List.replicate_succ,List.flatten_cons],rfl,hz w,ih⟩
 refine .inr ⟨w.heap.size,n,(madeCells z (n * E.sz)).toList,[],[],GL,?_,GL,hn,?_,?_,rfl⟩
 ·simp only [List.append_nil,Ha];exact heap_alloc_new w _
 ·rw [←hsz,Nh];simp
 ·rw [←hsz,Nh];exact hf _ _
theorem Aj7 {α:Type} (xs:List α) (z:α) (k n:Nat) (hn:n=xs.length) (hk:k < n) (x:α) (hx:xs[k]?=some x) :
  (xs.take k++List.replicate (n - k) z).set k x=xs.take (k+1)++List.replicate (n - (k+1)) z:=by
 have hl:(xs.take k).length=k:=by simp;omega
 rw [List.set_append_right _ _ GJ,hl,Nat.sub_self,show n - k=(n - (k+1))+1 by omega,List.replicate_succ,List.set_cons_zero,List.take_add_one,hx];simp
theorem Pj {α:Type} {O R:Bx α} (h:Kv O R) (hz:0 < R.sz) (t:TypeId):Kv (Fv O t) (Nn R hz):=⟨rfl,fun hh=>by
 obtain ⟨v,rfl,ho⟩:=hh;exact h.slice hz t ho⟩
theorem Sl.at {α:Type} {E:Bx α} {w:World} {a:Option Addr} {n cap:Nat} {xs:List α} {F} (h:Sl E w (.slice a n cap) xs F) (k:Nat) (hk:k < xs.length) :
  ∃b off cs F1,a=some ⟨b,off,none⟩∧E.Lo w cs xs[k] F1∧(∀c∈F1,c∈F)∧∀j,j < E.sz→w.cell? ⟨b,off+k * E.sz+j,none⟩=cs[j]?:=by
 obtain ⟨a',cap',hv,hl,h⟩:=h;cases hv;rcases h with ⟨rfl,_⟩|⟨b,off,F',rfl,_,rfl,hc⟩
 ·simp at hk
 ·obtain ⟨cs,F1,h1,hj,hm⟩:=hc.get k hk;exact ⟨b,off,cs,F1,rfl,h1,fun c hc=>by simp [hm c hc],hj⟩
theorem Sl.slice {α:Type} {E:Bx α} {w v} {xs:List α} {F} (h:Sl E w v xs F):∃a cap,v=.slice a xs.length cap:=by
 obtain ⟨a,cap,h,_⟩:=h;exact ⟨a,cap,h⟩
theorem Sl.len {α:Type} {E:Bx α} {w v} {xs:List α} {F} (h:Sl E w v xs F):xs.length≤maxLen:=by
 obtain ⟨a,cap,_,h,_⟩:=h;omega
theorem Sl.caps {α:Type} {E:Bx α} {w} {a:Option Addr} {n cap:Nat} {xs:List α} {F} (h:Sl E w (.slice a n cap) xs F):n=xs.length∧n≤cap∧cap≤maxLen:=by
 obtain ⟨a',cap',hv,h,_⟩:=h;cases hv;exact ⟨rfl,h⟩
def N0 {α:Type} (E:Bx α) (w:World) (v:Value) (x:α) (F:List Nat):Prop:=∃cs:List Value,v=.agg cs.toArray∧E.Lo w cs x F
theorem N0.below {α:Type} {E:Bx α} {w w':World} {v x F} (h:N0 E w v x F) (hb:Below w.heap.size w w'):N0 E w' v x F:=by
 obtain ⟨cs,hv,h⟩:=h;exact ⟨cs,hv,E.below h hb⟩
def Anm {α:Type} (E:Bx α) (x:α) (w:World) (e:Ending) (w':World):Prop :=
 ∃v F,e=.returned v∧N0 E w' v x F∧F.Nodup∧(∀b∈F,w.heap.size≤b)∧Below w.heap.size w w'
def Ul {α:Type} (E:Bx α) (t:TypeId) (xs:List α) (w:World) (e:Ending) (w':World):Prop :=
 ∃v F,e=.returned v∧Ow E t w' v xs F∧F.Nodup∧(∀b∈F,w.heap.size≤b)∧Below w.heap.size w w'
theorem Ha.keepK {w w' g t cs F} (h:Ha w g t cs) (hk:Dn F w w') (hg:g ∉ F):Ha w' g t cs:=h.H8 (hk.block g h.lt hg)
structure Xv (P:Program) (f:FuncId):Prop where
 ok:∃fn,P.funcs[f]?=some fn∧(fn.name == "runtime.NumGoroutine")=false∧fn.body.isNone=false
theorem Xv.mk' {P:Program} {f:FuncId} {fn:Func} (h:P.funcs[f]?=some fn) (h1:(fn.name == "runtime.NumGoroutine")=false) (h2:fn.body.isNone=false):Xv P f:=⟨fn,h,h1,h2⟩
theorem Xv.run {P:Program} {f:FuncId} (h:Xv P f) (args:Array Value) (w:World):(callFunc f args).run P w=.ok (.enter f args) w:=by
 obtain ⟨fn,h0,h1,h2⟩:=h.ok;have h1':¬fn.name = "runtime.NumGoroutine" := by simpa using h1
 have h2':¬fn.body=none:=fun e=>by rw [e] at h2;simp at h2
 simp [callFunc,program,Sem.run,h0,h1',h2',bind,Sem.bind,pure]
theorem Xv.upon {P:Program} {f:FuncId} (h:Xv P f) {o:Oper} {a:Act} {K:Act→World→Prop} {Q:Exit→Act→World→Prop} {args:Array Value} {w:World} {R:Ending→World→Prop}
  (hc:Calls P f args w R) (hr:∀e w',R e w'→∃v,e=.returned v∧K (a.put o.dst v) w'):Oper.upon P o a K Q ((callFunc f args).run P w):=by
 rw [h.run,Oper.upon_enter];exact hc.mono fun e w' hR=>by obtain ⟨v,rfl,hk⟩:=hr e w' hR;exact hk
def IsC {α:Type} (E:Bx α) (w:World) (v:Value) (x:α) (F:List Nat):Prop:=∃u,v=u∧E.Lo w [u] x F
def Qy {α:Type} (p:α→Bool) (xs:List α):Int:=if xs.any p then (xs.findIdx p:Int) else -1
theorem N6 {α:Type} {p:α→Bool} {xs:List α} {k:Nat} (hk:k < xs.length) (h0:∀j,j < k→∀hj:j < xs.length,p xs[j]=false) (h1:p xs[k]=true):Qy p xs=k:=by
 have h:xs.findIdx p=k:=by
  rw [List.findIdx_eq hk];exact ⟨h1,fun j hj=>h0 j hj GJ⟩
 have ha:xs.any p=true:=List.any_eq_true.2 ⟨xs[k],List.getElem_mem _,h1⟩;unfold Qy;rw [if_pos ha,h]
theorem Mt {α:Type} {p:α→Bool} {xs:List α} (h0:∀j,∀hj:j < xs.length,p xs[j]=false):Qy p xs=-1:=by
 unfold Qy;rw [if_neg];intro ha;obtain ⟨x,hx,hp⟩:=List.any_eq_true.1 ha;obtain ⟨i,hi,rfl⟩:=List.getElem_of_mem hx;rw [h0 i hi] at hp;simp at hp
theorem Rz {α:Type} (p:α→Bool) (xs:List α):decide (0≤Qy p xs)=xs.any p:=by
 unfold Qy;cases h:xs.any p <;> simp
def O3 (p:Nat→Bool) (n:Nat):Bool:=(List.range n).all p
theorem Kw {p:Nat→Bool} {n:Nat} (h:∀i,i < n→p i=true):O3 p n=true:=by simp [O3];exact h
theorem Mf {p:Nat→Bool} {n k:Nat} (hk:k < n) (h:p k=false):O3 p n=false:=by
 rw [Bool.eq_false_iff];intro ha;simp [O3] at ha;rw [ha k hk] at h;simp at h
theorem I4 {p:Nat→Bool} {n:Nat} (h:O3 p n=true) (i:Nat) (hi:i < n):p i=true:=by simp [O3] at h;exact h i hi
theorem Ru {p:Nat→Bool} {k:Nat} (h:∀i,i < k→p i=true) (hk:p k=true):∀i,i < k+1→p i=true:=fun i hi=>by
 rcases Nat.lt_or_eq_of_le (Nat.le_of_lt_succ hi) with h'|rfl
 ·exact h i h'
 ·exact hk
theorem Ws {P:Program} {f:FuncId} {args:Array Value} {w:World} {n:Nat} {v:Value}
  (h:Calls P f args (w.drewN n) fun e w'=>e=.returned v∧w.drewN n=w'):Calls P f args (w.drewN n) fun e w''=>e=.returned v∧∃m,w''=w.drewN m :=
 h.mono fun _ _ ⟨he,hm⟩=>⟨he,n,hm.symm⟩
def szr (n:Int) (k:Nat):Int:=if (k:Int)≤n then n - k else -1
theorem Ao8 (n:Int) (k:Nat):(szr n k=-1∧n < k)∨(szr n k=n - k∧(k:Int)≤n):=by unfold szr;split <;> omega
theorem Bcw {n:Int} {k:Nat} (h:n < k):szr n k=-1:=by unfold szr;split <;> omega
theorem Bai {n:Int} {k:Nat} (h:(k:Int)≤n):szr n k=n - k:=by unfold szr;split <;> omega
def wtL {α:Type} (f:α→Nat) (xs:List α):Nat:=xs.length+(xs.map f).sum
theorem Anf {α:Type} (xs:List α):wtL (fun _=>0) xs=xs.length:=by
 have:∀ys:List α,(ys.map fun _=>0).sum=0:=fun ys=>by induction ys <;> simp_all
 unfold wtL;rw [this];rfl
def Bbu (_x:Int):Nat:=1
def Ayz {α:Type} (cnt:α→Nat) (xs:List α):Nat:=(xs.map cnt).sum
theorem Apw {α:Type} (cnt wt:α→Nat) (C:Nat) (h:∀x,cnt x≤C * (1+wt x)):∀xs:List α,Ayz cnt xs≤C * wtL wt xs
 | []=>by simp [Ayz,wtL]
 | x::r=>by
  have:=h x;have:=Apw cnt wt C h r;simp only [Ayz,wtL,List.map_cons,List.sum_cons,List.length_cons,Nat.mul_add,Nat.mul_one] at *;omega
def One {α:Type} (E:Bx α):Prop:=∀{w cs x F},E.Lo w cs x F→∀u∈cs,u.oneCell'=true
theorem C5:One Bc:=fun h u hu=>by obtain ⟨rfl,_⟩:=h;simp at hu;subst hu;rfl
theorem Dp:One A8:=fun h u hu=>by obtain ⟨rfl,_⟩:=h;simp at hu;subst hu;rfl
theorem Sl.one {α:Type} {E:Bx α} {w v} {xs:List α} {F} (h:Sl E w v xs F):v.oneCell'=true:=by obtain ⟨a,c,rfl,_⟩:=h;rfl
theorem Ow.one {α:Type} {E:Bx α} {t w v} {xs:List α} {F} (h:Ow E t w v xs F):v.oneCell'=true:=by obtain ⟨a,c,rfl⟩:=h.slice;rfl
theorem Cw.one' {α:Type} {E:Bx α} (hE:One E) {w:World}:∀{xs:List α} {cs:List Value} {G:List Nat},Cw E w cs xs G→∀u∈cs,u.oneCell'=true
 | [],_,_,h=>by simp [h.1]
 | x::r,_,_,h=>by
  obtain ⟨c1,c2,F1,F2,rfl,rfl,h1,h2⟩:=h;intro u hu;rcases List.mem_append.1 hu with hu|hu
  ·exact hE h1 u hu
  ·exact h2.one' hE u hu
theorem N4.flat {α:Type} {E:Bx α} {w:World} {b:Nat}:∀{xs:List α} {off:Nat} {F:List Nat},N4 E w b off xs F→∃cs,Cw E w cs xs F∧∀j u,cs[j]?=some u→w.cell? ⟨b,off+j,none⟩=some u
 | [],off,_,h=>⟨[],⟨rfl,h⟩,fun j u hu=>by simp at hu⟩
 | x::r,off,_,h=>by
  obtain ⟨c1,F1,F2,rfl,h1,hc,h2⟩:=h;obtain ⟨c2,hf,hc2⟩:=h2.flat;have hl:=E.len h1;refine ⟨c1++c2,⟨c1,c2,F1,F2,rfl,rfl,h1,hf⟩,fun j u hu=>?_⟩;rcases Nat.lt_or_ge j c1.length with hj|hj
  ·rw [List.getElem?_append_left hj] at hu;rw [hc j GJ];exact hu
  ·rw [List.getElem?_append_right hj] at hu;have:=hc2 _ _ hu;rw [←this];congr 2;omega
theorem Cw.cells {α:Type} {E:Bx α} {w:World} {b:Nat}:∀{xs:List α} {cs:List Value} {off:Nat} {F:List Nat},Cw E w cs xs F→(∀j u,cs[j]?=some u→w.cell? ⟨b,off+j,none⟩=some u)→N4 E w b off xs F
 | [],_,off,_,h,_=>h.2
 | x::r,_,off,_,h,hc=>by
  obtain ⟨c1,c2,F1,F2,rfl,rfl,h1,h2⟩:=h;have hl:=E.len h1;refine ⟨c1,F1,F2,rfl,h1,fun j hj=>?_,h2.cells fun j u hu=>?_⟩
  ·have:j < c1.length:=by omega
   rw [List.getElem?_eq_getElem this];exact hc j _ (by rw [List.getElem?_append_left this,List.getElem?_eq_getElem this])
  ·have:=hc (c1.length+j) u JA;rw [←this];congr 2;omega
def Hd (F:List Nat):Prop:=∀g G,F=g::G→g ∉ G
theorem Hd.of {F:List Nat} (h:F.Nodup):Hd F:=fun g G e=>by subst e;simp at h;exact h.1
theorem Ow.owns {α:Type} {E:Bx α} {t w v} {xs:List α} {F} (h:Ow E t w v xs F):∃cs G,w.ownsRow 0 t E.sz v xs.length cs∧Cw E w cs xs G∧F=v.ownBlock.toList++G:=by
 rcases h with ⟨rfl,rfl,rfl⟩|⟨g,cap,cs,rest,G,rfl,hr,h1,h2,h3,hf,rfl⟩
 ·exact ⟨[],[],⟨GL,.inl ⟨rfl,rfl⟩⟩,⟨rfl,rfl⟩,rfl⟩
 ·refine ⟨cs,G,⟨hf.len,.inr ⟨g,cap,(cs++rest).toArray,rfl,Nat.zero_le _,hr,h1,h2,by simp [h3],?_⟩⟩,hf,rfl⟩;rw [←hf.len];simp
theorem Ow.ofOwns {α:Type} {E:Bx α} {t w v n} {cs:List Value} {xs:List α} {G} (h:w.ownsRow 0 t E.sz v n cs) (hf:Cw E w cs xs G) (hn:n=xs.length):Ow E t w v xs (v.ownBlock.toList++G):=by
 subst hn;obtain ⟨hl,h⟩:=h;rcases h with ⟨rfl,h0⟩|⟨g,cap,cur,rfl,_,hg,h1,h2,h3,h4⟩
 ·have:xs=[]:=List.eq_nil_of_length_eq_zero h0;subst this;exact .inl ⟨rfl,rfl,by rw [hf.2];rfl⟩
 ·refine .inr ⟨g,cap,cs,cur.toList.drop cs.length,G,rfl,?_,h1,h2,?_,hf,rfl⟩
  ·have:cs++cur.toList.drop cs.length=cur.toList:=by
    rw [hl,←h4];simp
   rw [this];exact hg
  ·rw [←h3];simp;rw [hl];have:=Nat.mul_le_mul_right E.sz h1;omega
theorem Amd {w:World} {t v n sz} {cs:List Value} (h:w.ownsRow 0 t sz v n cs):∀b,v.ownBlock=some b→b < w.heap.size:=by
 intro b hb;rcases h.2 with ⟨rfl,_⟩|⟨g,cap,cur,rfl,_,hg,_⟩
 ·cases hb
 ·cases hb;rcases Nat.lt_or_ge g w.heap.size with hlt|hge
  ·exact hlt
  ·rw [Array.getElem?_eq_none hge] at hg;cases hg
section
variable {P:Program} {α:Type} {E:Bx α}
structure Apd (E:Bx α) (e:TypeId) (w:World) (v:Value) (xs ys:List α) (F Fy:List Nat) (v':Value) (w':World) (F':List Nat):Prop where
 ow:Ow E e w' v' (xs++ys) F'
 hd:Hd F'
 Al7:F.Nodup→Fy.Nodup→(∀b∈Fy,b ∉ F)→F'.Nodup
 mem:∀b∈F',b∈F∨b∈Fy∨b=w.heap.size
 H8:Dn F w w'
 Ap7:Dn v.ownBlock.toList w w'
 val:∃a cap,v'=.slice a (xs.length+ys.length) cap
 Ao1:v'.ownBlock=v.ownBlock∨v'.ownBlock=some w.heap.size
 Be5:∀Gx,F=v.ownBlock.toList++Gx→F'=v'.ownBlock.toList++(Gx++Fy)
theorem Aun {e:TypeId} {w:World} {v:Value} {xs ys:List α} {F Fy:List Nat} {v' w'} {cs news G} (hown:w.ownsRow 0 e E.sz v xs.length cs) (hf:Cw E w cs xs G) (hF:F=v.ownBlock.toList++G) (hd:Hd F)
  (hfy:Cw E w news ys Fy) (hdis:∀b∈Fy,v.ownBlock≠some b) (h':w'.ownsRow 0 e E.sz v' (xs.length+ys.length) (cs++news)) (hg:w.grownBy w' v.ownBlock)
  (hb:v'.ownBlock=v.ownBlock∨v'.ownBlock=some w.heap.size) (hs:∃a cap,v'=.slice a (xs.length+ys.length) cap):∃F',Apd E e w v xs ys F Fy v' w' F':=by
 have hGn:∀b∈G,v.ownBlock≠some b:=fun b hb e=>by
  rw [e] at hF;exact hd b G hF hb
 have hfr:∀b,b < w.heap.size→v.ownBlock≠some b→w'.heap[b]?=w.heap[b]?:=fun b hb hn=>hg.block b hb (fun e=>hn e.symm);have hfl:Cw E w' (cs++news) (xs++ys) (G++Fy):=(hf.frame fun b hb=>hfr b (hf.lt b hb) (hGn b hb)).append (hfy.frame fun b hb=>hfr b (hfy.lt b hb) (hdis b hb));have hvl:=Amd hown;have hhead:∀g,v'.ownBlock=some g→g ∉ G∧g ∉ Fy:=fun g e=>by
  rcases hb with hb|hb
  ·rw [hb] at e;exact ⟨fun hm=>hGn g hm e,fun hm=>hdis g hm e⟩
  ·rw [hb] at e;cases e;exact ⟨fun hm=>Nat.lt_irrefl _ (hf.lt _ hm),fun hm=>Nat.lt_irrefl _ (hfy.lt _ hm)⟩
 refine ⟨v'.ownBlock.toList++(G++Fy),Ow.ofOwns h' hfl GL,?_,?_,?_,?_,⟨hg.os,hg.tape,hg.output,hg.size,fun k hk hm=>hfr k hk fun e=>hm (by rw [e];simp)⟩,hs,hb,fun Gx e=>by rw [hF] at e;rw [List.append_cancel_left e]⟩
 ·intro g G' e;cases hv:v'.ownBlock with
  | none =>
   have hxy:xs++ys=[]:=by
    rcases h'.2 with ⟨rfl,h0⟩|⟨g,cap,cur,rfl,_⟩
    ·exact List.eq_nil_of_length_eq_zero HT
    ·simp [Value.ownBlock] at hv
   rw [hxy] at hfl;rw [hfl.2,hv] at e;simp at e
  | some g2 =>
   rw [hv] at e;simp at e;obtain ⟨rfl,rfl⟩:=e;have:=hhead g2 hv;simp [this]
 ·intro h1 h2 h3;subst hF;have hn:(G++Fy).Nodup:=by
   rw [List.nodup_append] at h1 ⊢;exact ⟨h1.2.1,h2,fun a ha b hb e=>h3 b hb (by rw [←e];simp [ha])⟩
  cases hv:v'.ownBlock with
  | none=>simpa using hn
  | some g2=>have:=hhead g2 hv;simp only [Option.toList_some,List.singleton_append,List.nodup_cons,List.mem_append];exact ⟨by simp [this],hn⟩
 ·intro b hm;simp at hm;rcases hm with hm|hm|hm
  ·rcases hb with hb|hb
   ·rw [hb] at hm;left;rw [hF];simp [hm]
   ·rw [hb] at hm;cases hm;simp
  ·left;rw [hF];simp [hm]
  ·simp [hm]
 ·exact ⟨hg.os,hg.tape,hg.output,hg.size,fun k hk hm=>hfr k hk fun e=>hm (by rw [hF,e];simp)⟩
theorem Apk (hone:One E) (hsz:0 < E.sz) {o:Oper} {a:Act} {K:Act→World→Prop} {Q:Exit→Act→World→Prop} {w:World} (s x:Operand) (t:TypeId)
  (ho:o.op=.call { callee:=.builtin .append,args:=#[s,x],argTypes:=#[t,t] }) (e:TypeId) (z:Value) (bytes:Nat) (ht:P.underlying t=some (.slice e))
  (hinfo:(P.info? e).map (fun i=>(i.zero,i.size,i.bytes))=some (some z,E.sz,bytes)) (hzs:z.cells.size=E.sz)
  (v:Value) (xs:List α) (F:List Nat) (hs:a.eval s=v) (hown:Ow E e w v xs F) (hd:Hd F)
  (ao:Option Addr) (ys:List α) (c:Nat) (hx:a.eval x=.slice ao ys.length c) (news:List Value) (Fy:List Nat) (hfy:Cw E w news ys Fy)
  (hsrc:(ao=none∧c=0∧ys=[])∨∃ad,ao=some ad∧∀j u,news[j]?=some u→w.cell? (ad.add j)=some u)
  (hdis:∀b∈Fy,v.ownBlock≠some b) (h63:xs.length+ys.length≤maxLen) (hbytes:(xs.length+ys.length) * bytes≤140737488355328)
  (h:∀v' w' F',Apd E e w v xs ys F Fy v' w' F'→K (a.put o.dst v') w'):o.wp P a w K Q:=by
 obtain ⟨i,hi,hzz⟩:=Option.map_eq_some_iff.1 hinfo;simp only [Prod.mk.injEq] at hzz;obtain ⟨hz,hsize,hby⟩:=hzz;obtain ⟨cs,G,hrow,hf,hF⟩:=hown.owns;rcases hsrc with ⟨rfl,rfl,rfl⟩|⟨ad,rfl,hnews⟩
 ·have hn0:news=[]:=hfy.1;subst hn0;unfold Oper.wp execOp;simp only [ho,resolve,invoke,builtin,Sem.run_bind,Sem.run_pure,Result.andThen_ok,List.map_toArray,List.map_cons,List.map_nil,hs,hx];have hrun:=run_append_owned_none (P:=P) w 0 t o.type e i E.sz ht hi _ xs.length cs hrow;rw [show ([]:List α).length=0 from rfl,hrun];obtain ⟨F',hA⟩:=Aun (ys:=[]) hrow hf hF hd hfy hdis (by simpa using hrow) (World.grownBy.refl _ _) (.inl rfl) (by obtain ⟨a,c,rfl⟩:=hown.slice;exact ⟨a,c,GL⟩);exact h _ _ _ hA
 ·obtain ⟨v',w',hr,h2,h3,h4,h5⟩:=run_append_own_at (P:=P) w 0 t o.type e i z E.sz bytes ht hi hz hsize hby hzs hsz v xs.length cs hrow ad ys.length c news hfy.len hnews (hfy.one' hone) h63 hbytes (Nat.zero_le _);unfold Oper.wp execOp;simp only [ho,resolve,invoke,builtin,Sem.run_bind,Sem.run_pure,Result.andThen_ok,List.map_toArray,List.map_cons,List.map_nil,hs,hx,hr];have hs2:∃a cap,v'=.slice a (xs.length+ys.length) cap:=by
   rcases h2.2 with ⟨rfl,h0⟩|⟨g,cap,cur,rfl,_⟩
   ·exact ⟨none,0,by rw [h0]⟩
   ·exact ⟨_,_,rfl⟩
  obtain ⟨F',hA⟩:=Aun (ys:=ys) hrow hf hF hd hfy hdis h2 h3 h5 hs2;exact h _ _ _ hA
theorem Mn (hone:One E) (hsz:0 < E.sz) {ops:Array Oper} {rest:List Oper} {o:Oper} {a:Act} {Q:Exit→Act→World→Prop} {w:World} (hgd:o.guard=none) (s x:Operand) (t:TypeId)
  (ho:o.op=.call { callee:=.builtin .append,args:=#[s,x],argTypes:=#[t,t] }) (e:TypeId) (z:Value) (bytes:Nat) (ht:P.underlying t=some (.slice e))
  (hinfo:(P.info? e).map (fun i=>(i.zero,i.size,i.bytes))=some (some z,E.sz,bytes)) (hzs:z.cells.size=E.sz)
  (v:Value) (xs:List α) (F:List Nat) (hs:a.eval s=v) (hown:Ow E e w v xs F) (hd:Hd F)
  (ao:Option Addr) (ys:List α) (c:Nat) (hx:a.eval x=.slice ao ys.length c) (news:List Value) (Fy:List Nat) (hfy:Cw E w news ys Fy)
  (hsrc:(ao=none∧c=0∧ys=[])∨∃ad,ao=some ad∧∀j u,news[j]?=some u→w.cell? (ad.add j)=some u)
  (hdis:∀b∈Fy,v.ownBlock≠some b) (h63:xs.length+ys.length≤maxLen) (hbytes:(xs.length+ys.length) * bytes≤140737488355328)
  (h:∀v' w' F',Apd E e w v xs ys F Fy v' w' F'→wpList P ops Q rest (a.put o.dst v') w'):wpList P ops Q (o::rest) a w :=
 wpList_plain hgd fun _ hK=>Apk hone hsz s x t ho e z bytes ht hinfo hzs v xs F hs hown hd ao ys c hx news Fy hfy hsrc hdis h63 hbytes fun v' w' F' hA=>hK _ _ (h v' w' F' hA)
theorem Amy (hone:One E) (hsz:0 < E.sz) {ops:Array Oper} {o:Oper} {a:Act} {K:Act→World→Prop} {Q:Exit→Act→World→Prop} {Z:Prop} {w:World} (hgd:o.guard=none) (s x:Operand) (t:TypeId)
  (ho:o.op=.call { callee:=.builtin .append,args:=#[s,x],argTypes:=#[t,t] }) (e:TypeId) (z:Value) (bytes:Nat) (ht:P.underlying t=some (.slice e))
  (hinfo:(P.info? e).map (fun i=>(i.zero,i.size,i.bytes))=some (some z,E.sz,bytes)) (hzs:z.cells.size=E.sz)
  (v:Value) (xs:List α) (F:List Nat) (hs:a.eval s=v) (hown:Ow E e w v xs F) (hd:Hd F)
  (ao:Option Addr) (ys:List α) (c:Nat) (hx:a.eval x=.slice ao ys.length c) (news:List Value) (Fy:List Nat) (hfy:Cw E w news ys Fy)
  (hsrc:(ao=none∧c=0∧ys=[])∨∃ad,ao=some ad∧∀j u,news[j]?=some u→w.cell? (ad.add j)=some u)
  (hdis:∀b∈Fy,v.ownBlock≠some b) (h63:xs.length+ys.length≤maxLen) (hbytes:(xs.length+ys.length) * bytes≤140737488355328)
  (h:∀v' w' F',Apd E e w v xs ys F Fy v' w' F'→K (a.put o.dst v') w'):if Region.wanted o (yielded ops a.tmps)=true then Oper.wp P o a w K Q else Z:=by
 have hw:Region.wanted o (yielded ops a.tmps)=true:=by simp [Region.wanted,hgd]
 rw [if_pos hw];exact Apk hone hsz s x t ho e z bytes ht hinfo hzs v xs F hs hown hd ao ys c hx news Fy hfy hsrc hdis h63 hbytes h
end
theorem Ow.own_mem {α:Type} {E:Bx α} {t w v} {xs:List α} {F} (h:Ow E t w v xs F):∀b,v.ownBlock=some b→b∈F:=fun b hb=>by
 obtain ⟨cs,G,_,_,rfl⟩:=h.owns;simp [hb]
def Bdu {α:Type} (E:Bx α) (x:α) (w:World) (e:Ending) (w':World):Prop :=
 ∃v F,e=.returned v∧N0 E w' v x F∧(∀b∈F,w.heap.size≤b)∧Below w.heap.size w w'
theorem N0.weak {α:Type} {O R:Bx α} (h:Kv O R) {w v x F} (ho:N0 O w v x F):∃F',(∀b∈F',b∈F)∧N0 R w v x F':=by
 obtain ⟨cs,hv,hx⟩:=ho;obtain ⟨F',h1,h2⟩:=h.Lo hx;exact ⟨F',h1,cs,hv,h2⟩
theorem Ow.empty {α:Type} {E:Bx α} {t:TypeId} {w:World} {g:Nat} (h:Ha w g t []):Ow E t w (.slice (some ⟨g,0,none⟩) 0 0) ([]:List α) [g] :=
 .inr ⟨g,0,[],[],[],rfl,GW,GL,GL,GL,⟨rfl,rfl⟩,rfl⟩
theorem Hd.one (g:Nat):Hd [g]:=fun a G e=>by cases e;simp
theorem Hd.nil:Hd []:=fun a G e=>by cases e
theorem Sl.src {α:Type} {E:Bx α} {w:World} {v:Value} {xs:List α} {F} (h:Sl E w v xs F):∃ao c news Fy,v=.slice ao xs.length c∧xs.length≤maxLen∧Cw E w news xs Fy∧(∀b∈Fy,b∈F) ∧
  ((ao=none∧c=0∧xs=[])∨∃ad,ao=some ad∧∀j u,news[j]?=some u→w.cell? (ad.add j)=some u):=by
 obtain ⟨a,cap,rfl,hl,⟨rfl,rfl,h0⟩|⟨b,off,F',rfl,hne,rfl,hc⟩⟩:=h
 ·refine ⟨a,cap,[],[],rfl,GL,⟨rfl,rfl⟩,GL,?_⟩;cases a with
  | none=>exact .inl ⟨rfl,h0 rfl,rfl⟩
  | some ad=>exact .inr ⟨ad,rfl,fun j u hu=>by simp at hu⟩
 ·obtain ⟨cs,hf,hcs⟩:=hc.flat;refine ⟨_,cap,cs,F',rfl,GJ,hf,fun b hb=>by simp [hb],.inr ⟨_,rfl,fun j u hu=>?_⟩⟩;rw [←hcs j u hu];unfold Addr.add;split <;> simp_all
theorem Sl.takeS {α:Type} {E:Bx α} {w:World} {a:Option Addr} {n cap:Nat} {xs:List α} {F} (h:Sl E w (.slice a n cap) xs F) (k:Nat) (hk:k≤xs.length):∃F',(∀b∈F',b∈F)∧Sl E w (.slice a k cap) (xs.take k) F':=by
 obtain ⟨a',cap',hv,hl,h⟩:=h;cases hv;have hlen:(xs.take k).length=k:=by simp;omega
 rcases h with ⟨rfl,rfl,h0⟩|⟨b,off,F',rfl,hne,rfl,hc⟩
 ·simp at hk;subst hk;exact ⟨[],GL,a,cap,GL,⟨GL,hl.2⟩,.inl ⟨GL,rfl,h0⟩⟩
 ·by_cases hk0:k=0
  ·subst hk0;exact ⟨[],GL,some ⟨b,off,none⟩,cap,GL,⟨GL,hl.2⟩,.inl ⟨GL,rfl,fun e=>by cases e⟩⟩
  ·obtain ⟨cs,hf,hcs⟩:=hc.flat;have e:xs=xs.take k++xs.drop k:=by simp
   rw [e] at hf;obtain ⟨c1,c2,G1,G2,rfl,rfl,h1,h2⟩:=hf.split;refine ⟨b::G1,by intro x hx;simp at hx ⊢;rcases hx with hx|hx <;> simp [hx],_,cap,by rw [hlen],by rw [hlen];omega,.inr ⟨b,off,G1,rfl,fun e=>by rw [e] at hlen;simp at hlen;omega,rfl,h1.cells fun j u hu=>hcs j u ?_⟩⟩;have hj:j < c1.length:=by
    rcases Nat.lt_or_ge j c1.length with h|h
    ·exact h
    ·rw [List.getElem?_eq_none h] at hu;cases hu
   rw [List.getElem?_append_left hj];exact hu
def Zp {α:Type} (E:Bx α):Prop:=∀{w cs x F},E.Lo w cs x F→F=[]
theorem Ea:Zp Bc:=fun h=>h.2
theorem Hi:Zp A8:=fun h=>h.2.2
theorem Cw.scal {α:Type} {E:Bx α} (hE:Zp E) {w:World}:∀{xs:List α} {cs:List Value} {G:List Nat},Cw E w cs xs G→G=[]
 | [],_,_,h=>h.2
 | x::r,_,_,h=>by
  obtain ⟨c1,c2,F1,F2,rfl,rfl,h1,h2⟩:=h;rw [hE h1,h2.scal hE];rfl
theorem Ow.scal {α:Type} {E:Bx α} (hE:Zp E) {t w v} {xs:List α} {F} (h:Ow E t w v xs F):F=v.ownBlock.toList:=by
 obtain ⟨cs,G,_,hf,rfl⟩:=h.owns;rw [hf.scal hE,List.append_nil]
def Mix {α:Type} (O R:Bx α) (t:TypeId) (B1 B0:Nat) (w:World) (v:Value) (xs:List α) (k:Nat):Prop :=
 (v=.slice none 0 0∧xs=[])∨∃g cap c1 c2 rest F G,v=.slice (some ⟨g,0,none⟩) xs.length cap∧Ha w g t (c1++c2++rest)∧xs.length≤cap∧cap≤maxLen∧c1.length+c2.length+rest.length=cap * O.sz ∧
  Cw O w c1 (xs.take k) F∧Cw R w c2 (xs.drop k) G∧(g::F).Nodup∧(∀b∈g::F,B0≤b)∧∀b∈G,b < B1
section
variable {α:Type} {O R:Bx α} {t:TypeId} {B1 B0:Nat} {w:World} {v:Value} {xs:List α}
theorem Mix.start (hsz:R.sz=O.sz) {F:List Nat} (h:Ow R t w v xs F) (h1:∀b,v.ownBlock=some b→B0≤b) (h2:∀b∈F,v.ownBlock=some b∨b < B1) (hd:Hd F):Mix O R t B1 B0 w v xs 0:=by
 rcases h with ⟨rfl,rfl,_⟩|⟨g,cap,cs,rest,G,rfl,hr,h3,h4,h5,hf,rfl⟩
 ·exact .inl ⟨rfl,rfl⟩
 ·refine .inr ⟨g,cap,[],cs,rest,[],G,rfl,HY,h3,h4,by simpa [←hsz] using h5,⟨rfl,GL⟩,by simpa using hf,GL,by simpa using h1 g rfl,fun b hb=>?_⟩;rcases h2 b GT with e|e
  ·cases e;exact absurd hb (hd g G rfl)
  ·exact e
theorem Mix.done (h:Mix O R t B1 B0 w v xs xs.length):∃F,Ow O t w v xs F∧F.Nodup∧∀b∈F,B0≤b:=by
 rcases h with ⟨rfl,rfl⟩|⟨g,cap,c1,c2,rest,F,G,rfl,hr,h3,h4,h5,hf,hf2,hn,hb,_⟩
 ·exact ⟨[],.inl ⟨rfl,rfl,rfl⟩,GL,GL⟩
 ·have:c2=[]:=by simp at hf2;exact hf2.1
  subst this;exact ⟨g::F,.inr ⟨g,cap,c1,rest,F,rfl,HY,h3,h4,by simpa using h5,by simpa using hf,rfl⟩,hn,hb⟩
theorem Mix.frame {w':World} {k:Nat} (h:Mix O R t B1 B0 w v xs k) (hb:∀b,b < w.heap.size→b < B1∨B0≤b→w'.heap[b]?=w.heap[b]?):Mix O R t B1 B0 w' v xs k:=by
 rcases h with h|⟨g,cap,c1,c2,rest,F,G,hv,hr,h3,h4,h5,hf,hf2,hn,hb1,hb2⟩
 ·exact .inl h
 ·exact .inr ⟨g,cap,c1,c2,rest,F,G,hv,hr.H8 (hb g hr.lt (.inr (hb1 g GL))),h3,h4,h5,hf.frame fun b h=>hb b (hf.lt b h) (.inr (hb1 b JB)),hf2.frame fun b h=>hb b (hf2.lt b h) (.inl (hb2 b h)),hn,hb1,hb2⟩
theorem Mix.setFar {k:Nat} (h:Mix O R t B1 B0 w v xs k) {p:Addr} (h1:B1≤p.block) (h2:p.block < B0) (u:Value):Mix O R t B1 B0 (w.setCell p u) v xs k :=
 h.frame fun b _ hb=>Below.heap_setCell _ _ _ _ GJ
theorem Mix.below {w':World} {k:Nat} (h:Mix O R t B1 B0 w v xs k) (hb:Below w.heap.size w w'):Mix O R t B1 B0 w' v xs k:=h.frame fun b h _=>hb.block b h
theorem Mix.slice {k:Nat} (h:Mix O R t B1 B0 w v xs k):∃a cap,v=.slice a xs.length cap:=by
 rcases h with ⟨rfl,rfl⟩|⟨g,cap,c1,c2,rest,F,G,rfl,_⟩
 ·exact ⟨none,0,rfl⟩
 ·exact ⟨_,_,rfl⟩
theorem Mix.at {k:Nat} (h:Mix O R t B1 B0 w v xs k) (hsz:R.sz=O.sz) (hk:k < xs.length) (hB:B0≤w.heap.size) (h01:B1≤B0) :
  ∃g cap A c B Fk,v=.slice (some ⟨g,0,none⟩) xs.length cap∧B0≤g∧Ha w g t (A++c++B)∧A.length=k * O.sz∧c.length=O.sz∧R.Lo w c xs[k] Fk∧(∀b∈Fk,b < B1) ∧
   ∀w' c' F',Ha w' g t (A++c'++B)→O.Lo w' c' xs[k] F'→F'.Nodup→(∀b∈F',w.heap.size≤b)→(∀b,b < w.heap.size→b≠g→w'.heap[b]?=w.heap[b]?)→Mix O R t B1 B0 w' v xs (k+1):=by
 rcases h with ⟨_,rfl⟩|⟨g,cap,c1,c2,rest,F,G,rfl,hr,h3,h4,h5,hf,hf2,hn,hb1,hb2⟩
 ·simp at hk
 ·rw [List.drop_eq_getElem_cons hk] at hf2;obtain ⟨c,c3,G1,G2,rfl,rfl,h6,h7⟩:=hf2;have hc1:c1.length=k * O.sz:=by rw [hf.len,List.length_take,Nat.min_eq_left GJ]
  have hlc:=R.len h6;refine ⟨g,cap,c1,c,c3++rest,G1,rfl,hb1 g GL,HY,hc1,by rw [←hsz];exact hlc,h6,fun b hb=>hb2 b GT,fun w' c' F' hr' h8 hn' hF' hk'=>?_⟩;have hlc':=O.len h8;have hne:∀b∈F++G2,b < w.heap.size∧b≠g:=fun b hb=>by
   rcases List.mem_append.1 hb with hb|hb
   ·refine ⟨hf.lt b hb,fun e=>?_⟩;subst e;simp at hn;exact hn.1 hb
   ·have:=hb2 b GT;have:=hb1 g GL;exact ⟨GJ,GJ⟩
  refine .inr ⟨g,cap,c1++c',c3,rest,F++F',G2,rfl,by simpa using hr',h3,h4,?_,?_,?_,?_,?_,fun b hb=>hb2 b GT⟩
  ·simp only [List.length_append] at h5 ⊢;omega
  ·rw [List.take_succ_eq_append_getElem hk];exact (hf.frame fun b hb=>hk' b (hne b GT).1 (hne b GT).2).append (Cw.one h8)
  ·exact h7.frame fun b hb=>hk' b (hne b GT).1 (hne b GT).2
  ·have hg:=hr.lt;simp only [List.nodup_cons,List.mem_append,not_or,List.nodup_append] at hn ⊢;exact ⟨⟨hn.1,fun hm=>by have:=hF' g hm;omega⟩,hn.2,hn',fun a ha b hb e=>by have:=hf.lt a ha;have:=hF' b hb;omega⟩
  ·intro b hb;simp at hb;rcases hb with rfl|hb|hb
   ·exact hb1 b GL
   ·exact hb1 b GT
   ·have:=hF' b hb;omega
end
def Eu (lo x hi:Int):Bool:=decide (lo≤x) && decide (x≤hi)
theorem B8 {a b:Bool} (h:a=b):Ending.returned (.bool a)=.returned (.bool b):=by rw [h]
theorem Ai2 (s:ByteArray) (k:Nat) (h:k < s.size):s.data.toList.take (k+1)=s.data.toList.take k++[s[k]]:=by
 rw [List.take_succ_eq_append_getElem GW];rfl
theorem Am1 (s:ByteArray) (k:Nat) (h:¬k < s.size):s.data.toList.take k=s.data.toList:=List.take_of_length_le GU
theorem Adw (s:ByteArray) (k:Nat) (h:k < s.size):s.data.toList.drop k=s[k]::s.data.toList.drop (k+1):=by
 rw [List.drop_eq_getElem_cons GW];rfl
theorem Zu (s:ByteArray) (k:Nat) (h:¬k < s.size):s.data.toList.drop k=[]:=List.drop_of_length_le GU
theorem Am7 {a b:UInt8}:((a.toNat:Int) == (b.toNat:Int))=(a == b):=by
 rw [Bool.eq_iff_iff];simp [←UInt8.toNat_inj];omega
theorem Hk (x lo hi:Int) (w:World) :
  Calls prog 57 #[.int .i64 x,.int .i64 lo,.int .i64 hi] w fun e w'=>e=.returned (.bool (Eu lo x hi))∧w=w':=by
 go_enter func57,ntmps57
 go_wp2
 all_goals go_ret
 all_goals exact ⟨B8 (by simp [Eu, *] <;> omega),rfl⟩
theorem Iq (x lo hi:Int) (w:World) :
  Calls prog 76 #[.int .i64 x,.int .i64 lo,.int .i64 hi] w fun e w'=>e=.returned (.bool (Eu lo x hi))∧w=w':=by
 go_enter func76,ntmps76
 go_wp2
 all_goals go_ret
 all_goals exact ⟨B8 (by simp [Eu, *] <;> omega),rfl⟩
def Jk (c:UInt8) (l:List UInt8):Bool:=l.any (· == c)
theorem Aog (s:ByteArray) (c:UInt8) (w:World) (hs:s.size≤maxLen) :
  Calls prog 43 #[.string s,.int .u8 c.toNat] w fun e w'=>e=.returned (.bool (Jk c s.data.toList))∧w=w':=by
 unfold maxLen at hs
 go_enter func43,ntmps43
 go_wp2
 go_loop [5] (fun i=>∃k:Nat,k≤s.size∧i=.int .i64 k∧Hid (Jk c s.data.toList=Jk c (s.data.toList.drop k))) (fun i=>s.size - (intOf i).toNat)
 case atStart=>exact ⟨0,Nat.zero_le _,rfl,rfl⟩
 case round =>
  obtain ⟨k,hk,rfl,hz⟩:=hrel;by_cases hlt:k < s.size
  ·have hz:=Lib.hid (hz.out.trans (by rw [Adw s k hlt];rfl:_=(s[k] == c || Jk c (s.data.toList.drop (k+1)))));by_cases he:((s[k].toNat:Int) == (c.toNat:Int))=true
   ·go_wp2
    go_ret
    rw [Am7] at he;exact ⟨B8 (by rw [hz.out,he];rfl),rfl⟩
   ·have he:=eq_false_of_ne_true he
    go_wp2
    go_round
    case rel=>rw [Am7] at he;exact ⟨k+1,GJ,HZ,by refine Lib.hid ?_;rw [hz.out,he];rfl⟩
    case measure=>simp [intOf];omega
  ·go_wp2
   go_ret
   exact ⟨B8 (by rw [hz.out,Zu s k hlt];rfl),rfl⟩
def Pf (b:UInt8):Bool:=Eu 32 b.toNat 126 && !(b == 35)
def H9 (l:List UInt8):Bool:=l.all Pf
theorem Ad9 {a:UInt8}:((a.toNat:Int) == 35)=(a == 35):=Am7 (b:=35)
theorem Alm (s:ByteArray) (w:World) (hs:s.size≤maxLen) :
  Calls prog 58 #[.string s] w fun e w'=>e=.returned (.bool (H9 s.data.toList))∧w=w':=by
 unfold maxLen at hs
 go_enter func58,ntmps58
 go_wp2
 go_loop [6] (fun i=>∃k:Nat,k≤s.size∧i=.int .i64 k∧Hid (H9 s.data.toList=H9 (s.data.toList.drop k))) (fun i=>s.size - (intOf i).toNat)
 case atStart=>exact ⟨0,Nat.zero_le _,rfl,rfl⟩
 case round =>
  obtain ⟨k,hk,rfl,hz⟩:=hrel;by_cases hlt:k < s.size
  ·have hz:=Lib.hid (hz.out.trans (by rw [Adw s k hlt];rfl:_=(Pf s[k] && H9 (s.data.toList.drop (k+1)))));have hb:(s[k].toNat:Int)≤255:=by have:=s[k].toNat_lt;omega
   go_wp2_with (go_at_call 57;refine (Hk _ _ _ _).mono ?_;rintro e w' ⟨rfl,rfl⟩)
   ·have h1:Eu 32 s[k].toNat 126=true:=by assumption
    have h2:((s[k].toNat:Int) == 35)=true:=by assumption
    go_ret
    exact ⟨B8 (by rw [hz.out];rw [Ad9] at h2;simp [Pf,h2]),rfl⟩
   ·have h1:Eu 32 s[k].toNat 126=true:=by assumption
    have h2:((s[k].toNat:Int) == 35)=false:=by assumption
    exact FJ
   ·have h1:¬Eu 32 s[k].toNat 126=true:=by assumption
    go_ret
    exact ⟨B8 (by rw [hz.out];simp [Pf,h1]),rfl⟩
  ·go_wp2
   go_ret
   exact ⟨B8 (by rw [hz.out,Zu s k hlt];rfl),rfl⟩
theorem Aoh (s:ByteArray) (n:Int) (w:World) (hs:s.size≤maxLen) :
  Calls prog 42 #[.string s,.int .i64 n] w fun e w'=>e=.returned (.bool (H9 s.data.toList && decide ((s.size:Int)≤n)))∧w=w':=by
 unfold maxLen at hs
 go_enter func42,ntmps42
 go_wp2
 go_loop [5] (fun i=>∃k:Nat,k≤s.size∧i=.int .i64 k∧Hid (H9 s.data.toList=H9 (s.data.toList.drop k))) (fun i=>s.size - (intOf i).toNat)
 case atStart=>exact ⟨0,Nat.zero_le _,rfl,rfl⟩
 case round =>
  obtain ⟨k,hk,rfl,hz⟩:=hrel;by_cases hlt:k < s.size
  ·have hz:=Lib.hid (hz.out.trans (by rw [Adw s k hlt];rfl:_=(Pf s[k] && H9 (s.data.toList.drop (k+1)))));have hb:(s[k].toNat:Int)≤255:=by have:=s[k].toNat_lt;omega
   go_wp2_with (go_at_call 76;refine (Iq _ _ _ _).mono ?_;rintro e w' ⟨rfl,rfl⟩)
   ·have h1:Eu 32 s[k].toNat 126=true:=by assumption
    have h2:((s[k].toNat:Int) == 35)=true:=by assumption
    go_ret
    exact ⟨B8 (by rw [hz.out];rw [Ad9] at h2;simp [Pf,h2]),rfl⟩
   ·have h1:Eu 32 s[k].toNat 126=true:=by assumption
    have h2:((s[k].toNat:Int) == 35)=false:=by assumption
    exact FJ
   ·have h1:¬Eu 32 s[k].toNat 126=true:=by assumption
    go_ret
    exact ⟨B8 (by rw [hz.out];simp [Pf,h1]),rfl⟩
  ·go_wp2
   go_ret
   exact ⟨B8 (by rw [hz.out,Zu s k hlt];simp [H9]),rfl⟩
theorem I2 {a b:Int} (h:a=b):Ending.returned (.int .i64 a)=.returned (.int .i64 b):=by rw [h]
theorem Z3:(prog.info? 3).map (fun i=>(i.zero,i.size,i.bytes))=some (some (.int .i64 0),1,8):=by kernel_rfl
theorem Sl.int {w:World} {a:Option Addr} {n cap:Nat} {xs:List Int} {F} (h:Sl Bc w (.slice a n cap) xs F):n=xs.length∧n≤maxLen ∧
  ∀k (hk:k < xs.length),∃b off,a=some ⟨b,off,none⟩∧w.cell? ⟨b,off+k,none⟩=some (.int .i64 xs[k]):=by
 obtain ⟨a',cap',hv,hl,h⟩:=h;cases hv;refine ⟨rfl,GJ,fun k hk=>?_⟩;rcases h with ⟨rfl,_⟩|⟨b,off,F',rfl,_,_,hc⟩
 ·simp at hk
 ·obtain ⟨cs,F1,⟨rfl,_⟩,hj,_⟩:=hc.get k hk;exact ⟨b,off,rfl,by simpa [Bc] using hj 0 GM⟩
theorem Axg (v:Value) (zs:List Int) (F:List Nat) (n:Int) (w:World) (h:Sl Bc w v zs F) (h0:0≤n) (h1:n≤1048576) :
  Calls prog 11 #[v,.int .i64 n] w fun e w'=>e=.returned (.int .i64 (szr n (wtL (fun _=>0) zs)))∧Below w.heap.size w w':=by
 obtain ⟨a,cap,rfl,_,_⟩:=id h;obtain ⟨_,hl,_⟩:=h.int;unfold maxLen at hl;rw [Anf]
 go_enter func11,ntmps11
 go_wp2
 all_goals go_ret
 all_goals exact ⟨I2 (by unfold szr;split <;> omega),Below.refl _ _⟩
theorem Axu (v:Value) (zs:List Int) (F:List Nat) (w:World) (h:Sl Bc w v zs F) (hl0:wtL (fun _=>0) zs≤1048576) :
  Calls prog 16 #[v] w (Ul Bc 3 zs w):=by
 have hl1:zs.length≤1048576:=by rw [Anf] at hl0;exact hl0
 obtain ⟨a,cap,rfl,_,_⟩:=id h;have hmk:=fun w=>run_make_row' (P:=prog) 22 3 (.int .i64 0) 8 underlying22 Z3 rfl .i64 .i64 zs.length GJ GJ w;have hm:=Ow.made (E:=Bc) (t:=3) w #[.int .i64 0] zs.length 0 rfl (fun _=>⟨rfl,rfl⟩) GZ;simp only [show Bc.sz=1 from rfl,Nat.mul_one] at hm
 go_enter func16,ntmps16
 go_wp2
 clear hmk
 go_loopw [4] (fun i wr=>∃k:Nat,k≤zs.length∧i=.int .i64 k∧∃F,Ow Bc 3 wr (.slice (some ⟨w.heap.size,0,none⟩) zs.length zs.length) (zs.take k++List.replicate (zs.length - k) 0) F∧F.Nodup∧(∀b∈F,w.heap.size≤b)∧Below w.heap.size w wr) (fun i _=>zs.length - (intOf i).toNat)
 case atStart=>exact ⟨0,Nat.zero_le _,rfl,_,KG,GL,GL,(Below.refl _ _).alloc (Nat.le_refl _) _⟩
 case round =>
  obtain ⟨k,hk,rfl,F,ho,hn,hF,hb⟩:=hrel;by_cases hlt:k < zs.length
  ·obtain ⟨b,off,rfl,hc⟩:=h.int.2.2 k hlt;have hcl:=hc;have hc:=(hb.cell (World.block_lt_of_cell? w _ hc)).trans hc;obtain ⟨_,hcell,hput⟩:=ho.put hn k GU;obtain ⟨⟨u,hg⟩,hfz⟩:=hcell 0 GM;simp only [show Bc.sz=1 from rfl,Nat.mul_one,Nat.add_zero] at hg hfz hput;obtain ⟨F2,ho2,hn2,hs2⟩:=hput [.int .i64 zs[k]] zs[k] [] ⟨rfl,rfl⟩ GL GL;rw [Aj7 zs 0 k zs.length rfl hlt zs[k] GL] at ho2;have HO:=Lib.hid ho2;clear ho ho2 hput hcell hcl
   go_wp2
   exact ⟨⟨k+1,GJ,HZ,F2,HO.out,hn2,fun b hb=>by rcases hs2 b hb with hb|hb;exact hF b hb;simp at hb,hb.setCell (Nat.le_refl _) _⟩,HA⟩
  ·have hk:k=zs.length:=by omega
   subst hk;have HO:=Lib.hid ho;clear ho
   go_wp2
   go_ret
   exact ⟨_,F,rfl,by simpa using HO.out,hn,hF,hb⟩
theorem Au2 (va vb:Value) (zs:List Int) (Fa Fb:List Nat) (w:World) (ha:Sl Bc w va zs Fa) (hb:Sl Bc w vb zs Fb) :
  Calls prog 20 #[va,vb] w fun e w'=>e=.returned (.bool true)∧Below w.heap.size w w':=by
 obtain ⟨a,ca,rfl,_,_⟩:=id ha;obtain ⟨b,cb,rfl,_,_⟩:=id hb;obtain ⟨_,hla,ha⟩:=ha.int;obtain ⟨_, -,hb⟩:=hb.int;unfold maxLen at hla
 go_enter func20,ntmps20
 go_wp2
 go_loopw [5] (fun i wr=>∃k:Nat,k≤zs.length∧i=.int .i64 k∧∃n,wr=w.drewN n) (fun i _=>zs.length - (intOf i).toNat)
 case atStart=>exact ⟨0,Nat.zero_le _,rfl,0,rfl⟩
 case round =>
  obtain ⟨k,hk,rfl,n,rfl⟩:=hrel;by_cases hlt:k < zs.length
  ·obtain ⟨ba,oa,rfl,hca⟩:=ha k hlt;obtain ⟨bb,ob,rfl,hcb⟩:=hb k hlt;clear ha hb;have he':(zs[k] != zs[k])=false:=by simp
   go_wp2
   go_quiet (fail)
   go_wp2
   exact ⟨⟨k+1,GJ,HZ,n+nq,GL⟩,HA⟩
  ·go_wp2
   go_ret
   exact ⟨rfl,Dl (Below.refl _ _) _⟩
structure Me where
 Ad:List Int
def Kt:Bx Me where
 sz:=1
 Lo w cs x F:=∃v1,cs=[v1]∧Sl Bc w v1 x.Ad F
 len h:=by obtain ⟨v1,rfl,h1⟩:=h;rfl
 lt h:=by obtain ⟨v1,rfl,h1⟩:=h;exact h1.lt GM
 frame h hF:=by obtain ⟨v1,rfl,h1⟩:=h;exact ⟨v1,rfl,h1.frame hF⟩
theorem As0:One Kt:=fun h u hu=>by
 obtain ⟨v1,rfl,h1⟩:=h;simp only [List.mem_cons,List.not_mem_nil,or_false] at hu;subst hu
 ·exact h1.one
def Apo:Bx Me where
 sz:=1
 Lo w cs x F:=∃v1,cs=[v1]∧Ow Bc 3 w v1 x.Ad F
 len h:=by obtain ⟨v1,rfl,h1⟩:=h;rfl
 lt h:=by obtain ⟨v1,rfl,h1⟩:=h;exact h1.lt
 frame h hF:=by obtain ⟨v1,rfl,h1⟩:=h;exact ⟨v1,rfl,h1.frame hF⟩
theorem As1:One Apo:=fun h u hu=>by
 obtain ⟨v1,rfl,h1⟩:=h;simp only [List.mem_cons,List.not_mem_nil,or_false] at hu;subst hu
 ·exact h1.one
theorem Xu:Kv Apo Kt:=⟨rfl,fun h=>by
 obtain ⟨v1,rfl,h1⟩:=h;obtain ⟨G1,g1,k1⟩:=h1.sl (Kv.refl _);exact ⟨G1,g1,v1,rfl,k1⟩⟩
def Tm (x:Me):Nat:=wtL (fun _=>0) x.Ad
def Aux (x:Me):Nat:=(Ayz Bbu) x.Ad
theorem Arb (x:Me) (h:Tm x≤1048576):Aux x≤4294967296:=by
 have h0:=Apw Bbu (fun _=>0) 1 (fun x=>by simp [Bbu]) x.Ad;simp only [Tm,Aux] at h ⊢;omega
theorem Axh (v:Value) (x:Me) (F:List Nat) (n:Int) (w:World) (h:N0 Kt w v x F) (h0:0≤n) (h1:n≤1048576) :
  Calls prog 4 #[v,.int .i64 n] w fun e w'=>e=.returned (.int .i64 (szr n (Tm x)))∧Below w.heap.size w w':=by
 obtain ⟨_,rfl,v1,rfl,h1⟩:=h;have hB0:∀A:Obj,Below w.heap.size w (w.alloc A):=fun A=>(Below.refl _ _).alloc (Nat.le_refl _) _;unfold Tm
 go_enter func4,ntmps4
 go_wp2_with fail;refine (Axg _ x.Ad _ _ _ (h1.below GM (hB0 _)) GJ GJ).mono ?_;rintro e w1 ⟨rfl,hb1⟩;have r0:=Ha.below (g:=w.heap.size) (t:=24) (cs:=[v1]) JP hb1;have hB:=tr (hB0 _) hb1 (Nat.le_refl _);have c0:=r0.cells;clear hb1;rcases Ao8 (n) (wtL (fun _=>0) x.Ad) with ⟨e1,l1⟩|⟨e1,l1⟩
 ·simp only [e1];have z1:=Lib.hid e1;clear e1;go_wp2_with fail
  go_ret
  exact ⟨I2 (Bcw GJ).symm,hB⟩
 simp only [e1];have z1:=Lib.hid e1;clear e1;go_wp2_with fail
 go_ret
 exact ⟨I2 (by rw [Bai GJ];all_goals omega),hB⟩
theorem Agk (v:Value) (x:Me) (F:List Nat) (w:World) (h:N0 Kt w v x F) (hl:Tm x≤1048576) :
  Calls prog 7 #[v] w (Anm Apo x w):=by
 obtain ⟨_,rfl,v1,rfl,h1⟩:=h;unfold Tm at hl;have hB0:∀A B C:Obj,Below w.heap.size w (((w.alloc A).alloc B).alloc C):=fun A B C=>(((Below.refl _ _).alloc (Nat.le_refl _) _).alloc GL _).alloc HI _
 go_enter func7,ntmps7
 go_wp2_with fail;refine (Axu _ x.Ad _ _ (h1.below GM (hB0 _ _ _)) GJ).mono ?_;rintro e w1 ⟨y1,K1,rfl,o1,n1,g1,hb1⟩;obtain ⟨d1,p1,rfl⟩:=o1.slice;have l1:∀b∈K1,b < w1.heap.size:=o1.lt;have r0:=Ha.below (g:=w.heap.size) (t:=24) (cs:=[v1]) HN hb1;have r1:=Ha.below (g:=w.heap.size+1) (t:=31) (cs:=[.slice none 0 0]) HN hb1;have r2:=Ha.below (g:=w.heap.size+1+1) (t:=31) (cs:=[.slice none 0 0]) HN hb1;have hB:=tr (hB0 _ _ _) hb1 (Nat.le_refl _);have hs1:=hb1.size;simp only [World.size_alloc] at hs1 g1;clear hb1
 have c0:=r0.cells;have c1:=r1.cells;have c2:=r2.cells;have f1:=r1.frozens;have f2:=r2.frozens;have o1_:=Lib.hid o1;go_wp2_with fail;refine bodyPost_ret (v:=.agg #[.slice d1 x.Ad.length p1]) ?_ rfl ?_
 ·simp [results,results7,go_sem,c0,c1,c2,f1,f2]
 ·refine ⟨_,K1,rfl,⟨_,rfl,_,rfl,?_⟩,?_,?_,?_⟩
  ·repeat refine Ow.setFar ?_ (fun hm=>by have:=g1 _ hm;simp at this <;> omega) _
   exact o1
  ·exact n1
  ·intro b hb;have:=g1 b hb;omega
  ·repeat refine Below.setCell ?_ HI _
   exact hB
theorem Au3 (va vb:Value) (x:Me) (Fa Fb:List Nat) (w:World) (ha:N0 Kt w va x Fa) (hb:N0 Kt w vb x Fb) :
  Calls prog 10 #[va,vb] w fun e w'=>e=.returned (.bool true)∧Below w.heap.size w w':=by
 obtain ⟨_,rfl,v1,rfl,h1⟩:=ha;obtain ⟨_,rfl,u1,rfl,k1⟩:=hb;have hB0:∀A B:Obj,Below w.heap.size w ((w.alloc A).alloc B):=fun A B=>((Below.refl _ _).alloc (Nat.le_refl _) _).alloc GL _;have hE:∀z:Int,(z != z)=false:=fun z=>by simp
 go_enter func10,ntmps10
 go_wp2_with fail;refine (Au2 _ _ x.Ad _ _ _ (h1.below GM (hB0 _ _)) (k1.below GM (hB0 _ _))).mono ?_;rintro e w1 ⟨rfl,hb1⟩;have r0:=Ha.below (g:=w.heap.size) (t:=31) (cs:=[v1]) HN hb1;have r1:=Ha.below (g:=w.heap.size+1) (t:=31) (cs:=[u1]) HN hb1;have hB:=tr (hB0 _ _) hb1 (Nat.le_refl _);clear hb1;have c0:=r0.cells;have c1:=r1.cells;go_wp2_with fail
 go_ret
 exact ⟨rfl,hB⟩
theorem We:(prog.info? 9).map (fun i=>(i.zero,i.size,i.bytes))=some (some (.string ⟨#[]⟩),1,16):=by kernel_rfl
theorem Sl.str {w:World} {a:Option Addr} {n cap:Nat} {xs:List ByteArray} {F} (h:Sl A8 w (.slice a n cap) xs F):n=xs.length∧n≤maxLen ∧
  ∀k (hk:k < xs.length),xs[k].size≤maxLen∧∃b off,a=some ⟨b,off,none⟩∧w.cell? ⟨b,off+k,none⟩=some (.string xs[k]):=by
 obtain ⟨a',cap',hv,hl,h⟩:=h;cases hv;refine ⟨rfl,GJ,fun k hk=>?_⟩;rcases h with ⟨rfl,_⟩|⟨b,off,F',rfl,_,_,hc⟩
 ·simp at hk
 ·obtain ⟨cs,F1,⟨rfl,hs,_⟩,hj,_⟩:=hc.get k hk;exact ⟨hs,b,off,rfl,by simpa [A8] using hj 0 GM⟩
structure Az where
 Ao:Int
 size:Int
 Ak:List ByteArray
def Cd:Bx Az where
 sz:=3
 Lo w cs x F:=∃v1,cs=[.int .i64 x.Ao,.int .i64 x.size,v1]∧Sl A8 w v1 x.Ak F
 len h:=by obtain ⟨v1,rfl,h1⟩:=h;rfl
 lt h:=by obtain ⟨v1,rfl,h1⟩:=h;exact h1.lt GM
 frame h hF:=by obtain ⟨v1,rfl,h1⟩:=h;exact ⟨v1,rfl,h1.frame hF⟩
def Qf:Bx Az where
 sz:=3
 Lo w cs x F:=∃v1,cs=[.int .i64 x.Ao,.int .i64 x.size,v1]∧Ow A8 9 w v1 x.Ak F
 len h:=by obtain ⟨v1,rfl,h1⟩:=h;rfl
 lt h:=by obtain ⟨v1,rfl,h1⟩:=h;exact h1.lt
 frame h hF:=by obtain ⟨v1,rfl,h1⟩:=h;exact ⟨v1,rfl,h1.frame hF⟩
structure Iw where
 Af:Int
 Cg:Int
def Bi:Bx Iw where
 sz:=2
 Lo _ cs x F:=cs=[.int .i64 x.Af,.int .i64 x.Cg]∧F=[]
 len h:=by obtain ⟨rfl,rfl⟩:=h;rfl
 lt h:=by obtain ⟨rfl,rfl⟩:=h;simp
 frame h _:=h
theorem Jc:One Bi:=fun h u hu=>by
 obtain ⟨rfl,rfl⟩:=h;simp only [List.mem_cons,List.not_mem_nil,or_false] at hu;rcases hu with rfl|rfl
 ·rfl
 ·rfl
theorem Lp:Zp Bi:=fun h=>by obtain ⟨rfl,rfl⟩:=h;rfl
theorem Ah0:(prog.info? 156).map (fun i=>(i.zero,i.size,i.bytes))=some (some (.agg #[.int .i64 0,.int .i64 0]),2,16):=by kernel_rfl
structure Cr where
 Ab:Az
 Ai:Int
 quiet:Int
 holds:List Iw
def D7:Bx Cr where
 sz:=6
 Lo w cs x F:=∃v1 v2 F1 F2,cs=[.int .i64 x.Ab.Ao,.int .i64 x.Ab.size,v1,.int .i64 x.Ai,.int .i64 x.quiet,v2]∧Sl A8 w v1 x.Ab.Ak F1∧Sl Bi w v2 x.holds F2∧F=F1++F2
 len h:=by obtain ⟨v1,v2,F1,F2,rfl,h1,h2,rfl⟩:=h;rfl
 lt h:=by
  obtain ⟨v1,v2,F1,F2,rfl,h1,h2,rfl⟩:=h;intro b hb;simp only [List.mem_append] at hb;rcases hb with hb|hb
  ·exact h1.lt GM b hb
  ·exact h2.lt GM b hb
 frame h hF:=by obtain ⟨v1,v2,F1,F2,rfl,h1,h2,rfl⟩:=h;exact ⟨v1,v2,F1,F2,rfl,h1.frame fun b hb=>hF b GT,h2.frame fun b hb=>hF b GT,rfl⟩
def W9:Bx Cr where
 sz:=6
 Lo w cs x F:=∃v1 v2 F1 F2,cs=[.int .i64 x.Ab.Ao,.int .i64 x.Ab.size,v1,.int .i64 x.Ai,.int .i64 x.quiet,v2]∧Ow A8 9 w v1 x.Ab.Ak F1∧Ow Bi 156 w v2 x.holds F2∧F=F1++F2
 len h:=by obtain ⟨v1,v2,F1,F2,rfl,h1,h2,rfl⟩:=h;rfl
 lt h:=by
  obtain ⟨v1,v2,F1,F2,rfl,h1,h2,rfl⟩:=h;intro b hb;simp only [List.mem_append] at hb;rcases hb with hb|hb
  ·exact h1.lt b hb
  ·exact h2.lt b hb
 frame h hF:=by obtain ⟨v1,v2,F1,F2,rfl,h1,h2,rfl⟩:=h;exact ⟨v1,v2,F1,F2,rfl,h1.frame fun b hb=>hF b GT,h2.frame fun b hb=>hF b GT,rfl⟩
structure Ja where
 Af:Int
 Bm:List Int
 Cg:Int
def Gb:Bx Ja where
 sz:=3
 Lo w cs x F:=∃v1,cs=[.int .i64 x.Af,v1,.int .i64 x.Cg]∧Sl Bc w v1 x.Bm F
 len h:=by obtain ⟨v1,rfl,h1⟩:=h;rfl
 lt h:=by obtain ⟨v1,rfl,h1⟩:=h;exact h1.lt GM
 frame h hF:=by obtain ⟨v1,rfl,h1⟩:=h;exact ⟨v1,rfl,h1.frame hF⟩
theorem Afo:One Gb:=fun h u hu=>by
 obtain ⟨v1,rfl,h1⟩:=h;simp only [List.mem_cons,List.not_mem_nil,or_false] at hu;rcases hu with rfl|rfl|rfl
 ·rfl
 ·exact h1.one
 ·rfl
theorem Yy:(prog.info? 162).map (fun i=>(i.zero,i.size,i.bytes))=some (some (.agg #[.int .i64 0,.slice none 0 0,.int .i64 0]),3,40):=by kernel_rfl
def Ej:Bx Ja where
 sz:=3
 Lo w cs x F:=∃v1,cs=[.int .i64 x.Af,v1,.int .i64 x.Cg]∧Ow Bc 3 w v1 x.Bm F
 len h:=by obtain ⟨v1,rfl,h1⟩:=h;rfl
 lt h:=by obtain ⟨v1,rfl,h1⟩:=h;exact h1.lt
 frame h hF:=by obtain ⟨v1,rfl,h1⟩:=h;exact ⟨v1,rfl,h1.frame hF⟩
theorem Sg:One Ej:=fun h u hu=>by
 obtain ⟨v1,rfl,h1⟩:=h;simp only [List.mem_cons,List.not_mem_nil,or_false] at hu;rcases hu with rfl|rfl|rfl
 ·rfl
 ·exact h1.one
 ·rfl
theorem P5:Kv Ej Gb:=⟨rfl,fun h=>by
 obtain ⟨v1,rfl,h1⟩:=h;obtain ⟨G1,g1,k1⟩:=h1.sl (Kv.refl _);exact ⟨G1,g1,v1,rfl,k1⟩⟩
structure Bl where
 Ai:Int
 Ah:List Ja
def Bt:Bx Bl where
 sz:=2
 Lo w cs x F:=∃v1,cs=[.int .i64 x.Ai,v1]∧Sl Gb w v1 x.Ah F
 len h:=by obtain ⟨v1,rfl,h1⟩:=h;rfl
 lt h:=by obtain ⟨v1,rfl,h1⟩:=h;exact h1.lt GM
 frame h hF:=by obtain ⟨v1,rfl,h1⟩:=h;exact ⟨v1,rfl,h1.frame hF⟩
def Bj:Bx Bl where
 sz:=2
 Lo w cs x F:=∃v1,cs=[.int .i64 x.Ai,v1]∧Ow Ej 162 w v1 x.Ah F
 len h:=by obtain ⟨v1,rfl,h1⟩:=h;rfl
 lt h:=by obtain ⟨v1,rfl,h1⟩:=h;exact h1.lt
 frame h hF:=by obtain ⟨v1,rfl,h1⟩:=h;exact ⟨v1,rfl,h1.frame hF⟩
theorem Ra:One Bj:=fun h u hu=>by
 obtain ⟨v1,rfl,h1⟩:=h;simp only [List.mem_cons,List.not_mem_nil,or_false] at hu;rcases hu with rfl|rfl
 ·rfl
 ·exact h1.one
theorem Lk:Kv Bj Bt:=⟨rfl,fun h=>by
 obtain ⟨v1,rfl,h1⟩:=h;obtain ⟨G1,g1,k1⟩:=h1.sl P5;exact ⟨G1,g1,v1,rfl,k1⟩⟩
structure Hv where
 Vv:Bool
 De:ByteArray
def Cm:Bx Hv where
 sz:=2
 Lo _ cs x F:=cs=[.bool x.Vv,.string x.De]∧x.De.size≤maxLen∧F=[]
 len h:=by obtain ⟨rfl,s1,rfl⟩:=h;rfl
 lt h:=by obtain ⟨rfl,s1,rfl⟩:=h;simp
 frame h _:=h
theorem Id:One Cm:=fun h u hu=>by
 obtain ⟨rfl,s1,rfl⟩:=h;simp only [List.mem_cons,List.not_mem_nil,or_false] at hu;rcases hu with rfl|rfl
 ·rfl
 ·rfl
theorem Ht:Zp Cm:=fun h=>by obtain ⟨rfl,s1,rfl⟩:=h;rfl
theorem Arx:(prog.info? 196).map (fun i=>(i.zero,i.size,i.bytes))=some (some (.agg #[.bool false,.string ⟨#[]⟩]),2,24):=by kernel_rfl
structure An where
 next:Int
 Ap:List Hv
def Bv:Bx An where
 sz:=2
 Lo w cs x F:=∃v1,cs=[.int .i64 x.next,v1]∧Sl Cm w v1 x.Ap F
 len h:=by obtain ⟨v1,rfl,h1⟩:=h;rfl
 lt h:=by obtain ⟨v1,rfl,h1⟩:=h;exact h1.lt GM
 frame h hF:=by obtain ⟨v1,rfl,h1⟩:=h;exact ⟨v1,rfl,h1.frame hF⟩
structure A1 where
 Af:Int
 state:Int
 Cg:Int
 D6:Int
def Ax:Bx A1 where
 sz:=4
 Lo _ cs x F:=cs=[.int .i64 x.Af,.int .i64 x.state,.int .i64 x.Cg,.int .i64 x.D6]∧F=[]
 len h:=by obtain ⟨rfl,rfl⟩:=h;rfl
 lt h:=by obtain ⟨rfl,rfl⟩:=h;simp
 frame h _:=h
theorem C3:One Ax:=fun h u hu=>by
 obtain ⟨rfl,rfl⟩:=h;simp only [List.mem_cons,List.not_mem_nil,or_false] at hu;rcases hu with rfl|rfl|rfl|rfl
 ·rfl
 ·rfl
 ·rfl
 ·rfl
theorem Dq:Zp Ax:=fun h=>by obtain ⟨rfl,rfl⟩:=h;rfl
structure A9 where
 Bd:Bool
 Ai:Int
 Ab:An
 Am:List A1
def B4:Bx A9 where
 sz:=5
 Lo w cs x F:=∃v1 v2 F1 F2,cs=[.bool x.Bd,.int .i64 x.Ai,.int .i64 x.Ab.next,v1,v2]∧Sl Cm w v1 x.Ab.Ap F1∧Sl Ax w v2 x.Am F2∧F=F1++F2
 len h:=by obtain ⟨v1,v2,F1,F2,rfl,h1,h2,rfl⟩:=h;rfl
 lt h:=by
  obtain ⟨v1,v2,F1,F2,rfl,h1,h2,rfl⟩:=h;intro b hb;simp only [List.mem_append] at hb;rcases hb with hb|hb
  ·exact h1.lt GM b hb
  ·exact h2.lt GM b hb
 frame h hF:=by obtain ⟨v1,v2,F1,F2,rfl,h1,h2,rfl⟩:=h;exact ⟨v1,v2,F1,F2,rfl,h1.frame fun b hb=>hF b GT,h2.frame fun b hb=>hF b GT,rfl⟩
def Bg:Bx A9 where
 sz:=5
 Lo w cs x F:=∃v1 v2 F1 F2,cs=[.bool x.Bd,.int .i64 x.Ai,.int .i64 x.Ab.next,v1,v2]∧Ow Cm 196 w v1 x.Ab.Ap F1∧Ow Ax 166 w v2 x.Am F2∧F=F1++F2
 len h:=by obtain ⟨v1,v2,F1,F2,rfl,h1,h2,rfl⟩:=h;rfl
 lt h:=by
  obtain ⟨v1,v2,F1,F2,rfl,h1,h2,rfl⟩:=h;intro b hb;simp only [List.mem_append] at hb;rcases hb with hb|hb
  ·exact h1.lt b hb
  ·exact h2.lt b hb
 frame h hF:=by obtain ⟨v1,v2,F1,F2,rfl,h1,h2,rfl⟩:=h;exact ⟨v1,v2,F1,F2,rfl,h1.frame fun b hb=>hF b GT,h2.frame fun b hb=>hF b GT,rfl⟩
theorem Qb:One Bg:=fun h u hu=>by
 obtain ⟨v1,v2,F1,F2,rfl,h1,h2,rfl⟩:=h;simp only [List.mem_cons,List.not_mem_nil,or_false] at hu;rcases hu with rfl|rfl|rfl|rfl|rfl
 ·rfl
 ·rfl
 ·rfl
 ·exact h1.one
 ·exact h2.one
theorem Qd:Kv Bg B4:=⟨rfl,fun h=>by
 obtain ⟨v1,v2,F1,F2,rfl,h1,h2,rfl⟩:=h;obtain ⟨G1,g1,k1⟩:=h1.sl (Kv.refl _);obtain ⟨G2,g2,k2⟩:=h2.sl (Kv.refl _);refine ⟨G1++G2,?_,v1,v2,G1,G2,rfl,k1,k2,rfl⟩;intro b hb;simp only [List.mem_append] at hb ⊢;rcases hb with hb|hb
 ·simp [g1 b hb]
 ·simp [g2 b hb]⟩
structure Av where
 Ct:Int
 Af:Int
 Ao:Int
 Ff:Int
 data:ByteArray
def Aj:Bx Av where
 sz:=5
 Lo _ cs x F:=cs=[.int .i64 x.Ct,.int .i64 x.Af,.int .i64 x.Ao,.int .i64 x.Ff,.string x.data]∧x.data.size≤maxLen∧F=[]
 len h:=by obtain ⟨rfl,s1,rfl⟩:=h;rfl
 lt h:=by obtain ⟨rfl,s1,rfl⟩:=h;simp
 frame h _:=h
theorem Hf:One Aj:=fun h u hu=>by
 obtain ⟨rfl,s1,rfl⟩:=h;simp only [List.mem_cons,List.not_mem_nil,or_false] at hu;rcases hu with rfl|rfl|rfl|rfl|rfl
 ·rfl
 ·rfl
 ·rfl
 ·rfl
 ·rfl
theorem I3:Zp Aj:=fun h=>by obtain ⟨rfl,s1,rfl⟩:=h;rfl
end Go.Proofs.YtkagnmekdkchiaaGreatDoor
namespace Go.Proofs.YtkagnmekdkchiaaGreatDoor

open Go.RowKit
end Go.Proofs.YtkagnmekdkchiaaGreatDoor
namespace Go.Proofs.YtkagnmekdkchiaaGreatDoor
open Go.RowKit
structure Dt where
 Al:Me
 Aa:Cr
 Ae:List Bl
 Ac:List A9
 down:List (List Av)
 up:List (List Av)
def O1:Bx Dt where
 sz:=11
 Lo w cs x F:=∃v1 v2 v3 v4 v5 v6 v7 F1 F2 F3 F4 F5 F6 F7,cs=[v1,.int .i64 x.Aa.Ab.Ao,.int .i64 x.Aa.Ab.size,v2,.int .i64 x.Aa.Ai,.int .i64 x.Aa.quiet,v3,v4,v5,v6,v7]∧Sl Bc w v1 x.Al.Ad F1∧Sl A8 w v2 x.Aa.Ab.Ak F2∧Sl Bi w v3 x.Aa.holds F3∧Sl Bt w v4 x.Ae F4∧Sl B4 w v5 x.Ac F5∧Sl (Nn Aj GM) w v6 x.down F6∧Sl (Nn Aj GM) w v7 x.up F7∧F=F1++F2++F3++F4++F5++F6++F7
 len h:=by obtain ⟨v1,v2,v3,v4,v5,v6,v7,F1,F2,F3,F4,F5,F6,F7,rfl,h1,h2,h3,h4,h5,h6,h7,rfl⟩:=h;rfl
 lt h:=by
  obtain ⟨v1,v2,v3,v4,v5,v6,v7,F1,F2,F3,F4,F5,F6,F7,rfl,h1,h2,h3,h4,h5,h6,h7,rfl⟩:=h;intro b hb;simp only [List.mem_append] at hb;rcases hb with (((((hb|hb)|hb)|hb)|hb)|hb)|hb
  ·exact h1.lt GM b hb
  ·exact h2.lt GM b hb
  ·exact h3.lt GM b hb
  ·exact h4.lt GM b hb
  ·exact h5.lt GM b hb
  ·exact h6.lt GM b hb
  ·exact h7.lt GM b hb
 frame h hF:=by obtain ⟨v1,v2,v3,v4,v5,v6,v7,F1,F2,F3,F4,F5,F6,F7,rfl,h1,h2,h3,h4,h5,h6,h7,rfl⟩:=h;exact ⟨v1,v2,v3,v4,v5,v6,v7,F1,F2,F3,F4,F5,F6,F7,rfl,h1.frame fun b hb=>hF b GT,h2.frame fun b hb=>hF b GT,h3.frame fun b hb=>hF b GT,h4.frame fun b hb=>hF b GT,h5.frame fun b hb=>hF b GT,h6.frame fun b hb=>hF b GT,h7.frame fun b hb=>hF b GT,rfl⟩
def Zm:Bx Dt where
 sz:=11
 Lo w cs x F:=∃v1 v2 v3 v4 v5 v6 v7 F1 F2 F3 F4 F5 F6 F7,cs=[v1,.int .i64 x.Aa.Ab.Ao,.int .i64 x.Aa.Ab.size,v2,.int .i64 x.Aa.Ai,.int .i64 x.Aa.quiet,v3,v4,v5,v6,v7]∧Ow Bc 3 w v1 x.Al.Ad F1∧Ow A8 9 w v2 x.Aa.Ab.Ak F2∧Ow Bi 156 w v3 x.Aa.holds F3∧Ow Bj 110 w v4 x.Ae F4∧Ow Bg 117 w v5 x.Ac F5∧Ow (Fv Aj 159) 135 w v6 x.down F6∧Ow (Fv Aj 159) 135 w v7 x.up F7∧F=F1++F2++F3++F4++F5++F6++F7
 len h:=by obtain ⟨v1,v2,v3,v4,v5,v6,v7,F1,F2,F3,F4,F5,F6,F7,rfl,h1,h2,h3,h4,h5,h6,h7,rfl⟩:=h;rfl
 lt h:=by
  obtain ⟨v1,v2,v3,v4,v5,v6,v7,F1,F2,F3,F4,F5,F6,F7,rfl,h1,h2,h3,h4,h5,h6,h7,rfl⟩:=h;intro b hb;simp only [List.mem_append] at hb;rcases hb with (((((hb|hb)|hb)|hb)|hb)|hb)|hb
  ·exact h1.lt b hb
  ·exact h2.lt b hb
  ·exact h3.lt b hb
  ·exact h4.lt b hb
  ·exact h5.lt b hb
  ·exact h6.lt b hb
  ·exact h7.lt b hb
 frame h hF:=by obtain ⟨v1,v2,v3,v4,v5,v6,v7,F1,F2,F3,F4,F5,F6,F7,rfl,h1,h2,h3,h4,h5,h6,h7,rfl⟩:=h;exact ⟨v1,v2,v3,v4,v5,v6,v7,F1,F2,F3,F4,F5,F6,F7,rfl,h1.frame fun b hb=>hF b GT,h2.frame fun b hb=>hF b GT,h3.frame fun b hb=>hF b GT,h4.frame fun b hb=>hF b GT,h5.frame fun b hb=>hF b GT,h6.frame fun b hb=>hF b GT,h7.frame fun b hb=>hF b GT,rfl⟩
theorem Aaw:Kv Zm O1:=⟨rfl,fun h=>by
 obtain ⟨v1,v2,v3,v4,v5,v6,v7,F1,F2,F3,F4,F5,F6,F7,rfl,h1,h2,h3,h4,h5,h6,h7,rfl⟩:=h;obtain ⟨G1,g1,k1⟩:=h1.sl (Kv.refl _);obtain ⟨G2,g2,k2⟩:=h2.sl (Kv.refl _);obtain ⟨G3,g3,k3⟩:=h3.sl (Kv.refl _);obtain ⟨G4,g4,k4⟩:=h4.sl Lk;obtain ⟨G5,g5,k5⟩:=h5.sl Qd;obtain ⟨G6,g6,k6⟩:=h6.sl (Pj (Kv.refl _) GM _);obtain ⟨G7,g7,k7⟩:=h7.sl (Pj (Kv.refl _) GM _);refine ⟨G1++G2++G3++G4++G5++G6++G7,?_,v1,v2,v3,v4,v5,v6,v7,G1,G2,G3,G4,G5,G6,G7,rfl,k1,k2,k3,k4,k5,k6,k7,rfl⟩;intro b hb;simp only [List.mem_append] at hb ⊢;rcases hb with (((((hb|hb)|hb)|hb)|hb)|hb)|hb
 ·simp [g1 b hb]
 ·simp [g2 b hb]
 ·simp [g3 b hb]
 ·simp [g4 b hb]
 ·simp [g5 b hb]
 ·simp [g6 b hb]
 ·simp [g7 b hb]⟩
-- markNet: a nested struct with several slices is not written here
def Ac2 (l:List Int) (i:Nat):Bool:=match l[i]? with
 | some p=>if i=0 then decide (p=-1) else Eu 0 p ((i:Int) - 1)
 | none=>true
def Gg (t:Me):Bool:=Eu 2 (t.Ad.length:Int) 8 && O3 (Ac2 t.Ad) t.Ad.length
theorem Sh {l:List Int} (h:0 < l.length):Ac2 l 0=decide (l[0]=-1):=by unfold Ac2;rw [List.getElem?_eq_getElem h];rfl
theorem Ud {l:List Int} {i:Nat} (h:i < l.length) (h0:0 < i):Ac2 l i=Eu 0 l[i] ((i:Int) - 1):=by
 unfold Ac2;rw [List.getElem?_eq_getElem h];show (if i=0 then _ else _)=_;rw [if_neg GJ]
structure Tn (l:List Int):Prop where
 n0:2≤l.length
 n1:l.length≤8
 z:∀h:0 < l.length,l[0]=-1
 p:∀i (h:i < l.length),0 < i→0≤l[i]∧l[i] < i
theorem Gn {t:Me} (h:Gg t=true):Tn t.Ad:=by
 unfold Gg at h;rw [Bool.and_eq_true] at h;obtain ⟨h1,h2⟩:=h;unfold Eu at h1;simp only [Bool.and_eq_true,decide_eq_true_eq] at h1;refine ⟨GJ,GJ,fun h=>?_,fun i h h0=>?_⟩
 ·have:=I4 h2 0 h;rw [Sh h] at this;exact of_decide_eq_true this
 ·have:=I4 h2 i h;rw [Ud h h0] at this;unfold Eu at this;simp only [Bool.and_eq_true,decide_eq_true_eq] at this;omega
theorem Arp {t:Me} (h:Eu 2 (t.Ad.length:Int) 8=false):Gg t=false:=by unfold Gg;rw [h];rfl
theorem Z0 {t:Me} {i:Nat} (hi:i < t.Ad.length) (h:Ac2 t.Ad i=false):Gg t=false:=by unfold Gg;rw [Mf hi h,Bool.and_false]
def Jr (l:List Int) (node:Int) (k:Nat):List Int:=((List.range k).filter fun i=>decide (l[i]?=some node)).map fun (i:Nat)=>((i:Nat):Int)
def H3 (l:List Int) (node:Int):List Int:=Jr l node l.length
theorem An8 {l:List Int} {node:Int} {k:Nat} (h:k < l.length) (e:l[k]=node):Jr l node (k+1)=Jr l node k++[(k:Int)]:=by
 unfold Jr;rw [List.range_succ,List.filter_append,List.map_append];simp [List.getElem?_eq_getElem h,e]
theorem Ar3 {l:List Int} {node:Int} {k:Nat} (h:k < l.length) (e:¬l[k]=node):Jr l node (k+1)=Jr l node k:=by
 unfold Jr;rw [List.range_succ,List.filter_append,List.map_append];simp [List.getElem?_eq_getElem h,e]
theorem Afa (l:List Int) (node:Int) (k:Nat):(Jr l node k).length≤k:=by
 unfold Jr;exact EI
theorem Als {l:List Int} {node x:Int} (h:x∈H3 l node):∃i,∃hi:i < l.length,x=(i:Int)∧l[i]=node:=by
 unfold H3 Jr at h;obtain ⟨i,hi,rfl⟩:=List.mem_map.1 h;obtain ⟨h1,h2⟩:=List.mem_filter.1 hi;have h3:=List.mem_range.1 h1;have h4:=of_decide_eq_true h2;rw [List.getElem?_eq_getElem h3] at h4;exact ⟨i,h3,rfl,Option.some.inj h4⟩
def Ed (l:List Int) (node:Int):Bool:=!decide (node∈l)
theorem Asp (l:List Int) (node:Int):Ed l node=decide (H3 l node=[]):=by
 unfold Ed;by_cases h:node∈l
 ·obtain ⟨i,hi,rfl⟩:=List.getElem_of_mem h;have:(i:Int)∈H3 l l[i]:=by
   unfold H3 Jr;exact List.mem_map.2 ⟨i,List.mem_filter.2 ⟨List.mem_range.2 hi,by simp [List.getElem?_eq_getElem hi]⟩,rfl⟩
  rw [decide_eq_true h,decide_eq_false fun e=>by rw [e] at this;cases this];rfl
 ·have:H3 l node=[]:=List.eq_nil_iff_forall_not_mem.2 fun x hx=>by
   obtain ⟨i,hi, -,e⟩:=Als hx;exact h (e▸List.getElem_mem hi)
  rw [decide_eq_false h,decide_eq_true this];rfl
def Sz (l:List Int) (node:Int) (k:Nat):List Int:=((List.range k).filter fun i=>decide (l[i+1]?=some node)).map fun (i:Nat)=>((i+1:Nat):Int)
theorem Acq (l:List Int) (node:Int) (k:Nat):Jr l node (k+1)=Jr l node k++if l[k]?=some node then [(k:Int)] else []:=by
 unfold Jr;rw [List.range_succ,List.filter_append,List.map_append]
 split <;> simp_all
theorem Y1 (l:List Int) (node:Int) (k:Nat):Sz l node (k+1)=Sz l node k++if l[k+1]?=some node then [((k+1:Nat):Int)] else []:=by
 unfold Sz;rw [List.range_succ,List.filter_append,List.map_append]
 split <;> simp_all
theorem Alr {l:List Int} {node:Int} (hz:Jr l node 1=[]):∀k,Jr l node (k+1)=Sz l node k
 | 0=>by rw [hz];rfl
 | k+1=>by rw [Acq,Alr hz k,Y1]
theorem Ah3 {l:List Int} {node:Int} (hz:Jr l node 1=[]) {k:Nat} (hk:k+1=l.length):Sz l node k=H3 l node:=by
 rw [←Alr hz];unfold H3;rw [hk]
theorem Ar2 {l:List Int} {node:Int} {k:Nat} (h:k+1 < l.length) (e:l[k+1]=node):Sz l node (k+1)=Sz l node k++[((k+1:Nat):Int)]:=by
 rw [Y1,List.getElem?_eq_getElem h,e,if_pos rfl]
theorem Avr {l:List Int} {node:Int} {k:Nat} (h:k+1 < l.length) (e:¬l[k+1]=node):Sz l node (k+1)=Sz l node k:=by
 rw [Y1,List.getElem?_eq_getElem h,if_neg (by simpa using e),List.append_nil]
theorem Ah4 (l:List Int) (node:Int) (k:Nat):(Sz l node k).length≤k:=by
 unfold Sz;exact EI
theorem Rq {l:List Int} {node:Int} (hz:∀h:0 < l.length,l[0]=-1) (h:0≤node):Jr l node 1=[]:=by
 rw [Acq];by_cases h0:0 < l.length
 ·have:=hz h0;rw [List.getElem?_eq_getElem h0,if_neg GU];rfl
 ·rw [List.getElem?_eq_none GJ];rfl
def B9 (x:Int):Bool:=Eu 0 x 65535
def J3 (x:Int):Bool:=Eu 0 x 9999
def Pm (x:Int):Bool:=Eu 1 x 7
theorem Il (x:Int) (w:World):Calls prog 149 #[.int .i64 x] w fun e w'=>e=.returned (.bool (B9 x))∧w=w':=by
 go_enter func149,ntmps149
 go_wp2_with (go_at_call 57;refine (Hk _ _ _ _).mono ?_;rintro e w' ⟨rfl,rfl⟩)
 go_ret
 exact EM
theorem Ng (x:Int) (w:World):Calls prog 128 #[.int .i64 x] w fun e w'=>e=.returned (.bool (B9 x))∧w=w':=by
 go_enter func128,ntmps128
 go_wp2_with (go_at_call 76;refine (Iq _ _ _ _).mono ?_;rintro e w' ⟨rfl,rfl⟩)
 go_ret
 exact EM
theorem Rp (x:Int) (w:World):Calls prog 148 #[.int .i64 x] w fun e w'=>e=.returned (.bool (J3 x))∧w=w':=by
 go_enter func148,ntmps148
 go_wp2_with (go_at_call 57;refine (Hk _ _ _ _).mono ?_;rintro e w' ⟨rfl,rfl⟩)
 go_ret
 exact EM
theorem Sa (x:Int) (w:World):Calls prog 127 #[.int .i64 x] w fun e w'=>e=.returned (.bool (J3 x))∧w=w':=by
 go_enter func127,ntmps127
 go_wp2_with (go_at_call 76;refine (Iq _ _ _ _).mono ?_;rintro e w' ⟨rfl,rfl⟩)
 go_ret
 exact EM
theorem T0 (x:Int) (w:World):Calls prog 109 #[.int .i64 x] w fun e w'=>e=.returned (.bool (Pm x))∧w=w':=by
 go_enter func109,ntmps109
 go_wp2_with (go_at_call 57;refine (Hk _ _ _ _).mono ?_;rintro e w' ⟨rfl,rfl⟩)
 go_ret
 exact EM
def Ac6 (lo hi:Int) (zs:List Int) (i:Nat):Bool:=Eu lo (zs.getD i 0) hi && (i == 0 || decide (zs.getD (i - 1) 0 < zs.getD i 0))
def P3 (lo hi:Int) (zs:List Int):Bool:=O3 (Ac6 lo hi zs) zs.length
theorem U6 {lo hi:Int} {zs:List Int} (h:0 < zs.length):Ac6 lo hi zs 0=Eu lo zs[0] hi:=by simp [Ac6,h]
theorem Sj {lo hi:Int} {zs:List Int} {m:Nat} (h:m+1 < zs.length):Ac6 lo hi zs (m+1)=(Eu lo zs[m+1] hi && decide (zs[m]'GJ < zs[m+1])):=by
 simp [Ac6,h,show m < zs.length by omega]
theorem Aem (v:Value) (zs:List Int) (F:List Nat) (w:World) (h:Sl Bc w v zs F) :
  Calls prog 241 #[v] w fun e w'=>e=.returned (.bool (P3 1 7 zs))∧w=w':=by
 obtain ⟨a,cap,rfl⟩:=h.slice;obtain ⟨-,hl,hc⟩:=h.int;unfold maxLen at hl
 go_enter func241,ntmps241
 go_wp2
 go_loop [3,4,7] (fun _ _ i=>∃k:Nat,k≤zs.length∧i=.int .i64 k∧Hid (∀j,j < k→Ac6 1 7 zs j=true)) (fun _ _ i=>zs.length - (intOf i).toNat)
 case atStart=>exact ⟨0,Nat.zero_le _,rfl,fun j hj=>by omega⟩
 case round =>
  obtain ⟨k,hk,rfl,hz⟩:=hrel;by_cases hlt:k < zs.length
  ·obtain ⟨b,off,rfl,c0⟩:=hc k hlt;rcases k with _|m
   ·have hr:=Lib.hid (U6 (lo:=1) (hi:=7) hlt);clear hc;simp only [Nat.add_zero] at c0;go_wp2_with (go_at_call 109;refine (T0 _ _).mono ?_;rintro e w' ⟨rfl,rfl⟩)
    ·have t:Eu 1 zs[0] 7=true:=by assumption
     exact ⟨⟨1,GJ,HZ,Ru hz.out (by rw [hr.out,t])⟩,HA⟩
    ·have t:¬Eu 1 zs[0] 7=true:=by assumption
     go_ret
     exact ⟨B8 (Mf hlt (by rw [hr.out];simpa using t)).symm,rfl⟩
   ·obtain ⟨b',off',hb',c1⟩:=hc m GJ;cases hb';have hr:=Lib.hid (Sj (lo:=1) (hi:=7) hlt);clear hc;go_wp2_with (go_at_call 109;refine (T0 _ _).mono ?_;rintro e w' ⟨rfl,rfl⟩)
    ·have t:zs[m+1]≤zs[m]:=by assumption
     go_ret
     exact ⟨B8 (Mf hlt (by rw [hr.out];simp;omega)).symm,rfl⟩
    ·have t:Eu 1 zs[m+1] 7=true:=by assumption
     have t2:zs[m] < zs[m+1]:=by assumption
     exact ⟨⟨m+2,GJ,HZ,Ru hz.out (by rw [hr.out,t];simp;omega)⟩,HA⟩
    ·have t:¬Eu 1 zs[m+1] 7=true:=by assumption
     go_ret
     exact ⟨B8 (Mf hlt (by rw [hr.out];simp [t])).symm,rfl⟩
  ·go_wp2
   go_ret
   exact ⟨B8 (Kw (fun i hi=>hz.out i GJ)).symm,rfl⟩
theorem Aof (v:Value) (zs:List Int) (F:List Nat) (lo hi:Int) (w:World) (h:Sl Bc w v zs F) :
  Calls prog 250 #[v,.int .i64 lo,.int .i64 hi] w fun e w'=>e=.returned (.bool (P3 lo hi zs))∧Below w.heap.size w w':=by
 obtain ⟨a,cap,rfl⟩:=h.slice;obtain ⟨-,hl, -⟩:=h.int;unfold maxLen at hl
 go_enter func250,ntmps250
 go_wp2
 go_loopw [7] (fun i wr=>∃k:Nat,k≤zs.length∧i=.int .i64 k∧Hid (∀j,j < k→Ac6 lo hi zs j=true)∧Below w.heap.size w wr) (fun i _=>zs.length - (intOf i).toNat)
 case atStart=>exact ⟨0,Nat.zero_le _,rfl,fun j hj=>by omega,Below.refl _ _⟩
 case round =>
  obtain ⟨k,hk,rfl,hz,hB⟩:=hrel;have hc:=(h.below GM hB).int.2.2;by_cases hlt:k < zs.length
  ·obtain ⟨b,off,rfl,c0⟩:=hc k hlt;rcases k with _|m
   ·have hr:=Lib.hid (U6 (lo:=lo) (hi:=hi) hlt);clear hc;simp only [Nat.add_zero] at c0;cases t:Eu lo zs[0] hi
    ·go_wp2_with fail
     go_quiet ((go_at_call 76;exact Ws (Iq _ _ _ _)))
     go_wp2_with fail
     go_ret
     exact ⟨B8 (Mf hlt (by rw [hr.out,t])).symm,Dl hB _⟩
    ·go_wp2_with fail
     go_quiet ((go_at_call 76;exact Ws (Iq _ _ _ _)))
     go_wp2_with fail;exact ⟨⟨1,GJ,HZ,Ru hz.out (by rw [hr.out,t]),Dl hB _⟩,HA⟩
   ·obtain ⟨b',off',hb',c1⟩:=hc m GJ;cases hb';have hr:=Lib.hid (Sj (lo:=lo) (hi:=hi) hlt);clear hc;cases t:Eu lo zs[m+1] hi
    ·go_wp2_with fail
     go_quiet ((go_at_call 76;exact Ws (Iq _ _ _ _)))
     go_wp2_with fail
     go_ret
     exact ⟨B8 (Mf hlt (by rw [hr.out,t];rfl)).symm,Dl hB _⟩
    ·by_cases t2:zs[m] < zs[m+1]
     ·go_wp2_with fail
      go_quiet ((go_at_call 76;exact Ws (Iq _ _ _ _)))
      go_wp2_with fail;exact ⟨⟨m+2,GJ,HZ,Ru hz.out (by rw [hr.out,t];simpa using t2),Dl hB _⟩,HA⟩
     ·have t3:zs[m+1]≤zs[m]:=by omega
      go_wp2_with fail
      go_quiet ((go_at_call 76;exact Ws (Iq _ _ _ _)))
      go_wp2_with fail
      go_ret
      exact ⟨B8 (Mf hlt (by rw [hr.out];simp;omega)).symm,Dl hB _⟩
  ·go_wp2
   go_ret
   exact ⟨B8 (Kw (fun i hi=>hz.out i GJ)).symm,hB⟩
theorem Aod (v:Value) (zs:List Int) (F:List Nat) (w:World) (h:Sl Bc w v zs F) :
  Calls prog 183 #[v] w fun e w'=>e=.returned (.bool (P3 1 7 zs))∧Below w.heap.size w w':=by
 go_enter func183,ntmps183
 go_wp2_with (go_at_call 250;refine (Aof _ zs F _ _ _ h).mono ?_;rintro e w' ⟨rfl,hb1⟩)
 go_ret
 exact ⟨rfl,hb1⟩
theorem Mb (w:World) (g:Nat):∀(c:List Value) (w:World) (p:Nat),Ni w g p c=w.setCells g p c
 | [],_,_=>rfl
 | _::r,_,_=>Mb w g r _ _
theorem Mx (z:Array Value) (n:Nat):(Builtin.zeroCells z n).toList.length=n * z.size:=by simp [Builtin.zeroCells]
theorem Aha (z:Array Value) (h:∀u∈z,u.oneCell'=true) (n:Nat):∀u∈(Builtin.zeroCells z n).toList,u.oneCell'=true:=by
 intro u hu;simp only [Builtin.zeroCells,Array.toList_map,List.mem_map] at hu;obtain ⟨i,hi,rfl⟩:=hu;simp at hi;have hz:0 < z.size:=Nat.pos_of_ne_zero fun e=>by rw [e,Nat.mul_zero] at hi;omega
 have hm:i % z.size < z.size:=Nat.mod_lt _ hz;rw [getElem!_pos z _ hm];exact h _ (Array.getElem_mem _)
theorem Sk {P:Program} (w:World) (t e ty:TypeId) (z:Value) (ht:P.underlying t=some (.slice e)) (hv:∀w,(zeroValue e).run P w=.ok z w) (h1:∀u∈z.cells,u.oneCell'=true) (b o n c:Nat) (hn:0 < n)
  (hc:∀j,j < n * z.cells.size→(w.cell? ⟨b,o+j,none⟩).isSome=true) (hf:∀j,j < n * z.cells.size→w.frozen? ⟨b,o+j,none⟩=false) :
  (Builtin.clear_ #[t] ty #[.slice (some ⟨b,o,none⟩) n c]).run P w=.ok (.tuple #[]) (w.setCells b o (Builtin.zeroCells z.cells n).toList):=by
 have hst:=run_storeCells_cells (P:=P) b o (Builtin.zeroCells z.cells n).toList 0 w (by rw [Mx];simpa using hc) (by rw [Mx];simpa using hf) (Aha _ h1 _);simp only [Nat.add_zero] at hst;obtain ⟨m,rfl⟩:∃m,n=m+1:=⟨n - 1,GJ⟩;simp [Builtin.clear_,run_underlying ht,hv,hst]
theorem Vh {P:Program} {e:TypeId} {z:Value} {size bytes:Nat} (h:(P.info? e).map (fun i=>(i.zero,i.size,i.bytes))=some (some z,size,bytes)):∀w,(zeroValue e).run P w=.ok z w:=fun w=>by
 obtain ⟨i,hi,hzz⟩:=Option.map_eq_some_iff.1 h;simp only [Prod.mk.injEq] at hzz;obtain ⟨hz, -, -⟩:=hzz;simp [zeroValue,typeInfo,hi,hz]
theorem Xd {α:Type} {p:α→Bool} {xs:List α} (h:xs.any p=true):∃k,∃hk:k < xs.length,Qy p xs=k∧p xs[k]=true∧(xs.take k).filter (fun x=>!p x)=xs.take k:=by
 have hk:xs.findIdx p < xs.length:=List.findIdx_lt_length_of_exists (by obtain ⟨x,hx,hp⟩:=List.any_eq_true.1 h;exact ⟨x,hx,hp⟩);refine ⟨_,hk,by unfold Qy;rw [if_pos h],List.findIdx_getElem (w:=hk),?_⟩;rw [List.filter_eq_self];intro x hx;obtain ⟨i,hi,rfl⟩:=List.mem_take_iff_getElem.1 hx;have:=List.not_of_lt_findIdx (p:=p) (xs:=xs) (show i < xs.findIdx p by omega);exact GF
theorem Zy {α:Type} {p:α→Bool} {xs:List α} (h:¬xs.any p=true):Qy p xs=-1∧xs.filter (fun x=>!p x)=xs:=by
 refine ⟨by unfold Qy;rw [if_neg h],?_⟩;rw [List.filter_eq_self];intro x hx;cases hp:p x
 ·rfl
 ·exact absurd (List.any_eq_true.2 ⟨x,hx,hp⟩) h
theorem Gm {α:Type} {q:α→Bool} {xs:List α} {j:Nat} (h:j < xs.length) (hq:q xs[j]=true):(xs.take (j+1)).filter q=(xs.take j).filter q++[xs[j]]:=by
 rw [List.take_succ_eq_append_getElem h,List.filter_append];simp [hq]
theorem C2 {α:Type} {q:α→Bool} {xs:List α} {j:Nat} (h:j < xs.length) (hq:q xs[j]=false):(xs.take (j+1)).filter q=(xs.take j).filter q:=by
 rw [List.take_succ_eq_append_getElem h,List.filter_append];simp [hq]
theorem Af3 {w:World} {g off n:Nat} {c c':List Value} (h:c.length=n) (h':c'.length=n) (hc:∀j,j < n→w.cell? ⟨g,off+j,none⟩=c[j]?) (hc':∀j,j < n→w.cell? ⟨g,off+j,none⟩=c'[j]?):c=c':=by
 apply List.ext_getElem?;intro j;by_cases hj:j < n
 ·rw [←hc j hj,hc' j hj]
 ·rw [List.getElem?_eq_none GJ,List.getElem?_eq_none GJ]
def Gap {α:Type} (O:Bx α) (t:TypeId) (w:World) (g n cap:Nat) (ys:List α) (m:Nat) (zs:List α) (F:List Nat):Prop :=
 ∃c1 jk c3 rest G1 G3,n=ys.length+m+zs.length∧Ha w g t (c1++jk++c3++rest)∧n≤cap∧cap≤maxLen∧c1.length+jk.length+c3.length+rest.length=cap * O.sz∧jk.length=m * O.sz ∧
  Cw O w c1 ys G1∧Cw O w c3 zs G3∧F=g::(G1++G3)∧F.Nodup
section
variable {α:Type} {O:Bx α} {t:TypeId} {w:World} {g n cap m:Nat} {ys zs:List α} {F:List Nat}
theorem Gap.start {a:Option Addr} {n:Nat} {xs:List α} (h:Ow O t w (.slice a n cap) xs F) (hn:F.Nodup) (e:xs=ys++zs) (h0:0 < xs.length):∃g,a=some ⟨g,0,none⟩∧n=xs.length∧Gap O t w g n cap ys 0 zs F:=by
 subst e;rcases h with ⟨_,h1,_⟩|⟨g,cap',cs,rest,G,hv,hr,h3,h4,h5,hf,rfl⟩
 ·rw [h1] at h0;simp at h0
 ·cases hv;obtain ⟨c1,c2,G1,G2,rfl,rfl,f1,f2⟩:=hf.split;refine ⟨g,rfl,rfl,c1,[],c2,rest,G1,G2,GL,HY,h3,h4,by simpa using h5,GL,f1,f2,rfl,hn⟩
theorem Gap.skip {x:α} (h:Gap O t w g n cap ys m (x::zs) F):∃F',Gap O t w g n cap ys (m+1) zs F'∧∀b∈F',b∈F:=by
 obtain ⟨c1,jk,c3,rest,G1,G3,hn,hr,h1,h2,h3,h4,f1,⟨c,c4,Fx,G4,rfl,rfl,hx,f3⟩,rfl,hnd⟩:=h;have hl:=O.len hx;refine ⟨g::(G1++G4),⟨c1,jk++c,c4,rest,G1,G4,by simp at hn ⊢;omega,HY,h1,h2,by simp at h3 ⊢;omega,by rw [List.length_append,h4,hl,Nat.add_mul];simp,f1,f3,rfl,?_⟩,by intro b hb;simp at hb ⊢;rcases hb with hb|hb|hb <;> simp [hb]⟩;simp only [List.nodup_cons,List.nodup_append,List.mem_append,not_or] at hnd ⊢;exact ⟨⟨hnd.1.1,hnd.1.2.2⟩,hnd.2.1,hnd.2.2.1.2.1,fun a ha b hb=>hnd.2.2.2 a ha b (.inr hb)⟩
theorem Gap.first {x:α} (h:Gap O t w g n cap ys m (x::zs) F):∃c Fx,O.Lo w c x Fx∧(∀b∈Fx,b∈F)∧∀j,j < O.sz→w.cell? ⟨g,(ys.length+m) * O.sz+j,none⟩=c[j]?:=by
 obtain ⟨c1,jk,c3,rest,G1,G3,hn,hr,h1,h2,h3,h4,f1,⟨c,c4,Fx,G4,rfl,rfl,hx,f3⟩,rfl,hnd⟩:=h;have hl:=O.len hx;refine ⟨c,Fx,hx,fun b hb=>by simp [hb],fun j hj=>?_⟩;have hr':Ha w g t ((c1++jk)++c++(c4++rest)):=by simpa using hr
 exact hr'.cellMid (by rw [List.length_append,f1.len,h4,Nat.add_mul]) GJ
theorem Gap.move {x:α} (hm:0 < m) (h:Gap O t w g n cap ys m (x::zs) F) :
  (∀j,j < O.sz→(∃u,w.cell? ⟨g,ys.length * O.sz+j,none⟩=some u)∧w.frozen? ⟨g,ys.length * O.sz+j,none⟩=false) ∧
  ∃c Fx,O.Lo w c x Fx∧(∀b∈Fx,b∈F)∧(∀j,j < O.sz→w.cell? ⟨g,(ys.length+m) * O.sz+j,none⟩=c[j]?)∧∀w',Below w.heap.size w w'→∃F',Gap O t (Ni w' g (ys.length * O.sz) c) g n cap (ys++[x]) m zs F'∧∀b∈F',b∈F:=by
 obtain ⟨c,Fx,hx0,hxF,hcell⟩:=h.first;obtain ⟨c1,jk,c3,rest,G1,G3,hn,hr,h1,h2,h3,h4,f1,⟨c',c4,Fx',G4,rfl,rfl,hx,f3⟩,rfl,hnd⟩:=h;have hl:=O.len hx;have hl0:=O.len hx0;obtain ⟨m',rfl⟩:∃m',m=m'+1:=⟨m - 1,GJ⟩;have hjk:jk=jk.take O.sz++jk.drop O.sz:=by simp
 have hjl:(jk.take O.sz).length=O.sz:=by rw [List.length_take,h4,Nat.add_mul];omega
 have hA:=f1.len;have hr':Ha w g t (c1++jk.take O.sz++(jk.drop O.sz++c'++c4++rest)):=by
  have e:c1++jk.take O.sz++(jk.drop O.sz++c'++c4++rest)=c1++jk++(c'++c4)++rest:=by
   simp only [List.append_assoc];rw [←List.append_assoc (jk.take O.sz),List.take_append_drop]
  rw [e];exact hr
 have hcc:c=c':=by
  apply List.ext_getElem? ;intro j;by_cases hj:j < O.sz
  ·have hr2:Ha w g t ((c1++jk)++c'++(c4++rest)):=by simpa using hr
   rw [←hcell j hj,hr2.cellMid (by rw [List.length_append,hA,h4,←Nat.add_mul]) GJ]
  ·rw [List.getElem?_eq_none GJ,List.getElem?_eq_none GJ]
 refine ⟨fun j hj=>⟨⟨_,by rw [hr'.cellMid (j:=j) GJ GJ,List.getElem?_eq_getElem GJ]⟩,hr'.frozen _⟩,c,Fx',hcc▸hx,fun b hb=>by simp [hb],hcell,fun w' hb=>?_⟩;subst hcc;have hgl:=hr.lt;have hnd':=hnd;simp only [List.nodup_cons,List.nodup_append,List.mem_append,not_or] at hnd';have hrow:=(hr'.below hb).put c (jk.take O.sz) (p:=ys.length * O.sz) hA.symm GJ;have hfr:∀b,b < w.heap.size→b≠g→(Ni w' g (ys.length * O.sz) c).heap[b]?=w.heap[b]?:=fun b hb1 hb2=>(Nj c w' _ b hb2).trans (hb.block b hb1);have n1:∀b∈G1,b≠g:=fun b hb e=>hnd'.1.1 (e▸hb)
 have n2:∀b∈Fx',b≠g:=fun b hb e=>hnd'.1.2.1 (e▸hb);have n3:∀b∈G4,b≠g:=fun b hb e=>hnd'.1.2.2 (e▸hb);refine ⟨g::((G1++Fx')++G4),⟨c1++c,jk.drop O.sz++c,c4,rest,G1++Fx',G4,by simp at hn ⊢;omega,?_,h1,h2,?_,?_,?_,f3.frame fun b hb=>hfr b (f3.lt b hb) (n3 b hb),rfl,?_⟩,by intro b hb;simpa [or_assoc] using hb⟩
 ·simpa using hrow
 ·simp [h4,Nat.add_mul] at h3 ⊢;omega
 ·simp [h4,Nat.add_mul];omega
 ·exact (f1.frame fun b hb=>hfr b (f1.lt b hb) (n1 b hb)).append (Cw.one (O.frame hx fun b hb=>hfr b (O.lt hx b hb) (n2 b hb)))
 ·simpa using hnd
theorem Gap.below {w':World} (h:Gap O t w g n cap ys m zs F) (hb:Below w.heap.size w w'):Gap O t w' g n cap ys m zs F:=by
 obtain ⟨c1,jk,c3,rest,G1,G3,hn,hr,h1,h2,h3,h4,f1,f3,hF,hnd⟩:=h;exact ⟨c1,jk,c3,rest,G1,G3,hn,hr.below hb,h1,h2,h3,h4,f1.frame fun b h=>hb.block b (f1.lt b h),f3.frame fun b h=>hb.block b (f3.lt b h),hF,hnd⟩
theorem Gap.caps (h:Gap O t w g n cap ys m zs F):n=ys.length+m+zs.length∧n≤cap∧cap≤maxLen∧g < w.heap.size∧g∈F∧F.Nodup:=by
 obtain ⟨c1,jk,c3,rest,G1,G3,hn,hr,h1,h2,h3,h4,f1,f3,rfl,hnd⟩:=h;exact ⟨hn,h1,h2,hr.lt,GL,hnd⟩
theorem Gap.done {z:Array Value} (hz:z.size=O.sz) (h:Gap O t w g n cap ys m [] F) :
  (∀j,j < m * O.sz→(w.cell? ⟨g,ys.length * O.sz+j,none⟩).isSome=true∧w.frozen? ⟨g,ys.length * O.sz+j,none⟩=false) ∧
  ∃F',Ow O t (w.setCells g (ys.length * O.sz) (Builtin.zeroCells z m).toList) (.slice (some ⟨g,0,none⟩) ys.length cap) ys F'∧F'.Nodup∧∀b∈F',b∈F:=by
 obtain ⟨c1,jk,c3,rest,G1,G3,hn,hr,h1,h2,h3,h4,f1,⟨rfl,rfl⟩,rfl,hnd⟩:=h;have hA:=f1.len;simp only [List.append_nil] at hr hnd;have hr':Ha w g t (c1++jk++rest):=hr;refine ⟨fun j hj=>⟨?_,hr'.frozen _⟩,g::G1,?_,hnd,GL⟩
 ·rw [hr'.cellMid (j:=j) GJ GJ,List.getElem?_eq_getElem GJ];rfl
 ·rw [←Mb w];have hrow:=hr'.put (Builtin.zeroCells z m).toList jk (p:=ys.length * O.sz) hA.symm (by rw [Mx,h4,hz]);have hng:g ∉ G1:=by simp at hnd;exact hnd.1
  refine .inr ⟨g,cap,c1,(Builtin.zeroCells z m).toList++rest,G1,rfl,by simpa using hrow,by simp at hn;omega,h2,?_,f1.frame fun b hb=>Nj _ _ _ _ fun e=>hng (e▸hb),rfl⟩;rw [List.length_append,Mx,hz,←h4];simp at h3;omega
end
theorem Qw (fid:FuncId) (hbd:Xv prog fid) (caps:Array Value) (v:Value) (xs:List Ja) (F:List Nat) (p:Ja→Bool) (w:World) (h:Sl Gb w v xs F)
  (hp:∀(k:Nat) (hk:k < xs.length) (wr:World) (u:Value) (G:List Nat),Below w.heap.size w wr→N0 Gb wr u xs[k] G→Calls prog fid (#[u]++caps) wr fun e w'=>e=.returned (.bool (p xs[k]))∧Below wr.heap.size wr w') :
  Calls prog 244 #[v,.func (.func fid) #[] caps] w fun e w'=>e=.returned (.int .i64 (Qy p xs))∧Below w.heap.size w w':=by
 obtain ⟨a,cap,rfl⟩:=h.slice;have hl:=h.len;unfold maxLen at hl
 go_enter func244,ntmps244
 go_wp2
 go_loopw [5,8] (fun _ i wr=>∃k:Nat,k≤xs.length∧i=.int .i64 k∧Hid (∀j,j < k→∀hj:j < xs.length,p xs[j]=false)∧Below w.heap.size w wr) (fun _ i _=>xs.length - (intOf i).toNat)
 case atStart=>exact ⟨0,Nat.zero_le _,rfl,fun j hj=>by omega,Below.refl _ _⟩
 case round =>
  obtain ⟨k,hk,rfl,hz,hB⟩:=hrel;by_cases hlt:k < xs.length
  ·have hz0:=hz;clear hz;obtain ⟨b,off,_,F1,rfl,hx, -,ja⟩:=(h.below GM hB).at k hlt;obtain ⟨v1,rfl,h1⟩:=id hx;have a0:=ja 0 GM;have a1:=ja 1 GM;have a2:=ja 2 GM;simp only [show Gb.sz=3 from rfl,Nat.mul_one,Nat.add_zero,List.getElem?_cons_zero,List.getElem?_cons_succ] at a0 a1 a2;clear ja;have hr:=hp k hlt wr _ F1 hB ⟨_,rfl,hx⟩;have hp:=Lib.hid hp;cases hpk:p xs[k]
   all_goals
    rw [hpk] at hr;have hpk:=Lib.hid hpk;have hr:=Lib.hid hr;go_wp2_with fail;refine hbd.upon hr.out ?_;rintro e w1 ⟨rfl,hb1⟩;refine ⟨_,rfl,?_⟩;have hB:=tr hB hb1 (Nat.le_refl _);clear hb1;go_wp2_with fail
   ·exact AS
   ·go_ret
    exact FO
  ·go_wp2
   go_ret
   exact DN
theorem Yi (fid:FuncId) (hbd:Xv prog fid) (caps:Array Value) (v:Value) (xs:List Ja) (F:List Nat) (p:Ja→Bool) (w:World) (h:Sl Gb w v xs F)
  (hp:∀(k:Nat) (hk:k < xs.length) (wr:World) (u:Value) (G:List Nat),Below w.heap.size w wr→N0 Gb wr u xs[k] G→Calls prog fid (#[u]++caps) wr fun e w'=>e=.returned (.bool (p xs[k]))∧Below wr.heap.size wr w') :
  Calls prog 242 #[v,.func (.func fid) #[] caps] w fun e w'=>e=.returned (.bool (xs.any p))∧Below w.heap.size w w':=by
 have hp:=Lib.hid hp
 go_enter func242,ntmps242
 go_wp2_with fail;refine (Qw fid hbd caps v xs F p _ h hp.out).mono ?_;rintro e w1 ⟨rfl,hb1⟩;go_wp2_with fail
 go_ret
 exact ⟨B8 (Rz p xs),hb1⟩
theorem Ako (v:Value) (xs:List Ja) (F:List Nat) (w:World) (h:Sl Gb w v xs F) (hm:xs.length≤4294967296) :
  Calls prog 103 #[v] w fun e w'=>∃v' F',e=.returned v'∧Ow Gb 162 w' v' xs F'∧Hd F'∧(∀b,v'.ownBlock=some b→w.heap.size≤b)∧(∀b∈F',v'.ownBlock=some b∨b∈F)∧Below w.heap.size w w':=by
 obtain ⟨ao,c,news,Fy,rfl,hl,hfy,hFy,hsrc⟩:=h.src;have hFl:=hfy.lt;have he:=fun w (a:Option Addr) (n c:Nat)=>Lib.run_eql_slice_nil (P:=prog) w 108 _ a n c 0 0 underlying108
 go_enter func103,ntmps103
 rcases hsrc with ⟨rfl,rfl,rfl⟩|⟨ad,rfl,hn⟩
 ·go_wp2
  go_ret
  exact ⟨.slice none 0 0,[],rfl,.inl ⟨rfl,rfl,rfl⟩,Hd.nil,(fun b e=>by simp [Value.ownBlock] at e),GL,Below.refl _ _⟩
 ·go_wp2_with (at_builtin;refine Mn Afo GM GV _ _ _ GV 162 (.agg #[.int .i64 0,.slice none 0 0,.int .i64 0]) 40 underlying108 Yy rfl (.slice (some ⟨w.heap.size,0,none⟩) 0 0) [] [w.heap.size] GV (Ow.empty (Ha.made _ _ _)) (Hd.one _) (some ad) xs c GV news Fy (hfy.frame fun b hb=>Below.heap_alloc _ _ _ (hFl b hb)) (.inr ⟨ad,rfl,fun j u hu=>kc ((Below.refl _ _).alloc (Nat.le_refl _) _) (hn j u hu)⟩) (fun b hb e=>by have:=hFl b hb;simp [Value.ownBlock] at e;omega) IH IA ?_);intro v2 w2 F2 hA;go_wp2_with fail
  go_ret
  have hB:Below w.heap.size w w2:=((Below.refl _ _).alloc (Nat.le_refl _) _).trans (hA.H8.below GL GL);have hs:∀b,v2.ownBlock=some b→w.heap.size≤b:=fun b hb=>by rcases hA.Ao1 with e|e <;> rw [e] at hb <;> simp [Value.ownBlock] at hb <;> omega
  refine ⟨v2,F2,rfl,JF,hA.hd,hs,fun b hb=>?_,hB⟩;rw [hA.Be5 [] (by simp [Value.ownBlock])] at hb;simp at hb;rcases hb with hb|hb
  ·exact .inl hb
  ·exact .inr (hFy b hb)
theorem Aa0 (fid:FuncId) (hbd:Xv prog fid) (caps:Array Value) (v:Value) (xs:List Ja) (F:List Nat) (p:Ja→Bool) (w:World) (h:Ow Ej 162 w v xs F) (hn:F.Nodup)
  (hp:∀(k:Nat) (hk:k < xs.length) (wr:World) (u:Value) (G:List Nat),Dn F w wr→N0 Gb wr u xs[k] G→Calls prog fid (#[u]++caps) wr fun e w'=>e=.returned (.bool (p xs[k]))∧Below wr.heap.size wr w') :
  Calls prog 223 #[v,.func (.func fid) #[] caps] w fun e w'=>∃v' F',e=.returned v'∧Ow Ej 162 w' v' (xs.filter fun x=>!p x) F'∧F'.Nodup∧(∀b∈F',b∈F)∧Dn F w w':=by
 obtain ⟨F1,hF1,hs⟩:=h.sl P5;obtain ⟨a,cap,rfl⟩:=h.slice;have hl:=h.len;unfold maxLen at hl;have hp:=Lib.hid hp
 go_enter func223,ntmps223
 go_wp2_with fail;refine (Qw fid hbd caps _ xs F1 p _ hs (fun k hk wr u G hb hu=>hp.out k hk wr u G (Dn.ofBelow hb) hu)).mono ?_;rintro e w1 ⟨rfl,hb1⟩;have hK1:=Dn.ofBelow (F:=F) hb1;by_cases hany:xs.any p=true
 ·obtain ⟨k0,hk0,hfx,hpk,hfl⟩:=Xd hany;rw [hfx];obtain ⟨g,rfl, -,hg0⟩:=Gap.start (h.below hb1) hn (ys:=xs.take k0) (zs:=xs[k0]::xs.drop (k0+1)) GL GJ;obtain ⟨F0,hg0,hF0⟩:=hg0.skip;have hG0:=Lib.hid hg0;clear hg0;have hk1:((k0:Int) == -1)=false:=by simp
  go_wp2_with fail
  go_loopw [5,6,7] (fun i j _ wr=>∃(q m:Nat) (F1:List Nat),q≤xs.length∧0 < m∧((xs.take q).filter fun x=>!p x).length+m=q∧i=.int .i64 ((xs.take q).filter fun x=>!p x).length∧j=.int .i64 q∧Hid (Gap Ej 162 wr g xs.length cap ((xs.take q).filter fun x=>!p x) m (xs.drop q) F1)∧(∀b∈F1,b∈F)∧Dn F w wr) (fun _ j _ _=>xs.length - (intOf j).toNat)
  case atStart=>exact ⟨k0+1,1,F0,hk0,GJ,IJ,IJ,HZ,by rw [C2 hk0 KH,hfl];exact hG0,hF0,hK1⟩
  case round =>
   obtain ⟨q,m,F1,hq,hm,hlen,rfl,rfl,hG,hF1,hK⟩:=hrel;obtain ⟨-,hcap, -⟩:=hG.out.caps;generalize hys:((xs.take q).filter fun x=>!p x)=ys at *;by_cases hlt:q < xs.length
   ·rw [List.drop_eq_getElem_cons hlt] at hG;obtain ⟨c,Fx,hx,hFx,hcell⟩:=hG.out.first;obtain ⟨Fx2, -,hxe⟩:=P5.Lo hx;obtain ⟨v1,rfl,h1⟩:=id hx;obtain ⟨d1,p1,rfl⟩:=h1.slice;have a0:=hcell 0 GM;have a1:=hcell 1 GM;have a2:=hcell 2 GM;simp only [hlen,show Ej.sz=3 from rfl,Nat.mul_one,Nat.add_zero,List.getElem?_cons_zero,List.getElem?_cons_succ] at a0 a1 a2;have hr:=fun A=>hp.out q hlt (wr.alloc A) _ Fx2 (hK.alloc A) ⟨_,rfl,Gb.below hxe ((Below.refl wr.heap.size wr).alloc (Nat.le_refl _) A)⟩;cases hpq:p xs[q]
    ·obtain ⟨st,c2,Fx3,hx3, -,hcell2,back⟩:=hG.out.move hm;simp only [hpq] at hr;obtain rfl:=Af3 (Ej.len hx) (Ej.len hx3) hcell hcell2;have st:=st;obtain ⟨⟨x0,z0⟩,g0⟩:=st 0 GM;obtain ⟨⟨x1,z1⟩,g1⟩:=st 1 GM;obtain ⟨⟨x2,z2⟩,g2⟩:=st 2 GM;simp only [show Ej.sz=3 from rfl,Nat.mul_one,Nat.add_zero] at z0 g0 z1 g1 z2 g2;have hr:=Lib.hid hr;have hbk:=Lib.hid back;have hpq:=Lib.hid hpq;have hys:=Lib.hid hys;have hlen:=Lib.hid hlen;have hyl:ys.length < xs.length:=by have:=hlen.out;omega
     clear hx hxe hcell hcell2 hx3 back st hfx hpk hfl;go_wp2_with fail;refine hbd.upon (hr.out _) ?_;rintro e w2 ⟨rfl,hb2⟩;refine ⟨_,rfl,?_⟩;have b2:=(Ha.below (g:=wr.heap.size) (t:=162) (cs:=[.int .i64 xs[q].Af,.slice d1 xs[q].Bm.length p1,.int .i64 xs[q].Cg]) JP hb2).cells;have hbb:=tr ((Below.refl wr.heap.size wr).alloc (Nat.le_refl _) _) hb2 (Nat.le_refl _);clear hb2;have g0:=(kf hbb z0).trans g0;have z0:=kc hbb z0;have g1:=(kf hbb z1).trans g1;have z1:=kc hbb z1;have g2:=(kf hbb z2).trans g2;have z2:=kc hbb z2;obtain ⟨F2,hg2,hF2⟩:=hbk.out w2 hbb
     simp only [Ni,show Ej.sz=3 from rfl,Nat.mul_one] at hg2;have hg2:=Lib.hid hg2;have hgF:g∈F:=hF1 g hG.out.caps.2.2.2.2.1;go_wp2_with fail;exact ⟨⟨q+1,m,F2,GJ,hm,KJ,KK,HZ,by rw [Gm hlt JG,hys.out];exact hg2.out,fun b hb=>hF1 b (hF2 b hb),KE⟩,HA⟩
    ·obtain ⟨F2,hg2,hF2⟩:=hG.out.skip;simp only [hpq] at hr;have hr:=Lib.hid hr;have hg2:=Lib.hid hg2;have hpq:=Lib.hid hpq;have hys:=Lib.hid hys;have hlen:=Lib.hid hlen;clear hx hxe hcell hfx hpk hfl;go_wp2_with fail;refine hbd.upon (hr.out _) ?_;rintro e w2 ⟨rfl,hb2⟩;refine ⟨_,rfl,?_⟩;have hbb:=tr ((Below.refl wr.heap.size wr).alloc (Nat.le_refl _) _) hb2 (Nat.le_refl _);clear hb2;go_wp2_with fail
     exact BM
   ·have hqe:q=xs.length:=by omega
    subst hqe;simp only [List.drop_length,List.take_length] at hG hys;obtain ⟨hc,F2,ho2,hn2,hF2⟩:=hG.out.done (z:=#[.int .i64 0,.slice none 0 0,.int .i64 0]) rfl;have hmm:xs.length - ys.length=m:=by omega
    have hcl:=fun ty=>Sk (P:=prog) wr 108 162 ty (.agg #[.int .i64 0,.slice none 0 0,.int .i64 0]) underlying108 (Vh Yy) (by simp [Value.cells,Value.oneCell']) g (ys.length * 3) m (cap - ys.length) hm (fun j hj=>(hc j hj).1) (fun j hj=>(hc j hj).2);have hyl:ys.length < xs.length:=by omega
    have hgF:g∈F:=hF1 g hG.out.caps.2.2.2.2.1;have hO:=Lib.hid ho2;have hlen:=Lib.hid hlen;have hys:=Lib.hid hys;clear ho2 hc hfx hpk hfl;go_wp2_with fail
    go_ret
    exact DL
 ·obtain ⟨hfx,hfl⟩:=Zy hany;rw [hfx];go_wp2_with fail
  go_ret
  exact ⟨_,F,rfl,by rw [hfl];exact h.below hb1,hn,fun b hb=>hb,hK1⟩
def Kc (c:Int) (x:Ja):Bool:=B9 x.Af && (decide (0 < x.Bm.length) && (P3 1 7 x.Bm && Eu (c+1) x.Cg (c+6)))
def Zv (c:Int) (es:List Ja) (i:Nat):Bool:=match es[i]? with
 | none=>true
 | some x=>Kc c x && !((es.take i).any fun o=>o.Af == x.Af)
theorem Jw {c:Int} {es:List Ja} {i:Nat} (h:i < es.length):Zv c es i=(Kc c es[i] && !((es.take i).any fun o=>o.Af == es[i].Af)):=by
 simp [Zv,h]
def Ba (e:Bl):Bool:=J3 e.Ai && decide (e.Ah.length≤5) && O3 (Zv e.Ai e.Ah) e.Ah.length
theorem Nr {c:Int}:J3 c=true↔0≤c∧c≤9999:=by unfold J3 Eu;simp
theorem Aum {es:List Ja} {m k:Nat} {p:Ja→Bool} (h:m < es.length) (hk:m < k) (hp:p es[m]=true):(es.take k).any p=true:=by
 rw [List.any_eq_true];exact ⟨es[m],List.mem_take_iff_getElem.2 ⟨m,GJ,rfl⟩,hp⟩
theorem Ak2 {es:List Ja} {k:Nat} {n:Int} (h:∀q,q < k→∀hq:q < es.length,es[q].Af≠n):((es.take k).any fun o=>o.Af == n)=false:=by
 rw [List.any_eq_false];intro x hx;obtain ⟨i,hi,rfl⟩:=List.mem_take_iff_getElem.1 hx;simpa using h i GJ GJ
theorem Aax {c d:Int} (h:J3 c=true) (h1:0≤d) (h2:d≤100):wrap64 (c+d)=c+d:=by
 have:=Nr.1 h;unfold wrap64;omega
theorem P8 {e:Bl} {k:Nat} (hk:k < e.Ah.length) (h:J3 e.Ai=true→Zv e.Ai e.Ah k=false):Ba e=false:=by
 unfold Ba;cases hc:J3 e.Ai
 ·rfl
 ·rw [Mf hk (h hc)];simp
theorem Yj (x:Ja) (num:Int) (b:Nat) (G:List Nat) (u:Value) (w:World) (h:N0 Gb w u x G) (hc:w.cell? ⟨b,0,none⟩=some (.int .i64 num)) :
  Calls prog 243 #[u,.pointer (some ⟨b,0,none⟩)] w fun e w'=>e=.returned (.bool (x.Af == num))∧Below w.heap.size w w':=by
 obtain ⟨_,rfl,v1,rfl, -⟩:=h;have hc1:=fun o:Obj=>kc ((Below.refl w.heap.size w).alloc (Nat.le_refl _) o) hc
 go_enter func243,ntmps243
 go_wp2
 go_ret
 exact ⟨B8 rfl,(Below.refl _ _).alloc (Nat.le_refl _) _⟩
theorem To (v:Value) (e:Bl) (F:List Nat) (w:World) (h:N0 Bt w v e F) :
  Calls prog 180 #[v] w fun e' w'=>e'=.returned (.bool (Ba e))∧Below w.heap.size w w':=by
 obtain ⟨_,rfl,v1,rfl,h1⟩:=h;obtain ⟨a,cap,rfl⟩:=h1.slice;have hl:=h1.len;unfold maxLen at hl;have hB0:∀A:Obj,Below w.heap.size w (w.alloc A):=fun A=>(Below.refl _ _).alloc (Nat.le_refl _) _
 go_enter func180,ntmps180
 go_wp2
 go_loopw [3,4,8] (fun _ _ i wr=>∃k:Nat,k≤e.Ah.length∧i=.int .i64 k∧Hid (J3 e.Ai=true→∀j,j < k→Zv e.Ai e.Ah j=true)∧Ha wr w.heap.size 110 [.int .i64 e.Ai,.slice a e.Ah.length cap]∧Below w.heap.size w wr) (fun _ _ i _=>e.Ah.length - (intOf i).toNat)
 case atStart=>exact ⟨0,Nat.zero_le _,rfl,fun _ j hj=>by omega,JP,hB0 _⟩
 case round =>
  obtain ⟨k,hk,rfl,hz,hr,hB⟩:=hrel;have c0:=hr.cells;by_cases hlt:k < e.Ah.length
  ·have hz0:=hz;clear hz;obtain ⟨b,off,_,F1,rfl,hx, -,ja⟩:=(h1.below GM hB).at k hlt;obtain ⟨u1,rfl,hf⟩:=id hx;obtain ⟨fa,fc,rfl⟩:=hf.slice;have a0:=ja 0 GM;have a1:=ja 1 GM;have a2:=ja 2 GM;simp only [show Gb.sz=3 from rfl,Nat.mul_one,Nat.add_zero,List.getElem?_cons_zero,List.getElem?_cons_succ] at a0 a1 a2;clear ja;have d0:=fun A=>(hr.alloc A).cells;have hf1:=fun A:Obj=>hf.below GM ((Below.refl wr.heap.size wr).alloc (Nat.le_refl _) A);have hB1:=fun A:Obj=>tr hB ((Below.refl wr.heap.size wr).alloc (Nat.le_refl _) A) (Nat.le_refl _)
   have hcp:=h1.caps;by_cases hfe:e.Ah[k].Bm=[]
   ·have hE:((e.Ah[k].Bm.length:Int) == 0)=true:=by simp [hfe]
    have hno:=Lib.hid (P8 hlt (fun _=>by rw [Jw hlt];simp [Kc,hfe]))
    go_wp2_with (first
     | (go_at_call 149;refine (Il _ _).mono ?_;rintro e' w' ⟨rfl,rfl⟩)
     | (go_at_call 241;refine (Aem _ _ _ _ (hf1 _)).mono ?_;rintro e' w' ⟨rfl,rfl⟩)
     | (go_at_call 57;refine (Hk _ _ _ _).mono ?_;rintro e' w' ⟨rfl,rfl⟩))
    all_goals go_ret
    all_goals exact ⟨B8 hno.out.symm,hB1 _⟩
   ·have hE:((e.Ah[k].Bm.length:Int) == 0)=false:=by simp [hfe]
    have hfe:=Lib.hid hfe
    go_wp2_with (first
     | (go_at_call 149;refine (Il _ _).mono ?_;rintro e' w' ⟨rfl,rfl⟩)
     | (go_at_call 241;refine (Aem _ _ _ _ (hf1 _)).mono ?_;rintro e' w' ⟨rfl,rfl⟩)
     | (go_at_call 57;refine (Hk _ _ _ _).mono ?_;rintro e' w' ⟨rfl,rfl⟩))
    ·have t:(!Eu (wrap64 (e.Ai+1)) e.Ah[k].Cg (wrap64 (e.Ai+6)))=true:=by assumption
     go_ret
     refine ⟨B8 (P8 hlt fun hc=>?_).symm,hB1 _⟩;rw [Aax hc GJ GJ,Aax hc GJ GJ] at t;rw [Jw hlt];simp only [Kc];simp at t;simp [t]
    ·have t1:B9 e.Ah[k].Af=true:=by assumption
     have t2:P3 1 7 e.Ah[k].Bm=true:=by assumption
     have t:(!Eu (wrap64 (e.Ai+1)) e.Ah[k].Cg (wrap64 (e.Ai+6)))=false:=by assumption
     obtain ⟨G, -,hs⟩:=h1.takeS k hk;refine (Yi _ (.mk' func243 rfl rfl) _ _ _ _ (fun o=>o.Af == e.Ah[k].Af) _ (hs.below GM (hB1 _)) ?_).mono ?_
     ·intro j hj w2 u G2 hb2 hu;exact Yj _ _ _ _ _ _ hu (kc hb2 GL)
     rintro e' w2 ⟨rfl,hb2⟩;have hr2:=(hr.alloc _).below hb2;have hB2:=tr (hB1 _) hb2 (Nat.le_refl _);have hc2:=hr2.cells;have hAt:=Lib.hid (Jw (c:=e.Ai) hlt);cases hany:(e.Ah.take k).any fun o=>o.Af == e.Ah[k].Af
     ·rw [hany] at hAt;have hany:=Lib.hid hany;go_wp2_with fail;refine ⟨⟨k+1,GJ,HZ,fun hc=>Ru (hz0.out hc) ?_,hr2,hB2⟩,HA⟩;rw [Aax hc GJ GJ,Aax hc GJ GJ] at t;rw [hAt.out];simp only [Kc,t1,t2];simp at t;simp [t,List.length_pos_iff,hfe.out]
     ·rw [hany] at hAt;have hany:=Lib.hid hany;go_wp2_with fail
      go_ret
      exact ⟨B8 (P8 hlt fun _=>by rw [hAt.out];simp).symm,hB2⟩
    ·have t:¬P3 1 7 e.Ah[k].Bm=true:=by assumption
     go_ret
     exact ET
    ·have t:¬B9 e.Ah[k].Af=true:=by assumption
     go_ret
     exact ET
  ·have hk:k=e.Ah.length:=by omega
   subst hk;have hz0:=hz;clear hz;cases hck:J3 e.Ai
   ·have hn:=Lib.hid (show Ba e=false by unfold Ba;rw [hck];rfl);have hck:=Lib.hid hck;go_wp2_with (go_at_call 148;refine (Rp _ _).mono ?_;rintro e' w' ⟨rfl,rfl⟩;rw [hck.out])
    go_ret
    exact ⟨B8 hn.out.symm,hB⟩
   ·have hn:=Lib.hid (show Ba e=decide ((e.Ah.length:Int)≤5) by unfold Ba;rw [hck,Kw (hz0.out hck)];simp;omega);have hck:=Lib.hid hck;go_wp2_with (go_at_call 148;refine (Rp _ _).mono ?_;rintro e' w' ⟨rfl,rfl⟩;rw [hck.out])
    go_ret
    exact ⟨B8 hn.out.symm,hB⟩
theorem Ah7 (v:Value) (e:Bl) (F:List Nat) (w:World) (h:N0 Bt w v e F) :
  Calls prog 131 #[v] w fun e' w'=>e'=.returned (.bool (Ba e))∧Below w.heap.size w w':=by
 obtain ⟨_,rfl,v1,rfl,h1⟩:=h;obtain ⟨a,cap,rfl⟩:=h1.slice;have hl:=h1.len;unfold maxLen at hl;have hB0:∀A:Obj,Below w.heap.size w (w.alloc A):=fun A=>(Below.refl _ _).alloc (Nat.le_refl _) _
 go_enter func131,ntmps131
 cases hck:J3 e.Ai
 ·have hn:=Lib.hid (show Ba e=false by unfold Ba;rw [hck];rfl);have hck:=Lib.hid hck;go_wp2_with (go_at_call 127;refine (Sa _ _).mono ?_;rintro e' w' ⟨rfl,rfl⟩;rw [hck.out])
  go_ret
  exact ⟨B8 hn.out.symm,hB0 _⟩
 by_cases h5:¬(e.Ah.length:Int)≤5
 ·have hn:=Lib.hid (show Ba e=false by unfold Ba;rw [hck,decide_eq_false GJ];rfl);have hck:=Lib.hid hck;go_wp2_with (go_at_call 127;refine (Sa _ _).mono ?_;rintro e' w' ⟨rfl,rfl⟩;rw [hck.out])
  go_ret
  exact ⟨B8 hn.out.symm,hB0 _⟩
 have h5:(e.Ah.length:Int)≤5:=by omega
 have hcb:=Nr.1 hck;have hgood:=Lib.hid (show Ba e=O3 (Zv e.Ai e.Ah) e.Ah.length by unfold Ba;rw [hck,decide_eq_true GJ];rfl);have hck:=Lib.hid hck;go_wp2_with (go_at_call 127;refine (Sa _ _).mono ?_;rintro e' w' ⟨rfl,rfl⟩;rw [hck.out])
 go_loopw [3,4,5] (fun i _ _ wr=>∃k:Nat,k≤e.Ah.length∧i=.int .i64 k∧Hid (∀j,j < k→Zv e.Ai e.Ah j=true)∧Ha wr w.heap.size 110 [.int .i64 e.Ai,.slice a e.Ah.length cap]∧Below w.heap.size w wr) (fun i _ _ _=>e.Ah.length - (intOf i).toNat)
 case atStart=>exact ⟨0,Nat.zero_le _,rfl,fun j hj=>by omega,JP,hB0 _⟩
 case round =>
  obtain ⟨k,hk,rfl,hz,hr,hB⟩:=hrel;have c0:=hr.cells;by_cases hlt:k < e.Ah.length
  ·have hz0:=hz;clear hz;obtain ⟨b,off,_,F1,rfl,hx, -,ja⟩:=(h1.below GM hB).at k hlt;obtain ⟨u1,rfl,hf⟩:=id hx;obtain ⟨fa,fc,rfl⟩:=hf.slice;have a0:=ja 0 GM;have a1:=ja 1 GM;have a2:=ja 2 GM;simp only [show Gb.sz=3 from rfl,Nat.add_zero,List.getElem?_cons_zero,List.getElem?_cons_succ] at a0 a1 a2;clear ja;have d0:=fun A=>(hr.alloc A).cells;have hf1:=fun A:Obj=>hf.below GM ((Below.refl wr.heap.size wr).alloc (Nat.le_refl _) A);have hB1:=fun A:Obj=>tr hB ((Below.refl wr.heap.size wr).alloc (Nat.le_refl _) A) (Nat.le_refl _);by_cases hfe:e.Ah[k].Bm=[]
   ·have hE:((e.Ah[k].Bm.length:Int) == 0)=true:=by simp [hfe]
    have hno:=Lib.hid (P8 hlt (fun _=>by rw [Jw hlt];simp [Kc,hfe]));go_wp2_with (go_at_call 128;refine (Ng _ _).mono ?_;rintro e' w' ⟨rfl,rfl⟩)
    all_goals go_ret
    all_goals exact ⟨B8 hno.out.symm,hB1 _⟩
   ·have hE:((e.Ah[k].Bm.length:Int) == 0)=false:=by simp [hfe]
    have hfe:=Lib.hid hfe;go_wp2_with (go_at_call 128;refine (Ng _ _).mono ?_;rintro e' w' ⟨rfl,rfl⟩)
    ·have t1:B9 e.Ah[k].Af=true:=by assumption
     refine (Aod _ _ _ _ (hf1 _)).mono ?_;rintro e' w2 ⟨rfl,hb2⟩;have hr2:=(hr.alloc _).below hb2;have q2:=Ha.below (g:=wr.heap.size) (t:=162) (cs:=[.int .i64 e.Ah[k].Af,.slice fa e.Ah[k].Bm.length fc,.int .i64 e.Ah[k].Cg]) JP hb2;have hB2:=tr (hB1 _) hb2 (Nat.le_refl _);have c2:=hr2.cells;have d2:=q2.cells;clear hb2;cases t2:P3 1 7 e.Ah[k].Bm
     ·have hno:=Lib.hid (P8 hlt (fun _=>by rw [Jw hlt];simp [Kc,t2]));go_wp2_with fail
      go_ret
      exact ⟨B8 hno.out.symm,hB2⟩
     cases t3:Eu (e.Ai+1) e.Ah[k].Cg (e.Ai+6)
     ·have hno:=Lib.hid (P8 hlt (fun _=>by rw [Jw hlt];simp [Kc,t3]));have t3:=Lib.hid t3;go_wp2_with (go_at_call 76;refine (Iq _ _ _ _).mono ?_;rintro e' w' ⟨rfl,rfl⟩;rw [t3.out])
      go_ret
      exact ⟨B8 hno.out.symm,hB2⟩
     have hAt:=Lib.hid (show Zv e.Ai e.Ah k = !((e.Ah.take k).any fun o=>o.Af == e.Ah[k].Af) by rw [Jw hlt];simp [Kc,t1,t2,t3,List.length_pos_iff,hfe.out]);have t3:=Lib.hid t3;clear t1 t2 hE hf1 hx;go_wp2_with (go_at_call 76;refine (Iq _ _ _ _).mono ?_;rintro e' w' ⟨rfl,rfl⟩;rw [t3.out])
     go_loopw [5] (fun j wr2=>∃m:Nat,m≤k∧j=.int .i64 m∧Hid (∀q,q < m→∀hq:q < e.Ah.length,e.Ah[q].Af≠e.Ah[k].Af)∧Ha wr2 w.heap.size 110 [.int .i64 e.Ai,.slice (some ⟨b,off,none⟩) e.Ah.length cap]∧Ha wr2 wr.heap.size 162 [.int .i64 e.Ah[k].Af,.slice fa e.Ah[k].Bm.length fc,.int .i64 e.Ah[k].Cg]∧Below w.heap.size w wr2) (fun j _=>k - (intOf j).toNat)
     case atStart=>exact ⟨0,Nat.zero_le _,rfl,fun q hq=>by omega,hr2,q2,hB2⟩
     case round =>
      obtain ⟨m,hm,rfl,hy,hr3,q3,hB3⟩:=hrel;rename_i wr2;have c3:=hr3.cells;have d3:=q3.cells;by_cases hlm:m < k
      ·have hy0:=hy;clear hy;obtain ⟨bb,oo,_,F2,he,hx2, -,jb⟩:=(h1.below GM hB3).at m GJ;cases he;obtain ⟨u2,rfl, -⟩:=hx2;have b0:=jb 0 GM;simp only [show Gb.sz=3 from rfl,Nat.add_zero,List.getElem?_cons_zero] at b0;clear jb;have hmi:m < e.Ah.length:=by omega
       by_cases hnum:e.Ah[m].Af=e.Ah[k].Af
       ·have hno:=Lib.hid (P8 hlt fun _=>by rw [hAt.out,Aum hmi hlm (by simpa using hnum)];rfl);have hEq:(e.Ah[m].Af == e.Ah[k].Af)=true:=by simpa using hnum
        go_wp2_with fail
        go_quiet (fail)
        go_wp2_with fail
        go_ret
        exact ⟨B8 hno.out.symm,Dl hB3 _⟩
       ·have hEq:(e.Ah[m].Af == e.Ah[k].Af)=false:=by simpa using hnum
        have hnum:=Lib.hid hnum;go_wp2_with fail
        go_quiet (fail)
        go_wp2_with fail;exact ⟨⟨m+1,GJ,HZ,fun q hq hql=>by rcases Nat.lt_or_eq_of_le (Nat.le_of_lt_succ hq) with h|h;exact hy0.out q h hql;subst h;exact hnum.out,hr3,q3,Dl hB3 _⟩,HA⟩
      ·have hmk:m=k:=by omega
       subst hmk;have hat:Zv e.Ai e.Ah m=true:=by
        rw [hAt.out,Ak2 hy.out];rfl
       have hat:=Lib.hid hat;have hy0:=hy;clear hy;go_wp2_with fail;exact ⟨⟨m+1,GJ,HZ,Ru hz0.out hat.out,hr3,hB3⟩,HA⟩
    ·have t:¬B9 e.Ah[k].Af=true:=by assumption
     go_ret
     exact ET
  ·have hk:k=e.Ah.length:=by omega
   subst hk;have hn:=Lib.hid (show Ba e=true by rw [hgood.out,Kw hz.out]);have hz0:=hz;clear hz;go_wp2_with fail
   go_ret
   exact ⟨B8 hn.out.symm,hB⟩
theorem N0.H8 {α:Type} {E:Bx α} {w w':World} {v x F K} (h:N0 E w v x F) (hk:Dn K w w') (hd:∀b∈F,b ∉ K):N0 E w' v x F:=by
 obtain ⟨cs,hv,h⟩:=h;exact ⟨cs,hv,E.frame h fun b hb=>hk.block b (E.lt h b hb) (hd b hb)⟩
theorem N0.lt {α:Type} {E:Bx α} {w:World} {v x F} (h:N0 E w v x F):∀b∈F,b < w.heap.size:=by
 obtain ⟨cs,hv,h⟩:=h;exact E.lt h
theorem N0.drewN {α:Type} {E:Bx α} {w:World} {v x F} (h:N0 E w v x F) (n:Nat):N0 E (w.drewN n) v x F:=by
 obtain ⟨cs,hv,h⟩:=h;exact ⟨cs,hv,E.frame h fun _ _=>rfl⟩
theorem Sl.drewN {α:Type} {E:Bx α} {w:World} {v} {xs:List α} {F} (h:Sl E w v xs F) (n:Nat):Sl E (w.drewN n) v xs F:=h.frame fun _ _=>rfl
theorem Sl.H8 {α:Type} {E:Bx α} {w w':World} {v} {xs:List α} {F K} (h:Sl E w v xs F) (hk:Dn K w w') (hd:∀b∈F,b ∉ K) (hz:0 < E.sz:=by decide):Sl E w' v xs F :=
 h.frame fun b hb=>hk.block b (h.lt hz b hb) (hd b hb)
theorem Ow.drewN {α:Type} {E:Bx α} {t:TypeId} {w:World} {v} {xs:List α} {F} (h:Ow E t w v xs F) (n:Nat):Ow E t (w.drewN n) v xs F:=h.frame fun _ _=>rfl
theorem Ha.drewN {w g t cs} (h:Ha w g t cs) (n:Nat):Ha (w.drewN n) g t cs:=h
section
variable {P:Program} {ops:Array Oper} {Q:Exit→Act→World→Prop} {md:Region.Mode} {S:World→Prop} {X:Nat→Bool}
def En (P:Program) (md:Region.Mode) (ops:Array Oper) (Q:Exit→Act→World→Prop) (S:World→Prop) (X:Nat→Bool):Nat→Array Bool→Act→World→Prop
 | 0,listed,a,w=>Region.ready md ops listed=[]∧Q .normal a w
 | f+1,listed,a,w=>(Region.ready md ops listed=[]→Q .normal a w) ∧
  ∀i∈Region.ready md ops listed,wpOp P ops Q i (fun a' w'=>(X i=false→S w')∧En P md ops Q S X f (listed.setIfInBounds i true) a' w') a w
theorem En.any:∀(f:Nat) (listed:Array Bool) (a:Act) (w:World),En P md ops Q S X f listed a w→wpAny P md ops Q f listed a w
 | 0,_,_,_,h=>h
 | f+1,_,_,_,h=>⟨h.1,fun i hi=>wpOp_mono (fun a' w' h'=>En.any f _ a' w' h'.2) (h.2 i hi)⟩
def Yh (md:Region.Mode) (ops:Array Oper) (listed:Array Bool):Prop:=∀j oj,ops[j]?=some oj→listed.getD j false=true→∀e∈oj.after,Region.binds md e=true→listed.getD e.on false=true
def Mh (md:Region.Mode) (ops:Array Oper) (listed:Array Bool):Bool :=
 (List.range ops.size).all fun j=>!listed.getD j false || ((ops[j]?).map fun o=>o.after.all fun e=>!Region.binds md e || listed.getD e.on false).getD true
theorem Ahh {listed:Array Bool} (h:Mh md ops listed=true):Yh md ops listed:=fun j oj hj hl e he hb=>by
 have h1:=List.all_eq_true.1 h j (List.mem_range.2 (Array.getElem?_eq_some_iff.1 hj).1);rw [hl,hj] at h1;simp only [Bool.not_true,Bool.false_or,Option.map_some,Option.getD_some] at h1;have h2:=Array.all_eq_true'.1 h1 e he;rw [hb] at h2;simpa using h2
theorem Yh.set {listed:Array Bool} {i:Nat} (h:Yh md ops listed) (hi:i∈Region.ready md ops listed):Yh md ops (listed.setIfInBounds i true):=fun j oj hj hl e he hb=>by
 obtain ⟨_,oi,hoi,hall⟩:=mem_ready.1 hi;by_cases hij:i=j
 ·subst hij;obtain rfl:=Option.some.inj (hj.symm.trans hoi);exact getD_set_true (hall e he hb)
 ·rw [getD_set_ne false hij] at hl;exact getD_set_true (h j oj hj hl e he hb)
def Rv (md:Region.Mode) (ops:Array Oper) (i:Nat):Nat→Nat→Bool
 | 0,_=>false
 | f+1,j=>((ops[j]?).map fun o=>o.after.any fun e=>Region.binds md e && (e.on == i || Rv md ops i f e.on)).getD false
theorem Vg {listed:Array Bool} {i:Nat} (hc:Yh md ops listed):∀(f j:Nat),(∀oj,ops[j]?=some oj→∀e∈oj.after,Region.binds md e=true→listed.getD e.on false=true)→Rv md ops i f j=true→listed.getD i false=true
 | 0,_,_,h=>by cases h
 | f+1,j,hd,h=>by
  unfold Rv at h;cases hj:ops[j]? with
  | none=>rw [hj] at h;cases h
  | some o =>
   rw [hj] at h;simp only [Option.map_some,Option.getD_some] at h;obtain ⟨e,he,hb⟩:=Array.any_eq_true'.1 h;simp only [Bool.and_eq_true,Bool.or_eq_true,beq_iff_eq] at hb;have h1:=hd o hj e he hb.1;rcases hb.2 with h2|h2
   ·rw [←h2];exact h1
   ·exact Vg hc f e.on (fun oe ho=>hc e.on oe ho h1) h2
def Lj (md:Region.Mode) (ops:Array Oper) (X:Nat→Bool) (i:Nat):Bool:=(List.range ops.size).all fun j=>!X j || Rv md ops i ops.size j
theorem W5 {listed:Array Bool} {i:Nat} (h:listed.getD i true=false):listed.getD i false=false:=by
 rcases Nat.lt_or_ge i listed.size with h'|h'
 ·simp [h'] at h ⊢;exact h
 ·simp [Array.getElem?_eq_none h'] at h
theorem En.first {i:Nat} {oi:Oper} {v:Value} (hi:ops[i]?=some oi) (hsel:∀(j:Nat) (o:Oper) cs b,ops[j]?=some o→o.op≠.select cs b)
  (hQ:∀c a w,Q (.panic c) (a.put oi.dst v) w→Q (.panic c) a w) (hX:Lj md ops X i=true) :
  ∀(f:Nat) (listed:Array Bool) (a:Act) (w:World),
   (∀j oj,ops[j]?=some oj→j≠i→listed.getD j true=false→(∀e∈oj.after,Region.binds md e=true→e.on≠i)→oi.apart ops oj=true) →
   Yh md ops listed→i∈Region.ready md ops listed→YieldsIf P ops S oi v a→S w→En P md ops Q S X f (listed.setIfInBounds i true) (a.put oi.dst v) w→En P md ops Q S X (f+1) listed a w:=by
 intro f
 induction f with
 | zero =>
  intro listed a w _ _ hr hy hS H;refine ⟨fun h=>IP,fun j hj=>?_⟩;by_cases hji:j=i
  ·exact FL
  ·have:=ready_mono hj hji;rw [H.1] at this;cases this
 | succ f ih =>
  intro listed a w hfree hcl hr hy hS H;refine ⟨fun h=>IP,fun j hj=>?_⟩;by_cases hji:j=i
  ·exact FL
  ·obtain ⟨hju,oj,hoj,hall⟩:=mem_ready.1 hj;have hiu:=W5 (mem_ready.1 hr).1;have hnot:∀e∈oj.after,Region.binds md e=true→e.on≠i:=fun e he hb heq=>by
    have h1:=hall e he hb;rw [heq,hiu] at h1;cases h1
   have hXj:X j=false:=by
    cases hx:X j
    ·rfl
    ·have h1:=List.all_eq_true.1 hX j (List.mem_range.2 (Array.getElem?_eq_some_iff.1 hoj).1);rw [hx] at h1;have h2:=Vg hcl ops.size j (fun o ho=>by obtain rfl:=Option.some.inj (ho.symm.trans hoj);exact hall) JM;rw [hiu] at h2;cases h2
   have h2:=wpOp_putIf hoj (hfree j oj hoj hji hju hnot) (fun cs b=>hsel i oi cs b hi) (fun cs b=>hsel j oj cs b hoj) hQ hy (H.2 j (ready_mono hj hji));refine wpOp_mono (fun a' w' h3=>⟨fun _=>h3.2.1 hXj,ih (listed.setIfInBounds j true) a' w' (fun k ok hk hki hun hno=>hfree k ok hk hki ?_ hno) (hcl.set hj) (ready_mono hr (Ne.symm hji)) h3.1 (h3.2.1 hXj) ?_⟩) h2
   ·by_cases hjk:j=k
    ·subst hjk;exact hju
    ·rw [getD_set_ne true hjk] at hun;exact hun
   ·rw [Array.setIfInBounds_comm _ _ hji];exact h3.2.2
theorem En.take {i:Nat} {oi:Oper} {v:Value} {f:Nat} {listed:Array Bool} {a:Act} {w:World} (hi:ops[i]?=some oi)
  (hs:Region.noSelect ops=true) (hf:Region.free md ops listed i=true) (hr:(Region.ready md ops listed).contains i=true) (hX:Lj md ops X i=true) (hc:Mh md ops listed=true)
  (hQ:∀c a w,Q (.panic c) (a.put oi.dst v) w→Q (.panic c) a w) (hy:YieldsIf P ops S oi v a) (hS:S w)
  (h:En P md ops Q S X f (listed.setIfInBounds i true) (a.put oi.dst v) w):En P md ops Q S X (f+1) listed a w :=
 En.first hi (Region.noSelect_spec hs) hQ hX f listed a w (Region.free_spec hi hf) (Ahh hc) HY hy hS h
theorem En.only {i:Nat} {o:Oper} {f:Nat} {listed:Array Bool} {a:Act} {w:World} (hr:Region.ready md ops listed=[i]) (ho:ops[i]?=some o)
  (h:∀K':Act→World→Prop,Shut (∀a w,(X i=false→S w)→En P md ops Q S X f (listed.setIfInBounds i true) a w→K' a w)→if Region.wanted o (yielded ops a.tmps)=true then Oper.wp P o a w K' Q else K' (a.put o.dst undef) w) :
  En P md ops Q S X (f+1) listed a w :=
 by
 refine ⟨fun h0=>(by rw [hr] at h0;cases h0),fun j hj=>?_⟩;rw [hr] at hj;obtain rfl:j=i:=by simpa using hj
 exact wpOp_step ho (fun K' hK=>h K' (fun a w hS hW=>hK a w ⟨hS,hW⟩))
theorem En.two {i j:Nat} {oi oj:Oper} {f:Nat} {listed:Array Bool} {a:Act} {w:World} (hr:Region.ready md ops listed=[i,j]) (hoi:ops[i]?=some oi) (hoj:ops[j]?=some oj)
  (h:∀K':Act→World→Prop,Shut (∀a w,(X i=false→S w)→En P md ops Q S X f (listed.setIfInBounds i true) a w→K' a w)→if Region.wanted oi (yielded ops a.tmps)=true then Oper.wp P oi a w K' Q else K' (a.put oi.dst undef) w)
  (h2:∀K':Act→World→Prop,Shut (∀a w,(X j=false→S w)→En P md ops Q S X f (listed.setIfInBounds j true) a w→K' a w)→if Region.wanted oj (yielded ops a.tmps)=true then Oper.wp P oj a w K' Q else K' (a.put oj.dst undef) w) :
  En P md ops Q S X (f+1) listed a w:=by
 refine ⟨fun h0=>(by rw [hr] at h0;cases h0),fun k hk=>?_⟩;rw [hr] at hk;simp only [List.mem_cons,List.not_mem_nil,or_false] at hk;rcases hk with rfl|rfl
 ·exact wpOp_step hoi (fun K' hK=>h K' (fun a w hS hW=>hK a w ⟨hS,hW⟩))
 ·exact wpOp_step hoj (fun K' hK=>h2 K' (fun a w hS hW=>hK a w ⟨hS,hW⟩))
theorem En.done {listed:Array Bool} {a:Act} {w:World} (hr:Region.ready md ops listed=[]) (h:Q .normal a w):∀f,En P md ops Q S X f listed a w
 | 0=>⟨hr,h⟩
 | _+1=>⟨fun _=>h,by rw [hr];simp⟩
theorem En.start {id:Nat} {a:Act} {w:World} (hm:P.follows .mixedOrders=true) (h:En P .any ops Q S X ops.size (Array.replicate ops.size false) a w.drew):(Code.region id ops true).wp P Q a w :=
 wp_region_any hm (En.any _ _ _ _ h)
end
inductive Pc:Type 1
 | row (g:Nat) (t:TypeId) (o:Nat) (A cs B:List Value)
 | sl {α:Type} (E:Bx α) (v:Value) (xs:List α) (F:List Nat)
 | ow {α:Type} (E:Bx α) (t:TypeId) (v:Value) (xs:List α) (F:List Nat)
 | isv {α:Type} (E:Bx α) (v:Value) (x:α) (F:List Nat)
 | own {α:Type} (E:Bx α) (v:Value) (x:α) (F:List Nat)
 | cel (b o:Nat) (cs:List Value)
 | flat {α:Type} (E:Bx α) (cs:List Value) (xs:List α) (F:List Nat)
def Pc.P:Pc→World→Prop
 | .row g t o A cs B,w=>A.length=o∧Ha w g t (A++cs++B)
 | .sl E v xs F,w=>0 < E.sz∧Sl E w v xs F
 | .ow E t v xs F,w=>F.Nodup∧Ow E t w v xs F
 | .isv E v x F,w=>N0 E w v x F
 | .own E v x F,w=>F.Nodup∧N0 E w v x F
 | .cel b o cs,w=>cs≠[]∧w.rangeAt b o cs
 | .flat E cs xs F,w=>F.Nodup∧Cw E w cs xs F
def Pc.F:Pc→List Nat
 | .row g ..=>[g]
 | .sl _ _ _ F|.ow _ _ _ _ F|.isv _ _ _ F|.own _ _ _ F|.flat _ _ _ F=>F
 | .cel b ..=>[b]
def Pc.mu:Pc→Bool
 | .row .. | .ow .. | .own .. | .flat ..=>true
 | _=>false
theorem Pc.st (p:Pc) {w w':World} (h:p.P w) (hF:∀b∈p.F,w'.heap[b]?=w.heap[b]?):p.P w':=by
 cases p with
 | row g t o A cs B=>exact ⟨h.1,h.2.H8 (hF g JK)⟩
 | sl E v xs F=>exact ⟨h.1,h.2.frame hF⟩
 | ow E t v xs F=>exact ⟨h.1,h.2.frame hF⟩
 | isv E v x F=>obtain ⟨cs,hv,h⟩:=h;exact ⟨cs,hv,E.frame h hF⟩
 | own E v x F=>obtain ⟨hn,cs,hv,h⟩:=h;exact ⟨hn,cs,hv,E.frame h hF⟩
 | cel b o cs=>exact ⟨h.1,fun j v hv=>(World.cell?_of_block (w:=w) (hF b JK)).trans (h.2 j v hv)⟩
 | flat E cs xs F=>exact ⟨h.1,h.2.frame hF⟩
theorem Pc.lt (p:Pc) {w:World} (h:p.P w):∀b∈p.F,b < w.heap.size:=by
 cases p with
 | row g t o A cs B=>intro b hb;simp [Pc.F] at hb;subst hb;exact h.2.lt
 | sl E v xs F=>exact h.2.lt h.1
 | ow E t v xs F=>exact h.2.lt
 | isv E v x F=>obtain ⟨cs,hv,h⟩:=h;exact E.lt h
 | own E v x F=>obtain ⟨_,cs,hv,h⟩:=h;exact E.lt h
 | cel b o cs =>
  intro c hc;simp [Pc.F] at hc;subst hc;cases cs with
  | nil=>exact absurd rfl h.1
  | cons v r=>exact World.block_lt_of_cell? w _ (h.2 0 v rfl)
 | flat E cs xs F=>exact h.2.lt
def Acd (p q:Pc):Prop:=(p.mu || q.mu)=true→∀b∈p.F,b ∉ q.F
theorem Acd.symm {p q:Pc} (h:Acd p q):Acd q p:=fun hm b hb hp=>h (by rw [Bool.or_comm];exact hm) b hp hb
def Sq:List Pc→Prop
 | []=>True
 | p::R=>(∀q∈R,Acd p q)∧Sq R
def O2 (H:List Pc) (w:World):Prop:=∀p∈H,p.P w
theorem I9 {p:Pc} {w:World} (h:p.P w):O2 [p] w:=fun q hq=>by simp at hq;subst hq;exact h
def fp:List Pc→List Nat
 | []=>[]
 | p::R=>p.F++fp R
theorem Q0 {b:Nat}:∀{H:List Pc},b∈fp H↔∃p∈H,b∈p.F
 | []=>by simp [fp]
 | p::R=>by simp [fp,Q0 (H:=R)]
theorem O2.st {H:List Pc} {w w':World} (h:O2 H w) (hF:∀p∈H,∀b∈p.F,w'.heap[b]?=w.heap[b]?):O2 H w':=fun p hp=>p.st (h p hp) (hF p hp)
theorem O2.below {H:List Pc} {w w':World} (h:O2 H w) (hb:Below w.heap.size w w'):O2 H w':=h.st fun p hp b hm=>hb.block b (p.lt (h p hp) b hm)
structure St (G D:List Nat) (w0:World) (H:List Pc) (w:World):Prop where
 H8:Dn G w0 w
 on:O2 H w
 sep:Sq H
 Abs:∀p∈H,∀b∈p.F,b∈G∨w0.heap.size≤b∨(p.mu=false∧b∈D)
section
variable {G D:List Nat} {w0:World}
theorem Sq.perm2 {p q:Pc} {R:List Pc} (h:Sq (p::q::R)):Sq (q::p::R) :=
 ⟨fun x hx=>by
  rcases List.mem_cons.1 hx with rfl|hx
  ·exact (h.1 q GL).symm
  ·exact h.2.1 x hx,fun x hx=>h.1 x IX,h.2.2⟩
inductive Cz:List Pc→Pc→List Pc→Prop
 | here {p R}:Cz (p::R) p R
 | there {x p R R'}:Cz R p R'→Cz (x::R) p (x::R')
theorem Cz.mem {H p R} (h:Cz H p R):p∈H:=by
 induction h with
 | here=>simp
 | there _ ih=>simp [ih]
theorem Cz.sub {H p R} (h:Cz H p R):∀q∈R,q∈H:=by
 induction h with
 | here=>intro q hq;simp [hq]
 | there _ ih =>
  intro q hq;rcases List.mem_cons.1 hq with rfl|hq
  ·simp
  ·simp [ih q hq]
theorem Cz.sep {H p R} (h:Cz H p R) (hs:Sq H):Sq (p::R):=by
 induction h with
 | here=>exact hs
 | @there x p R R' h ih =>
  have h2:=ih hs.2;exact Sq.perm2 ⟨fun q hq=>by
   rcases List.mem_cons.1 hq with rfl|hq
   ·exact hs.1 _ h.mem
   ·exact hs.1 _ (h.sub q hq),h2⟩
theorem St.pick {H p R w} (s:St G D w0 H w) (h:Cz H p R):St G D w0 (p::R) w :=
 ⟨s.H8,fun q hq=>by
  rcases List.mem_cons.1 hq with rfl|hq
  ·exact s.on _ h.mem
  ·exact s.on _ (h.sub q hq),h.sep s.sep,fun q hq=>by
  rcases List.mem_cons.1 hq with rfl|hq
  ·exact s.Abs _ h.mem
  ·exact s.Abs _ (h.sub q hq)⟩
theorem St.tail {p R w} (s:St G D w0 (p::R) w):St G D w0 R w:=⟨s.H8,fun q hq=>s.on q HG,s.sep.2,fun q hq=>s.Abs q HG⟩
theorem St.get {H p w} (s:St G D w0 H w) (h:p∈H):p.P w:=s.on p h
theorem St.turn {M R N:List Pc} {w w':World} (s:St G D w0 (M++R) w) (hk:Dn (fp (M.filter (·.mu))) w w') (hN:O2 N w') (hs:Sq N)
  (hF:∀p∈N,∀b∈p.F,w.heap.size≤b∨(∃q∈M,q.mu=true∧b∈q.F)∨(p.mu=false∧∃q∈M++R,q.mu=false∧b∈q.F)):St G D w0 (N++R) w':=by
 have hsep:∀(A B:List Pc),Sq (A++B)→Sq A∧Sq B∧∀p∈A,∀q∈B,Acd p q:=by
  intro A
  induction A with
  | nil=>intro B h;exact ⟨trivial,h,GL⟩
  | cons p A ih =>
   intro B h;obtain ⟨h1,h2,h3⟩:=ih B h.2;exact ⟨⟨fun q hq=>h.1 q HG,h1⟩,h2,fun x hx q hq=>by
    rcases List.mem_cons.1 hx with rfl|hx
    ·exact h.1 q HG
    ·exact h3 x hx q hq⟩
 have hjoin:∀(A B:List Pc),Sq A→Sq B→(∀p∈A,∀q∈B,Acd p q)→Sq (A++B):=by
  intro A
  induction A with
  | nil=>intro B _ h _;exact h
  | cons p A ih =>
   intro B hA hB h;exact ⟨fun q hq=>by
    rcases List.mem_append.1 hq with hq|hq
    ·exact hA.1 q hq
    ·exact h p GL q hq,ih B hA.2 hB fun x hx q hq=>h x IX q hq⟩
 obtain ⟨sM,sR,sMR⟩:=hsep M R s.sep;have hRlt:∀q∈R,∀b∈q.F,b < w.heap.size:=fun q hq=>q.lt (s.on q HG);have hMR:∀q∈R,∀b∈q.F,b ∉ fp (M.filter (·.mu)):=fun q hq b hb hm=>by
  obtain ⟨p,hp,hpb⟩:=Q0.1 hm;obtain ⟨hp,hmu⟩:=List.mem_filter.1 hp;exact sMR p hp q hq (by simp [hmu]) b hpb hb
 have hG:∀b∈fp (M.filter (·.mu)),b∈G∨w0.heap.size≤b:=fun b hb=>by
  obtain ⟨p,hp,hpb⟩:=Q0.1 hb;obtain ⟨hp,hmu⟩:=List.mem_filter.1 hp;rcases s.Abs p IR b hpb with h|h|⟨h,_⟩
  ·exact .inl h
  ·exact .inr h
  ·rw [hmu] at h;cases h
 refine ⟨⟨hk.os.trans s.H8.os,hk.tape.trans s.H8.tape,hk.output.trans s.H8.output,Nat.le_trans s.H8.size hk.size,fun k hlt hn=>(hk.block k (Nat.lt_of_lt_of_le hlt s.H8.size) fun hm=>?_).trans (s.H8.block k hlt hn)⟩,fun p hp=>?_,hjoin N R hs sR fun p hp q hq hmu b hb hqb=>?_,fun p hp b hb=>?_⟩
 ·rcases hG k hm with h|h
  ·exact hn h
  ·omega
 ·rcases List.mem_append.1 hp with hp|hp
  ·exact hN p hp
  ·exact p.st (s.on p IR) fun b hb=>hk.block b (hRlt p hp b hb) (hMR p hp b hb)
 ·rcases hF p hp b hb with h|⟨m,hm,hmm,hmb⟩|⟨hpm,m,hm,hmm,hmb⟩
  ·have:=hRlt q hq b hqb;omega
  ·exact sMR m hm q hq (by simp [hmm]) b hmb hqb
  ·have hqm:q.mu=true:=by simpa [hpm] using hmu
   rcases List.mem_append.1 hm with hm|hm
   ·exact sMR m hm q hq (by simp [hqm]) b hmb hqb
   ·-- two pieces of R
    have:∀(R:List Pc),Sq R→∀m∈R,∀q∈R,m.mu=false→q.mu=true→∀b∈m.F,b ∉ q.F:=by
     intro R
     induction R with
     | nil=>intro _ m hm;simp at hm
     | cons x R ih =>
      intro hs m hm q hq h1 h2 b hb hqb;rcases List.mem_cons.1 hm with e|hm2
      ·subst e;rcases List.mem_cons.1 hq with e|hq2
       ·subst e;rw [h1] at h2;cases h2
       ·exact hs.1 q hq2 (by simp [h2]) b hb hqb
      ·rcases List.mem_cons.1 hq with e|hq2
       ·subst e;exact hs.1 m hm2 (by simp [h2]) b hqb hb
       ·exact ih hs.2 m hm2 q hq2 h1 h2 b hb hqb
    exact this R sR m hm q hq hmm hqm b hmb hqb
 ·rcases List.mem_append.1 hp with hp|hp
  ·rcases hF p hp b hb with h|⟨m,hm,hmm,hmb⟩|⟨hpm,m,hm,hmm,hmb⟩
   ·right;left;exact Nat.le_trans s.H8.size h
   ·rcases s.Abs m (by simp [hm]) b hmb with h|h|⟨h,_⟩
    ·exact .inl h
    ·exact .inr (.inl h)
    ·rw [hmm] at h;cases h
   ·rcases s.Abs m hm b hmb with h|h|⟨_,h⟩
    ·exact .inl h
    ·exact .inr (.inl h)
    ·exact .inr (.inr ⟨hpm,h⟩)
  ·exact s.Abs p IR b hb
end
abbrev Fr:=List (Nat × Value)
def Qz:Fr→Nat→Option Value
 | [],_=>none
 | (k,v)::r,t=>bif Nat.beq k t then some v else Qz r t
def ev (fr:Fr):Operand→Option Value
 | .tmp t=>Qz fr t
 | .const v=>some v
 | .global g=>some (.pointer (some ⟨g,0,none⟩))
 | .func f=>some (.func (.func f) #[] #[])
inductive Evs (fr:Fr):List Operand→List Value→Prop
 | nil:Evs fr [] []
 | cons {x v xs vs}:ev fr x=some v→Evs fr xs vs→Evs fr (x::xs) (v::vs)
structure Ag (n:Nat) (fr:Fr) (a:Act):Prop where
 df:a.defers=[]
 sz:a.tmps.size=n
 at_:∀t v,Qz fr t=some v→a.tmps[t]?=some v
theorem Ag.ev {n fr a x v} (h:Ag n fr a) (hx:ev fr x=some v):a.eval x=v:=by
 cases x with
 | tmp t=>have:=h.at_ t v hx;simp [Act.eval,Array.getD_eq_getD_getElem?,this]
 | const u=>simp [Go.Proofs.YtkagnmekdkchiaaGreatDoor.ev] at hx;subst hx;rfl
 | global g=>simp [Go.Proofs.YtkagnmekdkchiaaGreatDoor.ev] at hx;subst hx;rfl
 | func f=>simp [Go.Proofs.YtkagnmekdkchiaaGreatDoor.ev] at hx;subst hx;rfl
theorem Ag.evs {n fr a xs vs} (h:Ag n fr a) (hx:Evs fr xs vs):xs.map a.eval=vs:=by
 induction hx with
 | nil=>rfl
 | cons hx _ ih=>simp [h.ev hx,ih]
theorem T7 (k:Nat) (v:Value) (r:Fr) (t:Nat):Qz ((k,v)::r) t=if k=t then some v else Qz r t:=by
 show (bif Nat.beq k t then some v else Qz r t)=_;by_cases h:k=t
 ·subst h;simp
 ·have:Nat.beq k t=false:=by
   cases hb:Nat.beq k t
   ·rfl
   ·exact absurd (Nat.eq_of_beq_eq_true hb) h
  rw [this,if_neg h];rfl
theorem Ag.put {n fr a d v} (h:Ag n fr a) (hd:Nat.blt d n=true):Ag n ((d,v)::fr) (a.put (some d) v):=by
 have hd':d < n:=by simpa using hd
 refine ⟨h.df,by simp [Act.put,h.sz],fun t u hu=>?_⟩;rw [T7] at hu;show (a.tmps.setIfInBounds d v)[t]?=_;rw [Array.getElem?_setIfInBounds]
 split at hu
 ·rename_i e;subst e;simp at hu;subst hu;rw [if_pos rfl,if_pos (by rw [h.sz];exact hd')]
 ·rename_i e;rw [if_neg e];exact h.at_ t u hu
inductive L9 (fr:Fr):Fr→Prop
 | nil:L9 fr []
 | cons {t v r}:Qz fr t=some v→L9 fr r→L9 fr ((t,v)::r)
theorem L9.Qz {fr fr':Fr} (h:L9 fr fr'):∀t v,Qz fr' t=some v→Qz fr t=some v:=by
 induction h with
 | nil=>intro t v hv;cases hv
 | cons h1 _ ih =>
  intro t v hv;rw [T7] at hv
  split at hv
  ·rename_i e;subst e;rw [←hv];exact h1
  ·exact ih t v hv
theorem Ag.sub {n fr fr' a} (h:Ag n fr a) (hs:L9 fr fr'):Ag n fr' a:=⟨h.df,h.sz,fun t v hv=>h.at_ t v (hs.Qz t v hv)⟩
structure Cx where
 P:Program
 G:List Nat
 D:List Nat
 w0:World
 n:Nat
 R:Exit→Act→World→Prop
inductive It
 | cd (c:Code)
 | blk (id:Nat)
 | lp (I:Act→World→Prop)
def run (c:Cx):List It→Exit→Act→World→Prop
 | []=>c.R
 | .cd y::k=>Exit.then (fun a w=>y.wp c.P (run c k) a w) (run c k)
 | .blk id::k=>Exit.inBlock id (run c k)
 | .lp I::k=>Exit.then I (run c k)
inductive Gl
 | code (k:List It) (x:Code)
 | list (k:List It) (ops:Array Oper) (l:List Oper)
 | norm (k:List It)
 | exit (k:List It) (id:Nat)
 | fin (e:Exit)
 | dx (k:List It) (H0:List Pc) (X:List Nat) (ops:Array Oper) (f:Nat) (listed:Array Bool)
 | dk (i:Nat) (k:List It) (H0:List Pc) (X:List Nat) (ops:Array Oper) (f:Nat) (listed:Array Bool)
def Gl.sem (c:Cx):Gl→Act→World→Prop
 | .code k x,a,w=>x.wp c.P (run c k) a w
 | .list k ops l,a,w=>wpList c.P ops (run c k) l a w
 | .norm k,a,w=>run c k .normal a w
 | .exit k id,a,w=>run c k (.exit id) a w
 | .fin e,a,w=>c.R e a w
 | .dx k H0 X ops f listed,a,w=>En c.P .any ops (run c k) (O2 H0) (fun i=>X.contains i) f listed a w
 | .dk i k H0 X ops f listed,a,w=>(X.contains i=false→O2 H0 w)∧En c.P .any ops (run c k) (O2 H0) (fun i=>X.contains i) f listed a w
structure T (c:Cx) (fr:Fr) (H:List Pc) (Φ:Gl):Prop where
 h:∀a w,St c.G c.D c.w0 H w→Ag c.n fr a→Φ.sem c a w
theorem Ad4 (c:Cx):∀(k:List It),run c k .ret=c.R .ret
 | []=>rfl
 | .cd _::k=>Ad4 c k
 | .blk _::k=>Ad4 c k
 | .lp _::k=>Ad4 c k
theorem L8 (c:Cx) (ch:List PanicEntry):∀(k:List It),run c k (.panic ch)=c.R (.panic ch)
 | []=>rfl
 | .cd _::k=>L8 c ch k
 | .blk _::k=>L8 c ch k
 | .lp _::k=>L8 c ch k
inductive Ku:List Pc→List Pc→Prop
 | nil {A}:Ku A []
 | cons {A p R B}:Cz A p R→Ku R B→Ku A (p::B)
section
variable {c:Cx} {fr:Fr} {H:List Pc} {k:List It} {Φ:Gl}
theorem Ku.st {G D w0 w} {H H':List Pc} (h:Ku H H'):∀{X:List Pc},St G D w0 H w→Sq X→(∀p∈X,∀q∈H,Acd p q)→(∀p∈X,p.P w∧∀b∈p.F,b∈G∨w0.heap.size≤b∨(p.mu=false∧b∈D)) →
  (∀q∈H',q∈H)∧Sq H':=by
 induction h with
 | nil=>intro X _ _ _ _;exact ⟨GL,trivial⟩
 | @cons A p R B hp hs ih =>
  intro X s hX hXa hXp;have s1:=s.pick hp;have ⟨h1,h2⟩:=ih (X:=[]) s1.tail trivial GL GL;exact ⟨fun q hq=>by
   rcases List.mem_cons.1 hq with rfl|hq
   ·exact hp.mem
   ·exact hp.sub q (h1 q hq),fun q hq=>s1.sep.1 q (h1 q hq),h2⟩
theorem St.sub {G D w0 w} {H H':List Pc} (s:St G D w0 H w) (h:Ku H H'):St G D w0 H' w :=
 have ⟨h1,h2⟩:=h.st (X:=[]) s trivial GL GL
 ⟨s.H8,fun p hp=>s.on p (h1 p hp),h2,fun p hp=>s.Abs p (h1 p hp)⟩
theorem Beg (H':List Pc) (h:T c fr H' Φ) (hs:Ku H H':=by repeat (first|exact Ku.nil|refine Ku.cons IM ?_)):T c fr H Φ:=.mk fun a w s g=>h.h a w (s.sub hs) g
theorem Vb {p:Pc} (h:T c fr H Φ):T c fr (p::H) Φ:=.mk fun a w s g=>h.h a w s.tail g
/-! the rules of control -/
theorem Sx {x y:Code} (h:T c fr H (.code (.cd y::k) x)):T c fr H (.code k (Code.seq x y)):=.mk fun a w s g=>wp_seq (h.h a w s g)
theorem V9 (h:T c fr H (.norm k)):T c fr H (.code k Code.skip):=.mk fun a w s g=>wp_skip (h.h a w s g)
theorem Aut (h:T c fr H (.fin .ret)):T c fr H (.code k Code.ret):=.mk fun a w s g=>wp_ret (by rw [Ad4];exact h.h a w s g)
theorem Anq {id:Nat} (h:T c fr H (.exit k id)):T c fr H (.code k (Code.exit id)):=.mk fun a w s g=>wp_exit (h.h a w s g)
theorem Sw {id:Nat} {x:Code} (h:T c fr H (.code (.blk id::k) x)):T c fr H (.code k (Code.block id x)):=.mk fun a w s g=>wp_block (h.h a w s g)
theorem Apv {id:Nat} {l:List Oper} (h:T c fr H (.list k l.toArray l)):T c fr H (.code k (Code.region id l.toArray false)):=.mk fun a w s g=>wp_region_lit (h.h a w s g)
theorem c_t {x:Operand} {y z:Code} (hc:ev fr x=some (.bool true)) (h:T c fr H (.code k y)):T c fr H (.code k (Code.cond x y z)):=.mk fun a w s g=>wp_cond_true (g.ev hc) (h.h a w s g)
theorem c_f {x:Operand} {y z:Code} (hc:ev fr x=some (.bool false)) (h:T c fr H (.code k z)):T c fr H (.code k (Code.cond x y z)):=.mk fun a w s g=>wp_cond_false (g.ev hc) (h.h a w s g)
theorem Be {x:Operand} {y z:Code} {p:Prop} {_:Decidable p} (hc:ev fr x=some (.bool (decide p))) (h1:p→T c fr H (.code k y)) (h2:¬p→T c fr H (.code k z)) :
  T c fr H (.code k (Code.cond x y z)):=.mk fun a w s g=>by
 by_cases hp:p
 ·exact wp_cond_true (by rw [g.ev hc,decide_eq_true hp]) ((h1 hp).h a w s g)
 ·exact wp_cond_false (by rw [g.ev hc,decide_eq_false hp]) ((h2 hp).h a w s g)
theorem Adm {y:Code} (h:T c fr H (.code k y)):T c fr H (.norm (.cd y::k)):=⟨h.h⟩
theorem Afk {id:Nat} (h:T c fr H (.norm k)):T c fr H (.norm (.blk id::k)):=⟨h.h⟩
theorem Bd5 (h:T c fr H (.fin .normal)):T c fr H (.norm []):=⟨h.h⟩
theorem Bby {y:Code} {id:Nat} (h:T c fr H (.exit k id)):T c fr H (.exit (.cd y::k) id):=⟨h.h⟩
theorem Bbz {I:Act→World→Prop} {id:Nat} (h:T c fr H (.exit k id)):T c fr H (.exit (.lp I::k) id):=⟨h.h⟩
theorem Au0 {id:Nat} (h:T c fr H (.norm k)):T c fr H (.exit (.blk id::k) id):=.mk fun a w s g=>by
 show (if id=id then run c k .normal a w else run c k (.exit id) a w);rw [if_pos rfl];exact h.h a w s g
theorem Anz {id id':Nat} (hne:Nat.beq id' id=false) (h:T c fr H (.exit k id')):T c fr H (.exit (.blk id::k) id'):=.mk fun a w s g=>by
 show (if id'=id then run c k .normal a w else run c k (.exit id') a w);rw [if_neg (fun e=>by rw [e] at hne;simp at hne)];exact h.h a w s g
theorem Aav {ops:Array Oper} (h:T c fr H (.norm k)):T c fr H (.list k ops []):=⟨h.h⟩
/-! loops -/
theorem Aff {p:Nat→Prop}:∀n,p n→∃m,p m∧∀j,p j→m≤j:=fun n=>by
 induction n using Nat.strongRecOn with
 | _ n ih =>
  intro hn;by_cases h:∃j,j < n∧p j
  ·obtain ⟨j,hj,hp⟩:=h;exact ih j hj hp
  ·exact ⟨n,hn,fun j hj=>Nat.le_of_not_lt fun hl=>h ⟨j,hl,hj⟩⟩
theorem Atu {P:Program} {Q:Exit→Act→World→Prop} {x:Code} {a:Act} {w:World} (I:Nat→Act→World→Prop) (m:Nat) (h0:I m a w)
  (round:∀m a w,I m a w→x.wp P (Exit.then (fun a' w'=>∃m',m' < m∧I m' a' w') Q) a w):(Code.loop x).wp P Q a w:=by
 classical
 refine wp_loop (fun a w=>∃m,I m a w) (fun a w=>if h:∃m,I m a w then Classical.choose (Aff (p:=fun m=>I m a w) h.choose h.choose_spec) else 0) ⟨m,h0⟩ fun a w hI=>?_;have hl:=Classical.choose_spec (Aff (p:=fun m=>I m a w) hI.choose hI.choose_spec);refine wp_mono (round _ a w hl.1) fun e a' w' he=>?_;cases e with
 | normal =>
  obtain ⟨m',hm,hi⟩:=he;have hex:∃m,I m a' w':=⟨m',hi⟩;refine ⟨hex,?_⟩;simp only [dif_pos hI,dif_pos hex];exact Nat.lt_of_le_of_lt ((Classical.choose_spec (Aff (p:=fun m=>I m a' w') hex.choose hex.choose_spec)).2 m' hi) hm
 | _=>exact he
def LpI {σ:Type} (c:Cx) (fr':σ→Fr) (H':σ→List Pc) (C:σ→Prop) (μ:σ→Nat) (m:Nat) (a:Act) (w:World):Prop:=∃s,C s∧μ s=m∧St c.G c.D c.w0 (H' s) w∧Ag c.n (fr' s) a
def LpN {σ:Type} (c:Cx) (fr':σ→Fr) (H':σ→List Pc) (C:σ→Prop) (μ:σ→Nat) (m:Nat) (a:Act) (w:World):Prop:=∃m',m' < m∧LpI c fr' H' C μ m' a w
theorem Aus {x:Code} {σ:Type} (fr':σ→Fr) (H':σ→List Pc) (C:σ→Prop) (μ:σ→Nat) (s0:σ) (h0:C s0)
  (round:∀s,C s→T c (fr' s) (H' s) (.code (.lp (LpN c fr' H' C μ (μ s))::k) x)) (hf:L9 fr (fr' s0):=by repeat (first|exact L9.nil|refine L9.cons GV ?_)) (hH:Ku H (H' s0):=by repeat (first|exact Ku.nil|refine Ku.cons IM ?_)):T c fr H (.code k (Code.loop x)):=.mk fun a w st g=>by
 refine Atu (LpI c fr' H' C μ) (μ s0) ⟨s0,h0,rfl,st.sub hH,g.sub hf⟩ fun m a w hI=>?_;obtain ⟨s,hC,rfl,hst,hg⟩:=hI;exact (round s hC).h a w hst hg
theorem Cu {σ:Type} {fr':σ→Fr} {H':σ→List Pc} {C:σ→Prop} {μ:σ→Nat} {m:Nat} (s:σ) (hC:C s) (hm:μ s < m) (hf:L9 fr (fr' s):=by repeat (first|exact L9.nil|refine L9.cons GV ?_)) (hH:Ku H (H' s):=by repeat (first|exact Ku.nil|refine Ku.cons IM ?_)) :
  T c fr H (.norm (.lp (LpN c fr' H' C μ m)::k)):=.mk fun _ _ st g=>⟨μ s,hm,s,hC,rfl,st.sub hH,g.sub hf⟩
end
class OneC (P:Program) (t:TypeId):Prop where
 d:∃d,P.underlying t=some d∧d.isRow=false
 s:(P.info? t).map (·.size)=some 1
class AggC (P:Program) (t:TypeId) (n:outParam Nat):Prop where
 d:∃d,P.underlying t=some d∧d.isRow=true
 s:(P.info? t).map (·.size)=some n
class FldC (P:Program) (t:TypeId) (i:Nat) (off:outParam Nat) (ft:outParam TypeId) (n:outParam Nat):Prop where
 f:∃fs f,P.underlying t=some (.struct fs)∧fs[i]?=some f∧f.offset=off∧f.type=ft
 s:(P.info? ft).map (·.size)=some n
 p:n≠0
class SlC (P:Program) (t:TypeId) (e:outParam TypeId) (n:outParam Nat):Prop where
 u:P.underlying t=some (.slice e)
 s:(P.info? e).map (·.size)=some n
class IntC (P:Program) (t:TypeId) (k:outParam IntKind):Prop where
 u:P.underlying t=some (.int k)
class StrC (P:Program) (t:TypeId):Prop where
 u:P.underlying t=some .string
class BoolC (P:Program) (t:TypeId):Prop where
 u:P.underlying t=some .bool
def Hm (g o j:Nat):Value:=.pointer (some ⟨g,o+j,none⟩)
structure Yd (P:Program) (n:Nat) (fr:Fr) (H:List Pc) (o:Op) (ty:TypeId) (v:Value):Prop where
 h:∀(a:Act) (w:World) (d:Option Tmp) (pos:String) (Ce:Array Edge) (g:Option (Nat × Bool)),Ag n fr a→O2 H w→(execOp a.eval ⟨d,o,ty,pos,Ce,g⟩).run P w=.ok (.value v) w
theorem Acv (a b:ByteArray):(a.toList == b.toList)=decide (a=b):=by
 rw [Bool.eq_iff_iff];simp only [beq_iff_eq,decide_eq_true_eq,ByteArray.toList_eq];exact ⟨fun h=>ByteArray.ext (Array.ext' h),fun h=>by rw [h]⟩
section
variable {P:Program} {n:Nat} {fr:Fr} {H:List Pc} {ty:TypeId} {v u:Value} {x y z:Operand}
theorem Mk {t:TypeId} {n:Nat} (h:(P.info? t).map (·.size)=some n) (w:World):(sizeOf t).run P w=.ok n w:=by
 obtain ⟨i,hi,hn⟩:=Option.map_eq_some_iff.1 h;simp [sizeOf,typeInfo,hi,hn]
theorem All {t:TypeId} (h:∃d,P.underlying t=some d∧d.isRow=false) (w:World):(isAgg t).run P w=.ok false w:=by
 obtain ⟨d,hu,hd⟩:=h;unfold isAgg;rw [Sem.run_bind,run_underlying hu w];cases d <;> simp_all
theorem Ary {t:TypeId} (h:∃d,P.underlying t=some d∧d.isRow=true) (w:World):(isAgg t).run P w=.ok true w:=by
 obtain ⟨d,hu,hd⟩:=h;unfold isAgg;rw [Sem.run_bind,run_underlying hu w];cases d <;> simp_all
theorem Bav (hx:ev fr x=some v):Yd P n fr H (.move x) ty v:=.mk fun a w d pos Ce g hA _=>by
 simp [execOp,hA.ev hx]
theorem Atv (hx:ev fr x=some v):Yd P n fr H (.assign x) ty v:=.mk fun a w d pos Ce g hA _=>by
 simp [execOp,hA.ev hx]
theorem Atx (hc:ev fr x=some (.bool true)) (hy:ev fr y=some v):Yd P n fr H (.pick x y z) ty v:=.mk fun a w d pos Ce g hA _=>by
 simp [execOp,hA.ev hc,hA.ev hy,asBool]
theorem Atw (hc:ev fr x=some (.bool false)) (hz:ev fr z=some v):Yd P n fr H (.pick x y z) ty v:=.mk fun a w d pos Ce g hA _=>by
 simp [execOp,hA.ev hc,hA.ev hz,asBool]
theorem Aak {w:World} {g t o j:Nat} {A cs B:List Value} (h:(Pc.row g t o A cs B).P w) (hv:cs[j]?=some v):w.cell? ⟨g,o+j,none⟩=some v:=by
 obtain ⟨rfl,h⟩:=h;rw [h.cellMid rfl (List.getElem?_eq_some_iff.1 hv).1];exact hv
theorem Hz {w:World} {g t o:Nat} {A cs B:List Value} (h:(Pc.row g t o A cs B).P w):w.rangeAt g o cs:=fun _ _ hv=>Aak h hv
theorem Atd {w:World} {g t o:Nat} {A cs B:List Value} (h:(Pc.row g t o A cs B).P w):w.there g o cs.length:=fun j hj =>
 ⟨by rw [Aak h (List.getElem?_eq_getElem hj)];rfl,h.2.frozen _⟩
theorem Afh {t:TypeId} [hT:OneC P t] {w:World} {a:Addr} (h:w.cell? a=some v):(Instr.loadAt t (.pointer (some a))).run P w=.ok v w:=by
 simp [Instr.loadAt,Instr.sureAddr,loadVar,All hT.d,h]
theorem Bes {t g o j tt:Nat} {A cs B:List Value} [OneC P t] (hx:ev fr x=some (Hm g o j)) (hm:Pc.row g tt o A cs B∈H) (hv:cs[j]?=some v):Yd P n fr H (.load t x) ty v:=.mk fun a w d pos Ce gd hA hH=>by
 simp [execOp,hA.ev hx,Hm,Afh (Aak (hH _ hm) hv)]
theorem Bc9 {t b o j:Nat} {cs:List Value} [OneC P t] (hx:ev fr x=some (Hm b o j)) (hm:Pc.cel b o cs∈H) (hv:cs[j]?=some v):Yd P n fr H (.load t x) ty v:=.mk fun a w d pos Ce gd hA hH=>by
 simp [execOp,hA.ev hx,Hm,Afh ((hH _ hm).2 j v hv)]
inductive Cut:List Value→Nat→Nat→List Value→Prop
 | zero {l}:Cut l 0 0 []
 | one {x l m r}:Cut l 0 m r→Cut (x::l) 0 (m+1) (x::r)
 | skip {x l j m r}:Cut l j m r→Cut (x::l) (j+1) m r
theorem Cut.get {l j m r} (h:Cut l j m r):r.length=m∧∀(i:Nat) u,r[i]?=some u→l[j+i]?=some u:=by
 induction h with
 | zero=>exact ⟨rfl,fun i u h=>by simp at h⟩
 | one _ ih =>
  refine ⟨by simp [ih.1],fun i u h=>?_⟩;cases i with
  | zero=>simpa using h
  | succ i=>have:=ih.2 i u GW;simpa [Nat.add_assoc] using this
 | skip _ ih =>
  refine ⟨ih.1,fun i u h=>?_⟩;have:=ih.2 i u h
  rwa [show ∀a b:Nat,a+1+b=a+b+1 by omega,List.getElem?_cons_succ]
theorem Afg {t m:Nat} [hT:AggC P t m] {w:World} {b o j:Nat} {cs r:List Value} (h:w.rangeAt b o cs) (hc:Cut cs j m r):(Instr.loadAt t (.pointer (some ⟨b,o+j,none⟩))).run P w=.ok (.agg r.toArray) w:=by
 obtain ⟨d,hu,hd⟩:=hT.d;exact run_loadAt_mid w b (o+j) t r d (fun i u hu=>by rw [Nat.add_assoc];exact h _ _ (hc.get.2 i u hu)) hu hd (by rw [hT.s,hc.get.1])
theorem Ayc {t g o j tt m:Nat} {A cs B r:List Value} [AggC P t m] (hx:ev fr x=some (Hm g o j)) (hm:Pc.row g tt o A cs B∈H) (hc:Cut cs j m r):Yd P n fr H (.load t x) ty (.agg r.toArray):=.mk fun a w d pos Ce gd hA hH=>by
 simp [execOp,hA.ev hx,Hm,Afg (Hz (hH _ hm)) hc]
theorem Bat {t b o j m:Nat} {cs r:List Value} [AggC P t m] (hx:ev fr x=some (Hm b o j)) (hm:Pc.cel b o cs∈H) (hc:Cut cs j m r):Yd P n fr H (.load t x) ty (.agg r.toArray):=.mk fun a w d pos Ce gd hA hH=>by
 simp [execOp,hA.ev hx,Hm,Afg (hH _ hm).2 hc]
theorem Ben {t i g o j off ft m:Nat} [hF:FldC P t i off ft m] (hx:ev fr x=some (Hm g o j)):Yd P n fr H (.fieldAddr t x i) ty (Hm g o (j+off)):=.mk fun a w d pos Ce gd hA _=>by
 obtain ⟨fs,f,hu,hf,rfl,rfl⟩:=hF.f;simp [execOp,hA.ev hx,Hm,Instr.fieldAt,run_underlying hu,hf,Instr.sureAddr,fieldPlace,Mk hF.s,hF.p,Addr.add_lit,Nat.add_assoc]
theorem Bc6 {t i off ft m:Nat} {l:List Value} [hF:FldC P t i off ft m] [hT:OneC P ft] (hx:ev fr x=some (.agg l.toArray)) (hv:l[off]?=some v):Yd P n fr H (.field t x i) ty v:=.mk fun a w d pos Ce gd hA _=>by
 obtain ⟨fs,f,hu,hf,rfl,rfl⟩:=hF.f;simp [execOp,hA.ev hx,Instr.field,run_underlying hu,hf,asAgg,part,All hT.d,hv]
theorem Bas {t i off ft m m':Nat} {l r:List Value} [hF:FldC P t i off ft m] [hT:AggC P ft m'] (hx:ev fr x=some (.agg l.toArray)) (hc:Cut l off m' r):Yd P n fr H (.field t x i) ty (.agg r.toArray):=.mk fun a w d pos Ce gd hA _=>by
 obtain ⟨fs,f,hu,hf,rfl,rfl⟩:=hF.f;have e:l.toArray.extract f.offset (f.offset+m')=r.toArray:=by
  obtain ⟨h1,h2⟩:=hc.get;apply Array.ext';simp only [List.extract_toArray,List.extract_eq_take_drop,Nat.add_sub_cancel_left];apply List.ext_getElem?;intro i;rw [List.getElem?_take]
  split
  ·rename_i hi;have hr:r[i]?=some (r[i]'GJ):=List.getElem?_eq_getElem GJ;rw [List.getElem?_drop,hr];exact h2 i _ hr
  ·rw [List.getElem?_eq_none GJ]
 simp [execOp,hA.ev hx,Instr.field,run_underlying hu,hf,asAgg,part,Ary hT.d,Mk hT.s,←e]
theorem Bdi {g o j:Nat} (hx:ev fr x=some (Hm g o j)):Yd P n fr H (.nilCheck x) ty (Hm g o j):=.mk fun a w d pos Ce gd hA _=>by
 simp [execOp,hA.ev hx,Hm]
theorem Baw {f:Nat} {l:Array Value} (hx:ev fr x=some (.func (.func f) #[] l)):Yd P n fr H (.nilCheck x) ty (.func (.func f) #[] l):=.mk fun a w d pos Ce gd hA _=>by
 simp [execOp,hA.ev hx]
theorem Ber {t e m b o len cp:Nat} {kd:IntKind} {i:Int} [hS:SlC P t e m] (hx:ev fr x=some (.slice (some ⟨b,o,none⟩) len cp)) (hy:ev fr y=some (.int kd i)) (h0:0≤i) (h1:i < len) :
  Yd P n fr H (.indexAddr t x y) ty (Hm b (o+i.toNat * m) 0):=.mk fun a w d pos Ce gd hA _=>by
 simp [execOp,hA.ev hx,hA.ev hy,Instr.indexAt,run_underlying hS.u,asIntOf,h0,h1,Mk hS.s,Addr.add_lit,Hm]
theorem Bc8 {t:Nat} {kd:IntKind} {i:Int} {s:ByteArray} [hS:StrC P t] (hx:ev fr x=some (.string s)) (hy:ev fr y=some (.int kd i)) (h0:0≤i) (h1:i.toNat < s.size) :
  Yd P n fr H (.index t x y) ty (.int .u8 (s[i.toNat]'h1).toNat):=.mk fun a w d pos Ce gd hA _=>by
 simp [execOp,hA.ev hx,hA.ev hy,Instr.index,run_underlying hS.u,asIntOf,h0,h1]
theorem Bem {i:Nat} {l:List Value} (hx:ev fr x=some (.tuple l.toArray)) (hv:l[i]?=some v):Yd P n fr H (.extract x i) ty v:=.mk fun a w d pos Ce gd hA _=>by
 simp [execOp,hA.ev hx,Instr.extract,hv]
theorem Bdj {b:Bool} {t:Nat} (hx:ev fr x=some (.bool b)):Yd P n fr H (.unOp .not t x) ty (.bool (!b)):=.mk fun a w d pos Ce gd hA _=>by
 simp [execOp,hA.ev hx,Op.unary]
theorem Bax {p:Prop} {_:Decidable p} {t:Nat} (hx:ev fr x=some (.bool (decide p))):Yd P n fr H (.unOp .not t x) ty (.bool (decide (¬p))):=.mk fun a w d pos Ce gd hA _=>by
 simp [execOp,hA.ev hx,Op.unary]
theorem Bdf {a:Int} {t:Nat} (hx:ev fr x=some (.int .i64 a)) (h0:-9223372036854775808≤-a) (h1:-a≤9223372036854775807):Yd P n fr H (.unOp .neg t x) ty (.int .i64 (-a)):=.mk fun a w d pos Ce gd hA _=>by
 simp [execOp,hA.ev hx,Op.unary,Op.intArith,IntWalk.i64_in _ ⟨h0,h1⟩]
section
variable {a b:Int} {t t':TypeId} (hx:ev fr x=some (.int .i64 a)) (hy:ev fr y=some (.int .i64 b))
include hx hy
theorem Bc3 (h0:-9223372036854775808≤a+b) (h1:a+b≤9223372036854775807):Yd P n fr H (.binOp .add t x y t') ty (.int .i64 (a+b)):=.mk fun a w d pos Ce gd hA _=>by
 simp [execOp,hA.ev hx,hA.ev hy,eqGuard_add,binOp_add,Op.intArith,IntWalk.i64_in _ ⟨h0,h1⟩]
theorem Bdo (h0:-9223372036854775808≤a - b) (h1:a - b≤9223372036854775807):Yd P n fr H (.binOp .sub t x y t') ty (.int .i64 (a - b)):=.mk fun a w d pos Ce gd hA _=>by
 simp [execOp,hA.ev hx,hA.ev hy,eqGuard_sub,binOp_sub,Op.intArith,IntWalk.i64_in _ ⟨h0,h1⟩]
theorem Bdd (h0:-9223372036854775808≤a * b) (h1:a * b≤9223372036854775807):Yd P n fr H (.binOp .mul t x y t') ty (.int .i64 (a * b)):=.mk fun a w d pos Ce gd hA _=>by
 simp [execOp,hA.ev hx,hA.ev hy,eqGuard_mul,binOp_mul,Op.intArith,IntWalk.i64_in _ ⟨h0,h1⟩]
theorem Bdk (h0:0≤a) (h2:a≤9223372036854775807) (h1:0 < b):Yd P n fr H (.binOp .quo t x y t') ty (.int .i64 (a / b)):=.mk fun c w d pos Ce gd hA _=>by
 have hle:a / b≤a:=Int.ediv_le_self _ h0;have hge:0≤a / b:=Int.ediv_nonneg h0 GJ;have hb:b≠0:=by omega
 simp [execOp,hA.ev hx,hA.ev hy,eqGuard_quo,binOp_quo,Op.intDiv,hb,Int.tdiv_eq_ediv_of_nonneg h0,IntWalk.i64_in _ ⟨(by omega:-9223372036854775808≤a / b),(by omega:a / b≤9223372036854775807)⟩]
theorem Bdl (h0:0≤a) (h1:0 < b):Yd P n fr H (.binOp .rem t x y t') ty (.int .i64 (a % b)):=.mk fun c w d pos Ce gd hA _=>by
 have hb:b≠0:=by omega
 simp [execOp,hA.ev hx,hA.ev hy,eqGuard_rem,binOp_rem,Op.intDiv,hb,Int.tmod_eq_emod_of_nonneg h0]
end
section
variable {a b:Int} {k:IntKind} {t t':TypeId} (hx:ev fr x=some (.int k a)) (hy:ev fr y=some (.int k b))
include hx hy
theorem Bdc {ts:Array TypeId}:Yd P n fr H (.call { callee:=.builtin .min,args:=#[x,y],argTypes:=ts }) ty (.int k (min a b)):=.mk fun c w d pos Ce gd hA _=>by
 have e:(if b < a then b else a)=min a b:=by split <;> omega
 simp [execOp,hA.ev hx,hA.ev hy,resolve,invoke,builtin,run_min_int2,e]
theorem Bdb {ts:Array TypeId}:Yd P n fr H (.call { callee:=.builtin .max,args:=#[x,y],argTypes:=ts }) ty (.int k (max a b)):=.mk fun c w d pos Ce gd hA _=>by
 have e:(if a < b then b else a)=max a b:=by split <;> omega
 simp [execOp,hA.ev hx,hA.ev hy,resolve,invoke,builtin,run_max_int2,e]
theorem Bev:Yd P n fr H (.binOp .lss t x y t') ty (.bool (decide (a < b))):=.mk fun a w d pos Ce gd hA _=>by
 simp [execOp,hA.ev hx,hA.ev hy,eqGuard_lss,binOp_lss]
theorem Bet:Yd P n fr H (.binOp .leq t x y t') ty (.bool (decide (a≤b))):=.mk fun a w d pos Ce gd hA _=>by
 simp [execOp,hA.ev hx,hA.ev hy,eqGuard_leq,binOp_leq]
theorem Beq:Yd P n fr H (.binOp .gtr t x y t') ty (.bool (decide (b < a))):=.mk fun a w d pos Ce gd hA _=>by
 simp [execOp,hA.ev hx,hA.ev hy,eqGuard_gtr,binOp_gtr]
theorem Bep:Yd P n fr H (.binOp .geq t x y t') ty (.bool (decide (b≤a))):=.mk fun a w d pos Ce gd hA _=>by
 simp [execOp,hA.ev hx,hA.ev hy,eqGuard_geq,binOp_geq]
theorem Bel:Yd P n fr H (.binOp .eql t x y t') ty (.bool (decide (a=b))):=.mk fun a w d pos Ce gd hA _=>by
 simp [execOp,hA.ev hx,hA.ev hy,eqGuard_at_int,binOp_eql];rfl
theorem Bew:Yd P n fr H (.binOp .neq t x y t') ty (.bool (decide (¬a=b))):=.mk fun a w d pos Ce gd hA _=>by
 simp [execOp,hA.ev hx,hA.ev hy,eqGuard_at_int,binOp_neq,bne];rfl
end
section
variable {a b:ByteArray} {t t':TypeId} (hx:ev fr x=some (.string a)) (hy:ev fr y=some (.string b))
include hx hy
theorem M2 (h:a.size+b.size≤9223372036854775807):Yd P n fr H (.binOp .add t x y t') ty (.string (a++b)):=.mk fun c w d pos Ce gd hA _=>by
 have:¬((a.size:Int)+b.size > 9223372036854775807):=by omega
 simp [execOp,hA.ev hx,hA.ev hy,eqGuard_add,binOp,Op.stringOp,this]
theorem Bc5:Yd P n fr H (.binOp .eql t x y t') ty (.bool (decide (a=b))):=.mk fun c w d pos Ce gd hA _=>by
 simp [execOp,hA.ev hx,hA.ev hy,eqGuard_at_string,binOp,Op.stringOp,Acv a b]
theorem Bdh:Yd P n fr H (.binOp .neq t x y t') ty (.bool (decide (¬a=b))):=.mk fun c w d pos Ce gd hA _=>by
 simp [execOp,hA.ev hx,hA.ev hy,eqGuard_at_string,binOp,Op.stringOp,Acv a b]
end
theorem Aez {t:TypeId} [hB:BoolC P t] (a b:Bool) (w:World):(Op.equal t (.bool a) (.bool b)).run P w=.ok (a == b) w:=by
 unfold Op.equal;rw [show Op.maxDepth=9999+1 from rfl];unfold Op.equalIn;rw [Sem.run_bind,run_underlying hB.u w];rfl
theorem Bc4 {a b:Bool} {t t':TypeId} [hB:BoolC P t] (hx:ev fr x=some (.bool a)) (hy:ev fr y=some (.bool b)):Yd P n fr H (.binOp .eql t x y t') ty (.bool (decide (a=b))):=.mk fun c w d pos Ce gd hA _=>by
 have e:binOp .eql t (.bool a) (.bool b)=(do pure (.bool (←Op.equal t (.bool a) (.bool b)))):=rfl;exact EW
theorem Bde {a b:Bool} {t t':TypeId} [hB:BoolC P t] (hx:ev fr x=some (.bool a)) (hy:ev fr y=some (.bool b)):Yd P n fr H (.binOp .neq t x y t') ty (.bool (decide (¬a=b))):=.mk fun c w d pos Ce gd hA _=>by
 have e:binOp .neq t (.bool a) (.bool b)=(do pure (.bool (!(←Op.equal t (.bool a) (.bool b))))):=rfl;exact EW
theorem Agq {k k':IntKind} {a:Int} {s t:TypeId} [hS:IntC P s k'] [hD:IntC P t .i64] (hx:ev fr x=some (.int k a)) (h0:-9223372036854775808≤a) (h1:a≤9223372036854775807):Yd P n fr H (.convert s t x) ty (.int .i64 a):=.mk fun c w d pos Ce gd hA _=>by
 simp [execOp,hA.ev hx,convert,run_underlying hS.u,run_underlying hD.u,Conv.intToInt,IntWalk.i64_in _ ⟨h0,h1⟩]
theorem Bda {a:Option Addr} {len cp t e m:Nat} [hS:SlC P t e m] (hx:ev fr x=some (.slice a len cp)):Yd P n fr H (.call { callee:=.builtin .len,args:=#[x],argTypes:=#[t] }) ty (.int .i64 len):=.mk fun c w d pos Ce gd hA _=>by
 simp [execOp,hA.ev hx,resolve,invoke,builtin,Builtin.len_,run_underlying hS.u,goInt]
theorem Bau {s:ByteArray} {t:Nat} [hS:StrC P t] (hx:ev fr x=some (.string s)):Yd P n fr H (.call { callee:=.builtin .len,args:=#[x],argTypes:=#[t] }) ty (.int .i64 s.size):=.mk fun c w d pos Ce gd hA _=>by
 simp [execOp,hA.ev hx,resolve,invoke,builtin,run_len_string (h:=hS.u),goInt]
theorem Og {t e m i:Nat} {a:Option Addr} {len cp:Nat} {z:Int} [hS:SlC P t e m] (hx:ev fr x=some (.slice a len cp)) (hy:ev fr y=some (.int .i64 z)) (hz:z=(i:Int)) (hi:i≤cp) (hc:cp≤9223372036854775807):Yd P n fr H (.slice t x none (some y) none) ty (.slice a i cp):=.mk fun ac w d pos Ce gd hA _=>by
 subst hz;have he2:P.elem t=e:=by simp [Program.elem,hS.u]
 have h3:(Instr.sliceAt t (.slice a len cp) none (some (.int .i64 (i:Int))) none).run P w=.ok (.slice a i cp) w:=by
  rw [run_sliceAt_slice (h:=HH),run_slice_h (ht:=HH) (h0:=GJ) (h2:=GJ),he2,Mk hS.s];have h0:a.map (fun b=>b.add 0)=a:=by cases a <;> simp [Addr.add]
  simp [Result.andThen,sliced,h0]
 exact AY
theorem Beo {f:Nat} {caps:List Operand} {vs:List Value} (hc:Evs fr caps vs):Yd P n fr H (.makeFunc (.func f) #[] caps.toArray) ty (.func (.func f) #[] vs.toArray):=.mk fun c w d pos Ce gd hA _=>by
 simp [execOp,Instr.makeFunc,hA.evs hc]
end
class ZC (P:Program) (t:TypeId) (zs:outParam (List Value)):Prop where
 z:∃v,(P.info? t).map (·.zero)=some (some v)∧v.cells=zs.toArray
class ElT (P:Program) (e:TypeId) (z:outParam Value) (n:outParam Nat) (by_:outParam Nat):Prop where
 i:(P.info? e).map (fun i=>(i.zero,i.size,i.bytes))=some (some z,n,by_)
 s:z.cells.size=n
class BldC (P:Program) (t:TypeId) (pl:outParam (List (Nat × Nat))) (zs:outParam (List Value)):Prop where
 b:∀parts,P.built t parts=Instr.fill (pl.toArray[·]?) zs.toArray parts
def Qi (P:Program) (f:FuncId):Bool:=match P.funcs[f]? with
 | some fn=>!(fn.name == "runtime.NumGoroutine") && !fn.body.isNone
 | none=>false
theorem Uo {P:Program} {f:FuncId} (h:Qi P f=true):Xv P f:=by
 unfold Qi at h
 split at h
 ·rename_i fn hf;simp only [Bool.and_eq_true,Bool.not_eq_true'] at h;exact .mk' hf h.1 h.2
 ·cases h
structure Ef (c:Cx) (fr:Fr) (H:List Pc) (o:Oper) (Φ:Gl):Prop where
 h:∀Q a w,St c.G c.D c.w0 H w→Ag c.n fr a→o.wp c.P a w (Φ.sem c) Q
structure Cl (c:Cx) (fr:Fr) (H:List Pc) (d:Nat) (f:FuncId) (vs:List Value) (Φ:Gl):Prop where
 h:∀w,St c.G c.D c.w0 H w→∃R:Ending→World→Prop,Calls c.P f vs.toArray w R∧∀e w',R e w'→∃v,e=.returned v∧∀a,Ag c.n ((d,v)::fr) a→Φ.sem c a w'
theorem Ok {c:Cx} {fr:Fr} {H:List Pc} {o:Oper} {Φ:Gl} (h:∀Q a w,St c.G c.D c.w0 H w→Ag c.n fr a→Oper.upon c.P o a (Φ.sem c) Q ((execOp a.eval o).run c.P w)):Ef c fr H o Φ:=⟨h⟩
inductive Rpl:List Pc→Pc→Pc→List Pc→Prop
 | here {p q R}:Rpl (p::R) p q (q::R)
 | there {x p q R S}:Rpl R p q S→Rpl (x::R) p q (x::S)
theorem Rpl.picks {H p q S} (h:Rpl H p q S):∃R,Cz H p R∧Cz S q R:=by
 induction h with
 | here=>exact ⟨_,.here,.here⟩
 | there _ ih=>obtain ⟨R,h1,h2⟩:=ih;exact ⟨_,.there h1,.there h2⟩
theorem Cz.unsep {H p R} (h:Cz H p R) (hs:Sq (p::R)):Sq H:=by
 induction h with
 | here=>exact hs
 | @there x p R R' h ih =>
  have h2:=Sq.perm2 hs;have h3:=ih h2.2;refine ⟨fun q hq=>?_,h3⟩;have:∀{A:List Pc} {p B},Cz A p B→∀q∈A,q=p∨q∈B:=by
   intro A p B h
   induction h with
   | here=>intro q hq;simpa using hq
   | there _ ih =>
    intro q hq;rcases List.mem_cons.1 hq with rfl|hq
    ·simp
    ·rcases ih q hq with h|h <;> simp [h]
  rcases this h q hq with rfl|hq
  ·exact h2.1 _ GL
  ·exact h2.1 _ HG
theorem Cz.or {A:List Pc} {p B} (h:Cz A p B):∀q∈A,q=p∨q∈B:=by
 induction h with
 | here=>intro q hq;simpa using hq
 | there _ ih =>
  intro q hq;rcases List.mem_cons.1 hq with rfl|hq
  ·simp
  ·rcases ih q hq with h|h <;> simp [h]
theorem St.unpick {G D w0 H p R w} (s:St G D w0 (p::R) w) (h:Cz H p R):St G D w0 H w :=
 ⟨s.H8,fun q hq=>by rcases h.or q hq with rfl|hq;exact s.on _ GL;exact s.on _ HG,h.unsep s.sep,fun q hq=>by rcases h.or q hq with rfl|hq;exact s.Abs _ GL;exact s.Abs _ HG⟩
theorem St.rpl {G D w0 H p q S} {w w':World} (s:St G D w0 H w) (h:Rpl H p q S) (hm:p.mu=true) (hF:∀b∈q.F,b∈p.F∨w.heap.size≤b) (hk:Dn p.F w w') (hq:q.P w'):St G D w0 S w':=by
 obtain ⟨R,h1,h2⟩:=h.picks;refine St.unpick (R:=R) ?_ h2;refine St.turn (M:=[p]) (R:=R) (N:=[q]) (s.pick h1) (by simpa [List.filter,hm,fp] using hk) (by intro x hx;simp at hx;subst hx;exact hq) ⟨GL,trivial⟩ fun x hx b hb=>?_;simp at hx;subst hx;rcases hF b hb with h|h
 ·exact .inr (.inl ⟨p,GL,hm,h⟩)
 ·exact .inl h
theorem St.add {G D w0 H} {w w':World} {N:List Pc} (s:St G D w0 H w) (hb:Below w.heap.size w w') (hN:O2 N w') (hs:Sq N) (hF:∀p∈N,∀b∈p.F,w.heap.size≤b∨(p.mu=false∧∃q∈H,q.mu=false∧b∈q.F)):St G D w0 (N++H) w' :=
 St.turn (M:=[]) (R:=H) (N:=N) s (by simpa [fp] using Dn.ofBelow hb) hN hs fun p hp b hb=>by
  rcases hF p hp b hb with h|h
  ·exact .inl h
  ·exact .inr (.inr GW)
theorem St.below {G D w0 H} {w w':World} (s:St G D w0 H w) (hb:Below w.heap.size w w'):St G D w0 H w':=s.add (N:=[]) hb (by intro p hp;simp at hp) trivial GL
theorem V2 (w:World) (o:Obj):Below w.heap.size w (w.alloc o):=(Below.refl _ _).alloc (Nat.le_refl _) o
theorem St.new {G D w0 H} {w:World} (s:St G D w0 H w) (t:TypeId) (cs:List Value):St G D w0 (.row w.heap.size t 0 [] cs []::H) (w.alloc (.cells cs.toArray t)) :=
 s.add (N:=[.row w.heap.size t 0 [] cs []]) (V2 _ _) (by intro p hp;simp at hp;subst hp;exact ⟨rfl,by simpa using Ha.made w t cs⟩) ⟨GL,trivial⟩ (by intro p hp b hb;simp at hp;subst hp;simp [Pc.F] at hb;subst hb;exact .inl (Nat.le_refl _))
inductive Put:List Value→Nat→List Value→List Value→Prop
 | zero {cs}:Put cs 0 [] cs
 | one {x cs u l r}:Put cs 0 l r→Put (x::cs) 0 (u::l) (u::r)
 | skip {x cs j l r}:Put cs j l r→Put (x::cs) (j+1) l (x::r)
theorem Put.parts {cs j l r} (h:Put cs j l r):∃A o B,cs=A++o++B∧r=A++l++B∧A.length=j∧o.length=l.length:=by
 induction h with
 | @zero cs=>exact ⟨[],[],cs,GL,GL,rfl,rfl⟩
 | @one x cs u l r _ ih =>
  obtain ⟨A,o,B,rfl,rfl,hA,ho⟩:=ih;have:A=[]:=List.eq_nil_of_length_eq_zero hA;subst this;exact ⟨[],x::o,B,GL,GL,rfl,by simp [ho]⟩
 | @skip x cs j l r _ ih =>
  obtain ⟨A,o,B,rfl,rfl,hA,ho⟩:=ih;exact ⟨x::A,o,B,GL,GL,by simp [hA],ho⟩
theorem Ag8 {P:Program} {t:TypeId} {n:Nat} (hs:(P.info? t).map (·.size)=some n) {w:World} {b o:Nat} {v:Value} {l:List Value} (hv:v.cells=l.toArray) (hl:l.length=n) (ht:w.there b o n) (h1:l.all (·.oneCell')=true) :
  (Instr.storeAt t (.pointer (some ⟨b,o,none⟩)) v).run P w=.ok () (w.setCells b o l):=by
 subst hl;have:=run_storeCells_cells (P:=P) b o l 0 w (fun j hj=>by simpa using (ht j hj).1) (fun j hj=>by simpa using (ht j hj).2) (fun v hv=>List.all_eq_true.1 h1 v hv);simp only [Nat.add_zero] at this;simp [Instr.storeAt,Instr.sureAddr,storeVar,Mk hs,hv,this]
theorem Bab {w:World} {g t o j:Nat} {A cs B l r:List Value} (h:(Pc.row g t o A cs B).P w) (hp:Put cs j l r):(Pc.row g t o A r B).P (w.setCells g (o+j) l)∧Dn [g] w (w.setCells g (o+j) l):=by
 obtain ⟨rfl,h⟩:=h;obtain ⟨X,y,Y,rfl,rfl,rfl,hy⟩:=hp.parts;have h2:Ha w g t ((A++X)++y++(Y++B)):=by simpa using h
 have h3:=Ha.put l y h2 (p:=A.length+X.length) GL hy.symm;have hk:=Ln (g:=g) l w (A.length+X.length);rw [Mb w g l w] at h3 hk;exact ⟨⟨rfl,JO⟩,hk⟩
def Fn (P:Program) (f:FuncId) (args:List Value) (A M:List Pc) {σ:Type} (C:σ→Prop) (v:σ→Value) (N:σ→List Pc):Prop :=
 ∀w,O2 (M++A) w→Sq (M++A)→Calls P f args.toArray w fun e w'=>∃s,C s∧e=.returned (v s)∧O2 (N s) w'∧Sq (N s)∧Dn (fp M) w w' ∧
  ∀p∈N s,∀b∈p.F,w.heap.size≤b∨(∃q∈M,b∈q.F)∨(p.mu=false∧∃q∈A,b∈q.F)
inductive Ex:List Pc→List Pc→List Pc→Prop
 | nil {H}:Ex H [] H
 | cons {H p R M S}:Cz H p R→Ex R M S→Ex H (p::M) S
theorem Ex.st {G D w0 H M R w} (h:Ex H M R):∀{X:List Pc},St G D w0 (X++H) w→St G D w0 (X++(M++R)) w:=by
 induction h with
 | nil=>intro X s;simpa using s
 | @cons H p R M S hp _ ih =>
  intro X s;have h1:∀(X:List Pc),Cz (X++H) p (X++R):=by
   intro X;induction X with
   | nil=>exact hp
   | cons x X ih=>exact .there ih
  have h2:∀(X:List Pc),Cz (X++(p::(M++S))) p (X++(M++S)):=by
   intro X;induction X with
   | nil=>exact .here
   | cons x X ih=>exact .there ih
  have s1:=s.pick (h1 X);have s2:=ih (X:=p::X) (by simpa using s1);exact St.unpick (by simpa using s2) (h2 X)
inductive M6:List Pc→List Pc→Prop
 | nil {H}:M6 [] H
 | cons {p A H}:p∈H→M6 A H→M6 (p::A) H
theorem M6.all {A H} (h:M6 A H):∀p∈A,p∈H:=by
 induction h with
 | nil=>simp
 | cons h _ ih=>intro q hq;rcases List.mem_cons.1 hq with rfl|hq;exact h;exact ih q hq
section
variable {c:Cx} {fr:Fr} {H:List Pc} {k:List It} {Φ:Gl} {ops:Array Oper} {rest:List Oper} {d:Nat} {o:Op} {ty:TypeId} {pos:String} {Ce:Array Edge} {v u:Value} {x y:Operand}
theorem Bfc {o:Oper} (h:Ef c fr H o (.list k ops rest)) (hg:o.guard=none:=by rfl):T c fr H (.list k ops (o::rest)):=.mk fun a w s g =>
 wpList_plain hg fun K hK=>Oper.wp_mono hK (h.h _ a w s g)
theorem Ba4 {gd:Option (Nat × Bool)} (hy:Yd c.P c.n fr H o ty v) (hd:Nat.blt d c.n=true) (h:T c ((d,v)::fr) H Φ):Ef c fr H ⟨some d,o,ty,pos,Ce,gd⟩ Φ:=Ok fun Q a w s g=>by
 rw [hy.h a w (some d) pos Ce gd g s.on];exact h.h _ _ s (g.put hd)
structure On (c:Cx) (fr:Fr) (H:List Pc) (od:Option Tmp) (o:Op) (ty:TypeId) (Φ:Gl):Prop where
 h:∀pos Ce gd,Ef c fr H ⟨od,o,ty,pos,Ce,gd⟩ Φ
theorem wO {od:Option Tmp} (h:On c fr H od o ty (.list k ops rest)):T c fr H (.list k ops (⟨od,o,ty,pos,Ce,none⟩::rest)):=Bfc (h.h pos Ce none)
theorem oc (hd:Nat.blt d c.n=true) (hy:Yd c.P c.n fr H o ty v) (h:T c ((d,v)::fr) H Φ):On c fr H (some d) o ty Φ:=⟨fun _ _ _=>Ba4 hy hd h⟩
/-! guards of a plain region -/
theorem Uh {a:Act} {j t:Nat} {b b':Bool} {od:Option Tmp} (ht:(ops[j]?).bind (·.dst)=some t) (hl:Qz fr t=some (.bool b')) (g:Ag c.n fr a):Region.wanted ⟨od,o,ty,pos,Ce,some (j,b)⟩ (yielded ops a.tmps)=(b' == b):=by
 simp only [Region.wanted,yielded,ht,Option.bind_some,g.at_ t _ hl];cases b <;> cases b' <;> rfl
theorem Aph {j t:Nat} {b:Bool} {od:Option Tmp} (ht:(ops[j]?).bind (·.dst)=some t) (hl:Qz fr t=some (.bool b)) (h:T c fr H (.list k ops (⟨od,o,ty,pos,Ce,none⟩::rest))) :
  T c fr H (.list k ops (⟨od,o,ty,pos,Ce,some (j,b)⟩::rest)):=.mk fun a w s g=>by
 have h1:=h.h a w s g;simp only [Gl.sem] at h1 ⊢;unfold wpList at h1 ⊢;rw [Uh (c:=c) ht hl g];simp only [Region.wanted,if_true,beq_self_eq_true] at h1 ⊢;exact h1
theorem Apg {j t:Nat} {b b':Bool} (ht:(ops[j]?).bind (·.dst)=some t) (hl:Qz fr t=some (.bool b')) (hb:(b' == b)=false) (hd:Nat.blt d c.n=true) (h:T c ((d,undef)::fr) H (.list k ops rest)) :
  T c fr H (.list k ops (⟨some d,o,ty,pos,Ce,some (j,b)⟩::rest)):=.mk fun a w s g=>by
 simp only [Gl.sem];unfold wpList;rw [Uh (c:=c) ht hl g,hb];simp only [Bool.false_eq_true,if_false];exact h.h _ _ s (g.put hd)
theorem Api {j t:Nat} {b:Bool} (ht:(ops[j]?).bind (·.dst)=some t) (hl:Qz fr t=some undef) (hd:Nat.blt d c.n=true) (h:T c ((d,undef)::fr) H (.list k ops rest)) :
  T c fr H (.list k ops (⟨some d,o,ty,pos,Ce,some (j,b)⟩::rest)):=.mk fun a w s g=>by
 have hw:Region.wanted ⟨some d,o,ty,pos,Ce,some (j,b)⟩ (yielded ops a.tmps)=false:=by
  simp only [Region.wanted,yielded,ht,Option.bind_some,g.at_ t _ hl];rfl
 simp only [Gl.sem];unfold wpList;rw [hw];simp only [Bool.false_eq_true,if_false];exact h.h _ _ s (g.put hd)
theorem Dj {j t:Nat} {b:Bool} {od:Option Tmp} {p:Prop} {_:Decidable p} (ht:(ops[j]?).bind (·.dst)=some t) (hl:Qz fr t=some (.bool (decide p))) (h1:p→T c ((t,.bool true)::fr) H (.list k ops (⟨od,o,ty,pos,Ce,some (j,b)⟩::rest))) (h2:¬p→T c ((t,.bool false)::fr) H (.list k ops (⟨od,o,ty,pos,Ce,some (j,b)⟩::rest))) :
  T c fr H (.list k ops (⟨od,o,ty,pos,Ce,some (j,b)⟩::rest)):=.mk fun a w s g=>by
 by_cases hp:p
 ·rw [decide_eq_true hp] at hl;exact (h1 hp).h a w s ⟨g.df,g.sz,fun i z hz=>by rw [T7] at hz;split at hz;(rename_i e;subst e;rw [←hz,g.at_ _ _ hl]);exact g.at_ i z hz⟩
 ·rw [decide_eq_false hp] at hl;exact (h2 hp).h a w s ⟨g.df,g.sz,fun i z hz=>by rw [T7] at hz;split at hz;(rename_i e;subst e;rw [←hz,g.at_ _ _ hl]);exact g.at_ i z hz⟩
/-! memory -/
theorem Au1 {t:TypeId} {zs:List Value} {gd:Option (Nat × Bool)} [hZ:ZC c.P t zs] (h:∀g,T c ((d,Hm g 0 0)::fr) (.row g t 0 [] zs []::H) Φ) (hd:Nat.blt d c.n=true:=by rfl):Ef c fr H ⟨some d,.alloc t,ty,pos,Ce,gd⟩ Φ:=Ok fun Q a w s g=>by
 obtain ⟨z,hz,hzc⟩:=hZ.z;obtain ⟨i,hi,hiz⟩:=Option.map_eq_some_iff.1 hz;have e:(execOp a.eval ⟨some d,.alloc t,ty,pos,Ce,gd⟩).run c.P w=.ok (.value (Hm w.heap.size 0 0)) (w.alloc (.cells zs.toArray t)):=by
  simp [execOp,Instr.alloc,zeroValue,typeInfo,hi,hiz,newVar,newRow,hzc,Hm]
 rw [e];exact (h _).h _ _ (s.new t zs) (g.put hd)
theorem Bb0 {t:TypeId} {l:List Value} {gd:Option (Nat × Bool)} (hx:ev fr x=some v) (hv:v.cells=l.toArray) (h:∀g,T c ((d,Hm g 0 0)::fr) (.row g t 0 [] l []::H) Φ) (hd:Nat.blt d c.n=true:=by rfl):Ef c fr H ⟨some d,.box t x,ty,pos,Ce,gd⟩ Φ:=Ok fun Q a w s g=>by
 have e:(execOp a.eval ⟨some d,.box t x,ty,pos,Ce,gd⟩).run c.P w=.ok (.value (Hm w.heap.size 0 0)) (w.alloc (.cells l.toArray t)):=by
  simp [execOp,Instr.box,g.ev hx,newVar,newRow,hv,Hm]
 rw [e];exact (h _).h _ _ (s.new t l) (g.put hd)
theorem Alb {t g tt o' j m:Nat} {A cs B l r:List Value} {S:List Pc} {gd:Option (Nat × Bool)} (hs:(c.P.info? t).map (·.size)=some m) (hx:ev fr x=some (Hm g o' j)) (hy:ev fr y=some v) (hv:v.cells=l.toArray) (hl:l.length=m) (h1:l.all (·.oneCell')=true)
  (hp:Put cs j l r) (hr:Rpl H (.row g tt o' A cs B) (.row g tt o' A r B) S) (h:T c fr S Φ):Ef c fr H ⟨none,.store t x y,ty,pos,Ce,gd⟩ Φ:=Ok fun Q a w s ag=>by
 have hP:(Pc.row g tt o' A cs B).P w:=by obtain ⟨R,h1,_⟩:=hr.picks;exact s.on _ h1.mem
 have ht:w.there g (o'+j) m:=fun i hi=>by
  obtain ⟨X,z,Y,rfl, -,rfl,hz⟩:=hp.parts;have:=Atd hP (X.length+i) GU
  rwa [←Nat.add_assoc] at this
 have e:(execOp a.eval ⟨none,.store t x y,ty,pos,Ce,gd⟩).run c.P w=.ok .skip (w.setCells g (o'+j) l):=by
  simp [execOp,ag.ev hx,ag.ev hy,Hm,Ag8 hs hv hl ht h1]
 rw [e];have ⟨h2,h3⟩:=Bab hP hp;exact h.h _ _ (s.rpl hr rfl (fun b hb=>.inl hb) h3 h2) ag
theorem Co {t:TypeId} {zs:List Value} [hZ:ZC c.P t zs] (hd:Nat.blt d c.n=true) (h:∀g,T c ((d,Hm g 0 0)::fr) (.row g t 0 [] zs []::H) Φ):On c fr H (some d) (.alloc t) ty Φ:=⟨fun _ _ _=>Au1 h hd⟩
theorem Bea {t:TypeId} {l:List Value} (hd:Nat.blt d c.n=true) (hx:ev fr x=some v) (hv:v.cells=l.toArray) (h:∀g,T c ((d,Hm g 0 0)::fr) (.row g t 0 [] l []::H) Φ):On c fr H (some d) (.box t x) ty Φ:=⟨fun _ _ _=>Bb0 hx hv h hd⟩
theorem Awd {t g tt o' j m:Nat} {A cs B l r:List Value} {S:List Pc} (hx:ev fr x=some (Hm g o' j)) (hy:ev fr y=some v) (hv:v.cells=l.toArray) (hs:(c.P.info? t).map (·.size)=some m) (hl:l.length=m) (hr:Rpl H (.row g tt o' A cs B) (.row g tt o' A r B) S) (hp:Put cs j l r) (h1:l.all (·.oneCell')=true) (h:T c fr S Φ):On c fr H none (.store t x y) ty Φ :=
 ⟨fun _ _ _=>Alb hs hx hy hv hl h1 hp hr h⟩
/-! calls -/
theorem Ba3 {f:Nat} {aS:List Operand} {ts:Array TypeId} {vs:List Value} {gd:Option (Nat × Bool)} (h:Cl c fr H d f vs Φ) (ha:Evs fr aS vs) (hb:Qi c.P f=true) (hd:Nat.blt d c.n=true):Ef c fr H ⟨some d,.call { callee:=.value (.func f),args:=aS.toArray,argTypes:=ts },ty,pos,Ce,gd⟩ Φ:=Ok fun Q a w s g=>by
 have e:(execOp a.eval ⟨some d,.call { callee:=.value (.func f),args:=aS.toArray,argTypes:=ts },ty,pos,Ce,gd⟩).run c.P w=(callFunc f vs.toArray).run c.P w:=by
  simp [execOp,resolve,Deferred.ofValue,Act.eval,invoke,g.evs ha]
 rw [e];obtain ⟨R,hc,hk⟩:=h.h w s;refine (Uo hb).upon hc fun e w' hR=>?_;obtain ⟨v,he,hv⟩:=hk e w' hR;exact ⟨v,he,hv _ (g.put hd)⟩
theorem Zr {f:Nat} {vs:List Value} {R:World→Ending→World→Prop} (hc:∀w,St c.G c.D c.w0 H w→Calls c.P f vs.toArray w (R w))
  (hk:∀w e w',St c.G c.D c.w0 H w→R w e w'→∃v,e=.returned v∧∀a,Ag c.n ((d,v)::fr) a→Φ.sem c a w'):Cl c fr H d f vs Φ:=⟨fun w s=>⟨R w,hc w s,fun e w' hR=>hk w e w' s hR⟩⟩
theorem cb {f:Nat} {vs:List Value} (hc:∀w,St c.G c.D c.w0 H w→Calls c.P f vs.toArray w fun e w'=>e=.returned v∧Below w.heap.size w w') (h:T c ((d,v)::fr) H Φ):Cl c fr H d f vs Φ :=
 Zr hc fun w e w' s ⟨he,hB⟩=>⟨v,he,fun a g=>h.h a w' (s.below hB) g⟩
theorem ce {f:Nat} {vs:List Value} (hc:∀w,St c.G c.D c.w0 H w→Calls c.P f vs.toArray w fun e w'=>e=.returned v∧w=w') (h:T c ((d,v)::fr) H Φ):Cl c fr H d f vs Φ :=
 Zr hc fun w e w' s ⟨he,hB⟩=>⟨v,he,fun a g=>h.h a w' (hB▸s) g⟩
theorem cf_ {f:Nat} {vs:List Value} {A M R:List Pc} {σ:Type} {C:σ→Prop} {vv:σ→Value} {N:σ→List Pc} (hf:Fn c.P f vs A M C vv N) (h:∀s,C s→T c ((d,vv s)::fr) (N s++R) Φ)
  (hM:Ex H M R) (hA:M6 A R) (hmM:M.all (·.mu)=true) (hmA:A.all (fun p=>!p.mu)=true):Cl c fr H d f vs Φ :=
 have hMR:∀w,St c.G c.D c.w0 H w→St c.G c.D c.w0 (M++R) w:=fun w s=>by simpa using hM.st (X:=[]) IB
 have hmu:∀p∈M,p.mu=true:=fun p hp=>List.all_eq_true.1 hmM p hp;have hro:∀p∈A,p.mu=false:=fun p hp=>by simpa using List.all_eq_true.1 hmA p hp
 have hpre:∀w,St c.G c.D c.w0 H w→O2 (M++A) w∧Sq (M++A):=fun w s=>by
  have s2:=hMR w s;have hAR:=hA.all;refine ⟨fun p hp=>?_,?_⟩
  ·rcases List.mem_append.1 hp with hp|hp
   ·exact s2.on p IR
   ·exact s2.on p (by simp [hAR p hp])
  ·have:∀(M:List Pc),Sq (M++R)→Sq (M++A):=by
    intro M
    induction M with
    | nil =>
     intro _;have:∀(A:List Pc),(∀p∈A,p.mu=false)→Sq A:=by
      intro A
      induction A with
      | nil=>intro _;trivial
      | cons p A ih=>intro h;exact ⟨fun q hq hm=>by rw [h p GL,h q HG] at hm;simp at hm,ih fun q hq=>h q HG⟩
     exact this A hro
    | cons p M ih =>
     intro hs;exact ⟨fun q hq=>hs.1 q (by rcases List.mem_append.1 hq with h|h;simp [h];simp [hAR q h]),ih hs.2⟩
   exact this M s2.sep
 Zr (R:=fun w e w'=>∃s,C s∧e=.returned (vv s)∧O2 (N s) w'∧Sq (N s)∧Dn (fp M) w w'∧∀p∈N s,∀b∈p.F,w.heap.size≤b∨(∃q∈M,b∈q.F)∨(p.mu=false∧∃q∈A,b∈q.F))
  (fun w s=>hf w (hpre w s).1 (hpre w s).2)
  (fun w e w' s ⟨z,hz,he,hN,hS,hK,hF⟩=>⟨_,he,fun a g=>(h z hz).h a w' (St.turn (hMR w s) (by rwa [List.filter_eq_self.2 hmu]) hN hS fun p hp b hb=>by
   rcases hF p hp b hb with h|⟨q,hq,hqb⟩|⟨hp,q,hq,hqb⟩
   ·exact .inl h
   ·exact .inr (.inl ⟨q,hq,hmu q hq,hqb⟩)
   ·exact .inr (.inr ⟨hp,q,by simp [hA.all q hq],hro q hq,hqb⟩)) g⟩)
theorem Afn {f:Nat} {aS:List Operand} {ts:Array TypeId} {vs:List Value} (hd:Nat.blt d c.n=true) (hb:Qi c.P f=true) (ha:Evs fr aS vs) (h:Cl c fr H d f vs Φ):On c fr H (some d) (.call { callee:=.value (.func f),args:=aS.toArray,argTypes:=ts }) ty Φ:=⟨fun _ _ _=>Ba3 h ha hb hd⟩
/-! a function's beginning and end -/
end
def Aja (P:Program) (w:World) (A M:List Pc) {σ:Type} (C:σ→Prop) (v:σ→Value) (N:σ→List Pc) (e:Ending) (w':World):Prop:=∃s,C s∧e=.returned (v s)∧O2 (N s) w'∧Sq (N s)∧Dn (fp M) w w' ∧
  ∀p∈N s,∀b∈p.F,w.heap.size≤b∨(∃q∈M,b∈q.F)∨(p.mu=false∧∃q∈A,b∈q.F)
def Ak5:Nat→List Value→Fr
 | _,[]=>[]
 | i,v::r=>(i,v)::Ak5 (i+1) r
theorem Ass (vs:List Value):∀i t v,Qz (Ak5 i vs) t=some v→i≤t∧vs[t - i]?=some v:=by
 induction vs with
 | nil=>intro i t v h;cases h
 | cons x r ih =>
  intro i t v h;unfold Ak5 at h;rw [T7] at h
  split at h
  ·rename_i e;subst e;exact ⟨Nat.le_refl _,GW⟩
  ·have ⟨h1,h2⟩:=ih (i+1) t v h;refine ⟨GJ,?_⟩;rw [show t - i=(t - (i+1))+1 by omega,List.getElem?_cons_succ];exact h2
theorem Avb {P:Program} {f:FuncId} {fn:Func} {cd:Code} {args:List Value} {A M:List Pc} {σ:Type} {C:σ→Prop} {v:σ→Value} {N:σ→List Pc} (hf:P.funcs[f]?=some fn) (hb:fn.body=some cd)
  (h:∀w,T ⟨P,fp M,fp A,w,fn.ntmps,bodyPost P fn (Aja P w A M C v N)⟩ (Ak5 0 args) (M++A) (.code [] cd))
  (hn:args.length≤fn.ntmps) (hmA:A.all (fun p=>!p.mu)=true):Fn P f args A M C v N:=fun w hH hS=>by
 refine calls_of_wp hf hb ?_;have hro:∀p∈A,p.mu=false:=fun p hp=>by simpa using List.all_eq_true.1 hmA p hp
 refine (h w).h _ _ ⟨Dn.refl _ _,hH,hS,fun p hp b hb=>?_⟩ ⟨rfl,GU,fun t u hu=>?_⟩
 ·rcases List.mem_append.1 hp with hp|hp
  ·exact .inl (Q0.2 ⟨p,hp,hb⟩)
  ·exact .inr (.inr ⟨hro p hp,Q0.2 ⟨p,hp,hb⟩⟩)
 ·obtain ⟨-,h2⟩:=Ass args 0 t u hu;simp only [Nat.sub_zero] at h2;show (args.toArray++Array.replicate (fn.ntmps - args.toArray.size) undef)[t]?=_;have ht:t < args.length:=(List.getElem?_eq_some_iff.1 h2).1;rw [Array.getElem?_append_left (by simpa using ht)];simpa using h2
inductive Res (P:Program) (fr:Fr) (H:List Pc):List ResultVar→List Value→Prop
 | nil:Res P fr H [] []
 | tmp {t v r vs}:Qz fr t=some v→Res P fr H r vs→Res P fr H (.tmp t::r) (v::vs)
 | agg {t ty m g o tt A cs B r vs}:AggC P ty m→Qz fr t=some (Hm g o 0)→Pc.row g tt o A cs B∈H→cs.length=m→Res P fr H r vs→Res P fr H (.cell t ty::r) (.agg cs.toArray::vs)
 | one {t ty g o tt A v B r vs}:OneC P ty→Qz fr t=some (Hm g o 0)→Pc.row g tt o A [v] B∈H→Res P fr H r vs→Res P fr H (.cell t ty::r) (v::vs)
theorem Cut.whole:∀(l:List Value),Cut l 0 l.length l
 | []=>.zero
 | _::r=>.one (Cut.whole r)
theorem Aen (x:Addr):asAddr (.pointer (some x))=pure x:=rfl
theorem Az8 {P:Program} {fr:Fr} {H:List Pc} {n:Nat} {rs vs} (f:ResultVar→Sem Value) {a:Act} (f1:∀t,f (.tmp t)=pure (a.tmps.getD t undef)) (f2:∀p t,f (.cell p t)=do loadVar t (←asAddr (a.tmps.getD p undef)))
  (h:Res P fr H rs vs) {w:World} (g:Ag n fr a) (hH:O2 H w):(rs.mapM f).run P w=.ok vs w:=by
 simp only [Array.getD_eq_getD_getElem?] at f1 f2
 induction h with
 | nil=>simp
 | tmp hl _ ih=>simp [List.mapM_cons,f1,g.at_ _ _ hl,ih]
 | @agg t ty m gg o tt A cs B r vs hT hl hm hc _ ih =>
  have h1:=Afg (hT:=hT) (j:=0) (Hz (hH _ hm)) (by rw [←hc];exact Cut.whole cs);exact DW
 | @one t ty gg o tt A v B r vs hT hl hm _ ih =>
  have h1:=Afh (hT:=hT) (Aak (j:=0) (hH _ hm) rfl);exact DW
def Ss:List Value→Value
 | [v]=>v
 | vs=>.tuple vs.toArray
theorem Ams {P:Program} {fr:Fr} {H:List Pc} {n:Nat} {fn:Func} {rs vs} (hr:fn.results=rs.toArray) (h:Res P fr H rs vs) {a:Act} {w:World} (g:Ag n fr a) (hH:O2 H w):(results fn a.tmps).run P w=.ok (Ss vs) w:=by
 unfold results;rw [hr];simp only [Sem.run_bind,Array.mapM_eq_mapM_toList];have:∀(f:ResultVar→Sem Value),(rs.mapM f).run P w=.ok vs w→((List.toArray <$> rs.mapM f:Sem (Array Value))).run P w=.ok vs.toArray w:=fun f hf=>by
  simp [hf]
 refine (congrArg (fun x=>Result.andThen x _) (this _ (Az8 _ ?_ ?_ h g hH))).trans ?_
 ·intro t;rfl
 ·intro p t;rfl
 simp only [Result.andThen_ok,Sem.run_pure]
 congr 1
 match vs with
 | []=>rfl
 | [v]=>rfl
 | v::u::r=>simp [Ss]
theorem Bb3 {P:Program} {fn:Func} {G D:List Nat} {w0:World} {n:Nat} {A M:List Pc} {σ:Type} {C:σ→Prop} {v:σ→Value} {N:σ→List Pc} {fr:Fr} {H:List Pc} {rs:List ResultVar} {vs:List Value} (s:σ) (hC:C s)
  (hr:fn.results=rs.toArray) (h:Res P fr H rs vs) (hv:Ss vs=v s) (hN:Ku H (N s)) (hG:G=fp M) (hD:D=fp A):T ⟨P,G,D,w0,n,bodyPost P fn (Aja P w0 A M C v N)⟩ fr H (.fin .ret):=.mk fun a w st g=>by
 subst hG hD;refine ⟨g.df,_,Ams hr h g st.on,s,hC,by rw [hv],?_⟩;have s2:=st.sub hN;refine ⟨s2.on,s2.sep,s2.H8,fun p hp b hb=>?_⟩;rcases s2.Abs p hp b hb with h|h|⟨h1,h⟩
 ·exact .inr (.inl (Q0.1 h))
 ·exact .inl h
 ·exact .inr (.inr ⟨h1,Q0.1 h⟩)
instance:OneC prog 3:=⟨⟨_,underlying3,rfl⟩,GK⟩
instance:IntC prog 3 .i64:=⟨underlying3⟩
instance:ZC prog 3 [.int .i64 0]:=⟨⟨.int .i64 0,GK,rfl⟩⟩
instance:ElT prog 3 (.int .i64 0) 1 8:=⟨GK,rfl⟩
instance:IntC prog 5 .u8:=⟨underlying5⟩
instance:IntC prog 246 .u64:=⟨underlying246⟩
instance:OneC prog 4:=⟨⟨_,underlying4,rfl⟩,GK⟩
instance:BoolC prog 4:=⟨underlying4⟩
instance:OneC prog 9:=⟨⟨_,underlying9,rfl⟩,GK⟩
instance:StrC prog 9:=⟨underlying9⟩
instance:ZC prog 9 [.string ⟨#[]⟩]:=⟨⟨.string ⟨#[]⟩,GK,rfl⟩⟩
instance:ElT prog 9 (.string ⟨#[]⟩) 1 16:=⟨GK,rfl⟩
instance:AggC prog 24 1:=⟨⟨_,underlying24,rfl⟩,GK⟩
instance:AggC prog 26 3:=⟨⟨_,underlying26,rfl⟩,GK⟩
instance:AggC prog 31 1:=⟨⟨_,underlying31,rfl⟩,GK⟩
instance:FldC prog 31 0 0 22 1:=⟨⟨_,_,underlying31,rfl,rfl,rfl⟩,GK,GM⟩
instance:ZC prog 31 [.slice none 0 0]:=⟨⟨.agg #[.slice none 0 0],GK,rfl⟩⟩
instance:BldC prog 31 [(0,1)] [.slice none 0 0]:=⟨fun parts=>by kernel_rfl⟩
instance:AggC prog 33 3:=⟨⟨_,underlying33,rfl⟩,GK⟩
instance:FldC prog 33 0 0 9 1:=⟨⟨_,_,underlying33,rfl,rfl,rfl⟩,GK,GM⟩
instance:FldC prog 33 1 1 9 1:=⟨⟨_,_,underlying33,rfl,rfl,rfl⟩,GK,GM⟩
instance:FldC prog 33 2 2 3 1:=⟨⟨_,_,underlying33,rfl,rfl,rfl⟩,GK,GM⟩
instance:ZC prog 33 [.string ⟨#[]⟩,.string ⟨#[]⟩,.int .i64 0]:=⟨⟨.agg #[.string ⟨#[]⟩,.string ⟨#[]⟩,.int .i64 0],GK,rfl⟩⟩
instance:BldC prog 33 [(0,1),(1,1),(2,1)] [.string ⟨#[]⟩,.string ⟨#[]⟩,.int .i64 0]:=⟨fun parts=>by kernel_rfl⟩
instance:AggC prog 40 3:=⟨⟨_,underlying40,rfl⟩,GK⟩
instance:FldC prog 40 0 0 3 1:=⟨⟨_,_,underlying40,rfl,rfl,rfl⟩,GK,GM⟩
instance:FldC prog 40 1 1 3 1:=⟨⟨_,_,underlying40,rfl,rfl,rfl⟩,GK,GM⟩
instance:FldC prog 40 2 2 38 1:=⟨⟨_,_,underlying40,rfl,rfl,rfl⟩,GK,GM⟩
instance:ZC prog 40 [.int .i64 0,.int .i64 0,.slice none 0 0]:=⟨⟨.agg #[.int .i64 0,.int .i64 0,.slice none 0 0],GK,rfl⟩⟩
instance:BldC prog 40 [(0,1),(1,1),(2,1)] [.int .i64 0,.int .i64 0,.slice none 0 0]:=⟨fun parts=>by kernel_rfl⟩
instance:AggC prog 43 6:=⟨⟨_,underlying43,rfl⟩,GK⟩
instance:FldC prog 43 0 0 40 3:=⟨⟨_,_,underlying43,rfl,rfl,rfl⟩,GK,GM⟩
instance:FldC prog 43 1 3 3 1:=⟨⟨_,_,underlying43,rfl,rfl,rfl⟩,GK,GM⟩
instance:FldC prog 43 2 4 3 1:=⟨⟨_,_,underlying43,rfl,rfl,rfl⟩,GK,GM⟩
instance:FldC prog 43 3 5 41 1:=⟨⟨_,_,underlying43,rfl,rfl,rfl⟩,GK,GM⟩
instance:ZC prog 43 [.int .i64 0,.int .i64 0,.slice none 0 0,.int .i64 0,.int .i64 0,.slice none 0 0]:=⟨⟨.agg #[.int .i64 0,.int .i64 0,.slice none 0 0,.int .i64 0,.int .i64 0,.slice none 0 0],GK,rfl⟩⟩
instance:BldC prog 43 [(0,3),(3,1),(4,1),(5,1)] [.int .i64 0,.int .i64 0,.slice none 0 0,.int .i64 0,.int .i64 0,.slice none 0 0]:=⟨fun parts=>by kernel_rfl⟩
instance:AggC prog 48 11:=⟨⟨_,underlying48,rfl⟩,GK⟩
instance:FldC prog 48 0 0 31 1:=⟨⟨_,_,underlying48,rfl,rfl,rfl⟩,GK,GM⟩
instance:FldC prog 48 1 1 43 6:=⟨⟨_,_,underlying48,rfl,rfl,rfl⟩,GK,GM⟩
instance:FldC prog 48 2 7 44 1:=⟨⟨_,_,underlying48,rfl,rfl,rfl⟩,GK,GM⟩
instance:FldC prog 48 3 8 45 1:=⟨⟨_,_,underlying48,rfl,rfl,rfl⟩,GK,GM⟩
instance:FldC prog 48 4 9 46 1:=⟨⟨_,_,underlying48,rfl,rfl,rfl⟩,GK,GM⟩
instance:FldC prog 48 5 10 46 1:=⟨⟨_,_,underlying48,rfl,rfl,rfl⟩,GK,GM⟩
instance:ZC prog 48 [.slice none 0 0,.int .i64 0,.int .i64 0,.slice none 0 0,.int .i64 0,.int .i64 0,.slice none 0 0,.slice none 0 0,.slice none 0 0,.slice none 0 0,.slice none 0 0]:=⟨⟨.agg #[.slice none 0 0,.int .i64 0,.int .i64 0,.slice none 0 0,.int .i64 0,.int .i64 0,.slice none 0 0,.slice none 0 0,.slice none 0 0,.slice none 0 0,.slice none 0 0],GK,rfl⟩⟩
instance:BldC prog 48 [(0,1),(1,6),(7,1),(8,1),(9,1),(10,1)] [.slice none 0 0,.int .i64 0,.int .i64 0,.slice none 0 0,.int .i64 0,.int .i64 0,.slice none 0 0,.slice none 0 0,.slice none 0 0,.slice none 0 0,.slice none 0 0]:=⟨fun parts=>by kernel_rfl⟩
instance:AggC prog 50 14:=⟨⟨_,underlying50,rfl⟩,GK⟩
instance:FldC prog 50 0 0 48 11:=⟨⟨_,_,underlying50,rfl,rfl,rfl⟩,GK,GM⟩
instance:FldC prog 50 1 11 33 3:=⟨⟨_,_,underlying50,rfl,rfl,rfl⟩,GK,GM⟩
instance:ZC prog 50 [.slice none 0 0,.int .i64 0,.int .i64 0,.slice none 0 0,.int .i64 0,.int .i64 0,.slice none 0 0,.slice none 0 0,.slice none 0 0,.slice none 0 0,.slice none 0 0,.string ⟨#[]⟩,.string ⟨#[]⟩,.int .i64 0]:=⟨⟨.agg #[.slice none 0 0,.int .i64 0,.int .i64 0,.slice none 0 0,.int .i64 0,.int .i64 0,.slice none 0 0,.slice none 0 0,.slice none 0 0,.slice none 0 0,.slice none 0 0,.string ⟨#[]⟩,.string ⟨#[]⟩,.int .i64 0],GK,rfl⟩⟩
instance:BldC prog 50 [(0,11),(11,3)] [.slice none 0 0,.int .i64 0,.int .i64 0,.slice none 0 0,.int .i64 0,.int .i64 0,.slice none 0 0,.slice none 0 0,.slice none 0 0,.slice none 0 0,.slice none 0 0,.string ⟨#[]⟩,.string ⟨#[]⟩,.int .i64 0]:=⟨fun parts=>by kernel_rfl⟩
instance:AggC prog 60 2:=⟨⟨_,underlying60,rfl⟩,GK⟩
instance:FldC prog 60 0 0 9 1:=⟨⟨_,_,underlying60,rfl,rfl,rfl⟩,GK,GM⟩
instance:FldC prog 60 1 1 9 1:=⟨⟨_,_,underlying60,rfl,rfl,rfl⟩,GK,GM⟩
instance:ZC prog 60 [.string ⟨#[]⟩,.string ⟨#[]⟩]:=⟨⟨.agg #[.string ⟨#[]⟩,.string ⟨#[]⟩],GK,rfl⟩⟩
instance:ElT prog 60 (.agg #[.string ⟨#[]⟩,.string ⟨#[]⟩]) 2 32:=⟨GK,rfl⟩
instance:BldC prog 60 [(0,1),(1,1)] [.string ⟨#[]⟩,.string ⟨#[]⟩]:=⟨fun parts=>by kernel_rfl⟩
instance:AggC prog 92 3:=⟨⟨_,underlying92,rfl⟩,GK⟩
instance:FldC prog 92 0 0 3 1:=⟨⟨_,_,underlying92,rfl,rfl,rfl⟩,GK,GM⟩
instance:FldC prog 92 1 1 3 1:=⟨⟨_,_,underlying92,rfl,rfl,rfl⟩,GK,GM⟩
instance:FldC prog 92 2 2 9 1:=⟨⟨_,_,underlying92,rfl,rfl,rfl⟩,GK,GM⟩
instance:ZC prog 92 [.int .i64 0,.int .i64 0,.string ⟨#[]⟩]:=⟨⟨.agg #[.int .i64 0,.int .i64 0,.string ⟨#[]⟩],GK,rfl⟩⟩
instance:BldC prog 92 [(0,1),(1,1),(2,1)] [.int .i64 0,.int .i64 0,.string ⟨#[]⟩]:=⟨fun parts=>by kernel_rfl⟩
instance:AggC prog 110 2:=⟨⟨_,underlying110,rfl⟩,GK⟩
instance:FldC prog 110 0 0 3 1:=⟨⟨_,_,underlying110,rfl,rfl,rfl⟩,GK,GM⟩
instance:FldC prog 110 1 1 108 1:=⟨⟨_,_,underlying110,rfl,rfl,rfl⟩,GK,GM⟩
instance:ZC prog 110 [.int .i64 0,.slice none 0 0]:=⟨⟨.agg #[.int .i64 0,.slice none 0 0],GK,rfl⟩⟩
instance:ElT prog 110 (.agg #[.int .i64 0,.slice none 0 0]) 2 32:=⟨GK,rfl⟩
instance:BldC prog 110 [(0,1),(1,1)] [.int .i64 0,.slice none 0 0]:=⟨fun parts=>by kernel_rfl⟩
instance:AggC prog 114 2:=⟨⟨_,underlying114,rfl⟩,GK⟩
instance:FldC prog 114 0 0 3 1:=⟨⟨_,_,underlying114,rfl,rfl,rfl⟩,GK,GM⟩
instance:FldC prog 114 1 1 112 1:=⟨⟨_,_,underlying114,rfl,rfl,rfl⟩,GK,GM⟩
instance:ZC prog 114 [.int .i64 0,.slice none 0 0]:=⟨⟨.agg #[.int .i64 0,.slice none 0 0],GK,rfl⟩⟩
instance:BldC prog 114 [(0,1),(1,1)] [.int .i64 0,.slice none 0 0]:=⟨fun parts=>by kernel_rfl⟩
instance:AggC prog 117 5:=⟨⟨_,underlying117,rfl⟩,GK⟩
instance:FldC prog 117 0 0 4 1:=⟨⟨_,_,underlying117,rfl,rfl,rfl⟩,GK,GM⟩
instance:FldC prog 117 1 1 3 1:=⟨⟨_,_,underlying117,rfl,rfl,rfl⟩,GK,GM⟩
instance:FldC prog 117 2 2 114 2:=⟨⟨_,_,underlying117,rfl,rfl,rfl⟩,GK,GM⟩
instance:FldC prog 117 3 4 115 1:=⟨⟨_,_,underlying117,rfl,rfl,rfl⟩,GK,GM⟩
instance:ZC prog 117 [.bool false,.int .i64 0,.int .i64 0,.slice none 0 0,.slice none 0 0]:=⟨⟨.agg #[.bool false,.int .i64 0,.int .i64 0,.slice none 0 0,.slice none 0 0],GK,rfl⟩⟩
instance:ElT prog 117 (.agg #[.bool false,.int .i64 0,.int .i64 0,.slice none 0 0,.slice none 0 0]) 5 72:=⟨GK,rfl⟩
instance:BldC prog 117 [(0,1),(1,1),(2,2),(4,1)] [.bool false,.int .i64 0,.int .i64 0,.slice none 0 0,.slice none 0 0]:=⟨fun parts=>by kernel_rfl⟩
instance:AggC prog 156 2:=⟨⟨_,underlying156,rfl⟩,GK⟩
instance:FldC prog 156 0 0 3 1:=⟨⟨_,_,underlying156,rfl,rfl,rfl⟩,GK,GM⟩
instance:FldC prog 156 1 1 3 1:=⟨⟨_,_,underlying156,rfl,rfl,rfl⟩,GK,GM⟩
instance:ZC prog 156 [.int .i64 0,.int .i64 0]:=⟨⟨.agg #[.int .i64 0,.int .i64 0],GK,rfl⟩⟩
instance:ElT prog 156 (.agg #[.int .i64 0,.int .i64 0]) 2 16:=⟨GK,rfl⟩
instance:BldC prog 156 [(0,1),(1,1)] [.int .i64 0,.int .i64 0]:=⟨fun parts=>by kernel_rfl⟩
instance:AggC prog 159 5:=⟨⟨_,underlying159,rfl⟩,GK⟩
instance:FldC prog 159 0 0 3 1:=⟨⟨_,_,underlying159,rfl,rfl,rfl⟩,GK,GM⟩
instance:FldC prog 159 1 1 3 1:=⟨⟨_,_,underlying159,rfl,rfl,rfl⟩,GK,GM⟩
instance:FldC prog 159 2 2 3 1:=⟨⟨_,_,underlying159,rfl,rfl,rfl⟩,GK,GM⟩
instance:FldC prog 159 3 3 3 1:=⟨⟨_,_,underlying159,rfl,rfl,rfl⟩,GK,GM⟩
instance:FldC prog 159 4 4 9 1:=⟨⟨_,_,underlying159,rfl,rfl,rfl⟩,GK,GM⟩
instance:ZC prog 159 [.int .i64 0,.int .i64 0,.int .i64 0,.int .i64 0,.string ⟨#[]⟩]:=⟨⟨.agg #[.int .i64 0,.int .i64 0,.int .i64 0,.int .i64 0,.string ⟨#[]⟩],GK,rfl⟩⟩
instance:ElT prog 159 (.agg #[.int .i64 0,.int .i64 0,.int .i64 0,.int .i64 0,.string ⟨#[]⟩]) 5 48:=⟨GK,rfl⟩
instance:BldC prog 159 [(0,1),(1,1),(2,1),(3,1),(4,1)] [.int .i64 0,.int .i64 0,.int .i64 0,.int .i64 0,.string ⟨#[]⟩]:=⟨fun parts=>by kernel_rfl⟩
instance:AggC prog 162 3:=⟨⟨_,underlying162,rfl⟩,GK⟩
instance:FldC prog 162 0 0 3 1:=⟨⟨_,_,underlying162,rfl,rfl,rfl⟩,GK,GM⟩
instance:FldC prog 162 1 1 22 1:=⟨⟨_,_,underlying162,rfl,rfl,rfl⟩,GK,GM⟩
instance:FldC prog 162 2 2 3 1:=⟨⟨_,_,underlying162,rfl,rfl,rfl⟩,GK,GM⟩
instance:ZC prog 162 [.int .i64 0,.slice none 0 0,.int .i64 0]:=⟨⟨.agg #[.int .i64 0,.slice none 0 0,.int .i64 0],GK,rfl⟩⟩
instance:ElT prog 162 (.agg #[.int .i64 0,.slice none 0 0,.int .i64 0]) 3 40:=⟨GK,rfl⟩
instance:BldC prog 162 [(0,1),(1,1),(2,1)] [.int .i64 0,.slice none 0 0,.int .i64 0]:=⟨fun parts=>by kernel_rfl⟩
instance:AggC prog 166 4:=⟨⟨_,underlying166,rfl⟩,GK⟩
instance:FldC prog 166 0 0 3 1:=⟨⟨_,_,underlying166,rfl,rfl,rfl⟩,GK,GM⟩
instance:FldC prog 166 1 1 3 1:=⟨⟨_,_,underlying166,rfl,rfl,rfl⟩,GK,GM⟩
instance:FldC prog 166 2 2 3 1:=⟨⟨_,_,underlying166,rfl,rfl,rfl⟩,GK,GM⟩
instance:FldC prog 166 3 3 3 1:=⟨⟨_,_,underlying166,rfl,rfl,rfl⟩,GK,GM⟩
instance:ZC prog 166 [.int .i64 0,.int .i64 0,.int .i64 0,.int .i64 0]:=⟨⟨.agg #[.int .i64 0,.int .i64 0,.int .i64 0,.int .i64 0],GK,rfl⟩⟩
instance:ElT prog 166 (.agg #[.int .i64 0,.int .i64 0,.int .i64 0,.int .i64 0]) 4 32:=⟨GK,rfl⟩
instance:BldC prog 166 [(0,1),(1,1),(2,1),(3,1)] [.int .i64 0,.int .i64 0,.int .i64 0,.int .i64 0]:=⟨fun parts=>by kernel_rfl⟩
instance:AggC prog 196 2:=⟨⟨_,underlying196,rfl⟩,GK⟩
instance:FldC prog 196 0 0 4 1:=⟨⟨_,_,underlying196,rfl,rfl,rfl⟩,GK,GM⟩
instance:FldC prog 196 1 1 9 1:=⟨⟨_,_,underlying196,rfl,rfl,rfl⟩,GK,GM⟩
instance:ZC prog 196 [.bool false,.string ⟨#[]⟩]:=⟨⟨.agg #[.bool false,.string ⟨#[]⟩],GK,rfl⟩⟩
instance:ElT prog 196 (.agg #[.bool false,.string ⟨#[]⟩]) 2 24:=⟨GK,rfl⟩
instance:BldC prog 196 [(0,1),(1,1)] [.bool false,.string ⟨#[]⟩]:=⟨fun parts=>by kernel_rfl⟩
instance:OneC prog 22:=⟨⟨_,underlying22,rfl⟩,GK⟩
instance:SlC prog 22 3 1:=⟨underlying22,GK⟩
instance:OneC prog 38:=⟨⟨_,underlying38,rfl⟩,GK⟩
instance:SlC prog 38 9 1:=⟨underlying38,GK⟩
instance:OneC prog 41:=⟨⟨_,underlying41,rfl⟩,GK⟩
instance:SlC prog 41 156 2:=⟨underlying41,GK⟩
instance:OneC prog 44:=⟨⟨_,underlying44,rfl⟩,GK⟩
instance:SlC prog 44 110 2:=⟨underlying44,GK⟩
instance:OneC prog 45:=⟨⟨_,underlying45,rfl⟩,GK⟩
instance:SlC prog 45 117 5:=⟨underlying45,GK⟩
instance:OneC prog 46:=⟨⟨_,underlying46,rfl⟩,GK⟩
instance:SlC prog 46 135 1:=⟨underlying46,GK⟩
instance:SlC prog 54 60 2:=⟨underlying54,GK⟩
instance:OneC prog 108:=⟨⟨_,underlying108,rfl⟩,GK⟩
instance:SlC prog 108 162 3:=⟨underlying108,GK⟩
instance:OneC prog 112:=⟨⟨_,underlying112,rfl⟩,GK⟩
instance:SlC prog 112 196 2:=⟨underlying112,GK⟩
instance:OneC prog 115:=⟨⟨_,underlying115,rfl⟩,GK⟩
instance:SlC prog 115 166 4:=⟨underlying115,GK⟩
instance:OneC prog 135:=⟨⟨_,underlying135,rfl⟩,GK⟩
instance:SlC prog 135 159 5:=⟨underlying135,GK⟩
instance:ZC prog 135 [.slice none 0 0]:=⟨⟨.slice none 0 0,GK,rfl⟩⟩
instance:ElT prog 135 (.slice none 0 0) 1 24:=⟨GK,rfl⟩
instance:OneC prog 204:=⟨⟨_,underlying204,rfl⟩,GK⟩
instance:OneC prog 261:=⟨⟨_,underlying261,rfl⟩,GK⟩
instance:OneC prog 264:=⟨⟨_,underlying264,rfl⟩,GK⟩
theorem Sl.dropS {P:Program} {α:Type} {E:Bx α} {w:World} {a:Option Addr} {n cap:Nat} {xs:List α} {F} (h:Sl E w (.slice a n cap) xs F) (t:TypeId) (ht:P.underlying t=some (.slice (P.elem t))) (k:Nat) (hk:k≤xs.length)
  (hs:∀W,(sizeOf (P.elem t)).run P W=.ok E.sz W):∃a2 c2 F',(∀W,(Instr.sliceAt t (.slice a n cap) (some (.int .i64 (k:Int))) none none).run P W=.ok (.slice a2 (xs.length - k) c2) W)∧(∀b∈F',b∈F)∧Sl E w (.slice a2 (xs.length - k) c2) (xs.drop k) F':=by
 obtain ⟨a',cap',hv,hl,h⟩:=h;cases hv;have hrun:∀W,(Instr.sliceAt t (.slice a xs.length cap) (some (.int .i64 (k:Int))) none none).run P W=.ok (.slice (if cap=k then a else a.map (·.add (k * E.sz))) (xs.length - k) (cap - k)) W:=fun W=>by
  rw [run_sliceAt_slice (h:=ht),run_slice_l (ht:=ht) (h0:=GJ) (h1:=GJ),hs];simp [Result.andThen,sliced]
 refine ⟨if cap=k then a else a.map (·.add (k * E.sz)),cap - k,?_⟩;rcases h with ⟨rfl,rfl,h0⟩|⟨b,off,F',rfl,hne,rfl,hc⟩
 ·refine ⟨[],hrun,GL,if cap=k then a else a.map (·.add (k * E.sz)),cap - k,GL,⟨GL,GJ⟩,.inl ⟨GL,rfl,fun e=>?_⟩⟩;cases a with
  | none=>rw [h0 rfl];simp
  | some ad=>split at e <;> simp at e
 ·by_cases hkn:k=xs.length
  ·subst hkn;refine ⟨[],hrun,GL,if cap=xs.length then some ⟨b,off,none⟩ else (some (⟨b,off,none⟩:Addr)).map (·.add (xs.length * E.sz)),cap - xs.length,GL,⟨GL,GJ⟩,.inl ⟨GL,rfl,fun e=>?_⟩⟩
   split at e <;> simp at e
  ·obtain ⟨cs,hf,hcs⟩:=hc.flat;have e:xs=xs.take k++xs.drop k:=by simp
   rw [e] at hf;obtain ⟨c1,c2,G1,G2,rfl,rfl,h1,h2⟩:=hf.split;have hl1:=h1.len;have hck:¬cap=k:=by omega
   rw [List.length_take,Nat.min_eq_left GJ] at hl1;refine ⟨b::G2,hrun,by intro x hx;simp at hx ⊢;rcases hx with hx|hx <;> simp [hx],some ⟨b,off+k * E.sz,none⟩,cap - k,?_,⟨GU,GJ⟩,.inr ⟨b,off+k * E.sz,G2,rfl,fun e=>?_,rfl,h2.cells fun j u hu=>?_⟩⟩
   ·rw [if_neg hck];simp only [Option.map_some,Addr.add,List.length_drop,Value.slice.injEq,Option.some.injEq,and_true,true_and];by_cases h0:k * E.sz=0 <;> simp [h0]
   ·have:=congrArg List.length e;simp at this;omega
   ·have:=hcs (c1.length+j) u JA;rw [←this,hl1];congr 2;omega
end Go.Proofs.YtkagnmekdkchiaaGreatDoor
