/- Part 1 of the proof: 31 texts, one behind the other. -/
import Derived.WalkKit
import Derived.Lib.Hide
import Derived.Deep.Draws
import Derived.Deep.AppendLies
import Derived.OwnWalk
import Derived.Test.YtcmighgaiacgoaaGreatDoorRows
import Derived.WalkSpells
import Derived.WalkLawsBesides
import Derived.Deep.QuietTactic
import Derived.BigQuiet
import Derived.Deep.RegionHeld3
import Derived.Deep.OwnRows
import Derived.Lib.SliceRun
import Derived.Deep.RegionHeld
import Derived.Deep.MidRow
import Derived.IntWalk
import Derived.Laws.Strings
open _root_.Go.Proofs.Tryz
set_option maxRecDepth 100000
set_option maxHeartbeats 8000000
set_option linter.all false
set_option linter.unusedVariables false
set_option linter.unusedSimpArgs false
namespace Go.Proofs.YtcmighgaiacgoaaGreatDoor
theorem AL{p:Prop}(h:p:=by exact ⟨⟨k+1,by omega,by go_num,fun j hj hl=>by rcases Nat.lt_or_eq_of_le (Nat.le_of_lt_succ hj) with h|h;exact hz0.out j h hl;subst h;exact hpk.out,hB⟩,by simp [intOf];omega⟩):p:=h
theorem AT{p:Prop}(h:p:=by simp only [execOp,Option.map_none,Option.map_some,hA.ev hx,hA.ev hy,Sem.run_bind,h3,Result.andThen_ok,Sem.run_pure]):p:=h
theorem BL{p:Prop}(h:p:=by exact ⟨⟨q+1,m+1,F2,by omega,by omega,by rw [C6 hlt (by simp [hpq.out]),hys.out];have:=hlen.out;omega,by rw [C6 hlt (by simp [hpq.out]),hys.out],by go_num,by rw [C6 hlt (by simp [hpq.out]),hys.out];exact hg2.out.below hbb,fun b hb=>hF1 b (hF2 b hb),hK.trans (Dr.ofBelow hbb)⟩,by simp [intOf];omega⟩):p:=h
theorem DA{p:Prop}(h:p:=by refine ⟨_,F2,rfl,by rw [hys.out];exact hO.out,hn2,fun b hb=>hF1 b (hF2 b hb),hK.trans ?_⟩;rw [←M8 wr];exact (Mk _ _ _).mono (fun b hb _=>by simp at hb;subst hb;exact hgF)):p:=h
theorem DG{p:Prop}(h:p:=by exact ⟨Hv (Nt (fun j hj=>hz.out j (by omega) hj)).symm,hB⟩):p:=h
theorem DM{p:Prop}(h:p:=by simp only [Instr.loadAt,Instr.sureAddr,Sem.run_bind,Sem.run_pure,Result.andThen_ok,Nat.add_zero] at h1;simp [List.mapM_cons,f2,g.at_ _ _ hl,Il,Ag4,h1,ih]):p:=h
theorem DT{p:Prop}(h:p:=by rw [List.length_map];exact Nat.le_trans (List.length_filter_le _ _) (by simp)):p:=h
theorem EB{p:Prop}(h:p:=by exact ⟨rfl,rfl⟩):p:=h
theorem EL{p:Prop}(h:p:=by simp only [execOp,hA.ev hx,hA.ev hy,eqGuard_at_bool,e,Sem.run_bind,Sem.run_pure,Result.andThen_ok,Ahm];cases a <;> cases b <;> rfl):p:=h
theorem EM{p:Prop}(h:p:=by simpa using this):p:=h
theorem ER{p:Prop}(h:p:=by exact ⟨⟨k+1,by omega,by go_num,by refine Lib.hid ?_;rw [hz.out];rw [Agr] at h2;simp [Qo,h1,h2]⟩,by simp [intOf];omega⟩):p:=h
theorem ET{p:Prop}(h:p:=by subst hji;exact hy.wpOp hi hS ⟨fun _=>hS,H⟩):p:=h
theorem EV{p:Prop}(h:p:=by exact ⟨Hv (Ph hlt hz0.out hpk.out).symm,hB⟩):p:=h
theorem FH{p:Prop}(h:p:=by omega):p:=h
theorem FI{p:Prop}(h:p:=by simp):p:=h
theorem FJ{p:Prop}(h:p:=by kernel_rfl):p:=h
theorem FK{p:Prop}(h:p:=by decide):p:=h
theorem FL{p:Prop}(h:p:=by exact A9):p:=h
theorem FM{p:Prop}(h:p:=by repeat (first|exact .here|apply Cn.there)):p:=h
theorem FO{p:Prop}(h:p:=by simp;omega):p:=h
theorem FR{p:Prop}(h:p:=by simp [hb]):p:=h
theorem FZ{p:Prop}(h:p:=by repeat (first|exact Below.refl _ _|refine Below.setCell ?_ (by simp <;> omega) _|refine Below.alloc ?_ (by simp <;> omega) _)):p:=h
theorem GA{p:Prop}(h:p:=by simpa using h):p:=h
theorem GC{p:Prop}(h:p:=by unfold maxLen;omega):p:=h
theorem GD{p:Prop}(h:p:=by simp <;> omega):p:=h
theorem GE{p:Prop}(h:p:=by rfl):p:=h
theorem GF{p:Prop}(h:p:=by obtain ⟨v1,rfl,h1⟩:=h;exact ⟨v1,rfl,h1.frame hF⟩):p:=h
theorem GG{p:Prop}(h:p:=by obtain ⟨v1,v2,F1,F2,rfl,h1,h2,rfl⟩:=h;exact ⟨v1,v2,F1,F2,rfl,h1.frame fun b hb=>hF b (by simp [hb]),h2.frame fun b hb=>hF b (by simp [hb]),rfl⟩):p:=h
theorem GI{p:Prop}(h:p:=by assumption):p:=h
theorem GJ{p:Prop}(h:p:=by obtain ⟨v1,v2,v3,v4,v5,v6,v7,F1,F2,F3,F4,F5,F6,F7,rfl,h1,h2,h3,h4,h5,h6,h7,rfl⟩:=h;exact ⟨v1,v2,v3,v4,v5,v6,v7,F1,F2,F3,F4,F5,F6,F7,rfl,h1.frame fun b hb=>hF b (by simp [hb]),h2.frame fun b hb=>hF b (by simp [hb]),h3.frame fun b hb=>hF b (by simp [hb]),h4.frame fun b hb=>hF b (by simp [hb]),h5.frame fun b hb=>hF b (by simp [hb]),h6.frame fun b hb=>hF b (by simp [hb]),h7.frame fun b hb=>hF b (by simp [hb]),rfl⟩):p:=h
theorem GO{p:Prop}(h:p:=by simp [intOf];omega):p:=h
theorem GQ{p:Prop}(h:p:=by simp [hq]):p:=h
theorem GS{p:Prop}(h:p:=by rw [he2];exact hS.u):p:=h
theorem GV{p:Prop}(h:p:=by obtain ⟨v1,rfl,h1⟩:=h;rfl):p:=h
theorem HC{p:Prop}(h:p:=by intro x hx;simp [Pc.F] at hx;subst hx;exact hb):p:=h
theorem HG{p:Prop}(h:p:=by simpa using hr):p:=h
theorem HH{p:Prop}(h:p:=by rw [List.length_append];omega):p:=h
theorem HK{p:Prop}(h:p:=by obtain ⟨v1,rfl,h1⟩:=h;exact h1.lt (by decide)):p:=h
theorem HL{p:Prop}(h:p:=by go_num):p:=h
theorem HM{p:Prop}(h:p:=by unfold maxLen at hl;simp;omega):p:=h
theorem HN{p:Prop}(h:p:=by simpa using s):p:=h
theorem HQ{p:Prop}(h:p:=by simpa using hl):p:=h
theorem HW{p:Prop}(h:p:=by unfold Y4;split <;> omega):p:=h
theorem IA{p:Prop}(h:p:=by obtain ⟨v1,rfl,h1⟩:=h;exact h1.lt):p:=h
theorem IB{p:Prop}(h:p:=by rw [C6 hk0 (by simp [hpk]),hfl];simp;omega):p:=h
theorem IC{p:Prop}(h:p:=by simp [hp]):p:=h
theorem IG{p:Prop}(h:p:=by (repeat (first|exact .here|apply Cn.there));first|done|fail):p:=h
theorem IH{p:Prop}(h:p:=by simpa using h2):p:=h
theorem IJ{p:Prop}(h:p:=by rw [h] at hr;cases hr):p:=h
theorem IK{p:Prop}(h:p:=by obtain ⟨v1,v2,F1,F2,rfl,h1,h2,rfl⟩:=h;rfl):p:=h
theorem IR{p:Prop}(h:p:=by simpa using hj):p:=h
theorem IS{p:Prop}(h:p:=by simpa using h1):p:=h
theorem IV{p:Prop}(h:p:=by simpa using h3):p:=h
theorem IZ{p:Prop}(h:p:=by simpa using hi):p:=h
theorem JA{p:Prop}(h:p:=by have:=s[k].toNat_lt;omega):p:=h
theorem JC{p:Prop}(h:p:=by simp [hx]):p:=h
theorem JG{p:Prop}(h:p:=by rw [List.getElem?_append_right (by omega),show c1.length+j - c1.length=j by omega];exact hu):p:=h
theorem JJ{p:Prop}(h:p:=by simpa using hA.ow):p:=h
theorem JQ{p:Prop}(h:p:=by simp [hpq.out]):p:=h
theorem JR{p:Prop}(h:p:=by simp [hz]):p:=h
theorem JS{p:Prop}(h:p:=by simp [h]):p:=h
theorem JW{p:Prop}(h:p:=by simpa using hA):p:=h
theorem JX{p:Prop}(h:p:=by obtain ⟨v1,v2,v3,v4,v5,v6,v7,F1,F2,F3,F4,F5,F6,F7,rfl,h1,h2,h3,h4,h5,h6,h7,rfl⟩:=h;rfl):p:=h
theorem JY{p:Prop}(h:p:=by simp [hc]):p:=h
theorem KI{p:Prop}(h:p:=by simp [Program.elem,hS.u]):p:=h
theorem KU{p:Prop}(h:p:=by simpa using hm):p:=h
theorem KV{p:Prop}(h:p:=by simp [Pc.F]):p:=h
theorem KW{p:Prop}(h:p:=by (repeat (refine Dr.setCell ?_ hgF _));exact hK.trans (Dr.ofBelow hbb)):p:=h
theorem KZ{p:Prop}(h:p:=by simp [hpk]):p:=h
theorem LC{p:Prop}(h:p:=by simp [h.1]):p:=h
theorem LD{p:Prop}(h:p:=by rw [Hk hlt (by simp [hpq.out]),hys.out];have:=hlen.out;simp;omega):p:=h
theorem LE{p:Prop}(h:p:=by rw [Hk hlt (by simp [hpq.out]),hys.out,List.length_append];go_num):p:=h
end Go.Proofs.YtcmighgaiacgoaaGreatDoor
namespace Go.Proofs.YtcmighgaiacgoaaGreatDoor
open Go.RowKit
abbrev RB (b:Value) (w:World):Ending→World→Prop:=fun e w2=>e=.returned b∧Below w.heap.size w w2
end Go.Proofs.YtcmighgaiacgoaaGreatDoor
namespace Go.Proofs.YtcmighgaiacgoaaGreatDoor
open Go.RowKit
theorem kc {w w':World} {a:Addr} {v:Value} (hb:Below w.heap.size w w') (h:w.cell? a=some v):w'.cell? a=some v :=
 (hb.cell (World.block_lt_of_cell? w a h)).trans h
theorem kf {w w':World} {a:Addr} {v:Value} (hb:Below w.heap.size w w') (h:w.cell? a=some v):w'.frozen? a=w.frozen? a :=
 hb.frozen (World.block_lt_of_cell? w a h)
theorem tr {B:Nat} {w w1 w2:World} (h:Below B w w1) (h':Below w1.heap.size w1 w2) (hB:B≤w.heap.size):Below B w w2:=h.trans (h'.mono (Nat.le_trans hB h.size))
structure Bn (α:Type) where
 sz:Nat
 Kn:World→List Value→α→List Nat→Prop
 len:∀{w cs x F},Kn w cs x F→cs.length=sz
 lt:∀{w cs x F},Kn w cs x F→∀b∈F,b < w.heap.size
 frame:∀{w w':World} {cs x F},Kn w cs x F→(∀b∈F,w'.heap[b]?=w.heap[b]?)→Kn w' cs x F
def Pg {α:Type} (E:Bn α) (w:World) (b:Nat):Nat→List α→List Nat→Prop
 | _,[],F=>F=[]
 | off,x::r,F=>∃cs F1 F2,F=F1++F2∧E.Kn w cs x F1∧(∀j,j < E.sz→w.cell? ⟨b,off+j,none⟩=cs[j]?)∧Pg E w b (off+E.sz) r F2
def Sl {α:Type} (E:Bn α) (w:World) (v:Value) (xs:List α) (F:List Nat):Prop :=
 ∃a cap,v=.slice a xs.length cap∧(xs.length≤cap∧cap≤maxLen) ∧
  ((xs=[]∧F=[]∧(a=none→cap=0))∨∃b off F',a=some ⟨b,off,none⟩∧xs≠[]∧F=b::F'∧Pg E w b off xs F')
theorem Pg.lt {α:Type} {E:Bn α} {w:World} {b:Nat}:∀{xs:List α} {off:Nat} {F:List Nat},Pg E w b off xs F→∀c∈F,c < w.heap.size
 | [],_,_,h=>by simp [Pg] at h;simp [h]
 | _::r,_,_,h=>by
  obtain ⟨cs,F1,F2,rfl,h1,_,h2⟩:=h;intro c hc;rcases List.mem_append.1 hc with hc|hc
  ·exact E.lt h1 c hc
  ·exact Pg.lt h2 c hc
theorem Pg.frame {α:Type} {E:Bn α} {w w':World} {b:Nat} (hb:w'.heap[b]?=w.heap[b]?):∀{xs:List α} {off:Nat} {F:List Nat},Pg E w b off xs F →
  (∀c∈F,w'.heap[c]?=w.heap[c]?)→Pg E w' b off xs F
 | [],_,_,h,_=>h
 | _::r,_,_,h,hF=>by
  obtain ⟨cs,F1,F2,rfl,h1,hc,h2⟩:=h;refine ⟨cs,F1,F2,rfl,E.frame h1 fun c hc=>hF c JY,fun j hj=>?_,Pg.frame hb h2 fun c hc=>hF c JY⟩;rw [World.cell?_of_block (w:=w) hb];exact hc j hj
theorem Pg.get {α:Type} {E:Bn α} {w:World} {b:Nat}:∀{xs:List α} {off:Nat} {F:List Nat},Pg E w b off xs F→∀(i:Nat) (hi:i < xs.length),
  ∃cs F1,E.Kn w cs xs[i] F1∧(∀j,j < E.sz→w.cell? ⟨b,off+i * E.sz+j,none⟩=cs[j]?)∧∀c∈F1,c∈F
 | [],_,_,_,i,hi=>by simp at hi
 | x::r,off,_,h,0,_=>by
  obtain ⟨cs,F1,F2,rfl,h1,hc,h2⟩:=h;exact ⟨cs,F1,h1,by simpa using hc,fun c hc=>by simp [hc]⟩
 | x::r,off,_,h,i+1,hi=>by
  obtain ⟨cs,F1,F2,rfl,h1,hc,h2⟩:=h;obtain ⟨cs',F3,h3,hc3,hm⟩:=Pg.get h2 i IZ;refine ⟨cs',F3,IV,fun j hj=>?_,fun c hc=>by simp [hm c hc]⟩;rw [←hc3 j hj,show off+(i+1) * E.sz+j=off+E.sz+i * E.sz+j by rw [Nat.add_mul];omega]
theorem Pg.block {α:Type} {E:Bn α} {w:World} {b off:Nat} {xs:List α} {F:List Nat} (h:Pg E w b off xs F) (hne:xs≠[]) (hz:0 < E.sz):b < w.heap.size:=by
 cases xs with
 | nil=>exact absurd rfl hne
 | cons x r =>
  obtain ⟨cs,F1,F2,rfl,h1,hc,h2⟩:=h;have h0:=hc 0 hz;have hl:=E.len h1;rw [List.getElem?_eq_getElem FH] at h0;exact World.block_lt_of_cell? w _ h0
theorem Sl.lt {α:Type} {E:Bn α} (hz:0 < E.sz) {w v xs F} (h:Sl E w v xs F):∀c∈F,c < w.heap.size:=by
 obtain ⟨a,cap,_,_,⟨_,rfl,_⟩|⟨b,off,F',_,hne,rfl,hc⟩⟩:=h
 ·simp
 ·intro c hm;rcases List.mem_cons.1 hm with rfl|hm
  ·exact hc.block hne hz
  ·exact hc.lt c hm
theorem Sl.frame {α:Type} {E:Bn α} {w w':World} {v xs F} (h:Sl E w v xs F) (hF:∀b∈F,w'.heap[b]?=w.heap[b]?):Sl E w' v xs F:=by
 obtain ⟨a,cap,hv,hl,⟨h1,h2⟩|⟨b,off,F',h1,hne,rfl,hc⟩⟩:=h
 ·exact ⟨a,cap,hv,hl,.inl ⟨h1,h2⟩⟩
 ·exact ⟨a,cap,hv,hl,.inr ⟨b,off,F',h1,hne,rfl,hc.frame (hF b FI) fun c hc=>hF c JY⟩⟩
theorem Sl.below {α:Type} {E:Bn α} (hz:0 < E.sz) {w w':World} {v xs F} (h:Sl E w v xs F) (hb:Below w.heap.size w w'):Sl E w' v xs F :=
 h.frame fun c hc=>hb.block c (h.lt hz c hc)
def Bb:Bn Int where
 sz:=1
 Kn _ cs z F:=cs=[.int .i64 z]∧F=[]
 len h:=LC
 lt h:=by simp [h.2]
 frame h _:=h
def Aue:Bn Bool where
 sz:=1
 Kn _ cs z F:=cs=[.bool z]∧F=[]
 len h:=LC
 lt h:=by simp [h.2]
 frame h _:=h
def A8:Bn ByteArray where
 sz:=1
 Kn _ cs s F:=cs=[.string s]∧s.size≤maxLen∧F=[]
 len h:=LC
 lt h:=by simp [h.2.2]
 frame h _:=h
def Ml {α:Type} (E:Bn α) (hz:0 < E.sz):Bn (List α) where
 sz:=1
 Kn w cs xs F:=∃v,cs=[v]∧Sl E w v xs F
 len h:=by obtain ⟨v,rfl,_⟩:=h;rfl
 lt h:=by obtain ⟨v,rfl,h⟩:=h;exact h.lt hz
 frame h hF:=by obtain ⟨v,rfl,h⟩:=h;exact ⟨v,rfl,h.frame hF⟩
def R6:Bn Unit where
 sz:=0
 Kn _ cs _ F:=cs=[]∧F=[]
 len h:=LC
 lt h:=by simp [h.2]
 frame h _:=h
def Hc {α β:Type} (A:Bn α) (B:Bn β):Bn (α × β) where
 sz:=A.sz+B.sz
 Kn w cs x F:=∃c1 c2 F1 F2,cs=c1++c2∧F=F1++F2∧A.Kn w c1 x.1 F1∧B.Kn w c2 x.2 F2
 len h:=by obtain ⟨c1,c2,F1,F2,rfl,rfl,h1,h2⟩:=h;simp [A.len h1,B.len h2]
 lt h:=by
  obtain ⟨c1,c2,F1,F2,rfl,rfl,h1,h2⟩:=h;intro b hb;rcases List.mem_append.1 hb with hb|hb
  ·exact A.lt h1 b hb
  ·exact B.lt h2 b hb
 frame h hF:=by
  obtain ⟨c1,c2,F1,F2,rfl,rfl,h1,h2⟩:=h;exact ⟨c1,c2,F1,F2,rfl,rfl,A.frame h1 fun b hb=>hF b FR,B.frame h2 fun b hb=>hF b FR⟩
def Bn.comap {α β:Type} (B:Bn β) (f:α→β):Bn α where
 sz:=B.sz
 Kn w cs x F:=B.Kn w cs (f x) F
 len h:=B.len h
 lt h:=B.lt h
 frame h hF:=B.frame h hF
theorem Bn.below {α:Type} (E:Bn α) {w w':World} {cs x F} (h:E.Kn w cs x F) (hb:Below w.heap.size w w'):E.Kn w' cs x F :=
 E.frame h fun c hc=>hb.block c (E.lt h c hc)
structure Bgw where
 I8:ByteArray
 Gw:ByteArray
def Biy:Bn Bgw:=(Hc A8 (Hc A8 R6)).comap fun x=>(x.I8,x.Gw,())
theorem Biy.open {w cs x F} (h:Biy.Kn w cs x F):cs=[.string x.I8,.string x.Gw]∧x.I8.size≤maxLen∧x.Gw.size≤maxLen:=by
 obtain ⟨c1,c2,F1,F2,rfl,rfl,⟨rfl,h1,_⟩,c3,c4,F3,F4,rfl,rfl,⟨rfl,h2,_⟩,rfl,_⟩:=h;exact ⟨rfl,h1,h2⟩
structure Dr (F:List Nat) (w w':World):Prop where
 os:w'.os=w.os
 tape:w'.tape=w.tape
 output:w'.output=w.output
 size:w.heap.size≤w'.heap.size
 block:∀k,k < w.heap.size→k ∉ F→w'.heap[k]?=w.heap[k]?
theorem Dr.refl (F:List Nat) (w:World):Dr F w w:=⟨rfl,rfl,rfl,Nat.le_refl _,fun _ _ _=>rfl⟩
theorem Dr.trans {F:List Nat} {a b c:World} (h:Dr F a b) (k:Dr F b c):Dr F a c :=
 ⟨k.os.trans h.os,k.tape.trans h.tape,k.output.trans h.output,Nat.le_trans h.size k.size,fun i hi hf=>(k.block i (Nat.lt_of_lt_of_le hi h.size) hf).trans (h.block i hi hf)⟩
theorem Dr.mono {F G:List Nat} {a b:World} (h:Dr F a b) (hs:∀x∈F,x < a.heap.size→x∈G):Dr G a b :=
 ⟨h.os,h.tape,h.output,h.size,fun k hk hg=>h.block k hk fun hf=>hg (hs k hf hk)⟩
theorem Dr.ofBelow {F:List Nat} {w w':World} (h:Below w.heap.size w w'):Dr F w w':=⟨h.os,h.tape,h.output,h.size,fun k hk _=>h.block k hk⟩
theorem Dr.below {F:List Nat} {w w':World} {B:Nat} (h:Dr F w w') (hB:B≤w.heap.size) (hF:∀b∈F,B≤b):Below B w w' :=
 ⟨h.os,h.tape,h.output,h.size,fun k hk=>h.block k FH fun hf=>by have:=hF k hf;omega⟩
theorem Dr.setCell {F:List Nat} {w w':World} (h:Dr F w w') {p:Addr} (hp:p.block∈F) (u:Value):Dr F w (w'.setCell p u) :=
 h.trans ⟨rfl,rfl,rfl,by simp [World.setCell],fun k _ hf=>Below.heap_setCell _ _ _ _ (fun e=>hf (e▸hp))⟩
theorem Dr.alloc {F:List Nat} {w w':World} (h:Dr F w w') (o:Obj):Dr F w (w'.alloc o) :=
 h.trans ⟨rfl,rfl,rfl,FI,fun k hk _=>Below.heap_alloc _ _ _ hk⟩
theorem Dr.drewN {F:List Nat} {w w':World} (h:Dr F w w') (n:Nat):Dr F w (w'.drewN n):=⟨h.os,h.tape,h.output,h.size,h.block⟩
theorem Dr.cell {F:List Nat} {w w':World} (h:Dr F w w') {a:Addr} {v:Value} (ha:a.block ∉ F) (hc:w.cell? a=some v):w'.cell? a=some v :=
 (World.cell?_of_block (w:=w) (h.block a.block (World.block_lt_of_cell? w a hc) ha)).trans hc
theorem Dt {B:Nat} {a w:World} (h:Below B a w) (n:Nat):Below B a (w.drewN n):=⟨h.os,h.tape,h.output,h.size,h.block⟩
def Ii (w:World) (g:Nat) (t:TypeId) (cs:List Value):Prop:=w.heap[g]?=some (.cells cs.toArray t (0,0))
theorem Ii.lt {w g t cs} (h:Ii w g t cs):g < w.heap.size:=by
 rcases Nat.lt_or_ge g w.heap.size with h1|h1
 ·exact h1
 ·rw [Ii,Array.getElem?_eq_none h1] at h;simp at h
theorem Ii.cell {w g t cs} (h:Ii w g t cs) (j:Nat):w.cell? ⟨g,j,none⟩=cs[j]?:=by
 simp [World.cell?,show w.heap[g]?=_ from h]
theorem Ii.frozen {w g t cs} (h:Ii w g t cs) (j:Nat):w.frozen? ⟨g,j,none⟩=false:=by
 simp [World.frozen?,show w.heap[g]?=_ from h]
theorem Ii.I7 {w w' g t cs} (h:Ii w g t cs) (e:w'.heap[g]?=w.heap[g]?):Ii w' g t cs:=e.trans h
theorem Ii.below {w w' g t cs} (h:Ii w g t cs) (hb:Below w.heap.size w w'):Ii w' g t cs:=h.I7 (hb.block g h.lt)
theorem Ii.set {w g t cs} (h:Ii w g t cs) (j:Nat) (u:Value):Ii (w.setCell ⟨g,j,none⟩ u) g t (cs.set j u):=by
 have h':w.heap[g]?=_:=h;simp [Ii,World.setCell,Array.getElem?_modify,h']
theorem Ii.setOther {w g t cs} (h:Ii w g t cs) {p:Addr} (hp:p.block≠g) (u:Value):Ii (w.setCell p u) g t cs :=
 h.I7 (Below.heap_setCell _ _ _ _ (fun e=>hp e.symm))
theorem Ii.cells {w g t cs} (h:Ii w g t cs):∀j,w.cell? ⟨g,j,none⟩=cs[j]?:=h.cell
theorem Ii.frozens {w g t cs} (h:Ii w g t cs):∀j,w.frozen? ⟨g,j,none⟩=false:=h.frozen
theorem Ii.made (w:World) (t:TypeId) (cs:List Value):Ii (w.alloc (.cells cs.toArray t)) w.heap.size t cs:=heap_alloc_new w _
theorem Ii.alloc {w g t cs} (h:Ii w g t cs) (o:Obj):Ii (w.alloc o) g t cs:=h.I7 (Below.heap_alloc _ _ _ h.lt)
theorem Jk (w:World) (o:Obj) (g:Nat) (t:TypeId) (cs:List Value):Ii (w.alloc o) g t cs↔if g=w.heap.size then o=.cells cs.toArray t (0,0) else Ii w g t cs:=by
 unfold Ii;show (w.heap.push o)[g]?=_↔_;rw [Array.getElem?_push]
 split <;> simp
def Cy {α:Type} (E:Bn α) (w:World):List Value→List α→List Nat→Prop
 | cs,[],G=>cs=[]∧G=[]
 | cs,x::r,G=>∃c1 c2 F1 F2,cs=c1++c2∧G=F1++F2∧E.Kn w c1 x F1∧Cy E w c2 r F2
section
variable {α:Type} {E:Bn α}
theorem Cy.len {w:World}:∀{xs:List α} {cs:List Value} {G:List Nat},Cy E w cs xs G→cs.length=xs.length * E.sz
 | [],_,_,h=>by simp [h.1]
 | x::r,_,_,h=>by
  obtain ⟨c1,c2,F1,F2,rfl,rfl,h1,h2⟩:=h;rw [List.length_append,E.len h1,h2.len,List.length_cons,Nat.add_mul];omega
theorem Cy.lt {w:World}:∀{xs:List α} {cs:List Value} {G:List Nat},Cy E w cs xs G→∀b∈G,b < w.heap.size
 | [],_,_,h=>by simp [h.2]
 | x::r,_,_,h=>by
  obtain ⟨c1,c2,F1,F2,rfl,rfl,h1,h2⟩:=h;intro b hb;rcases List.mem_append.1 hb with hb|hb
  ·exact E.lt h1 b hb
  ·exact h2.lt b hb
theorem Cy.frame {w w':World}:∀{xs:List α} {cs:List Value} {G:List Nat},Cy E w cs xs G→(∀b∈G,w'.heap[b]?=w.heap[b]?)→Cy E w' cs xs G
 | [],_,_,h,_=>h
 | x::r,_,_,h,hG=>by
  obtain ⟨c1,c2,F1,F2,rfl,rfl,h1,h2⟩:=h;exact ⟨c1,c2,F1,F2,rfl,rfl,E.frame h1 fun b hb=>hG b FR,h2.frame fun b hb=>hG b FR⟩
theorem Cy.append {w:World}:∀{xs ys:List α} {cs ds:List Value} {G H:List Nat},Cy E w cs xs G→Cy E w ds ys H→Cy E w (cs++ds) (xs++ys) (G++H)
 | [],_,_,_,_,_,h,k=>by obtain ⟨rfl,rfl⟩:=h;simpa using k
 | x::r,_,_,_,_,_,h,k=>by
  obtain ⟨c1,c2,F1,F2,rfl,rfl,h1,h2⟩:=h;exact ⟨c1,_,F1,_,by rw [List.append_assoc],by rw [List.append_assoc],h1,h2.append k⟩
theorem Cy.one {w:World} {x:α} {cs:List Value} {G:List Nat} (h:E.Kn w cs x G):Cy E w cs [x] G:=⟨cs,[],G,[],FI,FI,h,rfl,rfl⟩
theorem Cy.split {w:World}:∀{xs ys:List α} {cs:List Value} {G:List Nat},Cy E w cs (xs++ys) G→∃c1 c2 G1 G2,cs=c1++c2∧G=G1++G2∧Cy E w c1 xs G1∧Cy E w c2 ys G2
 | [],_,cs,G,h=>⟨[],cs,[],G,rfl,rfl,⟨rfl,rfl⟩,h⟩
 | x::r,_,_,_,h=>by
  obtain ⟨c1,c2,F1,F2,rfl,rfl,h1,h2⟩:=h;obtain ⟨d1,d2,G1,G2,rfl,rfl,h3,h4⟩:=h2.split;exact ⟨c1++d1,d2,F1++G1,G2,FI,FI,⟨c1,d1,F1,G1,rfl,rfl,h1,h3⟩,h4⟩
theorem Cy.focus {w:World} {xs:List α} {cs:List Value} {G:List Nat} (h:Cy E w cs xs G) (i:Nat) (hi:i < xs.length) :
  ∃A c B G1 Fi G2,cs=A++c++B∧G=G1++Fi++G2∧A.length=i * E.sz∧c.length=E.sz∧Cy E w A (xs.take i) G1∧E.Kn w c xs[i] Fi∧Cy E w B (xs.drop (i+1)) G2:=by
 have e:xs=xs.take i++xs[i]::xs.drop (i+1):=FI
 rw [e] at h;obtain ⟨A,c2,G1,G2,rfl,rfl,h1,c,B,F1,F2,rfl,rfl,h2,h3⟩:=h.split;exact ⟨A,c,B,G1,F1,F2,FI,FI,by rw [h1.len,List.length_take,Nat.min_eq_left FH],E.len h2,h1,h2,h3⟩
theorem Cy.build {w:World} {xs:List α} {A c B:List Value} {G1 Fi G2:List Nat} {i:Nat} (hi:i < xs.length) {x:α} (h1:Cy E w A (xs.take i) G1) (h2:E.Kn w c x Fi) (h3:Cy E w B (xs.drop (i+1)) G2) :
  Cy E w (A++c++B) (xs.set i x) (G1++Fi++G2):=by
 have e:xs.set i x=xs.take i++[x]++xs.drop (i+1):=by
  rw [List.set_eq_take_append_cons_drop];simp [hi]
 rw [e];exact (h1.append (Cy.one h2)).append h3
def Ow (E:Bn α) (t:TypeId) (w:World) (v:Value) (xs:List α) (F:List Nat):Prop :=
 (v=.slice none 0 0∧xs=[]∧F=[]) ∨
 ∃g cap cs rest G,v=.slice (some ⟨g,0,none⟩) xs.length cap∧Ii w g t (cs++rest)∧xs.length≤cap∧cap≤maxLen∧cs.length+rest.length=cap * E.sz∧Cy E w cs xs G∧F=g::G
theorem Ow.lt {t:TypeId} {w v} {xs:List α} {F} (h:Ow E t w v xs F):∀b∈F,b < w.heap.size:=by
 rcases h with ⟨_,_,rfl⟩|⟨g,cap,cs,rest,G,_,hr,_,_,_,hf,rfl⟩
 ·simp
 ·intro b hb;rcases List.mem_cons.1 hb with rfl|hb
  ·exact hr.lt
  ·exact hf.lt b hb
theorem Ow.frame {t:TypeId} {w w':World} {v} {xs:List α} {F} (h:Ow E t w v xs F) (hF:∀b∈F,w'.heap[b]?=w.heap[b]?):Ow E t w' v xs F:=by
 rcases h with h|⟨g,cap,cs,rest,G,hv,hr,h1,h2,h3,hf,rfl⟩
 ·exact .inl h
 ·exact .inr ⟨g,cap,cs,rest,G,hv,hr.I7 (hF g FI),h1,h2,h3,hf.frame fun b hb=>hF b FR,rfl⟩
theorem Ow.below {t:TypeId} {w w':World} {v} {xs:List α} {F} (h:Ow E t w v xs F) (hb:Below w.heap.size w w'):Ow E t w' v xs F :=
 h.frame fun b h'=>hb.block b (h.lt b h')
theorem Ow.I7 {t:TypeId} {w w':World} {v} {xs:List α} {F K} (h:Ow E t w v xs F) (hk:Dr K w w') (hd:∀b∈F,b ∉ K):Ow E t w' v xs F :=
 h.frame fun b h'=>hk.block b (h.lt b h') (hd b h')
theorem Ow.setFar {t:TypeId} {w:World} {v} {xs:List α} {F} (h:Ow E t w v xs F) {p:Addr} (hp:p.block ∉ F) (u:Value):Ow E t (w.setCell p u) v xs F :=
 h.frame fun b hb=>Below.heap_setCell _ _ _ _ fun e=>hp (e▸hb)
theorem Ow.len {t:TypeId} {w v} {xs:List α} {F} (h:Ow E t w v xs F):xs.length≤maxLen:=by
 rcases h with ⟨_,rfl,_⟩|⟨g,cap,cs,rest,G,_,_,h1,h2,_⟩
 ·simp
 ·omega
theorem Ow.slice {t:TypeId} {w v} {xs:List α} {F} (h:Ow E t w v xs F):∃a cap,v=.slice a xs.length cap:=by
 rcases h with ⟨rfl,rfl,_⟩|⟨g,cap,cs,rest,G,rfl,_⟩
 ·exact ⟨none,0,rfl⟩
 ·exact ⟨_,_,rfl⟩
theorem Ow.focus {t:TypeId} {w v} {xs:List α} {F} (h:Ow E t w v xs F) (i:Nat) (hi:i < xs.length) :
  ∃g cap A c B G1 Fi G2,v=.slice (some ⟨g,0,none⟩) xs.length cap∧Ii w g t (A++c++B)∧A.length=i * E.sz∧c.length=E.sz∧E.Kn w c xs[i] Fi∧F=g::(G1++Fi++G2) ∧
   (∀b∈G1++G2,b < w.heap.size) ∧
   ∀w' c' x' Fi',Ii w' g t (A++c'++B)→E.Kn w' c' x' Fi'→(∀b∈G1++G2,w'.heap[b]?=w.heap[b]?)→Ow E t w' v (xs.set i x') (g::(G1++Fi'++G2)):=by
 rcases h with ⟨_,rfl,_⟩|⟨g,cap,cs,rest,G,rfl,hr,h1,h2,h3,hf,rfl⟩
 ·simp at hi
 ·obtain ⟨A,c,B,G1,Fi,G2,rfl,rfl,hA,hc,hfA,hx,hfB⟩:=hf.focus i hi
  refine ⟨g,cap,A,c,B++rest,G1,Fi,G2,rfl,HG,hA,hc,hx,rfl,?_,?_⟩
  ·intro b hb;rcases List.mem_append.1 hb with hb|hb
   ·exact hfA.lt b hb
   ·exact hfB.lt b hb
  ·intro w' c' x' Fi' hr' hx' hG;refine .inr ⟨g,cap,A++c'++B,rest,G1++Fi'++G2,FI,by simpa using hr',IS,h2,?_,?_,rfl⟩
   ·have:=E.len hx';simp only [List.length_append] at h3 ⊢;omega
   ·exact Cy.build hi (hfA.frame fun b hb=>hG b FR) hx' (hfB.frame fun b hb=>hG b FR)
structure Kq {α:Type} (O R:Bn α):Prop where
 sz:O.sz=R.sz
 Kn:∀{w cs x F},O.Kn w cs x F→∃F',(∀b∈F',b∈F)∧R.Kn w cs x F'
theorem Kq.refl {α:Type} (E:Bn α):Kq E E:=⟨rfl,fun h=>⟨_,fun _ h=>h,h⟩⟩
theorem Ow.sl {O R:Bn α} (hW:Kq O R) {t:TypeId} {w v} {xs:List α} {F} (h:Ow O t w v xs F):∃F',(∀b∈F',b∈F)∧Sl R w v xs F':=by
 have key:∀(xs:List α) (cs:List Value) (G:List Nat) (g off:Nat),Cy O w cs xs G→(∀j,j < cs.length→w.cell? ⟨g,off+j,none⟩=cs[j]?)→∃G',(∀b∈G',b∈G)∧Pg R w g off xs G':=by
  intro xs
  induction xs with
  | nil=>intro cs G g off h _;exact ⟨[],FI,rfl⟩
  | cons x r ih =>
   intro cs G g off h hc;obtain ⟨c1,c2,F1,F2,rfl,rfl,h1,h2⟩:=h;have hl:=O.len h1;have hs:=hW.sz;obtain ⟨F1',hs1,hr1⟩:=hW.Kn h1;obtain ⟨F2',hs2,hr2⟩:=ih c2 F2 g (off+R.sz) h2 fun j hj=>by
    have:=hc (c1.length+j) FO;rw [List.getElem?_append_right FH,show c1.length+j - c1.length=j by omega] at this;rw [←this,show off+R.sz+j=off+(c1.length+j) by omega]
   refine ⟨F1'++F2',fun b hb=>?_,c1,F1',F2',rfl,hr1,fun j hj=>?_,hr2⟩
   ·rcases List.mem_append.1 hb with hb|hb
    ·simp [hs1 b hb]
    ·simp [hs2 b hb]
   ·rw [hc j FO,List.getElem?_append_left FH]
 have hl:=h.len;rcases h with ⟨rfl,rfl,rfl⟩|⟨g,cap,cs,rest,G,rfl,hrow,h1,h2,h3,hf,rfl⟩
 ·exact ⟨[],FI,none,0,rfl,FI,.inl ⟨rfl,rfl,fun _=>rfl⟩⟩
 ·by_cases h0:xs=[]
  ·subst h0;exact ⟨[],FI,some ⟨g,0,none⟩,cap,rfl,⟨FI,h2⟩,.inl ⟨rfl,rfl,fun e=>by cases e⟩⟩
  ·obtain ⟨G',hG,hc⟩:=key xs cs G g 0 hf fun j hj=>by rw [Nat.zero_add,hrow.cell,List.getElem?_append_left hj]
   exact ⟨g::G',fun b hb=>by rcases List.mem_cons.1 hb with rfl|hb;simp;simp [hG b hb],_,cap,rfl,⟨h1,h2⟩,.inr ⟨g,0,G',rfl,h0,rfl,hc⟩⟩
theorem Ow.read {t:TypeId} {w v} {xs:List α} {F} (h:Ow E t w v xs F):∃F',(∀b∈F',b∈F)∧Sl E w v xs F':=by
 exact h.sl (Kq.refl E)
end
theorem Kq.slice {α:Type} {O R:Bn α} (h:Kq O R) (hz:0 < R.sz) (t:TypeId) {w v} {xs:List α} {F} (ho:Ow O t w v xs F):∃F',(∀b∈F',b∈F)∧(Ml R hz).Kn w [v] xs F':=by
 obtain ⟨F',h1,h2⟩:=ho.sl h;exact ⟨F',h1,v,rfl,h2⟩
def Ko {α:Type} (E:Bn α) (t:TypeId):Bn (List α) where
 sz:=1
 Kn w cs xs F:=∃v,cs=[v]∧Ow E t w v xs F
 len h:=by obtain ⟨v,rfl,_⟩:=h;rfl
 lt h:=by obtain ⟨v,rfl,h⟩:=h;exact h.lt
 frame h hF:=by obtain ⟨v,rfl,h⟩:=h;exact ⟨v,rfl,h.frame hF⟩
theorem Bfl (A c B:List Value) (j:Nat) (hj:j < c.length) (u:Value):(A++c++B).set (A.length+j) u=A++c.set j u++B:=by
 rw [List.append_assoc,List.set_append_right _ _ FH,show A.length+j - A.length=j by omega,List.set_append_left _ _ hj,List.append_assoc]
theorem Ii.setMid {w g t} {A c B:List Value} (h:Ii w g t (A++c++B)) {p j:Nat} (hp:p=A.length+j) (hj:j < c.length) (u:Value):Ii (w.setCell ⟨g,p,none⟩ u) g t (A++c.set j u++B):=by
 subst hp;rw [←Bfl _ _ _ _ hj];exact h.set _ u
theorem Ii.cellMid {w g t} {A c B:List Value} (h:Ii w g t (A++c++B)) {p j:Nat} (hp:p=A.length+j) (hj:j < c.length):w.cell? ⟨g,p,none⟩=c[j]?:=by
 subst hp;rw [h.cell,List.append_assoc,List.getElem?_append_right FH,show A.length+j - A.length=j by omega,List.getElem?_append_left hj]
def Oo (w:World) (g:Nat):Nat→List Value→World
 | _,[]=>w
 | p,u::r=>Oo (w.setCell ⟨g,p,none⟩ u) g (p+1) r
theorem Ii.put {g t}:∀(c' c:List Value) {w:World} {A B:List Value} {p:Nat},Ii w g t (A++c++B)→p=A.length→c'.length=c.length→Ii (Oo w g p c') g t (A++c'++B)
 | [],[],_,_,_,_,h,_,_=>h
 | u::r,d::c,w,A,B,p,h,hp,hl=>by
  have h1:=h.setMid (p:=p) (j:=0) FH FI u;simp only [List.set_cons_zero] at h1;have h2:=Ii.put r c (w:=w.setCell ⟨g,p,none⟩ u) (A:=A++[u]) (B:=B) (p:=p+1) IS FO HQ;simpa [Oo] using h2
 | [],_::_,_,_,_,_,_,_,hl=>by simp at hl
 | _::_,[],_,_,_,_,_,_,hl=>by simp at hl
theorem Oq {g:Nat}:∀(c:List Value) (w:World) (p:Nat) (b:Nat),b≠g→(Oo w g p c).heap[b]?=w.heap[b]?
 | [],_,_,_,_=>rfl
 | _::r,_,_,b,hb=>(Oq r _ _ b hb).trans (Below.heap_setCell _ _ _ _ hb)
theorem Mk {g:Nat}:∀(c:List Value) (w:World) (p:Nat),Dr [g] w (Oo w g p c)
 | [],w,_=>Dr.refl _ w
 | u::r,w,p=>((Dr.refl [g] w).setCell (p:=⟨g,p,none⟩) FI u).trans (Mk r _ _)
theorem Ow.put {α:Type} {E:Bn α} {t:TypeId} {w:World} {g n cap:Nat} {xs:List α} {F:List Nat} (h:Ow E t w (.slice (some ⟨g,0,none⟩) n cap) xs F) (hn:F.Nodup) (i:Nat) (hi:i < xs.length) :
  g∈F∧(∀j,j < E.sz→(∃u,w.cell? ⟨g,i * E.sz+j,none⟩=some u)∧w.frozen? ⟨g,i * E.sz+j,none⟩=false) ∧
  ∀c' x' F',E.Kn w c' x' F'→F'.Nodup→(∀b∈F',b ∉ F)→∃F2,Ow E t (Oo w g (i * E.sz) c') (.slice (some ⟨g,0,none⟩) n cap) (xs.set i x') F2∧F2.Nodup∧∀b∈F2,b∈F∨b∈F':=by
 obtain ⟨g',cp,A,c,B,G1,Fi,G2,hv,hrow,hA,hcl,hx,rfl,hlt,back⟩:=h.focus i hi
 simp only [Value.slice.injEq,Option.some.injEq,Addr.mk.injEq] at hv;obtain ⟨⟨rfl,_⟩,rfl,rfl⟩:=hv;have hnd:g ∉ G1++G2:=fun hm=>by simp at hn hm;rcases hm with hm|hm <;> simp [hm] at hn
 refine ⟨FI,fun j hj=>⟨⟨c[j]'FH,by rw [hrow.cellMid (j:=j) FH FH,List.getElem?_eq_getElem]⟩,hrow.frozen _⟩,fun c' x' F' hx' hn' hd=>⟨g::(G1++F'++G2),?_,?_,?_⟩⟩
 ·have hl:=E.len hx';have hg:g ∉ F':=fun e=>hd g e FI;exact back _ c' x' F' (hrow.put c' c FH FH) (E.frame hx' fun b hb=>Oq _ _ _ _ fun e=>hg (e▸hb)) fun b hb=>Oq _ _ _ _ fun e=>hnd (e▸hb)
 ·have hd1:∀b∈F',b≠g∧b ∉ G1∧b ∉ G2:=fun b hb=>by have:=hd b hb;simp at this;exact ⟨this.1,this.2.1,this.2.2.2⟩
  simp only [List.nodup_cons,List.nodup_append,List.mem_append,not_or] at hn ⊢;obtain ⟨⟨⟨h1,h2⟩,h3⟩,⟨h4,h5,h6⟩,h7,h8⟩:=hn;refine ⟨⟨⟨h1,fun e=>(hd1 g e).1 rfl⟩,h3⟩,⟨h4,hn',fun a ha b hb e=>(hd1 b hb).2.1 (e▸ha)⟩,h7,fun a ha b hb=>?_⟩;rcases ha with ha|ha
  ·exact h8 a (.inl ha) b hb
  ·exact fun e=>(hd1 a ha).2.2 (e▸hb)
 ·intro b hb;simp at hb ⊢;rcases hb with hb|hb|hb|hb <;> simp [hb]
theorem Ow.inPlace {α:Type} {E:Bn α} {t:TypeId} {w:World} {g n cap:Nat} {xs:List α} {F:List Nat} (h:Ow E t w (.slice (some ⟨g,0,none⟩) n cap) xs F) (hn:F.Nodup) (i:Nat) (hi:i < xs.length) :
  ∃A c B Fi,Ii w g t (A++c++B)∧A.length=i * E.sz∧c.length=E.sz∧E.Kn w c xs[i] Fi∧Fi.Nodup∧g ∉ Fi∧g∈F∧(∀b∈Fi,b∈F) ∧
   ∀w' c' x',Ii w' g t (A++c'++B)→E.Kn w' c' x' Fi→Dr (g::Fi) w w'→Ow E t w' (.slice (some ⟨g,0,none⟩) n cap) (xs.set i x') F:=by
 obtain ⟨g',cp,A,c,B,G1,Fi,G2,hv,hrow,hA,hcl,hx,rfl,hlt,back⟩:=h.focus i hi
 simp only [Value.slice.injEq,Option.some.injEq,Addr.mk.injEq] at hv;obtain ⟨⟨rfl,_⟩,rfl,rfl⟩:=hv;simp only [List.nodup_cons,List.nodup_append,List.mem_append,not_or] at hn;obtain ⟨⟨⟨h1,h2⟩,h3⟩,⟨h4,h5,h6⟩,h7,h8⟩:=hn;refine ⟨A,c,B,Fi,hrow,hA,hcl,hx,h5,h2,FI,fun b hb=>by simp [hb],fun w' c' x' hr hx' hk=>back w' c' x' Fi hr hx' fun b hb=>hk.block b (hlt b hb) fun hm=>?_⟩;rcases List.mem_append.1 hb with hb|hb <;> rcases List.mem_cons.1 hm with e|hm
 ·exact h1 (e▸hb)
 ·exact h6 b hb b hm rfl
 ·exact h3 (e▸hb)
 ·exact h8 b (.inr hm) b hb rfl
theorem Ow.head {α:Type} {E:Bn α} {t:TypeId} {w:World} {a:Option Addr} {n cap:Nat} {xs:List α} {F:List Nat} (h:Ow E t w (.slice a n cap) xs F) (i:Nat) (hi:i < xs.length):∃g,a=some ⟨g,0,none⟩:=by
 obtain ⟨g,cp,A,c,B,G1,Fi,G2,hv, -⟩:=h.focus i hi
 simp only [Value.slice.injEq] at hv;exact ⟨g,hv.1⟩
theorem Ol (z:Array Value) (n:Nat):(madeCells z (n * z.size)).toList=(List.replicate n z.toList).flatten:=by
 apply List.ext_getElem?;intro p;by_cases hz:z.size=0
 ·have:z = #[]:=Array.eq_empty_of_size_eq_zero hz;subst this;simp [madeCells]
 ·have hlen:∀m,((List.replicate m z.toList).flatten).length=m * z.size:=fun m=>by simp
  by_cases hp:p < n * z.size
  ·have h1:(madeCells z (n * z.size)).toList[p]?=some z[p % z.size]!:=by simp [madeCells,hp]
   rw [h1];have hq:p / z.size < n:=Nat.div_lt_of_lt_mul (by rwa [Nat.mul_comm]);have e:List.replicate n z.toList=List.replicate (p / z.size) z.toList++z.toList::List.replicate (n - p / z.size - 1) z.toList:=by
    rw [←List.replicate_succ,List.replicate_append_replicate];congr 1;omega
   have hd:=Nat.div_add_mod p z.size;have hm:=Nat.mod_lt p (Nat.pos_of_ne_zero hz);rw [Nat.mul_comm] at hd;rw [e,List.flatten_append,List.flatten_cons,List.getElem?_append_right (by rw [hlen];omega),hlen,show p - p / z.size * z.size=p % z.size by omega,List.getElem?_append_left KU];simp [hm]
  ·rw [List.getElem?_eq_none (by simp [madeCells];omega),List.getElem?_eq_none (by rw [hlen];omega)]
theorem Ow.made {α:Type} {E:Bn α} {t:TypeId} (w:World) (z:Array Value) (n:Nat) (x:α) (hsz:z.size=E.sz) (hz:∀w,E.Kn w z.toList x []) (hn:n≤maxLen) :
  Ow E t (w.alloc (.cells (madeCells z (n * E.sz)) t)) (.slice (some ⟨w.heap.size,0,none⟩) n n) (List.replicate n x) [w.heap.size]:=by
 have hf:∀(w:World) (m:Nat),Cy E w (List.replicate m z.toList).flatten (List.replicate m x) []:=by
  intro w m
  induction m with
  | zero=>exact ⟨rfl,rfl⟩
  | succ m ih=>exact ⟨z.toList,_,[],[],by rw [List.replicate_succ,List.flatten_cons],rfl,hz w,ih⟩
 refine .inr ⟨w.heap.size,n,(madeCells z (n * E.sz)).toList,[],[],FI,?_,FI,hn,?_,?_,rfl⟩
 ·simp only [List.append_nil,Ii];exact heap_alloc_new w _
 ·rw [←hsz,Ol];simp
 ·rw [←hsz,Ol];exact hf _ _
theorem Qt {α:Type} {O R:Bn α} (h:Kq O R) (hz:0 < R.sz) (t:TypeId):Kq (Ko O t) (Ml R hz):=⟨rfl,fun hh=>by
 obtain ⟨v,rfl,ho⟩:=hh;exact h.slice hz t ho⟩
theorem Sl.at {α:Type} {E:Bn α} {w:World} {a:Option Addr} {n cap:Nat} {xs:List α} {F} (h:Sl E w (.slice a n cap) xs F) (k:Nat) (hk:k < xs.length) :
  ∃b off cs F1,a=some ⟨b,off,none⟩∧E.Kn w cs xs[k] F1∧(∀c∈F1,c∈F)∧∀j,j < E.sz→w.cell? ⟨b,off+k * E.sz+j,none⟩=cs[j]?:=by
 obtain ⟨a',cap',hv,hl,h⟩:=h;cases hv;rcases h with ⟨rfl,_⟩|⟨b,off,F',rfl,_,rfl,hc⟩
 ·simp at hk
 ·obtain ⟨cs,F1,h1,hj,hm⟩:=hc.get k hk;exact ⟨b,off,cs,F1,rfl,h1,fun c hc=>by simp [hm c hc],hj⟩
theorem Sl.slice {α:Type} {E:Bn α} {w v} {xs:List α} {F} (h:Sl E w v xs F):∃a cap,v=.slice a xs.length cap:=by
 obtain ⟨a,cap,h,_⟩:=h;exact ⟨a,cap,h⟩
theorem Sl.len {α:Type} {E:Bn α} {w v} {xs:List α} {F} (h:Sl E w v xs F):xs.length≤maxLen:=by
 obtain ⟨a,cap,_,h,_⟩:=h;omega
theorem Sl.caps {α:Type} {E:Bn α} {w} {a:Option Addr} {n cap:Nat} {xs:List α} {F} (h:Sl E w (.slice a n cap) xs F):n=xs.length∧n≤cap∧cap≤maxLen:=by
 obtain ⟨a',cap',hv,h,_⟩:=h;cases hv;exact ⟨rfl,h⟩
def Jz {α:Type} (E:Bn α) (w:World) (v:Value) (x:α) (F:List Nat):Prop:=∃cs:List Value,v=.agg cs.toArray∧E.Kn w cs x F
theorem Jz.below {α:Type} {E:Bn α} {w w':World} {v x F} (h:Jz E w v x F) (hb:Below w.heap.size w w'):Jz E w' v x F:=by
 obtain ⟨cs,hv,h⟩:=h;exact ⟨cs,hv,E.below h hb⟩
def Wm {α:Type} (E:Bn α) (x:α) (w:World) (e:Ending) (w':World):Prop :=
 ∃v F,e=.returned v∧Jz E w' v x F∧F.Nodup∧(∀b∈F,w.heap.size≤b)∧Below w.heap.size w w'
def Nd {α:Type} (E:Bn α) (t:TypeId) (xs:List α) (w:World) (e:Ending) (w':World):Prop :=
 ∃v F,e=.returned v∧Ow E t w' v xs F∧F.Nodup∧(∀b∈F,w.heap.size≤b)∧Below w.heap.size w w'
def Auf {α:Type} (E:Bn α) (t:TypeId) (v:Value) (m:Int) (xs:List α) (F:List Nat) (w:World) (e:Ending) (w':World):Prop :=
 e=.returned (.int .i64 m)∧Ow E t w' v xs F∧Dr F w w'
theorem Ii.keepK {w w' g t cs F} (h:Ii w g t cs) (hk:Dr F w w') (hg:g ∉ F):Ii w' g t cs:=h.I7 (hk.block g h.lt hg)
structure Zu (P:Program) (f:FuncId):Prop where
 ok:∃fn,P.funcs[f]?=some fn∧(fn.name == "runtime.NumGoroutine")=false∧fn.body.isNone=false
theorem Zu.mk' {P:Program} {f:FuncId} {fn:Func} (h:P.funcs[f]?=some fn) (h1:(fn.name == "runtime.NumGoroutine")=false) (h2:fn.body.isNone=false):Zu P f:=⟨fn,h,h1,h2⟩
theorem Zu.run {P:Program} {f:FuncId} (h:Zu P f) (args:Array Value) (w:World):(callFunc f args).run P w=.ok (.enter f args) w:=by
 obtain ⟨fn,h0,h1,h2⟩:=h.ok;have h1':¬fn.name = "runtime.NumGoroutine" := by simpa using h1
 have h2':¬fn.body=none:=fun e=>by rw [e] at h2;simp at h2
 simp [callFunc,program,Sem.run,h0,h1',h2',bind,Sem.bind,pure]
theorem Zu.upon {P:Program} {f:FuncId} (h:Zu P f) {o:Oper} {a:Act} {K:Act→World→Prop} {Q:Exit→Act→World→Prop} {args:Array Value} {w:World} {R:Ending→World→Prop}
  (hc:Calls P f args w R) (hr:∀e w',R e w'→∃v,e=.returned v∧K (a.put o.dst v) w'):Oper.upon P o a K Q ((callFunc f args).run P w):=by
 rw [h.run,Oper.upon_enter];exact hc.mono fun e w' hR=>by obtain ⟨v,rfl,hk⟩:=hr e w' hR;exact hk
def IsC {α:Type} (E:Bn α) (w:World) (v:Value) (x:α) (F:List Nat):Prop:=∃u,v=u∧E.Kn w [u] x F
def Ss {α:Type} (p:α→Bool) (xs:List α):Int:=if xs.any p then (xs.findIdx p:Int) else -1
theorem Ph {α:Type} {p:α→Bool} {xs:List α} {k:Nat} (hk:k < xs.length) (h0:∀j,j < k→∀hj:j < xs.length,p xs[j]=false) (h1:p xs[k]=true):Ss p xs=k:=by
 have h:xs.findIdx p=k:=by
  rw [List.findIdx_eq hk];exact ⟨h1,fun j hj=>h0 j hj FH⟩
 have ha:xs.any p=true:=List.any_eq_true.2 ⟨xs[k],List.getElem_mem _,h1⟩;unfold Ss;rw [if_pos ha,h]
theorem Nt {α:Type} {p:α→Bool} {xs:List α} (h0:∀j,∀hj:j < xs.length,p xs[j]=false):Ss p xs=-1:=by
 unfold Ss;rw [if_neg];intro ha;obtain ⟨x,hx,hp⟩:=List.any_eq_true.1 ha;obtain ⟨i,hi,rfl⟩:=List.getElem_of_mem hx;rw [h0 i hi] at hp;simp at hp
theorem T9 {α:Type} (p:α→Bool) (xs:List α):decide (0≤Ss p xs)=xs.any p:=by
 unfold Ss;cases h:xs.any p <;> simp
def Pr (p:Nat→Bool) (n:Nat):Bool:=(List.range n).all p
theorem Lw {p:Nat→Bool} {n:Nat} (h:∀i,i < n→p i=true):Pr p n=true:=by simp [Pr];exact h
theorem Mi {p:Nat→Bool} {n k:Nat} (hk:k < n) (h:p k=false):Pr p n=false:=by
 rw [Bool.eq_false_iff];intro ha;simp [Pr] at ha;rw [ha k hk] at h;simp at h
theorem Js {p:Nat→Bool} {n:Nat} (h:Pr p n=true) (i:Nat) (hi:i < n):p i=true:=by simp [Pr] at h;exact h i hi
theorem Wi {p:Nat→Bool} {k:Nat} (h:∀i,i < k→p i=true) (hk:p k=true):∀i,i < k+1→p i=true:=fun i hi=>by
 rcases Nat.lt_or_eq_of_le (Nat.le_of_lt_succ hi) with h'|rfl
 ·exact h i h'
 ·exact hk
theorem Yw {P:Program} {f:FuncId} {args:Array Value} {w:World} {n:Nat} {v:Value}
  (h:Calls P f args (w.drewN n) fun e w'=>e=.returned v∧w.drewN n=w'):Calls P f args (w.drewN n) fun e w''=>e=.returned v∧∃m,w''=w.drewN m :=
 h.mono fun _ _ ⟨he,hm⟩=>⟨he,n,hm.symm⟩
def Y4 (n:Int) (k:Nat):Int:=if (k:Int)≤n then n - k else -1
theorem M5 (n:Int) (k:Nat):(Y4 n k=-1∧n < k)∨(Y4 n k=n - k∧(k:Int)≤n):=by unfold Y4;split <;> omega
theorem Ld {n:Int} {k:Nat} (h:n < k):Y4 n k=-1:=by unfold Y4;split <;> omega
theorem Pt {n:Int} {k:Nat} (h:(k:Int)≤n):Y4 n k=n - k:=by unfold Y4;split <;> omega
def Ke {α:Type} (f:α→Nat) (xs:List α):Nat:=xs.length+(xs.map f).sum
def I1 {α:Type} (f:α→Nat) (xs:List α) (k:Nat):Nat:=((xs.take k).map f).sum
theorem Rh {α:Type} (f:α→Nat) (xs:List α):I1 f xs 0=0:=rfl
theorem Rg {α:Type} (f:α→Nat) (xs:List α) (k:Nat) (h:k < xs.length):I1 f xs (k+1)=I1 f xs k+f xs[k]:=by
 unfold I1;rw [List.take_succ_eq_append_getElem h,List.map_append,List.sum_append];simp
theorem Aik {α:Type} (f:α→Nat) (xs:List α):I1 f xs xs.length=(xs.map f).sum:=by unfold I1;rw [List.take_length]
theorem Au8 {α:Type} (f:α→Nat) (xs:List α) (k:Nat):I1 f xs k≤(xs.map f).sum:=by
 have:(xs.map f).sum=I1 f xs k+((xs.drop k).map f).sum:=by unfold I1;rw [←List.sum_append,←List.map_append,List.take_append_drop]
 omega
theorem Aev {α:Type} (f:α→Nat) (xs:List α):Ke f xs=xs.length+I1 f xs xs.length:=by rw [Aik];rfl
theorem Xm {α:Type} (f:α→Nat) (xs:List α) (k:Nat):xs.length+I1 f xs k≤Ke f xs:=by have:=Au8 f xs k;unfold Ke;omega
theorem Ajn {α:Type} (xs:List α):Ke (fun _=>0) xs=xs.length:=by
 have:∀ys:List α,(ys.map fun _=>0).sum=0:=fun ys=>by induction ys <;> simp_all
 unfold Ke;rw [this];rfl
def mkI (k _x:Int):Int:=k
def Hz (_x:Int):Nat:=1
def mkB (k:Int) (_x:Bool):Bool:=k % 3 == 0
def Abv (_x:Bool):Nat:=1
def N8:Nat→Nat→List UInt8→List UInt8
 | 0,_,r=>r
 | m+1,k,r=>if k=0 then r else N8 m (k / 10) (UInt8.ofNat (48+k % 10)::r)
def V1 (k:Int):ByteArray:=if k≤0 then ⟨#[109,48]⟩ else ⟨(109::N8 20 k.toNat []).toArray⟩
def mkS (k:Int) (_x:ByteArray):ByteArray:=V1 k
def Nh (_x:ByteArray):Nat:=1
theorem Afg:∀(m k:Nat) (r:List UInt8),(N8 m k r).length≤m+r.length
 | 0,_,r=>by simp [N8]
 | m+1,k,r=>by
  simp only [N8]
  split
  ·omega
  ·have:=Afg m (k / 10) (UInt8.ofNat (48+k % 10)::r);simp only [List.length_cons] at this;omega
theorem Zl (k:Int):(V1 k).size≤maxLen:=by
 have:=Afg 20 k.toNat [];unfold V1
 split
 ·simp [ByteArray.size,maxLen]
 ·simp only [ByteArray.size,maxLen,List.size_toArray,List.length_cons];simp at this;omega
def Ed {α:Type} (mk:Int→α→α) (Yb:α→Nat):Int→List α→List α
 | _,[]=>[]
 | k,x::r=>mk k x::Ed mk Yb (k+Yb x) r
def Dj {α:Type} (Yb:α→Nat) (xs:List α):Nat:=(xs.map Yb).sum
theorem Rr {α:Type} (Yb:α→Nat) (xs:List α):Dj Yb xs=I1 Yb xs xs.length:=(Aik Yb xs).symm
theorem Bd7 {α:Type} (Yb:α→Nat) (xs:List α) (k:Nat):I1 Yb xs k≤Dj Yb xs:=Au8 Yb xs k
theorem Cb {α:Type} (mk:Int→α→α) (Yb:α→Nat):∀(xs:List α) (k:Int),(Ed mk Yb k xs).length=xs.length
 | [],_=>rfl
 | x::r,k=>by simp [Ed,Cb mk Yb r]
theorem Ad7 {α:Type} (mk:Int→α→α) (Yb:α→Nat):∀(xs:List α) (k:Int) (i:Nat) (h:i < xs.length),(Ed mk Yb k xs)[i]'(by rw [Cb];exact h)=mk (k+I1 Yb xs i) xs[i]
 | x::r,k,0,_=>by simp [Ed,I1]
 | x::r,k,i+1,h=>by
  simp only [Ed,List.getElem_cons_succ,I1,List.take_succ_cons,List.map_cons,List.sum_cons];rw [Ad7 mk Yb r (k+Yb x) i GA];unfold I1
  congr 1;omega
theorem Ah9 {α:Type} (mk:Int→α→α) (Yb:α→Nat) (xs:List α) (k:Int) (i:Nat) (h:i < xs.length) :
  ((Ed mk Yb k xs).take i++xs.drop i).set i (mk (k+I1 Yb xs i) xs[i])=(Ed mk Yb k xs).take (i+1)++xs.drop (i+1):=by
 have hl:((Ed mk Yb k xs).take i).length=i:=by simp [Cb];omega
 rw [List.set_append_right _ _ FH,hl,Nat.sub_self,List.drop_eq_getElem_cons h,List.set_cons_zero,List.take_add_one,List.getElem?_eq_getElem (by rw [Cb];exact h),Ad7 mk Yb xs k i h];simp
theorem Rw {α:Type} (ys xs:List α) (i:Nat) (hl:ys.length=xs.length) (h:i < xs.length):(ys.take i++xs.drop i)[i]'FO=xs[i]:=by
 have hl':(ys.take i).length=i:=FO
 rw [List.getElem_append_right FH];simp [hl']
theorem N7 {α:Type} (Yb wt:α→Nat) (C:Nat) (h:∀x,Yb x≤C * (1+wt x)):∀xs:List α,Dj Yb xs≤C * Ke wt xs
 | []=>by simp [Dj,Ke]
 | x::r=>by
  have:=h x;have:=N7 Yb wt C h r;simp only [Dj,Ke,List.map_cons,List.sum_cons,List.length_cons,Nat.mul_add,Nat.mul_one] at *;omega
def X6 {α:Type} (E:Bn α):Prop:=∀{w cs x F},E.Kn w cs x F→∀u∈cs,u.oneCell'=true
theorem C8:X6 Bb:=fun h u hu=>by obtain ⟨rfl,_⟩:=h;simp at hu;subst hu;rfl
theorem Dx:X6 A8:=fun h u hu=>by obtain ⟨rfl,_⟩:=h;simp at hu;subst hu;rfl
theorem Sl.one {α:Type} {E:Bn α} {w v} {xs:List α} {F} (h:Sl E w v xs F):v.oneCell'=true:=by obtain ⟨a,c,rfl,_⟩:=h;rfl
theorem Ow.one {α:Type} {E:Bn α} {t w v} {xs:List α} {F} (h:Ow E t w v xs F):v.oneCell'=true:=by obtain ⟨a,c,rfl⟩:=h.slice;rfl
theorem Cy.one' {α:Type} {E:Bn α} (hE:X6 E) {w:World}:∀{xs:List α} {cs:List Value} {G:List Nat},Cy E w cs xs G→∀u∈cs,u.oneCell'=true
 | [],_,_,h=>by simp [h.1]
 | x::r,_,_,h=>by
  obtain ⟨c1,c2,F1,F2,rfl,rfl,h1,h2⟩:=h;intro u hu;rcases List.mem_append.1 hu with hu|hu
  ·exact hE h1 u hu
  ·exact h2.one' hE u hu
theorem Pg.flat {α:Type} {E:Bn α} {w:World} {b:Nat}:∀{xs:List α} {off:Nat} {F:List Nat},Pg E w b off xs F→∃cs,Cy E w cs xs F∧∀j u,cs[j]?=some u→w.cell? ⟨b,off+j,none⟩=some u
 | [],off,_,h=>⟨[],⟨rfl,h⟩,fun j u hu=>by simp at hu⟩
 | x::r,off,_,h=>by
  obtain ⟨c1,F1,F2,rfl,h1,hc,h2⟩:=h;obtain ⟨c2,hf,hc2⟩:=h2.flat;have hl:=E.len h1;refine ⟨c1++c2,⟨c1,c2,F1,F2,rfl,rfl,h1,hf⟩,fun j u hu=>?_⟩;rcases Nat.lt_or_ge j c1.length with hj|hj
  ·rw [List.getElem?_append_left hj] at hu;rw [hc j FH];exact hu
  ·rw [List.getElem?_append_right hj] at hu;have:=hc2 _ _ hu;rw [←this];congr 2;omega
theorem Cy.cells {α:Type} {E:Bn α} {w:World} {b:Nat}:∀{xs:List α} {cs:List Value} {off:Nat} {F:List Nat},Cy E w cs xs F→(∀j u,cs[j]?=some u→w.cell? ⟨b,off+j,none⟩=some u)→Pg E w b off xs F
 | [],_,off,_,h,_=>h.2
 | x::r,_,off,_,h,hc=>by
  obtain ⟨c1,c2,F1,F2,rfl,rfl,h1,h2⟩:=h;have hl:=E.len h1;refine ⟨c1,F1,F2,rfl,h1,fun j hj=>?_,h2.cells fun j u hu=>?_⟩
  ·have:j < c1.length:=FH
   rw [List.getElem?_eq_getElem this];exact hc j _ (by rw [List.getElem?_append_left this,List.getElem?_eq_getElem this])
  ·have:=hc (c1.length+j) u JG;rw [←this];congr 2;omega
def Hd (F:List Nat):Prop:=∀g G,F=g::G→g ∉ G
theorem Hd.of {F:List Nat} (h:F.Nodup):Hd F:=fun g G e=>by subst e;simp at h;exact h.1
theorem Ow.owns {α:Type} {E:Bn α} {t w v} {xs:List α} {F} (h:Ow E t w v xs F):∃cs G,w.ownsRow 0 t E.sz v xs.length cs∧Cy E w cs xs G∧F=v.ownBlock.toList++G:=by
 rcases h with ⟨rfl,rfl,rfl⟩|⟨g,cap,cs,rest,G,rfl,hr,h1,h2,h3,hf,rfl⟩
 ·exact ⟨[],[],⟨FI,.inl ⟨rfl,rfl⟩⟩,⟨rfl,rfl⟩,rfl⟩
 ·refine ⟨cs,G,⟨hf.len,.inr ⟨g,cap,(cs++rest).toArray,rfl,Nat.zero_le _,hr,h1,h2,by simp [h3],?_⟩⟩,hf,rfl⟩;rw [←hf.len];simp
theorem Ow.ofOwns {α:Type} {E:Bn α} {t w v n} {cs:List Value} {xs:List α} {G} (h:w.ownsRow 0 t E.sz v n cs) (hf:Cy E w cs xs G) (hn:n=xs.length):Ow E t w v xs (v.ownBlock.toList++G):=by
 subst hn;obtain ⟨hl,h⟩:=h;rcases h with ⟨rfl,h0⟩|⟨g,cap,cur,rfl,_,hg,h1,h2,h3,h4⟩
 ·have:xs=[]:=List.eq_nil_of_length_eq_zero h0;subst this;exact .inl ⟨rfl,rfl,by rw [hf.2];rfl⟩
 ·refine .inr ⟨g,cap,cs,cur.toList.drop cs.length,G,rfl,?_,h1,h2,?_,hf,rfl⟩
  ·have:cs++cur.toList.drop cs.length=cur.toList:=by
    rw [hl,←h4];simp
   rw [this];exact hg
  ·rw [←h3];simp;rw [hl];have:=Nat.mul_le_mul_right E.sz h1;omega
theorem Aqm {w:World} {t v n sz} {cs:List Value} (h:w.ownsRow 0 t sz v n cs):∀b,v.ownBlock=some b→b < w.heap.size:=by
 intro b hb;rcases h.2 with ⟨rfl,_⟩|⟨g,cap,cur,rfl,_,hg,_⟩
 ·cases hb
 ·cases hb;rcases Nat.lt_or_ge g w.heap.size with hlt|hge
  ·exact hlt
  ·rw [Array.getElem?_eq_none hge] at hg;cases hg
section
variable {P:Program} {α:Type} {E:Bn α}
structure Apd (E:Bn α) (e:TypeId) (w:World) (v:Value) (xs ys:List α) (F Fy:List Nat) (v':Value) (w':World) (F':List Nat):Prop where
 ow:Ow E e w' v' (xs++ys) F'
 hd:Hd F'
 Bbd:F.Nodup→Fy.Nodup→(∀b∈Fy,b ∉ F)→F'.Nodup
 mem:∀b∈F',b∈F∨b∈Fy∨b=w.heap.size
 I7:Dr F w w'
 Auy:Dr v.ownBlock.toList w w'
 val:∃a cap,v'=.slice a (xs.length+ys.length) cap
 Ato:v'.ownBlock=v.ownBlock∨v'.ownBlock=some w.heap.size
 Bkd:∀Gx,F=v.ownBlock.toList++Gx→F'=v'.ownBlock.toList++(Gx++Fy)
theorem Azr {e:TypeId} {w:World} {v:Value} {xs ys:List α} {F Fy:List Nat} {v' w'} {cs news G} (hown:w.ownsRow 0 e E.sz v xs.length cs) (hf:Cy E w cs xs G) (hF:F=v.ownBlock.toList++G) (hd:Hd F)
  (hfy:Cy E w news ys Fy) (hdis:∀b∈Fy,v.ownBlock≠some b) (h':w'.ownsRow 0 e E.sz v' (xs.length+ys.length) (cs++news)) (hg:w.grownBy w' v.ownBlock)
  (hb:v'.ownBlock=v.ownBlock∨v'.ownBlock=some w.heap.size) (hs:∃a cap,v'=.slice a (xs.length+ys.length) cap):∃F',Apd E e w v xs ys F Fy v' w' F':=by
 have hGn:∀b∈G,v.ownBlock≠some b:=fun b hb e=>by
  rw [e] at hF;exact hd b G hF hb
 have hfr:∀b,b < w.heap.size→v.ownBlock≠some b→w'.heap[b]?=w.heap[b]?:=fun b hb hn=>hg.block b hb (fun e=>hn e.symm);have hfl:Cy E w' (cs++news) (xs++ys) (G++Fy):=(hf.frame fun b hb=>hfr b (hf.lt b hb) (hGn b hb)).append (hfy.frame fun b hb=>hfr b (hfy.lt b hb) (hdis b hb));have hvl:=Aqm hown;have hhead:∀g,v'.ownBlock=some g→g ∉ G∧g ∉ Fy:=fun g e=>by
  rcases hb with hb|hb
  ·rw [hb] at e;exact ⟨fun hm=>hGn g hm e,fun hm=>hdis g hm e⟩
  ·rw [hb] at e;cases e;exact ⟨fun hm=>Nat.lt_irrefl _ (hf.lt _ hm),fun hm=>Nat.lt_irrefl _ (hfy.lt _ hm)⟩
 refine ⟨v'.ownBlock.toList++(G++Fy),Ow.ofOwns h' hfl FI,?_,?_,?_,?_,⟨hg.os,hg.tape,hg.output,hg.size,fun k hk hm=>hfr k hk fun e=>hm (by rw [e];simp)⟩,hs,hb,fun Gx e=>by rw [hF] at e;rw [List.append_cancel_left e]⟩
 ·intro g G' e;cases hv:v'.ownBlock with
  | none =>
   have hxy:xs++ys=[]:=by
    rcases h'.2 with ⟨rfl,h0⟩|⟨g,cap,cur,rfl,_⟩
    ·exact List.eq_nil_of_length_eq_zero HH
    ·simp [Value.ownBlock] at hv
   rw [hxy] at hfl;rw [hfl.2,hv] at e;simp at e
  | some g2 =>
   rw [hv] at e;simp at e;obtain ⟨rfl,rfl⟩:=e;have:=hhead g2 hv;simp [this]
 ·intro h1 h2 h3;subst hF;have hn:(G++Fy).Nodup:=by
   rw [List.nodup_append] at h1 ⊢;exact ⟨h1.2.1,h2,fun a ha b hb e=>h3 b hb (by rw [←e];simp [ha])⟩
  cases hv:v'.ownBlock with
  | none=>simpa using hn
  | some g2=>have:=hhead g2 hv;simp only [Option.toList_some,List.singleton_append,List.nodup_cons,List.mem_append];exact ⟨by simp [this],hn⟩
 ·intro b hm;simp at hm;rcases hm with hm|hm|hm
  ·rcases hb with hb|hb
   ·rw [hb] at hm;left;rw [hF];simp [hm]
   ·rw [hb] at hm;cases hm;simp
  ·left;rw [hF];simp [hm]
  ·simp [hm]
 ·exact ⟨hg.os,hg.tape,hg.output,hg.size,fun k hk hm=>hfr k hk fun e=>hm (by rw [hF,e];simp)⟩
theorem At9 (hone:X6 E) (hsz:0 < E.sz) {o:Oper} {a:Act} {K:Act→World→Prop} {Q:Exit→Act→World→Prop} {w:World} (s x:Operand) (t:TypeId)
  (ho:o.op=.call { callee:=.builtin .append,args:=#[s,x],argTypes:=#[t,t] }) (e:TypeId) (z:Value) (bytes:Nat) (ht:P.underlying t=some (.slice e))
  (hinfo:(P.info? e).map (fun i=>(i.zero,i.size,i.bytes))=some (some z,E.sz,bytes)) (hzs:z.cells.size=E.sz)
  (v:Value) (xs:List α) (F:List Nat) (hs:a.eval s=v) (hown:Ow E e w v xs F) (hd:Hd F)
  (ao:Option Addr) (ys:List α) (c:Nat) (hx:a.eval x=.slice ao ys.length c) (news:List Value) (Fy:List Nat) (hfy:Cy E w news ys Fy)
  (hsrc:(ao=none∧c=0∧ys=[])∨∃ad,ao=some ad∧∀j u,news[j]?=some u→w.cell? (ad.add j)=some u)
  (hdis:∀b∈Fy,v.ownBlock≠some b) (h63:xs.length+ys.length≤maxLen) (hbytes:(xs.length+ys.length) * bytes≤140737488355328)
  (h:∀v' w' F',Apd E e w v xs ys F Fy v' w' F'→K (a.put o.dst v') w'):o.wp P a w K Q:=by
 obtain ⟨i,hi,hzz⟩:=Option.map_eq_some_iff.1 hinfo;simp only [Prod.mk.injEq] at hzz;obtain ⟨hz,hsize,hby⟩:=hzz;obtain ⟨cs,G,hrow,hf,hF⟩:=hown.owns;rcases hsrc with ⟨rfl,rfl,rfl⟩|⟨ad,rfl,hnews⟩
 ·have hn0:news=[]:=hfy.1;subst hn0;unfold Oper.wp execOp;simp only [ho,resolve,invoke,builtin,Sem.run_bind,Sem.run_pure,Result.andThen_ok,List.map_toArray,List.map_cons,List.map_nil,hs,hx];have hrun:=run_append_owned_none (P:=P) w 0 t o.type e i E.sz ht hi _ xs.length cs hrow;rw [show ([]:List α).length=0 from rfl,hrun];obtain ⟨F',hA⟩:=Azr (ys:=[]) hrow hf hF hd hfy hdis (by simpa using hrow) (World.grownBy.refl _ _) (.inl rfl) (by obtain ⟨a,c,rfl⟩:=hown.slice;exact ⟨a,c,FI⟩);exact h _ _ _ hA
 ·obtain ⟨v',w',hr,h2,h3,h4,h5⟩:=run_append_own_at (P:=P) w 0 t o.type e i z E.sz bytes ht hi hz hsize hby hzs hsz v xs.length cs hrow ad ys.length c news hfy.len hnews (hfy.one' hone) h63 hbytes (Nat.zero_le _);unfold Oper.wp execOp;simp only [ho,resolve,invoke,builtin,Sem.run_bind,Sem.run_pure,Result.andThen_ok,List.map_toArray,List.map_cons,List.map_nil,hs,hx,hr];have hs2:∃a cap,v'=.slice a (xs.length+ys.length) cap:=by
   rcases h2.2 with ⟨rfl,h0⟩|⟨g,cap,cur,rfl,_⟩
   ·exact ⟨none,0,by rw [h0]⟩
   ·exact ⟨_,_,rfl⟩
  obtain ⟨F',hA⟩:=Azr (ys:=ys) hrow hf hF hd hfy hdis h2 h3 h5 hs2;exact h _ _ _ hA
theorem Py (hone:X6 E) (hsz:0 < E.sz) {ops:Array Oper} {rest:List Oper} {o:Oper} {a:Act} {Q:Exit→Act→World→Prop} {w:World} (hgd:o.guard=none) (s x:Operand) (t:TypeId)
  (ho:o.op=.call { callee:=.builtin .append,args:=#[s,x],argTypes:=#[t,t] }) (e:TypeId) (z:Value) (bytes:Nat) (ht:P.underlying t=some (.slice e))
  (hinfo:(P.info? e).map (fun i=>(i.zero,i.size,i.bytes))=some (some z,E.sz,bytes)) (hzs:z.cells.size=E.sz)
  (v:Value) (xs:List α) (F:List Nat) (hs:a.eval s=v) (hown:Ow E e w v xs F) (hd:Hd F)
  (ao:Option Addr) (ys:List α) (c:Nat) (hx:a.eval x=.slice ao ys.length c) (news:List Value) (Fy:List Nat) (hfy:Cy E w news ys Fy)
  (hsrc:(ao=none∧c=0∧ys=[])∨∃ad,ao=some ad∧∀j u,news[j]?=some u→w.cell? (ad.add j)=some u)
  (hdis:∀b∈Fy,v.ownBlock≠some b) (h63:xs.length+ys.length≤maxLen) (hbytes:(xs.length+ys.length) * bytes≤140737488355328)
  (h:∀v' w' F',Apd E e w v xs ys F Fy v' w' F'→wpList P ops Q rest (a.put o.dst v') w'):wpList P ops Q (o::rest) a w :=
 wpList_plain hgd fun _ hK=>At9 hone hsz s x t ho e z bytes ht hinfo hzs v xs F hs hown hd ao ys c hx news Fy hfy hsrc hdis h63 hbytes fun v' w' F' hA=>hK _ _ (h v' w' F' hA)
theorem Aq6 (hone:X6 E) (hsz:0 < E.sz) {ops:Array Oper} {o:Oper} {a:Act} {K:Act→World→Prop} {Q:Exit→Act→World→Prop} {Z:Prop} {w:World} (hgd:o.guard=none) (s x:Operand) (t:TypeId)
  (ho:o.op=.call { callee:=.builtin .append,args:=#[s,x],argTypes:=#[t,t] }) (e:TypeId) (z:Value) (bytes:Nat) (ht:P.underlying t=some (.slice e))
  (hinfo:(P.info? e).map (fun i=>(i.zero,i.size,i.bytes))=some (some z,E.sz,bytes)) (hzs:z.cells.size=E.sz)
  (v:Value) (xs:List α) (F:List Nat) (hs:a.eval s=v) (hown:Ow E e w v xs F) (hd:Hd F)
  (ao:Option Addr) (ys:List α) (c:Nat) (hx:a.eval x=.slice ao ys.length c) (news:List Value) (Fy:List Nat) (hfy:Cy E w news ys Fy)
  (hsrc:(ao=none∧c=0∧ys=[])∨∃ad,ao=some ad∧∀j u,news[j]?=some u→w.cell? (ad.add j)=some u)
  (hdis:∀b∈Fy,v.ownBlock≠some b) (h63:xs.length+ys.length≤maxLen) (hbytes:(xs.length+ys.length) * bytes≤140737488355328)
  (h:∀v' w' F',Apd E e w v xs ys F Fy v' w' F'→K (a.put o.dst v') w'):if Region.wanted o (yielded ops a.tmps)=true then Oper.wp P o a w K Q else Z:=by
 have hw:Region.wanted o (yielded ops a.tmps)=true:=by simp [Region.wanted,hgd]
 rw [if_pos hw];exact At9 hone hsz s x t ho e z bytes ht hinfo hzs v xs F hs hown hd ao ys c hx news Fy hfy hsrc hdis h63 hbytes h
end
theorem Ow.own_mem {α:Type} {E:Bn α} {t w v} {xs:List α} {F} (h:Ow E t w v xs F):∀b,v.ownBlock=some b→b∈F:=fun b hb=>by
 obtain ⟨cs,G,_,_,rfl⟩:=h.owns;simp [hb]
def Bi0 {α:Type} (E:Bn α) (x:α) (w:World) (e:Ending) (w':World):Prop :=
 ∃v F,e=.returned v∧Jz E w' v x F∧(∀b∈F,w.heap.size≤b)∧Below w.heap.size w w'
theorem Jz.weak {α:Type} {O R:Bn α} (h:Kq O R) {w v x F} (ho:Jz O w v x F):∃F',(∀b∈F',b∈F)∧Jz R w v x F':=by
 obtain ⟨cs,hv,hx⟩:=ho;obtain ⟨F',h1,h2⟩:=h.Kn hx;exact ⟨F',h1,cs,hv,h2⟩
theorem Ow.empty {α:Type} {E:Bn α} {t:TypeId} {w:World} {g:Nat} (h:Ii w g t []):Ow E t w (.slice (some ⟨g,0,none⟩) 0 0) ([]:List α) [g] :=
 .inr ⟨g,0,[],[],[],rfl,GA,FI,FI,FI,⟨rfl,rfl⟩,rfl⟩
theorem Hd.one (g:Nat):Hd [g]:=fun a G e=>by cases e;simp
theorem Hd.nil:Hd []:=fun a G e=>by cases e
theorem Sl.src {α:Type} {E:Bn α} {w:World} {v:Value} {xs:List α} {F} (h:Sl E w v xs F):∃ao c news Fy,v=.slice ao xs.length c∧xs.length≤maxLen∧Cy E w news xs Fy∧(∀b∈Fy,b∈F) ∧
  ((ao=none∧c=0∧xs=[])∨∃ad,ao=some ad∧∀j u,news[j]?=some u→w.cell? (ad.add j)=some u):=by
 obtain ⟨a,cap,rfl,hl,⟨rfl,rfl,h0⟩|⟨b,off,F',rfl,hne,rfl,hc⟩⟩:=h
 ·refine ⟨a,cap,[],[],rfl,FI,⟨rfl,rfl⟩,FI,?_⟩;cases a with
  | none=>exact .inl ⟨rfl,h0 rfl,rfl⟩
  | some ad=>exact .inr ⟨ad,rfl,fun j u hu=>by simp at hu⟩
 ·obtain ⟨cs,hf,hcs⟩:=hc.flat;refine ⟨_,cap,cs,F',rfl,FH,hf,fun b hb=>by simp [hb],.inr ⟨_,rfl,fun j u hu=>?_⟩⟩;rw [←hcs j u hu];unfold Addr.add;split <;> simp_all
theorem Sl.takeS {α:Type} {E:Bn α} {w:World} {a:Option Addr} {n cap:Nat} {xs:List α} {F} (h:Sl E w (.slice a n cap) xs F) (k:Nat) (hk:k≤xs.length):∃F',(∀b∈F',b∈F)∧Sl E w (.slice a k cap) (xs.take k) F':=by
 obtain ⟨a',cap',hv,hl,h⟩:=h;cases hv;have hlen:(xs.take k).length=k:=FO
 rcases h with ⟨rfl,rfl,h0⟩|⟨b,off,F',rfl,hne,rfl,hc⟩
 ·simp at hk;subst hk;exact ⟨[],FI,a,cap,FI,⟨FI,hl.2⟩,.inl ⟨FI,rfl,h0⟩⟩
 ·by_cases hk0:k=0
  ·subst hk0;exact ⟨[],FI,some ⟨b,off,none⟩,cap,FI,⟨FI,hl.2⟩,.inl ⟨FI,rfl,fun e=>by cases e⟩⟩
  ·obtain ⟨cs,hf,hcs⟩:=hc.flat;have e:xs=xs.take k++xs.drop k:=FI
   rw [e] at hf;obtain ⟨c1,c2,G1,G2,rfl,rfl,h1,h2⟩:=hf.split;refine ⟨b::G1,by intro x hx;simp at hx ⊢;rcases hx with hx|hx <;> simp [hx],_,cap,by rw [hlen],by rw [hlen];omega,.inr ⟨b,off,G1,rfl,fun e=>by rw [e] at hlen;simp at hlen;omega,rfl,h1.cells fun j u hu=>hcs j u ?_⟩⟩;have hj:j < c1.length:=by
    rcases Nat.lt_or_ge j c1.length with h|h
    ·exact h
    ·rw [List.getElem?_eq_none h] at hu;cases hu
   rw [List.getElem?_append_left hj];exact hu
def Abt {α:Type} (E:Bn α):Prop:=∀{w cs x F},E.Kn w cs x F→F=[]
theorem D5:Abt Bb:=fun h=>h.2
theorem Gz:Abt A8:=fun h=>h.2.2
theorem Cy.scal {α:Type} {E:Bn α} (hE:Abt E) {w:World}:∀{xs:List α} {cs:List Value} {G:List Nat},Cy E w cs xs G→G=[]
 | [],_,_,h=>h.2
 | x::r,_,_,h=>by
  obtain ⟨c1,c2,F1,F2,rfl,rfl,h1,h2⟩:=h;rw [hE h1,h2.scal hE];rfl
theorem Ow.scal {α:Type} {E:Bn α} (hE:Abt E) {t w v} {xs:List α} {F} (h:Ow E t w v xs F):F=v.ownBlock.toList:=by
 obtain ⟨cs,G,_,hf,rfl⟩:=h.owns;rw [hf.scal hE,List.append_nil]
def Mix {α:Type} (O R:Bn α) (t:TypeId) (B1 B0:Nat) (w:World) (v:Value) (xs:List α) (k:Nat):Prop :=
 (v=.slice none 0 0∧xs=[])∨∃g cap c1 c2 rest F G,v=.slice (some ⟨g,0,none⟩) xs.length cap∧Ii w g t (c1++c2++rest)∧xs.length≤cap∧cap≤maxLen∧c1.length+c2.length+rest.length=cap * O.sz ∧
  Cy O w c1 (xs.take k) F∧Cy R w c2 (xs.drop k) G∧(g::F).Nodup∧(∀b∈g::F,B0≤b)∧∀b∈G,b < B1
section
variable {α:Type} {O R:Bn α} {t:TypeId} {B1 B0:Nat} {w:World} {v:Value} {xs:List α}
theorem Mix.start (hsz:R.sz=O.sz) {F:List Nat} (h:Ow R t w v xs F) (h1:∀b,v.ownBlock=some b→B0≤b) (h2:∀b∈F,v.ownBlock=some b∨b < B1) (hd:Hd F):Mix O R t B1 B0 w v xs 0:=by
 rcases h with ⟨rfl,rfl,_⟩|⟨g,cap,cs,rest,G,rfl,hr,h3,h4,h5,hf,rfl⟩
 ·exact .inl ⟨rfl,rfl⟩
 ·refine .inr ⟨g,cap,[],cs,rest,[],G,rfl,HG,h3,h4,by simpa [←hsz] using h5,⟨rfl,FI⟩,by simpa using hf,FI,by simpa using h1 g rfl,fun b hb=>?_⟩;rcases h2 b FR with e|e
  ·cases e;exact absurd hb (hd g G rfl)
  ·exact e
theorem Mix.done (h:Mix O R t B1 B0 w v xs xs.length):∃F,Ow O t w v xs F∧F.Nodup∧∀b∈F,B0≤b:=by
 rcases h with ⟨rfl,rfl⟩|⟨g,cap,c1,c2,rest,F,G,rfl,hr,h3,h4,h5,hf,hf2,hn,hb,_⟩
 ·exact ⟨[],.inl ⟨rfl,rfl,rfl⟩,FI,FI⟩
 ·have:c2=[]:=by simp at hf2;exact hf2.1
  subst this;exact ⟨g::F,.inr ⟨g,cap,c1,rest,F,rfl,HG,h3,h4,by simpa using h5,by simpa using hf,rfl⟩,hn,hb⟩
theorem Mix.frame {w':World} {k:Nat} (h:Mix O R t B1 B0 w v xs k) (hb:∀b,b < w.heap.size→b < B1∨B0≤b→w'.heap[b]?=w.heap[b]?):Mix O R t B1 B0 w' v xs k:=by
 rcases h with h|⟨g,cap,c1,c2,rest,F,G,hv,hr,h3,h4,h5,hf,hf2,hn,hb1,hb2⟩
 ·exact .inl h
 ·exact .inr ⟨g,cap,c1,c2,rest,F,G,hv,hr.I7 (hb g hr.lt (.inr (hb1 g FI))),h3,h4,h5,hf.frame fun b h=>hb b (hf.lt b h) (.inr (hb1 b JS)),hf2.frame fun b h=>hb b (hf2.lt b h) (.inl (hb2 b h)),hn,hb1,hb2⟩
theorem Mix.setFar {k:Nat} (h:Mix O R t B1 B0 w v xs k) {p:Addr} (h1:B1≤p.block) (h2:p.block < B0) (u:Value):Mix O R t B1 B0 (w.setCell p u) v xs k :=
 h.frame fun b _ hb=>Below.heap_setCell _ _ _ _ FH
theorem Mix.below {w':World} {k:Nat} (h:Mix O R t B1 B0 w v xs k) (hb:Below w.heap.size w w'):Mix O R t B1 B0 w' v xs k:=h.frame fun b h _=>hb.block b h
theorem Mix.slice {k:Nat} (h:Mix O R t B1 B0 w v xs k):∃a cap,v=.slice a xs.length cap:=by
 rcases h with ⟨rfl,rfl⟩|⟨g,cap,c1,c2,rest,F,G,rfl,_⟩
 ·exact ⟨none,0,rfl⟩
 ·exact ⟨_,_,rfl⟩
theorem Mix.at {k:Nat} (h:Mix O R t B1 B0 w v xs k) (hsz:R.sz=O.sz) (hk:k < xs.length) (hB:B0≤w.heap.size) (h01:B1≤B0) :
  ∃g cap A c B Fk,v=.slice (some ⟨g,0,none⟩) xs.length cap∧B0≤g∧Ii w g t (A++c++B)∧A.length=k * O.sz∧c.length=O.sz∧R.Kn w c xs[k] Fk∧(∀b∈Fk,b < B1) ∧
   ∀w' c' F',Ii w' g t (A++c'++B)→O.Kn w' c' xs[k] F'→F'.Nodup→(∀b∈F',w.heap.size≤b)→(∀b,b < w.heap.size→b≠g→w'.heap[b]?=w.heap[b]?)→Mix O R t B1 B0 w' v xs (k+1):=by
 rcases h with ⟨_,rfl⟩|⟨g,cap,c1,c2,rest,F,G,rfl,hr,h3,h4,h5,hf,hf2,hn,hb1,hb2⟩
 ·simp at hk
 ·rw [List.drop_eq_getElem_cons hk] at hf2;obtain ⟨c,c3,G1,G2,rfl,rfl,h6,h7⟩:=hf2;have hc1:c1.length=k * O.sz:=by rw [hf.len,List.length_take,Nat.min_eq_left FH]
  have hlc:=R.len h6;refine ⟨g,cap,c1,c,c3++rest,G1,rfl,hb1 g FI,HG,hc1,by rw [←hsz];exact hlc,h6,fun b hb=>hb2 b FR,fun w' c' F' hr' h8 hn' hF' hk'=>?_⟩;have hlc':=O.len h8;have hne:∀b∈F++G2,b < w.heap.size∧b≠g:=fun b hb=>by
   rcases List.mem_append.1 hb with hb|hb
   ·refine ⟨hf.lt b hb,fun e=>?_⟩;subst e;simp at hn;exact hn.1 hb
   ·have:=hb2 b FR;have:=hb1 g FI;exact ⟨FH,FH⟩
  refine .inr ⟨g,cap,c1++c',c3,rest,F++F',G2,rfl,by simpa using hr',h3,h4,?_,?_,?_,?_,?_,fun b hb=>hb2 b FR⟩
  ·simp only [List.length_append] at h5 ⊢;omega
  ·rw [List.take_succ_eq_append_getElem hk];exact (hf.frame fun b hb=>hk' b (hne b FR).1 (hne b FR).2).append (Cy.one h8)
  ·exact h7.frame fun b hb=>hk' b (hne b FR).1 (hne b FR).2
  ·have hg:=hr.lt;simp only [List.nodup_cons,List.mem_append,not_or,List.nodup_append] at hn ⊢;exact ⟨⟨hn.1,fun hm=>by have:=hF' g hm;omega⟩,hn.2,hn',fun a ha b hb e=>by have:=hf.lt a ha;have:=hF' b hb;omega⟩
  ·intro b hb;simp at hb;rcases hb with rfl|hb|hb
   ·exact hb1 b FI
   ·exact hb1 b FR
   ·have:=hF' b hb;omega
end
def Ga (lo x hi:Int):Bool:=decide (lo≤x) && decide (x≤hi)
theorem Ci {a b:Bool} (h:a=b):Ending.returned (.bool a)=.returned (.bool b):=by rw [h]
theorem Ame (s:ByteArray) (k:Nat) (h:k < s.size):s.data.toList.take (k+1)=s.data.toList.take k++[s[k]]:=by
 rw [List.take_succ_eq_append_getElem GA];rfl
theorem Are (s:ByteArray) (k:Nat) (h:¬k < s.size):s.data.toList.take k=s.data.toList:=List.take_of_length_le FO
theorem Agh (s:ByteArray) (k:Nat) (h:k < s.size):s.data.toList.drop k=s[k]::s.data.toList.drop (k+1):=by
 rw [List.drop_eq_getElem_cons GA];rfl
theorem Abz (s:ByteArray) (k:Nat) (h:¬k < s.size):s.data.toList.drop k=[]:=List.drop_of_length_le FO
theorem Bc5 {a b:UInt8}:((a.toNat:Int) == (b.toNat:Int))=(a == b):=by
 rw [Bool.eq_iff_iff];simp [←UInt8.toNat_inj];omega
theorem Id (x lo hi:Int) (w:World) :
  Calls prog 99 #[.int .i64 x,.int .i64 lo,.int .i64 hi] w fun e w'=>e=.returned (.bool (Ga lo x hi))∧w=w':=by
 go_enter func99,ntmps99
 go_wp2
 all_goals go_ret
 all_goals exact ⟨Ci (by simp [Ga, *] <;> omega),rfl⟩
theorem Kk (x lo hi:Int) (w:World) :
  Calls prog 130 #[.int .i64 x,.int .i64 lo,.int .i64 hi] w fun e w'=>e=.returned (.bool (Ga lo x hi))∧w=w':=by
 go_enter func130,ntmps130
 go_wp2
 all_goals go_ret
 all_goals exact ⟨Ci (by simp [Ga, *] <;> omega),rfl⟩
def Ka (c:UInt8) (l:List UInt8):Bool:=l.any (· == c)
theorem As0 (s:ByteArray) (c:UInt8) (w:World) (hs:s.size≤maxLen) :
  Calls prog 73 #[.string s,.int .u8 c.toNat] w fun e w'=>e=.returned (.bool (Ka c s.data.toList))∧w=w':=by
 unfold maxLen at hs
 go_enter func73,ntmps73
 go_wp2
 go_loop [5] (fun i=>∃k:Nat,k≤s.size∧i=.int .i64 k∧Hid (Ka c s.data.toList=Ka c (s.data.toList.drop k))) (fun i=>s.size - (intOf i).toNat)
 case atStart=>exact ⟨0,Nat.zero_le _,rfl,rfl⟩
 case round =>
  obtain ⟨k,hk,rfl,hz⟩:=hrel;by_cases hlt:k < s.size
  ·have hz:=Lib.hid (hz.out.trans (by rw [Agh s k hlt];rfl:_=(s[k] == c || Ka c (s.data.toList.drop (k+1)))));by_cases he:((s[k].toNat:Int) == (c.toNat:Int))=true
   ·go_wp2
    go_ret
    rw [Bc5] at he;exact ⟨Ci (by rw [hz.out,he];rfl),rfl⟩
   ·have he:=eq_false_of_ne_true he
    go_wp2
    go_round
    case rel=>rw [Bc5] at he;exact ⟨k+1,FH,HL,by refine Lib.hid ?_;rw [hz.out,he];rfl⟩
    case measure=>simp [intOf];omega
  ·go_wp2
   go_ret
   exact ⟨Ci (by rw [hz.out,Abz s k hlt];rfl),rfl⟩
def Qo (b:UInt8):Bool:=Ga 32 b.toNat 126 && !(b == 35)
def I0 (l:List UInt8):Bool:=l.all Qo
theorem Agr {a:UInt8}:((a.toNat:Int) == 35)=(a == 35):=Bc5 (b:=35)
theorem Aps (s:ByteArray) (w:World) (hs:s.size≤maxLen) :
  Calls prog 100 #[.string s] w fun e w'=>e=.returned (.bool (I0 s.data.toList))∧w=w':=by
 unfold maxLen at hs
 go_enter func100,ntmps100
 go_wp2
 go_loop [6] (fun i=>∃k:Nat,k≤s.size∧i=.int .i64 k∧Hid (I0 s.data.toList=I0 (s.data.toList.drop k))) (fun i=>s.size - (intOf i).toNat)
 case atStart=>exact ⟨0,Nat.zero_le _,rfl,rfl⟩
 case round =>
  obtain ⟨k,hk,rfl,hz⟩:=hrel;by_cases hlt:k < s.size
  ·have hz:=Lib.hid (hz.out.trans (by rw [Agh s k hlt];rfl:_=(Qo s[k] && I0 (s.data.toList.drop (k+1)))));have hb:(s[k].toNat:Int)≤255:=JA
   go_wp2_with (go_at_call 99;refine (Id _ _ _ _).mono ?_;rintro e w' ⟨rfl,rfl⟩)
   ·have h1:Ga 32 s[k].toNat 126=true:=GI
    have h2:((s[k].toNat:Int) == 35)=true:=GI
    go_ret
    exact ⟨Ci (by rw [hz.out];rw [Agr] at h2;simp [Qo,h2]),rfl⟩
   ·have h1:Ga 32 s[k].toNat 126=true:=GI
    have h2:((s[k].toNat:Int) == 35)=false:=GI
    exact ER
   ·have h1:¬Ga 32 s[k].toNat 126=true:=GI
    go_ret
    exact ⟨Ci (by rw [hz.out];simp [Qo,h1]),rfl⟩
  ·go_wp2
   go_ret
   exact ⟨Ci (by rw [hz.out,Abz s k hlt];rfl),rfl⟩
theorem As1 (s:ByteArray) (n:Int) (w:World) (hs:s.size≤maxLen) :
  Calls prog 72 #[.string s,.int .i64 n] w fun e w'=>e=.returned (.bool (I0 s.data.toList && decide ((s.size:Int)≤n)))∧w=w':=by
 unfold maxLen at hs
 go_enter func72,ntmps72
 go_wp2
 go_loop [5] (fun i=>∃k:Nat,k≤s.size∧i=.int .i64 k∧Hid (I0 s.data.toList=I0 (s.data.toList.drop k))) (fun i=>s.size - (intOf i).toNat)
 case atStart=>exact ⟨0,Nat.zero_le _,rfl,rfl⟩
 case round =>
  obtain ⟨k,hk,rfl,hz⟩:=hrel;by_cases hlt:k < s.size
  ·have hz:=Lib.hid (hz.out.trans (by rw [Agh s k hlt];rfl:_=(Qo s[k] && I0 (s.data.toList.drop (k+1)))));have hb:(s[k].toNat:Int)≤255:=JA
   go_wp2_with (go_at_call 130;refine (Kk _ _ _ _).mono ?_;rintro e w' ⟨rfl,rfl⟩)
   ·have h1:Ga 32 s[k].toNat 126=true:=GI
    have h2:((s[k].toNat:Int) == 35)=true:=GI
    go_ret
    exact ⟨Ci (by rw [hz.out];rw [Agr] at h2;simp [Qo,h2]),rfl⟩
   ·have h1:Ga 32 s[k].toNat 126=true:=GI
    have h2:((s[k].toNat:Int) == 35)=false:=GI
    exact ER
   ·have h1:¬Ga 32 s[k].toNat 126=true:=GI
    go_ret
    exact ⟨Ci (by rw [hz.out];simp [Qo,h1]),rfl⟩
  ·go_wp2
   go_ret
   exact ⟨Ci (by rw [hz.out,Abz s k hlt];simp [I0]),rfl⟩
theorem Hv {a b:Int} (h:a=b):Ending.returned (.int .i64 a)=.returned (.int .i64 b):=by rw [h]
theorem Ahv:(prog.info? 3).map (fun i=>(i.zero,i.size,i.bytes))=some (some (.int .i64 0),1,8):=by kernel_rfl
theorem Sl.int {w:World} {a:Option Addr} {n cap:Nat} {xs:List Int} {F} (h:Sl Bb w (.slice a n cap) xs F):n=xs.length∧n≤maxLen ∧
  ∀k (hk:k < xs.length),∃b off,a=some ⟨b,off,none⟩∧w.cell? ⟨b,off+k,none⟩=some (.int .i64 xs[k]):=by
 obtain ⟨a',cap',hv,hl,h⟩:=h;cases hv;refine ⟨rfl,FH,fun k hk=>?_⟩;rcases h with ⟨rfl,_⟩|⟨b,off,F',rfl,_,_,hc⟩
 ·simp at hk
 ·obtain ⟨cs,F1,⟨rfl,_⟩,hj,_⟩:=hc.get k hk;exact ⟨b,off,rfl,by simpa [Bb] using hj 0 FK⟩
theorem Arb (v:Value) (zs:List Int) (F:List Nat) (n:Int) (w:World) (h:Sl Bb w v zs F) (h0:0≤n) (h1:n≤1048576) :
  Calls prog 61 #[v,.int .i64 n] w (RB (.int .i64 (Y4 n (Ke (fun _=>0) zs))) w):=by
 obtain ⟨a,cap,rfl,_,_⟩:=id h;obtain ⟨_,hl,_⟩:=h.int;unfold maxLen at hl;rw [Ajn]
 go_enter func61,ntmps61
 go_wp2
 all_goals go_ret
 all_goals exact ⟨Hv HW,Below.refl _ _⟩
theorem Ao9 (va vb:Value) (zs:List Int) (Fa Fb:List Nat) (w:World) (ha:Sl Bb w va zs Fa) (hb:Sl Bb w vb zs Fb) :
  Calls prog 112 #[va,vb] w (RB (.bool true) w):=by
 obtain ⟨a,ca,rfl,_,_⟩:=id ha;obtain ⟨b,cb,rfl,_,_⟩:=id hb;obtain ⟨_,hla,ha⟩:=ha.int;obtain ⟨_, -,hb⟩:=hb.int;unfold maxLen at hla
 go_enter func112,ntmps112
 go_wp2
 go_loopw [5] (fun i wr=>∃k:Nat,k≤zs.length∧i=.int .i64 k∧∃n,wr=w.drewN n) (fun i _=>zs.length - (intOf i).toNat)
 case atStart=>exact ⟨0,Nat.zero_le _,rfl,0,rfl⟩
 case round =>
  obtain ⟨k,hk,rfl,n,rfl⟩:=hrel;by_cases hlt:k < zs.length
  ·obtain ⟨ba,oa,rfl,hca⟩:=ha k hlt;obtain ⟨bb,ob,rfl,hcb⟩:=hb k hlt;clear ha hb;have he':(zs[k] != zs[k])=false:=FI
   go_wp2
   go_quiet (fail)
   go_wp2
   exact ⟨⟨k+1,FH,HL,n+nq,FI⟩,GO⟩
  ·go_wp2
   go_ret
   exact ⟨rfl,Dt (Below.refl _ _) _⟩
structure Qe where
 Ad:List Int
def P0:Bn Qe where
 sz:=1
 Kn w cs x F:=∃v1,cs=[v1]∧Sl Bb w v1 x.Ad F
 len h:=GV
 lt h:=HK
 frame h hF:=GF
def Aex:Bn Qe where
 sz:=1
 Kn w cs x F:=∃v1,cs=[v1]∧Ow Bb 3 w v1 x.Ad F
 len h:=GV
 lt h:=IA
 frame h hF:=GF
def N4 (x:Qe):Nat:=Ke (fun _=>0) x.Ad
def N0 (x:Qe):Nat:=(Dj Hz) x.Ad
def Ang (k:Int) (x:Qe):Qe:=⟨(Ed mkI Hz) (k) x.Ad⟩
theorem Apq:(prog.info? 9).map (fun i=>(i.zero,i.size,i.bytes))=some (some (.string ⟨#[]⟩),1,16):=by kernel_rfl
theorem Sl.str {w:World} {a:Option Addr} {n cap:Nat} {xs:List ByteArray} {F} (h:Sl A8 w (.slice a n cap) xs F):n=xs.length∧n≤maxLen ∧
  ∀k (hk:k < xs.length),xs[k].size≤maxLen∧∃b off,a=some ⟨b,off,none⟩∧w.cell? ⟨b,off+k,none⟩=some (.string xs[k]):=by
 obtain ⟨a',cap',hv,hl,h⟩:=h;cases hv;refine ⟨rfl,FH,fun k hk=>?_⟩;rcases h with ⟨rfl,_⟩|⟨b,off,F',rfl,_,_,hc⟩
 ·simp at hk
 ·obtain ⟨cs,F1,⟨rfl,hs,_⟩,hj,_⟩:=hc.get k hk;exact ⟨hs,b,off,rfl,by simpa [A8] using hj 0 FK⟩
theorem Ard (v:Value) (zs:List ByteArray) (F:List Nat) (n:Int) (w:World) (h:Sl A8 w v zs F) (h0:0≤n) (h1:n≤1048576) :
  Calls prog 125 #[v,.int .i64 n] w (RB (.int .i64 (Y4 n (Ke ByteArray.size zs))) w):=by
 obtain ⟨a,cap,rfl⟩:=h.slice;obtain ⟨_,hl,hc⟩:=h.str;unfold maxLen at hl hc
 go_enter func125,ntmps125
 by_cases hn:n < zs.length
 ·go_wp2
  go_ret
  exact ⟨Hv (Ld (by have:=Xm ByteArray.size zs 0;omega)).symm,Below.refl _ _⟩
 go_wp2
 go_loop [1,5] (fun l i=>∃k:Nat,k≤zs.length∧i=.int .i64 k∧l=.int .i64 (n - zs.length - I1 ByteArray.size zs k)∧(I1 ByteArray.size zs k:Int)+zs.length≤n) (fun _ i=>zs.length - (intOf i).toNat)
 case atStart=>exact ⟨0,Nat.zero_le _,rfl,by rw [Rh];simp,by rw [Rh];omega⟩
 case round =>
  obtain ⟨k,hk,rfl,rfl,hle⟩:=hrel;by_cases hlt:k < zs.length
  ·have hsn:=Rg ByteArray.size zs k hlt;have hsl:=Xm ByteArray.size zs (k+1);obtain ⟨hs,b,off,rfl,c0⟩:=hc k hlt;have hS:=Lib.hid hsn;clear hsn hc;by_cases hr:n - zs.length - I1 ByteArray.size zs k < zs[k].size
   ·have hr2:n - zs.length - I1 ByteArray.size zs k - zs[k].size < 0:=FH
    go_wp2
    go_ret
    exact ⟨Hv (Ld (by have:=hS.out;omega)).symm,Below.refl _ _⟩
   ·have hr2:¬n - zs.length - I1 ByteArray.size zs k - zs[k].size < 0:=FH
    go_wp2
    go_round
    case rel=>exact ⟨k+1,FH,HL,congrArg (Value.int .i64) (by have:=hS.out;omega),by have:=hS.out;omega⟩
    case measure=>simp [intOf];omega
  ·have hk:k=zs.length:=FH
   subst hk
   go_wp2
   go_ret
   exact ⟨Hv (by rw [Pt (by rw [Aev];omega),Aev];omega),Below.refl _ _⟩
theorem Uv (va vb:Value) (zs:List ByteArray) (Fa Fb:List Nat) (w:World) (ha:Sl A8 w va zs Fa) (hb:Sl A8 w vb zs Fb) :
  Calls prog 8 #[va,vb] w (RB (.bool true) w):=by
 obtain ⟨a,ca,rfl⟩:=ha.slice;obtain ⟨b,cb,rfl⟩:=hb.slice;obtain ⟨_,hla,ha⟩:=ha.str;obtain ⟨_, -,hb⟩:=hb.str;unfold maxLen at hla ha
 go_enter func8,ntmps8
 go_wp2
 go_loopw [5] (fun i wr=>∃k:Nat,k≤zs.length∧i=.int .i64 k∧∃n,wr=w.drewN n) (fun i _=>zs.length - (intOf i).toNat)
 case atStart=>exact ⟨0,Nat.zero_le _,rfl,0,rfl⟩
 case round =>
  obtain ⟨k,hk,rfl,n,rfl⟩:=hrel;by_cases hlt:k < zs.length
  ·obtain ⟨hs,ba,oa,rfl,hca⟩:=ha k hlt;obtain ⟨-,bb,ob,rfl,hcb⟩:=hb k hlt;clear ha hb
   go_wp2
   go_quiet (fail)
   go_wp2
   exact ⟨⟨k+1,FH,HL,n+nq,FI⟩,GO⟩
  ·go_wp2
   go_ret
   exact ⟨rfl,Dt (Below.refl _ _) _⟩
theorem Ai9 (xs:List ByteArray) (k:Nat) (h:k≤xs.length):I1 Nh xs k=k:=by
 have:∀ys:List ByteArray,(ys.map Nh).sum=ys.length:=fun ys=>by
  induction ys with
  | nil=>rfl
  | cons y r ih=>simp only [List.map_cons,List.sum_cons,ih,List.length_cons,Nh];omega
 unfold I1;rw [this];simp;omega
theorem Ag9 (xs:List ByteArray):Dj Nh xs=xs.length:=by have:=Ai9 xs xs.length (Nat.le_refl _);rwa [Aik] at this
theorem Akp (a b:Array UInt8):(⟨a⟩:ByteArray)++⟨b⟩=⟨a++b⟩:=by apply ByteArray.ext;simp [ByteArray.data_append]
theorem Anf (m:Nat) (r:List UInt8):N8 m 0 r=r:=by cases m <;> simp [N8]
theorem Aqb (m k:Nat) (r:List UInt8) (h:k≠0):N8 (m+1) k r=N8 m (k / 10) (UInt8.ofNat (48+k % 10)::r):=by simp [N8,h]
theorem Uh (k:Int) (w:World) (h0:0≤k) (h1:k≤1099511627776) :
  Calls prog 27 #[.int .i64 k] w (RB (.string (V1 k)) w):=by
 by_cases hk:k≤0
 ·have hm:V1 k=⟨#[109,48]⟩:=by unfold V1;rw [if_pos hk]
  have hm:=Lib.hid hm
  go_enter func27,ntmps27
  go_wp2
  go_ret
  exact ⟨by rw [hm.out];rfl,Below.refl _ _⟩
 obtain ⟨kn,rfl⟩:=Int.eq_ofNat_of_zero_le h0;have hm:V1 (kn:Int)=⟨(109::N8 20 kn []).toArray⟩:=by unfold V1;rw [if_neg hk];rfl
 have hm:=Lib.hid hm;generalize hD:N8 20 kn []=D at *;have hD:=Lib.hid hD;have hk:¬kn≤0:=FH
 go_enter func27,ntmps27
 go_wp2
 go_loopw [0,3] (fun k o wr=>∃(m kk:Nat) (r:List UInt8),k=.int .i64 (kk:Int)∧o=.string ⟨r.toArray⟩∧(kk:Int)≤1099511627776∧r.length+m≤20∧Hid (kk < 10 ^ m)∧Hid (N8 m kk r=D)∧Below w.heap.size w wr) (fun k _ _=>(intOf k).toNat)
 case atStart=>exact ⟨20,kn,[],rfl,rfl,h1,FI,by show kn < 10 ^ 20;omega,hD,Below.refl _ _⟩
 case round =>
  obtain ⟨m,kk,r,rfl,rfl,hkk,hr,hp,hd,hB⟩:=hrel;by_cases h0:0 < kk
  ·have b0:(0:Int)≤(kk:Int) % 10:=FH
   have b1:(kk:Int) % 10≤9:=FH
   have hcv:((convert 111 9 (.slice (some ⟨wr.heap.size,0,none⟩) 1 1)).run prog (wr.alloc (.cells #[.int .u8 (48+(kk:Int) % 10)] 5)))=.ok (.string ⟨[UInt8.ofNat (48+kk % 10)].toArray⟩) (wr.alloc (.cells #[.int .u8 (48+(kk:Int) % 10)] 5)):=by
    have h:=run_convert_bytes_back (P:=prog) (wr.alloc (.cells #[.int .u8 (48+(kk:Int) % 10)] 5)) 111 9 5 ⟨wr.heap.size,0,none⟩ 1 [UInt8.ofNat (48+kk % 10)] underlying111 underlying5 underlying9 (fun j hj=>by
     obtain rfl:j=0:=IR
     have e1:(UInt8.ofNat (48+kk % 10)).toNat=48+kk % 10:=by rw [UInt8.toNat_ofNat'];omega
     simp only [List.getElem_cons_zero,e1];simp [Addr.add])
    exact h
   obtain ⟨m',rfl⟩:∃m',m=m'+1:=⟨m - 1,by have:=hp.out;rcases m with _|m <;> simp at this ⊢;omega⟩;have hp':Hid (kk / 10 < 10 ^ m'):=by have:=hp.out;rw [Nat.pow_succ] at this;show kk / 10 < 10 ^ m';omega
   have hd':Hid (N8 m' (kk / 10) (UInt8.ofNat (48+kk % 10)::r)=D):=by rw [←Aqb m' kk r FH];exact hd
   clear hd hp
   go_wp2
   exact ⟨⟨m',kk / 10,UInt8.ofNat (48+kk % 10)::r,FI,congrArg Value.string (by rw [Akp];simp),FH,FO,hp',hd',hB.alloc hB.size _⟩,GO⟩
  ·go_wp2
   go_ret
   have hk0:kk=0:=FH
   have hd:=hd.out;rw [hk0,Anf] at hd;subst hd;exact ⟨by rw [hm.out,Akp];simp,hB⟩
theorem Aj6 (v:Value) (zs:List ByteArray) (F:List Nat) (k0:Int) (w:World) (h:Ow A8 9 w v zs F) (hn:F.Nodup) (h0:0≤k0) (h1:k0+Dj Nh zs≤1099511627776) :
  Calls prog 11 #[v,.int .i64 k0] w (Auf A8 9 v (k0+Dj Nh zs) (Ed mkS Nh k0 zs) F w):=by
 obtain ⟨a,cap,rfl⟩:=h.slice;have hl:=h.len;unfold maxLen at hl;rw [Ag9] at h1
 go_enter func11,ntmps11
 go_wp2
 go_loopw [1,5] (fun kk i wr=>∃k:Nat,k≤zs.length∧i=.int .i64 k∧kk=.int .i64 (k0+k)∧Ow A8 9 wr (.slice a zs.length cap) ((Ed mkS Nh k0 zs).take k++zs.drop k) F∧Dr F w wr) (fun _ i _=>zs.length - (intOf i).toNat)
 case atStart=>exact ⟨0,Nat.zero_le _,rfl,FI,GA,Dr.refl _ _⟩
 case round =>
  obtain ⟨k,hk,rfl,rfl,ho,hK⟩:=hrel;by_cases hlt:k < zs.length
  ·have hln:k < ((Ed mkS Nh k0 zs).take k++zs.drop k).length:=by simp [Cb];omega
   obtain ⟨g,rfl⟩:=ho.head k hln;obtain ⟨A,c,B,Fi,hrow,hA,hcl,⟨rfl, -,rfl⟩, -, -,hgF, -,back⟩:=ho.inPlace hn k hln;rw [show A8.sz=1 from rfl,Nat.mul_one] at hA;have hst:=Ah9 mkS Nh zs k0 k hlt;rw [Ai9 zs k FH] at hst;have hst:=Lib.hid hst;have hbk:=Lib.hid back;clear ho back;have z0:=hrow.cellMid (p:=k) (j:=0) FH FI;have hfz:=hrow.frozens;simp only [List.getElem?_cons_zero] at z0;go_wp2_with fail;refine (Uh (k0+k) _ FH FH).mono ?_;rintro e w1 ⟨rfl,hb1⟩;have hrow:=hrow.below hb1;have KK:=Dr.ofBelow (F:=[g]) hb1
   have z0:=hrow.cellMid (p:=k) (j:=0) FH FI;have hfz:=hrow.frozens;simp only [List.getElem?_cons_zero] at z0;clear hb1;go_wp2_with fail;have HB:=hbk.out (w1.setCell ⟨g,k,none⟩ (.string (V1 (k0+k)))) [.string (V1 (k0+k))] (V1 (k0+k)) (hrow.setMid (p:=k) (j:=0) FH FI _) ⟨rfl,Zl _,rfl⟩ (KK.setCell FI _);have hst:=hst.out;simp only [mkS] at hst;rw [hst] at HB;exact ⟨⟨k+1,FH,HL,HL,HB,(hK.trans (KK.mono (fun b hb _=>by simp at hb;subst hb;exact hgF))).setCell hgF _⟩,GO⟩
  ·have hk:k=zs.length:=FH
   subst hk;have HO:=Lib.hid ho;clear ho
   go_wp2
   go_ret
   exact ⟨Hv (by rw [Ag9]),by simpa [Cb,List.take_of_length_le] using HO.out,hK⟩
theorem Aae (v:Value) (zs:List ByteArray) (F:List Nat) (k0:Int) (w:World) (h:Sl A8 w v (Ed mkS Nh k0 zs) F) (h0:0≤k0) (h1:k0+Dj Nh zs≤1099511627776) :
  Calls prog 12 #[v,.int .i64 k0] w (RB (.int .i64 (k0+Dj Nh zs)) w):=by
 obtain ⟨a,cap,rfl⟩:=h.slice;have hm:∀k (hk:k < zs.length),(Ed mkS Nh k0 zs)[k]'(by rw [Cb];exact hk)=V1 (k0+k):=fun k hk=>by
  rw [Ad7 mkS Nh zs k0 k hk,Ai9 zs k FH];rfl
 have hl:=h.len;rw [Cb] at hl;unfold maxLen at hl;rw [Ag9] at h1 ⊢;rw [Cb]
 go_enter func12,ntmps12
 go_wp2
 go_loopw [1,5] (fun kk i wr=>∃k:Nat,k≤zs.length∧i=.int .i64 k∧kk=.int .i64 (k0+k)∧Below w.heap.size w wr) (fun _ i _=>zs.length - (intOf i).toNat)
 case atStart=>exact ⟨0,Nat.zero_le _,rfl,FI,Below.refl _ _⟩
 case round =>
  obtain ⟨k,hk,rfl,rfl,hB⟩:=hrel;by_cases hlt:k < zs.length
  ·obtain ⟨hs,b,off,hab,hc⟩:=(h.below FK hB).str.2.2 k (by rw [Cb];exact hlt);rw [hm k hlt] at hc;have h:=Lib.hid h;have hm:=Lib.hid hm;subst hab;go_wp2_with fail
   go_region_held3 (fun w'=>w'.cell? ⟨b,off+k,none⟩=some (.string (V1 (k0+k)))) (first|go_keep|(exact kc hb1 hc)|(exact hc))
    (first|(go_at_call 27;refine (Uh (k0+k) wr.drew FH FH).mono ?_;rintro e w1 ⟨rfl,hb1⟩))
   have hB:=tr (Dt hB 1) hb1 (Nat.le_refl _);clear hb1;go_wp2_with fail;exact ⟨⟨k+1,FH,HL,HL,hB⟩,GO⟩
  ·have hk:k=zs.length:=FH
   subst hk
   go_wp2
   go_ret
   exact ⟨rfl,hB⟩
structure Aw where
 Ap:Int
 size:Int
 An:List ByteArray
def Bw:Bn Aw where
 sz:=3
 Kn w cs x F:=∃v1,cs=[.int .i64 x.Ap,.int .i64 x.size,v1]∧Sl A8 w v1 x.An F
 len h:=GV
 lt h:=HK
 frame h hF:=GF
def Km:Bn Aw where
 sz:=3
 Kn w cs x F:=∃v1,cs=[.int .i64 x.Ap,.int .i64 x.size,v1]∧Ow A8 9 w v1 x.An F
 len h:=GV
 lt h:=IA
 frame h hF:=GF
def Jr (x:Aw):Nat:=Ke ByteArray.size x.An
def Ki (x:Aw):Nat:=(Dj Nh) x.An
def Ti (k:Int) (x:Aw):Aw:=⟨x.Ap,x.size,(Ed mkS Nh) (k) x.An⟩
structure Hx where
 Ae:Int
 Ce:Int
def Bm:Bn Hx where
 sz:=2
 Kn _ cs x F:=cs=[.int .i64 x.Ae,.int .i64 x.Ce]∧F=[]
 len h:=by obtain ⟨rfl,rfl⟩:=h;rfl
 lt h:=by obtain ⟨rfl,rfl⟩:=h;simp
 frame h _:=h
theorem Jj:X6 Bm:=fun h u hu=>by
 obtain ⟨rfl,rfl⟩:=h;simp only [List.mem_cons,List.not_mem_nil,or_false] at hu;rcases hu with rfl|rfl
 ·rfl
 ·rfl
theorem Lc:Abt Bm:=fun h=>by obtain ⟨rfl,rfl⟩:=h;rfl
theorem Alc:(prog.info? 203).map (fun i=>(i.zero,i.size,i.bytes))=some (some (.agg #[.int .i64 0,.int .i64 0]),2,16):=by kernel_rfl
def N6 (x:Hx):Nat:=Hz x.Ae+Hz x.Ce
def Aib (k:Int) (x:Hx):Hx:=⟨mkI (k) x.Ae,mkI (k+Hz x.Ae) x.Ce⟩
theorem Ar8 (x:Hx):N6 x≤2 * (1+(fun _=>0) x):=by
 simp only [N6,Hz,Abv,Nh];omega
theorem Ayo (v:Value) (xs:List Hx) (F:List Nat) (n:Int) (w:World) (h:Sl Bm w v xs F) (h0:0≤n) (h1:n≤1048576) :
  Calls prog 63 #[v,.int .i64 n] w (RB (.int .i64 (Y4 n (Ke (fun _=>0) xs))) w):=by
 obtain ⟨a,cap,rfl⟩:=h.slice;have hl:=h.len;unfold maxLen at hl;rw [Ajn]
 go_enter func63,ntmps63
 go_wp2
 all_goals go_ret
 all_goals exact ⟨Hv HW,Below.refl _ _⟩
theorem Bcz (v:Value) (x:Hx) (F:List Nat) (w:World) (h:Jz Bm w v x F)  :
  Calls prog 158 #[v] w (Wm Bm x w):=by
 obtain ⟨_,rfl,rfl,rfl⟩:=h;have hB0:∀A B C:Obj,Below w.heap.size w (((w.alloc A).alloc B).alloc C):=fun A B C=>(((Below.refl _ _).alloc (Nat.le_refl _) _).alloc FI _).alloc GD _
 go_enter func158,ntmps158
 go_wp2_with fail;refine bodyPost_ret (v:=.agg #[.int .i64 x.Ae,.int .i64 x.Ce]) ?_ rfl ?_
 ·simp [results,results158,go_sem]
 ·exact ⟨_,[],rfl,⟨_,rfl,rfl,rfl⟩,FI,FI,FZ⟩
theorem Az5 (va vb:Value) (x:Hx) (Fa Fb:List Nat) (w:World) (ha:Jz Bm w va x Fa) (hb:Jz Bm w vb x Fb) :
  Calls prog 208 #[va,vb] w (RB (.bool true) w):=by
 obtain ⟨_,rfl,rfl,rfl⟩:=ha;obtain ⟨_,rfl,rfl,rfl⟩:=hb;have hB0:∀A B:Obj,Below w.heap.size w ((w.alloc A).alloc B):=fun A B=>((Below.refl _ _).alloc (Nat.le_refl _) _).alloc FI _;have hE:∀z:Int,(z != z)=false:=fun z=>by simp
 go_enter func208,ntmps208
 go_wp2_with fail
 go_ret
 exact ⟨rfl,hB0 _ _⟩
structure Cj where
 Aa:Aw
 Ai:Int
 quiet:Int
 holds:List Hx
def Dp:Bn Cj where
 sz:=6
 Kn w cs x F:=∃v1 v2 F1 F2,cs=[.int .i64 x.Aa.Ap,.int .i64 x.Aa.size,v1,.int .i64 x.Ai,.int .i64 x.quiet,v2]∧Sl A8 w v1 x.Aa.An F1∧Sl Bm w v2 x.holds F2∧F=F1++F2
 len h:=IK
 lt h:=by
  obtain ⟨v1,v2,F1,F2,rfl,h1,h2,rfl⟩:=h;intro b hb;simp only [List.mem_append] at hb;rcases hb with hb|hb
  ·exact h1.lt FK b hb
  ·exact h2.lt FK b hb
 frame h hF:=GG
def S8:Bn Cj where
 sz:=6
 Kn w cs x F:=∃v1 v2 F1 F2,cs=[.int .i64 x.Aa.Ap,.int .i64 x.Aa.size,v1,.int .i64 x.Ai,.int .i64 x.quiet,v2]∧Ow A8 9 w v1 x.Aa.An F1∧Ow Bm 203 w v2 x.holds F2∧F=F1++F2
 len h:=IK
 lt h:=by
  obtain ⟨v1,v2,F1,F2,rfl,h1,h2,rfl⟩:=h;intro b hb;simp only [List.mem_append] at hb;rcases hb with hb|hb
  ·exact h1.lt b hb
  ·exact h2.lt b hb
 frame h hF:=GG
def Kg (x:Cj):Nat:=Jr x.Aa+Ke (fun _=>0) x.holds
def Kt (x:Cj):Nat:=Ki x.Aa+(Dj N6) x.holds
def V2 (k:Int) (x:Cj):Cj:=⟨Ti (k) x.Aa,x.Ai,x.quiet,(Ed Aib N6) (k+Ki x.Aa) x.holds⟩
structure Gj where
 Ae:Int
 Bj:List Int
 Ce:Int
def Ds:Bn Gj where
 sz:=3
 Kn w cs x F:=∃v1,cs=[.int .i64 x.Ae,v1,.int .i64 x.Ce]∧Sl Bb w v1 x.Bj F
 len h:=GV
 lt h:=HK
 frame h hF:=GF
theorem Aif:X6 Ds:=fun h u hu=>by
 obtain ⟨v1,rfl,h1⟩:=h;simp only [List.mem_cons,List.not_mem_nil,or_false] at hu;rcases hu with rfl|rfl|rfl
 ·rfl
 ·exact h1.one
 ·rfl
theorem Aa4:(prog.info? 253).map (fun i=>(i.zero,i.size,i.bytes))=some (some (.agg #[.int .i64 0,.slice none 0 0,.int .i64 0]),3,40):=by kernel_rfl
def Dz:Bn Gj where
 sz:=3
 Kn w cs x F:=∃v1,cs=[.int .i64 x.Ae,v1,.int .i64 x.Ce]∧Ow Bb 3 w v1 x.Bj F
 len h:=GV
 lt h:=IA
 frame h hF:=GF
theorem Re:X6 Dz:=fun h u hu=>by
 obtain ⟨v1,rfl,h1⟩:=h;simp only [List.mem_cons,List.not_mem_nil,or_false] at hu;rcases hu with rfl|rfl|rfl
 ·rfl
 ·exact h1.one
 ·rfl
theorem Rn:Kq Dz Ds:=⟨rfl,fun h=>by
 obtain ⟨v1,rfl,h1⟩:=h;obtain ⟨G1,g1,k1⟩:=h1.sl (Kq.refl _);exact ⟨G1,g1,v1,rfl,k1⟩⟩
def Mv (x:Gj):Nat:=Ke (fun _=>0) x.Bj
def Ks (x:Gj):Nat:=Hz x.Ae+(Dj Hz) x.Bj+Hz x.Ce
def W8 (k:Int) (x:Gj):Gj:=⟨mkI (k) x.Ae,(Ed mkI Hz) (k+Hz x.Ae) x.Bj,mkI (k+Hz x.Ae+(Dj Hz) x.Bj) x.Ce⟩
theorem Ao1 (x:Gj):Ks x≤2 * (1+Mv x):=by
 have h0:=N7 Hz (fun _=>0) 1 (fun x=>by simp [Hz]) x.Bj;simp only [Ks,Mv,Hz,Abv,Nh];omega
structure Bf where
 Ai:Int
 Ah:List Gj
def Bk:Bn Bf where
 sz:=2
 Kn w cs x F:=∃v1,cs=[.int .i64 x.Ai,v1]∧Sl Ds w v1 x.Ah F
 len h:=GV
 lt h:=HK
 frame h hF:=GF
def B4:Bn Bf where
 sz:=2
 Kn w cs x F:=∃v1,cs=[.int .i64 x.Ai,v1]∧Ow Dz 253 w v1 x.Ah F
 len h:=GV
 lt h:=IA
 frame h hF:=GF
theorem Qq:X6 B4:=fun h u hu=>by
 obtain ⟨v1,rfl,h1⟩:=h;simp only [List.mem_cons,List.not_mem_nil,or_false] at hu;rcases hu with rfl|rfl
 ·rfl
 ·exact h1.one
theorem Mh:Kq B4 Bk:=⟨rfl,fun h=>by
 obtain ⟨v1,rfl,h1⟩:=h;obtain ⟨G1,g1,k1⟩:=h1.sl Rn;exact ⟨G1,g1,v1,rfl,k1⟩⟩
def E5 (x:Bf):Nat:=Ke Mv x.Ah
def Ey (x:Bf):Nat:=Hz x.Ai+(Dj Ks) x.Ah
def Ty (k:Int) (x:Bf):Bf:=⟨mkI (k) x.Ai,(Ed W8 Ks) (k+Hz x.Ai) x.Ah⟩
theorem Ajv (x:Bf):Ey x≤2 * (1+E5 x):=by
 have h0:=N7 Ks Mv 2 Ao1 x.Ah;simp only [Ey,E5,Hz,Abv,Nh];omega
structure Gb where
 Vr:Bool
 Dg:ByteArray
def Bz:Bn Gb where
 sz:=2
 Kn _ cs x F:=cs=[.bool x.Vr,.string x.Dg]∧x.Dg.size≤maxLen∧F=[]
 len h:=by obtain ⟨rfl,s1,rfl⟩:=h;rfl
 lt h:=by obtain ⟨rfl,s1,rfl⟩:=h;simp
 frame h _:=h
theorem Iq:X6 Bz:=fun h u hu=>by
 obtain ⟨rfl,s1,rfl⟩:=h;simp only [List.mem_cons,List.not_mem_nil,or_false] at hu;rcases hu with rfl|rfl
 ·rfl
 ·rfl
theorem H5:Abt Bz:=fun h=>by obtain ⟨rfl,s1,rfl⟩:=h;rfl
theorem Aws:(prog.info? 272).map (fun i=>(i.zero,i.size,i.bytes))=some (some (.agg #[.bool false,.string ⟨#[]⟩]),2,24):=by kernel_rfl
def Ro (x:Gb):Nat:=x.Dg.size
def Li (x:Gb):Nat:=Abv x.Vr+Nh x.Dg
def Aeb (k:Int) (x:Gb):Gb:=⟨mkB (k) x.Vr,mkS (k+Abv x.Vr) x.Dg⟩
theorem Ar9 (x:Gb):Li x≤2 * (1+Ro x):=by
 simp only [Li,Ro,Hz,Abv,Nh];omega
theorem Bcl (v:Value) (x:Gb) (F:List Nat) (n:Int) (w:World) (h:Jz Bz w v x F) (h0:0≤n) (h1:n≤1048576) :
  Calls prog 283 #[v,.int .i64 n] w (RB (.int .i64 (Y4 n (Ro x))) w):=by
 obtain ⟨_,rfl,rfl,s1,rfl⟩:=h;have hB0:∀A:Obj,Below w.heap.size w (w.alloc A):=fun A=>(Below.refl _ _).alloc (Nat.le_refl _) _;unfold maxLen at s1;unfold Ro
 go_enter func283,ntmps283
 go_wp2
 all_goals go_ret
 all_goals exact ⟨Hv HW,hB0 _⟩
theorem Bc0 (v:Value) (x:Gb) (F:List Nat) (w:World) (h:Jz Bz w v x F) (hl:Ro x≤1048576) :
  Calls prog 299 #[v] w (Wm Bz x w):=by
 obtain ⟨_,rfl,rfl,s1,rfl⟩:=h;have hB0:∀A B C:Obj,Below w.heap.size w (((w.alloc A).alloc B).alloc C):=fun A B C=>(((Below.refl _ _).alloc (Nat.le_refl _) _).alloc FI _).alloc GD _
 go_enter func299,ntmps299
 go_wp2_with fail;refine bodyPost_ret (v:=.agg #[.bool x.Vr,.string x.Dg]) ?_ rfl ?_
 ·simp [results,results299,go_sem]
 ·exact ⟨_,[],rfl,⟨_,rfl,rfl,s1,rfl⟩,FI,FI,FZ⟩
theorem Az6 (va vb:Value) (x:Gb) (Fa Fb:List Nat) (w:World) (ha:Jz Bz w va x Fa) (hb:Jz Bz w vb x Fb) :
  Calls prog 340 #[va,vb] w (RB (.bool true) w):=by
 obtain ⟨_,rfl,rfl,s1,rfl⟩:=ha;obtain ⟨_,rfl,rfl,t1,rfl⟩:=hb;have hB0:∀A B:Obj,Below w.heap.size w ((w.alloc A).alloc B):=fun A B=>((Below.refl _ _).alloc (Nat.le_refl _) _).alloc FI _;have hE:∀z:Int,(z != z)=false:=fun z=>by simp
 go_enter func340,ntmps340
 go_wp2_with fail
 go_ret
 exact ⟨rfl,hB0 _ _⟩
structure Aj where
 next:Int
 Al:List Gb
def Bg:Bn Aj where
 sz:=2
 Kn w cs x F:=∃v1,cs=[.int .i64 x.next,v1]∧Sl Bz w v1 x.Al F
 len h:=GV
 lt h:=HK
 frame h hF:=GF
def Mw:Bn Aj where
 sz:=2
 Kn w cs x F:=∃v1,cs=[.int .i64 x.next,v1]∧Ow Bz 272 w v1 x.Al F
 len h:=GV
 lt h:=IA
 frame h hF:=GF
def Ig (x:Aj):Nat:=Ke Ro x.Al
structure Ax where
 Ae:Int
 state:Int
 Ce:Int
 D6:Int
def Av:Bn Ax where
 sz:=4
 Kn _ cs x F:=cs=[.int .i64 x.Ae,.int .i64 x.state,.int .i64 x.Ce,.int .i64 x.D6]∧F=[]
 len h:=by obtain ⟨rfl,rfl⟩:=h;rfl
 lt h:=by obtain ⟨rfl,rfl⟩:=h;simp
 frame h _:=h
theorem C0:X6 Av:=fun h u hu=>by
 obtain ⟨rfl,rfl⟩:=h;simp only [List.mem_cons,List.not_mem_nil,or_false] at hu;rcases hu with rfl|rfl|rfl|rfl
 ·rfl
 ·rfl
 ·rfl
 ·rfl
theorem Dl:Abt Av:=fun h=>by obtain ⟨rfl,rfl⟩:=h;rfl
def Ij (x:Ax):Nat:=Hz x.Ae+Hz x.state+Hz x.Ce+Hz x.D6
def Tz (k:Int) (x:Ax):Ax:=⟨mkI (k) x.Ae,mkI (k+Hz x.Ae) x.state,mkI (k+Hz x.Ae+Hz x.state) x.Ce,mkI (k+Hz x.Ae+Hz x.state+Hz x.Ce) x.D6⟩
theorem Ajw (x:Ax):Ij x≤4 * (1+(fun _=>0) x):=by
 simp only [Ij,Hz,Abv,Nh];omega
theorem An0 (v:Value) (xs:List Ax) (F:List Nat) (n:Int) (w:World) (h:Sl Av w v xs F) (h0:0≤n) (h1:n≤1048576) :
  Calls prog 128 #[v,.int .i64 n] w (RB (.int .i64 (Y4 n (Ke (fun _=>0) xs))) w):=by
 obtain ⟨a,cap,rfl⟩:=h.slice;have hl:=h.len;unfold maxLen at hl;rw [Ajn]
 go_enter func128,ntmps128
 go_wp2
 all_goals go_ret
 all_goals exact ⟨Hv HW,Below.refl _ _⟩
theorem Arl (v:Value) (x:Ax) (F:List Nat) (w:World) (h:Jz Av w v x F)  :
  Calls prog 235 #[v] w (Wm Av x w):=by
 obtain ⟨_,rfl,rfl,rfl⟩:=h;have hB0:∀A B C:Obj,Below w.heap.size w (((w.alloc A).alloc B).alloc C):=fun A B C=>(((Below.refl _ _).alloc (Nat.le_refl _) _).alloc FI _).alloc GD _
 go_enter func235,ntmps235
 go_wp2_with fail;refine bodyPost_ret (v:=.agg #[.int .i64 x.Ae,.int .i64 x.state,.int .i64 x.Ce,.int .i64 x.D6]) ?_ rfl ?_
 ·simp [results,results235,go_sem]
 ·exact ⟨_,[],rfl,⟨_,rfl,rfl,rfl⟩,FI,FI,FZ⟩
theorem Apb (va vb:Value) (x:Ax) (Fa Fb:List Nat) (w:World) (ha:Jz Av w va x Fa) (hb:Jz Av w vb x Fb) :
  Calls prog 282 #[va,vb] w (RB (.bool true) w):=by
 obtain ⟨_,rfl,rfl,rfl⟩:=ha;obtain ⟨_,rfl,rfl,rfl⟩:=hb;have hB0:∀A B:Obj,Below w.heap.size w ((w.alloc A).alloc B):=fun A B=>((Below.refl _ _).alloc (Nat.le_refl _) _).alloc FI _;have hE:∀z:Int,(z != z)=false:=fun z=>by simp
 go_enter func282,ntmps282
 go_wp2_with fail
 go_ret
 exact ⟨rfl,hB0 _ _⟩
structure Ay where
 Bd:Bool
 Ai:Int
 Aa:Aj
 Am:List Ax
def Bi:Bn Ay where
 sz:=5
 Kn w cs x F:=∃v1 v2 F1 F2,cs=[.bool x.Bd,.int .i64 x.Ai,.int .i64 x.Aa.next,v1,v2]∧Sl Bz w v1 x.Aa.Al F1∧Sl Av w v2 x.Am F2∧F=F1++F2
 len h:=IK
 lt h:=by
  obtain ⟨v1,v2,F1,F2,rfl,h1,h2,rfl⟩:=h;intro b hb;simp only [List.mem_append] at hb;rcases hb with hb|hb
  ·exact h1.lt FK b hb
  ·exact h2.lt FK b hb
 frame h hF:=GG
def Bx:Bn Ay where
 sz:=5
 Kn w cs x F:=∃v1 v2 F1 F2,cs=[.bool x.Bd,.int .i64 x.Ai,.int .i64 x.Aa.next,v1,v2]∧Ow Bz 272 w v1 x.Aa.Al F1∧Ow Av 257 w v2 x.Am F2∧F=F1++F2
 len h:=IK
 lt h:=by
  obtain ⟨v1,v2,F1,F2,rfl,h1,h2,rfl⟩:=h;intro b hb;simp only [List.mem_append] at hb;rcases hb with hb|hb
  ·exact h1.lt b hb
  ·exact h2.lt b hb
 frame h hF:=GG
theorem Pj:X6 Bx:=fun h u hu=>by
 obtain ⟨v1,v2,F1,F2,rfl,h1,h2,rfl⟩:=h;simp only [List.mem_cons,List.not_mem_nil,or_false] at hu;rcases hu with rfl|rfl|rfl|rfl|rfl
 ·rfl
 ·rfl
 ·rfl
 ·exact h1.one
 ·exact h2.one
theorem R5:Kq Bx Bi:=⟨rfl,fun h=>by
 obtain ⟨v1,v2,F1,F2,rfl,h1,h2,rfl⟩:=h;obtain ⟨G1,g1,k1⟩:=h1.sl (Kq.refl _);obtain ⟨G2,g2,k2⟩:=h2.sl (Kq.refl _);refine ⟨G1++G2,?_,v1,v2,G1,G2,rfl,k1,k2,rfl⟩;intro b hb;simp only [List.mem_append] at hb ⊢;rcases hb with hb|hb
 ·simp [g1 b hb]
 ·simp [g2 b hb]⟩
def Fv (x:Ay):Nat:=Ig x.Aa+Ke (fun _=>0) x.Am
def Ev (x:Ay):Nat:=Abv x.Bd+Hz x.Ai+Hz x.Aa.next+(Dj Li) x.Aa.Al+(Dj Ij) x.Am
def Rc (k:Int) (x:Ay):Ay:=⟨mkB (k) x.Bd,mkI (k+Abv x.Bd) x.Ai,⟨mkI (k+Abv x.Bd+Hz x.Ai) x.Aa.next,(Ed Aeb Li) (k+Abv x.Bd+Hz x.Ai+Hz x.Aa.next) x.Aa.Al⟩,(Ed Tz Ij) (k+Abv x.Bd+Hz x.Ai+Hz x.Aa.next+(Dj Li) x.Aa.Al) x.Am⟩
theorem Aha (x:Ay):Ev x≤4 * (1+Fv x):=by
 have h0:=N7 Li Ro 2 Ar9 x.Aa.Al;have h1:=N7 Ij (fun _=>0) 4 Ajw x.Am;simp only [Ev,Fv,Ig,Hz,Abv,Nh];omega
structure Ar where
 Cp:Int
 Ae:Int
 Ap:Int
 Fg:Int
 data:ByteArray
def Ak:Bn Ar where
 sz:=5
 Kn _ cs x F:=cs=[.int .i64 x.Cp,.int .i64 x.Ae,.int .i64 x.Ap,.int .i64 x.Fg,.string x.data]∧x.data.size≤maxLen∧F=[]
 len h:=by obtain ⟨rfl,s1,rfl⟩:=h;rfl
 lt h:=by obtain ⟨rfl,s1,rfl⟩:=h;simp
 frame h _:=h
theorem Hg:X6 Ak:=fun h u hu=>by
 obtain ⟨rfl,s1,rfl⟩:=h;simp only [List.mem_cons,List.not_mem_nil,or_false] at hu;rcases hu with rfl|rfl|rfl|rfl|rfl
 ·rfl
 ·rfl
 ·rfl
 ·rfl
 ·rfl
theorem I2:Abt Ak:=fun h=>by obtain ⟨rfl,s1,rfl⟩:=h;rfl
def Eg (x:Ar):Nat:=x.data.size
def Cm (x:Ar):Nat:=Hz x.Cp+Hz x.Ae+Hz x.Ap+Hz x.Fg+Nh x.data
def No (k:Int) (x:Ar):Ar:=⟨mkI (k) x.Cp,mkI (k+Hz x.Cp) x.Ae,mkI (k+Hz x.Cp+Hz x.Ae) x.Ap,mkI (k+Hz x.Cp+Hz x.Ae+Hz x.Ap) x.Fg,mkS (k+Hz x.Cp+Hz x.Ae+Hz x.Ap+Hz x.Fg) x.data⟩
theorem Abw (x:Ar):Cm x≤5 * (1+Eg x):=by
 simp only [Cm,Eg,Hz,Abv,Nh];omega
theorem Atw (v:Value) (x:Ar) (F:List Nat) (n:Int) (w:World) (h:Jz Ak w v x F) (h0:0≤n) (h1:n≤1048576) :
  Calls prog 129 #[v,.int .i64 n] w (RB (.int .i64 (Y4 n (Eg x))) w):=by
 obtain ⟨_,rfl,rfl,s1,rfl⟩:=h;have hB0:∀A:Obj,Below w.heap.size w (w.alloc A):=fun A=>(Below.refl _ _).alloc (Nat.le_refl _) _;unfold maxLen at s1;unfold Eg
 go_enter func129,ntmps129
 go_wp2
 all_goals go_ret
 all_goals exact ⟨Hv HW,hB0 _⟩
theorem At5 (v:Value) (x:Ar) (F:List Nat) (w:World) (h:Jz Ak w v x F) (hl:Eg x≤1048576) :
  Calls prog 162 #[v] w (Wm Ak x w):=by
 obtain ⟨_,rfl,rfl,s1,rfl⟩:=h;have hB0:∀A B C:Obj,Below w.heap.size w (((w.alloc A).alloc B).alloc C):=fun A B C=>(((Below.refl _ _).alloc (Nat.le_refl _) _).alloc FI _).alloc GD _
 go_enter func162,ntmps162
 go_wp2_with fail;refine bodyPost_ret (v:=.agg #[.int .i64 x.Cp,.int .i64 x.Ae,.int .i64 x.Ap,.int .i64 x.Fg,.string x.data]) ?_ rfl ?_
 ·simp [results,results162,go_sem]
 ·exact ⟨_,[],rfl,⟨_,rfl,rfl,s1,rfl⟩,FI,FI,FZ⟩
theorem Asj (va vb:Value) (x:Ar) (Fa Fb:List Nat) (w:World) (ha:Jz Ak w va x Fa) (hb:Jz Ak w vb x Fb) :
  Calls prog 212 #[va,vb] w (RB (.bool true) w):=by
 obtain ⟨_,rfl,rfl,s1,rfl⟩:=ha;obtain ⟨_,rfl,rfl,t1,rfl⟩:=hb;have hB0:∀A B:Obj,Below w.heap.size w ((w.alloc A).alloc B):=fun A B=>((Below.refl _ _).alloc (Nat.le_refl _) _).alloc FI _;have hE:∀z:Int,(z != z)=false:=fun z=>by simp
 go_enter func212,ntmps212
 go_wp2_with fail
 go_ret
 exact ⟨rfl,hB0 _ _⟩
end Go.Proofs.YtcmighgaiacgoaaGreatDoor
namespace Go.Proofs.YtcmighgaiacgoaaGreatDoor

open Go.RowKit
end Go.Proofs.YtcmighgaiacgoaaGreatDoor
namespace Go.Proofs.YtcmighgaiacgoaaGreatDoor
open Go.RowKit
structure Dv where
 Ao:Qe
 Ab:Cj
 Af:List Bf
 Ac:List Ay
 down:List (List Ar)
 up:List (List Ar)
def Ny:Bn Dv where
 sz:=11
 Kn w cs x F:=∃v1 v2 v3 v4 v5 v6 v7 F1 F2 F3 F4 F5 F6 F7,cs=[v1,.int .i64 x.Ab.Aa.Ap,.int .i64 x.Ab.Aa.size,v2,.int .i64 x.Ab.Ai,.int .i64 x.Ab.quiet,v3,v4,v5,v6,v7]∧Sl Bb w v1 x.Ao.Ad F1∧Sl A8 w v2 x.Ab.Aa.An F2∧Sl Bm w v3 x.Ab.holds F3∧Sl Bk w v4 x.Af F4∧Sl Bi w v5 x.Ac F5∧Sl (Ml Ak FK) w v6 x.down F6∧Sl (Ml Ak FK) w v7 x.up F7∧F=F1++F2++F3++F4++F5++F6++F7
 len h:=JX
 lt h:=by
  obtain ⟨v1,v2,v3,v4,v5,v6,v7,F1,F2,F3,F4,F5,F6,F7,rfl,h1,h2,h3,h4,h5,h6,h7,rfl⟩:=h;intro b hb;simp only [List.mem_append] at hb;rcases hb with (((((hb|hb)|hb)|hb)|hb)|hb)|hb
  ·exact h1.lt FK b hb
  ·exact h2.lt FK b hb
  ·exact h3.lt FK b hb
  ·exact h4.lt FK b hb
  ·exact h5.lt FK b hb
  ·exact h6.lt FK b hb
  ·exact h7.lt FK b hb
 frame h hF:=GJ
def Zx:Bn Dv where
 sz:=11
 Kn w cs x F:=∃v1 v2 v3 v4 v5 v6 v7 F1 F2 F3 F4 F5 F6 F7,cs=[v1,.int .i64 x.Ab.Aa.Ap,.int .i64 x.Ab.Aa.size,v2,.int .i64 x.Ab.Ai,.int .i64 x.Ab.quiet,v3,v4,v5,v6,v7]∧Ow Bb 3 w v1 x.Ao.Ad F1∧Ow A8 9 w v2 x.Ab.Aa.An F2∧Ow Bm 203 w v3 x.Ab.holds F3∧Ow B4 149 w v4 x.Af F4∧Ow Bx 156 w v5 x.Ac F5∧Ow (Ko Ak 233) 158 w v6 x.down F6∧Ow (Ko Ak 233) 158 w v7 x.up F7∧F=F1++F2++F3++F4++F5++F6++F7
 len h:=JX
 lt h:=by
  obtain ⟨v1,v2,v3,v4,v5,v6,v7,F1,F2,F3,F4,F5,F6,F7,rfl,h1,h2,h3,h4,h5,h6,h7,rfl⟩:=h;intro b hb;simp only [List.mem_append] at hb;rcases hb with (((((hb|hb)|hb)|hb)|hb)|hb)|hb
  ·exact h1.lt b hb
  ·exact h2.lt b hb
  ·exact h3.lt b hb
  ·exact h4.lt b hb
  ·exact h5.lt b hb
  ·exact h6.lt b hb
  ·exact h7.lt b hb
 frame h hF:=GJ
theorem Ac8:Kq Zx Ny:=⟨rfl,fun h=>by
 obtain ⟨v1,v2,v3,v4,v5,v6,v7,F1,F2,F3,F4,F5,F6,F7,rfl,h1,h2,h3,h4,h5,h6,h7,rfl⟩:=h;obtain ⟨G1,g1,k1⟩:=h1.sl (Kq.refl _);obtain ⟨G2,g2,k2⟩:=h2.sl (Kq.refl _);obtain ⟨G3,g3,k3⟩:=h3.sl (Kq.refl _);obtain ⟨G4,g4,k4⟩:=h4.sl Mh;obtain ⟨G5,g5,k5⟩:=h5.sl R5;obtain ⟨G6,g6,k6⟩:=h6.sl (Qt (Kq.refl _) FK _);obtain ⟨G7,g7,k7⟩:=h7.sl (Qt (Kq.refl _) FK _);refine ⟨G1++G2++G3++G4++G5++G6++G7,?_,v1,v2,v3,v4,v5,v6,v7,G1,G2,G3,G4,G5,G6,G7,rfl,k1,k2,k3,k4,k5,k6,k7,rfl⟩;intro b hb;simp only [List.mem_append] at hb ⊢;rcases hb with (((((hb|hb)|hb)|hb)|hb)|hb)|hb
 ·simp [g1 b hb]
 ·simp [g2 b hb]
 ·simp [g3 b hb]
 ·simp [g4 b hb]
 ·simp [g5 b hb]
 ·simp [g6 b hb]
 ·simp [g7 b hb]⟩
def Y9 (x:Dv):Nat:=N4 x.Ao+Kg x.Ab+Ke E5 x.Af+Ke Fv x.Ac+Ke (Ke Eg) x.down+Ke (Ke Eg) x.up
def Ae1 (x:Dv):Nat:=N0 x.Ao+Kt x.Ab+(Dj Ey) x.Af+(Dj Ev) x.Ac+(Dj (Dj Cm)) x.down+(Dj (Dj Cm)) x.up
def Yq (k:Int) (x:Dv):Dv:=⟨Ang (k) x.Ao,V2 (k+N0 x.Ao) x.Ab,(Ed Ty Ey) (k+N0 x.Ao+Kt x.Ab) x.Af,(Ed Rc Ev) (k+N0 x.Ao+Kt x.Ab+(Dj Ey) x.Af) x.Ac,(Ed (Ed No Cm) (Dj Cm)) (k+N0 x.Ao+Kt x.Ab+(Dj Ey) x.Af+(Dj Ev) x.Ac) x.down,(Ed (Ed No Cm) (Dj Cm)) (k+N0 x.Ao+Kt x.Ab+(Dj Ey) x.Af+(Dj Ev) x.Ac+(Dj (Dj Cm)) x.down) x.up⟩
-- markNet: a nested struct with several slices is not written here
def Afl (l:List Int) (i:Nat):Bool:=match l[i]? with
 | some p=>if i=0 then decide (p=-1) else Ga 0 p ((i:Int) - 1)
 | none=>true
def Kc (t:Qe):Bool:=Ga 2 (t.Ad.length:Int) 8 && Pr (Afl t.Ad) t.Ad.length
theorem Ui {l:List Int} (h:0 < l.length):Afl l 0=decide (l[0]=-1):=by unfold Afl;rw [List.getElem?_eq_getElem h];rfl
theorem Wb {l:List Int} {i:Nat} (h:i < l.length) (h0:0 < i):Afl l i=Ga 0 l[i] ((i:Int) - 1):=by
 unfold Afl;rw [List.getElem?_eq_getElem h];show (if i=0 then _ else _)=_;rw [if_neg FH]
structure Vg (l:List Int):Prop where
 n0:2≤l.length
 n1:l.length≤8
 z:∀h:0 < l.length,l[0]=-1
 p:∀i (h:i < l.length),0 < i→0≤l[i]∧l[i] < i
theorem H8 {t:Qe} (h:Kc t=true):Vg t.Ad:=by
 unfold Kc at h;rw [Bool.and_eq_true] at h;obtain ⟨h1,h2⟩:=h;unfold Ga at h1;simp only [Bool.and_eq_true,decide_eq_true_eq] at h1;refine ⟨FH,FH,fun h=>?_,fun i h h0=>?_⟩
 ·have:=Js h2 0 h;rw [Ui h] at this;exact of_decide_eq_true this
 ·have:=Js h2 i h;rw [Wb h h0] at this;unfold Ga at this;simp only [Bool.and_eq_true,decide_eq_true_eq] at this;omega
theorem Awk {t:Qe} (h:Ga 2 (t.Ad.length:Int) 8=false):Kc t=false:=by unfold Kc;rw [h];rfl
theorem Ab9 {t:Qe} {i:Nat} (hi:i < t.Ad.length) (h:Afl t.Ad i=false):Kc t=false:=by unfold Kc;rw [Mi hi h,Bool.and_false]
def Kj (l:List Int) (node:Int) (k:Nat):List Int:=((List.range k).filter fun i=>decide (l[i]?=some node)).map fun (i:Nat)=>((i:Nat):Int)
def Iw (l:List Int) (node:Int):List Int:=Kj l node l.length
theorem Ass {l:List Int} {node:Int} {k:Nat} (h:k < l.length) (e:l[k]=node):Kj l node (k+1)=Kj l node k++[(k:Int)]:=by
 unfold Kj;rw [List.range_succ,List.filter_append,List.map_append];simp [List.getElem?_eq_getElem h,e]
theorem Awy {l:List Int} {node:Int} {k:Nat} (h:k < l.length) (e:¬l[k]=node):Kj l node (k+1)=Kj l node k:=by
 unfold Kj;rw [List.range_succ,List.filter_append,List.map_append];simp [List.getElem?_eq_getElem h,e]
theorem Ahy (l:List Int) (node:Int) (k:Nat):(Kj l node k).length≤k:=by
 unfold Kj;exact DT
theorem Apy {l:List Int} {node x:Int} (h:x∈Iw l node):∃i,∃hi:i < l.length,x=(i:Int)∧l[i]=node:=by
 unfold Iw Kj at h;obtain ⟨i,hi,rfl⟩:=List.mem_map.1 h;obtain ⟨h1,h2⟩:=List.mem_filter.1 hi;have h3:=List.mem_range.1 h1;have h4:=of_decide_eq_true h2;rw [List.getElem?_eq_getElem h3] at h4;exact ⟨i,h3,rfl,Option.some.inj h4⟩
def Eo (l:List Int) (node:Int):Bool:=!decide (node∈l)
theorem Axk (l:List Int) (node:Int):Eo l node=decide (Iw l node=[]):=by
 unfold Eo;by_cases h:node∈l
 ·obtain ⟨i,hi,rfl⟩:=List.getElem_of_mem h;have:(i:Int)∈Iw l l[i]:=by
   unfold Iw Kj;exact List.mem_map.2 ⟨i,List.mem_filter.2 ⟨List.mem_range.2 hi,by simp [List.getElem?_eq_getElem hi]⟩,rfl⟩
  rw [decide_eq_true h,decide_eq_false fun e=>by rw [e] at this;cases this];rfl
 ·have:Iw l node=[]:=List.eq_nil_iff_forall_not_mem.2 fun x hx=>by
   obtain ⟨i,hi, -,e⟩:=Apy hx;exact h (e▸List.getElem_mem hi)
  rw [decide_eq_false h,decide_eq_true this];rfl
def Ux (l:List Int) (node:Int) (k:Nat):List Int:=((List.range k).filter fun i=>decide (l[i+1]?=some node)).map fun (i:Nat)=>((i+1:Nat):Int)
theorem Ae9 (l:List Int) (node:Int) (k:Nat):Kj l node (k+1)=Kj l node k++if l[k]?=some node then [(k:Int)] else []:=by
 unfold Kj;rw [List.range_succ,List.filter_append,List.map_append]
 split <;> simp_all
theorem Aa7 (l:List Int) (node:Int) (k:Nat):Ux l node (k+1)=Ux l node k++if l[k+1]?=some node then [((k+1:Nat):Int)] else []:=by
 unfold Ux;rw [List.range_succ,List.filter_append,List.map_append]
 split <;> simp_all
theorem Apx {l:List Int} {node:Int} (hz:Kj l node 1=[]):∀k,Kj l node (k+1)=Ux l node k
 | 0=>by rw [hz];rfl
 | k+1=>by rw [Ae9,Apx hz k,Aa7]
theorem Alf {l:List Int} {node:Int} (hz:Kj l node 1=[]) {k:Nat} (hk:k+1=l.length):Ux l node k=Iw l node:=by
 rw [←Apx hz];unfold Iw;rw [hk]
theorem Awx {l:List Int} {node:Int} {k:Nat} (h:k+1 < l.length) (e:l[k+1]=node):Ux l node (k+1)=Ux l node k++[((k+1:Nat):Int)]:=by
 rw [Aa7,List.getElem?_eq_getElem h,e,if_pos rfl]
theorem Bav {l:List Int} {node:Int} {k:Nat} (h:k+1 < l.length) (e:¬l[k+1]=node):Ux l node (k+1)=Ux l node k:=by
 rw [Aa7,List.getElem?_eq_getElem h,if_neg (by simpa using e),List.append_nil]
theorem Alg (l:List Int) (node:Int) (k:Nat):(Ux l node k).length≤k:=by
 unfold Ux;exact DT
theorem Tw {l:List Int} {node:Int} (hz:∀h:0 < l.length,l[0]=-1) (h:0≤node):Kj l node 1=[]:=by
 rw [Ae9];by_cases h0:0 < l.length
 ·have:=hz h0;rw [List.getElem?_eq_getElem h0,if_neg FO];rfl
 ·rw [List.getElem?_eq_none FH];rfl
def B8 (x:Int):Bool:=Ga 0 x 65535
def Ky (x:Int):Bool:=Ga 0 x 9999
def Q0 (x:Int):Bool:=Ga 1 x 7
theorem Jc (x:Int) (w:World):Calls prog 169 #[.int .i64 x] w fun e w'=>e=.returned (.bool (B8 x))∧w=w':=by
 go_enter func169,ntmps169
 go_wp2_with (go_at_call 99;refine (Id _ _ _ _).mono ?_;rintro e w' ⟨rfl,rfl⟩)
 go_ret
 exact EB
theorem Pi (x:Int) (w:World):Calls prog 133 #[.int .i64 x] w fun e w'=>e=.returned (.bool (B8 x))∧w=w':=by
 go_enter func133,ntmps133
 go_wp2_with (go_at_call 130;refine (Kk _ _ _ _).mono ?_;rintro e w' ⟨rfl,rfl⟩)
 go_ret
 exact EB
theorem Tv (x:Int) (w:World):Calls prog 168 #[.int .i64 x] w fun e w'=>e=.returned (.bool (Ky x))∧w=w':=by
 go_enter func168,ntmps168
 go_wp2_with (go_at_call 99;refine (Id _ _ _ _).mono ?_;rintro e w' ⟨rfl,rfl⟩)
 go_ret
 exact EB
theorem Aa8 (x:Int) (w:World):Calls prog 132 #[.int .i64 x] w fun e w'=>e=.returned (.bool (Ky x))∧w=w':=by
 go_enter func132,ntmps132
 go_wp2_with (go_at_call 130;refine (Kk _ _ _ _).mono ?_;rintro e w' ⟨rfl,rfl⟩)
 go_ret
 exact EB
theorem Vt (x:Int) (w:World):Calls prog 192 #[.int .i64 x] w fun e w'=>e=.returned (.bool (Q0 x))∧w=w':=by
 go_enter func192,ntmps192
 go_wp2_with (go_at_call 99;refine (Id _ _ _ _).mono ?_;rintro e w' ⟨rfl,rfl⟩)
 go_ret
 exact EB
def Afo (lo hi:Int) (zs:List Int) (i:Nat):Bool:=Ga lo (zs.getD i 0) hi && (i == 0 || decide (zs.getD (i - 1) 0 < zs.getD i 0))
def Rl (lo hi:Int) (zs:List Int):Bool:=Pr (Afo lo hi zs) zs.length
theorem Xc {lo hi:Int} {zs:List Int} (h:0 < zs.length):Afo lo hi zs 0=Ga lo zs[0] hi:=by simp [Afo,h]
theorem Uk {lo hi:Int} {zs:List Int} {m:Nat} (h:m+1 < zs.length):Afo lo hi zs (m+1)=(Ga lo zs[m+1] hi && decide (zs[m]'FH < zs[m+1])):=by
 simp [Afo,h,show m < zs.length by omega]
theorem Ag3 (v:Value) (zs:List Int) (F:List Nat) (w:World) (h:Sl Bb w v zs F) :
  Calls prog 251 #[v] w fun e w'=>e=.returned (.bool (Rl 1 7 zs))∧w=w':=by
 obtain ⟨a,cap,rfl⟩:=h.slice;obtain ⟨-,hl,hc⟩:=h.int;unfold maxLen at hl
 go_enter func251,ntmps251
 go_wp2
 go_loop [3,4,7] (fun _ _ i=>∃k:Nat,k≤zs.length∧i=.int .i64 k∧Hid (∀j,j < k→Afo 1 7 zs j=true)) (fun _ _ i=>zs.length - (intOf i).toNat)
 case atStart=>exact ⟨0,Nat.zero_le _,rfl,fun j hj=>by omega⟩
 case round =>
  obtain ⟨k,hk,rfl,hz⟩:=hrel;by_cases hlt:k < zs.length
  ·obtain ⟨b,off,rfl,c0⟩:=hc k hlt;rcases k with _|m
   ·have hr:=Lib.hid (Xc (lo:=1) (hi:=7) hlt);clear hc;simp only [Nat.add_zero] at c0;go_wp2_with (go_at_call 192;refine (Vt _ _).mono ?_;rintro e w' ⟨rfl,rfl⟩)
    ·have t:Ga 1 zs[0] 7=true:=GI
     exact ⟨⟨1,FH,HL,Wi hz.out (by rw [hr.out,t])⟩,GO⟩
    ·have t:¬Ga 1 zs[0] 7=true:=GI
     go_ret
     exact ⟨Ci (Mi hlt (by rw [hr.out];simpa using t)).symm,rfl⟩
   ·obtain ⟨b',off',hb',c1⟩:=hc m FH;cases hb';have hr:=Lib.hid (Uk (lo:=1) (hi:=7) hlt);clear hc;go_wp2_with (go_at_call 192;refine (Vt _ _).mono ?_;rintro e w' ⟨rfl,rfl⟩)
    ·have t:zs[m+1]≤zs[m]:=GI
     go_ret
     exact ⟨Ci (Mi hlt (by rw [hr.out];simp;omega)).symm,rfl⟩
    ·have t:Ga 1 zs[m+1] 7=true:=GI
     have t2:zs[m] < zs[m+1]:=GI
     exact ⟨⟨m+2,FH,HL,Wi hz.out (by rw [hr.out,t];simp;omega)⟩,GO⟩
    ·have t:¬Ga 1 zs[m+1] 7=true:=GI
     go_ret
     exact ⟨Ci (Mi hlt (by rw [hr.out];simp [t])).symm,rfl⟩
  ·go_wp2
   go_ret
   exact ⟨Ci (Lw (fun i hi=>hz.out i FH)).symm,rfl⟩
theorem Asz (v:Value) (zs:List Int) (F:List Nat) (lo hi:Int) (w:World) (h:Sl Bb w v zs F) :
  Calls prog 284 #[v,.int .i64 lo,.int .i64 hi] w (RB (.bool (Rl lo hi zs)) w):=by
 obtain ⟨a,cap,rfl⟩:=h.slice;obtain ⟨-,hl, -⟩:=h.int;unfold maxLen at hl
 go_enter func284,ntmps284
 go_wp2
 go_loopw [7] (fun i wr=>∃k:Nat,k≤zs.length∧i=.int .i64 k∧Hid (∀j,j < k→Afo lo hi zs j=true)∧Below w.heap.size w wr) (fun i _=>zs.length - (intOf i).toNat)
 case atStart=>exact ⟨0,Nat.zero_le _,rfl,fun j hj=>by omega,Below.refl _ _⟩
 case round =>
  obtain ⟨k,hk,rfl,hz,hB⟩:=hrel;have hc:=(h.below FK hB).int.2.2;by_cases hlt:k < zs.length
  ·obtain ⟨b,off,rfl,c0⟩:=hc k hlt;rcases k with _|m
   ·have hr:=Lib.hid (Xc (lo:=lo) (hi:=hi) hlt);clear hc;simp only [Nat.add_zero] at c0;cases t:Ga lo zs[0] hi
    ·go_wp2_with fail
     go_quiet ((go_at_call 130;exact Yw (Kk _ _ _ _)))
     go_wp2_with fail
     go_ret
     exact ⟨Ci (Mi hlt (by rw [hr.out,t])).symm,Dt hB _⟩
    ·go_wp2_with fail
     go_quiet ((go_at_call 130;exact Yw (Kk _ _ _ _)))
     go_wp2_with fail;exact ⟨⟨1,FH,HL,Wi hz.out (by rw [hr.out,t]),Dt hB _⟩,GO⟩
   ·obtain ⟨b',off',hb',c1⟩:=hc m FH;cases hb';have hr:=Lib.hid (Uk (lo:=lo) (hi:=hi) hlt);clear hc;cases t:Ga lo zs[m+1] hi
    ·go_wp2_with fail
     go_quiet ((go_at_call 130;exact Yw (Kk _ _ _ _)))
     go_wp2_with fail
     go_ret
     exact ⟨Ci (Mi hlt (by rw [hr.out,t];rfl)).symm,Dt hB _⟩
    ·by_cases t2:zs[m] < zs[m+1]
     ·go_wp2_with fail
      go_quiet ((go_at_call 130;exact Yw (Kk _ _ _ _)))
      go_wp2_with fail;exact ⟨⟨m+2,FH,HL,Wi hz.out (by rw [hr.out,t];simpa using t2),Dt hB _⟩,GO⟩
     ·have t3:zs[m+1]≤zs[m]:=FH
      go_wp2_with fail
      go_quiet ((go_at_call 130;exact Yw (Kk _ _ _ _)))
      go_wp2_with fail
      go_ret
      exact ⟨Ci (Mi hlt (by rw [hr.out];simp;omega)).symm,Dt hB _⟩
  ·go_wp2
   go_ret
   exact ⟨Ci (Lw (fun i hi=>hz.out i FH)).symm,hB⟩
theorem Asx (v:Value) (zs:List Int) (F:List Nat) (w:World) (h:Sl Bb w v zs F) :
  Calls prog 216 #[v] w (RB (.bool (Rl 1 7 zs)) w):=by
 go_enter func216,ntmps216
 go_wp2_with (go_at_call 284;refine (Asz _ zs F _ _ _ h).mono ?_;rintro e w' ⟨rfl,hb1⟩)
 go_ret
 exact ⟨rfl,hb1⟩
theorem M8 (w:World) (g:Nat):∀(c:List Value) (w:World) (p:Nat),Oo w g p c=w.setCells g p c
 | [],_,_=>rfl
 | _::r,_,_=>M8 w g r _ _
theorem Nx (z:Array Value) (n:Nat):(Builtin.zeroCells z n).toList.length=n * z.size:=by simp [Builtin.zeroCells]
theorem Akk (z:Array Value) (h:∀u∈z,u.oneCell'=true) (n:Nat):∀u∈(Builtin.zeroCells z n).toList,u.oneCell'=true:=by
 intro u hu;simp only [Builtin.zeroCells,Array.toList_map,List.mem_map] at hu;obtain ⟨i,hi,rfl⟩:=hu;simp at hi;have hz:0 < z.size:=Nat.pos_of_ne_zero fun e=>by rw [e,Nat.mul_zero] at hi;omega
 have hm:i % z.size < z.size:=Nat.mod_lt _ hz;rw [getElem!_pos z _ hm];exact h _ (Array.getElem_mem _)
theorem Ul {P:Program} (w:World) (t e ty:TypeId) (z:Value) (ht:P.underlying t=some (.slice e)) (hv:∀w,(zeroValue e).run P w=.ok z w) (h1:∀u∈z.cells,u.oneCell'=true) (b o n c:Nat) (hn:0 < n)
  (hc:∀j,j < n * z.cells.size→(w.cell? ⟨b,o+j,none⟩).isSome=true) (hf:∀j,j < n * z.cells.size→w.frozen? ⟨b,o+j,none⟩=false) :
  (Builtin.clear_ #[t] ty #[.slice (some ⟨b,o,none⟩) n c]).run P w=.ok (.tuple #[]) (w.setCells b o (Builtin.zeroCells z.cells n).toList):=by
 have hst:=run_storeCells_cells (P:=P) b o (Builtin.zeroCells z.cells n).toList 0 w (by rw [Nx];simpa using hc) (by rw [Nx];simpa using hf) (Akk _ h1 _);simp only [Nat.add_zero] at hst;obtain ⟨m,rfl⟩:∃m,n=m+1:=⟨n - 1,FH⟩;simp [Builtin.clear_,run_underlying ht,hv,hst]
theorem Xo {P:Program} {e:TypeId} {z:Value} {size bytes:Nat} (h:(P.info? e).map (fun i=>(i.zero,i.size,i.bytes))=some (some z,size,bytes)):∀w,(zeroValue e).run P w=.ok z w:=fun w=>by
 obtain ⟨i,hi,hzz⟩:=Option.map_eq_some_iff.1 h;simp only [Prod.mk.injEq] at hzz;obtain ⟨hz, -, -⟩:=hzz;simp [zeroValue,typeInfo,hi,hz]
theorem Zf {α:Type} {p:α→Bool} {xs:List α} (h:xs.any p=true):∃k,∃hk:k < xs.length,Ss p xs=k∧p xs[k]=true∧(xs.take k).filter (fun x=>!p x)=xs.take k:=by
 have hk:xs.findIdx p < xs.length:=List.findIdx_lt_length_of_exists (by obtain ⟨x,hx,hp⟩:=List.any_eq_true.1 h;exact ⟨x,hx,hp⟩);refine ⟨_,hk,by unfold Ss;rw [if_pos h],List.findIdx_getElem (w:=hk),?_⟩;rw [List.filter_eq_self];intro x hx;obtain ⟨i,hi,rfl⟩:=List.mem_take_iff_getElem.1 hx;have:=List.not_of_lt_findIdx (p:=p) (xs:=xs) (show i < xs.findIdx p by omega);exact EM
theorem Ab4 {α:Type} {p:α→Bool} {xs:List α} (h:¬xs.any p=true):Ss p xs=-1∧xs.filter (fun x=>!p x)=xs:=by
 refine ⟨by unfold Ss;rw [if_neg h],?_⟩;rw [List.filter_eq_self];intro x hx;cases hp:p x
 ·rfl
 ·exact absurd (List.any_eq_true.2 ⟨x,hx,hp⟩) h
theorem Hk {α:Type} {q:α→Bool} {xs:List α} {j:Nat} (h:j < xs.length) (hq:q xs[j]=true):(xs.take (j+1)).filter q=(xs.take j).filter q++[xs[j]]:=by
 rw [List.take_succ_eq_append_getElem h,List.filter_append];simp [hq]
theorem C6 {α:Type} {q:α→Bool} {xs:List α} {j:Nat} (h:j < xs.length) (hq:q xs[j]=false):(xs.take (j+1)).filter q=(xs.take j).filter q:=by
 rw [List.take_succ_eq_append_getElem h,List.filter_append];simp [hq]
theorem Aiy {w:World} {g off n:Nat} {c c':List Value} (h:c.length=n) (h':c'.length=n) (hc:∀j,j < n→w.cell? ⟨g,off+j,none⟩=c[j]?) (hc':∀j,j < n→w.cell? ⟨g,off+j,none⟩=c'[j]?):c=c':=by
 apply List.ext_getElem?;intro j;by_cases hj:j < n
 ·rw [←hc j hj,hc' j hj]
 ·rw [List.getElem?_eq_none FH,List.getElem?_eq_none FH]
def Gap {α:Type} (O:Bn α) (t:TypeId) (w:World) (g n cap:Nat) (ys:List α) (m:Nat) (zs:List α) (F:List Nat):Prop :=
 ∃c1 jk c3 rest G1 G3,n=ys.length+m+zs.length∧Ii w g t (c1++jk++c3++rest)∧n≤cap∧cap≤maxLen∧c1.length+jk.length+c3.length+rest.length=cap * O.sz∧jk.length=m * O.sz ∧
  Cy O w c1 ys G1∧Cy O w c3 zs G3∧F=g::(G1++G3)∧F.Nodup
section
variable {α:Type} {O:Bn α} {t:TypeId} {w:World} {g n cap m:Nat} {ys zs:List α} {F:List Nat}
theorem Gap.start {a:Option Addr} {n:Nat} {xs:List α} (h:Ow O t w (.slice a n cap) xs F) (hn:F.Nodup) (e:xs=ys++zs) (h0:0 < xs.length):∃g,a=some ⟨g,0,none⟩∧n=xs.length∧Gap O t w g n cap ys 0 zs F:=by
 subst e;rcases h with ⟨_,h1,_⟩|⟨g,cap',cs,rest,G,hv,hr,h3,h4,h5,hf,rfl⟩
 ·rw [h1] at h0;simp at h0
 ·cases hv;obtain ⟨c1,c2,G1,G2,rfl,rfl,f1,f2⟩:=hf.split;refine ⟨g,rfl,rfl,c1,[],c2,rest,G1,G2,FI,HG,h3,h4,by simpa using h5,FI,f1,f2,rfl,hn⟩
theorem Gap.skip {x:α} (h:Gap O t w g n cap ys m (x::zs) F):∃F',Gap O t w g n cap ys (m+1) zs F'∧∀b∈F',b∈F:=by
 obtain ⟨c1,jk,c3,rest,G1,G3,hn,hr,h1,h2,h3,h4,f1,⟨c,c4,Fx,G4,rfl,rfl,hx,f3⟩,rfl,hnd⟩:=h;have hl:=O.len hx;refine ⟨g::(G1++G4),⟨c1,jk++c,c4,rest,G1,G4,by simp at hn ⊢;omega,HG,h1,h2,by simp at h3 ⊢;omega,by rw [List.length_append,h4,hl,Nat.add_mul];simp,f1,f3,rfl,?_⟩,by intro b hb;simp at hb ⊢;rcases hb with hb|hb|hb <;> simp [hb]⟩;simp only [List.nodup_cons,List.nodup_append,List.mem_append,not_or] at hnd ⊢;exact ⟨⟨hnd.1.1,hnd.1.2.2⟩,hnd.2.1,hnd.2.2.1.2.1,fun a ha b hb=>hnd.2.2.2 a ha b (.inr hb)⟩
theorem Gap.first {x:α} (h:Gap O t w g n cap ys m (x::zs) F):∃c Fx,O.Kn w c x Fx∧(∀b∈Fx,b∈F)∧∀j,j < O.sz→w.cell? ⟨g,(ys.length+m) * O.sz+j,none⟩=c[j]?:=by
 obtain ⟨c1,jk,c3,rest,G1,G3,hn,hr,h1,h2,h3,h4,f1,⟨c,c4,Fx,G4,rfl,rfl,hx,f3⟩,rfl,hnd⟩:=h;have hl:=O.len hx;refine ⟨c,Fx,hx,fun b hb=>by simp [hb],fun j hj=>?_⟩;have hr':Ii w g t ((c1++jk)++c++(c4++rest)):=HG
 exact hr'.cellMid (by rw [List.length_append,f1.len,h4,Nat.add_mul]) FH
theorem Gap.move {x:α} (hm:0 < m) (h:Gap O t w g n cap ys m (x::zs) F) :
  (∀j,j < O.sz→(∃u,w.cell? ⟨g,ys.length * O.sz+j,none⟩=some u)∧w.frozen? ⟨g,ys.length * O.sz+j,none⟩=false) ∧
  ∃c Fx,O.Kn w c x Fx∧(∀b∈Fx,b∈F)∧(∀j,j < O.sz→w.cell? ⟨g,(ys.length+m) * O.sz+j,none⟩=c[j]?)∧∀w',Below w.heap.size w w'→∃F',Gap O t (Oo w' g (ys.length * O.sz) c) g n cap (ys++[x]) m zs F'∧∀b∈F',b∈F:=by
 obtain ⟨c,Fx,hx0,hxF,hcell⟩:=h.first
 obtain ⟨c1,jk,c3,rest,G1,G3,hn,hr,h1,h2,h3,h4,f1,⟨c',c4,Fx',G4,rfl,rfl,hx,f3⟩,rfl,hnd⟩:=h;have hl:=O.len hx;have hl0:=O.len hx0;obtain ⟨m',rfl⟩:∃m',m=m'+1:=⟨m - 1,FH⟩;have hjk:jk=jk.take O.sz++jk.drop O.sz:=FI
 have hjl:(jk.take O.sz).length=O.sz:=by rw [List.length_take,h4,Nat.add_mul];omega
 have hA:=f1.len;have hr':Ii w g t (c1++jk.take O.sz++(jk.drop O.sz++c'++c4++rest)):=by
  have e:c1++jk.take O.sz++(jk.drop O.sz++c'++c4++rest)=c1++jk++(c'++c4)++rest:=by
   simp only [List.append_assoc];rw [←List.append_assoc (jk.take O.sz),List.take_append_drop]
  rw [e];exact hr
 have hcc:c=c':=by
  apply List.ext_getElem? ;intro j;by_cases hj:j < O.sz
  ·have hr2:Ii w g t ((c1++jk)++c'++(c4++rest)):=HG
   rw [←hcell j hj,hr2.cellMid (by rw [List.length_append,hA,h4,←Nat.add_mul]) FH]
  ·rw [List.getElem?_eq_none FH,List.getElem?_eq_none FH]
 refine ⟨fun j hj=>⟨⟨_,by rw [hr'.cellMid (j:=j) FH FH,List.getElem?_eq_getElem FH]⟩,hr'.frozen _⟩,c,Fx',hcc▸hx,fun b hb=>by simp [hb],hcell,fun w' hb=>?_⟩;subst hcc;have hgl:=hr.lt;have hnd':=hnd;simp only [List.nodup_cons,List.nodup_append,List.mem_append,not_or] at hnd';have hrow:=(hr'.below hb).put c (jk.take O.sz) (p:=ys.length * O.sz) hA.symm FH;have hfr:∀b,b < w.heap.size→b≠g→(Oo w' g (ys.length * O.sz) c).heap[b]?=w.heap[b]?:=fun b hb1 hb2=>(Oq c w' _ b hb2).trans (hb.block b hb1);have n1:∀b∈G1,b≠g:=fun b hb e=>hnd'.1.1 (e▸hb)
 have n2:∀b∈Fx',b≠g:=fun b hb e=>hnd'.1.2.1 (e▸hb);have n3:∀b∈G4,b≠g:=fun b hb e=>hnd'.1.2.2 (e▸hb);refine ⟨g::((G1++Fx')++G4),⟨c1++c,jk.drop O.sz++c,c4,rest,G1++Fx',G4,by simp at hn ⊢;omega,?_,h1,h2,?_,?_,?_,f3.frame fun b hb=>hfr b (f3.lt b hb) (n3 b hb),rfl,?_⟩,by intro b hb;simpa [or_assoc] using hb⟩
 ·simpa using hrow
 ·simp [h4,Nat.add_mul] at h3 ⊢;omega
 ·simp [h4,Nat.add_mul];omega
 ·exact (f1.frame fun b hb=>hfr b (f1.lt b hb) (n1 b hb)).append (Cy.one (O.frame hx fun b hb=>hfr b (O.lt hx b hb) (n2 b hb)))
 ·simpa using hnd
theorem Gap.below {w':World} (h:Gap O t w g n cap ys m zs F) (hb:Below w.heap.size w w'):Gap O t w' g n cap ys m zs F:=by
 obtain ⟨c1,jk,c3,rest,G1,G3,hn,hr,h1,h2,h3,h4,f1,f3,hF,hnd⟩:=h;exact ⟨c1,jk,c3,rest,G1,G3,hn,hr.below hb,h1,h2,h3,h4,f1.frame fun b h=>hb.block b (f1.lt b h),f3.frame fun b h=>hb.block b (f3.lt b h),hF,hnd⟩
theorem Gap.caps (h:Gap O t w g n cap ys m zs F):n=ys.length+m+zs.length∧n≤cap∧cap≤maxLen∧g < w.heap.size∧g∈F∧F.Nodup:=by
 obtain ⟨c1,jk,c3,rest,G1,G3,hn,hr,h1,h2,h3,h4,f1,f3,rfl,hnd⟩:=h;exact ⟨hn,h1,h2,hr.lt,FI,hnd⟩
theorem Gap.done {z:Array Value} (hz:z.size=O.sz) (h:Gap O t w g n cap ys m [] F) :
  (∀j,j < m * O.sz→(w.cell? ⟨g,ys.length * O.sz+j,none⟩).isSome=true∧w.frozen? ⟨g,ys.length * O.sz+j,none⟩=false) ∧
  ∃F',Ow O t (w.setCells g (ys.length * O.sz) (Builtin.zeroCells z m).toList) (.slice (some ⟨g,0,none⟩) ys.length cap) ys F'∧F'.Nodup∧∀b∈F',b∈F:=by
 obtain ⟨c1,jk,c3,rest,G1,G3,hn,hr,h1,h2,h3,h4,f1,⟨rfl,rfl⟩,rfl,hnd⟩:=h;have hA:=f1.len;simp only [List.append_nil] at hr hnd;have hr':Ii w g t (c1++jk++rest):=hr;refine ⟨fun j hj=>⟨?_,hr'.frozen _⟩,g::G1,?_,hnd,FI⟩
 ·rw [hr'.cellMid (j:=j) FH FH,List.getElem?_eq_getElem FH];rfl
 ·rw [←M8 w];have hrow:=hr'.put (Builtin.zeroCells z m).toList jk (p:=ys.length * O.sz) hA.symm (by rw [Nx,h4,hz]);have hng:g ∉ G1:=by simp at hnd;exact hnd.1
  refine .inr ⟨g,cap,c1,(Builtin.zeroCells z m).toList++rest,G1,rfl,by simpa using hrow,by simp at hn;omega,h2,?_,f1.frame fun b hb=>Oq _ _ _ _ fun e=>hng (e▸hb),rfl⟩;rw [List.length_append,Nx,hz,←h4];simp at h3;omega
end
theorem Sq (fid:FuncId) (hbd:Zu prog fid) (caps:Array Value) (v:Value) (xs:List Gj) (F:List Nat) (p:Gj→Bool) (w:World) (h:Sl Ds w v xs F)
  (hp:∀(k:Nat) (hk:k < xs.length) (wr:World) (u:Value) (G:List Nat),Below w.heap.size w wr→Jz Ds wr u xs[k] G→Calls prog fid (#[u]++caps) wr fun e w'=>e=.returned (.bool (p xs[k]))∧Below wr.heap.size wr w') :
  Calls prog 308 #[v,.func (.func fid) #[] caps] w (RB (.int .i64 (Ss p xs)) w):=by
 obtain ⟨a,cap,rfl⟩:=h.slice;have hl:=h.len;unfold maxLen at hl
 go_enter func308,ntmps308
 go_wp2
 go_loopw [5,8] (fun _ i wr=>∃k:Nat,k≤xs.length∧i=.int .i64 k∧Hid (∀j,j < k→∀hj:j < xs.length,p xs[j]=false)∧Below w.heap.size w wr) (fun _ i _=>xs.length - (intOf i).toNat)
 case atStart=>exact ⟨0,Nat.zero_le _,rfl,fun j hj=>by omega,Below.refl _ _⟩
 case round =>
  obtain ⟨k,hk,rfl,hz,hB⟩:=hrel;by_cases hlt:k < xs.length
  ·have hz0:=hz;clear hz;obtain ⟨b,off,_,F1,rfl,hx, -,ja⟩:=(h.below FK hB).at k hlt;obtain ⟨v1,rfl,h1⟩:=id hx;have a0:=ja 0 FK;have a1:=ja 1 FK;have a2:=ja 2 FK;simp only [show Ds.sz=3 from rfl,Nat.mul_one,Nat.add_zero,List.getElem?_cons_zero,List.getElem?_cons_succ] at a0 a1 a2;clear ja;have hr:=hp k hlt wr _ F1 hB ⟨_,rfl,hx⟩;have hp:=Lib.hid hp;cases hpk:p xs[k]
   all_goals
    rw [hpk] at hr;have hpk:=Lib.hid hpk;have hr:=Lib.hid hr;go_wp2_with fail;refine hbd.upon hr.out ?_;rintro e w1 ⟨rfl,hb1⟩;refine ⟨_,rfl,?_⟩;have hB:=tr hB hb1 (Nat.le_refl _);clear hb1;go_wp2_with fail
   ·exact AL
   ·go_ret
    exact EV
  ·go_wp2
   go_ret
   exact DG
theorem Aao (fid:FuncId) (hbd:Zu prog fid) (caps:Array Value) (v:Value) (xs:List Gj) (F:List Nat) (p:Gj→Bool) (w:World) (h:Sl Ds w v xs F)
  (hp:∀(k:Nat) (hk:k < xs.length) (wr:World) (u:Value) (G:List Nat),Below w.heap.size w wr→Jz Ds wr u xs[k] G→Calls prog fid (#[u]++caps) wr fun e w'=>e=.returned (.bool (p xs[k]))∧Below wr.heap.size wr w') :
  Calls prog 252 #[v,.func (.func fid) #[] caps] w (RB (.bool (xs.any p)) w):=by
 have hp:=Lib.hid hp
 go_enter func252,ntmps252
 go_wp2_with fail;refine (Sq fid hbd caps v xs F p _ h hp.out).mono ?_;rintro e w1 ⟨rfl,hb1⟩;go_wp2_with fail
 go_ret
 exact ⟨Ci (T9 p xs),hb1⟩
theorem Aoh (v:Value) (xs:List Gj) (F:List Nat) (w:World) (h:Sl Ds w v xs F) (hm:xs.length≤4294967296) :
  Calls prog 187 #[v] w fun e w'=>∃v' F',e=.returned v'∧Ow Ds 253 w' v' xs F'∧Hd F'∧(∀b,v'.ownBlock=some b→w.heap.size≤b)∧(∀b∈F',v'.ownBlock=some b∨b∈F)∧Below w.heap.size w w':=by
 obtain ⟨ao,c,news,Fy,rfl,hl,hfy,hFy,hsrc⟩:=h.src;have hFl:=hfy.lt;have he:=fun w (a:Option Addr) (n c:Nat)=>Lib.run_eql_slice_nil (P:=prog) w 147 _ a n c 0 0 underlying147
 go_enter func187,ntmps187
 rcases hsrc with ⟨rfl,rfl,rfl⟩|⟨ad,rfl,hn⟩
 ·go_wp2
  go_ret
  exact ⟨.slice none 0 0,[],rfl,.inl ⟨rfl,rfl,rfl⟩,Hd.nil,(fun b e=>by simp [Value.ownBlock] at e),FI,Below.refl _ _⟩
 ·go_wp2_with (at_builtin;refine Py Aif FK GE _ _ _ GE 253 (.agg #[.int .i64 0,.slice none 0 0,.int .i64 0]) 40 underlying147 Aa4 rfl (.slice (some ⟨w.heap.size,0,none⟩) 0 0) [] [w.heap.size] GE (Ow.empty (Ii.made _ _ _)) (Hd.one _) (some ad) xs c GE news Fy (hfy.frame fun b hb=>Below.heap_alloc _ _ _ (hFl b hb)) (.inr ⟨ad,rfl,fun j u hu=>kc ((Below.refl _ _).alloc (Nat.le_refl _) _) (hn j u hu)⟩) (fun b hb e=>by have:=hFl b hb;simp [Value.ownBlock] at e;omega) HQ HM ?_);intro v2 w2 F2 hA;go_wp2_with fail
  go_ret
  have hB:Below w.heap.size w w2:=((Below.refl _ _).alloc (Nat.le_refl _) _).trans (hA.I7.below FI FI);have hs:∀b,v2.ownBlock=some b→w.heap.size≤b:=fun b hb=>by rcases hA.Ato with e|e <;> rw [e] at hb <;> simp [Value.ownBlock] at hb <;> omega
  refine ⟨v2,F2,rfl,JJ,hA.hd,hs,fun b hb=>?_,hB⟩;rw [hA.Bkd [] (by simp [Value.ownBlock])] at hb;simp at hb;rcases hb with hb|hb
  ·exact .inl hb
  ·exact .inr (hFy b hb)
theorem Add (fid:FuncId) (hbd:Zu prog fid) (caps:Array Value) (v:Value) (xs:List Gj) (F:List Nat) (p:Gj→Bool) (w:World) (h:Ow Dz 253 w v xs F) (hn:F.Nodup)
  (hp:∀(k:Nat) (hk:k < xs.length) (wr:World) (u:Value) (G:List Nat),Dr F w wr→Jz Ds wr u xs[k] G→Calls prog fid (#[u]++caps) wr fun e w'=>e=.returned (.bool (p xs[k]))∧Below wr.heap.size wr w') :
  Calls prog 323 #[v,.func (.func fid) #[] caps] w fun e w'=>∃v' F',e=.returned v'∧Ow Dz 253 w' v' (xs.filter fun x=>!p x) F'∧F'.Nodup∧(∀b∈F',b∈F)∧Dr F w w':=by
 obtain ⟨F1,hF1,hs⟩:=h.sl Rn;obtain ⟨a,cap,rfl⟩:=h.slice;have hl:=h.len;unfold maxLen at hl;have hp:=Lib.hid hp
 go_enter func323,ntmps323
 go_wp2_with fail;refine (Sq fid hbd caps _ xs F1 p _ hs (fun k hk wr u G hb hu=>hp.out k hk wr u G (Dr.ofBelow hb) hu)).mono ?_;rintro e w1 ⟨rfl,hb1⟩;have hK1:=Dr.ofBelow (F:=F) hb1;by_cases hany:xs.any p=true
 ·obtain ⟨k0,hk0,hfx,hpk,hfl⟩:=Zf hany;rw [hfx];obtain ⟨g,rfl, -,hg0⟩:=Gap.start (h.below hb1) hn (ys:=xs.take k0) (zs:=xs[k0]::xs.drop (k0+1)) FI FH;obtain ⟨F0,hg0,hF0⟩:=hg0.skip;have hG0:=Lib.hid hg0;clear hg0;have hk1:((k0:Int) == -1)=false:=FI
  go_wp2_with fail
  go_loopw [5,6,7] (fun i j _ wr=>∃(q m:Nat) (F1:List Nat),q≤xs.length∧0 < m∧((xs.take q).filter fun x=>!p x).length+m=q∧i=.int .i64 ((xs.take q).filter fun x=>!p x).length∧j=.int .i64 q∧Hid (Gap Dz 253 wr g xs.length cap ((xs.take q).filter fun x=>!p x) m (xs.drop q) F1)∧(∀b∈F1,b∈F)∧Dr F w wr) (fun _ j _ _=>xs.length - (intOf j).toNat)
  case atStart=>exact ⟨k0+1,1,F0,hk0,FH,IB,IB,HL,by rw [C6 hk0 KZ,hfl];exact hG0,hF0,hK1⟩
  case round =>
   obtain ⟨q,m,F1,hq,hm,hlen,rfl,rfl,hG,hF1,hK⟩:=hrel;obtain ⟨-,hcap, -⟩:=hG.out.caps;generalize hys:((xs.take q).filter fun x=>!p x)=ys at *;by_cases hlt:q < xs.length
   ·rw [List.drop_eq_getElem_cons hlt] at hG;obtain ⟨c,Fx,hx,hFx,hcell⟩:=hG.out.first
    obtain ⟨Fx2, -,hxe⟩:=Rn.Kn hx;obtain ⟨v1,rfl,h1⟩:=id hx;obtain ⟨d1,p1,rfl⟩:=h1.slice;have a0:=hcell 0 FK;have a1:=hcell 1 FK;have a2:=hcell 2 FK;simp only [hlen,show Dz.sz=3 from rfl,Nat.mul_one,Nat.add_zero,List.getElem?_cons_zero,List.getElem?_cons_succ] at a0 a1 a2;have hr:=fun A=>hp.out q hlt (wr.alloc A) _ Fx2 (hK.alloc A) ⟨_,rfl,Ds.below hxe ((Below.refl wr.heap.size wr).alloc (Nat.le_refl _) A)⟩;cases hpq:p xs[q]
    ·obtain ⟨st,c2,Fx3,hx3, -,hcell2,back⟩:=hG.out.move hm;simp only [hpq] at hr;obtain rfl:=Aiy (Dz.len hx) (Dz.len hx3) hcell hcell2;have st:=st;obtain ⟨⟨x0,z0⟩,g0⟩:=st 0 FK;obtain ⟨⟨x1,z1⟩,g1⟩:=st 1 FK;obtain ⟨⟨x2,z2⟩,g2⟩:=st 2 FK;simp only [show Dz.sz=3 from rfl,Nat.mul_one,Nat.add_zero] at z0 g0 z1 g1 z2 g2;have hr:=Lib.hid hr;have hbk:=Lib.hid back;have hpq:=Lib.hid hpq;have hys:=Lib.hid hys;have hlen:=Lib.hid hlen;have hyl:ys.length < xs.length:=by have:=hlen.out;omega
     clear hx hxe hcell hcell2 hx3 back st hfx hpk hfl;go_wp2_with fail;refine hbd.upon (hr.out _) ?_;rintro e w2 ⟨rfl,hb2⟩;refine ⟨_,rfl,?_⟩;have b2:=(Ii.below (g:=wr.heap.size) (t:=253) (cs:=[.int .i64 xs[q].Ae,.slice d1 xs[q].Bj.length p1,.int .i64 xs[q].Ce]) (by simp [Jk]) hb2).cells;have hbb:=tr ((Below.refl wr.heap.size wr).alloc (Nat.le_refl _) _) hb2 (Nat.le_refl _);clear hb2;have g0:=(kf hbb z0).trans g0;have z0:=kc hbb z0;have g1:=(kf hbb z1).trans g1;have z1:=kc hbb z1;have g2:=(kf hbb z2).trans g2;have z2:=kc hbb z2;obtain ⟨F2,hg2,hF2⟩:=hbk.out w2 hbb
     simp only [Oo,show Dz.sz=3 from rfl,Nat.mul_one] at hg2;have hg2:=Lib.hid hg2;have hgF:g∈F:=hF1 g hG.out.caps.2.2.2.2.1;go_wp2_with fail;exact ⟨⟨q+1,m,F2,FH,hm,LD,LE,HL,by rw [Hk hlt JQ,hys.out];exact hg2.out,fun b hb=>hF1 b (hF2 b hb),KW⟩,GO⟩
    ·obtain ⟨F2,hg2,hF2⟩:=hG.out.skip;simp only [hpq] at hr;have hr:=Lib.hid hr;have hg2:=Lib.hid hg2;have hpq:=Lib.hid hpq;have hys:=Lib.hid hys;have hlen:=Lib.hid hlen;clear hx hxe hcell hfx hpk hfl;go_wp2_with fail;refine hbd.upon (hr.out _) ?_;rintro e w2 ⟨rfl,hb2⟩;refine ⟨_,rfl,?_⟩;have hbb:=tr ((Below.refl wr.heap.size wr).alloc (Nat.le_refl _) _) hb2 (Nat.le_refl _);clear hb2;go_wp2_with fail
     exact BL
   ·have hqe:q=xs.length:=FH
    subst hqe;simp only [List.drop_length,List.take_length] at hG hys;obtain ⟨hc,F2,ho2,hn2,hF2⟩:=hG.out.done (z:=#[.int .i64 0,.slice none 0 0,.int .i64 0]) rfl;have hmm:xs.length - ys.length=m:=FH
    have hcl:=fun ty=>Ul (P:=prog) wr 147 253 ty (.agg #[.int .i64 0,.slice none 0 0,.int .i64 0]) underlying147 (Xo Aa4) (by simp [Value.cells,Value.oneCell']) g (ys.length * 3) m (cap - ys.length) hm (fun j hj=>(hc j hj).1) (fun j hj=>(hc j hj).2);have hyl:ys.length < xs.length:=FH
    have hgF:g∈F:=hF1 g hG.out.caps.2.2.2.2.1;have hO:=Lib.hid ho2;have hlen:=Lib.hid hlen;have hys:=Lib.hid hys;clear ho2 hc hfx hpk hfl;go_wp2_with fail
    go_ret
    exact DA
 ·obtain ⟨hfx,hfl⟩:=Ab4 hany;rw [hfx];go_wp2_with fail
  go_ret
  exact ⟨_,F,rfl,by rw [hfl];exact h.below hb1,hn,fun b hb=>hb,hK1⟩
theorem Jz.I7 {α:Type} {E:Bn α} {w w':World} {v x F K} (h:Jz E w v x F) (hk:Dr K w w') (hd:∀b∈F,b ∉ K):Jz E w' v x F:=by
 obtain ⟨cs,hv,h⟩:=h;exact ⟨cs,hv,E.frame h fun b hb=>hk.block b (E.lt h b hb) (hd b hb)⟩
theorem Jz.lt {α:Type} {E:Bn α} {w:World} {v x F} (h:Jz E w v x F):∀b∈F,b < w.heap.size:=by
 obtain ⟨cs,hv,h⟩:=h;exact E.lt h
theorem Jz.drewN {α:Type} {E:Bn α} {w:World} {v x F} (h:Jz E w v x F) (n:Nat):Jz E (w.drewN n) v x F:=by
 obtain ⟨cs,hv,h⟩:=h;exact ⟨cs,hv,E.frame h fun _ _=>rfl⟩
theorem Sl.drewN {α:Type} {E:Bn α} {w:World} {v} {xs:List α} {F} (h:Sl E w v xs F) (n:Nat):Sl E (w.drewN n) v xs F:=h.frame fun _ _=>rfl
theorem Sl.I7 {α:Type} {E:Bn α} {w w':World} {v} {xs:List α} {F K} (h:Sl E w v xs F) (hk:Dr K w w') (hd:∀b∈F,b ∉ K) (hz:0 < E.sz:=by decide):Sl E w' v xs F :=
 h.frame fun b hb=>hk.block b (h.lt hz b hb) (hd b hb)
theorem Ow.drewN {α:Type} {E:Bn α} {t:TypeId} {w:World} {v} {xs:List α} {F} (h:Ow E t w v xs F) (n:Nat):Ow E t (w.drewN n) v xs F:=h.frame fun _ _=>rfl
theorem Ii.drewN {w g t cs} (h:Ii w g t cs) (n:Nat):Ii (w.drewN n) g t cs:=h
section
variable {P:Program} {ops:Array Oper} {Q:Exit→Act→World→Prop} {md:Region.Mode} {S:World→Prop} {X:Nat→Bool}
def E9 (P:Program) (md:Region.Mode) (ops:Array Oper) (Q:Exit→Act→World→Prop) (S:World→Prop) (X:Nat→Bool):Nat→Array Bool→Act→World→Prop
 | 0,listed,a,w=>Region.ready md ops listed=[]∧Q .normal a w
 | f+1,listed,a,w=>(Region.ready md ops listed=[]→Q .normal a w) ∧
  ∀i∈Region.ready md ops listed,wpOp P ops Q i (fun a' w'=>(X i=false→S w')∧E9 P md ops Q S X f (listed.setIfInBounds i true) a' w') a w
theorem E9.any:∀(f:Nat) (listed:Array Bool) (a:Act) (w:World),E9 P md ops Q S X f listed a w→wpAny P md ops Q f listed a w
 | 0,_,_,_,h=>h
 | f+1,_,_,_,h=>⟨h.1,fun i hi=>wpOp_mono (fun a' w' h'=>E9.any f _ a' w' h'.2) (h.2 i hi)⟩
def Aan (md:Region.Mode) (ops:Array Oper) (listed:Array Bool):Prop:=∀j oj,ops[j]?=some oj→listed.getD j false=true→∀e∈oj.after,Region.binds md e=true→listed.getD e.on false=true
def Ng (md:Region.Mode) (ops:Array Oper) (listed:Array Bool):Bool :=
 (List.range ops.size).all fun j=>!listed.getD j false || ((ops[j]?).map fun o=>o.after.all fun e=>!Region.binds md e || listed.getD e.on false).getD true
theorem Akt {listed:Array Bool} (h:Ng md ops listed=true):Aan md ops listed:=fun j oj hj hl e he hb=>by
 have h1:=List.all_eq_true.1 h j (List.mem_range.2 (Array.getElem?_eq_some_iff.1 hj).1);rw [hl,hj] at h1;simp only [Bool.not_true,Bool.false_or,Option.map_some,Option.getD_some] at h1;have h2:=Array.all_eq_true'.1 h1 e he;rw [hb] at h2;simpa using h2
theorem Aan.set {listed:Array Bool} {i:Nat} (h:Aan md ops listed) (hi:i∈Region.ready md ops listed):Aan md ops (listed.setIfInBounds i true):=fun j oj hj hl e he hb=>by
 obtain ⟨_,oi,hoi,hall⟩:=mem_ready.1 hi;by_cases hij:i=j
 ·subst hij;obtain rfl:=Option.some.inj (hj.symm.trans hoi);exact getD_set_true (hall e he hb)
 ·rw [getD_set_ne false hij] at hl;exact getD_set_true (h j oj hj hl e he hb)
def T5 (md:Region.Mode) (ops:Array Oper) (i:Nat):Nat→Nat→Bool
 | 0,_=>false
 | f+1,j=>((ops[j]?).map fun o=>o.after.any fun e=>Region.binds md e && (e.on == i || T5 md ops i f e.on)).getD false
theorem Xl {listed:Array Bool} {i:Nat} (hc:Aan md ops listed):∀(f j:Nat),(∀oj,ops[j]?=some oj→∀e∈oj.after,Region.binds md e=true→listed.getD e.on false=true)→T5 md ops i f j=true→listed.getD i false=true
 | 0,_,_,h=>by cases h
 | f+1,j,hd,h=>by
  unfold T5 at h;cases hj:ops[j]? with
  | none=>rw [hj] at h;cases h
  | some o =>
   rw [hj] at h;simp only [Option.map_some,Option.getD_some] at h;obtain ⟨e,he,hb⟩:=Array.any_eq_true'.1 h;simp only [Bool.and_eq_true,Bool.or_eq_true,beq_iff_eq] at hb;have h1:=hd o hj e he hb.1;rcases hb.2 with h2|h2
   ·rw [←h2];exact h1
   ·exact Xl hc f e.on (fun oe ho=>hc e.on oe ho h1) h2
def Mg (md:Region.Mode) (ops:Array Oper) (X:Nat→Bool) (i:Nat):Bool:=(List.range ops.size).all fun j=>!X j || T5 md ops i ops.size j
theorem Y6 {listed:Array Bool} {i:Nat} (h:listed.getD i true=false):listed.getD i false=false:=by
 rcases Nat.lt_or_ge i listed.size with h'|h'
 ·simp [h'] at h ⊢;exact h
 ·simp [Array.getElem?_eq_none h'] at h
theorem E9.first {i:Nat} {oi:Oper} {v:Value} (hi:ops[i]?=some oi) (hsel:∀(j:Nat) (o:Oper) cs b,ops[j]?=some o→o.op≠.select cs b)
  (hQ:∀c a w,Q (.panic c) (a.put oi.dst v) w→Q (.panic c) a w) (hX:Mg md ops X i=true) :
  ∀(f:Nat) (listed:Array Bool) (a:Act) (w:World),
   (∀j oj,ops[j]?=some oj→j≠i→listed.getD j true=false→(∀e∈oj.after,Region.binds md e=true→e.on≠i)→oi.apart ops oj=true) →
   Aan md ops listed→i∈Region.ready md ops listed→YieldsIf P ops S oi v a→S w→E9 P md ops Q S X f (listed.setIfInBounds i true) (a.put oi.dst v) w→E9 P md ops Q S X (f+1) listed a w:=by
 intro f
 induction f with
 | zero =>
  intro listed a w _ _ hr hy hS H;refine ⟨fun h=>IJ,fun j hj=>?_⟩;by_cases hji:j=i
  ·exact ET
  ·have:=ready_mono hj hji;rw [H.1] at this;cases this
 | succ f ih =>
  intro listed a w hfree hcl hr hy hS H;refine ⟨fun h=>IJ,fun j hj=>?_⟩;by_cases hji:j=i
  ·exact ET
  ·obtain ⟨hju,oj,hoj,hall⟩:=mem_ready.1 hj;have hiu:=Y6 (mem_ready.1 hr).1;have hnot:∀e∈oj.after,Region.binds md e=true→e.on≠i:=fun e he hb heq=>by
    have h1:=hall e he hb;rw [heq,hiu] at h1;cases h1
   have hXj:X j=false:=by
    cases hx:X j
    ·rfl
    ·have h1:=List.all_eq_true.1 hX j (List.mem_range.2 (Array.getElem?_eq_some_iff.1 hoj).1);rw [hx] at h1;have h2:=Xl hcl ops.size j (fun o ho=>by obtain rfl:=Option.some.inj (ho.symm.trans hoj);exact hall) IS;rw [hiu] at h2;cases h2
   have h2:=wpOp_putIf hoj (hfree j oj hoj hji hju hnot) (fun cs b=>hsel i oi cs b hi) (fun cs b=>hsel j oj cs b hoj) hQ hy (H.2 j (ready_mono hj hji));refine wpOp_mono (fun a' w' h3=>⟨fun _=>h3.2.1 hXj,ih (listed.setIfInBounds j true) a' w' (fun k ok hk hki hun hno=>hfree k ok hk hki ?_ hno) (hcl.set hj) (ready_mono hr (Ne.symm hji)) h3.1 (h3.2.1 hXj) ?_⟩) h2
   ·by_cases hjk:j=k
    ·subst hjk;exact hju
    ·rw [getD_set_ne true hjk] at hun;exact hun
   ·rw [Array.setIfInBounds_comm _ _ hji];exact h3.2.2
theorem E9.take {i:Nat} {oi:Oper} {v:Value} {f:Nat} {listed:Array Bool} {a:Act} {w:World} (hi:ops[i]?=some oi)
  (hs:Region.noSelect ops=true) (hf:Region.free md ops listed i=true) (hr:(Region.ready md ops listed).contains i=true) (hX:Mg md ops X i=true) (hc:Ng md ops listed=true)
  (hQ:∀c a w,Q (.panic c) (a.put oi.dst v) w→Q (.panic c) a w) (hy:YieldsIf P ops S oi v a) (hS:S w)
  (h:E9 P md ops Q S X f (listed.setIfInBounds i true) (a.put oi.dst v) w):E9 P md ops Q S X (f+1) listed a w :=
 E9.first hi (Region.noSelect_spec hs) hQ hX f listed a w (Region.free_spec hi hf) (Akt hc) HG hy hS h
theorem E9.only {i:Nat} {o:Oper} {f:Nat} {listed:Array Bool} {a:Act} {w:World} (hr:Region.ready md ops listed=[i]) (ho:ops[i]?=some o)
  (h:∀K':Act→World→Prop,Shut (∀a w,(X i=false→S w)→E9 P md ops Q S X f (listed.setIfInBounds i true) a w→K' a w)→if Region.wanted o (yielded ops a.tmps)=true then Oper.wp P o a w K' Q else K' (a.put o.dst undef) w) :
  E9 P md ops Q S X (f+1) listed a w :=
 by
 refine ⟨fun h0=>(by rw [hr] at h0;cases h0),fun j hj=>?_⟩;rw [hr] at hj;obtain rfl:j=i:=IR
 exact wpOp_step ho (fun K' hK=>h K' (fun a w hS hW=>hK a w ⟨hS,hW⟩))
theorem E9.two {i j:Nat} {oi oj:Oper} {f:Nat} {listed:Array Bool} {a:Act} {w:World} (hr:Region.ready md ops listed=[i,j]) (hoi:ops[i]?=some oi) (hoj:ops[j]?=some oj)
  (h:∀K':Act→World→Prop,Shut (∀a w,(X i=false→S w)→E9 P md ops Q S X f (listed.setIfInBounds i true) a w→K' a w)→if Region.wanted oi (yielded ops a.tmps)=true then Oper.wp P oi a w K' Q else K' (a.put oi.dst undef) w)
  (h2:∀K':Act→World→Prop,Shut (∀a w,(X j=false→S w)→E9 P md ops Q S X f (listed.setIfInBounds j true) a w→K' a w)→if Region.wanted oj (yielded ops a.tmps)=true then Oper.wp P oj a w K' Q else K' (a.put oj.dst undef) w) :
  E9 P md ops Q S X (f+1) listed a w:=by
 refine ⟨fun h0=>(by rw [hr] at h0;cases h0),fun k hk=>?_⟩;rw [hr] at hk;simp only [List.mem_cons,List.not_mem_nil,or_false] at hk;rcases hk with rfl|rfl
 ·exact wpOp_step hoi (fun K' hK=>h K' (fun a w hS hW=>hK a w ⟨hS,hW⟩))
 ·exact wpOp_step hoj (fun K' hK=>h2 K' (fun a w hS hW=>hK a w ⟨hS,hW⟩))
theorem E9.done {listed:Array Bool} {a:Act} {w:World} (hr:Region.ready md ops listed=[]) (h:Q .normal a w):∀f,E9 P md ops Q S X f listed a w
 | 0=>⟨hr,h⟩
 | _+1=>⟨fun _=>h,by rw [hr];simp⟩
theorem E9.start {id:Nat} {a:Act} {w:World} (hm:P.follows .mixedOrders=true) (h:E9 P .any ops Q S X ops.size (Array.replicate ops.size false) a w.drew):(Code.region id ops true).wp P Q a w :=
 wp_region_any hm (E9.any _ _ _ _ h)
end
theorem Uq {a b:List Value} (h:Value.agg a.toArray=.agg b.toArray):a=b:=by simpa using h
inductive Pc:Type 1
 | row (g:Nat) (t:TypeId) (o:Nat) (A cs B:List Value)
 | sl {α:Type} (E:Bn α) (v:Value) (xs:List α) (F:List Nat)
 | ow {α:Type} (E:Bn α) (t:TypeId) (v:Value) (xs:List α) (F:List Nat)
 | isv {α:Type} (E:Bn α) (v:Value) (x:α) (F:List Nat)
 | own {α:Type} (E:Bn α) (v:Value) (x:α) (F:List Nat)
 | cel (b o:Nat) (cs:List Value)
 | flat {α:Type} (E:Bn α) (cs:List Value) (xs:List α) (F:List Nat)
def Pc.P:Pc→World→Prop
 | .row g t o A cs B,w=>A.length=o∧Ii w g t (A++cs++B)
 | .sl E v xs F,w=>0 < E.sz∧Sl E w v xs F
 | .ow E t v xs F,w=>F.Nodup∧Ow E t w v xs F
 | .isv E v x F,w=>Jz E w v x F
 | .own E v x F,w=>F.Nodup∧Jz E w v x F
 | .cel b o cs,w=>cs≠[]∧w.rangeAt b o cs
 | .flat E cs xs F,w=>F.Nodup∧Cy E w cs xs F
def Pc.F:Pc→List Nat
 | .row g ..=>[g]
 | .sl _ _ _ F|.ow _ _ _ _ F|.isv _ _ _ F|.own _ _ _ F|.flat _ _ _ F=>F
 | .cel b ..=>[b]
def Pc.mu:Pc→Bool
 | .row .. | .ow .. | .own .. | .flat ..=>true
 | _=>false
theorem Pc.st (p:Pc) {w w':World} (h:p.P w) (hF:∀b∈p.F,w'.heap[b]?=w.heap[b]?):p.P w':=by
 cases p with
 | row g t o A cs B=>exact ⟨h.1,h.2.I7 (hF g KV)⟩
 | sl E v xs F=>exact ⟨h.1,h.2.frame hF⟩
 | ow E t v xs F=>exact ⟨h.1,h.2.frame hF⟩
 | isv E v x F=>obtain ⟨cs,hv,h⟩:=h;exact ⟨cs,hv,E.frame h hF⟩
 | own E v x F=>obtain ⟨hn,cs,hv,h⟩:=h;exact ⟨hn,cs,hv,E.frame h hF⟩
 | cel b o cs=>exact ⟨h.1,fun j v hv=>(World.cell?_of_block (w:=w) (hF b KV)).trans (h.2 j v hv)⟩
 | flat E cs xs F=>exact ⟨h.1,h.2.frame hF⟩
theorem Pc.lt (p:Pc) {w:World} (h:p.P w):∀b∈p.F,b < w.heap.size:=by
 cases p with
 | row g t o A cs B=>intro b hb;simp [Pc.F] at hb;subst hb;exact h.2.lt
 | sl E v xs F=>exact h.2.lt h.1
 | ow E t v xs F=>exact h.2.lt
 | isv E v x F=>obtain ⟨cs,hv,h⟩:=h;exact E.lt h
 | own E v x F=>obtain ⟨_,cs,hv,h⟩:=h;exact E.lt h
 | cel b o cs =>
  intro c hc;simp [Pc.F] at hc;subst hc;cases cs with
  | nil=>exact absurd rfl h.1
  | cons v r=>exact World.block_lt_of_cell? w _ (h.2 0 v rfl)
 | flat E cs xs F=>exact h.2.lt
def Aew (p q:Pc):Prop:=(p.mu || q.mu)=true→∀b∈p.F,b ∉ q.F
theorem Aew.symm {p q:Pc} (h:Aew p q):Aew q p:=fun hm b hb hp=>h (by rw [Bool.or_comm];exact hm) b hp hb
def S9:List Pc→Prop
 | []=>True
 | p::R=>(∀q∈R,Aew p q)∧S9 R
def Od (H:List Pc) (w:World):Prop:=∀p∈H,p.P w
theorem El {p:Pc} {w:World} (h:p.P w):Od [p] w:=fun q hq=>by simp at hq;subst hq;exact h
def fp:List Pc→List Nat
 | []=>[]
 | p::R=>p.F++fp R
theorem Qp {b:Nat}:∀{H:List Pc},b∈fp H↔∃p∈H,b∈p.F
 | []=>by simp [fp]
 | p::R=>by simp [fp,Qp (H:=R)]
theorem Od.st {H:List Pc} {w w':World} (h:Od H w) (hF:∀p∈H,∀b∈p.F,w'.heap[b]?=w.heap[b]?):Od H w':=fun p hp=>p.st (h p hp) (hF p hp)
theorem Od.below {H:List Pc} {w w':World} (h:Od H w) (hb:Below w.heap.size w w'):Od H w':=h.st fun p hp b hm=>hb.block b (p.lt (h p hp) b hm)
structure St (G D:List Nat) (w0:World) (H:List Pc) (w:World):Prop where
 I7:Dr G w0 w
 on:Od H w
 sep:S9 H
 Ad9:∀p∈H,∀b∈p.F,b∈G∨w0.heap.size≤b∨(p.mu=false∧b∈D)
section
variable {G D:List Nat} {w0:World}
theorem S9.perm2 {p q:Pc} {R:List Pc} (h:S9 (p::q::R)):S9 (q::p::R) :=
 ⟨fun x hx=>by
  rcases List.mem_cons.1 hx with rfl|hx
  ·exact (h.1 q FI).symm
  ·exact h.2.1 x hx,fun x hx=>h.1 x JC,h.2.2⟩
inductive Cn:List Pc→Pc→List Pc→Prop
 | here {p R}:Cn (p::R) p R
 | there {x p R R'}:Cn R p R'→Cn (x::R) p (x::R')
theorem Cn.mem {H p R} (h:Cn H p R):p∈H:=by
 induction h with
 | here=>simp
 | there _ ih=>simp [ih]
theorem Cn.sub {H p R} (h:Cn H p R):∀q∈R,q∈H:=by
 induction h with
 | here=>intro q hq;simp [hq]
 | there _ ih =>
  intro q hq;rcases List.mem_cons.1 hq with rfl|hq
  ·simp
  ·simp [ih q hq]
theorem Cn.sep {H p R} (h:Cn H p R) (hs:S9 H):S9 (p::R):=by
 induction h with
 | here=>exact hs
 | @there x p R R' h ih =>
  have h2:=ih hs.2;exact S9.perm2 ⟨fun q hq=>by
   rcases List.mem_cons.1 hq with rfl|hq
   ·exact hs.1 _ h.mem
   ·exact hs.1 _ (h.sub q hq),h2⟩
theorem St.pick {H p R w} (s:St G D w0 H w) (h:Cn H p R):St G D w0 (p::R) w :=
 ⟨s.I7,fun q hq=>by
  rcases List.mem_cons.1 hq with rfl|hq
  ·exact s.on _ h.mem
  ·exact s.on _ (h.sub q hq),h.sep s.sep,fun q hq=>by
  rcases List.mem_cons.1 hq with rfl|hq
  ·exact s.Ad9 _ h.mem
  ·exact s.Ad9 _ (h.sub q hq)⟩
theorem St.tail {p R w} (s:St G D w0 (p::R) w):St G D w0 R w:=⟨s.I7,fun q hq=>s.on q GQ,s.sep.2,fun q hq=>s.Ad9 q GQ⟩
theorem St.get {H p w} (s:St G D w0 H w) (h:p∈H):p.P w:=s.on p h
theorem St.turn {M R N:List Pc} {w w':World} (s:St G D w0 (M++R) w) (hk:Dr (fp (M.filter (·.mu))) w w') (hN:Od N w') (hs:S9 N)
  (hF:∀p∈N,∀b∈p.F,w.heap.size≤b∨(∃q∈M,q.mu=true∧b∈q.F)∨(p.mu=false∧∃q∈M++R,q.mu=false∧b∈q.F)):St G D w0 (N++R) w':=by
 have hsep:∀(A B:List Pc),S9 (A++B)→S9 A∧S9 B∧∀p∈A,∀q∈B,Aew p q:=by
  intro A
  induction A with
  | nil=>intro B h;exact ⟨trivial,h,FI⟩
  | cons p A ih =>
   intro B h;obtain ⟨h1,h2,h3⟩:=ih B h.2;exact ⟨⟨fun q hq=>h.1 q GQ,h1⟩,h2,fun x hx q hq=>by
    rcases List.mem_cons.1 hx with rfl|hx
    ·exact h.1 q GQ
    ·exact h3 x hx q hq⟩
 have hjoin:∀(A B:List Pc),S9 A→S9 B→(∀p∈A,∀q∈B,Aew p q)→S9 (A++B):=by
  intro A
  induction A with
  | nil=>intro B _ h _;exact h
  | cons p A ih =>
   intro B hA hB h;exact ⟨fun q hq=>by
    rcases List.mem_append.1 hq with hq|hq
    ·exact hA.1 q hq
    ·exact h p FI q hq,ih B hA.2 hB fun x hx q hq=>h x JC q hq⟩
 obtain ⟨sM,sR,sMR⟩:=hsep M R s.sep;have hRlt:∀q∈R,∀b∈q.F,b < w.heap.size:=fun q hq=>q.lt (s.on q GQ);have hMR:∀q∈R,∀b∈q.F,b ∉ fp (M.filter (·.mu)):=fun q hq b hb hm=>by
  obtain ⟨p,hp,hpb⟩:=Qp.1 hm;obtain ⟨hp,hmu⟩:=List.mem_filter.1 hp;exact sMR p hp q hq (by simp [hmu]) b hpb hb
 have hG:∀b∈fp (M.filter (·.mu)),b∈G∨w0.heap.size≤b:=fun b hb=>by
  obtain ⟨p,hp,hpb⟩:=Qp.1 hb;obtain ⟨hp,hmu⟩:=List.mem_filter.1 hp;rcases s.Ad9 p IC b hpb with h|h|⟨h,_⟩
  ·exact .inl h
  ·exact .inr h
  ·rw [hmu] at h;cases h
 refine ⟨⟨hk.os.trans s.I7.os,hk.tape.trans s.I7.tape,hk.output.trans s.I7.output,Nat.le_trans s.I7.size hk.size,fun k hlt hn=>(hk.block k (Nat.lt_of_lt_of_le hlt s.I7.size) fun hm=>?_).trans (s.I7.block k hlt hn)⟩,fun p hp=>?_,hjoin N R hs sR fun p hp q hq hmu b hb hqb=>?_,fun p hp b hb=>?_⟩
 ·rcases hG k hm with h|h
  ·exact hn h
  ·omega
 ·rcases List.mem_append.1 hp with hp|hp
  ·exact hN p hp
  ·exact p.st (s.on p IC) fun b hb=>hk.block b (hRlt p hp b hb) (hMR p hp b hb)
 ·rcases hF p hp b hb with h|⟨m,hm,hmm,hmb⟩|⟨hpm,m,hm,hmm,hmb⟩
  ·have:=hRlt q hq b hqb;omega
  ·exact sMR m hm q hq (by simp [hmm]) b hmb hqb
  ·have hqm:q.mu=true:=by simpa [hpm] using hmu
   rcases List.mem_append.1 hm with hm|hm
   ·exact sMR m hm q hq (by simp [hqm]) b hmb hqb
   ·-- two pieces of R
    have:∀(R:List Pc),S9 R→∀m∈R,∀q∈R,m.mu=false→q.mu=true→∀b∈m.F,b ∉ q.F:=by
     intro R
     induction R with
     | nil=>intro _ m hm;simp at hm
     | cons x R ih =>
      intro hs m hm q hq h1 h2 b hb hqb;rcases List.mem_cons.1 hm with e|hm2
      ·subst e;rcases List.mem_cons.1 hq with e|hq2
       ·subst e;rw [h1] at h2;cases h2
       ·exact hs.1 q hq2 (by simp [h2]) b hb hqb
      ·rcases List.mem_cons.1 hq with e|hq2
       ·subst e;exact hs.1 m hm2 (by simp [h2]) b hqb hb
       ·exact ih hs.2 m hm2 q hq2 h1 h2 b hb hqb
    exact this R sR m hm q hq hmm hqm b hmb hqb
 ·rcases List.mem_append.1 hp with hp|hp
  ·rcases hF p hp b hb with h|⟨m,hm,hmm,hmb⟩|⟨hpm,m,hm,hmm,hmb⟩
   ·right;left;exact Nat.le_trans s.I7.size h
   ·rcases s.Ad9 m (by simp [hm]) b hmb with h|h|⟨h,_⟩
    ·exact .inl h
    ·exact .inr (.inl h)
    ·rw [hmm] at h;cases h
   ·rcases s.Ad9 m hm b hmb with h|h|⟨_,h⟩
    ·exact .inl h
    ·exact .inr (.inl h)
    ·exact .inr (.inr ⟨hpm,h⟩)
  ·exact s.Ad9 p IC b hb
end
abbrev Fr:=List (Nat × Value)
def Su:Fr→Nat→Option Value
 | [],_=>none
 | (k,v)::r,t=>bif Nat.beq k t then some v else Su r t
def ev (fr:Fr):Operand→Option Value
 | .tmp t=>Su fr t
 | .const v=>some v
 | .global g=>some (.pointer (some ⟨g,0,none⟩))
 | .func f=>some (.func (.func f) #[] #[])
inductive Evs (fr:Fr):List Operand→List Value→Prop
 | nil:Evs fr [] []
 | cons {x v xs vs}:ev fr x=some v→Evs fr xs vs→Evs fr (x::xs) (v::vs)
structure Ag (n:Nat) (fr:Fr) (a:Act):Prop where
 df:a.defers=[]
 sz:a.tmps.size=n
 at_:∀t v,Su fr t=some v→a.tmps[t]?=some v
theorem Ag.ev {n fr a x v} (h:Ag n fr a) (hx:ev fr x=some v):a.eval x=v:=by
 cases x with
 | tmp t=>have:=h.at_ t v hx;simp [Act.eval,Array.getD_eq_getD_getElem?,this]
 | const u=>simp [Go.Proofs.YtcmighgaiacgoaaGreatDoor.ev] at hx;subst hx;rfl
 | global g=>simp [Go.Proofs.YtcmighgaiacgoaaGreatDoor.ev] at hx;subst hx;rfl
 | func f=>simp [Go.Proofs.YtcmighgaiacgoaaGreatDoor.ev] at hx;subst hx;rfl
theorem Ag.evs {n fr a xs vs} (h:Ag n fr a) (hx:Evs fr xs vs):xs.map a.eval=vs:=by
 induction hx with
 | nil=>rfl
 | cons hx _ ih=>simp [h.ev hx,ih]
theorem Vy (k:Nat) (v:Value) (r:Fr) (t:Nat):Su ((k,v)::r) t=if k=t then some v else Su r t:=by
 show (bif Nat.beq k t then some v else Su r t)=_;by_cases h:k=t
 ·subst h;simp
 ·have:Nat.beq k t=false:=by
   cases hb:Nat.beq k t
   ·rfl
   ·exact absurd (Nat.eq_of_beq_eq_true hb) h
  rw [this,if_neg h];rfl
theorem Ag.put {n fr a d v} (h:Ag n fr a) (hd:Nat.blt d n=true):Ag n ((d,v)::fr) (a.put (some d) v):=by
 have hd':d < n:=by simpa using hd
 refine ⟨h.df,by simp [Act.put,h.sz],fun t u hu=>?_⟩;rw [Vy] at hu;show (a.tmps.setIfInBounds d v)[t]?=_;rw [Array.getElem?_setIfInBounds]
 split at hu
 ·rename_i e;subst e;simp at hu;subst hu;rw [if_pos rfl,if_pos (by rw [h.sz];exact hd')]
 ·rename_i e;rw [if_neg e];exact h.at_ t u hu
inductive Mm (fr:Fr):Fr→Prop
 | nil:Mm fr []
 | cons {t v r}:Su fr t=some v→Mm fr r→Mm fr ((t,v)::r)
theorem Mm.Su {fr fr':Fr} (h:Mm fr fr'):∀t v,Su fr' t=some v→Su fr t=some v:=by
 induction h with
 | nil=>intro t v hv;cases hv
 | cons h1 _ ih =>
  intro t v hv;rw [Vy] at hv
  split at hv
  ·rename_i e;subst e;rw [←hv];exact h1
  ·exact ih t v hv
theorem Ag.sub {n fr fr' a} (h:Ag n fr a) (hs:Mm fr fr'):Ag n fr' a:=⟨h.df,h.sz,fun t v hv=>h.at_ t v (hs.Su t v hv)⟩
structure Cx where
 P:Program
 G:List Nat
 D:List Nat
 w0:World
 n:Nat
 R:Exit→Act→World→Prop
inductive It
 | cd (c:Code)
 | blk (id:Nat)
 | lp (I:Act→World→Prop)
def run (c:Cx):List It→Exit→Act→World→Prop
 | []=>c.R
 | .cd y::k=>Exit.then (fun a w=>y.wp c.P (run c k) a w) (run c k)
 | .blk id::k=>Exit.inBlock id (run c k)
 | .lp I::k=>Exit.then I (run c k)
inductive Gl
 | code (k:List It) (x:Code)
 | list (k:List It) (ops:Array Oper) (l:List Oper)
 | norm (k:List It)
 | exit (k:List It) (id:Nat)
 | fin (e:Exit)
 | dx (k:List It) (H0:List Pc) (X:List Nat) (ops:Array Oper) (f:Nat) (listed:Array Bool)
 | dk (i:Nat) (k:List It) (H0:List Pc) (X:List Nat) (ops:Array Oper) (f:Nat) (listed:Array Bool)
def Gl.sem (c:Cx):Gl→Act→World→Prop
 | .code k x,a,w=>x.wp c.P (run c k) a w
 | .list k ops l,a,w=>wpList c.P ops (run c k) l a w
 | .norm k,a,w=>run c k .normal a w
 | .exit k id,a,w=>run c k (.exit id) a w
 | .fin e,a,w=>c.R e a w
 | .dx k H0 X ops f listed,a,w=>E9 c.P .any ops (run c k) (Od H0) (fun i=>X.contains i) f listed a w
 | .dk i k H0 X ops f listed,a,w=>(X.contains i=false→Od H0 w)∧E9 c.P .any ops (run c k) (Od H0) (fun i=>X.contains i) f listed a w
structure T (c:Cx) (fr:Fr) (H:List Pc) (Φ:Gl):Prop where
 h:∀a w,St c.G c.D c.w0 H w→Ag c.n fr a→Φ.sem c a w
theorem Ago (c:Cx):∀(k:List It),run c k .ret=c.R .ret
 | []=>rfl
 | .cd _::k=>Ago c k
 | .blk _::k=>Ago c k
 | .lp _::k=>Ago c k
theorem M4 (c:Cx) (ch:List PanicEntry):∀(k:List It),run c k (.panic ch)=c.R (.panic ch)
 | []=>rfl
 | .cd _::k=>M4 c ch k
 | .blk _::k=>M4 c ch k
 | .lp _::k=>M4 c ch k
inductive Lv:List Pc→List Pc→Prop
 | nil {A}:Lv A []
 | cons {A p R B}:Cn A p R→Lv R B→Lv A (p::B)
section
variable {c:Cx} {fr:Fr} {H:List Pc} {k:List It} {Φ:Gl}
theorem Lv.st {G D w0 w} {H H':List Pc} (h:Lv H H'):∀{X:List Pc},St G D w0 H w→S9 X→(∀p∈X,∀q∈H,Aew p q)→(∀p∈X,p.P w∧∀b∈p.F,b∈G∨w0.heap.size≤b∨(p.mu=false∧b∈D)) →
  (∀q∈H',q∈H)∧S9 H':=by
 induction h with
 | nil=>intro X _ _ _ _;exact ⟨FI,trivial⟩
 | @cons A p R B hp hs ih =>
  intro X s hX hXa hXp;have s1:=s.pick hp;have ⟨h1,h2⟩:=ih (X:=[]) s1.tail trivial FI FI;exact ⟨fun q hq=>by
   rcases List.mem_cons.1 hq with rfl|hq
   ·exact hp.mem
   ·exact hp.sub q (h1 q hq),fun q hq=>s1.sep.1 q (h1 q hq),h2⟩
theorem St.sub {G D w0 w} {H H':List Pc} (s:St G D w0 H w) (h:Lv H H'):St G D w0 H' w :=
 have ⟨h1,h2⟩:=h.st (X:=[]) s trivial FI FI
 ⟨s.I7,fun p hp=>s.on p (h1 p hp),h2,fun p hp=>s.Ad9 p (h1 p hp)⟩
theorem Bjm (H':List Pc) (h:T c fr H' Φ) (hs:Lv H H':=by repeat (first|exact Lv.nil|refine Lv.cons IG ?_)):T c fr H Φ:=.mk fun a w s g=>h.h a w (s.sub hs) g
theorem Xg {p:Pc} (h:T c fr H Φ):T c fr (p::H) Φ:=.mk fun a w s g=>h.h a w s.tail g
/-! the rules of control -/
theorem Qx {x y:Code} (h:T c fr H (.code (.cd y::k) x)):T c fr H (.code k (Code.seq x y)):=.mk fun a w s g=>wp_seq (h.h a w s g)
theorem Wr (h:T c fr H (.norm k)):T c fr H (.code k Code.skip):=.mk fun a w s g=>wp_skip (h.h a w s g)
theorem Azx (h:T c fr H (.fin .ret)):T c fr H (.code k Code.ret):=.mk fun a w s g=>wp_ret (by rw [Ago];exact h.h a w s g)
theorem Ar6 {id:Nat} (h:T c fr H (.exit k id)):T c fr H (.code k (Code.exit id)):=.mk fun a w s g=>wp_exit (h.h a w s g)
theorem Tc {id:Nat} {x:Code} (h:T c fr H (.code (.blk id::k) x)):T c fr H (.code k (Code.block id x)):=.mk fun a w s g=>wp_block (h.h a w s g)
theorem Aks {id:Nat} {l:List Oper} (h:T c fr H (.list k l.toArray l)):T c fr H (.code k (Code.region id l.toArray false)):=.mk fun a w s g=>wp_region_lit (h.h a w s g)
theorem c_t {x:Operand} {y z:Code} (hc:ev fr x=some (.bool true)) (h:T c fr H (.code k y)):T c fr H (.code k (Code.cond x y z)):=.mk fun a w s g=>wp_cond_true (g.ev hc) (h.h a w s g)
theorem c_f {x:Operand} {y z:Code} (hc:ev fr x=some (.bool false)) (h:T c fr H (.code k z)):T c fr H (.code k (Code.cond x y z)):=.mk fun a w s g=>wp_cond_false (g.ev hc) (h.h a w s g)
theorem A1 {x:Operand} {y z:Code} {p:Prop} {_:Decidable p} (hc:ev fr x=some (.bool (decide p))) (h1:p→T c fr H (.code k y)) (h2:¬p→T c fr H (.code k z)) :
  T c fr H (.code k (Code.cond x y z)):=.mk fun a w s g=>by
 by_cases hp:p
 ·exact wp_cond_true (by rw [g.ev hc,decide_eq_true hp]) ((h1 hp).h a w s g)
 ·exact wp_cond_false (by rw [g.ev hc,decide_eq_false hp]) ((h2 hp).h a w s g)
theorem Abd {y:Code} (h:T c fr H (.code k y)):T c fr H (.norm (.cd y::k)):=⟨h.h⟩
theorem Afh {id:Nat} (h:T c fr H (.norm k)):T c fr H (.norm (.blk id::k)):=⟨h.h⟩
theorem Bjb (h:T c fr H (.fin .normal)):T c fr H (.norm []):=⟨h.h⟩
theorem Bg7 {y:Code} {id:Nat} (h:T c fr H (.exit k id)):T c fr H (.exit (.cd y::k) id):=⟨h.h⟩
theorem Bg8 {I:Act→World→Prop} {id:Nat} (h:T c fr H (.exit k id)):T c fr H (.exit (.lp I::k) id):=⟨h.h⟩
theorem Az3 {id:Nat} (h:T c fr H (.norm k)):T c fr H (.exit (.blk id::k) id):=.mk fun a w s g=>by
 show (if id=id then run c k .normal a w else run c k (.exit id) a w);rw [if_pos rfl];exact h.h a w s g
theorem Asg {id id':Nat} (hne:Nat.beq id' id=false) (h:T c fr H (.exit k id')):T c fr H (.exit (.blk id::k) id'):=.mk fun a w s g=>by
 show (if id'=id then run c k .normal a w else run c k (.exit id') a w);rw [if_neg (fun e=>by rw [e] at hne;simp at hne)];exact h.h a w s g
theorem Xy {ops:Array Oper} (h:T c fr H (.norm k)):T c fr H (.list k ops []):=⟨h.h⟩
/-! loops -/
theorem Ah2 {p:Nat→Prop}:∀n,p n→∃m,p m∧∀j,p j→m≤j:=fun n=>by
 induction n using Nat.strongRecOn with
 | _ n ih =>
  intro hn;by_cases h:∃j,j < n∧p j
  ·obtain ⟨j,hj,hp⟩:=h;exact ih j hj hp
  ·exact ⟨n,hn,fun j hj=>Nat.le_of_not_lt fun hl=>h ⟨j,hl,hj⟩⟩
theorem Ay0 {P:Program} {Q:Exit→Act→World→Prop} {x:Code} {a:Act} {w:World} (I:Nat→Act→World→Prop) (m:Nat) (h0:I m a w)
  (round:∀m a w,I m a w→x.wp P (Exit.then (fun a' w'=>∃m',m' < m∧I m' a' w') Q) a w):(Code.loop x).wp P Q a w:=by
 classical
 refine wp_loop (fun a w=>∃m,I m a w) (fun a w=>if h:∃m,I m a w then Classical.choose (Ah2 (p:=fun m=>I m a w) h.choose h.choose_spec) else 0) ⟨m,h0⟩ fun a w hI=>?_;have hl:=Classical.choose_spec (Ah2 (p:=fun m=>I m a w) hI.choose hI.choose_spec);refine wp_mono (round _ a w hl.1) fun e a' w' he=>?_;cases e with
 | normal =>
  obtain ⟨m',hm,hi⟩:=he;have hex:∃m,I m a' w':=⟨m',hi⟩;refine ⟨hex,?_⟩;simp only [dif_pos hI,dif_pos hex];exact Nat.lt_of_le_of_lt ((Classical.choose_spec (Ah2 (p:=fun m=>I m a' w') hex.choose hex.choose_spec)).2 m' hi) hm
 | _=>exact he
def LpI {σ:Type} (c:Cx) (fr':σ→Fr) (H':σ→List Pc) (C:σ→Prop) (μ:σ→Nat) (m:Nat) (a:Act) (w:World):Prop:=∃s,C s∧μ s=m∧St c.G c.D c.w0 (H' s) w∧Ag c.n (fr' s) a
def LpN {σ:Type} (c:Cx) (fr':σ→Fr) (H':σ→List Pc) (C:σ→Prop) (μ:σ→Nat) (m:Nat) (a:Act) (w:World):Prop:=∃m',m' < m∧LpI c fr' H' C μ m' a w
theorem Azw {x:Code} {σ:Type} (fr':σ→Fr) (H':σ→List Pc) (C:σ→Prop) (μ:σ→Nat) (s0:σ) (h0:C s0)
  (round:∀s,C s→T c (fr' s) (H' s) (.code (.lp (LpN c fr' H' C μ (μ s))::k) x)) (hf:Mm fr (fr' s0):=by repeat (first|exact Mm.nil|refine Mm.cons GE ?_)) (hH:Lv H (H' s0):=by repeat (first|exact Lv.nil|refine Lv.cons IG ?_)):T c fr H (.code k (Code.loop x)):=.mk fun a w st g=>by
 refine Ay0 (LpI c fr' H' C μ) (μ s0) ⟨s0,h0,rfl,st.sub hH,g.sub hf⟩ fun m a w hI=>?_;obtain ⟨s,hC,rfl,hst,hg⟩:=hI;exact (round s hC).h a w hst hg
theorem Cg {σ:Type} {fr':σ→Fr} {H':σ→List Pc} {C:σ→Prop} {μ:σ→Nat} {m:Nat} (s:σ) (hC:C s) (hm:μ s < m) (hf:Mm fr (fr' s):=by repeat (first|exact Mm.nil|refine Mm.cons GE ?_)) (hH:Lv H (H' s):=by repeat (first|exact Lv.nil|refine Lv.cons IG ?_)) :
  T c fr H (.norm (.lp (LpN c fr' H' C μ m)::k)):=.mk fun _ _ st g=>⟨μ s,hm,s,hC,rfl,st.sub hH,g.sub hf⟩
end
class OneC (P:Program) (t:TypeId):Prop where
 d:∃d,P.underlying t=some d∧d.isRow=false
 s:(P.info? t).map (·.size)=some 1
class AggC (P:Program) (t:TypeId) (n:outParam Nat):Prop where
 d:∃d,P.underlying t=some d∧d.isRow=true
 s:(P.info? t).map (·.size)=some n
class FldC (P:Program) (t:TypeId) (i:Nat) (off:outParam Nat) (ft:outParam TypeId) (n:outParam Nat):Prop where
 f:∃fs f,P.underlying t=some (.struct fs)∧fs[i]?=some f∧f.offset=off∧f.type=ft
 s:(P.info? ft).map (·.size)=some n
 p:n≠0
class SlC (P:Program) (t:TypeId) (e:outParam TypeId) (n:outParam Nat):Prop where
 u:P.underlying t=some (.slice e)
 s:(P.info? e).map (·.size)=some n
class IntC (P:Program) (t:TypeId) (k:outParam IntKind):Prop where
 u:P.underlying t=some (.int k)
class StrC (P:Program) (t:TypeId):Prop where
 u:P.underlying t=some .string
class BoolC (P:Program) (t:TypeId):Prop where
 u:P.underlying t=some .bool
def Il (g o j:Nat):Value:=.pointer (some ⟨g,o+j,none⟩)
structure Yd (P:Program) (n:Nat) (fr:Fr) (H:List Pc) (o:Op) (ty:TypeId) (v:Value):Prop where
 h:∀(a:Act) (w:World) (d:Option Tmp) (pos:String) (Cf:Array Edge) (g:Option (Nat × Bool)),Ag n fr a→Od H w→(execOp a.eval ⟨d,o,ty,pos,Cf,g⟩).run P w=.ok (.value v) w
theorem Afd (a b:ByteArray):(a.toList == b.toList)=decide (a=b):=by
 rw [Bool.eq_iff_iff];simp only [beq_iff_eq,decide_eq_true_eq,ByteArray.toList_eq];exact ⟨fun h=>ByteArray.ext (Array.ext' h),fun h=>by rw [h]⟩
section
variable {P:Program} {n:Nat} {fr:Fr} {H:List Pc} {ty:TypeId} {v u:Value} {x y z:Operand}
theorem Nj {t:TypeId} {n:Nat} (h:(P.info? t).map (·.size)=some n) (w:World):(sizeOf t).run P w=.ok n w:=by
 obtain ⟨i,hi,hn⟩:=Option.map_eq_some_iff.1 h;simp [sizeOf,typeInfo,hi,hn]
theorem Apr {t:TypeId} (h:∃d,P.underlying t=some d∧d.isRow=false) (w:World):(isAgg t).run P w=.ok false w:=by
 obtain ⟨d,hu,hd⟩:=h;unfold isAgg;rw [Sem.run_bind,run_underlying hu w];cases d <;> simp_all
theorem Awt {t:TypeId} (h:∃d,P.underlying t=some d∧d.isRow=true) (w:World):(isAgg t).run P w=.ok true w:=by
 obtain ⟨d,hu,hd⟩:=h;unfold isAgg;rw [Sem.run_bind,run_underlying hu w];cases d <;> simp_all
theorem Bf5 (hx:ev fr x=some v):Yd P n fr H (.move x) ty v:=.mk fun a w d pos Cf g hA _=>by
 simp [execOp,hA.ev hx]
theorem Ay1 (hx:ev fr x=some v):Yd P n fr H (.assign x) ty v:=.mk fun a w d pos Cf g hA _=>by
 simp [execOp,hA.ev hx]
theorem Ay3 (hc:ev fr x=some (.bool true)) (hy:ev fr y=some v):Yd P n fr H (.pick x y z) ty v:=.mk fun a w d pos Cf g hA _=>by
 simp [execOp,hA.ev hc,hA.ev hy,asBool]
theorem Ay2 (hc:ev fr x=some (.bool false)) (hz:ev fr z=some v):Yd P n fr H (.pick x y z) ty v:=.mk fun a w d pos Cf g hA _=>by
 simp [execOp,hA.ev hc,hA.ev hz,asBool]
theorem Acp {w:World} {g t o j:Nat} {A cs B:List Value} (h:(Pc.row g t o A cs B).P w) (hv:cs[j]?=some v):w.cell? ⟨g,o+j,none⟩=some v:=by
 obtain ⟨rfl,h⟩:=h;rw [h.cellMid rfl (List.getElem?_eq_some_iff.1 hv).1];exact hv
theorem Is {w:World} {g t o:Nat} {A cs B:List Value} (h:(Pc.row g t o A cs B).P w):w.rangeAt g o cs:=fun _ _ hv=>Acp h hv
theorem Ayc {w:World} {g t o:Nat} {A cs B:List Value} (h:(Pc.row g t o A cs B).P w):w.there g o cs.length:=fun j hj =>
 ⟨by rw [Acp h (List.getElem?_eq_getElem hj)];rfl,h.2.frozen _⟩
theorem Ah4 {t:TypeId} [hT:OneC P t] {w:World} {a:Addr} (h:w.cell? a=some v):(Instr.loadAt t (.pointer (some a))).run P w=.ok v w:=by
 simp [Instr.loadAt,Instr.sureAddr,loadVar,Apr hT.d,h]
theorem Bjz {t g o j tt:Nat} {A cs B:List Value} [OneC P t] (hx:ev fr x=some (Il g o j)) (hm:Pc.row g tt o A cs B∈H) (hv:cs[j]?=some v):Yd P n fr H (.load t x) ty v:=.mk fun a w d pos Cf gd hA hH=>by
 simp [execOp,hA.ev hx,Il,Ah4 (Acp (hH _ hm) hv)]
theorem Big {t b o j:Nat} {cs:List Value} [OneC P t] (hx:ev fr x=some (Il b o j)) (hm:Pc.cel b o cs∈H) (hv:cs[j]?=some v):Yd P n fr H (.load t x) ty v:=.mk fun a w d pos Cf gd hA hH=>by
 simp [execOp,hA.ev hx,Il,Ah4 ((hH _ hm).2 j v hv)]
inductive Cut:List Value→Nat→Nat→List Value→Prop
 | zero {l}:Cut l 0 0 []
 | one {x l m r}:Cut l 0 m r→Cut (x::l) 0 (m+1) (x::r)
 | skip {x l j m r}:Cut l j m r→Cut (x::l) (j+1) m r
theorem Cut.get {l j m r} (h:Cut l j m r):r.length=m∧∀(i:Nat) u,r[i]?=some u→l[j+i]?=some u:=by
 induction h with
 | zero=>exact ⟨rfl,fun i u h=>by simp at h⟩
 | one _ ih =>
  refine ⟨by simp [ih.1],fun i u h=>?_⟩;cases i with
  | zero=>simpa using h
  | succ i=>have:=ih.2 i u GA;simpa [Nat.add_assoc] using this
 | skip _ ih =>
  refine ⟨ih.1,fun i u h=>?_⟩;have:=ih.2 i u h
  rwa [show ∀a b:Nat,a+1+b=a+b+1 by omega,List.getElem?_cons_succ]
theorem Ah3 {t m:Nat} [hT:AggC P t m] {w:World} {b o j:Nat} {cs r:List Value} (h:w.rangeAt b o cs) (hc:Cut cs j m r):(Instr.loadAt t (.pointer (some ⟨b,o+j,none⟩))).run P w=.ok (.agg r.toArray) w:=by
 obtain ⟨d,hu,hd⟩:=hT.d;exact run_loadAt_mid w b (o+j) t r d (fun i u hu=>by rw [Nat.add_assoc];exact h _ _ (hc.get.2 i u hu)) hu hd (by rw [hT.s,hc.get.1])
theorem Bdj {t g o j tt m:Nat} {A cs B r:List Value} [AggC P t m] (hx:ev fr x=some (Il g o j)) (hm:Pc.row g tt o A cs B∈H) (hc:Cut cs j m r):Yd P n fr H (.load t x) ty (.agg r.toArray):=.mk fun a w d pos Cf gd hA hH=>by
 simp [execOp,hA.ev hx,Il,Ah3 (Is (hH _ hm)) hc]
theorem Ada {t b o j m:Nat} {cs r:List Value} [AggC P t m] (hx:ev fr x=some (Il b o j)) (hm:Pc.cel b o cs∈H) (hc:Cut cs j m r):Yd P n fr H (.load t x) ty (.agg r.toArray):=.mk fun a w d pos Cf gd hA hH=>by
 simp [execOp,hA.ev hx,Il,Ah3 (hH _ hm).2 hc]
theorem Bju {t i g o j off ft m:Nat} [hF:FldC P t i off ft m] (hx:ev fr x=some (Il g o j)):Yd P n fr H (.fieldAddr t x i) ty (Il g o (j+off)):=.mk fun a w d pos Cf gd hA _=>by
 obtain ⟨fs,f,hu,hf,rfl,rfl⟩:=hF.f;simp [execOp,hA.ev hx,Il,Instr.fieldAt,run_underlying hu,hf,Instr.sureAddr,fieldPlace,Nj hF.s,hF.p,Addr.add_lit,Nat.add_assoc]
theorem Bid {t i off ft m:Nat} {l:List Value} [hF:FldC P t i off ft m] [hT:OneC P ft] (hx:ev fr x=some (.agg l.toArray)) (hv:l[off]?=some v):Yd P n fr H (.field t x i) ty v:=.mk fun a w d pos Cf gd hA _=>by
 obtain ⟨fs,f,hu,hf,rfl,rfl⟩:=hF.f;simp [execOp,hA.ev hx,Instr.field,run_underlying hu,hf,asAgg,part,Apr hT.d,hv]
theorem Bf3 {t i off ft m m':Nat} {l r:List Value} [hF:FldC P t i off ft m] [hT:AggC P ft m'] (hx:ev fr x=some (.agg l.toArray)) (hc:Cut l off m' r):Yd P n fr H (.field t x i) ty (.agg r.toArray):=.mk fun a w d pos Cf gd hA _=>by
 obtain ⟨fs,f,hu,hf,rfl,rfl⟩:=hF.f;have e:l.toArray.extract f.offset (f.offset+m')=r.toArray:=by
  obtain ⟨h1,h2⟩:=hc.get;apply Array.ext';simp only [List.extract_toArray,List.extract_eq_take_drop,Nat.add_sub_cancel_left];apply List.ext_getElem?;intro i;rw [List.getElem?_take]
  split
  ·rename_i hi;have hr:r[i]?=some (r[i]'FH):=List.getElem?_eq_getElem FH;rw [List.getElem?_drop,hr];exact h2 i _ hr
  ·rw [List.getElem?_eq_none FH]
 simp [execOp,hA.ev hx,Instr.field,run_underlying hu,hf,asAgg,part,Awt hT.d,Nj hT.s,←e]
theorem Bip {g o j:Nat} (hx:ev fr x=some (Il g o j)):Yd P n fr H (.nilCheck x) ty (Il g o j):=.mk fun a w d pos Cf gd hA _=>by
 simp [execOp,hA.ev hx,Il]
theorem Bf6 {f:Nat} {l:Array Value} (hx:ev fr x=some (.func (.func f) #[] l)):Yd P n fr H (.nilCheck x) ty (.func (.func f) #[] l):=.mk fun a w d pos Cf gd hA _=>by
 simp [execOp,hA.ev hx]
theorem Bjy {t e m b o len cp:Nat} {kd:IntKind} {i:Int} [hS:SlC P t e m] (hx:ev fr x=some (.slice (some ⟨b,o,none⟩) len cp)) (hy:ev fr y=some (.int kd i)) (h0:0≤i) (h1:i < len) :
  Yd P n fr H (.indexAddr t x y) ty (Il b (o+i.toNat * m) 0):=.mk fun a w d pos Cf gd hA _=>by
 simp [execOp,hA.ev hx,hA.ev hy,Instr.indexAt,run_underlying hS.u,asIntOf,h0,h1,Nj hS.s,Addr.add_lit,Il]
theorem Bif {t:Nat} {kd:IntKind} {i:Int} {s:ByteArray} [hS:StrC P t] (hx:ev fr x=some (.string s)) (hy:ev fr y=some (.int kd i)) (h0:0≤i) (h1:i.toNat < s.size) :
  Yd P n fr H (.index t x y) ty (.int .u8 (s[i.toNat]'h1).toNat):=.mk fun a w d pos Cf gd hA _=>by
 simp [execOp,hA.ev hx,hA.ev hy,Instr.index,run_underlying hS.u,asIntOf,h0,h1]
theorem Bjt {i:Nat} {l:List Value} (hx:ev fr x=some (.tuple l.toArray)) (hv:l[i]?=some v):Yd P n fr H (.extract x i) ty v:=.mk fun a w d pos Cf gd hA _=>by
 simp [execOp,hA.ev hx,Instr.extract,hv]
theorem Biq {b:Bool} {t:Nat} (hx:ev fr x=some (.bool b)):Yd P n fr H (.unOp .not t x) ty (.bool (!b)):=.mk fun a w d pos Cf gd hA _=>by
 simp [execOp,hA.ev hx,Op.unary]
theorem Bf7 {p:Prop} {_:Decidable p} {t:Nat} (hx:ev fr x=some (.bool (decide p))):Yd P n fr H (.unOp .not t x) ty (.bool (decide (¬p))):=.mk fun a w d pos Cf gd hA _=>by
 simp [execOp,hA.ev hx,Op.unary]
theorem Bim {a:Int} {t:Nat} (hx:ev fr x=some (.int .i64 a)) (h0:-9223372036854775808≤-a) (h1:-a≤9223372036854775807):Yd P n fr H (.unOp .neg t x) ty (.int .i64 (-a)):=.mk fun a w d pos Cf gd hA _=>by
 simp [execOp,hA.ev hx,Op.unary,Op.intArith,IntWalk.i64_in _ ⟨h0,h1⟩]
section
variable {a b:Int} {t t':TypeId} (hx:ev fr x=some (.int .i64 a)) (hy:ev fr y=some (.int .i64 b))
include hx hy
theorem Bia (h0:-9223372036854775808≤a+b) (h1:a+b≤9223372036854775807):Yd P n fr H (.binOp .add t x y t') ty (.int .i64 (a+b)):=.mk fun a w d pos Cf gd hA _=>by
 simp [execOp,hA.ev hx,hA.ev hy,eqGuard_add,binOp_add,Op.intArith,IntWalk.i64_in _ ⟨h0,h1⟩]
theorem Biv (h0:-9223372036854775808≤a - b) (h1:a - b≤9223372036854775807):Yd P n fr H (.binOp .sub t x y t') ty (.int .i64 (a - b)):=.mk fun a w d pos Cf gd hA _=>by
 simp [execOp,hA.ev hx,hA.ev hy,eqGuard_sub,binOp_sub,Op.intArith,IntWalk.i64_in _ ⟨h0,h1⟩]
theorem Bik (h0:-9223372036854775808≤a * b) (h1:a * b≤9223372036854775807):Yd P n fr H (.binOp .mul t x y t') ty (.int .i64 (a * b)):=.mk fun a w d pos Cf gd hA _=>by
 simp [execOp,hA.ev hx,hA.ev hy,eqGuard_mul,binOp_mul,Op.intArith,IntWalk.i64_in _ ⟨h0,h1⟩]
theorem Bir (h0:0≤a) (h2:a≤9223372036854775807) (h1:0 < b):Yd P n fr H (.binOp .quo t x y t') ty (.int .i64 (a / b)):=.mk fun c w d pos Cf gd hA _=>by
 have hle:a / b≤a:=Int.ediv_le_self _ h0;have hge:0≤a / b:=Int.ediv_nonneg h0 FH;have hb:b≠0:=FH
 simp [execOp,hA.ev hx,hA.ev hy,eqGuard_quo,binOp_quo,Op.intDiv,hb,Int.tdiv_eq_ediv_of_nonneg h0,IntWalk.i64_in _ ⟨(by omega:-9223372036854775808≤a / b),(by omega:a / b≤9223372036854775807)⟩]
theorem Bis (h0:0≤a) (h1:0 < b):Yd P n fr H (.binOp .rem t x y t') ty (.int .i64 (a % b)):=.mk fun c w d pos Cf gd hA _=>by
 have hb:b≠0:=FH
 simp [execOp,hA.ev hx,hA.ev hy,eqGuard_rem,binOp_rem,Op.intDiv,hb,Int.tmod_eq_emod_of_nonneg h0]
end
section
variable {a b:Int} {k:IntKind} {t t':TypeId} (hx:ev fr x=some (.int k a)) (hy:ev fr y=some (.int k b))
include hx hy
theorem Bij {ts:Array TypeId}:Yd P n fr H (.call { callee:=.builtin .min,args:=#[x,y],argTypes:=ts }) ty (.int k (min a b)):=.mk fun c w d pos Cf gd hA _=>by
 have e:(if b < a then b else a)=min a b:=by split <;> omega
 simp [execOp,hA.ev hx,hA.ev hy,resolve,invoke,builtin,run_min_int2,e]
theorem Bii {ts:Array TypeId}:Yd P n fr H (.call { callee:=.builtin .max,args:=#[x,y],argTypes:=ts }) ty (.int k (max a b)):=.mk fun c w d pos Cf gd hA _=>by
 have e:(if a < b then b else a)=max a b:=by split <;> omega
 simp [execOp,hA.ev hx,hA.ev hy,resolve,invoke,builtin,run_max_int2,e]
theorem Bj2:Yd P n fr H (.binOp .lss t x y t') ty (.bool (decide (a < b))):=.mk fun a w d pos Cf gd hA _=>by
 simp [execOp,hA.ev hx,hA.ev hy,eqGuard_lss,binOp_lss]
theorem Bj0:Yd P n fr H (.binOp .leq t x y t') ty (.bool (decide (a≤b))):=.mk fun a w d pos Cf gd hA _=>by
 simp [execOp,hA.ev hx,hA.ev hy,eqGuard_leq,binOp_leq]
theorem Bjx:Yd P n fr H (.binOp .gtr t x y t') ty (.bool (decide (b < a))):=.mk fun a w d pos Cf gd hA _=>by
 simp [execOp,hA.ev hx,hA.ev hy,eqGuard_gtr,binOp_gtr]
theorem Bjw:Yd P n fr H (.binOp .geq t x y t') ty (.bool (decide (b≤a))):=.mk fun a w d pos Cf gd hA _=>by
 simp [execOp,hA.ev hx,hA.ev hy,eqGuard_geq,binOp_geq]
theorem Bjs:Yd P n fr H (.binOp .eql t x y t') ty (.bool (decide (a=b))):=.mk fun a w d pos Cf gd hA _=>by
 simp [execOp,hA.ev hx,hA.ev hy,eqGuard_at_int,binOp_eql];rfl
theorem Bj3:Yd P n fr H (.binOp .neq t x y t') ty (.bool (decide (¬a=b))):=.mk fun a w d pos Cf gd hA _=>by
 simp [execOp,hA.ev hx,hA.ev hy,eqGuard_at_int,binOp_neq,bne];rfl
end
section
variable {a b:ByteArray} {t t':TypeId} (hx:ev fr x=some (.string a)) (hy:ev fr y=some (.string b))
include hx hy
theorem N5 (h:a.size+b.size≤9223372036854775807):Yd P n fr H (.binOp .add t x y t') ty (.string (a++b)):=.mk fun c w d pos Cf gd hA _=>by
 have:¬((a.size:Int)+b.size > 9223372036854775807):=FH
 simp [execOp,hA.ev hx,hA.ev hy,eqGuard_add,binOp,Op.stringOp,this]
theorem Bic:Yd P n fr H (.binOp .eql t x y t') ty (.bool (decide (a=b))):=.mk fun c w d pos Cf gd hA _=>by
 simp [execOp,hA.ev hx,hA.ev hy,eqGuard_at_string,binOp,Op.stringOp,Afd a b]
theorem Bio:Yd P n fr H (.binOp .neq t x y t') ty (.bool (decide (¬a=b))):=.mk fun c w d pos Cf gd hA _=>by
 simp [execOp,hA.ev hx,hA.ev hy,eqGuard_at_string,binOp,Op.stringOp,Afd a b]
end
theorem Ahm {t:TypeId} [hB:BoolC P t] (a b:Bool) (w:World):(Op.equal t (.bool a) (.bool b)).run P w=.ok (a == b) w:=by
 unfold Op.equal;rw [show Op.maxDepth=9999+1 from rfl];unfold Op.equalIn;rw [Sem.run_bind,run_underlying hB.u w];rfl
theorem Bib {a b:Bool} {t t':TypeId} [hB:BoolC P t] (hx:ev fr x=some (.bool a)) (hy:ev fr y=some (.bool b)):Yd P n fr H (.binOp .eql t x y t') ty (.bool (decide (a=b))):=.mk fun c w d pos Cf gd hA _=>by
 have e:binOp .eql t (.bool a) (.bool b)=(do pure (.bool (←Op.equal t (.bool a) (.bool b)))):=rfl;exact EL
theorem Bil {a b:Bool} {t t':TypeId} [hB:BoolC P t] (hx:ev fr x=some (.bool a)) (hy:ev fr y=some (.bool b)):Yd P n fr H (.binOp .neq t x y t') ty (.bool (decide (¬a=b))):=.mk fun c w d pos Cf gd hA _=>by
 have e:binOp .neq t (.bool a) (.bool b)=(do pure (.bool (!(←Op.equal t (.bool a) (.bool b))))):=rfl;exact EL
theorem Ary {k k':IntKind} {a:Int} {s t:TypeId} [hS:IntC P s k'] [hD:IntC P t .i64] (hx:ev fr x=some (.int k a)) (h0:-9223372036854775808≤a) (h1:a≤9223372036854775807):Yd P n fr H (.convert s t x) ty (.int .i64 a):=.mk fun c w d pos Cf gd hA _=>by
 simp [execOp,hA.ev hx,convert,run_underlying hS.u,run_underlying hD.u,Conv.intToInt,IntWalk.i64_in _ ⟨h0,h1⟩]
theorem Bih {a:Option Addr} {len cp t e m:Nat} [hS:SlC P t e m] (hx:ev fr x=some (.slice a len cp)):Yd P n fr H (.call { callee:=.builtin .len,args:=#[x],argTypes:=#[t] }) ty (.int .i64 len):=.mk fun c w d pos Cf gd hA _=>by
 simp [execOp,hA.ev hx,resolve,invoke,builtin,Builtin.len_,run_underlying hS.u,goInt]
theorem Bf4 {s:ByteArray} {t:Nat} [hS:StrC P t] (hx:ev fr x=some (.string s)):Yd P n fr H (.call { callee:=.builtin .len,args:=#[x],argTypes:=#[t] }) ty (.int .i64 s.size):=.mk fun c w d pos Cf gd hA _=>by
 simp [execOp,hA.ev hx,resolve,invoke,builtin,run_len_string (h:=hS.u),goInt]
theorem Pz {t e m i:Nat} {a:Option Addr} {len cp:Nat} {z:Int} [hS:SlC P t e m] (hx:ev fr x=some (.slice a len cp)) (hy:ev fr y=some (.int .i64 z)) (hz:z=(i:Int)) (hi:i≤cp) (hc:cp≤9223372036854775807):Yd P n fr H (.slice t x none (some y) none) ty (.slice a i cp):=.mk fun ac w d pos Cf gd hA _=>by
 subst hz;have he2:P.elem t=e:=KI
 have h3:(Instr.sliceAt t (.slice a len cp) none (some (.int .i64 (i:Int))) none).run P w=.ok (.slice a i cp) w:=by
  rw [run_sliceAt_slice (h:=GS),run_slice_h (ht:=GS) (h0:=FH) (h2:=FH),he2,Nj hS.s];have h0:a.map (fun b=>b.add 0)=a:=by cases a <;> simp [Addr.add]
  simp [Result.andThen,sliced,h0]
 exact AT
theorem Bjv {f:Nat} {caps:List Operand} {vs:List Value} (hc:Evs fr caps vs):Yd P n fr H (.makeFunc (.func f) #[] caps.toArray) ty (.func (.func f) #[] vs.toArray):=.mk fun c w d pos Cf gd hA _=>by
 simp [execOp,Instr.makeFunc,hA.evs hc]
end
class ZC (P:Program) (t:TypeId) (zs:outParam (List Value)):Prop where
 z:∃v,(P.info? t).map (·.zero)=some (some v)∧v.cells=zs.toArray
class ElT (P:Program) (e:TypeId) (z:outParam Value) (n:outParam Nat) (by_:outParam Nat):Prop where
 i:(P.info? e).map (fun i=>(i.zero,i.size,i.bytes))=some (some z,n,by_)
 s:z.cells.size=n
class BldC (P:Program) (t:TypeId) (pl:outParam (List (Nat × Nat))) (zs:outParam (List Value)):Prop where
 b:∀parts,P.built t parts=Instr.fill (pl.toArray[·]?) zs.toArray parts
def Sb (P:Program) (f:FuncId):Bool:=match P.funcs[f]? with
 | some fn=>!(fn.name == "runtime.NumGoroutine") && !fn.body.isNone
 | none=>false
theorem Wq {P:Program} {f:FuncId} (h:Sb P f=true):Zu P f:=by
 unfold Sb at h
 split at h
 ·rename_i fn hf;simp only [Bool.and_eq_true,Bool.not_eq_true'] at h;exact .mk' hf h.1 h.2
 ·cases h
structure Ef (c:Cx) (fr:Fr) (H:List Pc) (o:Oper) (Φ:Gl):Prop where
 h:∀Q a w,St c.G c.D c.w0 H w→Ag c.n fr a→o.wp c.P a w (Φ.sem c) Q
structure Cl (c:Cx) (fr:Fr) (H:List Pc) (d:Nat) (f:FuncId) (vs:List Value) (Φ:Gl):Prop where
 h:∀w,St c.G c.D c.w0 H w→∃R:Ending→World→Prop,Calls c.P f vs.toArray w R∧∀e w',R e w'→∃v,e=.returned v∧∀a,Ag c.n ((d,v)::fr) a→Φ.sem c a w'
theorem P4 {c:Cx} {fr:Fr} {H:List Pc} {o:Oper} {Φ:Gl} (h:∀Q a w,St c.G c.D c.w0 H w→Ag c.n fr a→Oper.upon c.P o a (Φ.sem c) Q ((execOp a.eval o).run c.P w)):Ef c fr H o Φ:=⟨h⟩
inductive Rpl:List Pc→Pc→Pc→List Pc→Prop
 | here {p q R}:Rpl (p::R) p q (q::R)
 | there {x p q R S}:Rpl R p q S→Rpl (x::R) p q (x::S)
theorem Rpl.picks {H p q S} (h:Rpl H p q S):∃R,Cn H p R∧Cn S q R:=by
 induction h with
 | here=>exact ⟨_,.here,.here⟩
 | there _ ih=>obtain ⟨R,h1,h2⟩:=ih;exact ⟨_,.there h1,.there h2⟩
theorem Cn.unsep {H p R} (h:Cn H p R) (hs:S9 (p::R)):S9 H:=by
 induction h with
 | here=>exact hs
 | @there x p R R' h ih =>
  have h2:=S9.perm2 hs;have h3:=ih h2.2;refine ⟨fun q hq=>?_,h3⟩;have:∀{A:List Pc} {p B},Cn A p B→∀q∈A,q=p∨q∈B:=by
   intro A p B h
   induction h with
   | here=>intro q hq;simpa using hq
   | there _ ih =>
    intro q hq;rcases List.mem_cons.1 hq with rfl|hq
    ·simp
    ·rcases ih q hq with h|h <;> simp [h]
  rcases this h q hq with rfl|hq
  ·exact h2.1 _ FI
  ·exact h2.1 _ GQ
theorem Cn.or {A:List Pc} {p B} (h:Cn A p B):∀q∈A,q=p∨q∈B:=by
 induction h with
 | here=>intro q hq;simpa using hq
 | there _ ih =>
  intro q hq;rcases List.mem_cons.1 hq with rfl|hq
  ·simp
  ·rcases ih q hq with h|h <;> simp [h]
theorem St.unpick {G D w0 H p R w} (s:St G D w0 (p::R) w) (h:Cn H p R):St G D w0 H w :=
 ⟨s.I7,fun q hq=>by rcases h.or q hq with rfl|hq;exact s.on _ FI;exact s.on _ GQ,h.unsep s.sep,fun q hq=>by rcases h.or q hq with rfl|hq;exact s.Ad9 _ FI;exact s.Ad9 _ GQ⟩
theorem St.rpl {G D w0 H p q S} {w w':World} (s:St G D w0 H w) (h:Rpl H p q S) (hm:p.mu=true) (hF:∀b∈q.F,b∈p.F∨w.heap.size≤b) (hk:Dr p.F w w') (hq:q.P w'):St G D w0 S w':=by
 obtain ⟨R,h1,h2⟩:=h.picks;refine St.unpick (R:=R) ?_ h2;refine St.turn (M:=[p]) (R:=R) (N:=[q]) (s.pick h1) (by simpa [List.filter,hm,fp] using hk) (by intro x hx;simp at hx;subst hx;exact hq) ⟨FI,trivial⟩ fun x hx b hb=>?_;simp at hx;subst hx;rcases hF b hb with h|h
 ·exact .inr (.inl ⟨p,FI,hm,h⟩)
 ·exact .inl h
theorem St.add {G D w0 H} {w w':World} {N:List Pc} (s:St G D w0 H w) (hb:Below w.heap.size w w') (hN:Od N w') (hs:S9 N) (hF:∀p∈N,∀b∈p.F,w.heap.size≤b∨(p.mu=false∧∃q∈H,q.mu=false∧b∈q.F)):St G D w0 (N++H) w' :=
 St.turn (M:=[]) (R:=H) (N:=N) s (by simpa [fp] using Dr.ofBelow hb) hN hs fun p hp b hb=>by
  rcases hF p hp b hb with h|h
  ·exact .inl h
  ·exact .inr (.inr GA)
theorem St.below {G D w0 H} {w w':World} (s:St G D w0 H w) (hb:Below w.heap.size w w'):St G D w0 H w':=s.add (N:=[]) hb (by intro p hp;simp at hp) trivial FI
theorem X9 (w:World) (o:Obj):Below w.heap.size w (w.alloc o):=(Below.refl _ _).alloc (Nat.le_refl _) o
theorem St.new {G D w0 H} {w:World} (s:St G D w0 H w) (t:TypeId) (cs:List Value):St G D w0 (.row w.heap.size t 0 [] cs []::H) (w.alloc (.cells cs.toArray t)) :=
 s.add (N:=[.row w.heap.size t 0 [] cs []]) (X9 _ _) (by intro p hp;simp at hp;subst hp;exact ⟨rfl,by simpa using Ii.made w t cs⟩) ⟨FI,trivial⟩ (by intro p hp b hb;simp at hp;subst hp;simp [Pc.F] at hb;subst hb;exact .inl (Nat.le_refl _))
inductive Put:List Value→Nat→List Value→List Value→Prop
 | zero {cs}:Put cs 0 [] cs
 | one {x cs u l r}:Put cs 0 l r→Put (x::cs) 0 (u::l) (u::r)
 | skip {x cs j l r}:Put cs j l r→Put (x::cs) (j+1) l (x::r)
theorem Put.parts {cs j l r} (h:Put cs j l r):∃A o B,cs=A++o++B∧r=A++l++B∧A.length=j∧o.length=l.length:=by
 induction h with
 | @zero cs=>exact ⟨[],[],cs,FI,FI,rfl,rfl⟩
 | @one x cs u l r _ ih =>
  obtain ⟨A,o,B,rfl,rfl,hA,ho⟩:=ih;have:A=[]:=List.eq_nil_of_length_eq_zero hA;subst this;exact ⟨[],x::o,B,FI,FI,rfl,by simp [ho]⟩
 | @skip x cs j l r _ ih =>
  obtain ⟨A,o,B,rfl,rfl,hA,ho⟩:=ih;exact ⟨x::A,o,B,FI,FI,by simp [hA],ho⟩
theorem Akg {P:Program} {t:TypeId} {n:Nat} (hs:(P.info? t).map (·.size)=some n) {w:World} {b o:Nat} {v:Value} {l:List Value} (hv:v.cells=l.toArray) (hl:l.length=n) (ht:w.there b o n) (h1:l.all (·.oneCell')=true) :
  (Instr.storeAt t (.pointer (some ⟨b,o,none⟩)) v).run P w=.ok () (w.setCells b o l):=by
 subst hl;have:=run_storeCells_cells (P:=P) b o l 0 w (fun j hj=>by simpa using (ht j hj).1) (fun j hj=>by simpa using (ht j hj).2) (fun v hv=>List.all_eq_true.1 h1 v hv);simp only [Nat.add_zero] at this;simp [Instr.storeAt,Instr.sureAddr,storeVar,Nj hs,hv,this]
theorem Bfj {w:World} {g t o j:Nat} {A cs B l r:List Value} (h:(Pc.row g t o A cs B).P w) (hp:Put cs j l r):(Pc.row g t o A r B).P (w.setCells g (o+j) l)∧Dr [g] w (w.setCells g (o+j) l):=by
 obtain ⟨rfl,h⟩:=h;obtain ⟨X,y,Y,rfl,rfl,rfl,hy⟩:=hp.parts;have h2:Ii w g t ((A++X)++y++(Y++B)):=GA
 have h3:=Ii.put l y h2 (p:=A.length+X.length) FI hy.symm;have hk:=Mk (g:=g) l w (A.length+X.length);rw [M8 w g l w] at h3 hk;exact ⟨⟨rfl,IV⟩,hk⟩
def Fn (P:Program) (f:FuncId) (args:List Value) (A M:List Pc) {σ:Type} (C:σ→Prop) (v:σ→Value) (N:σ→List Pc):Prop :=
 ∀w,Od (M++A) w→S9 (M++A)→Calls P f args.toArray w fun e w'=>∃s,C s∧e=.returned (v s)∧Od (N s) w'∧S9 (N s)∧Dr (fp M) w w' ∧
  ∀p∈N s,∀b∈p.F,w.heap.size≤b∨(∃q∈M,b∈q.F)∨(p.mu=false∧∃q∈A,b∈q.F)
inductive Ih:List Pc→List Pc→List Pc→Prop
 | nil {H}:Ih H [] H
 | cons {H p R M S}:Cn H p R→Ih R M S→Ih H (p::M) S
theorem Ih.st {G D w0 H M R w} (h:Ih H M R):∀{X:List Pc},St G D w0 (X++H) w→St G D w0 (X++(M++R)) w:=by
 induction h with
 | nil=>intro X s;simpa using s
 | @cons H p R M S hp _ ih =>
  intro X s;have h1:∀(X:List Pc),Cn (X++H) p (X++R):=by
   intro X;induction X with
   | nil=>exact hp
   | cons x X ih=>exact .there ih
  have h2:∀(X:List Pc),Cn (X++(p::(M++S))) p (X++(M++S)):=by
   intro X;induction X with
   | nil=>exact .here
   | cons x X ih=>exact .there ih
  have s1:=s.pick (h1 X);have s2:=ih (X:=p::X) (by simpa using s1);exact St.unpick (by simpa using s2) (h2 X)
inductive Nc:List Pc→List Pc→Prop
 | nil {H}:Nc [] H
 | cons {p A H}:p∈H→Nc A H→Nc (p::A) H
theorem Nc.all {A H} (h:Nc A H):∀p∈A,p∈H:=by
 induction h with
 | nil=>simp
 | cons h _ ih=>intro q hq;rcases List.mem_cons.1 hq with rfl|hq;exact h;exact ih q hq
section
variable {c:Cx} {fr:Fr} {H:List Pc} {k:List It} {Φ:Gl} {ops:Array Oper} {rest:List Oper} {d:Nat} {o:Op} {ty:TypeId} {pos:String} {Cf:Array Edge} {v u:Value} {x y:Operand}
theorem Bkl {o:Oper} (h:Ef c fr H o (.list k ops rest)) (hg:o.guard=none:=by rfl):T c fr H (.list k ops (o::rest)):=.mk fun a w s g =>
 wpList_plain hg fun K hK=>Oper.wp_mono hK (h.h _ a w s g)
theorem Bge {gd:Option (Nat × Bool)} (hy:Yd c.P c.n fr H o ty v) (hd:Nat.blt d c.n=true) (h:T c ((d,v)::fr) H Φ):Ef c fr H ⟨some d,o,ty,pos,Cf,gd⟩ Φ:=P4 fun Q a w s g=>by
 rw [hy.h a w (some d) pos Cf gd g s.on];exact h.h _ _ s (g.put hd)
structure On (c:Cx) (fr:Fr) (H:List Pc) (od:Option Tmp) (o:Op) (ty:TypeId) (Φ:Gl):Prop where
 h:∀pos Cf gd,Ef c fr H ⟨od,o,ty,pos,Cf,gd⟩ Φ
theorem wO {od:Option Tmp} (h:On c fr H od o ty (.list k ops rest)):T c fr H (.list k ops (⟨od,o,ty,pos,Cf,none⟩::rest)):=Bkl (h.h pos Cf none)
theorem oc (hd:Nat.blt d c.n=true) (hy:Yd c.P c.n fr H o ty v) (h:T c ((d,v)::fr) H Φ):On c fr H (some d) o ty Φ:=⟨fun _ _ _=>Bge hy hd h⟩
/-! guards of a plain region -/
theorem Wj {a:Act} {j t:Nat} {b b':Bool} {od:Option Tmp} (ht:(ops[j]?).bind (·.dst)=some t) (hl:Su fr t=some (.bool b')) (g:Ag c.n fr a):Region.wanted ⟨od,o,ty,pos,Cf,some (j,b)⟩ (yielded ops a.tmps)=(b' == b):=by
 simp only [Region.wanted,yielded,ht,Option.bind_some,g.at_ t _ hl];cases b <;> cases b' <;> rfl
theorem Aru {j t:Nat} {b:Bool} {od:Option Tmp} (ht:(ops[j]?).bind (·.dst)=some t) (hl:Su fr t=some (.bool b)) (h:T c fr H (.list k ops (⟨od,o,ty,pos,Cf,none⟩::rest))) :
  T c fr H (.list k ops (⟨od,o,ty,pos,Cf,some (j,b)⟩::rest)):=.mk fun a w s g=>by
 have h1:=h.h a w s g;simp only [Gl.sem] at h1 ⊢;unfold wpList at h1 ⊢;rw [Wj (c:=c) ht hl g];simp only [Region.wanted,if_true,beq_self_eq_true] at h1 ⊢;exact h1
theorem Art {j t:Nat} {b b':Bool} (ht:(ops[j]?).bind (·.dst)=some t) (hl:Su fr t=some (.bool b')) (hb:(b' == b)=false) (hd:Nat.blt d c.n=true) (h:T c ((d,undef)::fr) H (.list k ops rest)) :
  T c fr H (.list k ops (⟨some d,o,ty,pos,Cf,some (j,b)⟩::rest)):=.mk fun a w s g=>by
 simp only [Gl.sem];unfold wpList;rw [Wj (c:=c) ht hl g,hb];simp only [Bool.false_eq_true,if_false];exact h.h _ _ s (g.put hd)
theorem Arv {j t:Nat} {b:Bool} (ht:(ops[j]?).bind (·.dst)=some t) (hl:Su fr t=some undef) (hd:Nat.blt d c.n=true) (h:T c ((d,undef)::fr) H (.list k ops rest)) :
  T c fr H (.list k ops (⟨some d,o,ty,pos,Cf,some (j,b)⟩::rest)):=.mk fun a w s g=>by
 have hw:Region.wanted ⟨some d,o,ty,pos,Cf,some (j,b)⟩ (yielded ops a.tmps)=false:=by
  simp only [Region.wanted,yielded,ht,Option.bind_some,g.at_ t _ hl];rfl
 simp only [Gl.sem];unfold wpList;rw [hw];simp only [Bool.false_eq_true,if_false];exact h.h _ _ s (g.put hd)
theorem Dy {j t:Nat} {b:Bool} {od:Option Tmp} {p:Prop} {_:Decidable p} (ht:(ops[j]?).bind (·.dst)=some t) (hl:Su fr t=some (.bool (decide p))) (h1:p→T c ((t,.bool true)::fr) H (.list k ops (⟨od,o,ty,pos,Cf,some (j,b)⟩::rest))) (h2:¬p→T c ((t,.bool false)::fr) H (.list k ops (⟨od,o,ty,pos,Cf,some (j,b)⟩::rest))) :
  T c fr H (.list k ops (⟨od,o,ty,pos,Cf,some (j,b)⟩::rest)):=.mk fun a w s g=>by
 by_cases hp:p
 ·rw [decide_eq_true hp] at hl;exact (h1 hp).h a w s ⟨g.df,g.sz,fun i z hz=>by rw [Vy] at hz;split at hz;(rename_i e;subst e;rw [←hz,g.at_ _ _ hl]);exact g.at_ i z hz⟩
 ·rw [decide_eq_false hp] at hl;exact (h2 hp).h a w s ⟨g.df,g.sz,fun i z hz=>by rw [Vy] at hz;split at hz;(rename_i e;subst e;rw [←hz,g.at_ _ _ hl]);exact g.at_ i z hz⟩
/-! memory -/
theorem Az4 {t:TypeId} {zs:List Value} {gd:Option (Nat × Bool)} [hZ:ZC c.P t zs] (h:∀g,T c ((d,Il g 0 0)::fr) (.row g t 0 [] zs []::H) Φ) (hd:Nat.blt d c.n=true:=by rfl):Ef c fr H ⟨some d,.alloc t,ty,pos,Cf,gd⟩ Φ:=P4 fun Q a w s g=>by
 obtain ⟨z,hz,hzc⟩:=hZ.z;obtain ⟨i,hi,hiz⟩:=Option.map_eq_some_iff.1 hz;have e:(execOp a.eval ⟨some d,.alloc t,ty,pos,Cf,gd⟩).run c.P w=.ok (.value (Il w.heap.size 0 0)) (w.alloc (.cells zs.toArray t)):=by
  simp [execOp,Instr.alloc,zeroValue,typeInfo,hi,hiz,newVar,newRow,hzc,Il]
 rw [e];exact (h _).h _ _ (s.new t zs) (g.put hd)
theorem Bg9 {t:TypeId} {l:List Value} {gd:Option (Nat × Bool)} (hx:ev fr x=some v) (hv:v.cells=l.toArray) (h:∀g,T c ((d,Il g 0 0)::fr) (.row g t 0 [] l []::H) Φ) (hd:Nat.blt d c.n=true:=by rfl):Ef c fr H ⟨some d,.box t x,ty,pos,Cf,gd⟩ Φ:=P4 fun Q a w s g=>by
 have e:(execOp a.eval ⟨some d,.box t x,ty,pos,Cf,gd⟩).run c.P w=.ok (.value (Il w.heap.size 0 0)) (w.alloc (.cells l.toArray t)):=by
  simp [execOp,Instr.box,g.ev hx,newVar,newRow,hv,Il]
 rw [e];exact (h _).h _ _ (s.new t l) (g.put hd)
theorem Ao6 {t g tt o' j m:Nat} {A cs B l r:List Value} {S:List Pc} {gd:Option (Nat × Bool)} (hs:(c.P.info? t).map (·.size)=some m) (hx:ev fr x=some (Il g o' j)) (hy:ev fr y=some v) (hv:v.cells=l.toArray) (hl:l.length=m) (h1:l.all (·.oneCell')=true)
  (hp:Put cs j l r) (hr:Rpl H (.row g tt o' A cs B) (.row g tt o' A r B) S) (h:T c fr S Φ):Ef c fr H ⟨none,.store t x y,ty,pos,Cf,gd⟩ Φ:=P4 fun Q a w s ag=>by
 have hP:(Pc.row g tt o' A cs B).P w:=by obtain ⟨R,h1,_⟩:=hr.picks;exact s.on _ h1.mem
 have ht:w.there g (o'+j) m:=fun i hi=>by
  obtain ⟨X,z,Y,rfl, -,rfl,hz⟩:=hp.parts;have:=Ayc hP (X.length+i) FO
  rwa [←Nat.add_assoc] at this
 have e:(execOp a.eval ⟨none,.store t x y,ty,pos,Cf,gd⟩).run c.P w=.ok .skip (w.setCells g (o'+j) l):=by
  simp [execOp,ag.ev hx,ag.ev hy,Il,Akg hs hv hl ht h1]
 rw [e];have ⟨h2,h3⟩:=Bfj hP hp;exact h.h _ _ (s.rpl hr rfl (fun b hb=>.inl hb) h3 h2) ag
theorem Cr {t:TypeId} {zs:List Value} [hZ:ZC c.P t zs] (hd:Nat.blt d c.n=true) (h:∀g,T c ((d,Il g 0 0)::fr) (.row g t 0 [] zs []::H) Φ):On c fr H (some d) (.alloc t) ty Φ:=⟨fun _ _ _=>Az4 h hd⟩
theorem Bjg {t:TypeId} {l:List Value} (hd:Nat.blt d c.n=true) (hx:ev fr x=some v) (hv:v.cells=l.toArray) (h:∀g,T c ((d,Il g 0 0)::fr) (.row g t 0 [] l []::H) Φ):On c fr H (some d) (.box t x) ty Φ:=⟨fun _ _ _=>Bg9 hx hv h hd⟩
theorem Axy {t g tt o' j m:Nat} {A cs B l r:List Value} {S:List Pc} (hx:ev fr x=some (Il g o' j)) (hy:ev fr y=some v) (hv:v.cells=l.toArray) (hs:(c.P.info? t).map (·.size)=some m) (hl:l.length=m) (hr:Rpl H (.row g tt o' A cs B) (.row g tt o' A r B) S) (hp:Put cs j l r) (h1:l.all (·.oneCell')=true) (h:T c fr S Φ):On c fr H none (.store t x y) ty Φ :=
 ⟨fun _ _ _=>Ao6 hs hx hy hv hl h1 hp hr h⟩
/-! calls -/
theorem Bgd {f:Nat} {aS:List Operand} {ts:Array TypeId} {vs:List Value} {gd:Option (Nat × Bool)} (h:Cl c fr H d f vs Φ) (ha:Evs fr aS vs) (hb:Sb c.P f=true) (hd:Nat.blt d c.n=true):Ef c fr H ⟨some d,.call { callee:=.value (.func f),args:=aS.toArray,argTypes:=ts },ty,pos,Cf,gd⟩ Φ:=P4 fun Q a w s g=>by
 have e:(execOp a.eval ⟨some d,.call { callee:=.value (.func f),args:=aS.toArray,argTypes:=ts },ty,pos,Cf,gd⟩).run c.P w=(callFunc f vs.toArray).run c.P w:=by
  simp [execOp,resolve,Deferred.ofValue,Act.eval,invoke,g.evs ha]
 rw [e];obtain ⟨R,hc,hk⟩:=h.h w s;refine (Wq hb).upon hc fun e w' hR=>?_;obtain ⟨v,he,hv⟩:=hk e w' hR;exact ⟨v,he,hv _ (g.put hd)⟩
theorem Aaa {f:Nat} {vs:List Value} {R:World→Ending→World→Prop} (hc:∀w,St c.G c.D c.w0 H w→Calls c.P f vs.toArray w (R w))
  (hk:∀w e w',St c.G c.D c.w0 H w→R w e w'→∃v,e=.returned v∧∀a,Ag c.n ((d,v)::fr) a→Φ.sem c a w'):Cl c fr H d f vs Φ:=⟨fun w s=>⟨R w,hc w s,fun e w' hR=>hk w e w' s hR⟩⟩
theorem cb {f:Nat} {vs:List Value} (hc:∀w,St c.G c.D c.w0 H w→Calls c.P f vs.toArray w (RB v w)) (h:T c ((d,v)::fr) H Φ):Cl c fr H d f vs Φ :=
 Aaa hc fun w e w' s ⟨he,hB⟩=>⟨v,he,fun a g=>h.h a w' (s.below hB) g⟩
theorem ce {f:Nat} {vs:List Value} (hc:∀w,St c.G c.D c.w0 H w→Calls c.P f vs.toArray w fun e w'=>e=.returned v∧w=w') (h:T c ((d,v)::fr) H Φ):Cl c fr H d f vs Φ :=
 Aaa hc fun w e w' s ⟨he,hB⟩=>⟨v,he,fun a g=>h.h a w' (hB▸s) g⟩
theorem cf_ {f:Nat} {vs:List Value} {A M R:List Pc} {σ:Type} {C:σ→Prop} {vv:σ→Value} {N:σ→List Pc} (hf:Fn c.P f vs A M C vv N) (h:∀s,C s→T c ((d,vv s)::fr) (N s++R) Φ)
  (hM:Ih H M R) (hA:Nc A R) (hmM:M.all (·.mu)=true) (hmA:A.all (fun p=>!p.mu)=true):Cl c fr H d f vs Φ :=
 have hMR:∀w,St c.G c.D c.w0 H w→St c.G c.D c.w0 (M++R) w:=fun w s=>by simpa using hM.st (X:=[]) HN
 have hmu:∀p∈M,p.mu=true:=fun p hp=>List.all_eq_true.1 hmM p hp;have hro:∀p∈A,p.mu=false:=fun p hp=>by simpa using List.all_eq_true.1 hmA p hp
 have hpre:∀w,St c.G c.D c.w0 H w→Od (M++A) w∧S9 (M++A):=fun w s=>by
  have s2:=hMR w s;have hAR:=hA.all;refine ⟨fun p hp=>?_,?_⟩
  ·rcases List.mem_append.1 hp with hp|hp
   ·exact s2.on p IC
   ·exact s2.on p (by simp [hAR p hp])
  ·have:∀(M:List Pc),S9 (M++R)→S9 (M++A):=by
    intro M
    induction M with
    | nil =>
     intro _;have:∀(A:List Pc),(∀p∈A,p.mu=false)→S9 A:=by
      intro A
      induction A with
      | nil=>intro _;trivial
      | cons p A ih=>intro h;exact ⟨fun q hq hm=>by rw [h p FI,h q GQ] at hm;simp at hm,ih fun q hq=>h q GQ⟩
     exact this A hro
    | cons p M ih =>
     intro hs;exact ⟨fun q hq=>hs.1 q (by rcases List.mem_append.1 hq with h|h;simp [h];simp [hAR q h]),ih hs.2⟩
   exact this M s2.sep
 Aaa (R:=fun w e w'=>∃s,C s∧e=.returned (vv s)∧Od (N s) w'∧S9 (N s)∧Dr (fp M) w w'∧∀p∈N s,∀b∈p.F,w.heap.size≤b∨(∃q∈M,b∈q.F)∨(p.mu=false∧∃q∈A,b∈q.F))
  (fun w s=>hf w (hpre w s).1 (hpre w s).2)
  (fun w e w' s ⟨z,hz,he,hN,hS,hK,hF⟩=>⟨_,he,fun a g=>(h z hz).h a w' (St.turn (hMR w s) (by rwa [List.filter_eq_self.2 hmu]) hN hS fun p hp b hb=>by
   rcases hF p hp b hb with h|⟨q,hq,hqb⟩|⟨hp,q,hq,hqb⟩
   ·exact .inl h
   ·exact .inr (.inl ⟨q,hq,hmu q hq,hqb⟩)
   ·exact .inr (.inr ⟨hp,q,by simp [hA.all q hq],hro q hq,hqb⟩)) g⟩)
theorem As8 {f:Nat} {aS:List Operand} {ts:Array TypeId} {vs:List Value} (hd:Nat.blt d c.n=true) (hb:Sb c.P f=true) (ha:Evs fr aS vs) (h:Cl c fr H d f vs Φ):On c fr H (some d) (.call { callee:=.value (.func f),args:=aS.toArray,argTypes:=ts }) ty Φ:=⟨fun _ _ _=>Bgd h ha hb hd⟩
/-! a function's beginning and end -/
end
def Amm (P:Program) (w:World) (A M:List Pc) {σ:Type} (C:σ→Prop) (v:σ→Value) (N:σ→List Pc) (e:Ending) (w':World):Prop:=∃s,C s∧e=.returned (v s)∧Od (N s) w'∧S9 (N s)∧Dr (fp M) w w' ∧
  ∀p∈N s,∀b∈p.F,w.heap.size≤b∨(∃q∈M,b∈q.F)∨(p.mu=false∧∃q∈A,b∈q.F)
def Aoy:Nat→List Value→Fr
 | _,[]=>[]
 | i,v::r=>(i,v)::Aoy (i+1) r
theorem Axo (vs:List Value):∀i t v,Su (Aoy i vs) t=some v→i≤t∧vs[t - i]?=some v:=by
 induction vs with
 | nil=>intro i t v h;cases h
 | cons x r ih =>
  intro i t v h;unfold Aoy at h;rw [Vy] at h
  split at h
  ·rename_i e;subst e;exact ⟨Nat.le_refl _,GA⟩
  ·have ⟨h1,h2⟩:=ih (i+1) t v h;refine ⟨FH,?_⟩;rw [show t - i=(t - (i+1))+1 by omega,List.getElem?_cons_succ];exact h2
theorem Bae {P:Program} {f:FuncId} {fn:Func} {cd:Code} {args:List Value} {A M:List Pc} {σ:Type} {C:σ→Prop} {v:σ→Value} {N:σ→List Pc} (hf:P.funcs[f]?=some fn) (hb:fn.body=some cd)
  (h:∀w,T ⟨P,fp M,fp A,w,fn.ntmps,bodyPost P fn (Amm P w A M C v N)⟩ (Aoy 0 args) (M++A) (.code [] cd))
  (hn:args.length≤fn.ntmps) (hmA:A.all (fun p=>!p.mu)=true):Fn P f args A M C v N:=fun w hH hS=>by
 refine calls_of_wp hf hb ?_;have hro:∀p∈A,p.mu=false:=fun p hp=>by simpa using List.all_eq_true.1 hmA p hp
 refine (h w).h _ _ ⟨Dr.refl _ _,hH,hS,fun p hp b hb=>?_⟩ ⟨rfl,FO,fun t u hu=>?_⟩
 ·rcases List.mem_append.1 hp with hp|hp
  ·exact .inl (Qp.2 ⟨p,hp,hb⟩)
  ·exact .inr (.inr ⟨hro p hp,Qp.2 ⟨p,hp,hb⟩⟩)
 ·obtain ⟨-,h2⟩:=Axo args 0 t u hu;simp only [Nat.sub_zero] at h2;show (args.toArray++Array.replicate (fn.ntmps - args.toArray.size) undef)[t]?=_;have ht:t < args.length:=(List.getElem?_eq_some_iff.1 h2).1;rw [Array.getElem?_append_left (by simpa using ht)];simpa using h2
inductive Res (P:Program) (fr:Fr) (H:List Pc):List ResultVar→List Value→Prop
 | nil:Res P fr H [] []
 | tmp {t v r vs}:Su fr t=some v→Res P fr H r vs→Res P fr H (.tmp t::r) (v::vs)
 | agg {t ty m g o tt A cs B r vs}:AggC P ty m→Su fr t=some (Il g o 0)→Pc.row g tt o A cs B∈H→cs.length=m→Res P fr H r vs→Res P fr H (.cell t ty::r) (.agg cs.toArray::vs)
 | one {t ty g o tt A v B r vs}:OneC P ty→Su fr t=some (Il g o 0)→Pc.row g tt o A [v] B∈H→Res P fr H r vs→Res P fr H (.cell t ty::r) (v::vs)
theorem Cut.whole:∀(l:List Value),Cut l 0 l.length l
 | []=>.zero
 | _::r=>.one (Cut.whole r)
theorem Ag4 (x:Addr):asAddr (.pointer (some x))=pure x:=rfl
theorem Bfh {P:Program} {fr:Fr} {H:List Pc} {n:Nat} {rs vs} (f:ResultVar→Sem Value) {a:Act} (f1:∀t,f (.tmp t)=pure (a.tmps.getD t undef)) (f2:∀p t,f (.cell p t)=do loadVar t (←asAddr (a.tmps.getD p undef)))
  (h:Res P fr H rs vs) {w:World} (g:Ag n fr a) (hH:Od H w):(rs.mapM f).run P w=.ok vs w:=by
 simp only [Array.getD_eq_getD_getElem?] at f1 f2
 induction h with
 | nil=>simp
 | tmp hl _ ih=>simp [List.mapM_cons,f1,g.at_ _ _ hl,ih]
 | @agg t ty m gg o tt A cs B r vs hT hl hm hc _ ih =>
  have h1:=Ah3 (hT:=hT) (j:=0) (Is (hH _ hm)) (by rw [←hc];exact Cut.whole cs);exact DM
 | @one t ty gg o tt A v B r vs hT hl hm _ ih =>
  have h1:=Ah4 (hT:=hT) (Acp (j:=0) (hH _ hm) rfl);exact DM
def Us:List Value→Value
 | [v]=>v
 | vs=>.tuple vs.toArray
theorem Aq0 {P:Program} {fr:Fr} {H:List Pc} {n:Nat} {fn:Func} {rs vs} (hr:fn.results=rs.toArray) (h:Res P fr H rs vs) {a:Act} {w:World} (g:Ag n fr a) (hH:Od H w):(results fn a.tmps).run P w=.ok (Us vs) w:=by
 unfold results;rw [hr];simp only [Sem.run_bind,Array.mapM_eq_mapM_toList];have:∀(f:ResultVar→Sem Value),(rs.mapM f).run P w=.ok vs w→((List.toArray <$> rs.mapM f:Sem (Array Value))).run P w=.ok vs.toArray w:=fun f hf=>by
  simp [hf]
 refine (congrArg (fun x=>Result.andThen x _) (this _ (Bfh _ ?_ ?_ h g hH))).trans ?_
 ·intro t;rfl
 ·intro p t;rfl
 simp only [Result.andThen_ok,Sem.run_pure]
 congr 1
 match vs with
 | []=>rfl
 | [v]=>rfl
 | v::u::r=>simp [Us]
theorem Bhe {P:Program} {fn:Func} {G D:List Nat} {w0:World} {n:Nat} {A M:List Pc} {σ:Type} {C:σ→Prop} {v:σ→Value} {N:σ→List Pc} {fr:Fr} {H:List Pc} {rs:List ResultVar} {vs:List Value} (s:σ) (hC:C s)
  (hr:fn.results=rs.toArray) (h:Res P fr H rs vs) (hv:Us vs=v s) (hN:Lv H (N s)) (hG:G=fp M) (hD:D=fp A):T ⟨P,G,D,w0,n,bodyPost P fn (Amm P w0 A M C v N)⟩ fr H (.fin .ret):=.mk fun a w st g=>by
 subst hG hD;refine ⟨g.df,_,Aq0 hr h g st.on,s,hC,by rw [hv],?_⟩;have s2:=st.sub hN;refine ⟨s2.on,s2.sep,s2.I7,fun p hp b hb=>?_⟩;rcases s2.Ad9 p hp b hb with h|h|⟨h1,h⟩
 ·exact .inr (.inl (Qp.1 h))
 ·exact .inl h
 ·exact .inr (.inr ⟨h1,Qp.1 h⟩)
theorem Sl.dropS {P:Program} {α:Type} {E:Bn α} {w:World} {a:Option Addr} {n cap:Nat} {xs:List α} {F} (h:Sl E w (.slice a n cap) xs F) (t:TypeId) (ht:P.underlying t=some (.slice (P.elem t))) (k:Nat) (hk:k≤xs.length)
  (hs:∀W,(sizeOf (P.elem t)).run P W=.ok E.sz W):∃a2 c2 F',(∀W,(Instr.sliceAt t (.slice a n cap) (some (.int .i64 (k:Int))) none none).run P W=.ok (.slice a2 (xs.length - k) c2) W)∧(∀b∈F',b∈F)∧Sl E w (.slice a2 (xs.length - k) c2) (xs.drop k) F':=by
 obtain ⟨a',cap',hv,hl,h⟩:=h;cases hv;have hrun:∀W,(Instr.sliceAt t (.slice a xs.length cap) (some (.int .i64 (k:Int))) none none).run P W=.ok (.slice (if cap=k then a else a.map (·.add (k * E.sz))) (xs.length - k) (cap - k)) W:=fun W=>by
  rw [run_sliceAt_slice (h:=ht),run_slice_l (ht:=ht) (h0:=FH) (h1:=FH),hs];simp [Result.andThen,sliced]
 refine ⟨if cap=k then a else a.map (·.add (k * E.sz)),cap - k,?_⟩;rcases h with ⟨rfl,rfl,h0⟩|⟨b,off,F',rfl,hne,rfl,hc⟩
 ·refine ⟨[],hrun,FI,if cap=k then a else a.map (·.add (k * E.sz)),cap - k,FI,⟨FI,FH⟩,.inl ⟨FI,rfl,fun e=>?_⟩⟩;cases a with
  | none=>rw [h0 rfl];simp
  | some ad=>split at e <;> simp at e
 ·by_cases hkn:k=xs.length
  ·subst hkn;refine ⟨[],hrun,FI,if cap=xs.length then some ⟨b,off,none⟩ else (some (⟨b,off,none⟩:Addr)).map (·.add (xs.length * E.sz)),cap - xs.length,FI,⟨FI,FH⟩,.inl ⟨FI,rfl,fun e=>?_⟩⟩
   split at e <;> simp at e
  ·obtain ⟨cs,hf,hcs⟩:=hc.flat;have e:xs=xs.take k++xs.drop k:=FI
   rw [e] at hf;obtain ⟨c1,c2,G1,G2,rfl,rfl,h1,h2⟩:=hf.split;have hl1:=h1.len;have hck:¬cap=k:=FH
   rw [List.length_take,Nat.min_eq_left FH] at hl1;refine ⟨b::G2,hrun,by intro x hx;simp at hx ⊢;rcases hx with hx|hx <;> simp [hx],some ⟨b,off+k * E.sz,none⟩,cap - k,?_,⟨FO,FH⟩,.inr ⟨b,off+k * E.sz,G2,rfl,fun e=>?_,rfl,h2.cells fun j u hu=>?_⟩⟩
   ·rw [if_neg hck];simp only [Option.map_some,Addr.add,List.length_drop,Value.slice.injEq,Option.some.injEq,and_true,true_and];by_cases h0:k * E.sz=0 <;> simp [h0]
   ·have:=congrArg List.length e;simp at this;omega
   ·have:=hcs (c1.length+j) u JG;rw [←this,hl1];congr 2;omega
theorem A9 {p:Pc} {H:List Pc} (h:p∈H:=by (repeat (first|exact .head _|apply List.Mem.tail));first|done|fail):p∈H:=h
theorem Bg4 {l:List Value} {j m:Nat} {r:List Value} (h:Cut l j m r:=by repeat constructor):Cut l j m r:=h
theorem Be8 {l r s:List Value} {j:Nat} (h:Put l j r s:=by first|exact .one .zero|repeat constructor):Put l j r s:=h
theorem X0 {fr:Fr} {aS:List Operand} {vs:List Value} (h:Evs fr aS vs:=by repeat (first|exact Evs.nil|apply Evs.cons GE)):Evs fr aS vs:=h
theorem Akd {H S:List Pc} {p q:Pc} (h:Rpl H p q S:=by (repeat (first|exact .here|apply Rpl.there));first|done|fail):Rpl H p q S:=h
theorem Da {H R:List Pc} {p:Pc} (h:Cn H p R:=by (repeat (first|exact .here|apply Cn.there));first|done|fail):Cn H p R:=h
theorem Abg {H M R:List Pc} (h:Ih H M R:=by repeat (first|exact Ih.nil|apply Ih.cons (by exact Da))):Ih H M R:=h
theorem hsE {A H:List Pc} (h:Lv A H:=by repeat (first|exact Lv.nil|refine Lv.cons (by exact Da) ?_)):Lv A H:=h
theorem frE {a b:Fr} (h:Mm a b:=by repeat (first|exact Mm.nil|refine Mm.cons GE ?_)):Mm a b:=h
theorem Awj (l:List Value):∀(k off:Nat) (A o B:List Value),A.length=off+k→o.length=l.length→(l.zipIdx k).foldl (fun (cs:Array Value) (x:Value × Nat)=>cs.setIfInBounds (off+x.2) x.1) (A++o++B).toArray=(A++l++B).toArray:=by
 induction l with
 | nil=>intro k off A o B _ ho;simp at ho;subst ho;simp
 | cons u r ih =>
  intro k off A o B hA ho;cases o with
  | nil=>simp at ho
  | cons z o =>
   rw [List.zipIdx_cons,List.foldl_cons];have h4:(A++(z::o)++B).toArray.setIfInBounds (off+k) u=((A++[u])++o++B).toArray:=by
    rw [←hA];simp [List.set_append]
   show List.foldl _ ((A++(z::o)++B).toArray.setIfInBounds (off+k) u) _=_;rw [h4,ih (k+1) off (A++[u]) o B FO (by simpa using ho)];simp
inductive Fil (pl:Nat→Option (Nat × Nat)) (fr:Fr):List Value→List (Nat × Operand)→List Value→Prop
 | nil {cs}:Fil pl fr cs [] cs
 | cons {cs i x ps v l off r q}:ev fr x=some v→v.cells=l.toArray→pl i=some (off,l.length)→Put cs off l r→Fil pl fr r ps q→Fil pl fr cs ((i,x)::ps) q
theorem Fil.run {pl:Nat→Option (Nat × Nat)} {fr:Fr} {n:Nat} {cs q:List Value} {ps:List (Nat × Operand)} (h:Fil pl fr cs ps q) {a:Act} (g:Ag n fr a):Instr.fill pl cs.toArray (ps.map fun (i,x)=>(i,a.eval x))=some q.toArray:=by
 induction h with
 | nil=>rfl
 | @cons cs i x ps v l off r q hx hv hp hput _ ih =>
  obtain ⟨A,o,B,rfl,rfl,rfl,ho⟩:=hput.parts;rw [List.map_cons];unfold Instr.fill;simp only [hp,g.ev hx,hv];have h1:¬((l.toArray.size≠l.length)∨(A.length+l.toArray.size > (A++o++B).toArray.size)):=FO
  rw [if_neg IS];have h2:l.toArray.zipIdx.foldl (fun (cs:Array Value) (x:Value × Nat)=>cs.setIfInBounds (A.length+x.2) x.1) (A++o++B).toArray=(A++l++B).toArray:=by
   rw [←Array.foldl_toList];have:=Awj l 0 A.length A o B rfl ho;exact EM
  rw [h2];exact ih
theorem Kv {pl:Nat→Option (Nat × Nat)} {fr:Fr} {cs q:List Value} {ps:List (Nat × Operand)} (h:Fil pl fr cs ps q:=by repeat (first|exact Fil.nil|apply Fil.cons GE GE GE (by repeat constructor))):Fil pl fr cs ps q:=h
theorem Bjr {P:Program} {n:Nat} {fr:Fr} {H:List Pc} {ty:TypeId} {t:Nat} {pl:List (Nat × Nat)} {zs q:List Value} {ps:List (Nat × Operand)} [hB:BldC P t pl zs] (hf:Fil (pl.toArray[·]?) fr zs ps q):Yd P n fr H (.build t ps.toArray) ty (.agg q.toArray):=.mk fun a w d pos Cf gd g _=>by
 have h3:=hf.run g;have h4:=run_build (P:=P) w t (ps.map fun (i,x)=>(i,a.eval x)).toArray q.toArray (by rw [hB.b];exact h3);simp only [List.map_toArray] at h4;simp [execOp,h4]
theorem ydE {P:Program} {n:Nat} {fr:Fr} {H:List Pc} {o:Op} {ty:TypeId} {v:Value} (h:Yd P n fr H o ty v:=by first|(apply Bf5;rfl)|(apply Ay1;rfl)|(apply Bip;rfl)|(apply Bju;rfl)|(apply Bjz;rfl;exact A9;rfl)|(apply Big;rfl;exact A9;rfl)|(apply Bdj;rfl;exact A9;exact Bg4)|(apply Ada;rfl;exact A9;exact Bg4)|(apply Ay3;rfl;rfl)|(apply Ay2;rfl;rfl)|(apply Bih;rfl)|(apply Bf4;rfl)|(apply Bjt;rfl;rfl)|(apply Bid;rfl;rfl)|(apply Bf3;rfl;exact Bg4)|(apply Bj2;rfl;rfl)|(apply Bj0;rfl;rfl)|(apply Bjx;rfl;rfl)|(apply Bjw;rfl;rfl)|(apply Bjs;rfl;rfl)|(apply Bj3;rfl;rfl)|(apply Bia;rfl;rfl;omega;omega)|(apply Biv;rfl;rfl;omega;omega)|(apply Bic;rfl;rfl)|(apply Bio;rfl;rfl)|(apply N5;rfl;rfl;omega)|(apply Bf7;rfl)|(apply Biq;rfl)|(apply Bim;rfl;omega;omega)|(apply Bjy;rfl;rfl;omega;omega)|(apply Bif;rfl;rfl;omega;omega)|(apply Bir;rfl;rfl;omega;omega;omega)|(apply Bis;rfl;rfl;omega;omega)|(apply Bik;rfl;rfl;omega;omega)|(apply Ary;rfl;omega;omega)|(apply Bib;rfl;rfl)|(apply Bil;rfl;rfl)|(apply Bjv;exact X0)|(apply Bf6;rfl)|(apply Bij;rfl;rfl)|(apply Bii;rfl;rfl)|(apply Bjr;exact Kv)):Yd P n fr H o ty v:=h
section
variable {c:Cx} {fr:Fr} {H:List Pc} {k:List It} {Φ:Gl} {ops:Array Oper} {rest:List Oper} {d:Nat} {o:Op} {ty:TypeId} {pos:String} {Cf:Array Edge} {v u:Value} {x y:Operand}
theorem st {t g tt o' j m:Nat} {A cs B l r:List Value} {S:List Pc} {gd:Option (Nat × Bool)} (h:T c fr S Φ) (hx:ev fr x=some (Il g o' j):=by rfl) (hy:ev fr y=some v:=by rfl) (hv:v.cells=l.toArray:=by rfl) (hs:(c.P.info? t).map (·.size)=some m:=by first|exact AggC.s|exact OneC.s) (hl:l.length=m:=by rfl)
  (hr:Rpl H (.row g tt o' A cs B) (.row g tt o' A r B) S:=by (repeat (first|exact .here|apply Rpl.there));first|done|fail) (hp:Put cs j l r:=by first|exact .one .zero|repeat constructor) (h1:l.all (·.oneCell')=true:=by rfl):Ef c fr H ⟨none,.store t x y,ty,pos,Cf,gd⟩ Φ:=Ao6 hs hx hy hv hl h1 hp hr h
theorem ca {f:Nat} {aS:List Operand} {ts:Array TypeId} {vs:List Value} {gd:Option (Nat × Bool)} (h:Cl c fr H d f vs Φ) (ha:Evs fr aS vs:=by repeat (first|exact Evs.nil|apply Evs.cons GE)) (hb:Sb c.P f=true:=by kernel_rfl) (hd:Nat.blt d c.n=true:=by rfl):Ef c fr H ⟨some d,.call { callee:=.value (.func f),args:=aS.toArray,argTypes:=ts },ty,pos,Cf,gd⟩ Φ:=Bgd h ha hb hd
theorem cf {f:Nat} {vs:List Value} {A M R:List Pc} {σ:Type} {C:σ→Prop} {vv:σ→Value} {N:σ→List Pc} (hf:Fn c.P f vs A M C vv N) (h:∀s,C s→T c ((d,vv s)::fr) (N s++R) Φ)
  (hM:Ih H M R:=by repeat (first|exact Ih.nil|apply Ih.cons (by exact Da))) (hA:Nc A R:=by repeat (first|exact Nc.nil|refine Nc.cons FL ?_)) (hmM:M.all (·.mu)=true:=by rfl) (hmA:A.all (fun p=>!p.mu)=true:=by rfl):Cl c fr H d f vs Φ:=cf_ hf h hM hA hmM hmA
inductive Aog:List Pc→List Pc→List Pc→Prop
 | nil {R}:Aog [] R R
 | cons {p N R X}:Aog N R X→Aog (p::N) R (p::X)
theorem Aog.eq {N R X} (h:Aog N R X):N++R=X:=by
 induction h with
 | nil=>rfl
 | cons _ ih=>simp [ih]
theorem Ot {N R X:List Pc} (h:T c fr X Φ) (hX:Aog N R X:=by repeat constructor):T c fr (N++R) Φ:=by rw [hX.eq];exact h
theorem St.ro {G D w0 w} {p q:Pc} (s:St G D w0 H w) (hq:q∈H) (hm:q.mu=false) (hpm:p.mu=false) (hp:p.P w) (hF:∀b∈p.F,b∈q.F):St G D w0 (p::H) w :=
 s.add (N:=[p]) (Below.refl _ _) (by intro x hx;simp at hx;subst hx;exact hp) ⟨FI,trivial⟩ (by intro x hx b hb;simp at hx;subst hx;exact .inr ⟨hpm,q,hq,hm,hF b hb⟩)
theorem St.conv {G D w0 w} {p q:Pc} {S:List Pc} (s:St G D w0 (p::S) w) (hm:p.mu=true) (hq:q.P w) (hF:∀b∈q.F,b∈p.F):St G D w0 (q::S) w :=
 St.turn (M:=[p]) (N:=[q]) s (Dr.refl _ w) (by intro x hx;simp at hx;subst hx;exact hq) ⟨FI,trivial⟩ (by intro x hx b hb;simp at hx;subst hx;exact .inr (.inl ⟨p,FI,hm,hF b hb⟩))
/-! elements, parts of slices that read -/
theorem Yz {α:Type} {E:Bn α} {w:World} {a:Option Addr} {n cp:Nat} {xs:List α} {F:List Nat} (h:(Pc.sl E (.slice a n cp) xs F).P w) (i:Nat) (hi:i < xs.length) :
  ∃b o cs G,a=some ⟨b,o,none⟩∧E.Kn w cs xs[i] G∧(∀x∈G,x∈F)∧b∈F∧cs≠[]∧w.rangeAt b (o+i * E.sz) cs:=by
 obtain ⟨hz,a',cap,hv,hl,h|⟨b,o,F',rfl,hne,rfl,hc⟩⟩:=h
 ·rw [h.1] at hi;simp at hi
 ·simp only [Value.slice.injEq] at hv;obtain ⟨rfl, -, -⟩:=hv;obtain ⟨cs,F1,h1,h2,h3⟩:=hc.get i hi;have hl:=E.len h1;refine ⟨b,o,cs,F1,rfl,h1,fun x hx=>by simp [h3 x hx],FI,fun e=>by subst e;simp at hl;omega,fun j u hu=>?_⟩;have hj:j < E.sz:=by have:=(List.getElem?_eq_some_iff.1 hu).1;omega
  rw [h2 j hj];exact hu
theorem I6 {a:Option Addr} {n cp:Nat} {xs:List Int} {F:List Nat} (i:Nat) (h:∀(hi:i < xs.length) b o,a=some ⟨b,o,none⟩→T c fr (.cel b (o+i * 1) [.int .i64 xs[i]]::H) Φ) (hm:.sl Bb (.slice a n cp) xs F∈H:=by exact A9) (hi:i < xs.length:=by omega):T c fr H Φ:=.mk fun ac w s g=>by
 obtain ⟨b,o,cs,G,ha,⟨rfl,rfl⟩, -,hb,hne,hr⟩:=Yz (s.get hm) i hi;exact (h hi b o ha).h ac w (s.ro hm rfl rfl ⟨hne,hr⟩ HC) g
theorem Mx {a:Option Addr} {n cp:Nat} {xs:List ByteArray} {F:List Nat} (i:Nat) (h:∀(hi:i < xs.length) b o,a=some ⟨b,o,none⟩→xs[i].size≤maxLen→T c fr (.cel b (o+i * 1) [.string xs[i]]::H) Φ) (hm:.sl A8 (.slice a n cp) xs F∈H:=by exact A9) (hi:i < xs.length:=by omega):T c fr H Φ:=.mk fun ac w s g=>by
 obtain ⟨b,o,cs,G,ha,⟨rfl,hs,rfl⟩, -,hb,hne,hr⟩:=Yz (s.get hm) i hi;exact (h hi b o ha hs).h ac w (s.ro hm rfl rfl ⟨hne,hr⟩ HC) g
theorem A4 {α:Type} {E:Bn α} {t:TypeId} {v:Value} {xs:List α} {F:List Nat} {S:List Pc} (h:∀F',T c fr (.sl E v xs F'::S) Φ) (hp:Cn H (.ow E t v xs F) S:=by exact Da) (hz:0 < E.sz:=by decide):T c fr H Φ:=.mk fun a w s g=>by
 have s1:=s.pick hp;obtain ⟨-,ho⟩:=s1.on (.ow E t v xs F) FI;obtain ⟨F',hF,hs⟩:=ho.read;exact (h F').h a w (s1.conv rfl ⟨hz,hs⟩ hF) g
theorem Ow.takeO {α:Type} {E:Bn α} {t:TypeId} {w:World} {a:Option Addr} {n cp:Nat} {xs:List α} {F:List Nat} (h:Ow E t w (.slice a n cp) xs F) (k:Nat) (hk:k≤xs.length):∃F',F'.Sublist F∧Ow E t w (.slice a k cp) (xs.take k) F':=by
 rcases h with ⟨h1,rfl,rfl⟩|⟨g,cap,cs,rest,G,h1,h2,h3,h4,h5,h6,rfl⟩
 ·cases h1;have:k=0:=by simpa using hk
  subst this;exact ⟨[],.slnil,.inl ⟨rfl,rfl,rfl⟩⟩
 ·cases h1;rw [←List.take_append_drop k xs] at h6;obtain ⟨c1,c2,G1,G2,rfl,rfl,f1,f2⟩:=h6.split;have hl:(xs.take k).length=k:=by simp [Nat.min_eq_left hk]
  refine ⟨g::G1,(List.sublist_append_left G1 G2).cons_cons g,.inr ⟨g,cp,c1,c2++rest,G1,by rw [hl],by rw [←List.append_assoc];exact h2,FH,h4,by simp only [List.length_append] at h5 ⊢;omega,f1,rfl⟩⟩
theorem An6 {α:Type} {E:Bn α} {t:TypeId} {a:Option Addr} {n cp:Nat} {xs:List α} {F:List Nat} {S:List Pc} (k:Nat) (h:∀F',T c fr (.ow E t (.slice a k cp) (xs.take k) F'::S) Φ) (hk:k≤xs.length:=by omega) (hp:Cn H (.ow E t (.slice a n cp) xs F) S:=by exact Da):T c fr H Φ:=.mk fun ac w s g=>by
 have s1:=s.pick hp;obtain ⟨hn,ho⟩:=s1.on (.ow E t (.slice a n cp) xs F) FI;obtain ⟨F',hF,hs⟩:=ho.takeO k hk;exact (h F').h ac w (s1.conv rfl ⟨hn.sublist hF,hs⟩ hF.subset) g
theorem Bco {α:Type} {E:Bn α} {t:TypeId} {a:Option Addr} {n cp:Nat} {xs:List α} {F:List Nat} (h:n≤cp→cp≤9223372036854775807→T c fr H Φ) (hm:.ow E t (.slice a n cp) xs F∈H:=by exact A9):T c fr H Φ:=.mk fun ac w s g=>by
 obtain ⟨-,h'|⟨g',cap,cs,rest,G,h1,h2,h3,h4, -⟩⟩:=s.get hm
 ·obtain ⟨h1,h2, -⟩:=h';cases h1;exact (h FI FK).h ac w s g
 ·cases h1;exact (h h3 (by unfold maxLen at h4;omega)).h ac w s g
theorem Db {α:Type} (E:Bn α) (t:TypeId) (h:T c fr (.ow E t (.slice none 0 0) [] []::H) Φ):T c fr H Φ:=.mk fun a w s g =>
 h.h a w (s.add (N:=[.ow E t (.slice none 0 0) [] []]) (Below.refl _ _) (by intro p hp;simp at hp;subst hp;exact ⟨FI,.inl ⟨rfl,rfl,rfl⟩⟩) ⟨FI,trivial⟩ (by intro p hp b hb;simp at hp;subst hp;simp [Pc.F] at hb)) g
theorem Cw {α:Type} (E:Bn α) (hz:0 < E.sz) (h:T c fr (.sl E (.slice none 0 0) [] []::H) Φ):T c fr H Φ:=.mk fun a w s g =>
 h.h a w (s.add (N:=[.sl E (.slice none 0 0) [] []]) (Below.refl _ _) (by intro p hp;simp at hp;subst hp;exact ⟨hz,none,0,rfl,⟨Nat.le_refl _,GC⟩,.inl ⟨rfl,rfl,fun _=>rfl⟩⟩) ⟨FI,trivial⟩ (by intro p hp b hb;simp at hp;subst hp;simp [Pc.F] at hb)) g
theorem C7 {α:Type} (E:Bn α) {t g:Nat} {S:List Pc} (h:T c fr (.ow E t (.slice (some ⟨g,0,none⟩) 0 0) [] [g]::S) Φ) (hp:Cn H (.row g t 0 [] [] []) S:=by exact Da):T c fr H Φ:=.mk fun a w s ag=>by
 have s1:=s.pick hp;obtain ⟨-,hr⟩:=s1.on (.row g t 0 [] [] []) FI;exact h.h a w (s1.conv rfl ⟨FI,Ow.empty HG⟩ (fun b hb=>hb)) ag
theorem bs0 {t e m:Nat} {gd:Option (Nat × Bool)} [hS:SlC c.P t e m] (h:∀g,T c ((d,.slice (some ⟨g,0,none⟩) 0 0)::fr) (.row g e 0 [] [] []::H) Φ) (hd:Nat.blt d c.n=true:=by rfl):Ef c fr H ⟨some d,.buildSlice t 0 #[],ty,pos,Cf,gd⟩ Φ:=P4 fun Q a w s g=>by
 have e1:(execOp a.eval ⟨some d,.buildSlice t 0 #[],ty,pos,Cf,gd⟩).run c.P w=.ok (.value (.slice (some ⟨w.heap.size,0,none⟩) 0 0)) (w.alloc (.cells #[] e)):=by
  simp [execOp,Instr.buildSlice,run_underlying hS.u,Nj hS.s,Instr.fill,newRow,Array.range_zero']
 rw [e1];exact (h _).h _ _ (s.new e []) (g.put hd)
inductive Avq:List Value→List Value→List Value→Prop
 | nil {r}:Avq [] r r
 | cons {u l r q}:Avq l r q→Avq (u::l) r (u::q)
theorem Avq.eq {l r q} (h:Avq l r q):l++r=q:=by
 induction h with
 | nil=>rfl
 | cons _ ih=>simp [ih]
inductive Rpt (zs:List Value):Nat→List Value→Prop
 | zero:Rpt zs 0 []
 | succ {n r q}:Rpt zs n r→Avq zs r q→Rpt zs (n+1) q
theorem Rpt.eq {zs:List Value} {n q} (h:Rpt zs n q):q=(List.replicate n zs).flatten:=by
 induction h with
 | zero=>rfl
 | succ _ h2 ih=>rw [←h2.eq,ih,List.replicate_succ,List.flatten_cons]
theorem bs {t e m b len:Nat} {z:Value} {zs cs q:List Value} {ps:List (Nat × Operand)} {gd:Option (Nat × Bool)} [hS:SlC c.P t e m] [hE:ElT c.P e z m b] [hZ:ZC c.P e zs] (h:∀g,T c ((d,.slice (some ⟨g,0,none⟩) len len)::fr) (.row g e 0 [] q []::H) Φ)
  (hc:Rpt zs len cs:=by repeat constructor) (hf:Fil (fun i=>some (i * m,m)) fr cs ps q:=by repeat (first|exact Fil.nil|apply Fil.cons GE GE GE (by repeat constructor))) (hl:Nat.ble (len * m) 1000=true:=by rfl) (hm:Nat.blt 0 m=true:=by rfl) (hlen:Nat.blt 0 len=true:=by rfl) (hd:Nat.blt d c.n=true:=by rfl) :
  Ef c fr H ⟨some d,.buildSlice t len ps.toArray,ty,pos,Cf,gd⟩ Φ:=P4 fun Q a w s g=>by
 have hm0:m≠0:=by have:0 < m:=by simpa using hm
                  omega
 have hlen0:len≠0:=by have:0 < len:=by simpa using hlen
                      omega
 have hl2:len * m≤1000:=HQ
 obtain ⟨i,hi,hz⟩:=Option.map_eq_some_iff.1 hE.i;simp only [Prod.mk.injEq] at hz;obtain ⟨hz,hs, -⟩:=hz;obtain ⟨z',hz',hzc⟩:=hZ.z;obtain rfl:z'=z:=by rw [hi] at hz';simp [hz] at hz';exact hz'.symm
 have hzl:zs.length=m:=by have:=hE.s;rw [hzc] at this;simpa using this
 have e2:((Array.range (len * m)).map (zs.toArray[· % zs.toArray.size]!))=cs.toArray:=by
  have:=Ol zs.toArray len;rw [hc.eq];apply Array.ext';rw [show zs.toArray.size=m from by simp [hzl]] at this;simpa [madeCells] using this
 have e1:(execOp a.eval ⟨some d,.buildSlice t len ps.toArray,ty,pos,Cf,gd⟩).run c.P w=.ok (.value (.slice (some ⟨w.heap.size,0,none⟩) len len)) (w.alloc (.cells q.toArray e)):=by
  have h3:=hf.run g;have hne:¬(len * m=0):=Nat.mul_ne_zero hlen0 hm0;have hns:¬(len * m > 2 ^ 24):=FH
  have hzv:(zeroValue e).run c.P w=.ok z' w:=by simp [zeroValue,typeInfo,hi,hz]
  simp only [execOp,Instr.buildSlice,Sem.run_bind,run_underlying hS.u,Nj hS.s,Result.andThen_ok,if_neg hns,if_neg hne,hzv,hzc,Sem.run_pure,Sem.run_ite,e2];simp only [List.map_toArray,h3,newRow,Sem.run_bind,run_newObj_alloc,Result.andThen_ok,Sem.run_pure]
 rw [e1];exact (h _).h _ _ (s.new e q) (g.put hd)
theorem Mp {t e m:Nat} [SlC c.P t e m] (hd:Nat.blt d c.n=true) (h:∀g,T c ((d,.slice (some ⟨g,0,none⟩) 0 0)::fr) (.row g e 0 [] [] []::H) Φ):On c fr H (some d) (.buildSlice t 0 #[]) ty Φ:=⟨fun _ _ _=>bs0 h hd⟩
theorem Ll {zs:List Value} {n:Nat} {q:List Value} (h:Rpt zs n q:=by repeat constructor):Rpt zs n q:=h
theorem Lr {t e m b len:Nat} {z:Value} {zs cs q:List Value} {ps:List (Nat × Operand)} [SlC c.P t e m] [ElT c.P e z m b] [ZC c.P e zs] (hd:Nat.blt d c.n=true) (hlen:Nat.blt 0 len=true) (hm:Nat.blt 0 m=true) (hl:Nat.ble (len * m) 1000=true) (hc:Rpt zs len cs) (hf:Fil (fun i=>some (i * m,m)) fr cs ps q) (h:∀g,T c ((d,.slice (some ⟨g,0,none⟩) len len)::fr) (.row g e 0 [] q []::H) Φ) :
  On c fr H (some d) (.buildSlice t len ps.toArray) ty Φ:=⟨fun _ _ _=>bs h hc hf hl hm hlen hd⟩
end
end Go.Proofs.YtcmighgaiacgoaaGreatDoor
