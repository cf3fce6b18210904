/- Part 1 of the proof: 31 texts, one behind the other. -/
import Derived.WalkKit
import Derived.Lib.Hide
import Derived.Deep.Draws
import Derived.Deep.AppendLies
import Derived.OwnWalk
import Derived.Test.YtkblpelckhegbaaGreatDoorRows
import Derived.WalkSpells
import Derived.WalkLawsBesides
import Derived.Deep.QuietTactic
import Derived.BigQuiet
import Derived.Deep.RegionHeld3
import Derived.Deep.OwnRows
import Derived.Lib.SliceRun
import Derived.Deep.RegionHeld
import Derived.Deep.MidRow
import Derived.IntWalk
import Derived.Laws.Strings
open _root_.Go.Proofs.Tryz
set_option maxRecDepth 100000
set_option maxHeartbeats 8000000
set_option linter.all false
set_option linter.unusedVariables false
set_option linter.unusedSimpArgs false
namespace Go.Proofs.YtkblpelckhegbaaGreatDoor
theorem AM{p:Prop}(h:p:=by exact ⟨⟨k+1,by omega,by go_num,fun j hj hl=>by rcases Nat.lt_or_eq_of_le (Nat.le_of_lt_succ hj) with h|h;exact hz0.out j h hl;subst h;exact hpk.out,hB⟩,by simp [intOf];omega⟩):p:=h
theorem AV{p:Prop}(h:p:=by simp only [execOp,Option.map_none,Option.map_some,hA.ev hx,hA.ev hy,Sem.run_bind,h3,Result.andThen_ok,Sem.run_pure]):p:=h
theorem BN{p:Prop}(h:p:=by exact ⟨⟨q+1,m+1,F2,by omega,by omega,by rw [Da hlt (by simp [hpq.out]),hys.out];have:=hlen.out;omega,by rw [Da hlt (by simp [hpq.out]),hys.out],by go_num,by rw [Da hlt (by simp [hpq.out]),hys.out];exact hg2.out.below hbb,fun b hb=>hF1 b (hF2 b hb),hK.trans (D6.ofBelow hbb)⟩,by simp [intOf];omega⟩):p:=h
theorem DD{p:Prop}(h:p:=by refine ⟨_,F2,rfl,by rw [hys.out];exact hO.out,hn2,fun b hb=>hF1 b (hF2 b hb),hK.trans ?_⟩;rw [←Nj wr];exact (Mu _ _ _).mono (fun b hb _=>by simp at hb;subst hb;exact hgF)):p:=h
theorem DI{p:Prop}(h:p:=by exact ⟨If (N6 (fun j hj=>hz.out j (by omega) hj)).symm,hB⟩):p:=h
theorem DP{p:Prop}(h:p:=by simp only [Instr.loadAt,Instr.sureAddr,Sem.run_bind,Sem.run_pure,Result.andThen_ok,Nat.add_zero] at h1;simp [List.mapM_cons,f2,g.at_ _ _ hl,Iq,Ag9,h1,ih]):p:=h
theorem DU{p:Prop}(h:p:=by rw [List.length_map];exact Nat.le_trans (List.length_filter_le _ _) (by simp)):p:=h
theorem EE{p:Prop}(h:p:=by exact ⟨rfl,rfl⟩):p:=h
theorem EM{p:Prop}(h:p:=by simp only [execOp,hA.ev hx,hA.ev hy,eqGuard_at_bool,e,Sem.run_bind,Sem.run_pure,Result.andThen_ok,Ahq];cases a <;> cases b <;> rfl):p:=h
theorem EN{p:Prop}(h:p:=by simpa using this):p:=h
theorem ES{p:Prop}(h:p:=by exact ⟨⟨k+1,by omega,by go_num,by refine Lib.hid ?_;rw [hz.out];rw [Agw] at h2;simp [Qy,h1,h2]⟩,by simp [intOf];omega⟩):p:=h
theorem EU{p:Prop}(h:p:=by subst hji;exact hy.wpOp hi hS ⟨fun _=>hS,H⟩):p:=h
theorem EW{p:Prop}(h:p:=by exact ⟨If (Pp hlt hz0.out hpk.out).symm,hB⟩):p:=h
theorem FJ{p:Prop}(h:p:=by omega):p:=h
theorem FK{p:Prop}(h:p:=by simp):p:=h
theorem FL{p:Prop}(h:p:=by kernel_rfl):p:=h
theorem FM{p:Prop}(h:p:=by decide):p:=h
theorem FO{p:Prop}(h:p:=by exact A9):p:=h
theorem FP{p:Prop}(h:p:=by repeat (first|exact .here|apply Co.there)):p:=h
theorem FR{p:Prop}(h:p:=by simp;omega):p:=h
theorem FY{p:Prop}(h:p:=by simp [hb]):p:=h
theorem GB{p:Prop}(h:p:=by repeat (first|exact Below.refl _ _|refine Below.setCell ?_ (by simp <;> omega) _|refine Below.alloc ?_ (by simp <;> omega) _)):p:=h
theorem GC{p:Prop}(h:p:=by unfold maxLen;omega):p:=h
theorem GE{p:Prop}(h:p:=by simpa using h):p:=h
theorem GF{p:Prop}(h:p:=by simp <;> omega):p:=h
theorem GG{p:Prop}(h:p:=by rfl):p:=h
theorem GH{p:Prop}(h:p:=by obtain ⟨v1,rfl,h1⟩:=h;exact ⟨v1,rfl,h1.frame hF⟩):p:=h
theorem GI{p:Prop}(h:p:=by assumption):p:=h
theorem GJ{p:Prop}(h:p:=by obtain ⟨v1,v2,F1,F2,rfl,h1,h2,rfl⟩:=h;exact ⟨v1,v2,F1,F2,rfl,h1.frame fun b hb=>hF b (by simp [hb]),h2.frame fun b hb=>hF b (by simp [hb]),rfl⟩):p:=h
theorem GL{p:Prop}(h:p:=by obtain ⟨v1,v2,v3,v4,v5,v6,v7,F1,F2,F3,F4,F5,F6,F7,rfl,h1,h2,h3,h4,h5,h6,h7,rfl⟩:=h;exact ⟨v1,v2,v3,v4,v5,v6,v7,F1,F2,F3,F4,F5,F6,F7,rfl,h1.frame fun b hb=>hF b (by simp [hb]),h2.frame fun b hb=>hF b (by simp [hb]),h3.frame fun b hb=>hF b (by simp [hb]),h4.frame fun b hb=>hF b (by simp [hb]),h5.frame fun b hb=>hF b (by simp [hb]),h6.frame fun b hb=>hF b (by simp [hb]),h7.frame fun b hb=>hF b (by simp [hb]),rfl⟩):p:=h
theorem GR{p:Prop}(h:p:=by simp [hq]):p:=h
theorem GT{p:Prop}(h:p:=by simp [intOf];omega):p:=h
theorem GU{p:Prop}(h:p:=by rw [he2];exact hS.u):p:=h
theorem GX{p:Prop}(h:p:=by obtain ⟨v1,rfl,h1⟩:=h;rfl):p:=h
theorem HD{p:Prop}(h:p:=by intro x hx;simp [Pc.F] at hx;subst hx;exact hb):p:=h
theorem HH{p:Prop}(h:p:=by simpa using hr):p:=h
theorem HI{p:Prop}(h:p:=by rw [List.length_append];omega):p:=h
theorem HL{p:Prop}(h:p:=by obtain ⟨v1,rfl,h1⟩:=h;exact h1.lt (by decide)):p:=h
theorem HM{p:Prop}(h:p:=by unfold maxLen at hl;simp;omega):p:=h
theorem HN{p:Prop}(h:p:=by simpa using s):p:=h
theorem HP{p:Prop}(h:p:=by simpa using hl):p:=h
theorem HV{p:Prop}(h:p:=by unfold Ze;split <;> omega):p:=h
theorem HX{p:Prop}(h:p:=by go_num):p:=h
theorem IA{p:Prop}(h:p:=by obtain ⟨v1,rfl,h1⟩:=h;exact h1.lt):p:=h
theorem IB{p:Prop}(h:p:=by rw [Da hk0 (by simp [hpk]),hfl];simp;omega):p:=h
theorem IC{p:Prop}(h:p:=by simp [hp]):p:=h
theorem IG{p:Prop}(h:p:=by (repeat (first|exact .here|apply Co.there));first|done|fail):p:=h
theorem IH{p:Prop}(h:p:=by simpa using h2):p:=h
theorem IK{p:Prop}(h:p:=by rw [h] at hr;cases hr):p:=h
theorem IL{p:Prop}(h:p:=by obtain ⟨v1,v2,F1,F2,rfl,h1,h2,rfl⟩:=h;rfl):p:=h
theorem IR{p:Prop}(h:p:=by simpa using hj):p:=h
theorem IS{p:Prop}(h:p:=by simpa using h1):p:=h
theorem IU{p:Prop}(h:p:=by simpa using h3):p:=h
theorem IY{p:Prop}(h:p:=by simpa using hi):p:=h
theorem IZ{p:Prop}(h:p:=by have:=s[k].toNat_lt;omega):p:=h
theorem JB{p:Prop}(h:p:=by simpa using e):p:=h
theorem JC{p:Prop}(h:p:=by simp [hx]):p:=h
theorem JG{p:Prop}(h:p:=by rw [List.getElem?_append_right (by omega),show c1.length+j - c1.length=j by omega];exact hu):p:=h
theorem JJ{p:Prop}(h:p:=by simpa using hA.ow):p:=h
theorem JQ{p:Prop}(h:p:=by simp [hpq.out]):p:=h
theorem JR{p:Prop}(h:p:=by simp [hz]):p:=h
theorem JS{p:Prop}(h:p:=by simp [h]):p:=h
theorem JW{p:Prop}(h:p:=by simpa using hA):p:=h
theorem JX{p:Prop}(h:p:=by obtain ⟨v1,v2,v3,v4,v5,v6,v7,F1,F2,F3,F4,F5,F6,F7,rfl,h1,h2,h3,h4,h5,h6,h7,rfl⟩:=h;rfl):p:=h
theorem JY{p:Prop}(h:p:=by simp [hc]):p:=h
theorem KI{p:Prop}(h:p:=by simp [Program.elem,hS.u]):p:=h
theorem KT{p:Prop}(h:p:=by simpa using hm):p:=h
theorem KU{p:Prop}(h:p:=by simp [Pc.F]):p:=h
theorem KV{p:Prop}(h:p:=by (repeat (refine D6.setCell ?_ hgF _));exact hK.trans (D6.ofBelow hbb)):p:=h
theorem KY{p:Prop}(h:p:=by simp [hpk]):p:=h
theorem LB{p:Prop}(h:p:=by simp [h.1]):p:=h
theorem LC{p:Prop}(h:p:=by rw [Hx hlt (by simp [hpq.out]),hys.out];have:=hlen.out;simp;omega):p:=h
theorem LD{p:Prop}(h:p:=by rw [Hx hlt (by simp [hpq.out]),hys.out,List.length_append];go_num):p:=h
end Go.Proofs.YtkblpelckhegbaaGreatDoor
namespace Go.Proofs.YtkblpelckhegbaaGreatDoor
open Go.RowKit
abbrev RB (b:Value) (w:World):Ending→World→Prop:=fun e w2=>e=.returned b∧Below w.heap.size w w2
end Go.Proofs.YtkblpelckhegbaaGreatDoor
namespace Go.Proofs.YtkblpelckhegbaaGreatDoor
open Go.RowKit
theorem kc {w w':World} {a:Addr} {v:Value} (hb:Below w.heap.size w w') (h:w.cell? a=some v):w'.cell? a=some v :=
 (hb.cell (World.block_lt_of_cell? w a h)).trans h
theorem kf {w w':World} {a:Addr} {v:Value} (hb:Below w.heap.size w w') (h:w.cell? a=some v):w'.frozen? a=w.frozen? a :=
 hb.frozen (World.block_lt_of_cell? w a h)
theorem tr {B:Nat} {w w1 w2:World} (h:Below B w w1) (h':Below w1.heap.size w1 w2) (hB:B≤w.heap.size):Below B w w2:=h.trans (h'.mono (Nat.le_trans hB h.size))
structure Br (α:Type) where
 sz:Nat
 Ky:World→List Value→α→List Nat→Prop
 len:∀{w cs x F},Ky w cs x F→cs.length=sz
 lt:∀{w cs x F},Ky w cs x F→∀b∈F,b < w.heap.size
 frame:∀{w w':World} {cs x F},Ky w cs x F→(∀b∈F,w'.heap[b]?=w.heap[b]?)→Ky w' cs x F
def Pn {α:Type} (E:Br α) (w:World) (b:Nat):Nat→List α→List Nat→Prop
 | _,[],F=>F=[]
 | off,x::r,F=>∃cs F1 F2,F=F1++F2∧E.Ky w cs x F1∧(∀j,j < E.sz→w.cell? ⟨b,off+j,none⟩=cs[j]?)∧Pn E w b (off+E.sz) r F2
def Sl {α:Type} (E:Br α) (w:World) (v:Value) (xs:List α) (F:List Nat):Prop :=
 ∃a cap,v=.slice a xs.length cap∧(xs.length≤cap∧cap≤maxLen) ∧
  ((xs=[]∧F=[]∧(a=none→cap=0))∨∃b off F',a=some ⟨b,off,none⟩∧xs≠[]∧F=b::F'∧Pn E w b off xs F')
theorem Pn.lt {α:Type} {E:Br α} {w:World} {b:Nat}:∀{xs:List α} {off:Nat} {F:List Nat},Pn E w b off xs F→∀c∈F,c < w.heap.size
 | [],_,_,h=>by simp [Pn] at h;simp [h]
 | _::r,_,_,h=>by
  obtain ⟨cs,F1,F2,rfl,h1,_,h2⟩:=h;intro c hc;rcases List.mem_append.1 hc with hc|hc
  ·exact E.lt h1 c hc
  ·exact Pn.lt h2 c hc
theorem Pn.frame {α:Type} {E:Br α} {w w':World} {b:Nat} (hb:w'.heap[b]?=w.heap[b]?):∀{xs:List α} {off:Nat} {F:List Nat},Pn E w b off xs F →
  (∀c∈F,w'.heap[c]?=w.heap[c]?)→Pn E w' b off xs F
 | [],_,_,h,_=>h
 | _::r,_,_,h,hF=>by
  obtain ⟨cs,F1,F2,rfl,h1,hc,h2⟩:=h;refine ⟨cs,F1,F2,rfl,E.frame h1 fun c hc=>hF c JY,fun j hj=>?_,Pn.frame hb h2 fun c hc=>hF c JY⟩;rw [World.cell?_of_block (w:=w) hb];exact hc j hj
theorem Pn.get {α:Type} {E:Br α} {w:World} {b:Nat}:∀{xs:List α} {off:Nat} {F:List Nat},Pn E w b off xs F→∀(i:Nat) (hi:i < xs.length),
  ∃cs F1,E.Ky w cs xs[i] F1∧(∀j,j < E.sz→w.cell? ⟨b,off+i * E.sz+j,none⟩=cs[j]?)∧∀c∈F1,c∈F
 | [],_,_,_,i,hi=>by simp at hi
 | x::r,off,_,h,0,_=>by
  obtain ⟨cs,F1,F2,rfl,h1,hc,h2⟩:=h;exact ⟨cs,F1,h1,by simpa using hc,fun c hc=>by simp [hc]⟩
 | x::r,off,_,h,i+1,hi=>by
  obtain ⟨cs,F1,F2,rfl,h1,hc,h2⟩:=h;obtain ⟨cs',F3,h3,hc3,hm⟩:=Pn.get h2 i IY;refine ⟨cs',F3,IU,fun j hj=>?_,fun c hc=>by simp [hm c hc]⟩;rw [←hc3 j hj,show off+(i+1) * E.sz+j=off+E.sz+i * E.sz+j by rw [Nat.add_mul];omega]
theorem Pn.block {α:Type} {E:Br α} {w:World} {b off:Nat} {xs:List α} {F:List Nat} (h:Pn E w b off xs F) (hne:xs≠[]) (hz:0 < E.sz):b < w.heap.size:=by
 cases xs with
 | nil=>exact absurd rfl hne
 | cons x r =>
  obtain ⟨cs,F1,F2,rfl,h1,hc,h2⟩:=h;have h0:=hc 0 hz;have hl:=E.len h1;rw [List.getElem?_eq_getElem FJ] at h0;exact World.block_lt_of_cell? w _ h0
theorem Sl.lt {α:Type} {E:Br α} (hz:0 < E.sz) {w v xs F} (h:Sl E w v xs F):∀c∈F,c < w.heap.size:=by
 obtain ⟨a,cap,_,_,⟨_,rfl,_⟩|⟨b,off,F',_,hne,rfl,hc⟩⟩:=h
 ·simp
 ·intro c hm;rcases List.mem_cons.1 hm with rfl|hm
  ·exact hc.block hne hz
  ·exact hc.lt c hm
theorem Sl.frame {α:Type} {E:Br α} {w w':World} {v xs F} (h:Sl E w v xs F) (hF:∀b∈F,w'.heap[b]?=w.heap[b]?):Sl E w' v xs F:=by
 obtain ⟨a,cap,hv,hl,⟨h1,h2⟩|⟨b,off,F',h1,hne,rfl,hc⟩⟩:=h
 ·exact ⟨a,cap,hv,hl,.inl ⟨h1,h2⟩⟩
 ·exact ⟨a,cap,hv,hl,.inr ⟨b,off,F',h1,hne,rfl,hc.frame (hF b FK) fun c hc=>hF c JY⟩⟩
theorem Sl.below {α:Type} {E:Br α} (hz:0 < E.sz) {w w':World} {v xs F} (h:Sl E w v xs F) (hb:Below w.heap.size w w'):Sl E w' v xs F :=
 h.frame fun c hc=>hb.block c (h.lt hz c hc)
def Bb:Br Int where
 sz:=1
 Ky _ cs z F:=cs=[.int .i64 z]∧F=[]
 len h:=LB
 lt h:=by simp [h.2]
 frame h _:=h
def Auf:Br Bool where
 sz:=1
 Ky _ cs z F:=cs=[.bool z]∧F=[]
 len h:=LB
 lt h:=by simp [h.2]
 frame h _:=h
def A8:Br ByteArray where
 sz:=1
 Ky _ cs s F:=cs=[.string s]∧s.size≤maxLen∧F=[]
 len h:=LB
 lt h:=by simp [h.2.2]
 frame h _:=h
def Mr {α:Type} (E:Br α) (hz:0 < E.sz):Br (List α) where
 sz:=1
 Ky w cs xs F:=∃v,cs=[v]∧Sl E w v xs F
 len h:=by obtain ⟨v,rfl,_⟩:=h;rfl
 lt h:=by obtain ⟨v,rfl,h⟩:=h;exact h.lt hz
 frame h hF:=by obtain ⟨v,rfl,h⟩:=h;exact ⟨v,rfl,h.frame hF⟩
def Sg:Br Unit where
 sz:=0
 Ky _ cs _ F:=cs=[]∧F=[]
 len h:=LB
 lt h:=by simp [h.2]
 frame h _:=h
def Ho {α β:Type} (A:Br α) (B:Br β):Br (α × β) where
 sz:=A.sz+B.sz
 Ky w cs x F:=∃c1 c2 F1 F2,cs=c1++c2∧F=F1++F2∧A.Ky w c1 x.1 F1∧B.Ky w c2 x.2 F2
 len h:=by obtain ⟨c1,c2,F1,F2,rfl,rfl,h1,h2⟩:=h;simp [A.len h1,B.len h2]
 lt h:=by
  obtain ⟨c1,c2,F1,F2,rfl,rfl,h1,h2⟩:=h;intro b hb;rcases List.mem_append.1 hb with hb|hb
  ·exact A.lt h1 b hb
  ·exact B.lt h2 b hb
 frame h hF:=by
  obtain ⟨c1,c2,F1,F2,rfl,rfl,h1,h2⟩:=h;exact ⟨c1,c2,F1,F2,rfl,rfl,A.frame h1 fun b hb=>hF b FY,B.frame h2 fun b hb=>hF b FY⟩
def Br.comap {α β:Type} (B:Br β) (f:α→β):Br α where
 sz:=B.sz
 Ky w cs x F:=B.Ky w cs (f x) F
 len h:=B.len h
 lt h:=B.lt h
 frame h hF:=B.frame h hF
theorem Br.below {α:Type} (E:Br α) {w w':World} {cs x F} (h:E.Ky w cs x F) (hb:Below w.heap.size w w'):E.Ky w' cs x F :=
 E.frame h fun c hc=>hb.block c (E.lt h c hc)
structure Bgw where
 Je:ByteArray
 Hh:ByteArray
def Biy:Br Bgw:=(Ho A8 (Ho A8 Sg)).comap fun x=>(x.Je,x.Hh,())
theorem Biy.open {w cs x F} (h:Biy.Ky w cs x F):cs=[.string x.Je,.string x.Hh]∧x.Je.size≤maxLen∧x.Hh.size≤maxLen:=by
 obtain ⟨c1,c2,F1,F2,rfl,rfl,⟨rfl,h1,_⟩,c3,c4,F3,F4,rfl,rfl,⟨rfl,h2,_⟩,rfl,_⟩:=h;exact ⟨rfl,h1,h2⟩
structure D6 (F:List Nat) (w w':World):Prop where
 os:w'.os=w.os
 tape:w'.tape=w.tape
 output:w'.output=w.output
 size:w.heap.size≤w'.heap.size
 block:∀k,k < w.heap.size→k ∉ F→w'.heap[k]?=w.heap[k]?
theorem D6.refl (F:List Nat) (w:World):D6 F w w:=⟨rfl,rfl,rfl,Nat.le_refl _,fun _ _ _=>rfl⟩
theorem D6.trans {F:List Nat} {a b c:World} (h:D6 F a b) (k:D6 F b c):D6 F a c :=
 ⟨k.os.trans h.os,k.tape.trans h.tape,k.output.trans h.output,Nat.le_trans h.size k.size,fun i hi hf=>(k.block i (Nat.lt_of_lt_of_le hi h.size) hf).trans (h.block i hi hf)⟩
theorem D6.mono {F G:List Nat} {a b:World} (h:D6 F a b) (hs:∀x∈F,x < a.heap.size→x∈G):D6 G a b :=
 ⟨h.os,h.tape,h.output,h.size,fun k hk hg=>h.block k hk fun hf=>hg (hs k hf hk)⟩
theorem D6.ofBelow {F:List Nat} {w w':World} (h:Below w.heap.size w w'):D6 F w w':=⟨h.os,h.tape,h.output,h.size,fun k hk _=>h.block k hk⟩
theorem D6.below {F:List Nat} {w w':World} {B:Nat} (h:D6 F w w') (hB:B≤w.heap.size) (hF:∀b∈F,B≤b):Below B w w' :=
 ⟨h.os,h.tape,h.output,h.size,fun k hk=>h.block k FJ fun hf=>by have:=hF k hf;omega⟩
theorem D6.setCell {F:List Nat} {w w':World} (h:D6 F w w') {p:Addr} (hp:p.block∈F) (u:Value):D6 F w (w'.setCell p u) :=
 h.trans ⟨rfl,rfl,rfl,by simp [World.setCell],fun k _ hf=>Below.heap_setCell _ _ _ _ (fun e=>hf (e▸hp))⟩
theorem D6.alloc {F:List Nat} {w w':World} (h:D6 F w w') (o:Obj):D6 F w (w'.alloc o) :=
 h.trans ⟨rfl,rfl,rfl,FK,fun k hk _=>Below.heap_alloc _ _ _ hk⟩
theorem D6.drewN {F:List Nat} {w w':World} (h:D6 F w w') (n:Nat):D6 F w (w'.drewN n):=⟨h.os,h.tape,h.output,h.size,h.block⟩
theorem D6.cell {F:List Nat} {w w':World} (h:D6 F w w') {a:Addr} {v:Value} (ha:a.block ∉ F) (hc:w.cell? a=some v):w'.cell? a=some v :=
 (World.cell?_of_block (w:=w) (h.block a.block (World.block_lt_of_cell? w a hc) ha)).trans hc
theorem D7 {B:Nat} {a w:World} (h:Below B a w) (n:Nat):Below B a (w.drewN n):=⟨h.os,h.tape,h.output,h.size,h.block⟩
def Ir (w:World) (g:Nat) (t:TypeId) (cs:List Value):Prop:=w.heap[g]?=some (.cells cs.toArray t (0,0))
theorem Ir.lt {w g t cs} (h:Ir w g t cs):g < w.heap.size:=by
 rcases Nat.lt_or_ge g w.heap.size with h1|h1
 ·exact h1
 ·rw [Ir,Array.getElem?_eq_none h1] at h;simp at h
theorem Ir.cell {w g t cs} (h:Ir w g t cs) (j:Nat):w.cell? ⟨g,j,none⟩=cs[j]?:=by
 simp [World.cell?,show w.heap[g]?=_ from h]
theorem Ir.frozen {w g t cs} (h:Ir w g t cs) (j:Nat):w.frozen? ⟨g,j,none⟩=false:=by
 simp [World.frozen?,show w.heap[g]?=_ from h]
theorem Ir.Jd {w w' g t cs} (h:Ir w g t cs) (e:w'.heap[g]?=w.heap[g]?):Ir w' g t cs:=e.trans h
theorem Ir.below {w w' g t cs} (h:Ir w g t cs) (hb:Below w.heap.size w w'):Ir w' g t cs:=h.Jd (hb.block g h.lt)
theorem Ir.set {w g t cs} (h:Ir w g t cs) (j:Nat) (u:Value):Ir (w.setCell ⟨g,j,none⟩ u) g t (cs.set j u):=by
 have h':w.heap[g]?=_:=h;simp [Ir,World.setCell,Array.getElem?_modify,h']
theorem Ir.setOther {w g t cs} (h:Ir w g t cs) {p:Addr} (hp:p.block≠g) (u:Value):Ir (w.setCell p u) g t cs :=
 h.Jd (Below.heap_setCell _ _ _ _ (fun e=>hp e.symm))
theorem Ir.cells {w g t cs} (h:Ir w g t cs):∀j,w.cell? ⟨g,j,none⟩=cs[j]?:=h.cell
theorem Ir.frozens {w g t cs} (h:Ir w g t cs):∀j,w.frozen? ⟨g,j,none⟩=false:=h.frozen
theorem Ir.made (w:World) (t:TypeId) (cs:List Value):Ir (w.alloc (.cells cs.toArray t)) w.heap.size t cs:=heap_alloc_new w _
theorem Ir.alloc {w g t cs} (h:Ir w g t cs) (o:Obj):Ir (w.alloc o) g t cs:=h.Jd (Below.heap_alloc _ _ _ h.lt)
theorem Jq (w:World) (o:Obj) (g:Nat) (t:TypeId) (cs:List Value):Ir (w.alloc o) g t cs↔if g=w.heap.size then o=.cells cs.toArray t (0,0) else Ir w g t cs:=by
 unfold Ir;show (w.heap.push o)[g]?=_↔_;rw [Array.getElem?_push]
 split <;> simp
def C1 {α:Type} (E:Br α) (w:World):List Value→List α→List Nat→Prop
 | cs,[],G=>cs=[]∧G=[]
 | cs,x::r,G=>∃c1 c2 F1 F2,cs=c1++c2∧G=F1++F2∧E.Ky w c1 x F1∧C1 E w c2 r F2
section
variable {α:Type} {E:Br α}
theorem C1.len {w:World}:∀{xs:List α} {cs:List Value} {G:List Nat},C1 E w cs xs G→cs.length=xs.length * E.sz
 | [],_,_,h=>by simp [h.1]
 | x::r,_,_,h=>by
  obtain ⟨c1,c2,F1,F2,rfl,rfl,h1,h2⟩:=h;rw [List.length_append,E.len h1,h2.len,List.length_cons,Nat.add_mul];omega
theorem C1.lt {w:World}:∀{xs:List α} {cs:List Value} {G:List Nat},C1 E w cs xs G→∀b∈G,b < w.heap.size
 | [],_,_,h=>by simp [h.2]
 | x::r,_,_,h=>by
  obtain ⟨c1,c2,F1,F2,rfl,rfl,h1,h2⟩:=h;intro b hb;rcases List.mem_append.1 hb with hb|hb
  ·exact E.lt h1 b hb
  ·exact h2.lt b hb
theorem C1.frame {w w':World}:∀{xs:List α} {cs:List Value} {G:List Nat},C1 E w cs xs G→(∀b∈G,w'.heap[b]?=w.heap[b]?)→C1 E w' cs xs G
 | [],_,_,h,_=>h
 | x::r,_,_,h,hG=>by
  obtain ⟨c1,c2,F1,F2,rfl,rfl,h1,h2⟩:=h;exact ⟨c1,c2,F1,F2,rfl,rfl,E.frame h1 fun b hb=>hG b FY,h2.frame fun b hb=>hG b FY⟩
theorem C1.append {w:World}:∀{xs ys:List α} {cs ds:List Value} {G H:List Nat},C1 E w cs xs G→C1 E w ds ys H→C1 E w (cs++ds) (xs++ys) (G++H)
 | [],_,_,_,_,_,h,k=>by obtain ⟨rfl,rfl⟩:=h;simpa using k
 | x::r,_,_,_,_,_,h,k=>by
  obtain ⟨c1,c2,F1,F2,rfl,rfl,h1,h2⟩:=h;exact ⟨c1,_,F1,_,by rw [List.append_assoc],by rw [List.append_assoc],h1,h2.append k⟩
theorem C1.one {w:World} {x:α} {cs:List Value} {G:List Nat} (h:E.Ky w cs x G):C1 E w cs [x] G:=⟨cs,[],G,[],FK,FK,h,rfl,rfl⟩
theorem C1.split {w:World}:∀{xs ys:List α} {cs:List Value} {G:List Nat},C1 E w cs (xs++ys) G→∃c1 c2 G1 G2,cs=c1++c2∧G=G1++G2∧C1 E w c1 xs G1∧C1 E w c2 ys G2
 | [],_,cs,G,h=>⟨[],cs,[],G,rfl,rfl,⟨rfl,rfl⟩,h⟩
 | x::r,_,_,_,h=>by
  obtain ⟨c1,c2,F1,F2,rfl,rfl,h1,h2⟩:=h;obtain ⟨d1,d2,G1,G2,rfl,rfl,h3,h4⟩:=h2.split;exact ⟨c1++d1,d2,F1++G1,G2,FK,FK,⟨c1,d1,F1,G1,rfl,rfl,h1,h3⟩,h4⟩
theorem C1.focus {w:World} {xs:List α} {cs:List Value} {G:List Nat} (h:C1 E w cs xs G) (i:Nat) (hi:i < xs.length) :
  ∃A c B G1 Fi G2,cs=A++c++B∧G=G1++Fi++G2∧A.length=i * E.sz∧c.length=E.sz∧C1 E w A (xs.take i) G1∧E.Ky w c xs[i] Fi∧C1 E w B (xs.drop (i+1)) G2:=by
 have e:xs=xs.take i++xs[i]::xs.drop (i+1):=FK
 rw [e] at h;obtain ⟨A,c2,G1,G2,rfl,rfl,h1,c,B,F1,F2,rfl,rfl,h2,h3⟩:=h.split;exact ⟨A,c,B,G1,F1,F2,FK,FK,by rw [h1.len,List.length_take,Nat.min_eq_left FJ],E.len h2,h1,h2,h3⟩
theorem C1.build {w:World} {xs:List α} {A c B:List Value} {G1 Fi G2:List Nat} {i:Nat} (hi:i < xs.length) {x:α} (h1:C1 E w A (xs.take i) G1) (h2:E.Ky w c x Fi) (h3:C1 E w B (xs.drop (i+1)) G2) :
  C1 E w (A++c++B) (xs.set i x) (G1++Fi++G2):=by
 have e:xs.set i x=xs.take i++[x]++xs.drop (i+1):=by
  rw [List.set_eq_take_append_cons_drop];simp [hi]
 rw [e];exact (h1.append (C1.one h2)).append h3
def Ow (E:Br α) (t:TypeId) (w:World) (v:Value) (xs:List α) (F:List Nat):Prop :=
 (v=.slice none 0 0∧xs=[]∧F=[]) ∨
 ∃g cap cs rest G,v=.slice (some ⟨g,0,none⟩) xs.length cap∧Ir w g t (cs++rest)∧xs.length≤cap∧cap≤maxLen∧cs.length+rest.length=cap * E.sz∧C1 E w cs xs G∧F=g::G
theorem Ow.lt {t:TypeId} {w v} {xs:List α} {F} (h:Ow E t w v xs F):∀b∈F,b < w.heap.size:=by
 rcases h with ⟨_,_,rfl⟩|⟨g,cap,cs,rest,G,_,hr,_,_,_,hf,rfl⟩
 ·simp
 ·intro b hb;rcases List.mem_cons.1 hb with rfl|hb
  ·exact hr.lt
  ·exact hf.lt b hb
theorem Ow.frame {t:TypeId} {w w':World} {v} {xs:List α} {F} (h:Ow E t w v xs F) (hF:∀b∈F,w'.heap[b]?=w.heap[b]?):Ow E t w' v xs F:=by
 rcases h with h|⟨g,cap,cs,rest,G,hv,hr,h1,h2,h3,hf,rfl⟩
 ·exact .inl h
 ·exact .inr ⟨g,cap,cs,rest,G,hv,hr.Jd (hF g FK),h1,h2,h3,hf.frame fun b hb=>hF b FY,rfl⟩
theorem Ow.below {t:TypeId} {w w':World} {v} {xs:List α} {F} (h:Ow E t w v xs F) (hb:Below w.heap.size w w'):Ow E t w' v xs F :=
 h.frame fun b h'=>hb.block b (h.lt b h')
theorem Ow.Jd {t:TypeId} {w w':World} {v} {xs:List α} {F K} (h:Ow E t w v xs F) (hk:D6 K w w') (hd:∀b∈F,b ∉ K):Ow E t w' v xs F :=
 h.frame fun b h'=>hk.block b (h.lt b h') (hd b h')
theorem Ow.setFar {t:TypeId} {w:World} {v} {xs:List α} {F} (h:Ow E t w v xs F) {p:Addr} (hp:p.block ∉ F) (u:Value):Ow E t (w.setCell p u) v xs F :=
 h.frame fun b hb=>Below.heap_setCell _ _ _ _ fun e=>hp (e▸hb)
theorem Ow.len {t:TypeId} {w v} {xs:List α} {F} (h:Ow E t w v xs F):xs.length≤maxLen:=by
 rcases h with ⟨_,rfl,_⟩|⟨g,cap,cs,rest,G,_,_,h1,h2,_⟩
 ·simp
 ·omega
theorem Ow.slice {t:TypeId} {w v} {xs:List α} {F} (h:Ow E t w v xs F):∃a cap,v=.slice a xs.length cap:=by
 rcases h with ⟨rfl,rfl,_⟩|⟨g,cap,cs,rest,G,rfl,_⟩
 ·exact ⟨none,0,rfl⟩
 ·exact ⟨_,_,rfl⟩
theorem Ow.focus {t:TypeId} {w v} {xs:List α} {F} (h:Ow E t w v xs F) (i:Nat) (hi:i < xs.length) :
  ∃g cap A c B G1 Fi G2,v=.slice (some ⟨g,0,none⟩) xs.length cap∧Ir w g t (A++c++B)∧A.length=i * E.sz∧c.length=E.sz∧E.Ky w c xs[i] Fi∧F=g::(G1++Fi++G2) ∧
   (∀b∈G1++G2,b < w.heap.size) ∧
   ∀w' c' x' Fi',Ir w' g t (A++c'++B)→E.Ky w' c' x' Fi'→(∀b∈G1++G2,w'.heap[b]?=w.heap[b]?)→Ow E t w' v (xs.set i x') (g::(G1++Fi'++G2)):=by
 rcases h with ⟨_,rfl,_⟩|⟨g,cap,cs,rest,G,rfl,hr,h1,h2,h3,hf,rfl⟩
 ·simp at hi
 ·obtain ⟨A,c,B,G1,Fi,G2,rfl,rfl,hA,hc,hfA,hx,hfB⟩:=hf.focus i hi
  refine ⟨g,cap,A,c,B++rest,G1,Fi,G2,rfl,HH,hA,hc,hx,rfl,?_,?_⟩
  ·intro b hb;rcases List.mem_append.1 hb with hb|hb
   ·exact hfA.lt b hb
   ·exact hfB.lt b hb
  ·intro w' c' x' Fi' hr' hx' hG;refine .inr ⟨g,cap,A++c'++B,rest,G1++Fi'++G2,FK,by simpa using hr',IS,h2,?_,?_,rfl⟩
   ·have:=E.len hx';simp only [List.length_append] at h3 ⊢;omega
   ·exact C1.build hi (hfA.frame fun b hb=>hG b FY) hx' (hfB.frame fun b hb=>hG b FY)
structure Ng {α:Type} (O R:Br α):Prop where
 sz:O.sz=R.sz
 Ky:∀{w cs x F},O.Ky w cs x F→∃F',(∀b∈F',b∈F)∧R.Ky w cs x F'
theorem Ng.refl {α:Type} (E:Br α):Ng E E:=⟨rfl,fun h=>⟨_,fun _ h=>h,h⟩⟩
theorem Ow.sl {O R:Br α} (hW:Ng O R) {t:TypeId} {w v} {xs:List α} {F} (h:Ow O t w v xs F):∃F',(∀b∈F',b∈F)∧Sl R w v xs F':=by
 have key:∀(xs:List α) (cs:List Value) (G:List Nat) (g off:Nat),C1 O w cs xs G→(∀j,j < cs.length→w.cell? ⟨g,off+j,none⟩=cs[j]?)→∃G',(∀b∈G',b∈G)∧Pn R w g off xs G':=by
  intro xs
  induction xs with
  | nil=>intro cs G g off h _;exact ⟨[],FK,rfl⟩
  | cons x r ih =>
   intro cs G g off h hc;obtain ⟨c1,c2,F1,F2,rfl,rfl,h1,h2⟩:=h;have hl:=O.len h1;have hs:=hW.sz;obtain ⟨F1',hs1,hr1⟩:=hW.Ky h1;obtain ⟨F2',hs2,hr2⟩:=ih c2 F2 g (off+R.sz) h2 fun j hj=>by
    have:=hc (c1.length+j) FR;rw [List.getElem?_append_right FJ,show c1.length+j - c1.length=j by omega] at this;rw [←this,show off+R.sz+j=off+(c1.length+j) by omega]
   refine ⟨F1'++F2',fun b hb=>?_,c1,F1',F2',rfl,hr1,fun j hj=>?_,hr2⟩
   ·rcases List.mem_append.1 hb with hb|hb
    ·simp [hs1 b hb]
    ·simp [hs2 b hb]
   ·rw [hc j FR,List.getElem?_append_left FJ]
 have hl:=h.len;rcases h with ⟨rfl,rfl,rfl⟩|⟨g,cap,cs,rest,G,rfl,hrow,h1,h2,h3,hf,rfl⟩
 ·exact ⟨[],FK,none,0,rfl,FK,.inl ⟨rfl,rfl,fun _=>rfl⟩⟩
 ·by_cases h0:xs=[]
  ·subst h0;exact ⟨[],FK,some ⟨g,0,none⟩,cap,rfl,⟨FK,h2⟩,.inl ⟨rfl,rfl,fun e=>by cases e⟩⟩
  ·obtain ⟨G',hG,hc⟩:=key xs cs G g 0 hf fun j hj=>by rw [Nat.zero_add,hrow.cell,List.getElem?_append_left hj]
   exact ⟨g::G',fun b hb=>by rcases List.mem_cons.1 hb with rfl|hb;simp;simp [hG b hb],_,cap,rfl,⟨h1,h2⟩,.inr ⟨g,0,G',rfl,h0,rfl,hc⟩⟩
theorem Ow.read {t:TypeId} {w v} {xs:List α} {F} (h:Ow E t w v xs F):∃F',(∀b∈F',b∈F)∧Sl E w v xs F':=by
 exact h.sl (Ng.refl E)
end
theorem Ng.slice {α:Type} {O R:Br α} (h:Ng O R) (hz:0 < R.sz) (t:TypeId) {w v} {xs:List α} {F} (ho:Ow O t w v xs F):∃F',(∀b∈F',b∈F)∧(Mr R hz).Ky w [v] xs F':=by
 obtain ⟨F',h1,h2⟩:=ho.sl h;exact ⟨F',h1,v,rfl,h2⟩
def Kx {α:Type} (E:Br α) (t:TypeId):Br (List α) where
 sz:=1
 Ky w cs xs F:=∃v,cs=[v]∧Ow E t w v xs F
 len h:=by obtain ⟨v,rfl,_⟩:=h;rfl
 lt h:=by obtain ⟨v,rfl,h⟩:=h;exact h.lt
 frame h hF:=by obtain ⟨v,rfl,h⟩:=h;exact ⟨v,rfl,h.frame hF⟩
theorem Bfm (A c B:List Value) (j:Nat) (hj:j < c.length) (u:Value):(A++c++B).set (A.length+j) u=A++c.set j u++B:=by
 rw [List.append_assoc,List.set_append_right _ _ FJ,show A.length+j - A.length=j by omega,List.set_append_left _ _ hj,List.append_assoc]
theorem Ir.setMid {w g t} {A c B:List Value} (h:Ir w g t (A++c++B)) {p j:Nat} (hp:p=A.length+j) (hj:j < c.length) (u:Value):Ir (w.setCell ⟨g,p,none⟩ u) g t (A++c.set j u++B):=by
 subst hp;rw [←Bfm _ _ _ _ hj];exact h.set _ u
theorem Ir.cellMid {w g t} {A c B:List Value} (h:Ir w g t (A++c++B)) {p j:Nat} (hp:p=A.length+j) (hj:j < c.length):w.cell? ⟨g,p,none⟩=c[j]?:=by
 subst hp;rw [h.cell,List.append_assoc,List.getElem?_append_right FJ,show A.length+j - A.length=j by omega,List.getElem?_append_left hj]
def Oz (w:World) (g:Nat):Nat→List Value→World
 | _,[]=>w
 | p,u::r=>Oz (w.setCell ⟨g,p,none⟩ u) g (p+1) r
theorem Ir.put {g t}:∀(c' c:List Value) {w:World} {A B:List Value} {p:Nat},Ir w g t (A++c++B)→p=A.length→c'.length=c.length→Ir (Oz w g p c') g t (A++c'++B)
 | [],[],_,_,_,_,h,_,_=>h
 | u::r,d::c,w,A,B,p,h,hp,hl=>by
  have h1:=h.setMid (p:=p) (j:=0) FJ FK u;simp only [List.set_cons_zero] at h1;have h2:=Ir.put r c (w:=w.setCell ⟨g,p,none⟩ u) (A:=A++[u]) (B:=B) (p:=p+1) IS FR HP;simpa [Oz] using h2
 | [],_::_,_,_,_,_,_,_,hl=>by simp at hl
 | _::_,[],_,_,_,_,_,_,hl=>by simp at hl
theorem O0 {g:Nat}:∀(c:List Value) (w:World) (p:Nat) (b:Nat),b≠g→(Oz w g p c).heap[b]?=w.heap[b]?
 | [],_,_,_,_=>rfl
 | _::r,_,_,b,hb=>(O0 r _ _ b hb).trans (Below.heap_setCell _ _ _ _ hb)
theorem Mu {g:Nat}:∀(c:List Value) (w:World) (p:Nat),D6 [g] w (Oz w g p c)
 | [],w,_=>D6.refl _ w
 | u::r,w,p=>((D6.refl [g] w).setCell (p:=⟨g,p,none⟩) FK u).trans (Mu r _ _)
theorem Ow.put {α:Type} {E:Br α} {t:TypeId} {w:World} {g n cap:Nat} {xs:List α} {F:List Nat} (h:Ow E t w (.slice (some ⟨g,0,none⟩) n cap) xs F) (hn:F.Nodup) (i:Nat) (hi:i < xs.length) :
  g∈F∧(∀j,j < E.sz→(∃u,w.cell? ⟨g,i * E.sz+j,none⟩=some u)∧w.frozen? ⟨g,i * E.sz+j,none⟩=false) ∧
  ∀c' x' F',E.Ky w c' x' F'→F'.Nodup→(∀b∈F',b ∉ F)→∃F2,Ow E t (Oz w g (i * E.sz) c') (.slice (some ⟨g,0,none⟩) n cap) (xs.set i x') F2∧F2.Nodup∧∀b∈F2,b∈F∨b∈F':=by
 obtain ⟨g',cp,A,c,B,G1,Fi,G2,hv,hrow,hA,hcl,hx,rfl,hlt,back⟩:=h.focus i hi
 simp only [Value.slice.injEq,Option.some.injEq,Addr.mk.injEq] at hv;obtain ⟨⟨rfl,_⟩,rfl,rfl⟩:=hv;have hnd:g ∉ G1++G2:=fun hm=>by simp at hn hm;rcases hm with hm|hm <;> simp [hm] at hn
 refine ⟨FK,fun j hj=>⟨⟨c[j]'FJ,by rw [hrow.cellMid (j:=j) FJ FJ,List.getElem?_eq_getElem]⟩,hrow.frozen _⟩,fun c' x' F' hx' hn' hd=>⟨g::(G1++F'++G2),?_,?_,?_⟩⟩
 ·have hl:=E.len hx';have hg:g ∉ F':=fun e=>hd g e FK;exact back _ c' x' F' (hrow.put c' c FJ FJ) (E.frame hx' fun b hb=>O0 _ _ _ _ fun e=>hg (e▸hb)) fun b hb=>O0 _ _ _ _ fun e=>hnd (e▸hb)
 ·have hd1:∀b∈F',b≠g∧b ∉ G1∧b ∉ G2:=fun b hb=>by have:=hd b hb;simp at this;exact ⟨this.1,this.2.1,this.2.2.2⟩
  simp only [List.nodup_cons,List.nodup_append,List.mem_append,not_or] at hn ⊢;obtain ⟨⟨⟨h1,h2⟩,h3⟩,⟨h4,h5,h6⟩,h7,h8⟩:=hn;refine ⟨⟨⟨h1,fun e=>(hd1 g e).1 rfl⟩,h3⟩,⟨h4,hn',fun a ha b hb e=>(hd1 b hb).2.1 (e▸ha)⟩,h7,fun a ha b hb=>?_⟩;rcases ha with ha|ha
  ·exact h8 a (.inl ha) b hb
  ·exact fun e=>(hd1 a ha).2.2 (e▸hb)
 ·intro b hb;simp at hb ⊢;rcases hb with hb|hb|hb|hb <;> simp [hb]
theorem Ow.head {α:Type} {E:Br α} {t:TypeId} {w:World} {a:Option Addr} {n cap:Nat} {xs:List α} {F:List Nat} (h:Ow E t w (.slice a n cap) xs F) (i:Nat) (hi:i < xs.length):∃g,a=some ⟨g,0,none⟩:=by
 obtain ⟨g,cp,A,c,B,G1,Fi,G2,hv, -⟩:=h.focus i hi
 simp only [Value.slice.injEq] at hv;exact ⟨g,hv.1⟩
theorem Oy (z:Array Value) (n:Nat):(madeCells z (n * z.size)).toList=(List.replicate n z.toList).flatten:=by
 apply List.ext_getElem?;intro p;by_cases hz:z.size=0
 ·have:z = #[]:=Array.eq_empty_of_size_eq_zero hz;subst this;simp [madeCells]
 ·have hlen:∀m,((List.replicate m z.toList).flatten).length=m * z.size:=fun m=>by simp
  by_cases hp:p < n * z.size
  ·have h1:(madeCells z (n * z.size)).toList[p]?=some z[p % z.size]!:=by simp [madeCells,hp]
   rw [h1];have hq:p / z.size < n:=Nat.div_lt_of_lt_mul (by rwa [Nat.mul_comm]);have e:List.replicate n z.toList=List.replicate (p / z.size) z.toList++z.toList::List.replicate (n - p / z.size - 1) z.toList:=by
    rw [←List.replicate_succ,List.replicate_append_replicate];congr 1;omega
   have hd:=Nat.div_add_mod p z.size;have hm:=Nat.mod_lt p (Nat.pos_of_ne_zero hz);rw [Nat.mul_comm] at hd;rw [e,List.flatten_append,List.flatten_cons,List.getElem?_append_right (by rw [hlen];omega),hlen,show p - p / z.size * z.size=p % z.size by omega,List.getElem?_append_left KT];simp [hm]
  ·rw [List.getElem?_eq_none (by simp [madeCells];omega),List.getElem?_eq_none (by rw [hlen];omega)]
theorem Ow.made {α:Type} {E:Br α} {t:TypeId} (w:World) (z:Array Value) (n:Nat) (x:α) (hsz:z.size=E.sz) (hz:∀w,E.Ky w z.toList x []) (hn:n≤maxLen) :
  Ow E t (w.alloc (.cells (madeCells z (n * E.sz)) t)) (.slice (some ⟨w.heap.size,0,none⟩) n n) (List.replicate n x) [w.heap.size]:=by
 have hf:∀(w:World) (m:Nat),C1 E w (List.replicate m z.toList).flatten (List.replicate m x) []:=by
  intro w m
  induction m with
  | zero=>exact ⟨rfl,rfl⟩
  | succ m ih=>exact ⟨z.toList,_,[],[],by rw [List.replicate_succ,List.flatten_cons],rfl,hz w,ih⟩
 refine .inr ⟨w.heap.size,n,(madeCells z (n * E.sz)).toList,[],[],FK,?_,FK,hn,?_,?_,rfl⟩
 ·simp only [List.append_nil,Ir];exact heap_alloc_new w _
 ·rw [←hsz,Oy];simp
 ·rw [←hsz,Oy];exact hf _ _
theorem Q3 {α:Type} {O R:Br α} (h:Ng O R) (hz:0 < R.sz) (t:TypeId):Ng (Kx O t) (Mr R hz):=⟨rfl,fun hh=>by
 obtain ⟨v,rfl,ho⟩:=hh;exact h.slice hz t ho⟩
theorem Sl.at {α:Type} {E:Br α} {w:World} {a:Option Addr} {n cap:Nat} {xs:List α} {F} (h:Sl E w (.slice a n cap) xs F) (k:Nat) (hk:k < xs.length) :
  ∃b off cs F1,a=some ⟨b,off,none⟩∧E.Ky w cs xs[k] F1∧(∀c∈F1,c∈F)∧∀j,j < E.sz→w.cell? ⟨b,off+k * E.sz+j,none⟩=cs[j]?:=by
 obtain ⟨a',cap',hv,hl,h⟩:=h;cases hv;rcases h with ⟨rfl,_⟩|⟨b,off,F',rfl,_,rfl,hc⟩
 ·simp at hk
 ·obtain ⟨cs,F1,h1,hj,hm⟩:=hc.get k hk;exact ⟨b,off,cs,F1,rfl,h1,fun c hc=>by simp [hm c hc],hj⟩
theorem Sl.slice {α:Type} {E:Br α} {w v} {xs:List α} {F} (h:Sl E w v xs F):∃a cap,v=.slice a xs.length cap:=by
 obtain ⟨a,cap,h,_⟩:=h;exact ⟨a,cap,h⟩
theorem Sl.len {α:Type} {E:Br α} {w v} {xs:List α} {F} (h:Sl E w v xs F):xs.length≤maxLen:=by
 obtain ⟨a,cap,_,h,_⟩:=h;omega
theorem Sl.caps {α:Type} {E:Br α} {w} {a:Option Addr} {n cap:Nat} {xs:List α} {F} (h:Sl E w (.slice a n cap) xs F):n=xs.length∧n≤cap∧cap≤maxLen:=by
 obtain ⟨a',cap',hv,h,_⟩:=h;cases hv;exact ⟨rfl,h⟩
def Jy {α:Type} (E:Br α) (w:World) (v:Value) (x:α) (F:List Nat):Prop:=∃cs:List Value,v=.agg cs.toArray∧E.Ky w cs x F
theorem Jy.below {α:Type} {E:Br α} {w w':World} {v x F} (h:Jy E w v x F) (hb:Below w.heap.size w w'):Jy E w' v x F:=by
 obtain ⟨cs,hv,h⟩:=h;exact ⟨cs,hv,E.below h hb⟩
def Wt {α:Type} (E:Br α) (x:α) (w:World) (e:Ending) (w':World):Prop :=
 ∃v F,e=.returned v∧Jy E w' v x F∧F.Nodup∧(∀b∈F,w.heap.size≤b)∧Below w.heap.size w w'
def No {α:Type} (E:Br α) (t:TypeId) (xs:List α) (w:World) (e:Ending) (w':World):Prop :=
 ∃v F,e=.returned v∧Ow E t w' v xs F∧F.Nodup∧(∀b∈F,w.heap.size≤b)∧Below w.heap.size w w'
theorem Ir.keepK {w w' g t cs F} (h:Ir w g t cs) (hk:D6 F w w') (hg:g ∉ F):Ir w' g t cs:=h.Jd (hk.block g h.lt hg)
structure Z4 (P:Program) (f:FuncId):Prop where
 ok:∃fn,P.funcs[f]?=some fn∧(fn.name == "runtime.NumGoroutine")=false∧fn.body.isNone=false
theorem Z4.mk' {P:Program} {f:FuncId} {fn:Func} (h:P.funcs[f]?=some fn) (h1:(fn.name == "runtime.NumGoroutine")=false) (h2:fn.body.isNone=false):Z4 P f:=⟨fn,h,h1,h2⟩
theorem Z4.run {P:Program} {f:FuncId} (h:Z4 P f) (args:Array Value) (w:World):(callFunc f args).run P w=.ok (.enter f args) w:=by
 obtain ⟨fn,h0,h1,h2⟩:=h.ok;have h1':¬fn.name = "runtime.NumGoroutine" := by simpa using h1
 have h2':¬fn.body=none:=fun e=>by rw [e] at h2;simp at h2
 simp [callFunc,program,Sem.run,h0,h1',h2',bind,Sem.bind,pure]
theorem Z4.upon {P:Program} {f:FuncId} (h:Z4 P f) {o:Oper} {a:Act} {K:Act→World→Prop} {Q:Exit→Act→World→Prop} {args:Array Value} {w:World} {R:Ending→World→Prop}
  (hc:Calls P f args w R) (hr:∀e w',R e w'→∃v,e=.returned v∧K (a.put o.dst v) w'):Oper.upon P o a K Q ((callFunc f args).run P w):=by
 rw [h.run,Oper.upon_enter];exact hc.mono fun e w' hR=>by obtain ⟨v,rfl,hk⟩:=hr e w' hR;exact hk
def IsC {α:Type} (E:Br α) (w:World) (v:Value) (x:α) (F:List Nat):Prop:=∃u,v=u∧E.Ky w [u] x F
def S0 {α:Type} (p:α→Bool) (xs:List α):Int:=if xs.any p then (xs.findIdx p:Int) else -1
theorem Pp {α:Type} {p:α→Bool} {xs:List α} {k:Nat} (hk:k < xs.length) (h0:∀j,j < k→∀hj:j < xs.length,p xs[j]=false) (h1:p xs[k]=true):S0 p xs=k:=by
 have h:xs.findIdx p=k:=by
  rw [List.findIdx_eq hk];exact ⟨h1,fun j hj=>h0 j hj FJ⟩
 have ha:xs.any p=true:=List.any_eq_true.2 ⟨xs[k],List.getElem_mem _,h1⟩;unfold S0;rw [if_pos ha,h]
theorem N6 {α:Type} {p:α→Bool} {xs:List α} (h0:∀j,∀hj:j < xs.length,p xs[j]=false):S0 p xs=-1:=by
 unfold S0;rw [if_neg];intro ha;obtain ⟨x,hx,hp⟩:=List.any_eq_true.1 ha;obtain ⟨i,hi,rfl⟩:=List.getElem_of_mem hx;rw [h0 i hi] at hp;simp at hp
theorem Ud {α:Type} (p:α→Bool) (xs:List α):decide (0≤S0 p xs)=xs.any p:=by
 unfold S0;cases h:xs.any p <;> simp
def Pz (p:Nat→Bool) (n:Nat):Bool:=(List.range n).all p
theorem Me {p:Nat→Bool} {n:Nat} (h:∀i,i < n→p i=true):Pz p n=true:=by simp [Pz];exact h
theorem Ms {p:Nat→Bool} {n k:Nat} (hk:k < n) (h:p k=false):Pz p n=false:=by
 rw [Bool.eq_false_iff];intro ha;simp [Pz] at ha;rw [ha k hk] at h;simp at h
theorem Jz {p:Nat→Bool} {n:Nat} (h:Pz p n=true) (i:Nat) (hi:i < n):p i=true:=by simp [Pz] at h;exact h i hi
theorem Wp {p:Nat→Bool} {k:Nat} (h:∀i,i < k→p i=true) (hk:p k=true):∀i,i < k+1→p i=true:=fun i hi=>by
 rcases Nat.lt_or_eq_of_le (Nat.le_of_lt_succ hi) with h'|rfl
 ·exact h i h'
 ·exact hk
theorem Y5 {P:Program} {f:FuncId} {args:Array Value} {w:World} {n:Nat} {v:Value}
  (h:Calls P f args (w.drewN n) fun e w'=>e=.returned v∧w.drewN n=w'):Calls P f args (w.drewN n) fun e w''=>e=.returned v∧∃m,w''=w.drewN m :=
 h.mono fun _ _ ⟨he,hm⟩=>⟨he,n,hm.symm⟩
def Ze (n:Int) (k:Nat):Int:=if (k:Int)≤n then n - k else -1
theorem Nf (n:Int) (k:Nat):(Ze n k=-1∧n < k)∨(Ze n k=n - k∧(k:Int)≤n):=by unfold Ze;split <;> omega
theorem Lk {n:Int} {k:Nat} (h:n < k):Ze n k=-1:=by unfold Ze;split <;> omega
theorem P2 {n:Int} {k:Nat} (h:(k:Int)≤n):Ze n k=n - k:=by unfold Ze;split <;> omega
def Kn {α:Type} (f:α→Nat) (xs:List α):Nat:=xs.length+(xs.map f).sum
def Hk {α:Type} (f:α→Nat) (xs:List α) (k:Nat):Nat:=((xs.take k).map f).sum
theorem Qm {α:Type} (f:α→Nat) (xs:List α):Hk f xs 0=0:=rfl
theorem Ql {α:Type} (f:α→Nat) (xs:List α) (k:Nat) (h:k < xs.length):Hk f xs (k+1)=Hk f xs k+f xs[k]:=by
 unfold Hk;rw [List.take_succ_eq_append_getElem h,List.map_append,List.sum_append];simp
theorem Aqk {α:Type} (f:α→Nat) (xs:List α):Hk f xs xs.length=(xs.map f).sum:=by unfold Hk;rw [List.take_length]
theorem Au9 {α:Type} (f:α→Nat) (xs:List α) (k:Nat):Hk f xs k≤(xs.map f).sum:=by
 have:(xs.map f).sum=Hk f xs k+((xs.drop k).map f).sum:=by unfold Hk;rw [←List.sum_append,←List.map_append,List.take_append_drop]
 omega
theorem Ae3 {α:Type} (f:α→Nat) (xs:List α):Kn f xs=xs.length+Hk f xs xs.length:=by rw [Aqk];rfl
theorem Xu {α:Type} (f:α→Nat) (xs:List α) (k:Nat):xs.length+Hk f xs k≤Kn f xs:=by have:=Au9 f xs k;unfold Kn;omega
theorem Ajs {α:Type} (xs:List α):Kn (fun _=>0) xs=xs.length:=by
 have:∀ys:List α,(ys.map fun _=>0).sum=0:=fun ys=>by induction ys <;> simp_all
 unfold Kn;rw [this];rfl
def mkI (k _x:Int):Int:=k
def El (_x:Int):Nat:=1
def mkB (k:Int) (_x:Bool):Bool:=k % 3 == 0
def Z8 (_x:Bool):Nat:=1
def Oh:Nat→Nat→List UInt8→List UInt8
 | 0,_,r=>r
 | m+1,k,r=>if k=0 then r else Oh m (k / 10) (UInt8.ofNat (48+k % 10)::r)
def Afo (k:Int):ByteArray:=if k≤0 then ⟨#[109,48]⟩ else ⟨(109::Oh 20 k.toNat []).toArray⟩
def mkS (k:Int) (_x:ByteArray):ByteArray:=Afo k
def Oo (_x:ByteArray):Nat:=1
theorem Afn:∀(m k:Nat) (r:List UInt8),(Oh m k r).length≤m+r.length
 | 0,_,r=>by simp [Oh]
 | m+1,k,r=>by
  simp only [Oh]
  split
  ·omega
  ·have:=Afn m (k / 10) (UInt8.ofNat (48+k % 10)::r);simp only [List.length_cons] at this;omega
theorem Aej (k:Int):(Afo k).size≤maxLen:=by
 have:=Afn 20 k.toNat [];unfold Afo
 split
 ·simp [ByteArray.size,maxLen]
 ·simp only [ByteArray.size,maxLen,List.size_toArray,List.length_cons];simp at this;omega
def Cy {α:Type} (mk:Int→α→α) (Yj:α→Nat):Int→List α→List α
 | _,[]=>[]
 | k,x::r=>mk k x::Cy mk Yj (k+Yj x) r
def B8 {α:Type} (Yj:α→Nat) (xs:List α):Nat:=(xs.map Yj).sum
theorem Kb {α:Type} (Yj:α→Nat) (xs:List α):B8 Yj xs=Hk Yj xs xs.length:=(Aqk Yj xs).symm
theorem Aun {α:Type} (Yj:α→Nat) (xs:List α) (k:Nat):Hk Yj xs k≤B8 Yj xs:=Au9 Yj xs k
theorem Bz {α:Type} (mk:Int→α→α) (Yj:α→Nat):∀(xs:List α) (k:Int),(Cy mk Yj k xs).length=xs.length
 | [],_=>rfl
 | x::r,k=>by simp [Cy,Bz mk Yj r]
theorem L9 {α:Type} (mk:Int→α→α) (Yj:α→Nat):∀(xs:List α) (k:Int) (i:Nat) (h:i < xs.length),(Cy mk Yj k xs)[i]'(by rw [Bz];exact h)=mk (k+Hk Yj xs i) xs[i]
 | x::r,k,0,_=>by simp [Cy,Hk]
 | x::r,k,i+1,h=>by
  simp only [Cy,List.getElem_cons_succ,Hk,List.take_succ_cons,List.map_cons,List.sum_cons];rw [L9 mk Yj r (k+Yj x) i GE];unfold Hk
  congr 1;omega
theorem Aig {α:Type} (mk:Int→α→α) (Yj:α→Nat) (xs:List α) (k:Int) (i:Nat) (h:i < xs.length) :
  ((Cy mk Yj k xs).take i++xs.drop i).set i (mk (k+Hk Yj xs i) xs[i])=(Cy mk Yj k xs).take (i+1)++xs.drop (i+1):=by
 have hl:((Cy mk Yj k xs).take i).length=i:=by simp [Bz];omega
 rw [List.set_append_right _ _ FJ,hl,Nat.sub_self,List.drop_eq_getElem_cons h,List.set_cons_zero,List.take_add_one,List.getElem?_eq_getElem (by rw [Bz];exact h),L9 mk Yj xs k i h];simp
theorem Sb {α:Type} (ys xs:List α) (i:Nat) (hl:ys.length=xs.length) (h:i < xs.length):(ys.take i++xs.drop i)[i]'FR=xs[i]:=by
 have hl':(ys.take i).length=i:=FR
 rw [List.getElem_append_right FJ];simp [hl']
theorem Og {α:Type} (Yj wt:α→Nat) (C:Nat) (h:∀x,Yj x≤C * (1+wt x)):∀xs:List α,B8 Yj xs≤C * Kn wt xs
 | []=>by simp [B8,Kn]
 | x::r=>by
  have:=h x;have:=Og Yj wt C h r;simp only [B8,Kn,List.map_cons,List.sum_cons,List.length_cons,Nat.mul_add,Nat.mul_one] at *;omega
def Yf {α:Type} (E:Br α):Prop:=∀{w cs x F},E.Ky w cs x F→∀u∈cs,u.oneCell'=true
theorem Dd:Yf Bb:=fun h u hu=>by obtain ⟨rfl,_⟩:=h;simp at hu;subst hu;rfl
theorem Eh:Yf A8:=fun h u hu=>by obtain ⟨rfl,_⟩:=h;simp at hu;subst hu;rfl
theorem Sl.one {α:Type} {E:Br α} {w v} {xs:List α} {F} (h:Sl E w v xs F):v.oneCell'=true:=by obtain ⟨a,c,rfl,_⟩:=h;rfl
theorem Ow.one {α:Type} {E:Br α} {t w v} {xs:List α} {F} (h:Ow E t w v xs F):v.oneCell'=true:=by obtain ⟨a,c,rfl⟩:=h.slice;rfl
theorem C1.one' {α:Type} {E:Br α} (hE:Yf E) {w:World}:∀{xs:List α} {cs:List Value} {G:List Nat},C1 E w cs xs G→∀u∈cs,u.oneCell'=true
 | [],_,_,h=>by simp [h.1]
 | x::r,_,_,h=>by
  obtain ⟨c1,c2,F1,F2,rfl,rfl,h1,h2⟩:=h;intro u hu;rcases List.mem_append.1 hu with hu|hu
  ·exact hE h1 u hu
  ·exact h2.one' hE u hu
theorem Pn.flat {α:Type} {E:Br α} {w:World} {b:Nat}:∀{xs:List α} {off:Nat} {F:List Nat},Pn E w b off xs F→∃cs,C1 E w cs xs F∧∀j u,cs[j]?=some u→w.cell? ⟨b,off+j,none⟩=some u
 | [],off,_,h=>⟨[],⟨rfl,h⟩,fun j u hu=>by simp at hu⟩
 | x::r,off,_,h=>by
  obtain ⟨c1,F1,F2,rfl,h1,hc,h2⟩:=h;obtain ⟨c2,hf,hc2⟩:=h2.flat;have hl:=E.len h1;refine ⟨c1++c2,⟨c1,c2,F1,F2,rfl,rfl,h1,hf⟩,fun j u hu=>?_⟩;rcases Nat.lt_or_ge j c1.length with hj|hj
  ·rw [List.getElem?_append_left hj] at hu;rw [hc j FJ];exact hu
  ·rw [List.getElem?_append_right hj] at hu;have:=hc2 _ _ hu;rw [←this];congr 2;omega
theorem C1.cells {α:Type} {E:Br α} {w:World} {b:Nat}:∀{xs:List α} {cs:List Value} {off:Nat} {F:List Nat},C1 E w cs xs F→(∀j u,cs[j]?=some u→w.cell? ⟨b,off+j,none⟩=some u)→Pn E w b off xs F
 | [],_,off,_,h,_=>h.2
 | x::r,_,off,_,h,hc=>by
  obtain ⟨c1,c2,F1,F2,rfl,rfl,h1,h2⟩:=h;have hl:=E.len h1;refine ⟨c1,F1,F2,rfl,h1,fun j hj=>?_,h2.cells fun j u hu=>?_⟩
  ·have:j < c1.length:=FJ
   rw [List.getElem?_eq_getElem this];exact hc j _ (by rw [List.getElem?_append_left this,List.getElem?_eq_getElem this])
  ·have:=hc (c1.length+j) u JG;rw [←this];congr 2;omega
def Hd (F:List Nat):Prop:=∀g G,F=g::G→g ∉ G
theorem Hd.of {F:List Nat} (h:F.Nodup):Hd F:=fun g G e=>by subst e;simp at h;exact h.1
theorem Ow.owns {α:Type} {E:Br α} {t w v} {xs:List α} {F} (h:Ow E t w v xs F):∃cs G,w.ownsRow 0 t E.sz v xs.length cs∧C1 E w cs xs G∧F=v.ownBlock.toList++G:=by
 rcases h with ⟨rfl,rfl,rfl⟩|⟨g,cap,cs,rest,G,rfl,hr,h1,h2,h3,hf,rfl⟩
 ·exact ⟨[],[],⟨FK,.inl ⟨rfl,rfl⟩⟩,⟨rfl,rfl⟩,rfl⟩
 ·refine ⟨cs,G,⟨hf.len,.inr ⟨g,cap,(cs++rest).toArray,rfl,Nat.zero_le _,hr,h1,h2,by simp [h3],?_⟩⟩,hf,rfl⟩;rw [←hf.len];simp
theorem Ow.ofOwns {α:Type} {E:Br α} {t w v n} {cs:List Value} {xs:List α} {G} (h:w.ownsRow 0 t E.sz v n cs) (hf:C1 E w cs xs G) (hn:n=xs.length):Ow E t w v xs (v.ownBlock.toList++G):=by
 subst hn;obtain ⟨hl,h⟩:=h;rcases h with ⟨rfl,h0⟩|⟨g,cap,cur,rfl,_,hg,h1,h2,h3,h4⟩
 ·have:xs=[]:=List.eq_nil_of_length_eq_zero h0;subst this;exact .inl ⟨rfl,rfl,by rw [hf.2];rfl⟩
 ·refine .inr ⟨g,cap,cs,cur.toList.drop cs.length,G,rfl,?_,h1,h2,?_,hf,rfl⟩
  ·have:cs++cur.toList.drop cs.length=cur.toList:=by
    rw [hl,←h4];simp
   rw [this];exact hg
  ·rw [←h3];simp;rw [hl];have:=Nat.mul_le_mul_right E.sz h1;omega
theorem Aqh {w:World} {t v n sz} {cs:List Value} (h:w.ownsRow 0 t sz v n cs):∀b,v.ownBlock=some b→b < w.heap.size:=by
 intro b hb;rcases h.2 with ⟨rfl,_⟩|⟨g,cap,cur,rfl,_,hg,_⟩
 ·cases hb
 ·cases hb;rcases Nat.lt_or_ge g w.heap.size with hlt|hge
  ·exact hlt
  ·rw [Array.getElem?_eq_none hge] at hg;cases hg
section
variable {P:Program} {α:Type} {E:Br α}
structure Apd (E:Br α) (e:TypeId) (w:World) (v:Value) (xs ys:List α) (F Fy:List Nat) (v':Value) (w':World) (F':List Nat):Prop where
 ow:Ow E e w' v' (xs++ys) F'
 hd:Hd F'
 Bbc:F.Nodup→Fy.Nodup→(∀b∈Fy,b ∉ F)→F'.Nodup
 mem:∀b∈F',b∈F∨b∈Fy∨b=w.heap.size
 Jd:D6 F w w'
 Auz:D6 v.ownBlock.toList w w'
 val:∃a cap,v'=.slice a (xs.length+ys.length) cap
 Atq:v'.ownBlock=v.ownBlock∨v'.ownBlock=some w.heap.size
 Bkd:∀Gx,F=v.ownBlock.toList++Gx→F'=v'.ownBlock.toList++(Gx++Fy)
theorem Azr {e:TypeId} {w:World} {v:Value} {xs ys:List α} {F Fy:List Nat} {v' w'} {cs news G} (hown:w.ownsRow 0 e E.sz v xs.length cs) (hf:C1 E w cs xs G) (hF:F=v.ownBlock.toList++G) (hd:Hd F)
  (hfy:C1 E w news ys Fy) (hdis:∀b∈Fy,v.ownBlock≠some b) (h':w'.ownsRow 0 e E.sz v' (xs.length+ys.length) (cs++news)) (hg:w.grownBy w' v.ownBlock)
  (hb:v'.ownBlock=v.ownBlock∨v'.ownBlock=some w.heap.size) (hs:∃a cap,v'=.slice a (xs.length+ys.length) cap):∃F',Apd E e w v xs ys F Fy v' w' F':=by
 have hGn:∀b∈G,v.ownBlock≠some b:=fun b hb e=>by
  rw [e] at hF;exact hd b G hF hb
 have hfr:∀b,b < w.heap.size→v.ownBlock≠some b→w'.heap[b]?=w.heap[b]?:=fun b hb hn=>hg.block b hb (fun e=>hn e.symm);have hfl:C1 E w' (cs++news) (xs++ys) (G++Fy):=(hf.frame fun b hb=>hfr b (hf.lt b hb) (hGn b hb)).append (hfy.frame fun b hb=>hfr b (hfy.lt b hb) (hdis b hb));have hvl:=Aqh hown;have hhead:∀g,v'.ownBlock=some g→g ∉ G∧g ∉ Fy:=fun g e=>by
  rcases hb with hb|hb
  ·rw [hb] at e;exact ⟨fun hm=>hGn g hm e,fun hm=>hdis g hm e⟩
  ·rw [hb] at e;cases e;exact ⟨fun hm=>Nat.lt_irrefl _ (hf.lt _ hm),fun hm=>Nat.lt_irrefl _ (hfy.lt _ hm)⟩
 refine ⟨v'.ownBlock.toList++(G++Fy),Ow.ofOwns h' hfl FK,?_,?_,?_,?_,⟨hg.os,hg.tape,hg.output,hg.size,fun k hk hm=>hfr k hk fun e=>hm (by rw [e];simp)⟩,hs,hb,fun Gx e=>by rw [hF] at e;rw [List.append_cancel_left e]⟩
 ·intro g G' e;cases hv:v'.ownBlock with
  | none =>
   have hxy:xs++ys=[]:=by
    rcases h'.2 with ⟨rfl,h0⟩|⟨g,cap,cur,rfl,_⟩
    ·exact List.eq_nil_of_length_eq_zero HI
    ·simp [Value.ownBlock] at hv
   rw [hxy] at hfl;rw [hfl.2,hv] at e;simp at e
  | some g2 =>
   rw [hv] at e;simp at e;obtain ⟨rfl,rfl⟩:=e;have:=hhead g2 hv;simp [this]
 ·intro h1 h2 h3;subst hF;have hn:(G++Fy).Nodup:=by
   rw [List.nodup_append] at h1 ⊢;exact ⟨h1.2.1,h2,fun a ha b hb e=>h3 b hb (by rw [←e];simp [ha])⟩
  cases hv:v'.ownBlock with
  | none=>simpa using hn
  | some g2=>have:=hhead g2 hv;simp only [Option.toList_some,List.singleton_append,List.nodup_cons,List.mem_append];exact ⟨by simp [this],hn⟩
 ·intro b hm;simp at hm;rcases hm with hm|hm|hm
  ·rcases hb with hb|hb
   ·rw [hb] at hm;left;rw [hF];simp [hm]
   ·rw [hb] at hm;cases hm;simp
  ·left;rw [hF];simp [hm]
  ·simp [hm]
 ·exact ⟨hg.os,hg.tape,hg.output,hg.size,fun k hk hm=>hfr k hk fun e=>hm (by rw [hF,e];simp)⟩
theorem Aua (hone:Yf E) (hsz:0 < E.sz) {o:Oper} {a:Act} {K:Act→World→Prop} {Q:Exit→Act→World→Prop} {w:World} (s x:Operand) (t:TypeId)
  (ho:o.op=.call { callee:=.builtin .append,args:=#[s,x],argTypes:=#[t,t] }) (e:TypeId) (z:Value) (bytes:Nat) (ht:P.underlying t=some (.slice e))
  (hinfo:(P.info? e).map (fun i=>(i.zero,i.size,i.bytes))=some (some z,E.sz,bytes)) (hzs:z.cells.size=E.sz)
  (v:Value) (xs:List α) (F:List Nat) (hs:a.eval s=v) (hown:Ow E e w v xs F) (hd:Hd F)
  (ao:Option Addr) (ys:List α) (c:Nat) (hx:a.eval x=.slice ao ys.length c) (news:List Value) (Fy:List Nat) (hfy:C1 E w news ys Fy)
  (hsrc:(ao=none∧c=0∧ys=[])∨∃ad,ao=some ad∧∀j u,news[j]?=some u→w.cell? (ad.add j)=some u)
  (hdis:∀b∈Fy,v.ownBlock≠some b) (h63:xs.length+ys.length≤maxLen) (hbytes:(xs.length+ys.length) * bytes≤140737488355328)
  (h:∀v' w' F',Apd E e w v xs ys F Fy v' w' F'→K (a.put o.dst v') w'):o.wp P a w K Q:=by
 obtain ⟨i,hi,hzz⟩:=Option.map_eq_some_iff.1 hinfo;simp only [Prod.mk.injEq] at hzz;obtain ⟨hz,hsize,hby⟩:=hzz;obtain ⟨cs,G,hrow,hf,hF⟩:=hown.owns;rcases hsrc with ⟨rfl,rfl,rfl⟩|⟨ad,rfl,hnews⟩
 ·have hn0:news=[]:=hfy.1;subst hn0;unfold Oper.wp execOp;simp only [ho,resolve,invoke,builtin,Sem.run_bind,Sem.run_pure,Result.andThen_ok,List.map_toArray,List.map_cons,List.map_nil,hs,hx];have hrun:=run_append_owned_none (P:=P) w 0 t o.type e i E.sz ht hi _ xs.length cs hrow;rw [show ([]:List α).length=0 from rfl,hrun];obtain ⟨F',hA⟩:=Azr (ys:=[]) hrow hf hF hd hfy hdis (by simpa using hrow) (World.grownBy.refl _ _) (.inl rfl) (by obtain ⟨a,c,rfl⟩:=hown.slice;exact ⟨a,c,FK⟩);exact h _ _ _ hA
 ·obtain ⟨v',w',hr,h2,h3,h4,h5⟩:=run_append_own_at (P:=P) w 0 t o.type e i z E.sz bytes ht hi hz hsize hby hzs hsz v xs.length cs hrow ad ys.length c news hfy.len hnews (hfy.one' hone) h63 hbytes (Nat.zero_le _);unfold Oper.wp execOp;simp only [ho,resolve,invoke,builtin,Sem.run_bind,Sem.run_pure,Result.andThen_ok,List.map_toArray,List.map_cons,List.map_nil,hs,hx,hr];have hs2:∃a cap,v'=.slice a (xs.length+ys.length) cap:=by
   rcases h2.2 with ⟨rfl,h0⟩|⟨g,cap,cur,rfl,_⟩
   ·exact ⟨none,0,by rw [h0]⟩
   ·exact ⟨_,_,rfl⟩
  obtain ⟨F',hA⟩:=Azr (ys:=ys) hrow hf hF hd hfy hdis h2 h3 h5 hs2;exact h _ _ _ hA
theorem P8 (hone:Yf E) (hsz:0 < E.sz) {ops:Array Oper} {rest:List Oper} {o:Oper} {a:Act} {Q:Exit→Act→World→Prop} {w:World} (hgd:o.guard=none) (s x:Operand) (t:TypeId)
  (ho:o.op=.call { callee:=.builtin .append,args:=#[s,x],argTypes:=#[t,t] }) (e:TypeId) (z:Value) (bytes:Nat) (ht:P.underlying t=some (.slice e))
  (hinfo:(P.info? e).map (fun i=>(i.zero,i.size,i.bytes))=some (some z,E.sz,bytes)) (hzs:z.cells.size=E.sz)
  (v:Value) (xs:List α) (F:List Nat) (hs:a.eval s=v) (hown:Ow E e w v xs F) (hd:Hd F)
  (ao:Option Addr) (ys:List α) (c:Nat) (hx:a.eval x=.slice ao ys.length c) (news:List Value) (Fy:List Nat) (hfy:C1 E w news ys Fy)
  (hsrc:(ao=none∧c=0∧ys=[])∨∃ad,ao=some ad∧∀j u,news[j]?=some u→w.cell? (ad.add j)=some u)
  (hdis:∀b∈Fy,v.ownBlock≠some b) (h63:xs.length+ys.length≤maxLen) (hbytes:(xs.length+ys.length) * bytes≤140737488355328)
  (h:∀v' w' F',Apd E e w v xs ys F Fy v' w' F'→wpList P ops Q rest (a.put o.dst v') w'):wpList P ops Q (o::rest) a w :=
 wpList_plain hgd fun _ hK=>Aua hone hsz s x t ho e z bytes ht hinfo hzs v xs F hs hown hd ao ys c hx news Fy hfy hsrc hdis h63 hbytes fun v' w' F' hA=>hK _ _ (h v' w' F' hA)
theorem Aq3 (hone:Yf E) (hsz:0 < E.sz) {ops:Array Oper} {o:Oper} {a:Act} {K:Act→World→Prop} {Q:Exit→Act→World→Prop} {Z:Prop} {w:World} (hgd:o.guard=none) (s x:Operand) (t:TypeId)
  (ho:o.op=.call { callee:=.builtin .append,args:=#[s,x],argTypes:=#[t,t] }) (e:TypeId) (z:Value) (bytes:Nat) (ht:P.underlying t=some (.slice e))
  (hinfo:(P.info? e).map (fun i=>(i.zero,i.size,i.bytes))=some (some z,E.sz,bytes)) (hzs:z.cells.size=E.sz)
  (v:Value) (xs:List α) (F:List Nat) (hs:a.eval s=v) (hown:Ow E e w v xs F) (hd:Hd F)
  (ao:Option Addr) (ys:List α) (c:Nat) (hx:a.eval x=.slice ao ys.length c) (news:List Value) (Fy:List Nat) (hfy:C1 E w news ys Fy)
  (hsrc:(ao=none∧c=0∧ys=[])∨∃ad,ao=some ad∧∀j u,news[j]?=some u→w.cell? (ad.add j)=some u)
  (hdis:∀b∈Fy,v.ownBlock≠some b) (h63:xs.length+ys.length≤maxLen) (hbytes:(xs.length+ys.length) * bytes≤140737488355328)
  (h:∀v' w' F',Apd E e w v xs ys F Fy v' w' F'→K (a.put o.dst v') w'):if Region.wanted o (yielded ops a.tmps)=true then Oper.wp P o a w K Q else Z:=by
 have hw:Region.wanted o (yielded ops a.tmps)=true:=by simp [Region.wanted,hgd]
 rw [if_pos hw];exact Aua hone hsz s x t ho e z bytes ht hinfo hzs v xs F hs hown hd ao ys c hx news Fy hfy hsrc hdis h63 hbytes h
end
theorem Ow.own_mem {α:Type} {E:Br α} {t w v} {xs:List α} {F} (h:Ow E t w v xs F):∀b,v.ownBlock=some b→b∈F:=fun b hb=>by
 obtain ⟨cs,G,_,_,rfl⟩:=h.owns;simp [hb]
def Bi0 {α:Type} (E:Br α) (x:α) (w:World) (e:Ending) (w':World):Prop :=
 ∃v F,e=.returned v∧Jy E w' v x F∧(∀b∈F,w.heap.size≤b)∧Below w.heap.size w w'
theorem Jy.weak {α:Type} {O R:Br α} (h:Ng O R) {w v x F} (ho:Jy O w v x F):∃F',(∀b∈F',b∈F)∧Jy R w v x F':=by
 obtain ⟨cs,hv,hx⟩:=ho;obtain ⟨F',h1,h2⟩:=h.Ky hx;exact ⟨F',h1,cs,hv,h2⟩
theorem Ow.empty {α:Type} {E:Br α} {t:TypeId} {w:World} {g:Nat} (h:Ir w g t []):Ow E t w (.slice (some ⟨g,0,none⟩) 0 0) ([]:List α) [g] :=
 .inr ⟨g,0,[],[],[],rfl,GE,FK,FK,FK,⟨rfl,rfl⟩,rfl⟩
theorem Hd.one (g:Nat):Hd [g]:=fun a G e=>by cases e;simp
theorem Hd.nil:Hd []:=fun a G e=>by cases e
theorem Sl.src {α:Type} {E:Br α} {w:World} {v:Value} {xs:List α} {F} (h:Sl E w v xs F):∃ao c news Fy,v=.slice ao xs.length c∧xs.length≤maxLen∧C1 E w news xs Fy∧(∀b∈Fy,b∈F) ∧
  ((ao=none∧c=0∧xs=[])∨∃ad,ao=some ad∧∀j u,news[j]?=some u→w.cell? (ad.add j)=some u):=by
 obtain ⟨a,cap,rfl,hl,⟨rfl,rfl,h0⟩|⟨b,off,F',rfl,hne,rfl,hc⟩⟩:=h
 ·refine ⟨a,cap,[],[],rfl,FK,⟨rfl,rfl⟩,FK,?_⟩;cases a with
  | none=>exact .inl ⟨rfl,h0 rfl,rfl⟩
  | some ad=>exact .inr ⟨ad,rfl,fun j u hu=>by simp at hu⟩
 ·obtain ⟨cs,hf,hcs⟩:=hc.flat;refine ⟨_,cap,cs,F',rfl,FJ,hf,fun b hb=>by simp [hb],.inr ⟨_,rfl,fun j u hu=>?_⟩⟩;rw [←hcs j u hu];unfold Addr.add;split <;> simp_all
theorem Sl.takeS {α:Type} {E:Br α} {w:World} {a:Option Addr} {n cap:Nat} {xs:List α} {F} (h:Sl E w (.slice a n cap) xs F) (k:Nat) (hk:k≤xs.length):∃F',(∀b∈F',b∈F)∧Sl E w (.slice a k cap) (xs.take k) F':=by
 obtain ⟨a',cap',hv,hl,h⟩:=h;cases hv;have hlen:(xs.take k).length=k:=FR
 rcases h with ⟨rfl,rfl,h0⟩|⟨b,off,F',rfl,hne,rfl,hc⟩
 ·simp at hk;subst hk;exact ⟨[],FK,a,cap,FK,⟨FK,hl.2⟩,.inl ⟨FK,rfl,h0⟩⟩
 ·by_cases hk0:k=0
  ·subst hk0;exact ⟨[],FK,some ⟨b,off,none⟩,cap,FK,⟨FK,hl.2⟩,.inl ⟨FK,rfl,fun e=>by cases e⟩⟩
  ·obtain ⟨cs,hf,hcs⟩:=hc.flat;have e:xs=xs.take k++xs.drop k:=FK
   rw [e] at hf;obtain ⟨c1,c2,G1,G2,rfl,rfl,h1,h2⟩:=hf.split;refine ⟨b::G1,by intro x hx;simp at hx ⊢;rcases hx with hx|hx <;> simp [hx],_,cap,by rw [hlen],by rw [hlen];omega,.inr ⟨b,off,G1,rfl,fun e=>by rw [e] at hlen;simp at hlen;omega,rfl,h1.cells fun j u hu=>hcs j u ?_⟩⟩;have hj:j < c1.length:=by
    rcases Nat.lt_or_ge j c1.length with h|h
    ·exact h
    ·rw [List.getElem?_eq_none h] at hu;cases hu
   rw [List.getElem?_append_left hj];exact hu
def Ab1 {α:Type} (E:Br α):Prop:=∀{w cs x F},E.Ky w cs x F→F=[]
theorem D0:Ab1 Bb:=fun h=>h.2
theorem Hj:Ab1 A8:=fun h=>h.2.2
theorem C1.scal {α:Type} {E:Br α} (hE:Ab1 E) {w:World}:∀{xs:List α} {cs:List Value} {G:List Nat},C1 E w cs xs G→G=[]
 | [],_,_,h=>h.2
 | x::r,_,_,h=>by
  obtain ⟨c1,c2,F1,F2,rfl,rfl,h1,h2⟩:=h;rw [hE h1,h2.scal hE];rfl
theorem Ow.scal {α:Type} {E:Br α} (hE:Ab1 E) {t w v} {xs:List α} {F} (h:Ow E t w v xs F):F=v.ownBlock.toList:=by
 obtain ⟨cs,G,_,hf,rfl⟩:=h.owns;rw [hf.scal hE,List.append_nil]
def Mix {α:Type} (O R:Br α) (t:TypeId) (B1 B0:Nat) (w:World) (v:Value) (xs:List α) (k:Nat):Prop :=
 (v=.slice none 0 0∧xs=[])∨∃g cap c1 c2 rest F G,v=.slice (some ⟨g,0,none⟩) xs.length cap∧Ir w g t (c1++c2++rest)∧xs.length≤cap∧cap≤maxLen∧c1.length+c2.length+rest.length=cap * O.sz ∧
  C1 O w c1 (xs.take k) F∧C1 R w c2 (xs.drop k) G∧(g::F).Nodup∧(∀b∈g::F,B0≤b)∧∀b∈G,b < B1
section
variable {α:Type} {O R:Br α} {t:TypeId} {B1 B0:Nat} {w:World} {v:Value} {xs:List α}
theorem Mix.start (hsz:R.sz=O.sz) {F:List Nat} (h:Ow R t w v xs F) (h1:∀b,v.ownBlock=some b→B0≤b) (h2:∀b∈F,v.ownBlock=some b∨b < B1) (hd:Hd F):Mix O R t B1 B0 w v xs 0:=by
 rcases h with ⟨rfl,rfl,_⟩|⟨g,cap,cs,rest,G,rfl,hr,h3,h4,h5,hf,rfl⟩
 ·exact .inl ⟨rfl,rfl⟩
 ·refine .inr ⟨g,cap,[],cs,rest,[],G,rfl,HH,h3,h4,by simpa [←hsz] using h5,⟨rfl,FK⟩,by simpa using hf,FK,by simpa using h1 g rfl,fun b hb=>?_⟩;rcases h2 b FY with e|e
  ·cases e;exact absurd hb (hd g G rfl)
  ·exact e
theorem Mix.done (h:Mix O R t B1 B0 w v xs xs.length):∃F,Ow O t w v xs F∧F.Nodup∧∀b∈F,B0≤b:=by
 rcases h with ⟨rfl,rfl⟩|⟨g,cap,c1,c2,rest,F,G,rfl,hr,h3,h4,h5,hf,hf2,hn,hb,_⟩
 ·exact ⟨[],.inl ⟨rfl,rfl,rfl⟩,FK,FK⟩
 ·have:c2=[]:=by simp at hf2;exact hf2.1
  subst this;exact ⟨g::F,.inr ⟨g,cap,c1,rest,F,rfl,HH,h3,h4,by simpa using h5,by simpa using hf,rfl⟩,hn,hb⟩
theorem Mix.frame {w':World} {k:Nat} (h:Mix O R t B1 B0 w v xs k) (hb:∀b,b < w.heap.size→b < B1∨B0≤b→w'.heap[b]?=w.heap[b]?):Mix O R t B1 B0 w' v xs k:=by
 rcases h with h|⟨g,cap,c1,c2,rest,F,G,hv,hr,h3,h4,h5,hf,hf2,hn,hb1,hb2⟩
 ·exact .inl h
 ·exact .inr ⟨g,cap,c1,c2,rest,F,G,hv,hr.Jd (hb g hr.lt (.inr (hb1 g FK))),h3,h4,h5,hf.frame fun b h=>hb b (hf.lt b h) (.inr (hb1 b JS)),hf2.frame fun b h=>hb b (hf2.lt b h) (.inl (hb2 b h)),hn,hb1,hb2⟩
theorem Mix.setFar {k:Nat} (h:Mix O R t B1 B0 w v xs k) {p:Addr} (h1:B1≤p.block) (h2:p.block < B0) (u:Value):Mix O R t B1 B0 (w.setCell p u) v xs k :=
 h.frame fun b _ hb=>Below.heap_setCell _ _ _ _ FJ
theorem Mix.below {w':World} {k:Nat} (h:Mix O R t B1 B0 w v xs k) (hb:Below w.heap.size w w'):Mix O R t B1 B0 w' v xs k:=h.frame fun b h _=>hb.block b h
theorem Mix.slice {k:Nat} (h:Mix O R t B1 B0 w v xs k):∃a cap,v=.slice a xs.length cap:=by
 rcases h with ⟨rfl,rfl⟩|⟨g,cap,c1,c2,rest,F,G,rfl,_⟩
 ·exact ⟨none,0,rfl⟩
 ·exact ⟨_,_,rfl⟩
theorem Mix.at {k:Nat} (h:Mix O R t B1 B0 w v xs k) (hsz:R.sz=O.sz) (hk:k < xs.length) (hB:B0≤w.heap.size) (h01:B1≤B0) :
  ∃g cap A c B Fk,v=.slice (some ⟨g,0,none⟩) xs.length cap∧B0≤g∧Ir w g t (A++c++B)∧A.length=k * O.sz∧c.length=O.sz∧R.Ky w c xs[k] Fk∧(∀b∈Fk,b < B1) ∧
   ∀w' c' F',Ir w' g t (A++c'++B)→O.Ky w' c' xs[k] F'→F'.Nodup→(∀b∈F',w.heap.size≤b)→(∀b,b < w.heap.size→b≠g→w'.heap[b]?=w.heap[b]?)→Mix O R t B1 B0 w' v xs (k+1):=by
 rcases h with ⟨_,rfl⟩|⟨g,cap,c1,c2,rest,F,G,rfl,hr,h3,h4,h5,hf,hf2,hn,hb1,hb2⟩
 ·simp at hk
 ·rw [List.drop_eq_getElem_cons hk] at hf2;obtain ⟨c,c3,G1,G2,rfl,rfl,h6,h7⟩:=hf2;have hc1:c1.length=k * O.sz:=by rw [hf.len,List.length_take,Nat.min_eq_left FJ]
  have hlc:=R.len h6;refine ⟨g,cap,c1,c,c3++rest,G1,rfl,hb1 g FK,HH,hc1,by rw [←hsz];exact hlc,h6,fun b hb=>hb2 b FY,fun w' c' F' hr' h8 hn' hF' hk'=>?_⟩;have hlc':=O.len h8;have hne:∀b∈F++G2,b < w.heap.size∧b≠g:=fun b hb=>by
   rcases List.mem_append.1 hb with hb|hb
   ·refine ⟨hf.lt b hb,fun e=>?_⟩;subst e;simp at hn;exact hn.1 hb
   ·have:=hb2 b FY;have:=hb1 g FK;exact ⟨FJ,FJ⟩
  refine .inr ⟨g,cap,c1++c',c3,rest,F++F',G2,rfl,by simpa using hr',h3,h4,?_,?_,?_,?_,?_,fun b hb=>hb2 b FY⟩
  ·simp only [List.length_append] at h5 ⊢;omega
  ·rw [List.take_succ_eq_append_getElem hk];exact (hf.frame fun b hb=>hk' b (hne b FY).1 (hne b FY).2).append (C1.one h8)
  ·exact h7.frame fun b hb=>hk' b (hne b FY).1 (hne b FY).2
  ·have hg:=hr.lt;simp only [List.nodup_cons,List.mem_append,not_or,List.nodup_append] at hn ⊢;exact ⟨⟨hn.1,fun hm=>by have:=hF' g hm;omega⟩,hn.2,hn',fun a ha b hb e=>by have:=hf.lt a ha;have:=hF' b hb;omega⟩
  ·intro b hb;simp at hb;rcases hb with rfl|hb|hb
   ·exact hb1 b FK
   ·exact hb1 b FY
   ·have:=hF' b hb;omega
end
def Gj (lo x hi:Int):Bool:=decide (lo≤x) && decide (x≤hi)
theorem Cm {a b:Bool} (h:a=b):Ending.returned (.bool a)=.returned (.bool b):=by rw [h]
theorem Amh (s:ByteArray) (k:Nat) (h:k < s.size):s.data.toList.take (k+1)=s.data.toList.take k++[s[k]]:=by
 rw [List.take_succ_eq_append_getElem GE];rfl
theorem Arb (s:ByteArray) (k:Nat) (h:¬k < s.size):s.data.toList.take k=s.data.toList:=List.take_of_length_le FR
theorem Agl (s:ByteArray) (k:Nat) (h:k < s.size):s.data.toList.drop k=s[k]::s.data.toList.drop (k+1):=by
 rw [List.drop_eq_getElem_cons GE];rfl
theorem Ab7 (s:ByteArray) (k:Nat) (h:¬k < s.size):s.data.toList.drop k=[]:=List.drop_of_length_le FR
theorem Bc5 {a b:UInt8}:((a.toNat:Int) == (b.toNat:Int))=(a == b):=by
 rw [Bool.eq_iff_iff];simp [←UInt8.toNat_inj];omega
theorem Ik (x lo hi:Int) (w:World) :
  Calls prog 114 #[.int .i64 x,.int .i64 lo,.int .i64 hi] w fun e w'=>e=.returned (.bool (Gj lo x hi))∧w=w':=by
 go_enter func114,ntmps114
 go_wp2
 all_goals go_ret
 all_goals exact ⟨Cm (by simp [Gj, *] <;> omega),rfl⟩
theorem Ku (x lo hi:Int) (w:World) :
  Calls prog 83 #[.int .i64 x,.int .i64 lo,.int .i64 hi] w fun e w'=>e=.returned (.bool (Gj lo x hi))∧w=w':=by
 go_enter func83,ntmps83
 go_wp2
 all_goals go_ret
 all_goals exact ⟨Cm (by simp [Gj, *] <;> omega),rfl⟩
def Kj (c:UInt8) (l:List UInt8):Bool:=l.any (· == c)
theorem As1 (s:ByteArray) (c:UInt8) (w:World) (hs:s.size≤maxLen) :
  Calls prog 36 #[.string s,.int .u8 c.toNat] w fun e w'=>e=.returned (.bool (Kj c s.data.toList))∧w=w':=by
 unfold maxLen at hs
 go_enter func36,ntmps36
 go_wp2
 go_loop [5] (fun i=>∃k:Nat,k≤s.size∧i=.int .i64 k∧Hid (Kj c s.data.toList=Kj c (s.data.toList.drop k))) (fun i=>s.size - (intOf i).toNat)
 case atStart=>exact ⟨0,Nat.zero_le _,rfl,rfl⟩
 case round =>
  obtain ⟨k,hk,rfl,hz⟩:=hrel;by_cases hlt:k < s.size
  ·have hz:=Lib.hid (hz.out.trans (by rw [Agl s k hlt];rfl:_=(s[k] == c || Kj c (s.data.toList.drop (k+1)))));by_cases he:((s[k].toNat:Int) == (c.toNat:Int))=true
   ·go_wp2
    go_ret
    rw [Bc5] at he;exact ⟨Cm (by rw [hz.out,he];rfl),rfl⟩
   ·have he:=eq_false_of_ne_true he
    go_wp2
    go_round
    case rel=>rw [Bc5] at he;exact ⟨k+1,FJ,HX,by refine Lib.hid ?_;rw [hz.out,he];rfl⟩
    case measure=>simp [intOf];omega
  ·go_wp2
   go_ret
   exact ⟨Cm (by rw [hz.out,Ab7 s k hlt];rfl),rfl⟩
def Qy (b:UInt8):Bool:=Gj 32 b.toNat 126 && !(b == 35)
def I7 (l:List UInt8):Bool:=l.all Qy
theorem Agw {a:UInt8}:((a.toNat:Int) == 35)=(a == 35):=Bc5 (b:=35)
theorem Apo (s:ByteArray) (w:World) (hs:s.size≤maxLen) :
  Calls prog 115 #[.string s] w fun e w'=>e=.returned (.bool (I7 s.data.toList))∧w=w':=by
 unfold maxLen at hs
 go_enter func115,ntmps115
 go_wp2
 go_loop [6] (fun i=>∃k:Nat,k≤s.size∧i=.int .i64 k∧Hid (I7 s.data.toList=I7 (s.data.toList.drop k))) (fun i=>s.size - (intOf i).toNat)
 case atStart=>exact ⟨0,Nat.zero_le _,rfl,rfl⟩
 case round =>
  obtain ⟨k,hk,rfl,hz⟩:=hrel;by_cases hlt:k < s.size
  ·have hz:=Lib.hid (hz.out.trans (by rw [Agl s k hlt];rfl:_=(Qy s[k] && I7 (s.data.toList.drop (k+1)))));have hb:(s[k].toNat:Int)≤255:=IZ
   go_wp2_with (go_at_call 114;refine (Ik _ _ _ _).mono ?_;rintro e w' ⟨rfl,rfl⟩)
   ·have h1:Gj 32 s[k].toNat 126=true:=GI
    have h2:((s[k].toNat:Int) == 35)=true:=GI
    go_ret
    exact ⟨Cm (by rw [hz.out];rw [Agw] at h2;simp [Qy,h2]),rfl⟩
   ·have h1:Gj 32 s[k].toNat 126=true:=GI
    have h2:((s[k].toNat:Int) == 35)=false:=GI
    exact ES
   ·have h1:¬Gj 32 s[k].toNat 126=true:=GI
    go_ret
    exact ⟨Cm (by rw [hz.out];simp [Qy,h1]),rfl⟩
  ·go_wp2
   go_ret
   exact ⟨Cm (by rw [hz.out,Ab7 s k hlt];rfl),rfl⟩
theorem As2 (s:ByteArray) (n:Int) (w:World) (hs:s.size≤maxLen) :
  Calls prog 35 #[.string s,.int .i64 n] w fun e w'=>e=.returned (.bool (I7 s.data.toList && decide ((s.size:Int)≤n)))∧w=w':=by
 unfold maxLen at hs
 go_enter func35,ntmps35
 go_wp2
 go_loop [5] (fun i=>∃k:Nat,k≤s.size∧i=.int .i64 k∧Hid (I7 s.data.toList=I7 (s.data.toList.drop k))) (fun i=>s.size - (intOf i).toNat)
 case atStart=>exact ⟨0,Nat.zero_le _,rfl,rfl⟩
 case round =>
  obtain ⟨k,hk,rfl,hz⟩:=hrel;by_cases hlt:k < s.size
  ·have hz:=Lib.hid (hz.out.trans (by rw [Agl s k hlt];rfl:_=(Qy s[k] && I7 (s.data.toList.drop (k+1)))));have hb:(s[k].toNat:Int)≤255:=IZ
   go_wp2_with (go_at_call 83;refine (Ku _ _ _ _).mono ?_;rintro e w' ⟨rfl,rfl⟩)
   ·have h1:Gj 32 s[k].toNat 126=true:=GI
    have h2:((s[k].toNat:Int) == 35)=true:=GI
    go_ret
    exact ⟨Cm (by rw [hz.out];rw [Agw] at h2;simp [Qy,h2]),rfl⟩
   ·have h1:Gj 32 s[k].toNat 126=true:=GI
    have h2:((s[k].toNat:Int) == 35)=false:=GI
    exact ES
   ·have h1:¬Gj 32 s[k].toNat 126=true:=GI
    go_ret
    exact ⟨Cm (by rw [hz.out];simp [Qy,h1]),rfl⟩
  ·go_wp2
   go_ret
   exact ⟨Cm (by rw [hz.out,Ab7 s k hlt];simp [I7]),rfl⟩
theorem If {a b:Int} (h:a=b):Ending.returned (.int .i64 a)=.returned (.int .i64 b):=by rw [h]
theorem Ah2:(prog.info? 3).map (fun i=>(i.zero,i.size,i.bytes))=some (some (.int .i64 0),1,8):=by kernel_rfl
theorem Sl.int {w:World} {a:Option Addr} {n cap:Nat} {xs:List Int} {F} (h:Sl Bb w (.slice a n cap) xs F):n=xs.length∧n≤maxLen ∧
  ∀k (hk:k < xs.length),∃b off,a=some ⟨b,off,none⟩∧w.cell? ⟨b,off+k,none⟩=some (.int .i64 xs[k]):=by
 obtain ⟨a',cap',hv,hl,h⟩:=h;cases hv;refine ⟨rfl,FJ,fun k hk=>?_⟩;rcases h with ⟨rfl,_⟩|⟨b,off,F',rfl,_,_,hc⟩
 ·simp at hk
 ·obtain ⟨cs,F1,⟨rfl,_⟩,hj,_⟩:=hc.get k hk;exact ⟨b,off,rfl,by simpa [Bb] using hj 0 FM⟩
theorem Aq8 (v:Value) (zs:List Int) (F:List Nat) (n:Int) (w:World) (h:Sl Bb w v zs F) (h0:0≤n) (h1:n≤1048576) :
  Calls prog 70 #[v,.int .i64 n] w (RB (.int .i64 (Ze n (Kn (fun _=>0) zs))) w):=by
 obtain ⟨a,cap,rfl,_,_⟩:=id h;obtain ⟨_,hl,_⟩:=h.int;unfold maxLen at hl;rw [Ajs]
 go_enter func70,ntmps70
 go_wp2
 all_goals go_ret
 all_goals exact ⟨If HV,Below.refl _ _⟩
theorem Ao5 (va vb:Value) (zs:List Int) (Fa Fb:List Nat) (w:World) (ha:Sl Bb w va zs Fa) (hb:Sl Bb w vb zs Fb) :
  Calls prog 128 #[va,vb] w (RB (.bool true) w):=by
 obtain ⟨a,ca,rfl,_,_⟩:=id ha;obtain ⟨b,cb,rfl,_,_⟩:=id hb;obtain ⟨_,hla,ha⟩:=ha.int;obtain ⟨_, -,hb⟩:=hb.int;unfold maxLen at hla
 go_enter func128,ntmps128
 go_wp2
 go_loopw [5] (fun i wr=>∃k:Nat,k≤zs.length∧i=.int .i64 k∧∃n,wr=w.drewN n) (fun i _=>zs.length - (intOf i).toNat)
 case atStart=>exact ⟨0,Nat.zero_le _,rfl,0,rfl⟩
 case round =>
  obtain ⟨k,hk,rfl,n,rfl⟩:=hrel;by_cases hlt:k < zs.length
  ·obtain ⟨ba,oa,rfl,hca⟩:=ha k hlt;obtain ⟨bb,ob,rfl,hcb⟩:=hb k hlt;clear ha hb;have he':(zs[k] != zs[k])=false:=FK
   go_wp2
   go_quiet (fail)
   go_wp2
   exact ⟨⟨k+1,FJ,HX,n+nq,FK⟩,GT⟩
  ·go_wp2
   go_ret
   exact ⟨rfl,D7 (Below.refl _ _) _⟩
structure Qo where
 Ad:List Int
def Po:Br Qo where
 sz:=1
 Ky w cs x F:=∃v1,cs=[v1]∧Sl Bb w v1 x.Ad F
 len h:=GX
 lt h:=HL
 frame h hF:=GH
def Ae5:Br Qo where
 sz:=1
 Ky w cs x F:=∃v1,cs=[v1]∧Ow Bb 3 w v1 x.Ad F
 len h:=GX
 lt h:=IA
 frame h hF:=GH
def Oe (x:Qo):Nat:=Kn (fun _=>0) x.Ad
def I2 (x:Qo):Nat:=(B8 El) x.Ad
def Abk (k:Int) (x:Qo):Qo:=⟨(Cy mkI El) (k) x.Ad⟩
theorem Apm:(prog.info? 9).map (fun i=>(i.zero,i.size,i.bytes))=some (some (.string ⟨#[]⟩),1,16):=by kernel_rfl
theorem Sl.str {w:World} {a:Option Addr} {n cap:Nat} {xs:List ByteArray} {F} (h:Sl A8 w (.slice a n cap) xs F):n=xs.length∧n≤maxLen ∧
  ∀k (hk:k < xs.length),xs[k].size≤maxLen∧∃b off,a=some ⟨b,off,none⟩∧w.cell? ⟨b,off+k,none⟩=some (.string xs[k]):=by
 obtain ⟨a',cap',hv,hl,h⟩:=h;cases hv;refine ⟨rfl,FJ,fun k hk=>?_⟩;rcases h with ⟨rfl,_⟩|⟨b,off,F',rfl,_,_,hc⟩
 ·simp at hk
 ·obtain ⟨cs,F1,⟨rfl,hs,_⟩,hj,_⟩:=hc.get k hk;exact ⟨hs,b,off,rfl,by simpa [A8] using hj 0 FM⟩
theorem Ara (v:Value) (zs:List ByteArray) (F:List Nat) (n:Int) (w:World) (h:Sl A8 w v zs F) (h0:0≤n) (h1:n≤1048576) :
  Calls prog 148 #[v,.int .i64 n] w (RB (.int .i64 (Ze n (Kn ByteArray.size zs))) w):=by
 obtain ⟨a,cap,rfl⟩:=h.slice;obtain ⟨_,hl,hc⟩:=h.str;unfold maxLen at hl hc
 go_enter func148,ntmps148
 by_cases hn:n < zs.length
 ·go_wp2
  go_ret
  exact ⟨If (Lk (by have:=Xu ByteArray.size zs 0;omega)).symm,Below.refl _ _⟩
 go_wp2
 go_loop [1,5] (fun l i=>∃k:Nat,k≤zs.length∧i=.int .i64 k∧l=.int .i64 (n - zs.length - Hk ByteArray.size zs k)∧(Hk ByteArray.size zs k:Int)+zs.length≤n) (fun _ i=>zs.length - (intOf i).toNat)
 case atStart=>exact ⟨0,Nat.zero_le _,rfl,by rw [Qm];simp,by rw [Qm];omega⟩
 case round =>
  obtain ⟨k,hk,rfl,rfl,hle⟩:=hrel;by_cases hlt:k < zs.length
  ·have hsn:=Ql ByteArray.size zs k hlt;have hsl:=Xu ByteArray.size zs (k+1);obtain ⟨hs,b,off,rfl,c0⟩:=hc k hlt;have hS:=Lib.hid hsn;clear hsn hc;by_cases hr:n - zs.length - Hk ByteArray.size zs k < zs[k].size
   ·have hr2:n - zs.length - Hk ByteArray.size zs k - zs[k].size < 0:=FJ
    go_wp2
    go_ret
    exact ⟨If (Lk (by have:=hS.out;omega)).symm,Below.refl _ _⟩
   ·have hr2:¬n - zs.length - Hk ByteArray.size zs k - zs[k].size < 0:=FJ
    go_wp2
    go_round
    case rel=>exact ⟨k+1,FJ,HX,congrArg (Value.int .i64) (by have:=hS.out;omega),by have:=hS.out;omega⟩
    case measure=>simp [intOf];omega
  ·have hk:k=zs.length:=FJ
   subst hk
   go_wp2
   go_ret
   exact ⟨If (by rw [P2 (by rw [Ae3];omega),Ae3];omega),Below.refl _ _⟩
theorem Ao8 (va vb:Value) (zs:List ByteArray) (Fa Fb:List Nat) (w:World) (ha:Sl A8 w va zs Fa) (hb:Sl A8 w vb zs Fb) :
  Calls prog 224 #[va,vb] w (RB (.bool true) w):=by
 obtain ⟨a,ca,rfl⟩:=ha.slice;obtain ⟨b,cb,rfl⟩:=hb.slice;obtain ⟨_,hla,ha⟩:=ha.str;obtain ⟨_, -,hb⟩:=hb.str;unfold maxLen at hla ha
 go_enter func224,ntmps224
 go_wp2
 go_loopw [5] (fun i wr=>∃k:Nat,k≤zs.length∧i=.int .i64 k∧∃n,wr=w.drewN n) (fun i _=>zs.length - (intOf i).toNat)
 case atStart=>exact ⟨0,Nat.zero_le _,rfl,0,rfl⟩
 case round =>
  obtain ⟨k,hk,rfl,n,rfl⟩:=hrel;by_cases hlt:k < zs.length
  ·obtain ⟨hs,ba,oa,rfl,hca⟩:=ha k hlt;obtain ⟨-,bb,ob,rfl,hcb⟩:=hb k hlt;clear ha hb
   go_wp2
   go_quiet (fail)
   go_wp2
   exact ⟨⟨k+1,FJ,HX,n+nq,FK⟩,GT⟩
  ·go_wp2
   go_ret
   exact ⟨rfl,D7 (Below.refl _ _) _⟩
theorem Aku (a b:Array UInt8):(⟨a⟩:ByteArray)++⟨b⟩=⟨a++b⟩:=by apply ByteArray.ext;simp [ByteArray.data_append]
theorem Anh (m:Nat) (r:List UInt8):Oh m 0 r=r:=by cases m <;> simp [Oh]
theorem Ap7 (m k:Nat) (r:List UInt8) (h:k≠0):Oh (m+1) k r=Oh m (k / 10) (UInt8.ofNat (48+k % 10)::r):=by simp [Oh,h]
theorem Rl (k:Int) (w:World) (h0:0≤k) (h1:k≤1099511627776) :
  Calls prog 231 #[.int .i64 k] w (RB (.string (Afo k)) w):=by
 by_cases hk:k≤0
 ·have hm:Afo k=⟨#[109,48]⟩:=by unfold Afo;rw [if_pos hk]
  have hm:=Lib.hid hm
  go_enter func231,ntmps231
  go_wp2
  go_ret
  exact ⟨by rw [hm.out];rfl,Below.refl _ _⟩
 obtain ⟨kn,rfl⟩:=Int.eq_ofNat_of_zero_le h0;have hm:Afo (kn:Int)=⟨(109::Oh 20 kn []).toArray⟩:=by unfold Afo;rw [if_neg hk];rfl
 have hm:=Lib.hid hm;generalize hD:Oh 20 kn []=D at *;have hD:=Lib.hid hD;have hk:¬kn≤0:=FJ
 go_enter func231,ntmps231
 go_wp2
 go_loopw [0,3] (fun k o wr=>∃(m kk:Nat) (r:List UInt8),k=.int .i64 (kk:Int)∧o=.string ⟨r.toArray⟩∧(kk:Int)≤1099511627776∧r.length+m≤20∧Hid (kk < 10 ^ m)∧Hid (Oh m kk r=D)∧Below w.heap.size w wr) (fun k _ _=>(intOf k).toNat)
 case atStart=>exact ⟨20,kn,[],rfl,rfl,h1,FK,by show kn < 10 ^ 20;omega,hD,Below.refl _ _⟩
 case round =>
  obtain ⟨m,kk,r,rfl,rfl,hkk,hr,hp,hd,hB⟩:=hrel;by_cases h0:0 < kk
  ·have b0:(0:Int)≤(kk:Int) % 10:=FJ
   have b1:(kk:Int) % 10≤9:=FJ
   have hcv:((convert 329 9 (.slice (some ⟨wr.heap.size,0,none⟩) 1 1)).run prog (wr.alloc (.cells #[.int .u8 (48+(kk:Int) % 10)] 5)))=.ok (.string ⟨[UInt8.ofNat (48+kk % 10)].toArray⟩) (wr.alloc (.cells #[.int .u8 (48+(kk:Int) % 10)] 5)):=by
    have h:=run_convert_bytes_back (P:=prog) (wr.alloc (.cells #[.int .u8 (48+(kk:Int) % 10)] 5)) 329 9 5 ⟨wr.heap.size,0,none⟩ 1 [UInt8.ofNat (48+kk % 10)] underlying329 underlying5 underlying9 (fun j hj=>by
     obtain rfl:j=0:=IR
     have e1:(UInt8.ofNat (48+kk % 10)).toNat=48+kk % 10:=by rw [UInt8.toNat_ofNat'];omega
     simp only [List.getElem_cons_zero,e1];simp [Addr.add])
    exact h
   obtain ⟨m',rfl⟩:∃m',m=m'+1:=⟨m - 1,by have:=hp.out;rcases m with _|m <;> simp at this ⊢;omega⟩;have hp':Hid (kk / 10 < 10 ^ m'):=by have:=hp.out;rw [Nat.pow_succ] at this;show kk / 10 < 10 ^ m';omega
   have hd':Hid (Oh m' (kk / 10) (UInt8.ofNat (48+kk % 10)::r)=D):=by rw [←Ap7 m' kk r FJ];exact hd
   clear hd hp
   go_wp2
   exact ⟨⟨m',kk / 10,UInt8.ofNat (48+kk % 10)::r,FK,congrArg Value.string (by rw [Aku];simp),FJ,FR,hp',hd',hB.alloc hB.size _⟩,GT⟩
  ·go_wp2
   go_ret
   have hk0:kk=0:=FJ
   have hd:=hd.out;rw [hk0,Anh] at hd;subst hd;exact ⟨by rw [hm.out,Aku];simp,hB⟩
structure Aw where
 Ap:Int
 size:Int
 Ao:List ByteArray
def Bv:Br Aw where
 sz:=3
 Ky w cs x F:=∃v1,cs=[.int .i64 x.Ap,.int .i64 x.size,v1]∧Sl A8 w v1 x.Ao F
 len h:=GX
 lt h:=HL
 frame h hF:=GH
def Kw:Br Aw where
 sz:=3
 Ky w cs x F:=∃v1,cs=[.int .i64 x.Ap,.int .i64 x.size,v1]∧Ow A8 9 w v1 x.Ao F
 len h:=GX
 lt h:=IA
 frame h hF:=GH
def Jw (x:Aw):Nat:=Kn ByteArray.size x.Ao
def E6 (x:Aw):Nat:=(B8 Oo) x.Ao
def Nt (k:Int) (x:Aw):Aw:=⟨x.Ap,x.size,(Cy mkS Oo) (k) x.Ao⟩
structure Hz where
 Ae:Int
 Ch:Int
def Bn:Br Hz where
 sz:=2
 Ky _ cs x F:=cs=[.int .i64 x.Ae,.int .i64 x.Ch]∧F=[]
 len h:=by obtain ⟨rfl,rfl⟩:=h;rfl
 lt h:=by obtain ⟨rfl,rfl⟩:=h;simp
 frame h _:=h
theorem Jp:Yf Bn:=fun h u hu=>by
 obtain ⟨rfl,rfl⟩:=h;simp only [List.mem_cons,List.not_mem_nil,or_false] at hu;rcases hu with rfl|rfl
 ·rfl
 ·rfl
theorem Lj:Ab1 Bn:=fun h=>by obtain ⟨rfl,rfl⟩:=h;rfl
theorem Alh:(prog.info? 215).map (fun i=>(i.zero,i.size,i.bytes))=some (some (.agg #[.int .i64 0,.int .i64 0]),2,16):=by kernel_rfl
def Hl (x:Hz):Nat:=El x.Ae+El x.Ch
def Vi (k:Int) (x:Hz):Hz:=⟨mkI (k) x.Ae,mkI (k+El x.Ae) x.Ch⟩
theorem Ar5 (x:Hz):Hl x≤2 * (1+(fun _=>0) x):=by
 simp only [Hl,El,Z8,Oo];omega
theorem Ayn (v:Value) (xs:List Hz) (F:List Nat) (n:Int) (w:World) (h:Sl Bn w v xs F) (h0:0≤n) (h1:n≤1048576) :
  Calls prog 72 #[v,.int .i64 n] w (RB (.int .i64 (Ze n (Kn (fun _=>0) xs))) w):=by
 obtain ⟨a,cap,rfl⟩:=h.slice;have hl:=h.len;unfold maxLen at hl;rw [Ajs]
 go_enter func72,ntmps72
 go_wp2
 all_goals go_ret
 all_goals exact ⟨If HV,Below.refl _ _⟩
theorem Bcz (v:Value) (x:Hz) (F:List Nat) (w:World) (h:Jy Bn w v x F)  :
  Calls prog 176 #[v] w (Wt Bn x w):=by
 obtain ⟨_,rfl,rfl,rfl⟩:=h;have hB0:∀A B C:Obj,Below w.heap.size w (((w.alloc A).alloc B).alloc C):=fun A B C=>(((Below.refl _ _).alloc (Nat.le_refl _) _).alloc FK _).alloc GF _
 go_enter func176,ntmps176
 go_wp2_with fail;refine bodyPost_ret (v:=.agg #[.int .i64 x.Ae,.int .i64 x.Ch]) ?_ rfl ?_
 ·simp [results,results176,go_sem]
 ·exact ⟨_,[],rfl,⟨_,rfl,rfl,rfl⟩,FK,FK,GB⟩
theorem Az5 (va vb:Value) (x:Hz) (Fa Fb:List Nat) (w:World) (ha:Jy Bn w va x Fa) (hb:Jy Bn w vb x Fb) :
  Calls prog 225 #[va,vb] w (RB (.bool true) w):=by
 obtain ⟨_,rfl,rfl,rfl⟩:=ha;obtain ⟨_,rfl,rfl,rfl⟩:=hb;have hB0:∀A B:Obj,Below w.heap.size w ((w.alloc A).alloc B):=fun A B=>((Below.refl _ _).alloc (Nat.le_refl _) _).alloc FK _;have hE:∀z:Int,(z != z)=false:=fun z=>by simp
 go_enter func225,ntmps225
 go_wp2_with fail
 go_ret
 exact ⟨rfl,hB0 _ _⟩
structure Ck where
 Aa:Aw
 Ai:Int
 quiet:Int
 holds:List Hz
def Do:Br Ck where
 sz:=6
 Ky w cs x F:=∃v1 v2 F1 F2,cs=[.int .i64 x.Aa.Ap,.int .i64 x.Aa.size,v1,.int .i64 x.Ai,.int .i64 x.quiet,v2]∧Sl A8 w v1 x.Aa.Ao F1∧Sl Bn w v2 x.holds F2∧F=F1++F2
 len h:=IL
 lt h:=by
  obtain ⟨v1,v2,F1,F2,rfl,h1,h2,rfl⟩:=h;intro b hb;simp only [List.mem_append] at hb;rcases hb with hb|hb
  ·exact h1.lt FM b hb
  ·exact h2.lt FM b hb
 frame h hF:=GJ
def Tf:Br Ck where
 sz:=6
 Ky w cs x F:=∃v1 v2 F1 F2,cs=[.int .i64 x.Aa.Ap,.int .i64 x.Aa.size,v1,.int .i64 x.Ai,.int .i64 x.quiet,v2]∧Ow A8 9 w v1 x.Aa.Ao F1∧Ow Bn 215 w v2 x.holds F2∧F=F1++F2
 len h:=IL
 lt h:=by
  obtain ⟨v1,v2,F1,F2,rfl,h1,h2,rfl⟩:=h;intro b hb;simp only [List.mem_append] at hb;rcases hb with hb|hb
  ·exact h1.lt b hb
  ·exact h2.lt b hb
 frame h hF:=GJ
def Ko (x:Ck):Nat:=Jw x.Aa+Kn (fun _=>0) x.holds
def Gk (x:Ck):Nat:=E6 x.Aa+(B8 Hl) x.holds
def Q0 (k:Int) (x:Ck):Ck:=⟨Nt (k) x.Aa,x.Ai,x.quiet,(Cy Vi Hl) (k+E6 x.Aa) x.holds⟩
structure Gs where
 Ae:Int
 Bj:List Int
 Ch:Int
def Dt:Br Gs where
 sz:=3
 Ky w cs x F:=∃v1,cs=[.int .i64 x.Ae,v1,.int .i64 x.Ch]∧Sl Bb w v1 x.Bj F
 len h:=GX
 lt h:=HL
 frame h hF:=GH
theorem Ail:Yf Dt:=fun h u hu=>by
 obtain ⟨v1,rfl,h1⟩:=h;simp only [List.mem_cons,List.not_mem_nil,or_false] at hu;rcases hu with rfl|rfl|rfl
 ·rfl
 ·exact h1.one
 ·rfl
theorem Aba:(prog.info? 212).map (fun i=>(i.zero,i.size,i.bytes))=some (some (.agg #[.int .i64 0,.slice none 0 0,.int .i64 0]),3,40):=by kernel_rfl
def Dy:Br Gs where
 sz:=3
 Ky w cs x F:=∃v1,cs=[.int .i64 x.Ae,v1,.int .i64 x.Ch]∧Ow Bb 3 w v1 x.Bj F
 len h:=GX
 lt h:=IA
 frame h hF:=GH
theorem Rn:Yf Dy:=fun h u hu=>by
 obtain ⟨v1,rfl,h1⟩:=h;simp only [List.mem_cons,List.not_mem_nil,or_false] at hu;rcases hu with rfl|rfl|rfl
 ·rfl
 ·exact h1.one
 ·rfl
theorem Ru:Ng Dy Dt:=⟨rfl,fun h=>by
 obtain ⟨v1,rfl,h1⟩:=h;obtain ⟨G1,g1,k1⟩:=h1.sl (Ng.refl _);exact ⟨G1,g1,v1,rfl,k1⟩⟩
def M5 (x:Gs):Nat:=Kn (fun _=>0) x.Bj
def Er (x:Gs):Nat:=El x.Ae+(B8 El) x.Bj+El x.Ch
def P0 (k:Int) (x:Gs):Gs:=⟨mkI (k) x.Ae,(Cy mkI El) (k+El x.Ae) x.Bj,mkI (k+El x.Ae+(B8 El) x.Bj) x.Ch⟩
theorem Aoy (x:Gs):Er x≤2 * (1+M5 x):=by
 have h0:=Og El (fun _=>0) 1 (fun x=>by simp [El]) x.Bj;simp only [Er,M5,El,Z8,Oo];omega
structure Bf where
 Ai:Int
 Ah:List Gs
def Bk:Br Bf where
 sz:=2
 Ky w cs x F:=∃v1,cs=[.int .i64 x.Ai,v1]∧Sl Dt w v1 x.Ah F
 len h:=GX
 lt h:=HL
 frame h hF:=GH
def Ca:Br Bf where
 sz:=2
 Ky w cs x F:=∃v1,cs=[.int .i64 x.Ai,v1]∧Ow Dy 212 w v1 x.Ah F
 len h:=GX
 lt h:=IA
 frame h hF:=GH
theorem Q1:Yf Ca:=fun h u hu=>by
 obtain ⟨v1,rfl,h1⟩:=h;simp only [List.mem_cons,List.not_mem_nil,or_false] at hu;rcases hu with rfl|rfl
 ·rfl
 ·exact h1.one
theorem Mq:Ng Ca Bk:=⟨rfl,fun h=>by
 obtain ⟨v1,rfl,h1⟩:=h;obtain ⟨G1,g1,k1⟩:=h1.sl Ru;exact ⟨G1,g1,v1,rfl,k1⟩⟩
def E9 (x:Bf):Nat:=Kn M5 x.Ah
def Cg (x:Bf):Nat:=El x.Ai+(B8 Er) x.Ah
def M8 (k:Int) (x:Bf):Bf:=⟨mkI (k) x.Ai,(Cy P0 Er) (k+El x.Ai) x.Ah⟩
theorem Aj0 (x:Bf):Cg x≤2 * (1+E9 x):=by
 have h0:=Og Er M5 2 Aoy x.Ah;simp only [Cg,E9,El,Z8,Oo];omega
structure Gh where
 V2:Bool
 Dk:ByteArray
def B9:Br Gh where
 sz:=2
 Ky _ cs x F:=cs=[.bool x.V2,.string x.Dk]∧x.Dk.size≤maxLen∧F=[]
 len h:=by obtain ⟨rfl,s1,rfl⟩:=h;rfl
 lt h:=by obtain ⟨rfl,s1,rfl⟩:=h;simp
 frame h _:=h
theorem Iy:Yf B9:=fun h u hu=>by
 obtain ⟨rfl,s1,rfl⟩:=h;simp only [List.mem_cons,List.not_mem_nil,or_false] at hu;rcases hu with rfl|rfl
 ·rfl
 ·rfl
theorem Id:Ab1 B9:=fun h=>by obtain ⟨rfl,s1,rfl⟩:=h;rfl
theorem Awr:(prog.info? 275).map (fun i=>(i.zero,i.size,i.bytes))=some (some (.agg #[.bool false,.string ⟨#[]⟩]),2,24):=by kernel_rfl
def Rv (x:Gh):Nat:=x.Dk.size
def E5 (x:Gh):Nat:=Z8 x.V2+Oo x.Dk
def Ul (k:Int) (x:Gh):Gh:=⟨mkB (k) x.V2,mkS (k+Z8 x.V2) x.Dk⟩
theorem Ar6 (x:Gh):E5 x≤2 * (1+Rv x):=by
 simp only [E5,Rv,El,Z8,Oo];omega
theorem Bck (v:Value) (x:Gh) (F:List Nat) (n:Int) (w:World) (h:Jy B9 w v x F) (h0:0≤n) (h1:n≤1048576) :
  Calls prog 301 #[v,.int .i64 n] w (RB (.int .i64 (Ze n (Rv x))) w):=by
 obtain ⟨_,rfl,rfl,s1,rfl⟩:=h;have hB0:∀A:Obj,Below w.heap.size w (w.alloc A):=fun A=>(Below.refl _ _).alloc (Nat.le_refl _) _;unfold maxLen at s1;unfold Rv
 go_enter func301,ntmps301
 go_wp2
 all_goals go_ret
 all_goals exact ⟨If HV,hB0 _⟩
theorem Bc0 (v:Value) (x:Gh) (F:List Nat) (w:World) (h:Jy B9 w v x F) (hl:Rv x≤1048576) :
  Calls prog 315 #[v] w (Wt B9 x w):=by
 obtain ⟨_,rfl,rfl,s1,rfl⟩:=h;have hB0:∀A B C:Obj,Below w.heap.size w (((w.alloc A).alloc B).alloc C):=fun A B C=>(((Below.refl _ _).alloc (Nat.le_refl _) _).alloc FK _).alloc GF _
 go_enter func315,ntmps315
 go_wp2_with fail;refine bodyPost_ret (v:=.agg #[.bool x.V2,.string x.Dk]) ?_ rfl ?_
 ·simp [results,results315,go_sem]
 ·exact ⟨_,[],rfl,⟨_,rfl,rfl,s1,rfl⟩,FK,FK,GB⟩
theorem Az6 (va vb:Value) (x:Gh) (Fa Fb:List Nat) (w:World) (ha:Jy B9 w va x Fa) (hb:Jy B9 w vb x Fb) :
  Calls prog 361 #[va,vb] w (RB (.bool true) w):=by
 obtain ⟨_,rfl,rfl,s1,rfl⟩:=ha;obtain ⟨_,rfl,rfl,t1,rfl⟩:=hb;have hB0:∀A B:Obj,Below w.heap.size w ((w.alloc A).alloc B):=fun A B=>((Below.refl _ _).alloc (Nat.le_refl _) _).alloc FK _;have hE:∀z:Int,(z != z)=false:=fun z=>by simp
 go_enter func361,ntmps361
 go_wp2_with fail
 go_ret
 exact ⟨rfl,hB0 _ _⟩
structure Aj where
 next:Int
 Am:List Gh
def Bh:Br Aj where
 sz:=2
 Ky w cs x F:=∃v1,cs=[.int .i64 x.next,v1]∧Sl B9 w v1 x.Am F
 len h:=GX
 lt h:=HL
 frame h hF:=GH
def M6:Br Aj where
 sz:=2
 Ky w cs x F:=∃v1,cs=[.int .i64 x.next,v1]∧Ow B9 275 w v1 x.Am F
 len h:=GX
 lt h:=IA
 frame h hF:=GH
def In (x:Aj):Nat:=Kn Rv x.Am
structure Ay where
 Ae:Int
 state:Int
 Ch:Int
 D5:Int
def Av:Br Ay where
 sz:=4
 Ky _ cs x F:=cs=[.int .i64 x.Ae,.int .i64 x.state,.int .i64 x.Ch,.int .i64 x.D5]∧F=[]
 len h:=by obtain ⟨rfl,rfl⟩:=h;rfl
 lt h:=by obtain ⟨rfl,rfl⟩:=h;simp
 frame h _:=h
theorem C4:Yf Av:=fun h u hu=>by
 obtain ⟨rfl,rfl⟩:=h;simp only [List.mem_cons,List.not_mem_nil,or_false] at hu;rcases hu with rfl|rfl|rfl|rfl
 ·rfl
 ·rfl
 ·rfl
 ·rfl
theorem Dp:Ab1 Av:=fun h=>by obtain ⟨rfl,rfl⟩:=h;rfl
def C9 (x:Ay):Nat:=El x.Ae+El x.state+El x.Ch+El x.D5
def M9 (k:Int) (x:Ay):Ay:=⟨mkI (k) x.Ae,mkI (k+El x.Ae) x.state,mkI (k+El x.Ae+El x.state) x.Ch,mkI (k+El x.Ae+El x.state+El x.Ch) x.D5⟩
theorem Aj1 (x:Ay):C9 x≤4 * (1+(fun _=>0) x):=by
 simp only [C9,El,Z8,Oo];omega
theorem Anx (v:Value) (xs:List Ay) (F:List Nat) (n:Int) (w:World) (h:Sl Av w v xs F) (h0:0≤n) (h1:n≤1048576) :
  Calls prog 151 #[v,.int .i64 n] w (RB (.int .i64 (Ze n (Kn (fun _=>0) xs))) w):=by
 obtain ⟨a,cap,rfl⟩:=h.slice;have hl:=h.len;unfold maxLen at hl;rw [Ajs]
 go_enter func151,ntmps151
 go_wp2
 all_goals go_ret
 all_goals exact ⟨If HV,Below.refl _ _⟩
theorem Ari (v:Value) (x:Ay) (F:List Nat) (w:World) (h:Jy Av w v x F)  :
  Calls prog 255 #[v] w (Wt Av x w):=by
 obtain ⟨_,rfl,rfl,rfl⟩:=h;have hB0:∀A B C:Obj,Below w.heap.size w (((w.alloc A).alloc B).alloc C):=fun A B C=>(((Below.refl _ _).alloc (Nat.le_refl _) _).alloc FK _).alloc GF _
 go_enter func255,ntmps255
 go_wp2_with fail;refine bodyPost_ret (v:=.agg #[.int .i64 x.Ae,.int .i64 x.state,.int .i64 x.Ch,.int .i64 x.D5]) ?_ rfl ?_
 ·simp [results,results255,go_sem]
 ·exact ⟨_,[],rfl,⟨_,rfl,rfl,rfl⟩,FK,FK,GB⟩
theorem Ao7 (va vb:Value) (x:Ay) (Fa Fb:List Nat) (w:World) (ha:Jy Av w va x Fa) (hb:Jy Av w vb x Fb) :
  Calls prog 300 #[va,vb] w (RB (.bool true) w):=by
 obtain ⟨_,rfl,rfl,rfl⟩:=ha;obtain ⟨_,rfl,rfl,rfl⟩:=hb;have hB0:∀A B:Obj,Below w.heap.size w ((w.alloc A).alloc B):=fun A B=>((Below.refl _ _).alloc (Nat.le_refl _) _).alloc FK _;have hE:∀z:Int,(z != z)=false:=fun z=>by simp
 go_enter func300,ntmps300
 go_wp2_with fail
 go_ret
 exact ⟨rfl,hB0 _ _⟩
structure Az where
 Be:Bool
 Ai:Int
 Aa:Aj
 Al:List Ay
def Bi:Br Az where
 sz:=5
 Ky w cs x F:=∃v1 v2 F1 F2,cs=[.bool x.Be,.int .i64 x.Ai,.int .i64 x.Aa.next,v1,v2]∧Sl B9 w v1 x.Aa.Am F1∧Sl Av w v2 x.Al F2∧F=F1++F2
 len h:=IL
 lt h:=by
  obtain ⟨v1,v2,F1,F2,rfl,h1,h2,rfl⟩:=h;intro b hb;simp only [List.mem_append] at hb;rcases hb with hb|hb
  ·exact h1.lt FM b hb
  ·exact h2.lt FM b hb
 frame h hF:=GJ
def By:Br Az where
 sz:=5
 Ky w cs x F:=∃v1 v2 F1 F2,cs=[.bool x.Be,.int .i64 x.Ai,.int .i64 x.Aa.next,v1,v2]∧Ow B9 275 w v1 x.Aa.Am F1∧Ow Av 250 w v2 x.Al F2∧F=F1++F2
 len h:=IL
 lt h:=by
  obtain ⟨v1,v2,F1,F2,rfl,h1,h2,rfl⟩:=h;intro b hb;simp only [List.mem_append] at hb;rcases hb with hb|hb
  ·exact h1.lt b hb
  ·exact h2.lt b hb
 frame h hF:=GJ
theorem Pr:Yf By:=fun h u hu=>by
 obtain ⟨v1,v2,F1,F2,rfl,h1,h2,rfl⟩:=h;simp only [List.mem_cons,List.not_mem_nil,or_false] at hu;rcases hu with rfl|rfl|rfl|rfl|rfl
 ·rfl
 ·rfl
 ·rfl
 ·exact h1.one
 ·exact h2.one
theorem Sf:Ng By Bi:=⟨rfl,fun h=>by
 obtain ⟨v1,v2,F1,F2,rfl,h1,h2,rfl⟩:=h;obtain ⟨G1,g1,k1⟩:=h1.sl (Ng.refl _);obtain ⟨G2,g2,k2⟩:=h2.sl (Ng.refl _);refine ⟨G1++G2,?_,v1,v2,G1,G2,rfl,k1,k2,rfl⟩;intro b hb;simp only [List.mem_append] at hb ⊢;rcases hb with hb|hb
 ·simp [g1 b hb]
 ·simp [g2 b hb]⟩
def Gg (x:Az):Nat:=In x.Aa+Kn (fun _=>0) x.Al
def Cf (x:Az):Nat:=Z8 x.Be+El x.Ai+El x.Aa.next+(B8 E5) x.Aa.Am+(B8 C9) x.Al
def Lf (k:Int) (x:Az):Az:=⟨mkB (k) x.Be,mkI (k+Z8 x.Be) x.Ai,⟨mkI (k+Z8 x.Be+El x.Ai) x.Aa.next,(Cy Ul E5) (k+Z8 x.Be+El x.Ai+El x.Aa.next) x.Aa.Am⟩,(Cy M9 C9) (k+Z8 x.Be+El x.Ai+El x.Aa.next+(B8 E5) x.Aa.Am) x.Al⟩
theorem Ahe (x:Az):Cf x≤4 * (1+Gg x):=by
 have h0:=Og E5 Rv 2 Ar6 x.Aa.Am;have h1:=Og C9 (fun _=>0) 4 Aj1 x.Al;simp only [Cf,Gg,In,El,Z8,Oo];omega
structure Ar where
 Cp:Int
 Ae:Int
 Ap:Int
 Fv:Int
 data:ByteArray
def Ak:Br Ar where
 sz:=5
 Ky _ cs x F:=cs=[.int .i64 x.Cp,.int .i64 x.Ae,.int .i64 x.Ap,.int .i64 x.Fv,.string x.data]∧x.data.size≤maxLen∧F=[]
 len h:=by obtain ⟨rfl,s1,rfl⟩:=h;rfl
 lt h:=by obtain ⟨rfl,s1,rfl⟩:=h;simp
 frame h _:=h
theorem Hq:Yf Ak:=fun h u hu=>by
 obtain ⟨rfl,s1,rfl⟩:=h;simp only [List.mem_cons,List.not_mem_nil,or_false] at hu;rcases hu with rfl|rfl|rfl|rfl|rfl
 ·rfl
 ·rfl
 ·rfl
 ·rfl
 ·rfl
theorem I8:Ab1 Ak:=fun h=>by obtain ⟨rfl,s1,rfl⟩:=h;rfl
def Ej (x:Ar):Nat:=x.data.size
def Bd (x:Ar):Nat:=El x.Cp+El x.Ae+El x.Ap+El x.Fv+Oo x.data
def Ia (k:Int) (x:Ar):Ar:=⟨mkI (k) x.Cp,mkI (k+El x.Cp) x.Ae,mkI (k+El x.Cp+El x.Ae) x.Ap,mkI (k+El x.Cp+El x.Ae+El x.Ap) x.Fv,mkS (k+El x.Cp+El x.Ae+El x.Ap+El x.Fv) x.data⟩
theorem Ab3 (x:Ar):Bd x≤5 * (1+Ej x):=by
 simp only [Bd,Ej,El,Z8,Oo];omega
theorem Aty (v:Value) (x:Ar) (F:List Nat) (n:Int) (w:World) (h:Jy Ak w v x F) (h0:0≤n) (h1:n≤1048576) :
  Calls prog 152 #[v,.int .i64 n] w (RB (.int .i64 (Ze n (Ej x))) w):=by
 obtain ⟨_,rfl,rfl,s1,rfl⟩:=h;have hB0:∀A:Obj,Below w.heap.size w (w.alloc A):=fun A=>(Below.refl _ _).alloc (Nat.le_refl _) _;unfold maxLen at s1;unfold Ej
 go_enter func152,ntmps152
 go_wp2
 all_goals go_ret
 all_goals exact ⟨If HV,hB0 _⟩
theorem At6 (v:Value) (x:Ar) (F:List Nat) (w:World) (h:Jy Ak w v x F) (hl:Ej x≤1048576) :
  Calls prog 180 #[v] w (Wt Ak x w):=by
 obtain ⟨_,rfl,rfl,s1,rfl⟩:=h;have hB0:∀A B C:Obj,Below w.heap.size w (((w.alloc A).alloc B).alloc C):=fun A B C=>(((Below.refl _ _).alloc (Nat.le_refl _) _).alloc FK _).alloc GF _
 go_enter func180,ntmps180
 go_wp2_with fail;refine bodyPost_ret (v:=.agg #[.int .i64 x.Cp,.int .i64 x.Ae,.int .i64 x.Ap,.int .i64 x.Fv,.string x.data]) ?_ rfl ?_
 ·simp [results,results180,go_sem]
 ·exact ⟨_,[],rfl,⟨_,rfl,rfl,s1,rfl⟩,FK,FK,GB⟩
theorem Ash (va vb:Value) (x:Ar) (Fa Fb:List Nat) (w:World) (ha:Jy Ak w va x Fa) (hb:Jy Ak w vb x Fb) :
  Calls prog 229 #[va,vb] w (RB (.bool true) w):=by
 obtain ⟨_,rfl,rfl,s1,rfl⟩:=ha;obtain ⟨_,rfl,rfl,t1,rfl⟩:=hb;have hB0:∀A B:Obj,Below w.heap.size w ((w.alloc A).alloc B):=fun A B=>((Below.refl _ _).alloc (Nat.le_refl _) _).alloc FK _;have hE:∀z:Int,(z != z)=false:=fun z=>by simp
 go_enter func229,ntmps229
 go_wp2_with fail
 go_ret
 exact ⟨rfl,hB0 _ _⟩
end Go.Proofs.YtkblpelckhegbaaGreatDoor
namespace Go.Proofs.YtkblpelckhegbaaGreatDoor

open Go.RowKit
end Go.Proofs.YtkblpelckhegbaaGreatDoor
namespace Go.Proofs.YtkblpelckhegbaaGreatDoor
open Go.RowKit
structure Du where
 An:Qo
 Ab:Ck
 Af:List Bf
 Ac:List Az
 down:List (List Ar)
 up:List (List Ar)
def Ny:Br Du where
 sz:=11
 Ky w cs x F:=∃v1 v2 v3 v4 v5 v6 v7 F1 F2 F3 F4 F5 F6 F7,cs=[v1,.int .i64 x.Ab.Aa.Ap,.int .i64 x.Ab.Aa.size,v2,.int .i64 x.Ab.Ai,.int .i64 x.Ab.quiet,v3,v4,v5,v6,v7]∧Sl Bb w v1 x.An.Ad F1∧Sl A8 w v2 x.Ab.Aa.Ao F2∧Sl Bn w v3 x.Ab.holds F3∧Sl Bk w v4 x.Af F4∧Sl Bi w v5 x.Ac F5∧Sl (Mr Ak FM) w v6 x.down F6∧Sl (Mr Ak FM) w v7 x.up F7∧F=F1++F2++F3++F4++F5++F6++F7
 len h:=JX
 lt h:=by
  obtain ⟨v1,v2,v3,v4,v5,v6,v7,F1,F2,F3,F4,F5,F6,F7,rfl,h1,h2,h3,h4,h5,h6,h7,rfl⟩:=h;intro b hb;simp only [List.mem_append] at hb;rcases hb with (((((hb|hb)|hb)|hb)|hb)|hb)|hb
  ·exact h1.lt FM b hb
  ·exact h2.lt FM b hb
  ·exact h3.lt FM b hb
  ·exact h4.lt FM b hb
  ·exact h5.lt FM b hb
  ·exact h6.lt FM b hb
  ·exact h7.lt FM b hb
 frame h hF:=GL
def Aaw:Br Du where
 sz:=11
 Ky w cs x F:=∃v1 v2 v3 v4 v5 v6 v7 F1 F2 F3 F4 F5 F6 F7,cs=[v1,.int .i64 x.Ab.Aa.Ap,.int .i64 x.Ab.Aa.size,v2,.int .i64 x.Ab.Ai,.int .i64 x.Ab.quiet,v3,v4,v5,v6,v7]∧Ow Bb 3 w v1 x.An.Ad F1∧Ow A8 9 w v2 x.Ab.Aa.Ao F2∧Ow Bn 215 w v3 x.Ab.holds F3∧Ow Ca 133 w v4 x.Af F4∧Ow By 140 w v5 x.Ac F5∧Ow (Kx Ak 223) 142 w v6 x.down F6∧Ow (Kx Ak 223) 142 w v7 x.up F7∧F=F1++F2++F3++F4++F5++F6++F7
 len h:=JX
 lt h:=by
  obtain ⟨v1,v2,v3,v4,v5,v6,v7,F1,F2,F3,F4,F5,F6,F7,rfl,h1,h2,h3,h4,h5,h6,h7,rfl⟩:=h;intro b hb;simp only [List.mem_append] at hb;rcases hb with (((((hb|hb)|hb)|hb)|hb)|hb)|hb
  ·exact h1.lt b hb
  ·exact h2.lt b hb
  ·exact h3.lt b hb
  ·exact h4.lt b hb
  ·exact h5.lt b hb
  ·exact h6.lt b hb
  ·exact h7.lt b hb
 frame h hF:=GL
theorem Adh:Ng Aaw Ny:=⟨rfl,fun h=>by
 obtain ⟨v1,v2,v3,v4,v5,v6,v7,F1,F2,F3,F4,F5,F6,F7,rfl,h1,h2,h3,h4,h5,h6,h7,rfl⟩:=h;obtain ⟨G1,g1,k1⟩:=h1.sl (Ng.refl _);obtain ⟨G2,g2,k2⟩:=h2.sl (Ng.refl _);obtain ⟨G3,g3,k3⟩:=h3.sl (Ng.refl _);obtain ⟨G4,g4,k4⟩:=h4.sl Mq;obtain ⟨G5,g5,k5⟩:=h5.sl Sf;obtain ⟨G6,g6,k6⟩:=h6.sl (Q3 (Ng.refl _) FM _);obtain ⟨G7,g7,k7⟩:=h7.sl (Q3 (Ng.refl _) FM _);refine ⟨G1++G2++G3++G4++G5++G6++G7,?_,v1,v2,v3,v4,v5,v6,v7,G1,G2,G3,G4,G5,G6,G7,rfl,k1,k2,k3,k4,k5,k6,k7,rfl⟩;intro b hb;simp only [List.mem_append] at hb ⊢;rcases hb with (((((hb|hb)|hb)|hb)|hb)|hb)|hb
 ·simp [g1 b hb]
 ·simp [g2 b hb]
 ·simp [g3 b hb]
 ·simp [g4 b hb]
 ·simp [g5 b hb]
 ·simp [g6 b hb]
 ·simp [g7 b hb]⟩
def Zj (x:Du):Nat:=Oe x.An+Ko x.Ab+Kn E9 x.Af+Kn Gg x.Ac+Kn (Kn Ej) x.down+Kn (Kn Ej) x.up
def Vy (x:Du):Nat:=I2 x.An+Gk x.Ab+(B8 Cg) x.Af+(B8 Cf) x.Ac+(B8 (B8 Bd)) x.down+(B8 (B8 Bd)) x.up
def U5 (k:Int) (x:Du):Du:=⟨Abk (k) x.An,Q0 (k+I2 x.An) x.Ab,(Cy M8 Cg) (k+I2 x.An+Gk x.Ab) x.Af,(Cy Lf Cf) (k+I2 x.An+Gk x.Ab+(B8 Cg) x.Af) x.Ac,(Cy (Cy Ia Bd) (B8 Bd)) (k+I2 x.An+Gk x.Ab+(B8 Cg) x.Af+(B8 Cf) x.Ac) x.down,(Cy (Cy Ia Bd) (B8 Bd)) (k+I2 x.An+Gk x.Ab+(B8 Cg) x.Af+(B8 Cf) x.Ac+(B8 (B8 Bd)) x.down) x.up⟩
-- markNet: a nested struct with several slices is not written here
def Aft (l:List Int) (i:Nat):Bool:=match l[i]? with
 | some p=>if i=0 then decide (p=-1) else Gj 0 p ((i:Int) - 1)
 | none=>true
def Kl (t:Qo):Bool:=Gj 2 (t.Ad.length:Int) 8 && Pz (Aft t.Ad) t.Ad.length
theorem Un {l:List Int} (h:0 < l.length):Aft l 0=decide (l[0]=-1):=by unfold Aft;rw [List.getElem?_eq_getElem h];rfl
theorem Wj {l:List Int} {i:Nat} (h:i < l.length) (h0:0 < i):Aft l i=Gj 0 l[i] ((i:Int) - 1):=by
 unfold Aft;rw [List.getElem?_eq_getElem h];show (if i=0 then _ else _)=_;rw [if_neg FJ]
structure Vq (l:List Int):Prop where
 n0:2≤l.length
 n1:l.length≤8
 z:∀h:0 < l.length,l[0]=-1
 p:∀i (h:i < l.length),0 < i→0≤l[i]∧l[i] < i
theorem H9 {t:Qo} (h:Kl t=true):Vq t.Ad:=by
 unfold Kl at h;rw [Bool.and_eq_true] at h;obtain ⟨h1,h2⟩:=h;unfold Gj at h1;simp only [Bool.and_eq_true,decide_eq_true_eq] at h1;refine ⟨FJ,FJ,fun h=>?_,fun i h h0=>?_⟩
 ·have:=Jz h2 0 h;rw [Un h] at this;exact of_decide_eq_true this
 ·have:=Jz h2 i h;rw [Wj h h0] at this;unfold Gj at this;simp only [Bool.and_eq_true,decide_eq_true_eq] at this;omega
theorem Awi {t:Qo} (h:Gj 2 (t.Ad.length:Int) 8=false):Kl t=false:=by unfold Kl;rw [h];rfl
theorem Ach {t:Qo} {i:Nat} (hi:i < t.Ad.length) (h:Aft t.Ad i=false):Kl t=false:=by unfold Kl;rw [Ms hi h,Bool.and_false]
def Kt (l:List Int) (node:Int) (k:Nat):List Int:=((List.range k).filter fun i=>decide (l[i]?=some node)).map fun (i:Nat)=>((i:Nat):Int)
def I3 (l:List Int) (node:Int):List Int:=Kt l node l.length
theorem Ast {l:List Int} {node:Int} {k:Nat} (h:k < l.length) (e:l[k]=node):Kt l node (k+1)=Kt l node k++[(k:Int)]:=by
 unfold Kt;rw [List.range_succ,List.filter_append,List.map_append];simp [List.getElem?_eq_getElem h,e]
theorem Awx {l:List Int} {node:Int} {k:Nat} (h:k < l.length) (e:¬l[k]=node):Kt l node (k+1)=Kt l node k:=by
 unfold Kt;rw [List.range_succ,List.filter_append,List.map_append];simp [List.getElem?_eq_getElem h,e]
theorem Ah5 (l:List Int) (node:Int) (k:Nat):(Kt l node k).length≤k:=by
 unfold Kt;exact DU
theorem Apu {l:List Int} {node x:Int} (h:x∈I3 l node):∃i,∃hi:i < l.length,x=(i:Int)∧l[i]=node:=by
 unfold I3 Kt at h;obtain ⟨i,hi,rfl⟩:=List.mem_map.1 h;obtain ⟨h1,h2⟩:=List.mem_filter.1 hi;have h3:=List.mem_range.1 h1;have h4:=of_decide_eq_true h2;rw [List.getElem?_eq_getElem h3] at h4;exact ⟨i,h3,rfl,Option.some.inj h4⟩
def Eu (l:List Int) (node:Int):Bool:=!decide (node∈l)
theorem Axk (l:List Int) (node:Int):Eu l node=decide (I3 l node=[]):=by
 unfold Eu;by_cases h:node∈l
 ·obtain ⟨i,hi,rfl⟩:=List.getElem_of_mem h;have:(i:Int)∈I3 l l[i]:=by
   unfold I3 Kt;exact List.mem_map.2 ⟨i,List.mem_filter.2 ⟨List.mem_range.2 hi,by simp [List.getElem?_eq_getElem hi]⟩,rfl⟩
  rw [decide_eq_true h,decide_eq_false fun e=>by rw [e] at this;cases this];rfl
 ·have:I3 l node=[]:=List.eq_nil_iff_forall_not_mem.2 fun x hx=>by
   obtain ⟨i,hi, -,e⟩:=Apu hx;exact h (e▸List.getElem_mem hi)
  rw [decide_eq_false h,decide_eq_true this];rfl
def U3 (l:List Int) (node:Int) (k:Nat):List Int:=((List.range k).filter fun i=>decide (l[i+1]?=some node)).map fun (i:Nat)=>((i+1:Nat):Int)
theorem Afg (l:List Int) (node:Int) (k:Nat):Kt l node (k+1)=Kt l node k++if l[k]?=some node then [(k:Int)] else []:=by
 unfold Kt;rw [List.range_succ,List.filter_append,List.map_append]
 split <;> simp_all
theorem Abd (l:List Int) (node:Int) (k:Nat):U3 l node (k+1)=U3 l node k++if l[k+1]?=some node then [((k+1:Nat):Int)] else []:=by
 unfold U3;rw [List.range_succ,List.filter_append,List.map_append]
 split <;> simp_all
theorem Apt {l:List Int} {node:Int} (hz:Kt l node 1=[]):∀k,Kt l node (k+1)=U3 l node k
 | 0=>by rw [hz];rfl
 | k+1=>by rw [Afg,Apt hz k,Abd]
theorem Alk {l:List Int} {node:Int} (hz:Kt l node 1=[]) {k:Nat} (hk:k+1=l.length):U3 l node k=I3 l node:=by
 rw [←Apt hz];unfold I3;rw [hk]
theorem Aww {l:List Int} {node:Int} {k:Nat} (h:k+1 < l.length) (e:l[k+1]=node):U3 l node (k+1)=U3 l node k++[((k+1:Nat):Int)]:=by
 rw [Abd,List.getElem?_eq_getElem h,e,if_pos rfl]
theorem Bau {l:List Int} {node:Int} {k:Nat} (h:k+1 < l.length) (e:¬l[k+1]=node):U3 l node (k+1)=U3 l node k:=by
 rw [Abd,List.getElem?_eq_getElem h,if_neg JB,List.append_nil]
theorem All (l:List Int) (node:Int) (k:Nat):(U3 l node k).length≤k:=by
 unfold U3;exact DU
theorem T3 {l:List Int} {node:Int} (hz:∀h:0 < l.length,l[0]=-1) (h:0≤node):Kt l node 1=[]:=by
 rw [Afg];by_cases h0:0 < l.length
 ·have:=hz h0;rw [List.getElem?_eq_getElem h0,if_neg FR];rfl
 ·rw [List.getElem?_eq_none FJ];rfl
def Cc (x:Int):Bool:=Gj 0 x 65535
def Ld (x:Int):Bool:=Gj 0 x 9999
def Ra (x:Int):Bool:=Gj 1 x 7
theorem Jj (x:Int) (w:World):Calls prog 189 #[.int .i64 x] w fun e w'=>e=.returned (.bool (Cc x))∧w=w':=by
 go_enter func189,ntmps189
 go_wp2_with (go_at_call 114;refine (Ik _ _ _ _).mono ?_;rintro e w' ⟨rfl,rfl⟩)
 go_ret
 exact EE
theorem Pq (x:Int) (w:World):Calls prog 155 #[.int .i64 x] w fun e w'=>e=.returned (.bool (Cc x))∧w=w':=by
 go_enter func155,ntmps155
 go_wp2_with (go_at_call 83;refine (Ku _ _ _ _).mono ?_;rintro e w' ⟨rfl,rfl⟩)
 go_ret
 exact EE
theorem T0 (x:Int) (w:World):Calls prog 188 #[.int .i64 x] w fun e w'=>e=.returned (.bool (Ld x))∧w=w':=by
 go_enter func188,ntmps188
 go_wp2_with (go_at_call 114;refine (Ik _ _ _ _).mono ?_;rintro e w' ⟨rfl,rfl⟩)
 go_ret
 exact EE
theorem Abe (x:Int) (w:World):Calls prog 154 #[.int .i64 x] w fun e w'=>e=.returned (.bool (Ld x))∧w=w':=by
 go_enter func154,ntmps154
 go_wp2_with (go_at_call 83;refine (Ku _ _ _ _).mono ?_;rintro e w' ⟨rfl,rfl⟩)
 go_ret
 exact EE
theorem V8 (x:Int) (w:World):Calls prog 208 #[.int .i64 x] w fun e w'=>e=.returned (.bool (Ra x))∧w=w':=by
 go_enter func208,ntmps208
 go_wp2_with (go_at_call 114;refine (Ik _ _ _ _).mono ?_;rintro e w' ⟨rfl,rfl⟩)
 go_ret
 exact EE
def Afw (lo hi:Int) (zs:List Int) (i:Nat):Bool:=Gj lo (zs.getD i 0) hi && (i == 0 || decide (zs.getD (i - 1) 0 < zs.getD i 0))
def Rs (lo hi:Int) (zs:List Int):Bool:=Pz (Afw lo hi zs) zs.length
theorem Xj {lo hi:Int} {zs:List Int} (h:0 < zs.length):Afw lo hi zs 0=Gj lo zs[0] hi:=by simp [Afw,h]
theorem Up {lo hi:Int} {zs:List Int} {m:Nat} (h:m+1 < zs.length):Afw lo hi zs (m+1)=(Gj lo zs[m+1] hi && decide (zs[m]'FJ < zs[m+1])):=by
 simp [Afw,h,show m < zs.length by omega]
theorem Ag8 (v:Value) (zs:List Int) (F:List Nat) (w:World) (h:Sl Bb w v zs F) :
  Calls prog 268 #[v] w fun e w'=>e=.returned (.bool (Rs 1 7 zs))∧w=w':=by
 obtain ⟨a,cap,rfl⟩:=h.slice;obtain ⟨-,hl,hc⟩:=h.int;unfold maxLen at hl
 go_enter func268,ntmps268
 go_wp2
 go_loop [3,4,7] (fun _ _ i=>∃k:Nat,k≤zs.length∧i=.int .i64 k∧Hid (∀j,j < k→Afw 1 7 zs j=true)) (fun _ _ i=>zs.length - (intOf i).toNat)
 case atStart=>exact ⟨0,Nat.zero_le _,rfl,fun j hj=>by omega⟩
 case round =>
  obtain ⟨k,hk,rfl,hz⟩:=hrel;by_cases hlt:k < zs.length
  ·obtain ⟨b,off,rfl,c0⟩:=hc k hlt;rcases k with _|m
   ·have hr:=Lib.hid (Xj (lo:=1) (hi:=7) hlt);clear hc;simp only [Nat.add_zero] at c0;go_wp2_with (go_at_call 208;refine (V8 _ _).mono ?_;rintro e w' ⟨rfl,rfl⟩)
    ·have t:Gj 1 zs[0] 7=true:=GI
     exact ⟨⟨1,FJ,HX,Wp hz.out (by rw [hr.out,t])⟩,GT⟩
    ·have t:¬Gj 1 zs[0] 7=true:=GI
     go_ret
     exact ⟨Cm (Ms hlt (by rw [hr.out];simpa using t)).symm,rfl⟩
   ·obtain ⟨b',off',hb',c1⟩:=hc m FJ;cases hb';have hr:=Lib.hid (Up (lo:=1) (hi:=7) hlt);clear hc;go_wp2_with (go_at_call 208;refine (V8 _ _).mono ?_;rintro e w' ⟨rfl,rfl⟩)
    ·have t:zs[m+1]≤zs[m]:=GI
     go_ret
     exact ⟨Cm (Ms hlt (by rw [hr.out];simp;omega)).symm,rfl⟩
    ·have t:Gj 1 zs[m+1] 7=true:=GI
     have t2:zs[m] < zs[m+1]:=GI
     exact ⟨⟨m+2,FJ,HX,Wp hz.out (by rw [hr.out,t];simp;omega)⟩,GT⟩
    ·have t:¬Gj 1 zs[m+1] 7=true:=GI
     go_ret
     exact ⟨Cm (Ms hlt (by rw [hr.out];simp [t])).symm,rfl⟩
  ·go_wp2
   go_ret
   exact ⟨Cm (Me (fun i hi=>hz.out i FJ)).symm,rfl⟩
theorem As0 (v:Value) (zs:List Int) (F:List Nat) (lo hi:Int) (w:World) (h:Sl Bb w v zs F) :
  Calls prog 302 #[v,.int .i64 lo,.int .i64 hi] w (RB (.bool (Rs lo hi zs)) w):=by
 obtain ⟨a,cap,rfl⟩:=h.slice;obtain ⟨-,hl, -⟩:=h.int;unfold maxLen at hl
 go_enter func302,ntmps302
 go_wp2
 go_loopw [7] (fun i wr=>∃k:Nat,k≤zs.length∧i=.int .i64 k∧Hid (∀j,j < k→Afw lo hi zs j=true)∧Below w.heap.size w wr) (fun i _=>zs.length - (intOf i).toNat)
 case atStart=>exact ⟨0,Nat.zero_le _,rfl,fun j hj=>by omega,Below.refl _ _⟩
 case round =>
  obtain ⟨k,hk,rfl,hz,hB⟩:=hrel;have hc:=(h.below FM hB).int.2.2;by_cases hlt:k < zs.length
  ·obtain ⟨b,off,rfl,c0⟩:=hc k hlt;rcases k with _|m
   ·have hr:=Lib.hid (Xj (lo:=lo) (hi:=hi) hlt);clear hc;simp only [Nat.add_zero] at c0;cases t:Gj lo zs[0] hi
    ·go_wp2_with fail
     go_quiet ((go_at_call 83;exact Y5 (Ku _ _ _ _)))
     go_wp2_with fail
     go_ret
     exact ⟨Cm (Ms hlt (by rw [hr.out,t])).symm,D7 hB _⟩
    ·go_wp2_with fail
     go_quiet ((go_at_call 83;exact Y5 (Ku _ _ _ _)))
     go_wp2_with fail;exact ⟨⟨1,FJ,HX,Wp hz.out (by rw [hr.out,t]),D7 hB _⟩,GT⟩
   ·obtain ⟨b',off',hb',c1⟩:=hc m FJ;cases hb';have hr:=Lib.hid (Up (lo:=lo) (hi:=hi) hlt);clear hc;cases t:Gj lo zs[m+1] hi
    ·go_wp2_with fail
     go_quiet ((go_at_call 83;exact Y5 (Ku _ _ _ _)))
     go_wp2_with fail
     go_ret
     exact ⟨Cm (Ms hlt (by rw [hr.out,t];rfl)).symm,D7 hB _⟩
    ·by_cases t2:zs[m] < zs[m+1]
     ·go_wp2_with fail
      go_quiet ((go_at_call 83;exact Y5 (Ku _ _ _ _)))
      go_wp2_with fail;exact ⟨⟨m+2,FJ,HX,Wp hz.out (by rw [hr.out,t];simpa using t2),D7 hB _⟩,GT⟩
     ·have t3:zs[m+1]≤zs[m]:=FJ
      go_wp2_with fail
      go_quiet ((go_at_call 83;exact Y5 (Ku _ _ _ _)))
      go_wp2_with fail
      go_ret
      exact ⟨Cm (Ms hlt (by rw [hr.out];simp;omega)).symm,D7 hB _⟩
  ·go_wp2
   go_ret
   exact ⟨Cm (Me (fun i hi=>hz.out i FJ)).symm,hB⟩
theorem Asy (v:Value) (zs:List Int) (F:List Nat) (w:World) (h:Sl Bb w v zs F) :
  Calls prog 235 #[v] w (RB (.bool (Rs 1 7 zs)) w):=by
 go_enter func235,ntmps235
 go_wp2_with (go_at_call 302;refine (As0 _ zs F _ _ _ h).mono ?_;rintro e w' ⟨rfl,hb1⟩)
 go_ret
 exact ⟨rfl,hb1⟩
theorem Nj (w:World) (g:Nat):∀(c:List Value) (w:World) (p:Nat),Oz w g p c=w.setCells g p c
 | [],_,_=>rfl
 | _::r,_,_=>Nj w g r _ _
theorem Oa (z:Array Value) (n:Nat):(Builtin.zeroCells z n).toList.length=n * z.size:=by simp [Builtin.zeroCells]
theorem Akp (z:Array Value) (h:∀u∈z,u.oneCell'=true) (n:Nat):∀u∈(Builtin.zeroCells z n).toList,u.oneCell'=true:=by
 intro u hu;simp only [Builtin.zeroCells,Array.toList_map,List.mem_map] at hu;obtain ⟨i,hi,rfl⟩:=hu;simp at hi;have hz:0 < z.size:=Nat.pos_of_ne_zero fun e=>by rw [e,Nat.mul_zero] at hi;omega
 have hm:i % z.size < z.size:=Nat.mod_lt _ hz;rw [getElem!_pos z _ hm];exact h _ (Array.getElem_mem _)
theorem Uq {P:Program} (w:World) (t e ty:TypeId) (z:Value) (ht:P.underlying t=some (.slice e)) (hv:∀w,(zeroValue e).run P w=.ok z w) (h1:∀u∈z.cells,u.oneCell'=true) (b o n c:Nat) (hn:0 < n)
  (hc:∀j,j < n * z.cells.size→(w.cell? ⟨b,o+j,none⟩).isSome=true) (hf:∀j,j < n * z.cells.size→w.frozen? ⟨b,o+j,none⟩=false) :
  (Builtin.clear_ #[t] ty #[.slice (some ⟨b,o,none⟩) n c]).run P w=.ok (.tuple #[]) (w.setCells b o (Builtin.zeroCells z.cells n).toList):=by
 have hst:=run_storeCells_cells (P:=P) b o (Builtin.zeroCells z.cells n).toList 0 w (by rw [Oa];simpa using hc) (by rw [Oa];simpa using hf) (Akp _ h1 _);simp only [Nat.add_zero] at hst;obtain ⟨m,rfl⟩:∃m,n=m+1:=⟨n - 1,FJ⟩;simp [Builtin.clear_,run_underlying ht,hv,hst]
theorem Xw {P:Program} {e:TypeId} {z:Value} {size bytes:Nat} (h:(P.info? e).map (fun i=>(i.zero,i.size,i.bytes))=some (some z,size,bytes)):∀w,(zeroValue e).run P w=.ok z w:=fun w=>by
 obtain ⟨i,hi,hzz⟩:=Option.map_eq_some_iff.1 h;simp only [Prod.mk.injEq] at hzz;obtain ⟨hz, -, -⟩:=hzz;simp [zeroValue,typeInfo,hi,hz]
theorem Zo {α:Type} {p:α→Bool} {xs:List α} (h:xs.any p=true):∃k,∃hk:k < xs.length,S0 p xs=k∧p xs[k]=true∧(xs.take k).filter (fun x=>!p x)=xs.take k:=by
 have hk:xs.findIdx p < xs.length:=List.findIdx_lt_length_of_exists (by obtain ⟨x,hx,hp⟩:=List.any_eq_true.1 h;exact ⟨x,hx,hp⟩);refine ⟨_,hk,by unfold S0;rw [if_pos h],List.findIdx_getElem (w:=hk),?_⟩;rw [List.filter_eq_self];intro x hx;obtain ⟨i,hi,rfl⟩:=List.mem_take_iff_getElem.1 hx;have:=List.not_of_lt_findIdx (p:=p) (xs:=xs) (show i < xs.findIdx p by omega);exact EN
theorem Acc {α:Type} {p:α→Bool} {xs:List α} (h:¬xs.any p=true):S0 p xs=-1∧xs.filter (fun x=>!p x)=xs:=by
 refine ⟨by unfold S0;rw [if_neg h],?_⟩;rw [List.filter_eq_self];intro x hx;cases hp:p x
 ·rfl
 ·exact absurd (List.any_eq_true.2 ⟨x,hx,hp⟩) h
theorem Hx {α:Type} {q:α→Bool} {xs:List α} {j:Nat} (h:j < xs.length) (hq:q xs[j]=true):(xs.take (j+1)).filter q=(xs.take j).filter q++[xs[j]]:=by
 rw [List.take_succ_eq_append_getElem h,List.filter_append];simp [hq]
theorem Da {α:Type} {q:α→Bool} {xs:List α} {j:Nat} (h:j < xs.length) (hq:q xs[j]=false):(xs.take (j+1)).filter q=(xs.take j).filter q:=by
 rw [List.take_succ_eq_append_getElem h,List.filter_append];simp [hq]
theorem Ai2 {w:World} {g off n:Nat} {c c':List Value} (h:c.length=n) (h':c'.length=n) (hc:∀j,j < n→w.cell? ⟨g,off+j,none⟩=c[j]?) (hc':∀j,j < n→w.cell? ⟨g,off+j,none⟩=c'[j]?):c=c':=by
 apply List.ext_getElem?;intro j;by_cases hj:j < n
 ·rw [←hc j hj,hc' j hj]
 ·rw [List.getElem?_eq_none FJ,List.getElem?_eq_none FJ]
def Gap {α:Type} (O:Br α) (t:TypeId) (w:World) (g n cap:Nat) (ys:List α) (m:Nat) (zs:List α) (F:List Nat):Prop :=
 ∃c1 jk c3 rest G1 G3,n=ys.length+m+zs.length∧Ir w g t (c1++jk++c3++rest)∧n≤cap∧cap≤maxLen∧c1.length+jk.length+c3.length+rest.length=cap * O.sz∧jk.length=m * O.sz ∧
  C1 O w c1 ys G1∧C1 O w c3 zs G3∧F=g::(G1++G3)∧F.Nodup
section
variable {α:Type} {O:Br α} {t:TypeId} {w:World} {g n cap m:Nat} {ys zs:List α} {F:List Nat}
theorem Gap.start {a:Option Addr} {n:Nat} {xs:List α} (h:Ow O t w (.slice a n cap) xs F) (hn:F.Nodup) (e:xs=ys++zs) (h0:0 < xs.length):∃g,a=some ⟨g,0,none⟩∧n=xs.length∧Gap O t w g n cap ys 0 zs F:=by
 subst e;rcases h with ⟨_,h1,_⟩|⟨g,cap',cs,rest,G,hv,hr,h3,h4,h5,hf,rfl⟩
 ·rw [h1] at h0;simp at h0
 ·cases hv;obtain ⟨c1,c2,G1,G2,rfl,rfl,f1,f2⟩:=hf.split;refine ⟨g,rfl,rfl,c1,[],c2,rest,G1,G2,FK,HH,h3,h4,by simpa using h5,FK,f1,f2,rfl,hn⟩
theorem Gap.skip {x:α} (h:Gap O t w g n cap ys m (x::zs) F):∃F',Gap O t w g n cap ys (m+1) zs F'∧∀b∈F',b∈F:=by
 obtain ⟨c1,jk,c3,rest,G1,G3,hn,hr,h1,h2,h3,h4,f1,⟨c,c4,Fx,G4,rfl,rfl,hx,f3⟩,rfl,hnd⟩:=h;have hl:=O.len hx;refine ⟨g::(G1++G4),⟨c1,jk++c,c4,rest,G1,G4,by simp at hn ⊢;omega,HH,h1,h2,by simp at h3 ⊢;omega,by rw [List.length_append,h4,hl,Nat.add_mul];simp,f1,f3,rfl,?_⟩,by intro b hb;simp at hb ⊢;rcases hb with hb|hb|hb <;> simp [hb]⟩;simp only [List.nodup_cons,List.nodup_append,List.mem_append,not_or] at hnd ⊢;exact ⟨⟨hnd.1.1,hnd.1.2.2⟩,hnd.2.1,hnd.2.2.1.2.1,fun a ha b hb=>hnd.2.2.2 a ha b (.inr hb)⟩
theorem Gap.first {x:α} (h:Gap O t w g n cap ys m (x::zs) F):∃c Fx,O.Ky w c x Fx∧(∀b∈Fx,b∈F)∧∀j,j < O.sz→w.cell? ⟨g,(ys.length+m) * O.sz+j,none⟩=c[j]?:=by
 obtain ⟨c1,jk,c3,rest,G1,G3,hn,hr,h1,h2,h3,h4,f1,⟨c,c4,Fx,G4,rfl,rfl,hx,f3⟩,rfl,hnd⟩:=h;have hl:=O.len hx;refine ⟨c,Fx,hx,fun b hb=>by simp [hb],fun j hj=>?_⟩;have hr':Ir w g t ((c1++jk)++c++(c4++rest)):=HH
 exact hr'.cellMid (by rw [List.length_append,f1.len,h4,Nat.add_mul]) FJ
theorem Gap.move {x:α} (hm:0 < m) (h:Gap O t w g n cap ys m (x::zs) F) :
  (∀j,j < O.sz→(∃u,w.cell? ⟨g,ys.length * O.sz+j,none⟩=some u)∧w.frozen? ⟨g,ys.length * O.sz+j,none⟩=false) ∧
  ∃c Fx,O.Ky w c x Fx∧(∀b∈Fx,b∈F)∧(∀j,j < O.sz→w.cell? ⟨g,(ys.length+m) * O.sz+j,none⟩=c[j]?)∧∀w',Below w.heap.size w w'→∃F',Gap O t (Oz w' g (ys.length * O.sz) c) g n cap (ys++[x]) m zs F'∧∀b∈F',b∈F:=by
 obtain ⟨c,Fx,hx0,hxF,hcell⟩:=h.first
 obtain ⟨c1,jk,c3,rest,G1,G3,hn,hr,h1,h2,h3,h4,f1,⟨c',c4,Fx',G4,rfl,rfl,hx,f3⟩,rfl,hnd⟩:=h;have hl:=O.len hx;have hl0:=O.len hx0;obtain ⟨m',rfl⟩:∃m',m=m'+1:=⟨m - 1,FJ⟩;have hjk:jk=jk.take O.sz++jk.drop O.sz:=FK
 have hjl:(jk.take O.sz).length=O.sz:=by rw [List.length_take,h4,Nat.add_mul];omega
 have hA:=f1.len;have hr':Ir w g t (c1++jk.take O.sz++(jk.drop O.sz++c'++c4++rest)):=by
  have e:c1++jk.take O.sz++(jk.drop O.sz++c'++c4++rest)=c1++jk++(c'++c4)++rest:=by
   simp only [List.append_assoc];rw [←List.append_assoc (jk.take O.sz),List.take_append_drop]
  rw [e];exact hr
 have hcc:c=c':=by
  apply List.ext_getElem? ;intro j;by_cases hj:j < O.sz
  ·have hr2:Ir w g t ((c1++jk)++c'++(c4++rest)):=HH
   rw [←hcell j hj,hr2.cellMid (by rw [List.length_append,hA,h4,←Nat.add_mul]) FJ]
  ·rw [List.getElem?_eq_none FJ,List.getElem?_eq_none FJ]
 refine ⟨fun j hj=>⟨⟨_,by rw [hr'.cellMid (j:=j) FJ FJ,List.getElem?_eq_getElem FJ]⟩,hr'.frozen _⟩,c,Fx',hcc▸hx,fun b hb=>by simp [hb],hcell,fun w' hb=>?_⟩;subst hcc;have hgl:=hr.lt;have hnd':=hnd;simp only [List.nodup_cons,List.nodup_append,List.mem_append,not_or] at hnd';have hrow:=(hr'.below hb).put c (jk.take O.sz) (p:=ys.length * O.sz) hA.symm FJ;have hfr:∀b,b < w.heap.size→b≠g→(Oz w' g (ys.length * O.sz) c).heap[b]?=w.heap[b]?:=fun b hb1 hb2=>(O0 c w' _ b hb2).trans (hb.block b hb1);have n1:∀b∈G1,b≠g:=fun b hb e=>hnd'.1.1 (e▸hb)
 have n2:∀b∈Fx',b≠g:=fun b hb e=>hnd'.1.2.1 (e▸hb);have n3:∀b∈G4,b≠g:=fun b hb e=>hnd'.1.2.2 (e▸hb);refine ⟨g::((G1++Fx')++G4),⟨c1++c,jk.drop O.sz++c,c4,rest,G1++Fx',G4,by simp at hn ⊢;omega,?_,h1,h2,?_,?_,?_,f3.frame fun b hb=>hfr b (f3.lt b hb) (n3 b hb),rfl,?_⟩,by intro b hb;simpa [or_assoc] using hb⟩
 ·simpa using hrow
 ·simp [h4,Nat.add_mul] at h3 ⊢;omega
 ·simp [h4,Nat.add_mul];omega
 ·exact (f1.frame fun b hb=>hfr b (f1.lt b hb) (n1 b hb)).append (C1.one (O.frame hx fun b hb=>hfr b (O.lt hx b hb) (n2 b hb)))
 ·simpa using hnd
theorem Gap.below {w':World} (h:Gap O t w g n cap ys m zs F) (hb:Below w.heap.size w w'):Gap O t w' g n cap ys m zs F:=by
 obtain ⟨c1,jk,c3,rest,G1,G3,hn,hr,h1,h2,h3,h4,f1,f3,hF,hnd⟩:=h;exact ⟨c1,jk,c3,rest,G1,G3,hn,hr.below hb,h1,h2,h3,h4,f1.frame fun b h=>hb.block b (f1.lt b h),f3.frame fun b h=>hb.block b (f3.lt b h),hF,hnd⟩
theorem Gap.caps (h:Gap O t w g n cap ys m zs F):n=ys.length+m+zs.length∧n≤cap∧cap≤maxLen∧g < w.heap.size∧g∈F∧F.Nodup:=by
 obtain ⟨c1,jk,c3,rest,G1,G3,hn,hr,h1,h2,h3,h4,f1,f3,rfl,hnd⟩:=h;exact ⟨hn,h1,h2,hr.lt,FK,hnd⟩
theorem Gap.done {z:Array Value} (hz:z.size=O.sz) (h:Gap O t w g n cap ys m [] F) :
  (∀j,j < m * O.sz→(w.cell? ⟨g,ys.length * O.sz+j,none⟩).isSome=true∧w.frozen? ⟨g,ys.length * O.sz+j,none⟩=false) ∧
  ∃F',Ow O t (w.setCells g (ys.length * O.sz) (Builtin.zeroCells z m).toList) (.slice (some ⟨g,0,none⟩) ys.length cap) ys F'∧F'.Nodup∧∀b∈F',b∈F:=by
 obtain ⟨c1,jk,c3,rest,G1,G3,hn,hr,h1,h2,h3,h4,f1,⟨rfl,rfl⟩,rfl,hnd⟩:=h;have hA:=f1.len;simp only [List.append_nil] at hr hnd;have hr':Ir w g t (c1++jk++rest):=hr;refine ⟨fun j hj=>⟨?_,hr'.frozen _⟩,g::G1,?_,hnd,FK⟩
 ·rw [hr'.cellMid (j:=j) FJ FJ,List.getElem?_eq_getElem FJ];rfl
 ·rw [←Nj w];have hrow:=hr'.put (Builtin.zeroCells z m).toList jk (p:=ys.length * O.sz) hA.symm (by rw [Oa,h4,hz]);have hng:g ∉ G1:=by simp at hnd;exact hnd.1
  refine .inr ⟨g,cap,c1,(Builtin.zeroCells z m).toList++rest,G1,rfl,by simpa using hrow,by simp at hn;omega,h2,?_,f1.frame fun b hb=>O0 _ _ _ _ fun e=>hng (e▸hb),rfl⟩;rw [List.length_append,Oa,hz,←h4];simp at h3;omega
end
theorem Sy (fid:FuncId) (hbd:Z4 prog fid) (caps:Array Value) (v:Value) (xs:List Gs) (F:List Nat) (p:Gs→Bool) (w:World) (h:Sl Dt w v xs F)
  (hp:∀(k:Nat) (hk:k < xs.length) (wr:World) (u:Value) (G:List Nat),Below w.heap.size w wr→Jy Dt wr u xs[k] G→Calls prog fid (#[u]++caps) wr fun e w'=>e=.returned (.bool (p xs[k]))∧Below wr.heap.size wr w') :
  Calls prog 322 #[v,.func (.func fid) #[] caps] w (RB (.int .i64 (S0 p xs)) w):=by
 obtain ⟨a,cap,rfl⟩:=h.slice;have hl:=h.len;unfold maxLen at hl
 go_enter func322,ntmps322
 go_wp2
 go_loopw [5,8] (fun _ i wr=>∃k:Nat,k≤xs.length∧i=.int .i64 k∧Hid (∀j,j < k→∀hj:j < xs.length,p xs[j]=false)∧Below w.heap.size w wr) (fun _ i _=>xs.length - (intOf i).toNat)
 case atStart=>exact ⟨0,Nat.zero_le _,rfl,fun j hj=>by omega,Below.refl _ _⟩
 case round =>
  obtain ⟨k,hk,rfl,hz,hB⟩:=hrel;by_cases hlt:k < xs.length
  ·have hz0:=hz;clear hz;obtain ⟨b,off,_,F1,rfl,hx, -,ja⟩:=(h.below FM hB).at k hlt;obtain ⟨v1,rfl,h1⟩:=id hx;have a0:=ja 0 FM;have a1:=ja 1 FM;have a2:=ja 2 FM;simp only [show Dt.sz=3 from rfl,Nat.mul_one,Nat.add_zero,List.getElem?_cons_zero,List.getElem?_cons_succ] at a0 a1 a2;clear ja;have hr:=hp k hlt wr _ F1 hB ⟨_,rfl,hx⟩;have hp:=Lib.hid hp;cases hpk:p xs[k]
   all_goals
    rw [hpk] at hr;have hpk:=Lib.hid hpk;have hr:=Lib.hid hr;go_wp2_with fail;refine hbd.upon hr.out ?_;rintro e w1 ⟨rfl,hb1⟩;refine ⟨_,rfl,?_⟩;have hB:=tr hB hb1 (Nat.le_refl _);clear hb1;go_wp2_with fail
   ·exact AM
   ·go_ret
    exact EW
  ·go_wp2
   go_ret
   exact DI
theorem Aau (fid:FuncId) (hbd:Z4 prog fid) (caps:Array Value) (v:Value) (xs:List Gs) (F:List Nat) (p:Gs→Bool) (w:World) (h:Sl Dt w v xs F)
  (hp:∀(k:Nat) (hk:k < xs.length) (wr:World) (u:Value) (G:List Nat),Below w.heap.size w wr→Jy Dt wr u xs[k] G→Calls prog fid (#[u]++caps) wr fun e w'=>e=.returned (.bool (p xs[k]))∧Below wr.heap.size wr w') :
  Calls prog 269 #[v,.func (.func fid) #[] caps] w (RB (.bool (xs.any p)) w):=by
 have hp:=Lib.hid hp
 go_enter func269,ntmps269
 go_wp2_with fail;refine (Sy fid hbd caps v xs F p _ h hp.out).mono ?_;rintro e w1 ⟨rfl,hb1⟩;go_wp2_with fail
 go_ret
 exact ⟨Cm (Ud p xs),hb1⟩
theorem Aof (v:Value) (xs:List Gs) (F:List Nat) (w:World) (h:Sl Dt w v xs F) (hm:xs.length≤4294967296) :
  Calls prog 184 #[v] w fun e w'=>∃v' F',e=.returned v'∧Ow Dt 212 w' v' xs F'∧Hd F'∧(∀b,v'.ownBlock=some b→w.heap.size≤b)∧(∀b∈F',v'.ownBlock=some b∨b∈F)∧Below w.heap.size w w':=by
 obtain ⟨ao,c,news,Fy,rfl,hl,hfy,hFy,hsrc⟩:=h.src;have hFl:=hfy.lt;have he:=fun w (a:Option Addr) (n c:Nat)=>Lib.run_eql_slice_nil (P:=prog) w 131 _ a n c 0 0 underlying131
 go_enter func184,ntmps184
 rcases hsrc with ⟨rfl,rfl,rfl⟩|⟨ad,rfl,hn⟩
 ·go_wp2
  go_ret
  exact ⟨.slice none 0 0,[],rfl,.inl ⟨rfl,rfl,rfl⟩,Hd.nil,(fun b e=>by simp [Value.ownBlock] at e),FK,Below.refl _ _⟩
 ·go_wp2_with (at_builtin;refine P8 Ail FM GG _ _ _ GG 212 (.agg #[.int .i64 0,.slice none 0 0,.int .i64 0]) 40 underlying131 Aba rfl (.slice (some ⟨w.heap.size,0,none⟩) 0 0) [] [w.heap.size] GG (Ow.empty (Ir.made _ _ _)) (Hd.one _) (some ad) xs c GG news Fy (hfy.frame fun b hb=>Below.heap_alloc _ _ _ (hFl b hb)) (.inr ⟨ad,rfl,fun j u hu=>kc ((Below.refl _ _).alloc (Nat.le_refl _) _) (hn j u hu)⟩) (fun b hb e=>by have:=hFl b hb;simp [Value.ownBlock] at e;omega) HP HM ?_);intro v2 w2 F2 hA;go_wp2_with fail
  go_ret
  have hB:Below w.heap.size w w2:=((Below.refl _ _).alloc (Nat.le_refl _) _).trans (hA.Jd.below FK FK);have hs:∀b,v2.ownBlock=some b→w.heap.size≤b:=fun b hb=>by rcases hA.Atq with e|e <;> rw [e] at hb <;> simp [Value.ownBlock] at hb <;> omega
  refine ⟨v2,F2,rfl,JJ,hA.hd,hs,fun b hb=>?_,hB⟩;rw [hA.Bkd [] (by simp [Value.ownBlock])] at hb;simp at hb;rcases hb with hb|hb
  ·exact .inl hb
  ·exact .inr (hFy b hb)
theorem Adm (fid:FuncId) (hbd:Z4 prog fid) (caps:Array Value) (v:Value) (xs:List Gs) (F:List Nat) (p:Gs→Bool) (w:World) (h:Ow Dy 212 w v xs F) (hn:F.Nodup)
  (hp:∀(k:Nat) (hk:k < xs.length) (wr:World) (u:Value) (G:List Nat),D6 F w wr→Jy Dt wr u xs[k] G→Calls prog fid (#[u]++caps) wr fun e w'=>e=.returned (.bool (p xs[k]))∧Below wr.heap.size wr w') :
  Calls prog 344 #[v,.func (.func fid) #[] caps] w fun e w'=>∃v' F',e=.returned v'∧Ow Dy 212 w' v' (xs.filter fun x=>!p x) F'∧F'.Nodup∧(∀b∈F',b∈F)∧D6 F w w':=by
 obtain ⟨F1,hF1,hs⟩:=h.sl Ru;obtain ⟨a,cap,rfl⟩:=h.slice;have hl:=h.len;unfold maxLen at hl;have hp:=Lib.hid hp
 go_enter func344,ntmps344
 go_wp2_with fail;refine (Sy fid hbd caps _ xs F1 p _ hs (fun k hk wr u G hb hu=>hp.out k hk wr u G (D6.ofBelow hb) hu)).mono ?_;rintro e w1 ⟨rfl,hb1⟩;have hK1:=D6.ofBelow (F:=F) hb1;by_cases hany:xs.any p=true
 ·obtain ⟨k0,hk0,hfx,hpk,hfl⟩:=Zo hany;rw [hfx];obtain ⟨g,rfl, -,hg0⟩:=Gap.start (h.below hb1) hn (ys:=xs.take k0) (zs:=xs[k0]::xs.drop (k0+1)) FK FJ;obtain ⟨F0,hg0,hF0⟩:=hg0.skip;have hG0:=Lib.hid hg0;clear hg0;have hk1:((k0:Int) == -1)=false:=FK
  go_wp2_with fail
  go_loopw [5,6,7] (fun i j _ wr=>∃(q m:Nat) (F1:List Nat),q≤xs.length∧0 < m∧((xs.take q).filter fun x=>!p x).length+m=q∧i=.int .i64 ((xs.take q).filter fun x=>!p x).length∧j=.int .i64 q∧Hid (Gap Dy 212 wr g xs.length cap ((xs.take q).filter fun x=>!p x) m (xs.drop q) F1)∧(∀b∈F1,b∈F)∧D6 F w wr) (fun _ j _ _=>xs.length - (intOf j).toNat)
  case atStart=>exact ⟨k0+1,1,F0,hk0,FJ,IB,IB,HX,by rw [Da hk0 KY,hfl];exact hG0,hF0,hK1⟩
  case round =>
   obtain ⟨q,m,F1,hq,hm,hlen,rfl,rfl,hG,hF1,hK⟩:=hrel;obtain ⟨-,hcap, -⟩:=hG.out.caps;generalize hys:((xs.take q).filter fun x=>!p x)=ys at *;by_cases hlt:q < xs.length
   ·rw [List.drop_eq_getElem_cons hlt] at hG;obtain ⟨c,Fx,hx,hFx,hcell⟩:=hG.out.first
    obtain ⟨Fx2, -,hxe⟩:=Ru.Ky hx;obtain ⟨v1,rfl,h1⟩:=id hx;obtain ⟨d1,p1,rfl⟩:=h1.slice;have a0:=hcell 0 FM;have a1:=hcell 1 FM;have a2:=hcell 2 FM;simp only [hlen,show Dy.sz=3 from rfl,Nat.mul_one,Nat.add_zero,List.getElem?_cons_zero,List.getElem?_cons_succ] at a0 a1 a2;have hr:=fun A=>hp.out q hlt (wr.alloc A) _ Fx2 (hK.alloc A) ⟨_,rfl,Dt.below hxe ((Below.refl wr.heap.size wr).alloc (Nat.le_refl _) A)⟩;cases hpq:p xs[q]
    ·obtain ⟨st,c2,Fx3,hx3, -,hcell2,back⟩:=hG.out.move hm;simp only [hpq] at hr;obtain rfl:=Ai2 (Dy.len hx) (Dy.len hx3) hcell hcell2;have st:=st;obtain ⟨⟨x0,z0⟩,g0⟩:=st 0 FM;obtain ⟨⟨x1,z1⟩,g1⟩:=st 1 FM;obtain ⟨⟨x2,z2⟩,g2⟩:=st 2 FM;simp only [show Dy.sz=3 from rfl,Nat.mul_one,Nat.add_zero] at z0 g0 z1 g1 z2 g2;have hr:=Lib.hid hr;have hbk:=Lib.hid back;have hpq:=Lib.hid hpq;have hys:=Lib.hid hys;have hlen:=Lib.hid hlen;have hyl:ys.length < xs.length:=by have:=hlen.out;omega
     clear hx hxe hcell hcell2 hx3 back st hfx hpk hfl;go_wp2_with fail;refine hbd.upon (hr.out _) ?_;rintro e w2 ⟨rfl,hb2⟩;refine ⟨_,rfl,?_⟩;have b2:=(Ir.below (g:=wr.heap.size) (t:=212) (cs:=[.int .i64 xs[q].Ae,.slice d1 xs[q].Bj.length p1,.int .i64 xs[q].Ch]) (by simp [Jq]) hb2).cells;have hbb:=tr ((Below.refl wr.heap.size wr).alloc (Nat.le_refl _) _) hb2 (Nat.le_refl _);clear hb2;have g0:=(kf hbb z0).trans g0;have z0:=kc hbb z0;have g1:=(kf hbb z1).trans g1;have z1:=kc hbb z1;have g2:=(kf hbb z2).trans g2;have z2:=kc hbb z2;obtain ⟨F2,hg2,hF2⟩:=hbk.out w2 hbb
     simp only [Oz,show Dy.sz=3 from rfl,Nat.mul_one] at hg2;have hg2:=Lib.hid hg2;have hgF:g∈F:=hF1 g hG.out.caps.2.2.2.2.1;go_wp2_with fail;exact ⟨⟨q+1,m,F2,FJ,hm,LC,LD,HX,by rw [Hx hlt JQ,hys.out];exact hg2.out,fun b hb=>hF1 b (hF2 b hb),KV⟩,GT⟩
    ·obtain ⟨F2,hg2,hF2⟩:=hG.out.skip;simp only [hpq] at hr;have hr:=Lib.hid hr;have hg2:=Lib.hid hg2;have hpq:=Lib.hid hpq;have hys:=Lib.hid hys;have hlen:=Lib.hid hlen;clear hx hxe hcell hfx hpk hfl;go_wp2_with fail;refine hbd.upon (hr.out _) ?_;rintro e w2 ⟨rfl,hb2⟩;refine ⟨_,rfl,?_⟩;have hbb:=tr ((Below.refl wr.heap.size wr).alloc (Nat.le_refl _) _) hb2 (Nat.le_refl _);clear hb2;go_wp2_with fail
     exact BN
   ·have hqe:q=xs.length:=FJ
    subst hqe;simp only [List.drop_length,List.take_length] at hG hys;obtain ⟨hc,F2,ho2,hn2,hF2⟩:=hG.out.done (z:=#[.int .i64 0,.slice none 0 0,.int .i64 0]) rfl;have hmm:xs.length - ys.length=m:=FJ
    have hcl:=fun ty=>Uq (P:=prog) wr 131 212 ty (.agg #[.int .i64 0,.slice none 0 0,.int .i64 0]) underlying131 (Xw Aba) (by simp [Value.cells,Value.oneCell']) g (ys.length * 3) m (cap - ys.length) hm (fun j hj=>(hc j hj).1) (fun j hj=>(hc j hj).2);have hyl:ys.length < xs.length:=FJ
    have hgF:g∈F:=hF1 g hG.out.caps.2.2.2.2.1;have hO:=Lib.hid ho2;have hlen:=Lib.hid hlen;have hys:=Lib.hid hys;clear ho2 hc hfx hpk hfl;go_wp2_with fail
    go_ret
    exact DD
 ·obtain ⟨hfx,hfl⟩:=Acc hany;rw [hfx];go_wp2_with fail
  go_ret
  exact ⟨_,F,rfl,by rw [hfl];exact h.below hb1,hn,fun b hb=>hb,hK1⟩
theorem Jy.Jd {α:Type} {E:Br α} {w w':World} {v x F K} (h:Jy E w v x F) (hk:D6 K w w') (hd:∀b∈F,b ∉ K):Jy E w' v x F:=by
 obtain ⟨cs,hv,h⟩:=h;exact ⟨cs,hv,E.frame h fun b hb=>hk.block b (E.lt h b hb) (hd b hb)⟩
theorem Jy.lt {α:Type} {E:Br α} {w:World} {v x F} (h:Jy E w v x F):∀b∈F,b < w.heap.size:=by
 obtain ⟨cs,hv,h⟩:=h;exact E.lt h
theorem Jy.drewN {α:Type} {E:Br α} {w:World} {v x F} (h:Jy E w v x F) (n:Nat):Jy E (w.drewN n) v x F:=by
 obtain ⟨cs,hv,h⟩:=h;exact ⟨cs,hv,E.frame h fun _ _=>rfl⟩
theorem Sl.drewN {α:Type} {E:Br α} {w:World} {v} {xs:List α} {F} (h:Sl E w v xs F) (n:Nat):Sl E (w.drewN n) v xs F:=h.frame fun _ _=>rfl
theorem Sl.Jd {α:Type} {E:Br α} {w w':World} {v} {xs:List α} {F K} (h:Sl E w v xs F) (hk:D6 K w w') (hd:∀b∈F,b ∉ K) (hz:0 < E.sz:=by decide):Sl E w' v xs F :=
 h.frame fun b hb=>hk.block b (h.lt hz b hb) (hd b hb)
theorem Ow.drewN {α:Type} {E:Br α} {t:TypeId} {w:World} {v} {xs:List α} {F} (h:Ow E t w v xs F) (n:Nat):Ow E t (w.drewN n) v xs F:=h.frame fun _ _=>rfl
theorem Ir.drewN {w g t cs} (h:Ir w g t cs) (n:Nat):Ir (w.drewN n) g t cs:=h
section
variable {P:Program} {ops:Array Oper} {Q:Exit→Act→World→Prop} {md:Region.Mode} {S:World→Prop} {X:Nat→Bool}
def Fm (P:Program) (md:Region.Mode) (ops:Array Oper) (Q:Exit→Act→World→Prop) (S:World→Prop) (X:Nat→Bool):Nat→Array Bool→Act→World→Prop
 | 0,listed,a,w=>Region.ready md ops listed=[]∧Q .normal a w
 | f+1,listed,a,w=>(Region.ready md ops listed=[]→Q .normal a w) ∧
  ∀i∈Region.ready md ops listed,wpOp P ops Q i (fun a' w'=>(X i=false→S w')∧Fm P md ops Q S X f (listed.setIfInBounds i true) a' w') a w
theorem Fm.any:∀(f:Nat) (listed:Array Bool) (a:Act) (w:World),Fm P md ops Q S X f listed a w→wpAny P md ops Q f listed a w
 | 0,_,_,_,h=>h
 | f+1,_,_,_,h=>⟨h.1,fun i hi=>wpOp_mono (fun a' w' h'=>Fm.any f _ a' w' h'.2) (h.2 i hi)⟩
def Aat (md:Region.Mode) (ops:Array Oper) (listed:Array Bool):Prop:=∀j oj,ops[j]?=some oj→listed.getD j false=true→∀e∈oj.after,Region.binds md e=true→listed.getD e.on false=true
def Ns (md:Region.Mode) (ops:Array Oper) (listed:Array Bool):Bool :=
 (List.range ops.size).all fun j=>!listed.getD j false || ((ops[j]?).map fun o=>o.after.all fun e=>!Region.binds md e || listed.getD e.on false).getD true
theorem Aky {listed:Array Bool} (h:Ns md ops listed=true):Aat md ops listed:=fun j oj hj hl e he hb=>by
 have h1:=List.all_eq_true.1 h j (List.mem_range.2 (Array.getElem?_eq_some_iff.1 hj).1);rw [hl,hj] at h1;simp only [Bool.not_true,Bool.false_or,Option.map_some,Option.getD_some] at h1;have h2:=Array.all_eq_true'.1 h1 e he;rw [hb] at h2;simpa using h2
theorem Aat.set {listed:Array Bool} {i:Nat} (h:Aat md ops listed) (hi:i∈Region.ready md ops listed):Aat md ops (listed.setIfInBounds i true):=fun j oj hj hl e he hb=>by
 obtain ⟨_,oi,hoi,hall⟩:=mem_ready.1 hi;by_cases hij:i=j
 ·subst hij;obtain rfl:=Option.some.inj (hj.symm.trans hoi);exact getD_set_true (hall e he hb)
 ·rw [getD_set_ne false hij] at hl;exact getD_set_true (h j oj hj hl e he hb)
def T8 (md:Region.Mode) (ops:Array Oper) (i:Nat):Nat→Nat→Bool
 | 0,_=>false
 | f+1,j=>((ops[j]?).map fun o=>o.after.any fun e=>Region.binds md e && (e.on == i || T8 md ops i f e.on)).getD false
theorem Xt {listed:Array Bool} {i:Nat} (hc:Aat md ops listed):∀(f j:Nat),(∀oj,ops[j]?=some oj→∀e∈oj.after,Region.binds md e=true→listed.getD e.on false=true)→T8 md ops i f j=true→listed.getD i false=true
 | 0,_,_,h=>by cases h
 | f+1,j,hd,h=>by
  unfold T8 at h;cases hj:ops[j]? with
  | none=>rw [hj] at h;cases h
  | some o =>
   rw [hj] at h;simp only [Option.map_some,Option.getD_some] at h;obtain ⟨e,he,hb⟩:=Array.any_eq_true'.1 h;simp only [Bool.and_eq_true,Bool.or_eq_true,beq_iff_eq] at hb;have h1:=hd o hj e he hb.1;rcases hb.2 with h2|h2
   ·rw [←h2];exact h1
   ·exact Xt hc f e.on (fun oe ho=>hc e.on oe ho h1) h2
def Mp (md:Region.Mode) (ops:Array Oper) (X:Nat→Bool) (i:Nat):Bool:=(List.range ops.size).all fun j=>!X j || T8 md ops i ops.size j
theorem Zg {listed:Array Bool} {i:Nat} (h:listed.getD i true=false):listed.getD i false=false:=by
 rcases Nat.lt_or_ge i listed.size with h'|h'
 ·simp [h'] at h ⊢;exact h
 ·simp [Array.getElem?_eq_none h'] at h
theorem Fm.first {i:Nat} {oi:Oper} {v:Value} (hi:ops[i]?=some oi) (hsel:∀(j:Nat) (o:Oper) cs b,ops[j]?=some o→o.op≠.select cs b)
  (hQ:∀c a w,Q (.panic c) (a.put oi.dst v) w→Q (.panic c) a w) (hX:Mp md ops X i=true) :
  ∀(f:Nat) (listed:Array Bool) (a:Act) (w:World),
   (∀j oj,ops[j]?=some oj→j≠i→listed.getD j true=false→(∀e∈oj.after,Region.binds md e=true→e.on≠i)→oi.apart ops oj=true) →
   Aat md ops listed→i∈Region.ready md ops listed→YieldsIf P ops S oi v a→S w→Fm P md ops Q S X f (listed.setIfInBounds i true) (a.put oi.dst v) w→Fm P md ops Q S X (f+1) listed a w:=by
 intro f
 induction f with
 | zero =>
  intro listed a w _ _ hr hy hS H;refine ⟨fun h=>IK,fun j hj=>?_⟩;by_cases hji:j=i
  ·exact EU
  ·have:=ready_mono hj hji;rw [H.1] at this;cases this
 | succ f ih =>
  intro listed a w hfree hcl hr hy hS H;refine ⟨fun h=>IK,fun j hj=>?_⟩;by_cases hji:j=i
  ·exact EU
  ·obtain ⟨hju,oj,hoj,hall⟩:=mem_ready.1 hj;have hiu:=Zg (mem_ready.1 hr).1;have hnot:∀e∈oj.after,Region.binds md e=true→e.on≠i:=fun e he hb heq=>by
    have h1:=hall e he hb;rw [heq,hiu] at h1;cases h1
   have hXj:X j=false:=by
    cases hx:X j
    ·rfl
    ·have h1:=List.all_eq_true.1 hX j (List.mem_range.2 (Array.getElem?_eq_some_iff.1 hoj).1);rw [hx] at h1;have h2:=Xt hcl ops.size j (fun o ho=>by obtain rfl:=Option.some.inj (ho.symm.trans hoj);exact hall) IS;rw [hiu] at h2;cases h2
   have h2:=wpOp_putIf hoj (hfree j oj hoj hji hju hnot) (fun cs b=>hsel i oi cs b hi) (fun cs b=>hsel j oj cs b hoj) hQ hy (H.2 j (ready_mono hj hji));refine wpOp_mono (fun a' w' h3=>⟨fun _=>h3.2.1 hXj,ih (listed.setIfInBounds j true) a' w' (fun k ok hk hki hun hno=>hfree k ok hk hki ?_ hno) (hcl.set hj) (ready_mono hr (Ne.symm hji)) h3.1 (h3.2.1 hXj) ?_⟩) h2
   ·by_cases hjk:j=k
    ·subst hjk;exact hju
    ·rw [getD_set_ne true hjk] at hun;exact hun
   ·rw [Array.setIfInBounds_comm _ _ hji];exact h3.2.2
theorem Fm.take {i:Nat} {oi:Oper} {v:Value} {f:Nat} {listed:Array Bool} {a:Act} {w:World} (hi:ops[i]?=some oi)
  (hs:Region.noSelect ops=true) (hf:Region.free md ops listed i=true) (hr:(Region.ready md ops listed).contains i=true) (hX:Mp md ops X i=true) (hc:Ns md ops listed=true)
  (hQ:∀c a w,Q (.panic c) (a.put oi.dst v) w→Q (.panic c) a w) (hy:YieldsIf P ops S oi v a) (hS:S w)
  (h:Fm P md ops Q S X f (listed.setIfInBounds i true) (a.put oi.dst v) w):Fm P md ops Q S X (f+1) listed a w :=
 Fm.first hi (Region.noSelect_spec hs) hQ hX f listed a w (Region.free_spec hi hf) (Aky hc) HH hy hS h
theorem Fm.only {i:Nat} {o:Oper} {f:Nat} {listed:Array Bool} {a:Act} {w:World} (hr:Region.ready md ops listed=[i]) (ho:ops[i]?=some o)
  (h:∀K':Act→World→Prop,Shut (∀a w,(X i=false→S w)→Fm P md ops Q S X f (listed.setIfInBounds i true) a w→K' a w)→if Region.wanted o (yielded ops a.tmps)=true then Oper.wp P o a w K' Q else K' (a.put o.dst undef) w) :
  Fm P md ops Q S X (f+1) listed a w :=
 by
 refine ⟨fun h0=>(by rw [hr] at h0;cases h0),fun j hj=>?_⟩;rw [hr] at hj;obtain rfl:j=i:=IR
 exact wpOp_step ho (fun K' hK=>h K' (fun a w hS hW=>hK a w ⟨hS,hW⟩))
theorem Fm.two {i j:Nat} {oi oj:Oper} {f:Nat} {listed:Array Bool} {a:Act} {w:World} (hr:Region.ready md ops listed=[i,j]) (hoi:ops[i]?=some oi) (hoj:ops[j]?=some oj)
  (h:∀K':Act→World→Prop,Shut (∀a w,(X i=false→S w)→Fm P md ops Q S X f (listed.setIfInBounds i true) a w→K' a w)→if Region.wanted oi (yielded ops a.tmps)=true then Oper.wp P oi a w K' Q else K' (a.put oi.dst undef) w)
  (h2:∀K':Act→World→Prop,Shut (∀a w,(X j=false→S w)→Fm P md ops Q S X f (listed.setIfInBounds j true) a w→K' a w)→if Region.wanted oj (yielded ops a.tmps)=true then Oper.wp P oj a w K' Q else K' (a.put oj.dst undef) w) :
  Fm P md ops Q S X (f+1) listed a w:=by
 refine ⟨fun h0=>(by rw [hr] at h0;cases h0),fun k hk=>?_⟩;rw [hr] at hk;simp only [List.mem_cons,List.not_mem_nil,or_false] at hk;rcases hk with rfl|rfl
 ·exact wpOp_step hoi (fun K' hK=>h K' (fun a w hS hW=>hK a w ⟨hS,hW⟩))
 ·exact wpOp_step hoj (fun K' hK=>h2 K' (fun a w hS hW=>hK a w ⟨hS,hW⟩))
theorem Fm.done {listed:Array Bool} {a:Act} {w:World} (hr:Region.ready md ops listed=[]) (h:Q .normal a w):∀f,Fm P md ops Q S X f listed a w
 | 0=>⟨hr,h⟩
 | _+1=>⟨fun _=>h,by rw [hr];simp⟩
theorem Fm.start {id:Nat} {a:Act} {w:World} (hm:P.follows .mixedOrders=true) (h:Fm P .any ops Q S X ops.size (Array.replicate ops.size false) a w.drew):(Code.region id ops true).wp P Q a w :=
 wp_region_any hm (Fm.any _ _ _ _ h)
end
theorem Uv {a b:List Value} (h:Value.agg a.toArray=.agg b.toArray):a=b:=by simpa using h
inductive Pc:Type 1
 | row (g:Nat) (t:TypeId) (o:Nat) (A cs B:List Value)
 | sl {α:Type} (E:Br α) (v:Value) (xs:List α) (F:List Nat)
 | ow {α:Type} (E:Br α) (t:TypeId) (v:Value) (xs:List α) (F:List Nat)
 | isv {α:Type} (E:Br α) (v:Value) (x:α) (F:List Nat)
 | own {α:Type} (E:Br α) (v:Value) (x:α) (F:List Nat)
 | cel (b o:Nat) (cs:List Value)
 | flat {α:Type} (E:Br α) (cs:List Value) (xs:List α) (F:List Nat)
def Pc.P:Pc→World→Prop
 | .row g t o A cs B,w=>A.length=o∧Ir w g t (A++cs++B)
 | .sl E v xs F,w=>0 < E.sz∧Sl E w v xs F
 | .ow E t v xs F,w=>F.Nodup∧Ow E t w v xs F
 | .isv E v x F,w=>Jy E w v x F
 | .own E v x F,w=>F.Nodup∧Jy E w v x F
 | .cel b o cs,w=>cs≠[]∧w.rangeAt b o cs
 | .flat E cs xs F,w=>F.Nodup∧C1 E w cs xs F
def Pc.F:Pc→List Nat
 | .row g ..=>[g]
 | .sl _ _ _ F|.ow _ _ _ _ F|.isv _ _ _ F|.own _ _ _ F|.flat _ _ _ F=>F
 | .cel b ..=>[b]
def Pc.mu:Pc→Bool
 | .row .. | .ow .. | .own .. | .flat ..=>true
 | _=>false
theorem Pc.st (p:Pc) {w w':World} (h:p.P w) (hF:∀b∈p.F,w'.heap[b]?=w.heap[b]?):p.P w':=by
 cases p with
 | row g t o A cs B=>exact ⟨h.1,h.2.Jd (hF g KU)⟩
 | sl E v xs F=>exact ⟨h.1,h.2.frame hF⟩
 | ow E t v xs F=>exact ⟨h.1,h.2.frame hF⟩
 | isv E v x F=>obtain ⟨cs,hv,h⟩:=h;exact ⟨cs,hv,E.frame h hF⟩
 | own E v x F=>obtain ⟨hn,cs,hv,h⟩:=h;exact ⟨hn,cs,hv,E.frame h hF⟩
 | cel b o cs=>exact ⟨h.1,fun j v hv=>(World.cell?_of_block (w:=w) (hF b KU)).trans (h.2 j v hv)⟩
 | flat E cs xs F=>exact ⟨h.1,h.2.frame hF⟩
theorem Pc.lt (p:Pc) {w:World} (h:p.P w):∀b∈p.F,b < w.heap.size:=by
 cases p with
 | row g t o A cs B=>intro b hb;simp [Pc.F] at hb;subst hb;exact h.2.lt
 | sl E v xs F=>exact h.2.lt h.1
 | ow E t v xs F=>exact h.2.lt
 | isv E v x F=>obtain ⟨cs,hv,h⟩:=h;exact E.lt h
 | own E v x F=>obtain ⟨_,cs,hv,h⟩:=h;exact E.lt h
 | cel b o cs =>
  intro c hc;simp [Pc.F] at hc;subst hc;cases cs with
  | nil=>exact absurd rfl h.1
  | cons v r=>exact World.block_lt_of_cell? w _ (h.2 0 v rfl)
 | flat E cs xs F=>exact h.2.lt
def Ae4 (p q:Pc):Prop:=(p.mu || q.mu)=true→∀b∈p.F,b ∉ q.F
theorem Ae4.symm {p q:Pc} (h:Ae4 p q):Ae4 q p:=fun hm b hb hp=>h (by rw [Bool.or_comm];exact hm) b hp hb
def Tg:List Pc→Prop
 | []=>True
 | p::R=>(∀q∈R,Ae4 p q)∧Tg R
def Om (H:List Pc) (w:World):Prop:=∀p∈H,p.P w
theorem En {p:Pc} {w:World} (h:p.P w):Om [p] w:=fun q hq=>by simp at hq;subst hq;exact h
def fp:List Pc→List Nat
 | []=>[]
 | p::R=>p.F++fp R
theorem Qz {b:Nat}:∀{H:List Pc},b∈fp H↔∃p∈H,b∈p.F
 | []=>by simp [fp]
 | p::R=>by simp [fp,Qz (H:=R)]
theorem Om.st {H:List Pc} {w w':World} (h:Om H w) (hF:∀p∈H,∀b∈p.F,w'.heap[b]?=w.heap[b]?):Om H w':=fun p hp=>p.st (h p hp) (hF p hp)
theorem Om.below {H:List Pc} {w w':World} (h:Om H w) (hb:Below w.heap.size w w'):Om H w':=h.st fun p hp b hm=>hb.block b (p.lt (h p hp) b hm)
structure St (G D:List Nat) (w0:World) (H:List Pc) (w:World):Prop where
 Jd:D6 G w0 w
 on:Om H w
 sep:Tg H
 Aeh:∀p∈H,∀b∈p.F,b∈G∨w0.heap.size≤b∨(p.mu=false∧b∈D)
section
variable {G D:List Nat} {w0:World}
theorem Tg.perm2 {p q:Pc} {R:List Pc} (h:Tg (p::q::R)):Tg (q::p::R) :=
 ⟨fun x hx=>by
  rcases List.mem_cons.1 hx with rfl|hx
  ·exact (h.1 q FK).symm
  ·exact h.2.1 x hx,fun x hx=>h.1 x JC,h.2.2⟩
inductive Co:List Pc→Pc→List Pc→Prop
 | here {p R}:Co (p::R) p R
 | there {x p R R'}:Co R p R'→Co (x::R) p (x::R')
theorem Co.mem {H p R} (h:Co H p R):p∈H:=by
 induction h with
 | here=>simp
 | there _ ih=>simp [ih]
theorem Co.sub {H p R} (h:Co H p R):∀q∈R,q∈H:=by
 induction h with
 | here=>intro q hq;simp [hq]
 | there _ ih =>
  intro q hq;rcases List.mem_cons.1 hq with rfl|hq
  ·simp
  ·simp [ih q hq]
theorem Co.sep {H p R} (h:Co H p R) (hs:Tg H):Tg (p::R):=by
 induction h with
 | here=>exact hs
 | @there x p R R' h ih =>
  have h2:=ih hs.2;exact Tg.perm2 ⟨fun q hq=>by
   rcases List.mem_cons.1 hq with rfl|hq
   ·exact hs.1 _ h.mem
   ·exact hs.1 _ (h.sub q hq),h2⟩
theorem St.pick {H p R w} (s:St G D w0 H w) (h:Co H p R):St G D w0 (p::R) w :=
 ⟨s.Jd,fun q hq=>by
  rcases List.mem_cons.1 hq with rfl|hq
  ·exact s.on _ h.mem
  ·exact s.on _ (h.sub q hq),h.sep s.sep,fun q hq=>by
  rcases List.mem_cons.1 hq with rfl|hq
  ·exact s.Aeh _ h.mem
  ·exact s.Aeh _ (h.sub q hq)⟩
theorem St.tail {p R w} (s:St G D w0 (p::R) w):St G D w0 R w:=⟨s.Jd,fun q hq=>s.on q GR,s.sep.2,fun q hq=>s.Aeh q GR⟩
theorem St.get {H p w} (s:St G D w0 H w) (h:p∈H):p.P w:=s.on p h
theorem St.turn {M R N:List Pc} {w w':World} (s:St G D w0 (M++R) w) (hk:D6 (fp (M.filter (·.mu))) w w') (hN:Om N w') (hs:Tg N)
  (hF:∀p∈N,∀b∈p.F,w.heap.size≤b∨(∃q∈M,q.mu=true∧b∈q.F)∨(p.mu=false∧∃q∈M++R,q.mu=false∧b∈q.F)):St G D w0 (N++R) w':=by
 have hsep:∀(A B:List Pc),Tg (A++B)→Tg A∧Tg B∧∀p∈A,∀q∈B,Ae4 p q:=by
  intro A
  induction A with
  | nil=>intro B h;exact ⟨trivial,h,FK⟩
  | cons p A ih =>
   intro B h;obtain ⟨h1,h2,h3⟩:=ih B h.2;exact ⟨⟨fun q hq=>h.1 q GR,h1⟩,h2,fun x hx q hq=>by
    rcases List.mem_cons.1 hx with rfl|hx
    ·exact h.1 q GR
    ·exact h3 x hx q hq⟩
 have hjoin:∀(A B:List Pc),Tg A→Tg B→(∀p∈A,∀q∈B,Ae4 p q)→Tg (A++B):=by
  intro A
  induction A with
  | nil=>intro B _ h _;exact h
  | cons p A ih =>
   intro B hA hB h;exact ⟨fun q hq=>by
    rcases List.mem_append.1 hq with hq|hq
    ·exact hA.1 q hq
    ·exact h p FK q hq,ih B hA.2 hB fun x hx q hq=>h x JC q hq⟩
 obtain ⟨sM,sR,sMR⟩:=hsep M R s.sep;have hRlt:∀q∈R,∀b∈q.F,b < w.heap.size:=fun q hq=>q.lt (s.on q GR);have hMR:∀q∈R,∀b∈q.F,b ∉ fp (M.filter (·.mu)):=fun q hq b hb hm=>by
  obtain ⟨p,hp,hpb⟩:=Qz.1 hm;obtain ⟨hp,hmu⟩:=List.mem_filter.1 hp;exact sMR p hp q hq (by simp [hmu]) b hpb hb
 have hG:∀b∈fp (M.filter (·.mu)),b∈G∨w0.heap.size≤b:=fun b hb=>by
  obtain ⟨p,hp,hpb⟩:=Qz.1 hb;obtain ⟨hp,hmu⟩:=List.mem_filter.1 hp;rcases s.Aeh p IC b hpb with h|h|⟨h,_⟩
  ·exact .inl h
  ·exact .inr h
  ·rw [hmu] at h;cases h
 refine ⟨⟨hk.os.trans s.Jd.os,hk.tape.trans s.Jd.tape,hk.output.trans s.Jd.output,Nat.le_trans s.Jd.size hk.size,fun k hlt hn=>(hk.block k (Nat.lt_of_lt_of_le hlt s.Jd.size) fun hm=>?_).trans (s.Jd.block k hlt hn)⟩,fun p hp=>?_,hjoin N R hs sR fun p hp q hq hmu b hb hqb=>?_,fun p hp b hb=>?_⟩
 ·rcases hG k hm with h|h
  ·exact hn h
  ·omega
 ·rcases List.mem_append.1 hp with hp|hp
  ·exact hN p hp
  ·exact p.st (s.on p IC) fun b hb=>hk.block b (hRlt p hp b hb) (hMR p hp b hb)
 ·rcases hF p hp b hb with h|⟨m,hm,hmm,hmb⟩|⟨hpm,m,hm,hmm,hmb⟩
  ·have:=hRlt q hq b hqb;omega
  ·exact sMR m hm q hq (by simp [hmm]) b hmb hqb
  ·have hqm:q.mu=true:=by simpa [hpm] using hmu
   rcases List.mem_append.1 hm with hm|hm
   ·exact sMR m hm q hq (by simp [hqm]) b hmb hqb
   ·-- two pieces of R
    have:∀(R:List Pc),Tg R→∀m∈R,∀q∈R,m.mu=false→q.mu=true→∀b∈m.F,b ∉ q.F:=by
     intro R
     induction R with
     | nil=>intro _ m hm;simp at hm
     | cons x R ih =>
      intro hs m hm q hq h1 h2 b hb hqb;rcases List.mem_cons.1 hm with e|hm2
      ·subst e;rcases List.mem_cons.1 hq with e|hq2
       ·subst e;rw [h1] at h2;cases h2
       ·exact hs.1 q hq2 (by simp [h2]) b hb hqb
      ·rcases List.mem_cons.1 hq with e|hq2
       ·subst e;exact hs.1 m hm2 (by simp [h2]) b hqb hb
       ·exact ih hs.2 m hm2 q hq2 h1 h2 b hb hqb
    exact this R sR m hm q hq hmm hqm b hmb hqb
 ·rcases List.mem_append.1 hp with hp|hp
  ·rcases hF p hp b hb with h|⟨m,hm,hmm,hmb⟩|⟨hpm,m,hm,hmm,hmb⟩
   ·right;left;exact Nat.le_trans s.Jd.size h
   ·rcases s.Aeh m (by simp [hm]) b hmb with h|h|⟨h,_⟩
    ·exact .inl h
    ·exact .inr (.inl h)
    ·rw [hmm] at h;cases h
   ·rcases s.Aeh m hm b hmb with h|h|⟨_,h⟩
    ·exact .inl h
    ·exact .inr (.inl h)
    ·exact .inr (.inr ⟨hpm,h⟩)
  ·exact s.Aeh p IC b hb
end
abbrev Fr:=List (Nat × Value)
def S8:Fr→Nat→Option Value
 | [],_=>none
 | (k,v)::r,t=>bif Nat.beq k t then some v else S8 r t
def ev (fr:Fr):Operand→Option Value
 | .tmp t=>S8 fr t
 | .const v=>some v
 | .global g=>some (.pointer (some ⟨g,0,none⟩))
 | .func f=>some (.func (.func f) #[] #[])
inductive Evs (fr:Fr):List Operand→List Value→Prop
 | nil:Evs fr [] []
 | cons {x v xs vs}:ev fr x=some v→Evs fr xs vs→Evs fr (x::xs) (v::vs)
structure Ag (n:Nat) (fr:Fr) (a:Act):Prop where
 df:a.defers=[]
 sz:a.tmps.size=n
 at_:∀t v,S8 fr t=some v→a.tmps[t]?=some v
theorem Ag.ev {n fr a x v} (h:Ag n fr a) (hx:ev fr x=some v):a.eval x=v:=by
 cases x with
 | tmp t=>have:=h.at_ t v hx;simp [Act.eval,Array.getD_eq_getD_getElem?,this]
 | const u=>simp [Go.Proofs.YtkblpelckhegbaaGreatDoor.ev] at hx;subst hx;rfl
 | global g=>simp [Go.Proofs.YtkblpelckhegbaaGreatDoor.ev] at hx;subst hx;rfl
 | func f=>simp [Go.Proofs.YtkblpelckhegbaaGreatDoor.ev] at hx;subst hx;rfl
theorem Ag.evs {n fr a xs vs} (h:Ag n fr a) (hx:Evs fr xs vs):xs.map a.eval=vs:=by
 induction hx with
 | nil=>rfl
 | cons hx _ ih=>simp [h.ev hx,ih]
theorem Wd (k:Nat) (v:Value) (r:Fr) (t:Nat):S8 ((k,v)::r) t=if k=t then some v else S8 r t:=by
 show (bif Nat.beq k t then some v else S8 r t)=_;by_cases h:k=t
 ·subst h;simp
 ·have:Nat.beq k t=false:=by
   cases hb:Nat.beq k t
   ·rfl
   ·exact absurd (Nat.eq_of_beq_eq_true hb) h
  rw [this,if_neg h];rfl
theorem Ag.put {n fr a d v} (h:Ag n fr a) (hd:Nat.blt d n=true):Ag n ((d,v)::fr) (a.put (some d) v):=by
 have hd':d < n:=by simpa using hd
 refine ⟨h.df,by simp [Act.put,h.sz],fun t u hu=>?_⟩;rw [Wd] at hu;show (a.tmps.setIfInBounds d v)[t]?=_;rw [Array.getElem?_setIfInBounds]
 split at hu
 ·rename_i e;subst e;simp at hu;subst hu;rw [if_pos rfl,if_pos (by rw [h.sz];exact hd')]
 ·rename_i e;rw [if_neg e];exact h.at_ t u hu
inductive Mb (fr:Fr):Fr→Prop
 | nil:Mb fr []
 | cons {t v r}:S8 fr t=some v→Mb fr r→Mb fr ((t,v)::r)
theorem Mb.S8 {fr fr':Fr} (h:Mb fr fr'):∀t v,S8 fr' t=some v→S8 fr t=some v:=by
 induction h with
 | nil=>intro t v hv;cases hv
 | cons h1 _ ih =>
  intro t v hv;rw [Wd] at hv
  split at hv
  ·rename_i e;subst e;rw [←hv];exact h1
  ·exact ih t v hv
theorem Ag.sub {n fr fr' a} (h:Ag n fr a) (hs:Mb fr fr'):Ag n fr' a:=⟨h.df,h.sz,fun t v hv=>h.at_ t v (hs.S8 t v hv)⟩
structure Cx where
 P:Program
 G:List Nat
 D:List Nat
 w0:World
 n:Nat
 R:Exit→Act→World→Prop
inductive It
 | cd (c:Code)
 | blk (id:Nat)
 | lp (I:Act→World→Prop)
def run (c:Cx):List It→Exit→Act→World→Prop
 | []=>c.R
 | .cd y::k=>Exit.then (fun a w=>y.wp c.P (run c k) a w) (run c k)
 | .blk id::k=>Exit.inBlock id (run c k)
 | .lp I::k=>Exit.then I (run c k)
inductive Gl
 | code (k:List It) (x:Code)
 | list (k:List It) (ops:Array Oper) (l:List Oper)
 | norm (k:List It)
 | exit (k:List It) (id:Nat)
 | fin (e:Exit)
 | dx (k:List It) (H0:List Pc) (X:List Nat) (ops:Array Oper) (f:Nat) (listed:Array Bool)
 | dk (i:Nat) (k:List It) (H0:List Pc) (X:List Nat) (ops:Array Oper) (f:Nat) (listed:Array Bool)
def Gl.sem (c:Cx):Gl→Act→World→Prop
 | .code k x,a,w=>x.wp c.P (run c k) a w
 | .list k ops l,a,w=>wpList c.P ops (run c k) l a w
 | .norm k,a,w=>run c k .normal a w
 | .exit k id,a,w=>run c k (.exit id) a w
 | .fin e,a,w=>c.R e a w
 | .dx k H0 X ops f listed,a,w=>Fm c.P .any ops (run c k) (Om H0) (fun i=>X.contains i) f listed a w
 | .dk i k H0 X ops f listed,a,w=>(X.contains i=false→Om H0 w)∧Fm c.P .any ops (run c k) (Om H0) (fun i=>X.contains i) f listed a w
structure T (c:Cx) (fr:Fr) (H:List Pc) (Φ:Gl):Prop where
 h:∀a w,St c.G c.D c.w0 H w→Ag c.n fr a→Φ.sem c a w
theorem Ags (c:Cx):∀(k:List It),run c k .ret=c.R .ret
 | []=>rfl
 | .cd _::k=>Ags c k
 | .blk _::k=>Ags c k
 | .lp _::k=>Ags c k
theorem Nd (c:Cx) (ch:List PanicEntry):∀(k:List It),run c k (.panic ch)=c.R (.panic ch)
 | []=>rfl
 | .cd _::k=>Nd c ch k
 | .blk _::k=>Nd c ch k
 | .lp _::k=>Nd c ch k
inductive Mc:List Pc→List Pc→Prop
 | nil {A}:Mc A []
 | cons {A p R B}:Co A p R→Mc R B→Mc A (p::B)
section
variable {c:Cx} {fr:Fr} {H:List Pc} {k:List It} {Φ:Gl}
theorem Mc.st {G D w0 w} {H H':List Pc} (h:Mc H H'):∀{X:List Pc},St G D w0 H w→Tg X→(∀p∈X,∀q∈H,Ae4 p q)→(∀p∈X,p.P w∧∀b∈p.F,b∈G∨w0.heap.size≤b∨(p.mu=false∧b∈D)) →
  (∀q∈H',q∈H)∧Tg H':=by
 induction h with
 | nil=>intro X _ _ _ _;exact ⟨FK,trivial⟩
 | @cons A p R B hp hs ih =>
  intro X s hX hXa hXp;have s1:=s.pick hp;have ⟨h1,h2⟩:=ih (X:=[]) s1.tail trivial FK FK;exact ⟨fun q hq=>by
   rcases List.mem_cons.1 hq with rfl|hq
   ·exact hp.mem
   ·exact hp.sub q (h1 q hq),fun q hq=>s1.sep.1 q (h1 q hq),h2⟩
theorem St.sub {G D w0 w} {H H':List Pc} (s:St G D w0 H w) (h:Mc H H'):St G D w0 H' w :=
 have ⟨h1,h2⟩:=h.st (X:=[]) s trivial FK FK
 ⟨s.Jd,fun p hp=>s.on p (h1 p hp),h2,fun p hp=>s.Aeh p (h1 p hp)⟩
theorem Bjm (H':List Pc) (h:T c fr H' Φ) (hs:Mc H H':=by repeat (first|exact Mc.nil|refine Mc.cons IG ?_)):T c fr H Φ:=.mk fun a w s g=>h.h a w (s.sub hs) g
theorem Xo {p:Pc} (h:T c fr H Φ):T c fr (p::H) Φ:=.mk fun a w s g=>h.h a w s.tail g
/-! the rules of control -/
theorem Q7 {x y:Code} (h:T c fr H (.code (.cd y::k) x)):T c fr H (.code k (Code.seq x y)):=.mk fun a w s g=>wp_seq (h.h a w s g)
theorem Wy (h:T c fr H (.norm k)):T c fr H (.code k Code.skip):=.mk fun a w s g=>wp_skip (h.h a w s g)
theorem Azx (h:T c fr H (.fin .ret)):T c fr H (.code k Code.ret):=.mk fun a w s g=>wp_ret (by rw [Ags];exact h.h a w s g)
theorem Ar3 {id:Nat} (h:T c fr H (.exit k id)):T c fr H (.code k (Code.exit id)):=.mk fun a w s g=>wp_exit (h.h a w s g)
theorem Tj {id:Nat} {x:Code} (h:T c fr H (.code (.blk id::k) x)):T c fr H (.code k (Code.block id x)):=.mk fun a w s g=>wp_block (h.h a w s g)
theorem Akx {id:Nat} {l:List Oper} (h:T c fr H (.list k l.toArray l)):T c fr H (.code k (Code.region id l.toArray false)):=.mk fun a w s g=>wp_region_lit (h.h a w s g)
theorem c_t {x:Operand} {y z:Code} (hc:ev fr x=some (.bool true)) (h:T c fr H (.code k y)):T c fr H (.code k (Code.cond x y z)):=.mk fun a w s g=>wp_cond_true (g.ev hc) (h.h a w s g)
theorem c_f {x:Operand} {y z:Code} (hc:ev fr x=some (.bool false)) (h:T c fr H (.code k z)):T c fr H (.code k (Code.cond x y z)):=.mk fun a w s g=>wp_cond_false (g.ev hc) (h.h a w s g)
theorem Ax {x:Operand} {y z:Code} {p:Prop} {_:Decidable p} (hc:ev fr x=some (.bool (decide p))) (h1:p→T c fr H (.code k y)) (h2:¬p→T c fr H (.code k z)) :
  T c fr H (.code k (Code.cond x y z)):=.mk fun a w s g=>by
 by_cases hp:p
 ·exact wp_cond_true (by rw [g.ev hc,decide_eq_true hp]) ((h1 hp).h a w s g)
 ·exact wp_cond_false (by rw [g.ev hc,decide_eq_false hp]) ((h2 hp).h a w s g)
theorem Abl {y:Code} (h:T c fr H (.code k y)):T c fr H (.norm (.cd y::k)):=⟨h.h⟩
theorem Afp {id:Nat} (h:T c fr H (.norm k)):T c fr H (.norm (.blk id::k)):=⟨h.h⟩
theorem Bjb (h:T c fr H (.fin .normal)):T c fr H (.norm []):=⟨h.h⟩
theorem Bg7 {y:Code} {id:Nat} (h:T c fr H (.exit k id)):T c fr H (.exit (.cd y::k) id):=⟨h.h⟩
theorem Bg8 {I:Act→World→Prop} {id:Nat} (h:T c fr H (.exit k id)):T c fr H (.exit (.lp I::k) id):=⟨h.h⟩
theorem Az3 {id:Nat} (h:T c fr H (.norm k)):T c fr H (.exit (.blk id::k) id):=.mk fun a w s g=>by
 show (if id=id then run c k .normal a w else run c k (.exit id) a w);rw [if_pos rfl];exact h.h a w s g
theorem Ase {id id':Nat} (hne:Nat.beq id' id=false) (h:T c fr H (.exit k id')):T c fr H (.exit (.blk id::k) id'):=.mk fun a w s g=>by
 show (if id'=id then run c k .normal a w else run c k (.exit id') a w);rw [if_neg (fun e=>by rw [e] at hne;simp at hne)];exact h.h a w s g
theorem X6 {ops:Array Oper} (h:T c fr H (.norm k)):T c fr H (.list k ops []):=⟨h.h⟩
/-! loops -/
theorem Ah9 {p:Nat→Prop}:∀n,p n→∃m,p m∧∀j,p j→m≤j:=fun n=>by
 induction n using Nat.strongRecOn with
 | _ n ih =>
  intro hn;by_cases h:∃j,j < n∧p j
  ·obtain ⟨j,hj,hp⟩:=h;exact ih j hj hp
  ·exact ⟨n,hn,fun j hj=>Nat.le_of_not_lt fun hl=>h ⟨j,hl,hj⟩⟩
theorem Ayz {P:Program} {Q:Exit→Act→World→Prop} {x:Code} {a:Act} {w:World} (I:Nat→Act→World→Prop) (m:Nat) (h0:I m a w)
  (round:∀m a w,I m a w→x.wp P (Exit.then (fun a' w'=>∃m',m' < m∧I m' a' w') Q) a w):(Code.loop x).wp P Q a w:=by
 classical
 refine wp_loop (fun a w=>∃m,I m a w) (fun a w=>if h:∃m,I m a w then Classical.choose (Ah9 (p:=fun m=>I m a w) h.choose h.choose_spec) else 0) ⟨m,h0⟩ fun a w hI=>?_;have hl:=Classical.choose_spec (Ah9 (p:=fun m=>I m a w) hI.choose hI.choose_spec);refine wp_mono (round _ a w hl.1) fun e a' w' he=>?_;cases e with
 | normal =>
  obtain ⟨m',hm,hi⟩:=he;have hex:∃m,I m a' w':=⟨m',hi⟩;refine ⟨hex,?_⟩;simp only [dif_pos hI,dif_pos hex];exact Nat.lt_of_le_of_lt ((Classical.choose_spec (Ah9 (p:=fun m=>I m a' w') hex.choose hex.choose_spec)).2 m' hi) hm
 | _=>exact he
def LpI {σ:Type} (c:Cx) (fr':σ→Fr) (H':σ→List Pc) (C:σ→Prop) (μ:σ→Nat) (m:Nat) (a:Act) (w:World):Prop:=∃s,C s∧μ s=m∧St c.G c.D c.w0 (H' s) w∧Ag c.n (fr' s) a
def LpN {σ:Type} (c:Cx) (fr':σ→Fr) (H':σ→List Pc) (C:σ→Prop) (μ:σ→Nat) (m:Nat) (a:Act) (w:World):Prop:=∃m',m' < m∧LpI c fr' H' C μ m' a w
theorem Azw {x:Code} {σ:Type} (fr':σ→Fr) (H':σ→List Pc) (C:σ→Prop) (μ:σ→Nat) (s0:σ) (h0:C s0)
  (round:∀s,C s→T c (fr' s) (H' s) (.code (.lp (LpN c fr' H' C μ (μ s))::k) x)) (hf:Mb fr (fr' s0):=by repeat (first|exact Mb.nil|refine Mb.cons GG ?_)) (hH:Mc H (H' s0):=by repeat (first|exact Mc.nil|refine Mc.cons IG ?_)):T c fr H (.code k (Code.loop x)):=.mk fun a w st g=>by
 refine Ayz (LpI c fr' H' C μ) (μ s0) ⟨s0,h0,rfl,st.sub hH,g.sub hf⟩ fun m a w hI=>?_;obtain ⟨s,hC,rfl,hst,hg⟩:=hI;exact (round s hC).h a w hst hg
theorem Ce {σ:Type} {fr':σ→Fr} {H':σ→List Pc} {C:σ→Prop} {μ:σ→Nat} {m:Nat} (s:σ) (hC:C s) (hm:μ s < m) (hf:Mb fr (fr' s):=by repeat (first|exact Mb.nil|refine Mb.cons GG ?_)) (hH:Mc H (H' s):=by repeat (first|exact Mc.nil|refine Mc.cons IG ?_)) :
  T c fr H (.norm (.lp (LpN c fr' H' C μ m)::k)):=.mk fun _ _ st g=>⟨μ s,hm,s,hC,rfl,st.sub hH,g.sub hf⟩
end
class OneC (P:Program) (t:TypeId):Prop where
 d:∃d,P.underlying t=some d∧d.isRow=false
 s:(P.info? t).map (·.size)=some 1
class AggC (P:Program) (t:TypeId) (n:outParam Nat):Prop where
 d:∃d,P.underlying t=some d∧d.isRow=true
 s:(P.info? t).map (·.size)=some n
class FldC (P:Program) (t:TypeId) (i:Nat) (off:outParam Nat) (ft:outParam TypeId) (n:outParam Nat):Prop where
 f:∃fs f,P.underlying t=some (.struct fs)∧fs[i]?=some f∧f.offset=off∧f.type=ft
 s:(P.info? ft).map (·.size)=some n
 p:n≠0
class SlC (P:Program) (t:TypeId) (e:outParam TypeId) (n:outParam Nat):Prop where
 u:P.underlying t=some (.slice e)
 s:(P.info? e).map (·.size)=some n
class IntC (P:Program) (t:TypeId) (k:outParam IntKind):Prop where
 u:P.underlying t=some (.int k)
class StrC (P:Program) (t:TypeId):Prop where
 u:P.underlying t=some .string
class BoolC (P:Program) (t:TypeId):Prop where
 u:P.underlying t=some .bool
def Iq (g o j:Nat):Value:=.pointer (some ⟨g,o+j,none⟩)
structure Yd (P:Program) (n:Nat) (fr:Fr) (H:List Pc) (o:Op) (ty:TypeId) (v:Value):Prop where
 h:∀(a:Act) (w:World) (d:Option Tmp) (pos:String) (Ci:Array Edge) (g:Option (Nat × Bool)),Ag n fr a→Om H w→(execOp a.eval ⟨d,o,ty,pos,Ci,g⟩).run P w=.ok (.value v) w
theorem Afk (a b:ByteArray):(a.toList == b.toList)=decide (a=b):=by
 rw [Bool.eq_iff_iff];simp only [beq_iff_eq,decide_eq_true_eq,ByteArray.toList_eq];exact ⟨fun h=>ByteArray.ext (Array.ext' h),fun h=>by rw [h]⟩
section
variable {P:Program} {n:Nat} {fr:Fr} {H:List Pc} {ty:TypeId} {v u:Value} {x y z:Operand}
theorem Nv {t:TypeId} {n:Nat} (h:(P.info? t).map (·.size)=some n) (w:World):(sizeOf t).run P w=.ok n w:=by
 obtain ⟨i,hi,hn⟩:=Option.map_eq_some_iff.1 h;simp [sizeOf,typeInfo,hi,hn]
theorem Apn {t:TypeId} (h:∃d,P.underlying t=some d∧d.isRow=false) (w:World):(isAgg t).run P w=.ok false w:=by
 obtain ⟨d,hu,hd⟩:=h;unfold isAgg;rw [Sem.run_bind,run_underlying hu w];cases d <;> simp_all
theorem Aws {t:TypeId} (h:∃d,P.underlying t=some d∧d.isRow=true) (w:World):(isAgg t).run P w=.ok true w:=by
 obtain ⟨d,hu,hd⟩:=h;unfold isAgg;rw [Sem.run_bind,run_underlying hu w];cases d <;> simp_all
theorem Bf6 (hx:ev fr x=some v):Yd P n fr H (.move x) ty v:=.mk fun a w d pos Ci g hA _=>by
 simp [execOp,hA.ev hx]
theorem Ay0 (hx:ev fr x=some v):Yd P n fr H (.assign x) ty v:=.mk fun a w d pos Ci g hA _=>by
 simp [execOp,hA.ev hx]
theorem Ay2 (hc:ev fr x=some (.bool true)) (hy:ev fr y=some v):Yd P n fr H (.pick x y z) ty v:=.mk fun a w d pos Ci g hA _=>by
 simp [execOp,hA.ev hc,hA.ev hy,asBool]
theorem Ay1 (hc:ev fr x=some (.bool false)) (hz:ev fr z=some v):Yd P n fr H (.pick x y z) ty v:=.mk fun a w d pos Ci g hA _=>by
 simp [execOp,hA.ev hc,hA.ev hz,asBool]
theorem Ac0 {w:World} {g t o j:Nat} {A cs B:List Value} (h:(Pc.row g t o A cs B).P w) (hv:cs[j]?=some v):w.cell? ⟨g,o+j,none⟩=some v:=by
 obtain ⟨rfl,h⟩:=h;rw [h.cellMid rfl (List.getElem?_eq_some_iff.1 hv).1];exact hv
theorem I0 {w:World} {g t o:Nat} {A cs B:List Value} (h:(Pc.row g t o A cs B).P w):w.rangeAt g o cs:=fun _ _ hv=>Ac0 h hv
theorem Ayb {w:World} {g t o:Nat} {A cs B:List Value} (h:(Pc.row g t o A cs B).P w):w.there g o cs.length:=fun j hj =>
 ⟨by rw [Ac0 h (List.getElem?_eq_getElem hj)];rfl,h.2.frozen _⟩
theorem Aib {t:TypeId} [hT:OneC P t] {w:World} {a:Addr} (h:w.cell? a=some v):(Instr.loadAt t (.pointer (some a))).run P w=.ok v w:=by
 simp [Instr.loadAt,Instr.sureAddr,loadVar,Apn hT.d,h]
theorem Bjz {t g o j tt:Nat} {A cs B:List Value} [OneC P t] (hx:ev fr x=some (Iq g o j)) (hm:Pc.row g tt o A cs B∈H) (hv:cs[j]?=some v):Yd P n fr H (.load t x) ty v:=.mk fun a w d pos Ci gd hA hH=>by
 simp [execOp,hA.ev hx,Iq,Aib (Ac0 (hH _ hm) hv)]
theorem Big {t b o j:Nat} {cs:List Value} [OneC P t] (hx:ev fr x=some (Iq b o j)) (hm:Pc.cel b o cs∈H) (hv:cs[j]?=some v):Yd P n fr H (.load t x) ty v:=.mk fun a w d pos Ci gd hA hH=>by
 simp [execOp,hA.ev hx,Iq,Aib ((hH _ hm).2 j v hv)]
inductive Cut:List Value→Nat→Nat→List Value→Prop
 | zero {l}:Cut l 0 0 []
 | one {x l m r}:Cut l 0 m r→Cut (x::l) 0 (m+1) (x::r)
 | skip {x l j m r}:Cut l j m r→Cut (x::l) (j+1) m r
theorem Cut.get {l j m r} (h:Cut l j m r):r.length=m∧∀(i:Nat) u,r[i]?=some u→l[j+i]?=some u:=by
 induction h with
 | zero=>exact ⟨rfl,fun i u h=>by simp at h⟩
 | one _ ih =>
  refine ⟨by simp [ih.1],fun i u h=>?_⟩;cases i with
  | zero=>simpa using h
  | succ i=>have:=ih.2 i u GE;simpa [Nat.add_assoc] using this
 | skip _ ih =>
  refine ⟨ih.1,fun i u h=>?_⟩;have:=ih.2 i u h
  rwa [show ∀a b:Nat,a+1+b=a+b+1 by omega,List.getElem?_cons_succ]
theorem Aia {t m:Nat} [hT:AggC P t m] {w:World} {b o j:Nat} {cs r:List Value} (h:w.rangeAt b o cs) (hc:Cut cs j m r):(Instr.loadAt t (.pointer (some ⟨b,o+j,none⟩))).run P w=.ok (.agg r.toArray) w:=by
 obtain ⟨d,hu,hd⟩:=hT.d;exact run_loadAt_mid w b (o+j) t r d (fun i u hu=>by rw [Nat.add_assoc];exact h _ _ (hc.get.2 i u hu)) hu hd (by rw [hT.s,hc.get.1])
theorem Bdk {t g o j tt m:Nat} {A cs B r:List Value} [AggC P t m] (hx:ev fr x=some (Iq g o j)) (hm:Pc.row g tt o A cs B∈H) (hc:Cut cs j m r):Yd P n fr H (.load t x) ty (.agg r.toArray):=.mk fun a w d pos Ci gd hA hH=>by
 simp [execOp,hA.ev hx,Iq,Aia (I0 (hH _ hm)) hc]
theorem Adj {t b o j m:Nat} {cs r:List Value} [AggC P t m] (hx:ev fr x=some (Iq b o j)) (hm:Pc.cel b o cs∈H) (hc:Cut cs j m r):Yd P n fr H (.load t x) ty (.agg r.toArray):=.mk fun a w d pos Ci gd hA hH=>by
 simp [execOp,hA.ev hx,Iq,Aia (hH _ hm).2 hc]
theorem Bju {t i g o j off ft m:Nat} [hF:FldC P t i off ft m] (hx:ev fr x=some (Iq g o j)):Yd P n fr H (.fieldAddr t x i) ty (Iq g o (j+off)):=.mk fun a w d pos Ci gd hA _=>by
 obtain ⟨fs,f,hu,hf,rfl,rfl⟩:=hF.f;simp [execOp,hA.ev hx,Iq,Instr.fieldAt,run_underlying hu,hf,Instr.sureAddr,fieldPlace,Nv hF.s,hF.p,Addr.add_lit,Nat.add_assoc]
theorem Bid {t i off ft m:Nat} {l:List Value} [hF:FldC P t i off ft m] [hT:OneC P ft] (hx:ev fr x=some (.agg l.toArray)) (hv:l[off]?=some v):Yd P n fr H (.field t x i) ty v:=.mk fun a w d pos Ci gd hA _=>by
 obtain ⟨fs,f,hu,hf,rfl,rfl⟩:=hF.f;simp [execOp,hA.ev hx,Instr.field,run_underlying hu,hf,asAgg,part,Apn hT.d,hv]
theorem Bf4 {t i off ft m m':Nat} {l r:List Value} [hF:FldC P t i off ft m] [hT:AggC P ft m'] (hx:ev fr x=some (.agg l.toArray)) (hc:Cut l off m' r):Yd P n fr H (.field t x i) ty (.agg r.toArray):=.mk fun a w d pos Ci gd hA _=>by
 obtain ⟨fs,f,hu,hf,rfl,rfl⟩:=hF.f;have e:l.toArray.extract f.offset (f.offset+m')=r.toArray:=by
  obtain ⟨h1,h2⟩:=hc.get;apply Array.ext';simp only [List.extract_toArray,List.extract_eq_take_drop,Nat.add_sub_cancel_left];apply List.ext_getElem?;intro i;rw [List.getElem?_take]
  split
  ·rename_i hi;have hr:r[i]?=some (r[i]'FJ):=List.getElem?_eq_getElem FJ;rw [List.getElem?_drop,hr];exact h2 i _ hr
  ·rw [List.getElem?_eq_none FJ]
 simp [execOp,hA.ev hx,Instr.field,run_underlying hu,hf,asAgg,part,Aws hT.d,Nv hT.s,←e]
theorem Bip {g o j:Nat} (hx:ev fr x=some (Iq g o j)):Yd P n fr H (.nilCheck x) ty (Iq g o j):=.mk fun a w d pos Ci gd hA _=>by
 simp [execOp,hA.ev hx,Iq]
theorem Bf7 {f:Nat} {l:Array Value} (hx:ev fr x=some (.func (.func f) #[] l)):Yd P n fr H (.nilCheck x) ty (.func (.func f) #[] l):=.mk fun a w d pos Ci gd hA _=>by
 simp [execOp,hA.ev hx]
theorem Bjy {t e m b o len cp:Nat} {kd:IntKind} {i:Int} [hS:SlC P t e m] (hx:ev fr x=some (.slice (some ⟨b,o,none⟩) len cp)) (hy:ev fr y=some (.int kd i)) (h0:0≤i) (h1:i < len) :
  Yd P n fr H (.indexAddr t x y) ty (Iq b (o+i.toNat * m) 0):=.mk fun a w d pos Ci gd hA _=>by
 simp [execOp,hA.ev hx,hA.ev hy,Instr.indexAt,run_underlying hS.u,asIntOf,h0,h1,Nv hS.s,Addr.add_lit,Iq]
theorem Bif {t:Nat} {kd:IntKind} {i:Int} {s:ByteArray} [hS:StrC P t] (hx:ev fr x=some (.string s)) (hy:ev fr y=some (.int kd i)) (h0:0≤i) (h1:i.toNat < s.size) :
  Yd P n fr H (.index t x y) ty (.int .u8 (s[i.toNat]'h1).toNat):=.mk fun a w d pos Ci gd hA _=>by
 simp [execOp,hA.ev hx,hA.ev hy,Instr.index,run_underlying hS.u,asIntOf,h0,h1]
theorem Bjt {i:Nat} {l:List Value} (hx:ev fr x=some (.tuple l.toArray)) (hv:l[i]?=some v):Yd P n fr H (.extract x i) ty v:=.mk fun a w d pos Ci gd hA _=>by
 simp [execOp,hA.ev hx,Instr.extract,hv]
theorem Biq {b:Bool} {t:Nat} (hx:ev fr x=some (.bool b)):Yd P n fr H (.unOp .not t x) ty (.bool (!b)):=.mk fun a w d pos Ci gd hA _=>by
 simp [execOp,hA.ev hx,Op.unary]
theorem Bf8 {p:Prop} {_:Decidable p} {t:Nat} (hx:ev fr x=some (.bool (decide p))):Yd P n fr H (.unOp .not t x) ty (.bool (decide (¬p))):=.mk fun a w d pos Ci gd hA _=>by
 simp [execOp,hA.ev hx,Op.unary]
theorem Bim {a:Int} {t:Nat} (hx:ev fr x=some (.int .i64 a)) (h0:-9223372036854775808≤-a) (h1:-a≤9223372036854775807):Yd P n fr H (.unOp .neg t x) ty (.int .i64 (-a)):=.mk fun a w d pos Ci gd hA _=>by
 simp [execOp,hA.ev hx,Op.unary,Op.intArith,IntWalk.i64_in _ ⟨h0,h1⟩]
section
variable {a b:Int} {t t':TypeId} (hx:ev fr x=some (.int .i64 a)) (hy:ev fr y=some (.int .i64 b))
include hx hy
theorem Bia (h0:-9223372036854775808≤a+b) (h1:a+b≤9223372036854775807):Yd P n fr H (.binOp .add t x y t') ty (.int .i64 (a+b)):=.mk fun a w d pos Ci gd hA _=>by
 simp [execOp,hA.ev hx,hA.ev hy,eqGuard_add,binOp_add,Op.intArith,IntWalk.i64_in _ ⟨h0,h1⟩]
theorem Biv (h0:-9223372036854775808≤a - b) (h1:a - b≤9223372036854775807):Yd P n fr H (.binOp .sub t x y t') ty (.int .i64 (a - b)):=.mk fun a w d pos Ci gd hA _=>by
 simp [execOp,hA.ev hx,hA.ev hy,eqGuard_sub,binOp_sub,Op.intArith,IntWalk.i64_in _ ⟨h0,h1⟩]
theorem Bik (h0:-9223372036854775808≤a * b) (h1:a * b≤9223372036854775807):Yd P n fr H (.binOp .mul t x y t') ty (.int .i64 (a * b)):=.mk fun a w d pos Ci gd hA _=>by
 simp [execOp,hA.ev hx,hA.ev hy,eqGuard_mul,binOp_mul,Op.intArith,IntWalk.i64_in _ ⟨h0,h1⟩]
theorem Bir (h0:0≤a) (h2:a≤9223372036854775807) (h1:0 < b):Yd P n fr H (.binOp .quo t x y t') ty (.int .i64 (a / b)):=.mk fun c w d pos Ci gd hA _=>by
 have hle:a / b≤a:=Int.ediv_le_self _ h0;have hge:0≤a / b:=Int.ediv_nonneg h0 FJ;have hb:b≠0:=FJ
 simp [execOp,hA.ev hx,hA.ev hy,eqGuard_quo,binOp_quo,Op.intDiv,hb,Int.tdiv_eq_ediv_of_nonneg h0,IntWalk.i64_in _ ⟨(by omega:-9223372036854775808≤a / b),(by omega:a / b≤9223372036854775807)⟩]
theorem Bis (h0:0≤a) (h1:0 < b):Yd P n fr H (.binOp .rem t x y t') ty (.int .i64 (a % b)):=.mk fun c w d pos Ci gd hA _=>by
 have hb:b≠0:=FJ
 simp [execOp,hA.ev hx,hA.ev hy,eqGuard_rem,binOp_rem,Op.intDiv,hb,Int.tmod_eq_emod_of_nonneg h0]
end
section
variable {a b:Int} {k:IntKind} {t t':TypeId} (hx:ev fr x=some (.int k a)) (hy:ev fr y=some (.int k b))
include hx hy
theorem Bij {ts:Array TypeId}:Yd P n fr H (.call { callee:=.builtin .min,args:=#[x,y],argTypes:=ts }) ty (.int k (min a b)):=.mk fun c w d pos Ci gd hA _=>by
 have e:(if b < a then b else a)=min a b:=by split <;> omega
 simp [execOp,hA.ev hx,hA.ev hy,resolve,invoke,builtin,run_min_int2,e]
theorem Bii {ts:Array TypeId}:Yd P n fr H (.call { callee:=.builtin .max,args:=#[x,y],argTypes:=ts }) ty (.int k (max a b)):=.mk fun c w d pos Ci gd hA _=>by
 have e:(if a < b then b else a)=max a b:=by split <;> omega
 simp [execOp,hA.ev hx,hA.ev hy,resolve,invoke,builtin,run_max_int2,e]
theorem Bj2:Yd P n fr H (.binOp .lss t x y t') ty (.bool (decide (a < b))):=.mk fun a w d pos Ci gd hA _=>by
 simp [execOp,hA.ev hx,hA.ev hy,eqGuard_lss,binOp_lss]
theorem Bj0:Yd P n fr H (.binOp .leq t x y t') ty (.bool (decide (a≤b))):=.mk fun a w d pos Ci gd hA _=>by
 simp [execOp,hA.ev hx,hA.ev hy,eqGuard_leq,binOp_leq]
theorem Bjx:Yd P n fr H (.binOp .gtr t x y t') ty (.bool (decide (b < a))):=.mk fun a w d pos Ci gd hA _=>by
 simp [execOp,hA.ev hx,hA.ev hy,eqGuard_gtr,binOp_gtr]
theorem Bjw:Yd P n fr H (.binOp .geq t x y t') ty (.bool (decide (b≤a))):=.mk fun a w d pos Ci gd hA _=>by
 simp [execOp,hA.ev hx,hA.ev hy,eqGuard_geq,binOp_geq]
theorem Bjs:Yd P n fr H (.binOp .eql t x y t') ty (.bool (decide (a=b))):=.mk fun a w d pos Ci gd hA _=>by
 simp [execOp,hA.ev hx,hA.ev hy,eqGuard_at_int,binOp_eql];rfl
theorem Bj3:Yd P n fr H (.binOp .neq t x y t') ty (.bool (decide (¬a=b))):=.mk fun a w d pos Ci gd hA _=>by
 simp [execOp,hA.ev hx,hA.ev hy,eqGuard_at_int,binOp_neq,bne];rfl
end
section
variable {a b:ByteArray} {t t':TypeId} (hx:ev fr x=some (.string a)) (hy:ev fr y=some (.string b))
include hx hy
theorem Of (h:a.size+b.size≤9223372036854775807):Yd P n fr H (.binOp .add t x y t') ty (.string (a++b)):=.mk fun c w d pos Ci gd hA _=>by
 have:¬((a.size:Int)+b.size > 9223372036854775807):=FJ
 simp [execOp,hA.ev hx,hA.ev hy,eqGuard_add,binOp,Op.stringOp,this]
theorem Bic:Yd P n fr H (.binOp .eql t x y t') ty (.bool (decide (a=b))):=.mk fun c w d pos Ci gd hA _=>by
 simp [execOp,hA.ev hx,hA.ev hy,eqGuard_at_string,binOp,Op.stringOp,Afk a b]
theorem Bio:Yd P n fr H (.binOp .neq t x y t') ty (.bool (decide (¬a=b))):=.mk fun c w d pos Ci gd hA _=>by
 simp [execOp,hA.ev hx,hA.ev hy,eqGuard_at_string,binOp,Op.stringOp,Afk a b]
end
theorem Ahq {t:TypeId} [hB:BoolC P t] (a b:Bool) (w:World):(Op.equal t (.bool a) (.bool b)).run P w=.ok (a == b) w:=by
 unfold Op.equal;rw [show Op.maxDepth=9999+1 from rfl];unfold Op.equalIn;rw [Sem.run_bind,run_underlying hB.u w];rfl
theorem Bib {a b:Bool} {t t':TypeId} [hB:BoolC P t] (hx:ev fr x=some (.bool a)) (hy:ev fr y=some (.bool b)):Yd P n fr H (.binOp .eql t x y t') ty (.bool (decide (a=b))):=.mk fun c w d pos Ci gd hA _=>by
 have e:binOp .eql t (.bool a) (.bool b)=(do pure (.bool (←Op.equal t (.bool a) (.bool b)))):=rfl;exact EM
theorem Bil {a b:Bool} {t t':TypeId} [hB:BoolC P t] (hx:ev fr x=some (.bool a)) (hy:ev fr y=some (.bool b)):Yd P n fr H (.binOp .neq t x y t') ty (.bool (decide (¬a=b))):=.mk fun c w d pos Ci gd hA _=>by
 have e:binOp .neq t (.bool a) (.bool b)=(do pure (.bool (!(←Op.equal t (.bool a) (.bool b))))):=rfl;exact EM
theorem Arv {k k':IntKind} {a:Int} {s t:TypeId} [hS:IntC P s k'] [hD:IntC P t .i64] (hx:ev fr x=some (.int k a)) (h0:-9223372036854775808≤a) (h1:a≤9223372036854775807):Yd P n fr H (.convert s t x) ty (.int .i64 a):=.mk fun c w d pos Ci gd hA _=>by
 simp [execOp,hA.ev hx,convert,run_underlying hS.u,run_underlying hD.u,Conv.intToInt,IntWalk.i64_in _ ⟨h0,h1⟩]
theorem Bih {a:Option Addr} {len cp t e m:Nat} [hS:SlC P t e m] (hx:ev fr x=some (.slice a len cp)):Yd P n fr H (.call { callee:=.builtin .len,args:=#[x],argTypes:=#[t] }) ty (.int .i64 len):=.mk fun c w d pos Ci gd hA _=>by
 simp [execOp,hA.ev hx,resolve,invoke,builtin,Builtin.len_,run_underlying hS.u,goInt]
theorem Bf5 {s:ByteArray} {t:Nat} [hS:StrC P t] (hx:ev fr x=some (.string s)):Yd P n fr H (.call { callee:=.builtin .len,args:=#[x],argTypes:=#[t] }) ty (.int .i64 s.size):=.mk fun c w d pos Ci gd hA _=>by
 simp [execOp,hA.ev hx,resolve,invoke,builtin,run_len_string (h:=hS.u),goInt]
theorem P9 {t e m i:Nat} {a:Option Addr} {len cp:Nat} {z:Int} [hS:SlC P t e m] (hx:ev fr x=some (.slice a len cp)) (hy:ev fr y=some (.int .i64 z)) (hz:z=(i:Int)) (hi:i≤cp) (hc:cp≤9223372036854775807):Yd P n fr H (.slice t x none (some y) none) ty (.slice a i cp):=.mk fun ac w d pos Ci gd hA _=>by
 subst hz;have he2:P.elem t=e:=KI
 have h3:(Instr.sliceAt t (.slice a len cp) none (some (.int .i64 (i:Int))) none).run P w=.ok (.slice a i cp) w:=by
  rw [run_sliceAt_slice (h:=GU),run_slice_h (ht:=GU) (h0:=FJ) (h2:=FJ),he2,Nv hS.s];have h0:a.map (fun b=>b.add 0)=a:=by cases a <;> simp [Addr.add]
  simp [Result.andThen,sliced,h0]
 exact AV
theorem Bjv {f:Nat} {caps:List Operand} {vs:List Value} (hc:Evs fr caps vs):Yd P n fr H (.makeFunc (.func f) #[] caps.toArray) ty (.func (.func f) #[] vs.toArray):=.mk fun c w d pos Ci gd hA _=>by
 simp [execOp,Instr.makeFunc,hA.evs hc]
end
class ZC (P:Program) (t:TypeId) (zs:outParam (List Value)):Prop where
 z:∃v,(P.info? t).map (·.zero)=some (some v)∧v.cells=zs.toArray
class ElT (P:Program) (e:TypeId) (z:outParam Value) (n:outParam Nat) (by_:outParam Nat):Prop where
 i:(P.info? e).map (fun i=>(i.zero,i.size,i.bytes))=some (some z,n,by_)
 s:z.cells.size=n
class BldC (P:Program) (t:TypeId) (pl:outParam (List (Nat × Nat))) (zs:outParam (List Value)):Prop where
 b:∀parts,P.built t parts=Instr.fill (pl.toArray[·]?) zs.toArray parts
def Si (P:Program) (f:FuncId):Bool:=match P.funcs[f]? with
 | some fn=>!(fn.name == "runtime.NumGoroutine") && !fn.body.isNone
 | none=>false
theorem Wx {P:Program} {f:FuncId} (h:Si P f=true):Z4 P f:=by
 unfold Si at h
 split at h
 ·rename_i fn hf;simp only [Bool.and_eq_true,Bool.not_eq_true'] at h;exact .mk' hf h.1 h.2
 ·cases h
structure Ef (c:Cx) (fr:Fr) (H:List Pc) (o:Oper) (Φ:Gl):Prop where
 h:∀Q a w,St c.G c.D c.w0 H w→Ag c.n fr a→o.wp c.P a w (Φ.sem c) Q
structure Cl (c:Cx) (fr:Fr) (H:List Pc) (d:Nat) (f:FuncId) (vs:List Value) (Φ:Gl):Prop where
 h:∀w,St c.G c.D c.w0 H w→∃R:Ending→World→Prop,Calls c.P f vs.toArray w R∧∀e w',R e w'→∃v,e=.returned v∧∀a,Ag c.n ((d,v)::fr) a→Φ.sem c a w'
theorem Qe {c:Cx} {fr:Fr} {H:List Pc} {o:Oper} {Φ:Gl} (h:∀Q a w,St c.G c.D c.w0 H w→Ag c.n fr a→Oper.upon c.P o a (Φ.sem c) Q ((execOp a.eval o).run c.P w)):Ef c fr H o Φ:=⟨h⟩
inductive Rpl:List Pc→Pc→Pc→List Pc→Prop
 | here {p q R}:Rpl (p::R) p q (q::R)
 | there {x p q R S}:Rpl R p q S→Rpl (x::R) p q (x::S)
theorem Rpl.picks {H p q S} (h:Rpl H p q S):∃R,Co H p R∧Co S q R:=by
 induction h with
 | here=>exact ⟨_,.here,.here⟩
 | there _ ih=>obtain ⟨R,h1,h2⟩:=ih;exact ⟨_,.there h1,.there h2⟩
theorem Co.unsep {H p R} (h:Co H p R) (hs:Tg (p::R)):Tg H:=by
 induction h with
 | here=>exact hs
 | @there x p R R' h ih =>
  have h2:=Tg.perm2 hs;have h3:=ih h2.2;refine ⟨fun q hq=>?_,h3⟩;have:∀{A:List Pc} {p B},Co A p B→∀q∈A,q=p∨q∈B:=by
   intro A p B h
   induction h with
   | here=>intro q hq;simpa using hq
   | there _ ih =>
    intro q hq;rcases List.mem_cons.1 hq with rfl|hq
    ·simp
    ·rcases ih q hq with h|h <;> simp [h]
  rcases this h q hq with rfl|hq
  ·exact h2.1 _ FK
  ·exact h2.1 _ GR
theorem Co.or {A:List Pc} {p B} (h:Co A p B):∀q∈A,q=p∨q∈B:=by
 induction h with
 | here=>intro q hq;simpa using hq
 | there _ ih =>
  intro q hq;rcases List.mem_cons.1 hq with rfl|hq
  ·simp
  ·rcases ih q hq with h|h <;> simp [h]
theorem St.unpick {G D w0 H p R w} (s:St G D w0 (p::R) w) (h:Co H p R):St G D w0 H w :=
 ⟨s.Jd,fun q hq=>by rcases h.or q hq with rfl|hq;exact s.on _ FK;exact s.on _ GR,h.unsep s.sep,fun q hq=>by rcases h.or q hq with rfl|hq;exact s.Aeh _ FK;exact s.Aeh _ GR⟩
theorem St.rpl {G D w0 H p q S} {w w':World} (s:St G D w0 H w) (h:Rpl H p q S) (hm:p.mu=true) (hF:∀b∈q.F,b∈p.F∨w.heap.size≤b) (hk:D6 p.F w w') (hq:q.P w'):St G D w0 S w':=by
 obtain ⟨R,h1,h2⟩:=h.picks;refine St.unpick (R:=R) ?_ h2;refine St.turn (M:=[p]) (R:=R) (N:=[q]) (s.pick h1) (by simpa [List.filter,hm,fp] using hk) (by intro x hx;simp at hx;subst hx;exact hq) ⟨FK,trivial⟩ fun x hx b hb=>?_;simp at hx;subst hx;rcases hF b hb with h|h
 ·exact .inr (.inl ⟨p,FK,hm,h⟩)
 ·exact .inl h
theorem St.add {G D w0 H} {w w':World} {N:List Pc} (s:St G D w0 H w) (hb:Below w.heap.size w w') (hN:Om N w') (hs:Tg N) (hF:∀p∈N,∀b∈p.F,w.heap.size≤b∨(p.mu=false∧∃q∈H,q.mu=false∧b∈q.F)):St G D w0 (N++H) w' :=
 St.turn (M:=[]) (R:=H) (N:=N) s (by simpa [fp] using D6.ofBelow hb) hN hs fun p hp b hb=>by
  rcases hF p hp b hb with h|h
  ·exact .inl h
  ·exact .inr (.inr GE)
theorem St.below {G D w0 H} {w w':World} (s:St G D w0 H w) (hb:Below w.heap.size w w'):St G D w0 H w':=s.add (N:=[]) hb (by intro p hp;simp at hp) trivial FK
theorem Yh (w:World) (o:Obj):Below w.heap.size w (w.alloc o):=(Below.refl _ _).alloc (Nat.le_refl _) o
theorem St.new {G D w0 H} {w:World} (s:St G D w0 H w) (t:TypeId) (cs:List Value):St G D w0 (.row w.heap.size t 0 [] cs []::H) (w.alloc (.cells cs.toArray t)) :=
 s.add (N:=[.row w.heap.size t 0 [] cs []]) (Yh _ _) (by intro p hp;simp at hp;subst hp;exact ⟨rfl,by simpa using Ir.made w t cs⟩) ⟨FK,trivial⟩ (by intro p hp b hb;simp at hp;subst hp;simp [Pc.F] at hb;subst hb;exact .inl (Nat.le_refl _))
inductive Put:List Value→Nat→List Value→List Value→Prop
 | zero {cs}:Put cs 0 [] cs
 | one {x cs u l r}:Put cs 0 l r→Put (x::cs) 0 (u::l) (u::r)
 | skip {x cs j l r}:Put cs j l r→Put (x::cs) (j+1) l (x::r)
theorem Put.parts {cs j l r} (h:Put cs j l r):∃A o B,cs=A++o++B∧r=A++l++B∧A.length=j∧o.length=l.length:=by
 induction h with
 | @zero cs=>exact ⟨[],[],cs,FK,FK,rfl,rfl⟩
 | @one x cs u l r _ ih =>
  obtain ⟨A,o,B,rfl,rfl,hA,ho⟩:=ih;have:A=[]:=List.eq_nil_of_length_eq_zero hA;subst this;exact ⟨[],x::o,B,FK,FK,rfl,by simp [ho]⟩
 | @skip x cs j l r _ ih =>
  obtain ⟨A,o,B,rfl,rfl,hA,ho⟩:=ih;exact ⟨x::A,o,B,FK,FK,by simp [hA],ho⟩
theorem Akl {P:Program} {t:TypeId} {n:Nat} (hs:(P.info? t).map (·.size)=some n) {w:World} {b o:Nat} {v:Value} {l:List Value} (hv:v.cells=l.toArray) (hl:l.length=n) (ht:w.there b o n) (h1:l.all (·.oneCell')=true) :
  (Instr.storeAt t (.pointer (some ⟨b,o,none⟩)) v).run P w=.ok () (w.setCells b o l):=by
 subst hl;have:=run_storeCells_cells (P:=P) b o l 0 w (fun j hj=>by simpa using (ht j hj).1) (fun j hj=>by simpa using (ht j hj).2) (fun v hv=>List.all_eq_true.1 h1 v hv);simp only [Nat.add_zero] at this;simp [Instr.storeAt,Instr.sureAddr,storeVar,Nv hs,hv,this]
theorem Bfk {w:World} {g t o j:Nat} {A cs B l r:List Value} (h:(Pc.row g t o A cs B).P w) (hp:Put cs j l r):(Pc.row g t o A r B).P (w.setCells g (o+j) l)∧D6 [g] w (w.setCells g (o+j) l):=by
 obtain ⟨rfl,h⟩:=h;obtain ⟨X,y,Y,rfl,rfl,rfl,hy⟩:=hp.parts;have h2:Ir w g t ((A++X)++y++(Y++B)):=GE
 have h3:=Ir.put l y h2 (p:=A.length+X.length) FK hy.symm;have hk:=Mu (g:=g) l w (A.length+X.length);rw [Nj w g l w] at h3 hk;exact ⟨⟨rfl,IU⟩,hk⟩
def Fn (P:Program) (f:FuncId) (args:List Value) (A M:List Pc) {σ:Type} (C:σ→Prop) (v:σ→Value) (N:σ→List Pc):Prop :=
 ∀w,Om (M++A) w→Tg (M++A)→Calls P f args.toArray w fun e w'=>∃s,C s∧e=.returned (v s)∧Om (N s) w'∧Tg (N s)∧D6 (fp M) w w' ∧
  ∀p∈N s,∀b∈p.F,w.heap.size≤b∨(∃q∈M,b∈q.F)∨(p.mu=false∧∃q∈A,b∈q.F)
inductive Io:List Pc→List Pc→List Pc→Prop
 | nil {H}:Io H [] H
 | cons {H p R M S}:Co H p R→Io R M S→Io H (p::M) S
theorem Io.st {G D w0 H M R w} (h:Io H M R):∀{X:List Pc},St G D w0 (X++H) w→St G D w0 (X++(M++R)) w:=by
 induction h with
 | nil=>intro X s;simpa using s
 | @cons H p R M S hp _ ih =>
  intro X s;have h1:∀(X:List Pc),Co (X++H) p (X++R):=by
   intro X;induction X with
   | nil=>exact hp
   | cons x X ih=>exact .there ih
  have h2:∀(X:List Pc),Co (X++(p::(M++S))) p (X++(M++S)):=by
   intro X;induction X with
   | nil=>exact .here
   | cons x X ih=>exact .there ih
  have s1:=s.pick (h1 X);have s2:=ih (X:=p::X) (by simpa using s1);exact St.unpick (by simpa using s2) (h2 X)
inductive Nn:List Pc→List Pc→Prop
 | nil {H}:Nn [] H
 | cons {p A H}:p∈H→Nn A H→Nn (p::A) H
theorem Nn.all {A H} (h:Nn A H):∀p∈A,p∈H:=by
 induction h with
 | nil=>simp
 | cons h _ ih=>intro q hq;rcases List.mem_cons.1 hq with rfl|hq;exact h;exact ih q hq
section
variable {c:Cx} {fr:Fr} {H:List Pc} {k:List It} {Φ:Gl} {ops:Array Oper} {rest:List Oper} {d:Nat} {o:Op} {ty:TypeId} {pos:String} {Ci:Array Edge} {v u:Value} {x y:Operand}
theorem Bkl {o:Oper} (h:Ef c fr H o (.list k ops rest)) (hg:o.guard=none:=by rfl):T c fr H (.list k ops (o::rest)):=.mk fun a w s g =>
 wpList_plain hg fun K hK=>Oper.wp_mono hK (h.h _ a w s g)
theorem Bgf {gd:Option (Nat × Bool)} (hy:Yd c.P c.n fr H o ty v) (hd:Nat.blt d c.n=true) (h:T c ((d,v)::fr) H Φ):Ef c fr H ⟨some d,o,ty,pos,Ci,gd⟩ Φ:=Qe fun Q a w s g=>by
 rw [hy.h a w (some d) pos Ci gd g s.on];exact h.h _ _ s (g.put hd)
structure On (c:Cx) (fr:Fr) (H:List Pc) (od:Option Tmp) (o:Op) (ty:TypeId) (Φ:Gl):Prop where
 h:∀pos Ci gd,Ef c fr H ⟨od,o,ty,pos,Ci,gd⟩ Φ
theorem wO {od:Option Tmp} (h:On c fr H od o ty (.list k ops rest)):T c fr H (.list k ops (⟨od,o,ty,pos,Ci,none⟩::rest)):=Bkl (h.h pos Ci none)
theorem oc (hd:Nat.blt d c.n=true) (hy:Yd c.P c.n fr H o ty v) (h:T c ((d,v)::fr) H Φ):On c fr H (some d) o ty Φ:=⟨fun _ _ _=>Bgf hy hd h⟩
/-! guards of a plain region -/
theorem Wq {a:Act} {j t:Nat} {b b':Bool} {od:Option Tmp} (ht:(ops[j]?).bind (·.dst)=some t) (hl:S8 fr t=some (.bool b')) (g:Ag c.n fr a):Region.wanted ⟨od,o,ty,pos,Ci,some (j,b)⟩ (yielded ops a.tmps)=(b' == b):=by
 simp only [Region.wanted,yielded,ht,Option.bind_some,g.at_ t _ hl];cases b <;> cases b' <;> rfl
theorem Arr {j t:Nat} {b:Bool} {od:Option Tmp} (ht:(ops[j]?).bind (·.dst)=some t) (hl:S8 fr t=some (.bool b)) (h:T c fr H (.list k ops (⟨od,o,ty,pos,Ci,none⟩::rest))) :
  T c fr H (.list k ops (⟨od,o,ty,pos,Ci,some (j,b)⟩::rest)):=.mk fun a w s g=>by
 have h1:=h.h a w s g;simp only [Gl.sem] at h1 ⊢;unfold wpList at h1 ⊢;rw [Wq (c:=c) ht hl g];simp only [Region.wanted,if_true,beq_self_eq_true] at h1 ⊢;exact h1
theorem Arq {j t:Nat} {b b':Bool} (ht:(ops[j]?).bind (·.dst)=some t) (hl:S8 fr t=some (.bool b')) (hb:(b' == b)=false) (hd:Nat.blt d c.n=true) (h:T c ((d,undef)::fr) H (.list k ops rest)) :
  T c fr H (.list k ops (⟨some d,o,ty,pos,Ci,some (j,b)⟩::rest)):=.mk fun a w s g=>by
 simp only [Gl.sem];unfold wpList;rw [Wq (c:=c) ht hl g,hb];simp only [Bool.false_eq_true,if_false];exact h.h _ _ s (g.put hd)
theorem Ars {j t:Nat} {b:Bool} (ht:(ops[j]?).bind (·.dst)=some t) (hl:S8 fr t=some undef) (hd:Nat.blt d c.n=true) (h:T c ((d,undef)::fr) H (.list k ops rest)) :
  T c fr H (.list k ops (⟨some d,o,ty,pos,Ci,some (j,b)⟩::rest)):=.mk fun a w s g=>by
 have hw:Region.wanted ⟨some d,o,ty,pos,Ci,some (j,b)⟩ (yielded ops a.tmps)=false:=by
  simp only [Region.wanted,yielded,ht,Option.bind_some,g.at_ t _ hl];rfl
 simp only [Gl.sem];unfold wpList;rw [hw];simp only [Bool.false_eq_true,if_false];exact h.h _ _ s (g.put hd)
theorem Dx {j t:Nat} {b:Bool} {od:Option Tmp} {p:Prop} {_:Decidable p} (ht:(ops[j]?).bind (·.dst)=some t) (hl:S8 fr t=some (.bool (decide p))) (h1:p→T c ((t,.bool true)::fr) H (.list k ops (⟨od,o,ty,pos,Ci,some (j,b)⟩::rest))) (h2:¬p→T c ((t,.bool false)::fr) H (.list k ops (⟨od,o,ty,pos,Ci,some (j,b)⟩::rest))) :
  T c fr H (.list k ops (⟨od,o,ty,pos,Ci,some (j,b)⟩::rest)):=.mk fun a w s g=>by
 by_cases hp:p
 ·rw [decide_eq_true hp] at hl;exact (h1 hp).h a w s ⟨g.df,g.sz,fun i z hz=>by rw [Wd] at hz;split at hz;(rename_i e;subst e;rw [←hz,g.at_ _ _ hl]);exact g.at_ i z hz⟩
 ·rw [decide_eq_false hp] at hl;exact (h2 hp).h a w s ⟨g.df,g.sz,fun i z hz=>by rw [Wd] at hz;split at hz;(rename_i e;subst e;rw [←hz,g.at_ _ _ hl]);exact g.at_ i z hz⟩
/-! memory -/
theorem Az4 {t:TypeId} {zs:List Value} {gd:Option (Nat × Bool)} [hZ:ZC c.P t zs] (h:∀g,T c ((d,Iq g 0 0)::fr) (.row g t 0 [] zs []::H) Φ) (hd:Nat.blt d c.n=true:=by rfl):Ef c fr H ⟨some d,.alloc t,ty,pos,Ci,gd⟩ Φ:=Qe fun Q a w s g=>by
 obtain ⟨z,hz,hzc⟩:=hZ.z;obtain ⟨i,hi,hiz⟩:=Option.map_eq_some_iff.1 hz;have e:(execOp a.eval ⟨some d,.alloc t,ty,pos,Ci,gd⟩).run c.P w=.ok (.value (Iq w.heap.size 0 0)) (w.alloc (.cells zs.toArray t)):=by
  simp [execOp,Instr.alloc,zeroValue,typeInfo,hi,hiz,newVar,newRow,hzc,Iq]
 rw [e];exact (h _).h _ _ (s.new t zs) (g.put hd)
theorem Bg9 {t:TypeId} {l:List Value} {gd:Option (Nat × Bool)} (hx:ev fr x=some v) (hv:v.cells=l.toArray) (h:∀g,T c ((d,Iq g 0 0)::fr) (.row g t 0 [] l []::H) Φ) (hd:Nat.blt d c.n=true:=by rfl):Ef c fr H ⟨some d,.box t x,ty,pos,Ci,gd⟩ Φ:=Qe fun Q a w s g=>by
 have e:(execOp a.eval ⟨some d,.box t x,ty,pos,Ci,gd⟩).run c.P w=.ok (.value (Iq w.heap.size 0 0)) (w.alloc (.cells l.toArray t)):=by
  simp [execOp,Instr.box,g.ev hx,newVar,newRow,hv,Iq]
 rw [e];exact (h _).h _ _ (s.new t l) (g.put hd)
theorem Ao3 {t g tt o' j m:Nat} {A cs B l r:List Value} {S:List Pc} {gd:Option (Nat × Bool)} (hs:(c.P.info? t).map (·.size)=some m) (hx:ev fr x=some (Iq g o' j)) (hy:ev fr y=some v) (hv:v.cells=l.toArray) (hl:l.length=m) (h1:l.all (·.oneCell')=true)
  (hp:Put cs j l r) (hr:Rpl H (.row g tt o' A cs B) (.row g tt o' A r B) S) (h:T c fr S Φ):Ef c fr H ⟨none,.store t x y,ty,pos,Ci,gd⟩ Φ:=Qe fun Q a w s ag=>by
 have hP:(Pc.row g tt o' A cs B).P w:=by obtain ⟨R,h1,_⟩:=hr.picks;exact s.on _ h1.mem
 have ht:w.there g (o'+j) m:=fun i hi=>by
  obtain ⟨X,z,Y,rfl, -,rfl,hz⟩:=hp.parts;have:=Ayb hP (X.length+i) FR
  rwa [←Nat.add_assoc] at this
 have e:(execOp a.eval ⟨none,.store t x y,ty,pos,Ci,gd⟩).run c.P w=.ok .skip (w.setCells g (o'+j) l):=by
  simp [execOp,ag.ev hx,ag.ev hy,Iq,Akl hs hv hl ht h1]
 rw [e];have ⟨h2,h3⟩:=Bfk hP hp;exact h.h _ _ (s.rpl hr rfl (fun b hb=>.inl hb) h3 h2) ag
theorem Cr {t:TypeId} {zs:List Value} [hZ:ZC c.P t zs] (hd:Nat.blt d c.n=true) (h:∀g,T c ((d,Iq g 0 0)::fr) (.row g t 0 [] zs []::H) Φ):On c fr H (some d) (.alloc t) ty Φ:=⟨fun _ _ _=>Az4 h hd⟩
theorem Bjg {t:TypeId} {l:List Value} (hd:Nat.blt d c.n=true) (hx:ev fr x=some v) (hv:v.cells=l.toArray) (h:∀g,T c ((d,Iq g 0 0)::fr) (.row g t 0 [] l []::H) Φ):On c fr H (some d) (.box t x) ty Φ:=⟨fun _ _ _=>Bg9 hx hv h hd⟩
theorem Axx {t g tt o' j m:Nat} {A cs B l r:List Value} {S:List Pc} (hx:ev fr x=some (Iq g o' j)) (hy:ev fr y=some v) (hv:v.cells=l.toArray) (hs:(c.P.info? t).map (·.size)=some m) (hl:l.length=m) (hr:Rpl H (.row g tt o' A cs B) (.row g tt o' A r B) S) (hp:Put cs j l r) (h1:l.all (·.oneCell')=true) (h:T c fr S Φ):On c fr H none (.store t x y) ty Φ :=
 ⟨fun _ _ _=>Ao3 hs hx hy hv hl h1 hp hr h⟩
/-! calls -/
theorem Bge {f:Nat} {aS:List Operand} {ts:Array TypeId} {vs:List Value} {gd:Option (Nat × Bool)} (h:Cl c fr H d f vs Φ) (ha:Evs fr aS vs) (hb:Si c.P f=true) (hd:Nat.blt d c.n=true):Ef c fr H ⟨some d,.call { callee:=.value (.func f),args:=aS.toArray,argTypes:=ts },ty,pos,Ci,gd⟩ Φ:=Qe fun Q a w s g=>by
 have e:(execOp a.eval ⟨some d,.call { callee:=.value (.func f),args:=aS.toArray,argTypes:=ts },ty,pos,Ci,gd⟩).run c.P w=(callFunc f vs.toArray).run c.P w:=by
  simp [execOp,resolve,Deferred.ofValue,Act.eval,invoke,g.evs ha]
 rw [e];obtain ⟨R,hc,hk⟩:=h.h w s;refine (Wx hb).upon hc fun e w' hR=>?_;obtain ⟨v,he,hv⟩:=hk e w' hR;exact ⟨v,he,hv _ (g.put hd)⟩
theorem Aaf {f:Nat} {vs:List Value} {R:World→Ending→World→Prop} (hc:∀w,St c.G c.D c.w0 H w→Calls c.P f vs.toArray w (R w))
  (hk:∀w e w',St c.G c.D c.w0 H w→R w e w'→∃v,e=.returned v∧∀a,Ag c.n ((d,v)::fr) a→Φ.sem c a w'):Cl c fr H d f vs Φ:=⟨fun w s=>⟨R w,hc w s,fun e w' hR=>hk w e w' s hR⟩⟩
theorem cb {f:Nat} {vs:List Value} (hc:∀w,St c.G c.D c.w0 H w→Calls c.P f vs.toArray w (RB v w)) (h:T c ((d,v)::fr) H Φ):Cl c fr H d f vs Φ :=
 Aaf hc fun w e w' s ⟨he,hB⟩=>⟨v,he,fun a g=>h.h a w' (s.below hB) g⟩
theorem ce {f:Nat} {vs:List Value} (hc:∀w,St c.G c.D c.w0 H w→Calls c.P f vs.toArray w fun e w'=>e=.returned v∧w=w') (h:T c ((d,v)::fr) H Φ):Cl c fr H d f vs Φ :=
 Aaf hc fun w e w' s ⟨he,hB⟩=>⟨v,he,fun a g=>h.h a w' (hB▸s) g⟩
theorem cf_ {f:Nat} {vs:List Value} {A M R:List Pc} {σ:Type} {C:σ→Prop} {vv:σ→Value} {N:σ→List Pc} (hf:Fn c.P f vs A M C vv N) (h:∀s,C s→T c ((d,vv s)::fr) (N s++R) Φ)
  (hM:Io H M R) (hA:Nn A R) (hmM:M.all (·.mu)=true) (hmA:A.all (fun p=>!p.mu)=true):Cl c fr H d f vs Φ :=
 have hMR:∀w,St c.G c.D c.w0 H w→St c.G c.D c.w0 (M++R) w:=fun w s=>by simpa using hM.st (X:=[]) HN
 have hmu:∀p∈M,p.mu=true:=fun p hp=>List.all_eq_true.1 hmM p hp;have hro:∀p∈A,p.mu=false:=fun p hp=>by simpa using List.all_eq_true.1 hmA p hp
 have hpre:∀w,St c.G c.D c.w0 H w→Om (M++A) w∧Tg (M++A):=fun w s=>by
  have s2:=hMR w s;have hAR:=hA.all;refine ⟨fun p hp=>?_,?_⟩
  ·rcases List.mem_append.1 hp with hp|hp
   ·exact s2.on p IC
   ·exact s2.on p (by simp [hAR p hp])
  ·have:∀(M:List Pc),Tg (M++R)→Tg (M++A):=by
    intro M
    induction M with
    | nil =>
     intro _;have:∀(A:List Pc),(∀p∈A,p.mu=false)→Tg A:=by
      intro A
      induction A with
      | nil=>intro _;trivial
      | cons p A ih=>intro h;exact ⟨fun q hq hm=>by rw [h p FK,h q GR] at hm;simp at hm,ih fun q hq=>h q GR⟩
     exact this A hro
    | cons p M ih =>
     intro hs;exact ⟨fun q hq=>hs.1 q (by rcases List.mem_append.1 hq with h|h;simp [h];simp [hAR q h]),ih hs.2⟩
   exact this M s2.sep
 Aaf (R:=fun w e w'=>∃s,C s∧e=.returned (vv s)∧Om (N s) w'∧Tg (N s)∧D6 (fp M) w w'∧∀p∈N s,∀b∈p.F,w.heap.size≤b∨(∃q∈M,b∈q.F)∨(p.mu=false∧∃q∈A,b∈q.F))
  (fun w s=>hf w (hpre w s).1 (hpre w s).2)
  (fun w e w' s ⟨z,hz,he,hN,hS,hK,hF⟩=>⟨_,he,fun a g=>(h z hz).h a w' (St.turn (hMR w s) (by rwa [List.filter_eq_self.2 hmu]) hN hS fun p hp b hb=>by
   rcases hF p hp b hb with h|⟨q,hq,hqb⟩|⟨hp,q,hq,hqb⟩
   ·exact .inl h
   ·exact .inr (.inl ⟨q,hq,hmu q hq,hqb⟩)
   ·exact .inr (.inr ⟨hp,q,by simp [hA.all q hq],hro q hq,hqb⟩)) g⟩)
theorem As9 {f:Nat} {aS:List Operand} {ts:Array TypeId} {vs:List Value} (hd:Nat.blt d c.n=true) (hb:Si c.P f=true) (ha:Evs fr aS vs) (h:Cl c fr H d f vs Φ):On c fr H (some d) (.call { callee:=.value (.func f),args:=aS.toArray,argTypes:=ts }) ty Φ:=⟨fun _ _ _=>Bge h ha hb hd⟩
/-! a function's beginning and end -/
end
def Amp (P:Program) (w:World) (A M:List Pc) {σ:Type} (C:σ→Prop) (v:σ→Value) (N:σ→List Pc) (e:Ending) (w':World):Prop:=∃s,C s∧e=.returned (v s)∧Om (N s) w'∧Tg (N s)∧D6 (fp M) w w' ∧
  ∀p∈N s,∀b∈p.F,w.heap.size≤b∨(∃q∈M,b∈q.F)∨(p.mu=false∧∃q∈A,b∈q.F)
def Aov:Nat→List Value→Fr
 | _,[]=>[]
 | i,v::r=>(i,v)::Aov (i+1) r
theorem Axn (vs:List Value):∀i t v,S8 (Aov i vs) t=some v→i≤t∧vs[t - i]?=some v:=by
 induction vs with
 | nil=>intro i t v h;cases h
 | cons x r ih =>
  intro i t v h;unfold Aov at h;rw [Wd] at h
  split at h
  ·rename_i e;subst e;exact ⟨Nat.le_refl _,GE⟩
  ·have ⟨h1,h2⟩:=ih (i+1) t v h;refine ⟨FJ,?_⟩;rw [show t - i=(t - (i+1))+1 by omega,List.getElem?_cons_succ];exact h2
theorem Bae {P:Program} {f:FuncId} {fn:Func} {cd:Code} {args:List Value} {A M:List Pc} {σ:Type} {C:σ→Prop} {v:σ→Value} {N:σ→List Pc} (hf:P.funcs[f]?=some fn) (hb:fn.body=some cd)
  (h:∀w,T ⟨P,fp M,fp A,w,fn.ntmps,bodyPost P fn (Amp P w A M C v N)⟩ (Aov 0 args) (M++A) (.code [] cd))
  (hn:args.length≤fn.ntmps) (hmA:A.all (fun p=>!p.mu)=true):Fn P f args A M C v N:=fun w hH hS=>by
 refine calls_of_wp hf hb ?_;have hro:∀p∈A,p.mu=false:=fun p hp=>by simpa using List.all_eq_true.1 hmA p hp
 refine (h w).h _ _ ⟨D6.refl _ _,hH,hS,fun p hp b hb=>?_⟩ ⟨rfl,FR,fun t u hu=>?_⟩
 ·rcases List.mem_append.1 hp with hp|hp
  ·exact .inl (Qz.2 ⟨p,hp,hb⟩)
  ·exact .inr (.inr ⟨hro p hp,Qz.2 ⟨p,hp,hb⟩⟩)
 ·obtain ⟨-,h2⟩:=Axn args 0 t u hu;simp only [Nat.sub_zero] at h2;show (args.toArray++Array.replicate (fn.ntmps - args.toArray.size) undef)[t]?=_;have ht:t < args.length:=(List.getElem?_eq_some_iff.1 h2).1;rw [Array.getElem?_append_left (by simpa using ht)];simpa using h2
inductive Res (P:Program) (fr:Fr) (H:List Pc):List ResultVar→List Value→Prop
 | nil:Res P fr H [] []
 | tmp {t v r vs}:S8 fr t=some v→Res P fr H r vs→Res P fr H (.tmp t::r) (v::vs)
 | agg {t ty m g o tt A cs B r vs}:AggC P ty m→S8 fr t=some (Iq g o 0)→Pc.row g tt o A cs B∈H→cs.length=m→Res P fr H r vs→Res P fr H (.cell t ty::r) (.agg cs.toArray::vs)
 | one {t ty g o tt A v B r vs}:OneC P ty→S8 fr t=some (Iq g o 0)→Pc.row g tt o A [v] B∈H→Res P fr H r vs→Res P fr H (.cell t ty::r) (v::vs)
theorem Cut.whole:∀(l:List Value),Cut l 0 l.length l
 | []=>.zero
 | _::r=>.one (Cut.whole r)
theorem Ag9 (x:Addr):asAddr (.pointer (some x))=pure x:=rfl
theorem Bfi {P:Program} {fr:Fr} {H:List Pc} {n:Nat} {rs vs} (f:ResultVar→Sem Value) {a:Act} (f1:∀t,f (.tmp t)=pure (a.tmps.getD t undef)) (f2:∀p t,f (.cell p t)=do loadVar t (←asAddr (a.tmps.getD p undef)))
  (h:Res P fr H rs vs) {w:World} (g:Ag n fr a) (hH:Om H w):(rs.mapM f).run P w=.ok vs w:=by
 simp only [Array.getD_eq_getD_getElem?] at f1 f2
 induction h with
 | nil=>simp
 | tmp hl _ ih=>simp [List.mapM_cons,f1,g.at_ _ _ hl,ih]
 | @agg t ty m gg o tt A cs B r vs hT hl hm hc _ ih =>
  have h1:=Aia (hT:=hT) (j:=0) (I0 (hH _ hm)) (by rw [←hc];exact Cut.whole cs);exact DP
 | @one t ty gg o tt A v B r vs hT hl hm _ ih =>
  have h1:=Aib (hT:=hT) (Ac0 (j:=0) (hH _ hm) rfl);exact DP
def Ux:List Value→Value
 | [v]=>v
 | vs=>.tuple vs.toArray
theorem Aqx {P:Program} {fr:Fr} {H:List Pc} {n:Nat} {fn:Func} {rs vs} (hr:fn.results=rs.toArray) (h:Res P fr H rs vs) {a:Act} {w:World} (g:Ag n fr a) (hH:Om H w):(results fn a.tmps).run P w=.ok (Ux vs) w:=by
 unfold results;rw [hr];simp only [Sem.run_bind,Array.mapM_eq_mapM_toList];have:∀(f:ResultVar→Sem Value),(rs.mapM f).run P w=.ok vs w→((List.toArray <$> rs.mapM f:Sem (Array Value))).run P w=.ok vs.toArray w:=fun f hf=>by
  simp [hf]
 refine (congrArg (fun x=>Result.andThen x _) (this _ (Bfi _ ?_ ?_ h g hH))).trans ?_
 ·intro t;rfl
 ·intro p t;rfl
 simp only [Result.andThen_ok,Sem.run_pure]
 congr 1
 match vs with
 | []=>rfl
 | [v]=>rfl
 | v::u::r=>simp [Ux]
theorem Bhe {P:Program} {fn:Func} {G D:List Nat} {w0:World} {n:Nat} {A M:List Pc} {σ:Type} {C:σ→Prop} {v:σ→Value} {N:σ→List Pc} {fr:Fr} {H:List Pc} {rs:List ResultVar} {vs:List Value} (s:σ) (hC:C s)
  (hr:fn.results=rs.toArray) (h:Res P fr H rs vs) (hv:Ux vs=v s) (hN:Mc H (N s)) (hG:G=fp M) (hD:D=fp A):T ⟨P,G,D,w0,n,bodyPost P fn (Amp P w0 A M C v N)⟩ fr H (.fin .ret):=.mk fun a w st g=>by
 subst hG hD;refine ⟨g.df,_,Aqx hr h g st.on,s,hC,by rw [hv],?_⟩;have s2:=st.sub hN;refine ⟨s2.on,s2.sep,s2.Jd,fun p hp b hb=>?_⟩;rcases s2.Aeh p hp b hb with h|h|⟨h1,h⟩
 ·exact .inr (.inl (Qz.1 h))
 ·exact .inl h
 ·exact .inr (.inr ⟨h1,Qz.1 h⟩)
theorem Sl.dropS {P:Program} {α:Type} {E:Br α} {w:World} {a:Option Addr} {n cap:Nat} {xs:List α} {F} (h:Sl E w (.slice a n cap) xs F) (t:TypeId) (ht:P.underlying t=some (.slice (P.elem t))) (k:Nat) (hk:k≤xs.length)
  (hs:∀W,(sizeOf (P.elem t)).run P W=.ok E.sz W):∃a2 c2 F',(∀W,(Instr.sliceAt t (.slice a n cap) (some (.int .i64 (k:Int))) none none).run P W=.ok (.slice a2 (xs.length - k) c2) W)∧(∀b∈F',b∈F)∧Sl E w (.slice a2 (xs.length - k) c2) (xs.drop k) F':=by
 obtain ⟨a',cap',hv,hl,h⟩:=h;cases hv;have hrun:∀W,(Instr.sliceAt t (.slice a xs.length cap) (some (.int .i64 (k:Int))) none none).run P W=.ok (.slice (if cap=k then a else a.map (·.add (k * E.sz))) (xs.length - k) (cap - k)) W:=fun W=>by
  rw [run_sliceAt_slice (h:=ht),run_slice_l (ht:=ht) (h0:=FJ) (h1:=FJ),hs];simp [Result.andThen,sliced]
 refine ⟨if cap=k then a else a.map (·.add (k * E.sz)),cap - k,?_⟩;rcases h with ⟨rfl,rfl,h0⟩|⟨b,off,F',rfl,hne,rfl,hc⟩
 ·refine ⟨[],hrun,FK,if cap=k then a else a.map (·.add (k * E.sz)),cap - k,FK,⟨FK,FJ⟩,.inl ⟨FK,rfl,fun e=>?_⟩⟩;cases a with
  | none=>rw [h0 rfl];simp
  | some ad=>split at e <;> simp at e
 ·by_cases hkn:k=xs.length
  ·subst hkn;refine ⟨[],hrun,FK,if cap=xs.length then some ⟨b,off,none⟩ else (some (⟨b,off,none⟩:Addr)).map (·.add (xs.length * E.sz)),cap - xs.length,FK,⟨FK,FJ⟩,.inl ⟨FK,rfl,fun e=>?_⟩⟩
   split at e <;> simp at e
  ·obtain ⟨cs,hf,hcs⟩:=hc.flat;have e:xs=xs.take k++xs.drop k:=FK
   rw [e] at hf;obtain ⟨c1,c2,G1,G2,rfl,rfl,h1,h2⟩:=hf.split;have hl1:=h1.len;have hck:¬cap=k:=FJ
   rw [List.length_take,Nat.min_eq_left FJ] at hl1;refine ⟨b::G2,hrun,by intro x hx;simp at hx ⊢;rcases hx with hx|hx <;> simp [hx],some ⟨b,off+k * E.sz,none⟩,cap - k,?_,⟨FR,FJ⟩,.inr ⟨b,off+k * E.sz,G2,rfl,fun e=>?_,rfl,h2.cells fun j u hu=>?_⟩⟩
   ·rw [if_neg hck];simp only [Option.map_some,Addr.add,List.length_drop,Value.slice.injEq,Option.some.injEq,and_true,true_and];by_cases h0:k * E.sz=0 <;> simp [h0]
   ·have:=congrArg List.length e;simp at this;omega
   ·have:=hcs (c1.length+j) u JG;rw [←this,hl1];congr 2;omega
theorem A9 {p:Pc} {H:List Pc} (h:p∈H:=by (repeat (first|exact .head _|apply List.Mem.tail));first|done|fail):p∈H:=h
theorem Bg4 {l:List Value} {j m:Nat} {r:List Value} (h:Cut l j m r:=by repeat constructor):Cut l j m r:=h
theorem Be9 {l r s:List Value} {j:Nat} (h:Put l j r s:=by first|exact .one .zero|repeat constructor):Put l j r s:=h
theorem X8 {fr:Fr} {aS:List Operand} {vs:List Value} (h:Evs fr aS vs:=by repeat (first|exact Evs.nil|apply Evs.cons GG)):Evs fr aS vs:=h
theorem Aki {H S:List Pc} {p q:Pc} (h:Rpl H p q S:=by (repeat (first|exact .here|apply Rpl.there));first|done|fail):Rpl H p q S:=h
theorem De {H R:List Pc} {p:Pc} (h:Co H p R:=by (repeat (first|exact .here|apply Co.there));first|done|fail):Co H p R:=h
theorem Abo {H M R:List Pc} (h:Io H M R:=by repeat (first|exact Io.nil|apply Io.cons (by exact De))):Io H M R:=h
theorem hsE {A H:List Pc} (h:Mc A H:=by repeat (first|exact Mc.nil|refine Mc.cons (by exact De) ?_)):Mc A H:=h
theorem frE {a b:Fr} (h:Mb a b:=by repeat (first|exact Mb.nil|refine Mb.cons GG ?_)):Mb a b:=h
theorem Awh (l:List Value):∀(k off:Nat) (A o B:List Value),A.length=off+k→o.length=l.length→(l.zipIdx k).foldl (fun (cs:Array Value) (x:Value × Nat)=>cs.setIfInBounds (off+x.2) x.1) (A++o++B).toArray=(A++l++B).toArray:=by
 induction l with
 | nil=>intro k off A o B _ ho;simp at ho;subst ho;simp
 | cons u r ih =>
  intro k off A o B hA ho;cases o with
  | nil=>simp at ho
  | cons z o =>
   rw [List.zipIdx_cons,List.foldl_cons];have h4:(A++(z::o)++B).toArray.setIfInBounds (off+k) u=((A++[u])++o++B).toArray:=by
    rw [←hA];simp [List.set_append]
   show List.foldl _ ((A++(z::o)++B).toArray.setIfInBounds (off+k) u) _=_;rw [h4,ih (k+1) off (A++[u]) o B FR (by simpa using ho)];simp
inductive Fil (pl:Nat→Option (Nat × Nat)) (fr:Fr):List Value→List (Nat × Operand)→List Value→Prop
 | nil {cs}:Fil pl fr cs [] cs
 | cons {cs i x ps v l off r q}:ev fr x=some v→v.cells=l.toArray→pl i=some (off,l.length)→Put cs off l r→Fil pl fr r ps q→Fil pl fr cs ((i,x)::ps) q
theorem Fil.run {pl:Nat→Option (Nat × Nat)} {fr:Fr} {n:Nat} {cs q:List Value} {ps:List (Nat × Operand)} (h:Fil pl fr cs ps q) {a:Act} (g:Ag n fr a):Instr.fill pl cs.toArray (ps.map fun (i,x)=>(i,a.eval x))=some q.toArray:=by
 induction h with
 | nil=>rfl
 | @cons cs i x ps v l off r q hx hv hp hput _ ih =>
  obtain ⟨A,o,B,rfl,rfl,rfl,ho⟩:=hput.parts;rw [List.map_cons];unfold Instr.fill;simp only [hp,g.ev hx,hv];have h1:¬((l.toArray.size≠l.length)∨(A.length+l.toArray.size > (A++o++B).toArray.size)):=FR
  rw [if_neg IS];have h2:l.toArray.zipIdx.foldl (fun (cs:Array Value) (x:Value × Nat)=>cs.setIfInBounds (A.length+x.2) x.1) (A++o++B).toArray=(A++l++B).toArray:=by
   rw [←Array.foldl_toList];have:=Awh l 0 A.length A o B rfl ho;exact EN
  rw [h2];exact ih
theorem La {pl:Nat→Option (Nat × Nat)} {fr:Fr} {cs q:List Value} {ps:List (Nat × Operand)} (h:Fil pl fr cs ps q:=by repeat (first|exact Fil.nil|apply Fil.cons GG GG GG (by repeat constructor))):Fil pl fr cs ps q:=h
theorem Bjr {P:Program} {n:Nat} {fr:Fr} {H:List Pc} {ty:TypeId} {t:Nat} {pl:List (Nat × Nat)} {zs q:List Value} {ps:List (Nat × Operand)} [hB:BldC P t pl zs] (hf:Fil (pl.toArray[·]?) fr zs ps q):Yd P n fr H (.build t ps.toArray) ty (.agg q.toArray):=.mk fun a w d pos Ci gd g _=>by
 have h3:=hf.run g;have h4:=run_build (P:=P) w t (ps.map fun (i,x)=>(i,a.eval x)).toArray q.toArray (by rw [hB.b];exact h3);simp only [List.map_toArray] at h4;simp [execOp,h4]
theorem ydE {P:Program} {n:Nat} {fr:Fr} {H:List Pc} {o:Op} {ty:TypeId} {v:Value} (h:Yd P n fr H o ty v:=by first|(apply Bf6;rfl)|(apply Ay0;rfl)|(apply Bip;rfl)|(apply Bju;rfl)|(apply Bjz;rfl;exact A9;rfl)|(apply Big;rfl;exact A9;rfl)|(apply Bdk;rfl;exact A9;exact Bg4)|(apply Adj;rfl;exact A9;exact Bg4)|(apply Ay2;rfl;rfl)|(apply Ay1;rfl;rfl)|(apply Bih;rfl)|(apply Bf5;rfl)|(apply Bjt;rfl;rfl)|(apply Bid;rfl;rfl)|(apply Bf4;rfl;exact Bg4)|(apply Bj2;rfl;rfl)|(apply Bj0;rfl;rfl)|(apply Bjx;rfl;rfl)|(apply Bjw;rfl;rfl)|(apply Bjs;rfl;rfl)|(apply Bj3;rfl;rfl)|(apply Bia;rfl;rfl;omega;omega)|(apply Biv;rfl;rfl;omega;omega)|(apply Bic;rfl;rfl)|(apply Bio;rfl;rfl)|(apply Of;rfl;rfl;omega)|(apply Bf8;rfl)|(apply Biq;rfl)|(apply Bim;rfl;omega;omega)|(apply Bjy;rfl;rfl;omega;omega)|(apply Bif;rfl;rfl;omega;omega)|(apply Bir;rfl;rfl;omega;omega;omega)|(apply Bis;rfl;rfl;omega;omega)|(apply Bik;rfl;rfl;omega;omega)|(apply Arv;rfl;omega;omega)|(apply Bib;rfl;rfl)|(apply Bil;rfl;rfl)|(apply Bjv;exact X8)|(apply Bf7;rfl)|(apply Bij;rfl;rfl)|(apply Bii;rfl;rfl)|(apply Bjr;exact La)):Yd P n fr H o ty v:=h
section
variable {c:Cx} {fr:Fr} {H:List Pc} {k:List It} {Φ:Gl} {ops:Array Oper} {rest:List Oper} {d:Nat} {o:Op} {ty:TypeId} {pos:String} {Ci:Array Edge} {v u:Value} {x y:Operand}
theorem st {t g tt o' j m:Nat} {A cs B l r:List Value} {S:List Pc} {gd:Option (Nat × Bool)} (h:T c fr S Φ) (hx:ev fr x=some (Iq g o' j):=by rfl) (hy:ev fr y=some v:=by rfl) (hv:v.cells=l.toArray:=by rfl) (hs:(c.P.info? t).map (·.size)=some m:=by first|exact AggC.s|exact OneC.s) (hl:l.length=m:=by rfl)
  (hr:Rpl H (.row g tt o' A cs B) (.row g tt o' A r B) S:=by (repeat (first|exact .here|apply Rpl.there));first|done|fail) (hp:Put cs j l r:=by first|exact .one .zero|repeat constructor) (h1:l.all (·.oneCell')=true:=by rfl):Ef c fr H ⟨none,.store t x y,ty,pos,Ci,gd⟩ Φ:=Ao3 hs hx hy hv hl h1 hp hr h
theorem ca {f:Nat} {aS:List Operand} {ts:Array TypeId} {vs:List Value} {gd:Option (Nat × Bool)} (h:Cl c fr H d f vs Φ) (ha:Evs fr aS vs:=by repeat (first|exact Evs.nil|apply Evs.cons GG)) (hb:Si c.P f=true:=by kernel_rfl) (hd:Nat.blt d c.n=true:=by rfl):Ef c fr H ⟨some d,.call { callee:=.value (.func f),args:=aS.toArray,argTypes:=ts },ty,pos,Ci,gd⟩ Φ:=Bge h ha hb hd
theorem cf {f:Nat} {vs:List Value} {A M R:List Pc} {σ:Type} {C:σ→Prop} {vv:σ→Value} {N:σ→List Pc} (hf:Fn c.P f vs A M C vv N) (h:∀s,C s→T c ((d,vv s)::fr) (N s++R) Φ)
  (hM:Io H M R:=by repeat (first|exact Io.nil|apply Io.cons (by exact De))) (hA:Nn A R:=by repeat (first|exact Nn.nil|refine Nn.cons FO ?_)) (hmM:M.all (·.mu)=true:=by rfl) (hmA:A.all (fun p=>!p.mu)=true:=by rfl):Cl c fr H d f vs Φ:=cf_ hf h hM hA hmM hmA
inductive Aoe:List Pc→List Pc→List Pc→Prop
 | nil {R}:Aoe [] R R
 | cons {p N R X}:Aoe N R X→Aoe (p::N) R (p::X)
theorem Aoe.eq {N R X} (h:Aoe N R X):N++R=X:=by
 induction h with
 | nil=>rfl
 | cons _ ih=>simp [ih]
theorem O1 {N R X:List Pc} (h:T c fr X Φ) (hX:Aoe N R X:=by repeat constructor):T c fr (N++R) Φ:=by rw [hX.eq];exact h
theorem St.ro {G D w0 w} {p q:Pc} (s:St G D w0 H w) (hq:q∈H) (hm:q.mu=false) (hpm:p.mu=false) (hp:p.P w) (hF:∀b∈p.F,b∈q.F):St G D w0 (p::H) w :=
 s.add (N:=[p]) (Below.refl _ _) (by intro x hx;simp at hx;subst hx;exact hp) ⟨FK,trivial⟩ (by intro x hx b hb;simp at hx;subst hx;exact .inr ⟨hpm,q,hq,hm,hF b hb⟩)
theorem St.conv {G D w0 w} {p q:Pc} {S:List Pc} (s:St G D w0 (p::S) w) (hm:p.mu=true) (hq:q.P w) (hF:∀b∈q.F,b∈p.F):St G D w0 (q::S) w :=
 St.turn (M:=[p]) (N:=[q]) s (D6.refl _ w) (by intro x hx;simp at hx;subst hx;exact hq) ⟨FK,trivial⟩ (by intro x hx b hb;simp at hx;subst hx;exact .inr (.inl ⟨p,FK,hm,hF b hb⟩))
/-! elements, parts of slices that read -/
theorem Y9 {α:Type} {E:Br α} {w:World} {a:Option Addr} {n cp:Nat} {xs:List α} {F:List Nat} (h:(Pc.sl E (.slice a n cp) xs F).P w) (i:Nat) (hi:i < xs.length) :
  ∃b o cs G,a=some ⟨b,o,none⟩∧E.Ky w cs xs[i] G∧(∀x∈G,x∈F)∧b∈F∧cs≠[]∧w.rangeAt b (o+i * E.sz) cs:=by
 obtain ⟨hz,a',cap,hv,hl,h|⟨b,o,F',rfl,hne,rfl,hc⟩⟩:=h
 ·rw [h.1] at hi;simp at hi
 ·simp only [Value.slice.injEq] at hv;obtain ⟨rfl, -, -⟩:=hv;obtain ⟨cs,F1,h1,h2,h3⟩:=hc.get i hi;have hl:=E.len h1;refine ⟨b,o,cs,F1,rfl,h1,fun x hx=>by simp [h3 x hx],FK,fun e=>by subst e;simp at hl;omega,fun j u hu=>?_⟩;have hj:j < E.sz:=by have:=(List.getElem?_eq_some_iff.1 hu).1;omega
  rw [h2 j hj];exact hu
theorem I5 {a:Option Addr} {n cp:Nat} {xs:List Int} {F:List Nat} (i:Nat) (h:∀(hi:i < xs.length) b o,a=some ⟨b,o,none⟩→T c fr (.cel b (o+i * 1) [.int .i64 xs[i]]::H) Φ) (hm:.sl Bb (.slice a n cp) xs F∈H:=by exact A9) (hi:i < xs.length:=by omega):T c fr H Φ:=.mk fun ac w s g=>by
 obtain ⟨b,o,cs,G,ha,⟨rfl,rfl⟩, -,hb,hne,hr⟩:=Y9 (s.get hm) i hi;exact (h hi b o ha).h ac w (s.ro hm rfl rfl ⟨hne,hr⟩ HD) g
theorem Nq {a:Option Addr} {n cp:Nat} {xs:List ByteArray} {F:List Nat} (i:Nat) (h:∀(hi:i < xs.length) b o,a=some ⟨b,o,none⟩→xs[i].size≤maxLen→T c fr (.cel b (o+i * 1) [.string xs[i]]::H) Φ) (hm:.sl A8 (.slice a n cp) xs F∈H:=by exact A9) (hi:i < xs.length:=by omega):T c fr H Φ:=.mk fun ac w s g=>by
 obtain ⟨b,o,cs,G,ha,⟨rfl,hs,rfl⟩, -,hb,hne,hr⟩:=Y9 (s.get hm) i hi;exact (h hi b o ha hs).h ac w (s.ro hm rfl rfl ⟨hne,hr⟩ HD) g
theorem A4 {α:Type} {E:Br α} {t:TypeId} {v:Value} {xs:List α} {F:List Nat} {S:List Pc} (h:∀F',T c fr (.sl E v xs F'::S) Φ) (hp:Co H (.ow E t v xs F) S:=by exact De) (hz:0 < E.sz:=by decide):T c fr H Φ:=.mk fun a w s g=>by
 have s1:=s.pick hp;obtain ⟨-,ho⟩:=s1.on (.ow E t v xs F) FK;obtain ⟨F',hF,hs⟩:=ho.read;exact (h F').h a w (s1.conv rfl ⟨hz,hs⟩ hF) g
theorem Ow.takeO {α:Type} {E:Br α} {t:TypeId} {w:World} {a:Option Addr} {n cp:Nat} {xs:List α} {F:List Nat} (h:Ow E t w (.slice a n cp) xs F) (k:Nat) (hk:k≤xs.length):∃F',F'.Sublist F∧Ow E t w (.slice a k cp) (xs.take k) F':=by
 rcases h with ⟨h1,rfl,rfl⟩|⟨g,cap,cs,rest,G,h1,h2,h3,h4,h5,h6,rfl⟩
 ·cases h1;have:k=0:=by simpa using hk
  subst this;exact ⟨[],.slnil,.inl ⟨rfl,rfl,rfl⟩⟩
 ·cases h1;rw [←List.take_append_drop k xs] at h6;obtain ⟨c1,c2,G1,G2,rfl,rfl,f1,f2⟩:=h6.split;have hl:(xs.take k).length=k:=by simp [Nat.min_eq_left hk]
  refine ⟨g::G1,(List.sublist_append_left G1 G2).cons_cons g,.inr ⟨g,cp,c1,c2++rest,G1,by rw [hl],by rw [←List.append_assoc];exact h2,FJ,h4,by simp only [List.length_append] at h5 ⊢;omega,f1,rfl⟩⟩
theorem An4 {α:Type} {E:Br α} {t:TypeId} {a:Option Addr} {n cp:Nat} {xs:List α} {F:List Nat} {S:List Pc} (k:Nat) (h:∀F',T c fr (.ow E t (.slice a k cp) (xs.take k) F'::S) Φ) (hk:k≤xs.length:=by omega) (hp:Co H (.ow E t (.slice a n cp) xs F) S:=by exact De):T c fr H Φ:=.mk fun ac w s g=>by
 have s1:=s.pick hp;obtain ⟨hn,ho⟩:=s1.on (.ow E t (.slice a n cp) xs F) FK;obtain ⟨F',hF,hs⟩:=ho.takeO k hk;exact (h F').h ac w (s1.conv rfl ⟨hn.sublist hF,hs⟩ hF.subset) g
theorem Bco {α:Type} {E:Br α} {t:TypeId} {a:Option Addr} {n cp:Nat} {xs:List α} {F:List Nat} (h:n≤cp→cp≤9223372036854775807→T c fr H Φ) (hm:.ow E t (.slice a n cp) xs F∈H:=by exact A9):T c fr H Φ:=.mk fun ac w s g=>by
 obtain ⟨-,h'|⟨g',cap,cs,rest,G,h1,h2,h3,h4, -⟩⟩:=s.get hm
 ·obtain ⟨h1,h2, -⟩:=h';cases h1;exact (h FK FM).h ac w s g
 ·cases h1;exact (h h3 (by unfold maxLen at h4;omega)).h ac w s g
theorem Dj {α:Type} (E:Br α) (t:TypeId) (h:T c fr (.ow E t (.slice none 0 0) [] []::H) Φ):T c fr H Φ:=.mk fun a w s g =>
 h.h a w (s.add (N:=[.ow E t (.slice none 0 0) [] []]) (Below.refl _ _) (by intro p hp;simp at hp;subst hp;exact ⟨FK,.inl ⟨rfl,rfl,rfl⟩⟩) ⟨FK,trivial⟩ (by intro p hp b hb;simp at hp;subst hp;simp [Pc.F] at hb)) g
theorem Cz {α:Type} (E:Br α) (hz:0 < E.sz) (h:T c fr (.sl E (.slice none 0 0) [] []::H) Φ):T c fr H Φ:=.mk fun a w s g =>
 h.h a w (s.add (N:=[.sl E (.slice none 0 0) [] []]) (Below.refl _ _) (by intro p hp;simp at hp;subst hp;exact ⟨hz,none,0,rfl,⟨Nat.le_refl _,GC⟩,.inl ⟨rfl,rfl,fun _=>rfl⟩⟩) ⟨FK,trivial⟩ (by intro p hp b hb;simp at hp;subst hp;simp [Pc.F] at hb)) g
theorem Dc {α:Type} (E:Br α) {t g:Nat} {S:List Pc} (h:T c fr (.ow E t (.slice (some ⟨g,0,none⟩) 0 0) [] [g]::S) Φ) (hp:Co H (.row g t 0 [] [] []) S:=by exact De):T c fr H Φ:=.mk fun a w s ag=>by
 have s1:=s.pick hp;obtain ⟨-,hr⟩:=s1.on (.row g t 0 [] [] []) FK;exact h.h a w (s1.conv rfl ⟨FK,Ow.empty HH⟩ (fun b hb=>hb)) ag
theorem bs0 {t e m:Nat} {gd:Option (Nat × Bool)} [hS:SlC c.P t e m] (h:∀g,T c ((d,.slice (some ⟨g,0,none⟩) 0 0)::fr) (.row g e 0 [] [] []::H) Φ) (hd:Nat.blt d c.n=true:=by rfl):Ef c fr H ⟨some d,.buildSlice t 0 #[],ty,pos,Ci,gd⟩ Φ:=Qe fun Q a w s g=>by
 have e1:(execOp a.eval ⟨some d,.buildSlice t 0 #[],ty,pos,Ci,gd⟩).run c.P w=.ok (.value (.slice (some ⟨w.heap.size,0,none⟩) 0 0)) (w.alloc (.cells #[] e)):=by
  simp [execOp,Instr.buildSlice,run_underlying hS.u,Nv hS.s,Instr.fill,newRow,Array.range_zero']
 rw [e1];exact (h _).h _ _ (s.new e []) (g.put hd)
inductive Avp:List Value→List Value→List Value→Prop
 | nil {r}:Avp [] r r
 | cons {u l r q}:Avp l r q→Avp (u::l) r (u::q)
theorem Avp.eq {l r q} (h:Avp l r q):l++r=q:=by
 induction h with
 | nil=>rfl
 | cons _ ih=>simp [ih]
inductive Rpt (zs:List Value):Nat→List Value→Prop
 | zero:Rpt zs 0 []
 | succ {n r q}:Rpt zs n r→Avp zs r q→Rpt zs (n+1) q
theorem Rpt.eq {zs:List Value} {n q} (h:Rpt zs n q):q=(List.replicate n zs).flatten:=by
 induction h with
 | zero=>rfl
 | succ _ h2 ih=>rw [←h2.eq,ih,List.replicate_succ,List.flatten_cons]
theorem bs {t e m b len:Nat} {z:Value} {zs cs q:List Value} {ps:List (Nat × Operand)} {gd:Option (Nat × Bool)} [hS:SlC c.P t e m] [hE:ElT c.P e z m b] [hZ:ZC c.P e zs] (h:∀g,T c ((d,.slice (some ⟨g,0,none⟩) len len)::fr) (.row g e 0 [] q []::H) Φ)
  (hc:Rpt zs len cs:=by repeat constructor) (hf:Fil (fun i=>some (i * m,m)) fr cs ps q:=by repeat (first|exact Fil.nil|apply Fil.cons GG GG GG (by repeat constructor))) (hl:Nat.ble (len * m) 1000=true:=by rfl) (hm:Nat.blt 0 m=true:=by rfl) (hlen:Nat.blt 0 len=true:=by rfl) (hd:Nat.blt d c.n=true:=by rfl) :
  Ef c fr H ⟨some d,.buildSlice t len ps.toArray,ty,pos,Ci,gd⟩ Φ:=Qe fun Q a w s g=>by
 have hm0:m≠0:=by have:0 < m:=by simpa using hm
                  omega
 have hlen0:len≠0:=by have:0 < len:=by simpa using hlen
                      omega
 have hl2:len * m≤1000:=HP
 obtain ⟨i,hi,hz⟩:=Option.map_eq_some_iff.1 hE.i;simp only [Prod.mk.injEq] at hz;obtain ⟨hz,hs, -⟩:=hz;obtain ⟨z',hz',hzc⟩:=hZ.z;obtain rfl:z'=z:=by rw [hi] at hz';simp [hz] at hz';exact hz'.symm
 have hzl:zs.length=m:=by have:=hE.s;rw [hzc] at this;simpa using this
 have e2:((Array.range (len * m)).map (zs.toArray[· % zs.toArray.size]!))=cs.toArray:=by
  have:=Oy zs.toArray len;rw [hc.eq];apply Array.ext';rw [show zs.toArray.size=m from by simp [hzl]] at this;simpa [madeCells] using this
 have e1:(execOp a.eval ⟨some d,.buildSlice t len ps.toArray,ty,pos,Ci,gd⟩).run c.P w=.ok (.value (.slice (some ⟨w.heap.size,0,none⟩) len len)) (w.alloc (.cells q.toArray e)):=by
  have h3:=hf.run g;have hne:¬(len * m=0):=Nat.mul_ne_zero hlen0 hm0;have hns:¬(len * m > 2 ^ 24):=FJ
  have hzv:(zeroValue e).run c.P w=.ok z' w:=by simp [zeroValue,typeInfo,hi,hz]
  simp only [execOp,Instr.buildSlice,Sem.run_bind,run_underlying hS.u,Nv hS.s,Result.andThen_ok,if_neg hns,if_neg hne,hzv,hzc,Sem.run_pure,Sem.run_ite,e2];simp only [List.map_toArray,h3,newRow,Sem.run_bind,run_newObj_alloc,Result.andThen_ok,Sem.run_pure]
 rw [e1];exact (h _).h _ _ (s.new e q) (g.put hd)
theorem Mx {t e m:Nat} [SlC c.P t e m] (hd:Nat.blt d c.n=true) (h:∀g,T c ((d,.slice (some ⟨g,0,none⟩) 0 0)::fr) (.row g e 0 [] [] []::H) Φ):On c fr H (some d) (.buildSlice t 0 #[]) ty Φ:=⟨fun _ _ _=>bs0 h hd⟩
theorem Lr {zs:List Value} {n:Nat} {q:List Value} (h:Rpt zs n q:=by repeat constructor):Rpt zs n q:=h
theorem Lx {t e m b len:Nat} {z:Value} {zs cs q:List Value} {ps:List (Nat × Operand)} [SlC c.P t e m] [ElT c.P e z m b] [ZC c.P e zs] (hd:Nat.blt d c.n=true) (hlen:Nat.blt 0 len=true) (hm:Nat.blt 0 m=true) (hl:Nat.ble (len * m) 1000=true) (hc:Rpt zs len cs) (hf:Fil (fun i=>some (i * m,m)) fr cs ps q) (h:∀g,T c ((d,.slice (some ⟨g,0,none⟩) len len)::fr) (.row g e 0 [] q []::H) Φ) :
  On c fr H (some d) (.buildSlice t len ps.toArray) ty Φ:=⟨fun _ _ _=>bs h hc hf hl hm hlen hd⟩
end
end Go.Proofs.YtkblpelckhegbaaGreatDoor
