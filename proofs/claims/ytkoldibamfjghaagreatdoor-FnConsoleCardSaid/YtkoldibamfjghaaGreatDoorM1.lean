/- Part 1 of the proof: 26 texts, one behind the other. -/
import Derived.WalkKit
import Derived.Lib.Hide
import Derived.ProofKit
import Derived.OpenShut
import Derived.Deep.Draws
import Derived.Deep.AppendLies
import Derived.OwnWalk
import Derived.Deep.RegionHeld
import Derived.Deep.MidRow
import Derived.IntWalk
import Derived.Laws.Strings
import Derived.Lib.SliceRun
import Derived.Test.YtkoldibamfjghaaGreatDoorProg
import Derived.Test.YtkoldibamfjghaaGreatDoorRows
import Derived.WalkSpells
import Derived.WalkLawsBesides
import Derived.Deep.QuietTactic
import Derived.BigQuiet
import Derived.Deep.RegionHeld3
import Derived.Deep.OwnRows
import Derived.Laws.StructEq
open _root_.Go.Proofs.Tryz
set_option maxRecDepth 100000
set_option maxHeartbeats 8000000
set_option linter.all false
set_option linter.unusedVariables false
set_option linter.unusedSimpArgs false
namespace Go.Proofs.YtkoldibamfjghaaGreatDoor
theorem BK{p:Prop}(h:p:=by simp only [execOp,cL,bV,hA.ev hx,hA.ev hy,Sem.run_bind,h3,Result.andThen_ok,Sem.run_pure]):p:=h
theorem DR{p:Prop}(h:p:=by exact ⟨rfl,rfl⟩):p:=h
theorem DT{p:Prop}(h:p:=by refine Ez.start (S:=Od H0) (X:=fun i=>X.contains i) hm ?_;have:=h.h a w.drew (s.below (E4 (Below.refl _ _) 1)) g;simpa [Gl.sem] using this):p:=h
theorem DW{p:Prop}(h:p:=by simp only [Instr.loadAt,Instr.sureAddr,Sem.run_bind,Sem.run_pure,Result.andThen_ok,bN] at h1;simp [fU,f2,g.at_ _ _ hl,Gc,Afk,h1,ih]):p:=h
theorem DY{p:Prop}(h:p:=by simp only [execOp,hA.ev hx,hA.ev hy,eqGuard_at_bool,e,Sem.run_bind,Sem.run_pure,Result.andThen_ok,Afw];cases a <;> cases b <;> rfl):p:=h
theorem EG{p:Prop}(h:p:=by exact ⟨⟨k+1,by omega,by go_num,by refine Lib.hid ?_;rw [hz.out];rw [Ae5] at h2;simp [Pu,h1,h2]⟩,by simp [intOf];omega⟩):p:=h
theorem EI{p:Prop}(h:p:=by subst hji;exact hy.wpOp hi hS ⟨fun _=>hS,H⟩):p:=h
theorem ET{p:Prop}(h:p:=by simpa using this):p:=h
theorem EV{p:Prop}(h:p:=by omega):p:=h
theorem EW{p:Prop}(h:p:=by decide):p:=h
theorem EX{p:Prop}(h:p:=by simp):p:=h
theorem EY{p:Prop}(h:p:=by kernel_rfl):p:=h
theorem EZ{p:Prop}(h:p:=by repeat (first|exact .here|apply C2.there)):p:=h
theorem FA{p:Prop}(h:p:=by exact Bn):p:=h
theorem FB{p:Prop}(h:p:=by simp;omega):p:=h
theorem FC{p:Prop}(h:p:=by unfold maxLen;omega):p:=h
theorem FD{p:Prop}(h:p:=by simp [hb]):p:=h
theorem FF{p:Prop}(h:p:=by simpa using h):p:=h
theorem FH{p:Prop}(h:p:=by rfl):p:=h
theorem FM{p:Prop}(h:p:=by assumption):p:=h
theorem FO{p:Prop}(h:p:=by rw [aP];rfl):p:=h
theorem FX{p:Prop}(h:p:=by simp [hq]):p:=h
theorem GB{p:Prop}(h:p:=by rw [he2];exact hS.u):p:=h
theorem GC{p:Prop}(h:p:=by intro x hx;simp [Pc.F] at hx;subst hx;exact hb):p:=h
theorem GG{p:Prop}(h:p:=by simp [intOf];omega):p:=h
theorem GH{p:Prop}(h:p:=by simpa using hr):p:=h
theorem GU{p:Prop}(h:p:=by simpa using hl):p:=h
theorem GZ{p:Prop}(h:p:=by simpa [List.filter,Pc.mu,fp,Pc.F] using hk):p:=h
theorem HD{p:Prop}(h:p:=by simp [hp]):p:=h
theorem HF{p:Prop}(h:p:=by (repeat (first|exact .here|apply C2.there));first|done|fail):p:=h
theorem HG{p:Prop}(h:p:=by simpa using h2):p:=h
theorem HH{p:Prop}(h:p:=by rw [h] at hr;cases hr):p:=h
theorem HK{p:Prop}(h:p:=by intro q hq b hb;simp at hq;subst hq;exact .inl (hF b hb)):p:=h
theorem HM{p:Prop}(h:p:=by go_num):p:=h
theorem HP{p:Prop}(h:p:=by simpa using s):p:=h
theorem HR{p:Prop}(h:p:=by simpa using h1):p:=h
theorem HT{p:Prop}(h:p:=by simpa using h3):p:=h
theorem HW{p:Prop}(h:p:=by simpa using hi):p:=h
theorem HX{p:Prop}(h:p:=by have:=s[k].toNat_lt;omega):p:=h
theorem HZ{p:Prop}(h:p:=by simpa using hj):p:=h
theorem IA{p:Prop}(h:p:=by simp [hx]):p:=h
theorem IJ{p:Prop}(h:p:=by rw [aA];omega):p:=h
theorem IP{p:Prop}(h:p:=by simpa using hm):p:=h
theorem IS{p:Prop}(h:p:=by simp [hz]):p:=h
theorem IT{p:Prop}(h:p:=by intro q hq;simp at hq;subst hq;exact hv):p:=h
theorem IV{p:Prop}(h:p:=by simpa using hA):p:=h
theorem IW{p:Prop}(h:p:=by simp [Pc.F]):p:=h
theorem JA{p:Prop}(h:p:=by simp [hc]):p:=h
theorem JI{p:Prop}(h:p:=by simp [h.1]):p:=h
theorem JM{p:Prop}(h:p:=by simp [h]):p:=h
theorem JN{p:Prop}(h:p:=by simp [Program.elem,hS.u]):p:=h
theorem JX{p:Prop}(h:p:=by rw [bU (by omega),show c1.length+j - c1.length=j by omega];exact hu):p:=h
end Go.Proofs.YtkoldibamfjghaaGreatDoor
namespace Go.Proofs.YtkoldibamfjghaaGreatDoor
open Go.RowKit
abbrev aa(n:Int):Value:=.int .i64 n
abbrev ab(a:Option Addr)(n c:Nat):Value:=.slice a n c
abbrev af(s:ByteArray):Value:=.string s
abbrev ai:=List ByteArray
abbrev aj:=Option Addr
abbrev am:=List Value
abbrev aq:=List Nat
abbrev ar:=List Int
abbrev au:=ByteArray
def av:=@decide_eq_true
def aw:=@Bool.and_eq_true
def ay:=@decide_eq_false
def aA:=@List.length_append
def aB:=@List.getElem_mem
def aC:=@if_neg
def aD:=@List.getElem?_eq_getElem
def aE:=@Nat.zero_le
def aF:=@decide_eq_true_eq
def aG:=@List.mem_cons
def aH:=@if_pos
def aJ:=@List.mem_append
def aK:=@Nat.le_refl
def aL:=@List.mem_singleton
def aM:=@List.append_assoc
def aN:=@List.mem_cons_of_mem
def aO:=@List.length_take
def aP:=@List.getElem?_toArray
def aQ:=@ByteArray.size_append
def aR:=@List.take_succ_eq_append_getElem
def aT:=@List.not_mem_nil
def aU:=@List.length_cons
def aV:=@List.all_eq_true
def aW:=@List.take_of_length_le
def aX:=@List.length_drop
def aY:=@List.length_nil
def aZ:=@List.nil_append
def ba:=@Nat.lt_or_eq_of_le
def bc:=@Int.toNat_natCast
def be:=@List.setIfInBounds_toArray
def bf:=@List.length_map
def bg:=@List.append_nil
def bh:=@List.pairwise_iff_getElem
def bi:=@List.getElem_of_mem
def bj:=@List.set_cons_zero
def bl:=@or_false
def bm:=@List.take_length
def bn:=@List.getElem?_eq_none
def bo:=@List.take_append_drop
def bp:=@List.set_cons_succ
def bq:=@List.mem_of_mem_drop
def br:=@List.getD_eq_getElem?_getD
def bt:=@List.length_eq_zero_iff
def bu:=@Bool.not_eq_true'
def bv:=@List.set_getElem_self
def bw:=@List.length_replicate
def bx:=@List.getElem?_append_left
def bA:=@Nat.lt_succ_iff
def bB:=@List.map_append
def bC:=@List.mem_or_eq_of_mem_set
def bD:=@Nat.le_trans
def bE:=@List.eq_nil_of_length_eq_zero
def bF:=@List.getElem?_cons_succ
def bG:=@Array.getElem?_eq_some_iff
def bH:=@List.getElem?_cons_zero
def bJ:=@List.length_filter_le
def bK:=@List.nodup_append
def bL:=@List.mem_filter
def bM:=@decide_eq_false_iff_not
def bN:=@Nat.add_zero
def bO:=@List.mem_map
def bP:=@List.drop_eq_getElem_cons
def bQ:=@List.length_set
def bR:=@List.mem_of_mem_take
def bS:=@List.take_left'
def bT:=@Bool.true_and
def bU:=@List.getElem?_append_right
def bV:=@Option.map_some
def bW:=@Bool.or_eq_true
def bX:=@List.mem_of_getElem?
def bY:=@List.filter_append
def bZ:=@Bool.and_false
def cg:=@List.cons_append
def ci:=@List.flatten_cons
def cj:=@List.getElem?_eq_some_iff
def cm:=@Nat.eq_zero_or_pos
def co:=@ByteArray.size_extract
def cu:=@Option.map_eq_some_iff
def cw:=@List.drop_drop
def cy:=@List.take_add_one
def cA:=@List.mem_append_left
def cB:=@List.any_eq_false
def cC:=@Bool.eq_iff_iff
def cD:=@Nat.add_mul
def cF:=@Nat.mul_le_mul_right
def cG:=@List.any_eq_true
def cH:=@List.map_cons
def cI:=@Nat.le_of_lt_succ
def cJ:=@true_and
def cK:=@and_true
def cL:=@Option.map_none
def cM:=@List.mem_take_iff_getElem
def cN:=@Nat.zero_add
def cO:=@List.mem_range
def cP:=@List.all_eq_false
def cQ:=@List.replicate_succ
def cR:=@List.length_pos_iff
def cS:=@Nat.mul_one
def cT:=@List.map_toArray
def cU:=@Bool.false_and
def cV:=@List.length_filterMap_le
def cW:=@Nat.min_eq_left
def cX:=@Decidable.not_not
def cY:=@List.flatten_append
def cZ:=@List.getElem_set_ne
def de:=@Option.bind_some
def dg:=@List.map_nil
def dh:=@List.pairwise_cons
def di:=@ByteArray.data_append
def dl:=@List.nodup_cons
def dm:=@List.ext_getElem?
def dp:=@of_decide_eq_true
def dr:=@Bool.or_eq_false_iff
def du:=@List.drop_zero
def dv:=@List.filter_eq_self
def dw:=@List.getElem?_drop
def dy:=@List.drop_left'
def dz:=@List.range_succ
def dA:=@Nat.lt_of_lt_of_le
def dB:=@Int.natCast_nonneg
def dC:=@List.length_modify
def dD:=@List.getElem_drop
def dF:=@List.length_singleton
def dG:=@List.singleton_append
def dH:=@List.pairwise_append
def dI:=@decide_eq_decide
def dJ:=@Nat.pow_le_pow_right
def dK:=@Array.getElem?_append_left
def dL:=@List.all_cons
def dQ:=@List.map_congr_left
def dR:=@Array.getElem?_eq_getElem
def dS:=@List.getLast?_eq_getElem?
def dU:=@List.foldl_cons
def dV:=@List.all_append
def dW:=@Bool.false_eq_true
def dX:=@Array.setIfInBounds_comm
def dY:=@Nat.lt_or_ge
def dZ:=@List.mem_filterMap
def d9:=@Nat.add_sub_cancel
def ed:=@Nat.pow_succ
def ef:=@dif_pos
def eh:=@List.not_any_eq_all_not
def ei:=@List.not_all_eq_any_not
def ej:=@List.foldl_append
def eu:=@List.filter_congr
def ew:=@List.getElem?_set_self
def ex:=@Array.getElem?_eq_none
def eC:=@Int.tmod_eq_emod
def eD:=@List.findIdx_lt_length_of_exists
def eG:=@List.set_append_right
def eH:=@List.getElem_set_self
def eJ:=@List.mem_append_right
def eK:=@List.append_inj
def eL:=@List.replicate_succ'
def eO:=@List.eq_nil_iff_forall_not_mem
def eP:=@Array.eq_empty_of_size_eq_zero
def eQ:=@beq_iff_eq
def eS:=@List.map_map
def eU:=@List.filter_sublist
def eV:=@List.dropWhile_cons
def eX:=@List.replicate_zero
def eY:=@List.takeWhile_append_of_pos
def eZ:=@List.foldl_nil
def fe:=@List.take_zero
def ff:=@List.dropWhile_append_of_pos
def fg:=@List.drop_left
def fh:=@decide_eq_true_iff
def fl:=@Array.getD_eq_getD_getElem?
def fm:=@List.mem_replicate
def fq:=@ByteArray.ext
def fu:=@Int.tmod_eq_emod_of_nonneg
def fv:=@Int.tdiv_eq_ediv_of_nonneg
def fw:=@Nat.add_assoc
def fy:=@List.takeWhile_cons_of_pos
def fz:=@Bool.and_true
def fA:=@Bool.false_or
def fB:=@List.drop_sublist
def fC:=@List.size_toArray
def fD:=@List.take_sublist
def fE:=@List.push_toArray
def fG:=@List.getLastD_eq_getLast?
def fH:=@Array.ext'
def fK:=@List.mem_drop_iff_getElem
def fL:=@List.filter_cons
def fM:=@List.getElem_append_left
def fN:=@List.getElem_map
def fO:=@List.getElem_set
def fP:=@Option.getD_some
def fQ:=@Option.bind_eq_some_iff
def fS:=@List.map_id
def fT:=@List.getElem_modify_eq
def fU:=@List.mapM_cons
def fV:=@List.take_left
def fW:=@List.perm_append_comm
def fZ:=@Array.replicate_succ
def f9:=@List.findIdx_getElem
def gh:=@Array.replicate_zero
def gi:=@List.getElem?_modify
def gj:=@List.drop_nil
def gl:=@List.append_toArray
def gm:=@List.take_succ_cons
def gv:=@List.take_set_of_le
def gx:=@List.takeWhile_cons
def gy:=@List.drop_set_of_lt
def gz:=@List.getElem_modify
def gA:=@Nat.sub_zero
def gB:=@Nat.succ_mul
def gC:=@Int.lt_trans
def gD:=@Bool.or_true
def gE:=@Nat.one_mul
def gF:=@Nat.mul_add
def gG:=@Int.le_refl
abbrev RB (b:Value) (w:World):Ending->World->Prop:=fun e w2=>e=.returned b/\Below w.heap.size w w2
end Go.Proofs.YtkoldibamfjghaaGreatDoor
namespace Go.Proofs.YtkoldibamfjghaaGreatDoor
open Go.RowKit
theorem kc {w w':World} {a:Addr} {v:Value} (hb:Below w.heap.size w w') (h:w.cell? a=some v):w'.cell? a=some v :=
 (hb.cell (World.block_lt_of_cell? w a h)).trans h
theorem kf {w w':World} {a:Addr} {v:Value} (hb:Below w.heap.size w w') (h:w.cell? a=some v):w'.frozen? a=w.frozen? a :=
 hb.frozen (World.block_lt_of_cell? w a h)
theorem tr {B:Nat} {w w1 w2:World} (h:Below B w w1) (h':Below w1.heap.size w1 w2) (hB:B<=w.heap.size):Below B w w2:=h.trans (h'.mono (bD hB h.size))
structure Bw (α:Type) where
 sz:Nat
 Kz:World->am->α->aq->Prop
 len:∀{w cs x F},Kz w cs x F->cs.length=sz
 lt:∀{w cs x F},Kz w cs x F->∀b∈F,b < w.heap.size
 frame:∀{w w':World} {cs x F},Kz w cs x F->(∀b∈F,w'.heap[b]?=w.heap[b]?)->Kz w' cs x F
def N6 {α:Type} (E:Bw α) (w:World) (b:Nat):Nat->List α->aq->Prop
 | _,[],F=>F=[]
 | off,x::r,F=>∃cs F1 F2,F=F1++F2/\E.Kz w cs x F1/\(∀j,j < E.sz->w.cell? ⟨b,off+j,none⟩=cs[j]?)/\N6 E w b (off+E.sz) r F2
def Sl {α:Type} (E:Bw α) (w:World) (v:Value) (xs:List α) (F:aq):Prop :=
 ∃a cap,v=ab a xs.length cap/\(xs.length<=cap/\cap<=maxLen) /\
  ((xs=[]/\F=[]/\(a=none->cap=0))\/∃b off F',a=some ⟨b,off,none⟩/\xs≠[]/\F=b::F'/\N6 E w b off xs F')
theorem N6.lt {α:Type} {E:Bw α} {w:World} {b:Nat}:∀{xs:List α} {off:Nat} {F:aq},N6 E w b off xs F->∀c∈F,c < w.heap.size
 | [],_,_,h=>by simp [N6] at h;simp [h]
 | _::r,_,_,h=>by
  obtain ⟨cs,F1,F2,rfl,h1,_,h2⟩:=h;intro c hc;rcases aJ.1 hc with hc|hc
  ·exact E.lt h1 c hc
  ·exact N6.lt h2 c hc
theorem N6.frame {α:Type} {E:Bw α} {w w':World} {b:Nat} (hb:w'.heap[b]?=w.heap[b]?):∀{xs:List α} {off:Nat} {F:aq},N6 E w b off xs F ->
  (∀c∈F,w'.heap[c]?=w.heap[c]?)->N6 E w' b off xs F
 | [],_,_,h,_=>h
 | _::r,_,_,h,hF=>by
  obtain ⟨cs,F1,F2,rfl,h1,hc,h2⟩:=h;refine ⟨cs,F1,F2,rfl,E.frame h1 fun c hc=>hF c JA,fun j hj=>?_,N6.frame hb h2 fun c hc=>hF c JA⟩;rw [World.cell?_of_block (w:=w) hb];exact hc j hj
theorem N6.get {α:Type} {E:Bw α} {w:World} {b:Nat}:∀{xs:List α} {off:Nat} {F:aq},N6 E w b off xs F->∀(i:Nat) (hi:i < xs.length),
  ∃cs F1,E.Kz w cs xs[i] F1/\(∀j,j < E.sz->w.cell? ⟨b,off+i * E.sz+j,none⟩=cs[j]?)/\∀c∈F1,c∈F
 | [],_,_,_,i,hi=>by simp at hi
 | x::r,off,_,h,0,_=>by
  obtain ⟨cs,F1,F2,rfl,h1,hc,h2⟩:=h;exact ⟨cs,F1,h1,by simpa using hc,fun c hc=>by simp [hc]⟩
 | x::r,off,_,h,i+1,hi=>by
  obtain ⟨cs,F1,F2,rfl,h1,hc,h2⟩:=h;obtain ⟨cs',F3,h3,hc3,hm⟩:=N6.get h2 i HW;refine ⟨cs',F3,HT,fun j hj=>?_,fun c hc=>by simp [hm c hc]⟩;rw [<-hc3 j hj,show off+(i+1) * E.sz+j=off+E.sz+i * E.sz+j by rw [cD];omega]
theorem N6.block {α:Type} {E:Bw α} {w:World} {b off:Nat} {xs:List α} {F:aq} (h:N6 E w b off xs F) (hne:xs≠[]) (hz:0 < E.sz):b < w.heap.size:=by
 cases xs with
 | nil=>exact absurd rfl hne
 | cons x r =>
  obtain ⟨cs,F1,F2,rfl,h1,hc,h2⟩:=h;have h0:=hc 0 hz;have hl:=E.len h1;rw [aD EV] at h0;exact World.block_lt_of_cell? w _ h0
theorem Sl.lt {α:Type} {E:Bw α} (hz:0 < E.sz) {w v xs F} (h:Sl E w v xs F):∀c∈F,c < w.heap.size:=by
 obtain ⟨a,cap,_,_,⟨_,rfl,_⟩|⟨b,off,F',_,hne,rfl,hc⟩⟩:=h
 ·simp
 ·intro c hm;rcases aG.1 hm with rfl|hm
  ·exact hc.block hne hz
  ·exact hc.lt c hm
theorem Sl.frame {α:Type} {E:Bw α} {w w':World} {v xs F} (h:Sl E w v xs F) (hF:∀b∈F,w'.heap[b]?=w.heap[b]?):Sl E w' v xs F:=by
 obtain ⟨a,cap,hv,hl,⟨h1,h2⟩|⟨b,off,F',h1,hne,rfl,hc⟩⟩:=h
 ·exact ⟨a,cap,hv,hl,.inl ⟨h1,h2⟩⟩
 ·exact ⟨a,cap,hv,hl,.inr ⟨b,off,F',h1,hne,rfl,hc.frame (hF b EX) fun c hc=>hF c JA⟩⟩
theorem Sl.below {α:Type} {E:Bw α} (hz:0 < E.sz) {w w':World} {v xs F} (h:Sl E w v xs F) (hb:Below w.heap.size w w'):Sl E w' v xs F :=
 h.frame fun c hc=>hb.block c (h.lt hz c hc)
def Bb:Bw Int where
 sz:=1
 Kz _ cs z F:=cs=[aa z]/\F=[]
 len h:=JI
 lt h:=by simp [h.2]
 frame h _:=h
def A8:Bw au where
 sz:=1
 Kz _ cs s F:=cs=[af s]/\s.size<=maxLen/\F=[]
 len h:=JI
 lt h:=by simp [h.2.2]
 frame h _:=h
def Oc {α:Type} (E:Bw α) (hz:0 < E.sz):Bw (List α) where
 sz:=1
 Kz w cs xs F:=∃v,cs=[v]/\Sl E w v xs F
 len h:=by obtain ⟨v,rfl,_⟩:=h;rfl
 lt h:=by obtain ⟨v,rfl,h⟩:=h;exact h.lt hz
 frame h hF:=by obtain ⟨v,rfl,h⟩:=h;exact ⟨v,rfl,h.frame hF⟩
def Bdg:Bw Unit where
 sz:=0
 Kz _ cs _ F:=cs=[]/\F=[]
 len h:=JI
 lt h:=by simp [h.2]
 frame h _:=h
def Avx {α β:Type} (A:Bw α) (B:Bw β):Bw (α × β) where
 sz:=A.sz+B.sz
 Kz w cs x F:=∃c1 c2 F1 F2,cs=c1++c2/\F=F1++F2/\A.Kz w c1 x.1 F1/\B.Kz w c2 x.2 F2
 len h:=by obtain ⟨c1,c2,F1,F2,rfl,rfl,h1,h2⟩:=h;simp [A.len h1,B.len h2]
 lt h:=by
  obtain ⟨c1,c2,F1,F2,rfl,rfl,h1,h2⟩:=h;intro b hb;rcases aJ.1 hb with hb|hb
  ·exact A.lt h1 b hb
  ·exact B.lt h2 b hb
 frame h hF:=by
  obtain ⟨c1,c2,F1,F2,rfl,rfl,h1,h2⟩:=h;exact ⟨c1,c2,F1,F2,rfl,rfl,A.frame h1 fun b hb=>hF b FD,B.frame h2 fun b hb=>hF b FD⟩
def Bw.comap {α β:Type} (B:Bw β) (f:α->β):Bw α where
 sz:=B.sz
 Kz w cs x F:=B.Kz w cs (f x) F
 len h:=B.len h
 lt h:=B.lt h
 frame h hF:=B.frame h hF
theorem Bw.below {α:Type} (E:Bw α) {w w':World} {cs x F} (h:E.Kz w cs x F) (hb:Below w.heap.size w w'):E.Kz w' cs x F :=
 E.frame h fun c hc=>hb.block c (E.lt h c hc)
structure Bd2 where
 E8:au
 Eg:au
def Bgb:Bw Bd2:=(Avx A8 (Avx A8 Bdg)).comap fun x=>(x.E8,x.Eg,())
theorem Bgb.open {w cs x F} (h:Bgb.Kz w cs x F):cs=[af x.E8,af x.Eg]/\x.E8.size<=maxLen/\x.Eg.size<=maxLen:=by
 obtain ⟨c1,c2,F1,F2,rfl,rfl,⟨rfl,h1,_⟩,c3,c4,F3,F4,rfl,rfl,⟨rfl,h2,_⟩,rfl,_⟩:=h;exact ⟨rfl,h1,h2⟩
end Go.Proofs.YtkoldibamfjghaaGreatDoor
namespace Go.Proofs.YtkoldibamfjghaaGreatDoor
open Go.ChangeShapes Go.WideShapes Go.ChangeAt Go.RowKit
theorem Zi {H:Type} {enc:TypeId × Value->H} {P:Program} (hl:laidOutB P=true) {W W':World} (hb:Below W.heap.size W W') :
  ∀(ts:List TypeId) (vs:am) (ds:List (DataW H)) (ps:List MemPlace),(∀t∈ts,P.readableRec t=true/\t < P.types.size) ->
   DataW.TrodAll enc P W 0 (fun _=>true) true ts vs ds ps->(∀x∈ps,x.block < W.heap.size)->DataW.TrodAll enc P W' 0 (fun b=>decide (b < W.heap.size)) true ts vs ds ps
 | [],vs,ds,ps,_,h,_=>by obtain ⟨rfl,rfl,rfl⟩:=trodAll_nil h;exact rfl
 | t::ts,vs,ds,ps,ht,h,hlt=>by
  obtain ⟨v,vs',d,ds',p,q,rfl,rfl,rfl,h1,h2⟩:=trodAll_cons h;have ⟨a,b⟩:=ht t EX;exact ⟨p,q,Below.trod hl a b h1 hb fun x hx=>hlt x IA,Zi hl hb ts vs' ds' q (fun t h=>ht t JM) h2 fun x hx=>hlt x IA,rfl⟩
theorem Axw {H:Type} {enc:TypeId × Value->H} {P:Program} {f:Func} {s:ChangeSpec} {tb:TypeId} (hl:laidOutB P=true) (hr:∀t∈f.params.toList,P.readableRec t=true/\t < P.types.size)
  (hb:P.underlying tb=some .bool) (hres:f.resultTypes = #[tb]) (hv:s.vars=[]) {W W':World} {args:Array Value} {ds gs:List (DataW H)} {before:List MemPlace}
  (hs:s.fn H ds={ results:=[.lit (.bool true)],args:=ds }) (hW:DataW.Whole enc P f.params.toList s.vars false W args.toList ds gs before) (hB:Below W.heap.size W W') :
  s.post enc P f false true false false W args (.bool true) W':=by
 have hlt:=hW.lt;have hW0:=hW;obtain ⟨p,q,hA,hV,rfl,_,_⟩:=hW0;rw [hv] at hV;obtain ⟨rfl,rfl⟩:=trodVars_none hV;refine ⟨ds,[],p++[],[],p,[],hW,?_,?_,?_,hB.frame _,fun h=>by cases h⟩
 ·rw [bg,hs,hres];exact trodAll_mk1 (shut_bool hb true)
 ·rw [bg,hs];exact Zi hl hB _ _ _ _ hr hA fun x hx=>hlt x (by simpa using hx)
 ·rw [hv,bg,hs];exact rfl
def Al3 (P:Program) {α:Type} (E:Bw α) (t:TypeId):Prop :=
 ∀{H:Type} {enc:TypeId × Value->H} {w:World} {fuel:Nat} {cs:am} {x:DataW H × List MemPlace},DataW.trod enc P w 0 (fun _=>true) true fuel t cs=some x->∃y F,E.Kz w cs y F
section
variable {P:Program}
theorem Ad6 {α:Type} {E:Bw α} {e:TypeId} (hsz:P.cellsOf e=E.sz) (he:Al3 P E e) {H:Type} {enc:TypeId × Value->H} {w:World} {n b off:Nat} :
  ∀(els:List (DataW H × List MemPlace)) (k:Nat),(∀i,i < els.length->(w.cells? 0 ((⟨b,off,none⟩:Addr).add ((k+i) * P.cellsOf e)) (P.cellsOf e)).bind (DataW.trod enc P w 0 (fun _=>true) true n e)=els[i]?) ->
   ∃ys F,ys.length=els.length/\N6 E w b (off+k * E.sz) ys F
 | [],_,_=>⟨[],[],rfl,rfl⟩
 | x::r,k,h=>by
  have h0:=h 0 EX;simp only [bN,bH,fQ] at h0;obtain ⟨cs,hc,hx⟩:=h0;obtain ⟨y,F1,hy⟩:=he hx;obtain ⟨ys,F2,hl,hys⟩:=Ad6 hsz he r (k+1) fun i hi=>by
   have:=h (i+1) HW;rw [show k+1+i=k+(i+1) by omega];exact ET
  refine ⟨y::ys,F1++F2,by simp [hl],cs,F1,F2,rfl,hy,fun j hj=>?_,by rwa [show off+k * E.sz+E.sz=off+(k+1) * E.sz by rw [cD];omega]⟩;obtain ⟨_,hlen,hcell⟩:=World.cells?_some hc;rw [<-hcell j (by rw [hsz];exact hj)]
  congr 1
  simp only [Addr.add,hsz]
  split <;> split <;> simp_all <;> omega
theorem An0 {α:Type} {E:Bw α} {t e:TypeId} (ht:P.underlying t=some (.slice e)) (hsz:P.cellsOf e=E.sz) (hz:0 < E.sz) (he:Al3 P E e):Al3 P (Oc E hz) t:=fun h=>by
 rcases DataW.trod_slice ht h with ⟨rfl,_⟩|⟨a,len,cap,elems,rest,n,rfl,rfl,_,_,hlc,hcm,hlen,hel,_,_⟩
 ·exact ⟨[],[],_,rfl,none,0,rfl,⟨EX,EX⟩,.inl ⟨rfl,rfl,fun _=>rfl⟩⟩
 ·by_cases h0:len=0
  ·subst h0;exact ⟨[],[],_,rfl,some a,cap,rfl,⟨EX,EV⟩,.inl ⟨rfl,rfl,fun e=>by cases e⟩⟩
  ·have hs:a=⟨a.block,a.off,none⟩:=by
    have:=hel 0 EV;rw [aD EV] at this;simp only [fQ] at this;obtain ⟨cs,hc,_⟩:=this;obtain ⟨_,hl2,hcell⟩:=World.cells?_some hc;have h1:=hcell 0 EV;rw [aD EV] at h1;simp [Addr.add,World.cell?] at h1
    split at h1 <;> simp_all
    cases a;simp_all
   obtain ⟨ys,F,hyl,hys⟩:=Ad6 hsz he elems 0 (n:=n) (b:=a.block) (off:=a.off) (enc:=_) (w:=_) (by
    rw [<-hs];intro i hi;rw [cN];exact hel i EV)
   refine ⟨ys,a.block::F,_,rfl,some a,cap,by rw [hyl,hlen],⟨EV,EV⟩,.inr ⟨a.block,a.off,F,by rw [<-hs],?_,rfl,by simpa using hys⟩⟩;intro e;rw [e] at hyl;simp at hyl;omega
end
inductive Afb (P:Program):List Field->Nat->(α:Type)->Bw α->Prop
 | nil (off:Nat):Afb P [] off Unit Bdg
 | cons {f:Field} {r:List Field} {off:Nat} {α β:Type} {A:Bw α} {B:Bw β} (ho:f.offset=off) (hc:P.cellsOf f.type=A.sz) (hA:Al3 P A f.type) (h:Afb P r (off+A.sz) β B):Afb P (f::r) off (α × β) (Avx A B)
end Go.Proofs.YtkoldibamfjghaaGreatDoor
namespace Go.Proofs.YtkoldibamfjghaaGreatDoor
open Go.RowKit
structure Ei (F:aq) (w w':World):Prop where
 os:w'.os=w.os
 tape:w'.tape=w.tape
 output:w'.output=w.output
 size:w.heap.size<=w'.heap.size
 block:∀k,k < w.heap.size->k ∉ F->w'.heap[k]?=w.heap[k]?
theorem Ei.refl (F:aq) (w:World):Ei F w w:=⟨rfl,rfl,rfl,aK _,fun _ _ _=>rfl⟩
theorem Ei.trans {F:aq} {a b c:World} (h:Ei F a b) (k:Ei F b c):Ei F a c :=
 ⟨k.os.trans h.os,k.tape.trans h.tape,k.output.trans h.output,bD h.size k.size,fun i hi hf=>(k.block i (dA hi h.size) hf).trans (h.block i hi hf)⟩
theorem Ei.mono {F G:aq} {a b:World} (h:Ei F a b) (hs:∀x∈F,x < a.heap.size->x∈G):Ei G a b :=
 ⟨h.os,h.tape,h.output,h.size,fun k hk hg=>h.block k hk fun hf=>hg (hs k hf hk)⟩
theorem Ei.ofBelow {F:aq} {w w':World} (h:Below w.heap.size w w'):Ei F w w':=⟨h.os,h.tape,h.output,h.size,fun k hk _=>h.block k hk⟩
theorem Ei.below {F:aq} {w w':World} {B:Nat} (h:Ei F w w') (hB:B<=w.heap.size) (hF:∀b∈F,B<=b):Below B w w' :=
 ⟨h.os,h.tape,h.output,h.size,fun k hk=>h.block k EV fun hf=>by have:=hF k hf;omega⟩
theorem Ei.setCell {F:aq} {w w':World} (h:Ei F w w') {p:Addr} (hp:p.block∈F) (u:Value):Ei F w (w'.setCell p u) :=
 h.trans ⟨rfl,rfl,rfl,by simp [World.setCell],fun k _ hf=>Below.heap_setCell _ _ _ _ (fun e=>hf (e▸hp))⟩
theorem Ei.alloc {F:aq} {w w':World} (h:Ei F w w') (o:Obj):Ei F w (w'.alloc o) :=
 h.trans ⟨rfl,rfl,rfl,EX,fun k hk _=>Below.heap_alloc _ _ _ hk⟩
theorem Ei.drewN {F:aq} {w w':World} (h:Ei F w w') (n:Nat):Ei F w (w'.drewN n):=⟨h.os,h.tape,h.output,h.size,h.block⟩
theorem Ei.cell {F:aq} {w w':World} (h:Ei F w w') {a:Addr} {v:Value} (ha:a.block ∉ F) (hc:w.cell? a=some v):w'.cell? a=some v :=
 (World.cell?_of_block (w:=w) (h.block a.block (World.block_lt_of_cell? w a hc) ha)).trans hc
theorem E4 {B:Nat} {a w:World} (h:Below B a w) (n:Nat):Below B a (w.drewN n):=⟨h.os,h.tape,h.output,h.size,h.block⟩
def If (w:World) (g:Nat) (t:TypeId) (cs:am):Prop:=w.heap[g]?=some (.cells cs.toArray t (0,0))
theorem If.lt {w g t cs} (h:If w g t cs):g < w.heap.size:=by
 rcases dY g w.heap.size with h1|h1
 ·exact h1
 ·rw [If,ex h1] at h;simp at h
theorem If.cell {w g t cs} (h:If w g t cs) (j:Nat):w.cell? ⟨g,j,none⟩=cs[j]?:=by
 simp [World.cell?,show w.heap[g]?=_ from h]
theorem If.frozen {w g t cs} (h:If w g t cs) (j:Nat):w.frozen? ⟨g,j,none⟩=false:=by
 simp [World.frozen?,show w.heap[g]?=_ from h]
theorem If.I5 {w w' g t cs} (h:If w g t cs) (e:w'.heap[g]?=w.heap[g]?):If w' g t cs:=e.trans h
theorem If.below {w w' g t cs} (h:If w g t cs) (hb:Below w.heap.size w w'):If w' g t cs:=h.I5 (hb.block g h.lt)
theorem If.set {w g t cs} (h:If w g t cs) (j:Nat) (u:Value):If (w.setCell ⟨g,j,none⟩ u) g t (cs.set j u):=by
 have h':w.heap[g]?=_:=h;simp [If,World.setCell,Array.getElem?_modify,h']
theorem If.setOther {w g t cs} (h:If w g t cs) {p:Addr} (hp:p.block≠g) (u:Value):If (w.setCell p u) g t cs :=
 h.I5 (Below.heap_setCell _ _ _ _ (fun e=>hp e.symm))
theorem If.cells {w g t cs} (h:If w g t cs):∀j,w.cell? ⟨g,j,none⟩=cs[j]?:=h.cell
theorem If.frozens {w g t cs} (h:If w g t cs):∀j,w.frozen? ⟨g,j,none⟩=false:=h.frozen
theorem If.made (w:World) (t:TypeId) (cs:am):If (w.alloc (.cells cs.toArray t)) w.heap.size t cs:=heap_alloc_new w _
theorem If.alloc {w g t cs} (h:If w g t cs) (o:Obj):If (w.alloc o) g t cs:=h.I5 (Below.heap_alloc _ _ _ h.lt)
theorem Jg (w:World) (o:Obj) (g:Nat) (t:TypeId) (cs:am):If (w.alloc o) g t cs↔if g=w.heap.size then o=.cells cs.toArray t (0,0) else If w g t cs:=by
 unfold If;show (w.heap.push o)[g]?=_↔_;rw [Array.getElem?_push]
 split <;> simp
def Cw {α:Type} (E:Bw α) (w:World):am->List α->aq->Prop
 | cs,[],G=>cs=[]/\G=[]
 | cs,x::r,G=>∃c1 c2 F1 F2,cs=c1++c2/\G=F1++F2/\E.Kz w c1 x F1/\Cw E w c2 r F2
section
variable {α:Type} {E:Bw α}
theorem Cw.len {w:World}:∀{xs:List α} {cs:am} {G:aq},Cw E w cs xs G->cs.length=xs.length * E.sz
 | [],_,_,h=>by simp [h.1]
 | x::r,_,_,h=>by
  obtain ⟨c1,c2,F1,F2,rfl,rfl,h1,h2⟩:=h;rw [aA,E.len h1,h2.len,aU,cD];omega
theorem Cw.lt {w:World}:∀{xs:List α} {cs:am} {G:aq},Cw E w cs xs G->∀b∈G,b < w.heap.size
 | [],_,_,h=>by simp [h.2]
 | x::r,_,_,h=>by
  obtain ⟨c1,c2,F1,F2,rfl,rfl,h1,h2⟩:=h;intro b hb;rcases aJ.1 hb with hb|hb
  ·exact E.lt h1 b hb
  ·exact h2.lt b hb
theorem Cw.frame {w w':World}:∀{xs:List α} {cs:am} {G:aq},Cw E w cs xs G->(∀b∈G,w'.heap[b]?=w.heap[b]?)->Cw E w' cs xs G
 | [],_,_,h,_=>h
 | x::r,_,_,h,hG=>by
  obtain ⟨c1,c2,F1,F2,rfl,rfl,h1,h2⟩:=h;exact ⟨c1,c2,F1,F2,rfl,rfl,E.frame h1 fun b hb=>hG b FD,h2.frame fun b hb=>hG b FD⟩
theorem Cw.append {w:World}:∀{xs ys:List α} {cs ds:am} {G H:aq},Cw E w cs xs G->Cw E w ds ys H->Cw E w (cs++ds) (xs++ys) (G++H)
 | [],_,_,_,_,_,h,k=>by obtain ⟨rfl,rfl⟩:=h;simpa using k
 | x::r,_,_,_,_,_,h,k=>by
  obtain ⟨c1,c2,F1,F2,rfl,rfl,h1,h2⟩:=h;exact ⟨c1,_,F1,_,by rw [aM],by rw [aM],h1,h2.append k⟩
theorem Cw.one {w:World} {x:α} {cs:am} {G:aq} (h:E.Kz w cs x G):Cw E w cs [x] G:=⟨cs,[],G,[],EX,EX,h,rfl,rfl⟩
theorem Cw.split {w:World}:∀{xs ys:List α} {cs:am} {G:aq},Cw E w cs (xs++ys) G->∃c1 c2 G1 G2,cs=c1++c2/\G=G1++G2/\Cw E w c1 xs G1/\Cw E w c2 ys G2
 | [],_,cs,G,h=>⟨[],cs,[],G,rfl,rfl,⟨rfl,rfl⟩,h⟩
 | x::r,_,_,_,h=>by
  obtain ⟨c1,c2,F1,F2,rfl,rfl,h1,h2⟩:=h;obtain ⟨d1,d2,G1,G2,rfl,rfl,h3,h4⟩:=h2.split;exact ⟨c1++d1,d2,F1++G1,G2,EX,EX,⟨c1,d1,F1,G1,rfl,rfl,h1,h3⟩,h4⟩
theorem Cw.focus {w:World} {xs:List α} {cs:am} {G:aq} (h:Cw E w cs xs G) (i:Nat) (hi:i < xs.length) :
  ∃A c B G1 Fi G2,cs=A++c++B/\G=G1++Fi++G2/\A.length=i * E.sz/\c.length=E.sz/\Cw E w A (xs.take i) G1/\E.Kz w c xs[i] Fi/\Cw E w B (xs.drop (i+1)) G2:=by
 have e:xs=xs.take i++xs[i]::xs.drop (i+1):=EX
 rw [e] at h;obtain ⟨A,c2,G1,G2,rfl,rfl,h1,c,B,F1,F2,rfl,rfl,h2,h3⟩:=h.split;exact ⟨A,c,B,G1,F1,F2,EX,EX,by rw [h1.len,aO,cW EV],E.len h2,h1,h2,h3⟩
theorem Cw.build {w:World} {xs:List α} {A c B:am} {G1 Fi G2:aq} {i:Nat} (hi:i < xs.length) {x:α} (h1:Cw E w A (xs.take i) G1) (h2:E.Kz w c x Fi) (h3:Cw E w B (xs.drop (i+1)) G2) :
  Cw E w (A++c++B) (xs.set i x) (G1++Fi++G2):=by
 have e:xs.set i x=xs.take i++[x]++xs.drop (i+1):=by
  rw [List.set_eq_take_append_cons_drop];simp [hi]
 rw [e];exact (h1.append (Cw.one h2)).append h3
def Ow (E:Bw α) (t:TypeId) (w:World) (v:Value) (xs:List α) (F:aq):Prop :=
 (v=ab none 0 0/\xs=[]/\F=[]) \/
 ∃g cap cs rest G,v=ab (some ⟨g,0,none⟩) xs.length cap/\If w g t (cs++rest)/\xs.length<=cap/\cap<=maxLen/\cs.length+rest.length=cap * E.sz/\Cw E w cs xs G/\F=g::G
theorem Ow.lt {t:TypeId} {w v} {xs:List α} {F} (h:Ow E t w v xs F):∀b∈F,b < w.heap.size:=by
 rcases h with ⟨_,_,rfl⟩|⟨g,cap,cs,rest,G,_,hr,_,_,_,hf,rfl⟩
 ·simp
 ·intro b hb;rcases aG.1 hb with rfl|hb
  ·exact hr.lt
  ·exact hf.lt b hb
theorem Ow.frame {t:TypeId} {w w':World} {v} {xs:List α} {F} (h:Ow E t w v xs F) (hF:∀b∈F,w'.heap[b]?=w.heap[b]?):Ow E t w' v xs F:=by
 rcases h with h|⟨g,cap,cs,rest,G,hv,hr,h1,h2,h3,hf,rfl⟩
 ·exact .inl h
 ·exact .inr ⟨g,cap,cs,rest,G,hv,hr.I5 (hF g EX),h1,h2,h3,hf.frame fun b hb=>hF b FD,rfl⟩
theorem Ow.below {t:TypeId} {w w':World} {v} {xs:List α} {F} (h:Ow E t w v xs F) (hb:Below w.heap.size w w'):Ow E t w' v xs F :=
 h.frame fun b h'=>hb.block b (h.lt b h')
theorem Ow.I5 {t:TypeId} {w w':World} {v} {xs:List α} {F K} (h:Ow E t w v xs F) (hk:Ei K w w') (hd:∀b∈F,b ∉ K):Ow E t w' v xs F :=
 h.frame fun b h'=>hk.block b (h.lt b h') (hd b h')
theorem Ow.setFar {t:TypeId} {w:World} {v} {xs:List α} {F} (h:Ow E t w v xs F) {p:Addr} (hp:p.block ∉ F) (u:Value):Ow E t (w.setCell p u) v xs F :=
 h.frame fun b hb=>Below.heap_setCell _ _ _ _ fun e=>hp (e▸hb)
theorem Ow.len {t:TypeId} {w v} {xs:List α} {F} (h:Ow E t w v xs F):xs.length<=maxLen:=by
 rcases h with ⟨_,rfl,_⟩|⟨g,cap,cs,rest,G,_,_,h1,h2,_⟩
 ·simp
 ·omega
theorem Ow.slice {t:TypeId} {w v} {xs:List α} {F} (h:Ow E t w v xs F):∃a cap,v=ab a xs.length cap:=by
 rcases h with ⟨rfl,rfl,_⟩|⟨g,cap,cs,rest,G,rfl,_⟩
 ·exact ⟨none,0,rfl⟩
 ·exact ⟨_,_,rfl⟩
theorem Ow.focus {t:TypeId} {w v} {xs:List α} {F} (h:Ow E t w v xs F) (i:Nat) (hi:i < xs.length) :
  ∃g cap A c B G1 Fi G2,v=ab (some ⟨g,0,none⟩) xs.length cap/\If w g t (A++c++B)/\A.length=i * E.sz/\c.length=E.sz/\E.Kz w c xs[i] Fi/\F=g::(G1++Fi++G2) /\
   (∀b∈G1++G2,b < w.heap.size) /\
   ∀w' c' x' Fi',If w' g t (A++c'++B)->E.Kz w' c' x' Fi'->(∀b∈G1++G2,w'.heap[b]?=w.heap[b]?)->Ow E t w' v (xs.set i x') (g::(G1++Fi'++G2)):=by
 rcases h with ⟨_,rfl,_⟩|⟨g,cap,cs,rest,G,rfl,hr,h1,h2,h3,hf,rfl⟩
 ·simp at hi
 ·obtain ⟨A,c,B,G1,Fi,G2,rfl,rfl,hA,hc,hfA,hx,hfB⟩:=hf.focus i hi
  refine ⟨g,cap,A,c,B++rest,G1,Fi,G2,rfl,GH,hA,hc,hx,rfl,?_,?_⟩
  ·intro b hb;rcases aJ.1 hb with hb|hb
   ·exact hfA.lt b hb
   ·exact hfB.lt b hb
  ·intro w' c' x' Fi' hr' hx' hG;refine .inr ⟨g,cap,A++c'++B,rest,G1++Fi'++G2,EX,by simpa using hr',HR,h2,?_,?_,rfl⟩
   ·have:=E.len hx';simp only [aA] at h3 ⊢;omega
   ·exact Cw.build hi (hfA.frame fun b hb=>hG b FD) hx' (hfB.frame fun b hb=>hG b FD)
structure Mu {α:Type} (O R:Bw α):Prop where
 sz:O.sz=R.sz
 Kz:∀{w cs x F},O.Kz w cs x F->∃F',(∀b∈F',b∈F)/\R.Kz w cs x F'
theorem Mu.refl {α:Type} (E:Bw α):Mu E E:=⟨rfl,fun h=>⟨_,fun _ h=>h,h⟩⟩
theorem Ow.sl {O R:Bw α} (hW:Mu O R) {t:TypeId} {w v} {xs:List α} {F} (h:Ow O t w v xs F):∃F',(∀b∈F',b∈F)/\Sl R w v xs F':=by
 have key:∀(xs:List α) (cs:am) (G:aq) (g off:Nat),Cw O w cs xs G->(∀j,j < cs.length->w.cell? ⟨g,off+j,none⟩=cs[j]?)->∃G',(∀b∈G',b∈G)/\N6 R w g off xs G':=by
  intro xs
  induction xs with
  | nil=>intro cs G g off h _;exact ⟨[],EX,rfl⟩
  | cons x r ih =>
   intro cs G g off h hc;obtain ⟨c1,c2,F1,F2,rfl,rfl,h1,h2⟩:=h;have hl:=O.len h1;have hs:=hW.sz;obtain ⟨F1',hs1,hr1⟩:=hW.Kz h1;obtain ⟨F2',hs2,hr2⟩:=ih c2 F2 g (off+R.sz) h2 fun j hj=>by
    have:=hc (c1.length+j) FB;rw [bU EV,show c1.length+j - c1.length=j by omega] at this;rw [<-this,show off+R.sz+j=off+(c1.length+j) by omega]
   refine ⟨F1'++F2',fun b hb=>?_,c1,F1',F2',rfl,hr1,fun j hj=>?_,hr2⟩
   ·rcases aJ.1 hb with hb|hb
    ·simp [hs1 b hb]
    ·simp [hs2 b hb]
   ·rw [hc j FB,bx EV]
 have hl:=h.len;rcases h with ⟨rfl,rfl,rfl⟩|⟨g,cap,cs,rest,G,rfl,hrow,h1,h2,h3,hf,rfl⟩
 ·exact ⟨[],EX,none,0,rfl,EX,.inl ⟨rfl,rfl,fun _=>rfl⟩⟩
 ·by_cases h0:xs=[]
  ·subst h0;exact ⟨[],EX,some ⟨g,0,none⟩,cap,rfl,⟨EX,h2⟩,.inl ⟨rfl,rfl,fun e=>by cases e⟩⟩
  ·obtain ⟨G',hG,hc⟩:=key xs cs G g 0 hf fun j hj=>by rw [cN,hrow.cell,bx hj]
   exact ⟨g::G',fun b hb=>by rcases aG.1 hb with rfl|hb;simp;simp [hG b hb],_,cap,rfl,⟨h1,h2⟩,.inr ⟨g,0,G',rfl,h0,rfl,hc⟩⟩
theorem Ow.read {t:TypeId} {w v} {xs:List α} {F} (h:Ow E t w v xs F):∃F',(∀b∈F',b∈F)/\Sl E w v xs F':=by
 exact h.sl (Mu.refl E)
end
theorem Mu.slice {α:Type} {O R:Bw α} (h:Mu O R) (hz:0 < R.sz) (t:TypeId) {w v} {xs:List α} {F} (ho:Ow O t w v xs F):∃F',(∀b∈F',b∈F)/\(Oc R hz).Kz w [v] xs F':=by
 obtain ⟨F',h1,h2⟩:=ho.sl h;exact ⟨F',h1,v,rfl,h2⟩
def Kl {α:Type} (E:Bw α) (t:TypeId):Bw (List α) where
 sz:=1
 Kz w cs xs F:=∃v,cs=[v]/\Ow E t w v xs F
 len h:=by obtain ⟨v,rfl,_⟩:=h;rfl
 lt h:=by obtain ⟨v,rfl,h⟩:=h;exact h.lt
 frame h hF:=by obtain ⟨v,rfl,h⟩:=h;exact ⟨v,rfl,h.frame hF⟩
theorem Bcs (A c B:am) (j:Nat) (hj:j < c.length) (u:Value):(A++c++B).set (A.length+j) u=A++c.set j u++B:=by
 rw [aM,eG _ _ EV,show A.length+j - A.length=j by omega,List.set_append_left _ _ hj,aM]
theorem If.setMid {w g t} {A c B:am} (h:If w g t (A++c++B)) {p j:Nat} (hp:p=A.length+j) (hj:j < c.length) (u:Value):If (w.setCell ⟨g,p,none⟩ u) g t (A++c.set j u++B):=by
 subst hp;rw [<-Bcs _ _ _ _ hj];exact h.set _ u
theorem If.cellMid {w g t} {A c B:am} (h:If w g t (A++c++B)) {p j:Nat} (hp:p=A.length+j) (hj:j < c.length):w.cell? ⟨g,p,none⟩=c[j]?:=by
 subst hp;rw [h.cell,aM,bU EV,show A.length+j - A.length=j by omega,bx hj]
def Ny (w:World) (g:Nat):Nat->am->World
 | _,[]=>w
 | p,u::r=>Ny (w.setCell ⟨g,p,none⟩ u) g (p+1) r
theorem If.put {g t}:∀(c' c:am) {w:World} {A B:am} {p:Nat},If w g t (A++c++B)->p=A.length->c'.length=c.length->If (Ny w g p c') g t (A++c'++B)
 | [],[],_,_,_,_,h,_,_=>h
 | u::r,d::c,w,A,B,p,h,hp,hl=>by
  have h1:=h.setMid (p:=p) (j:=0) EV EX u;simp only [bj] at h1;have h2:=If.put r c (w:=w.setCell ⟨g,p,none⟩ u) (A:=A++[u]) (B:=B) (p:=p+1) HR FB GU;simpa [Ny] using h2
 | [],_::_,_,_,_,_,_,_,hl=>by simp at hl
 | _::_,[],_,_,_,_,_,_,hl=>by simp at hl
theorem Nz {g:Nat}:∀(c:am) (w:World) (p:Nat) (b:Nat),b≠g->(Ny w g p c).heap[b]?=w.heap[b]?
 | [],_,_,_,_=>rfl
 | _::r,_,_,b,hb=>(Nz r _ _ b hb).trans (Below.heap_setCell _ _ _ _ hb)
theorem Ly {g:Nat}:∀(c:am) (w:World) (p:Nat),Ei [g] w (Ny w g p c)
 | [],w,_=>Ei.refl _ w
 | u::r,w,p=>((Ei.refl [g] w).setCell (p:=⟨g,p,none⟩) EX u).trans (Ly r _ _)
theorem Ow.put {α:Type} {E:Bw α} {t:TypeId} {w:World} {g n cap:Nat} {xs:List α} {F:aq} (h:Ow E t w (ab (some ⟨g,0,none⟩) n cap) xs F) (hn:F.Nodup) (i:Nat) (hi:i < xs.length) :
  g∈F/\(∀j,j < E.sz->(∃u,w.cell? ⟨g,i * E.sz+j,none⟩=some u)/\w.frozen? ⟨g,i * E.sz+j,none⟩=false) /\
  ∀c' x' F',E.Kz w c' x' F'->F'.Nodup->(∀b∈F',b ∉ F)->∃F2,Ow E t (Ny w g (i * E.sz) c') (ab (some ⟨g,0,none⟩) n cap) (xs.set i x') F2/\F2.Nodup/\∀b∈F2,b∈F\/b∈F':=by
 obtain ⟨g',cp,A,c,B,G1,Fi,G2,hv,hrow,hA,hcl,hx,rfl,hlt,back⟩:=h.focus i hi
 simp only [Value.slice.injEq,Option.some.injEq,Addr.mk.injEq] at hv;obtain ⟨⟨rfl,_⟩,rfl,rfl⟩:=hv;have hnd:g ∉ G1++G2:=fun hm=>by simp at hn hm;rcases hm with hm|hm <;> simp [hm] at hn
 refine ⟨EX,fun j hj=>⟨⟨c[j]'EV,by rw [hrow.cellMid (j:=j) EV EV,aD]⟩,hrow.frozen _⟩,fun c' x' F' hx' hn' hd=>⟨g::(G1++F'++G2),?_,?_,?_⟩⟩
 ·have hl:=E.len hx';have hg:g ∉ F':=fun e=>hd g e EX;exact back _ c' x' F' (hrow.put c' c EV EV) (E.frame hx' fun b hb=>Nz _ _ _ _ fun e=>hg (e▸hb)) fun b hb=>Nz _ _ _ _ fun e=>hnd (e▸hb)
 ·have hd1:∀b∈F',b≠g/\b ∉ G1/\b ∉ G2:=fun b hb=>by have:=hd b hb;simp at this;exact ⟨this.1,this.2.1,this.2.2.2⟩
  simp only [dl,bK,aJ,not_or] at hn ⊢;obtain ⟨⟨⟨h1,h2⟩,h3⟩,⟨h4,h5,h6⟩,h7,h8⟩:=hn;refine ⟨⟨⟨h1,fun e=>(hd1 g e).1 rfl⟩,h3⟩,⟨h4,hn',fun a ha b hb e=>(hd1 b hb).2.1 (e▸ha)⟩,h7,fun a ha b hb=>?_⟩;rcases ha with ha|ha
  ·exact h8 a (.inl ha) b hb
  ·exact fun e=>(hd1 a ha).2.2 (e▸hb)
 ·intro b hb;simp at hb ⊢;rcases hb with hb|hb|hb|hb <;> simp [hb]
theorem Ow.head {α:Type} {E:Bw α} {t:TypeId} {w:World} {a:aj} {n cap:Nat} {xs:List α} {F:aq} (h:Ow E t w (ab a n cap) xs F) (i:Nat) (hi:i < xs.length):∃g,a=some ⟨g,0,none⟩:=by
 obtain ⟨g,cp,A,c,B,G1,Fi,G2,hv, -⟩:=h.focus i hi
 simp only [Value.slice.injEq] at hv;exact ⟨g,hv.1⟩
theorem Nx (z:Array Value) (n:Nat):(madeCells z (n * z.size)).toList=(List.replicate n z.toList).flatten:=by
 apply dm;intro p;by_cases hz:z.size=0
 ·have:z = #[]:=eP hz;subst this;simp [madeCells]
 ·have hlen:∀m,((List.replicate m z.toList).flatten).length=m * z.size:=fun m=>by simp
  by_cases hp:p < n * z.size
  ·have h1:(madeCells z (n * z.size)).toList[p]?=some z[p % z.size]!:=by simp [madeCells,hp]
   rw [h1];have hq:p / z.size < n:=Nat.div_lt_of_lt_mul (by rwa [Nat.mul_comm]);have e:List.replicate n z.toList=List.replicate (p / z.size) z.toList++z.toList::List.replicate (n - p / z.size - 1) z.toList:=by
    rw [<-cQ,List.replicate_append_replicate];congr 1;omega
   have hd:=Nat.div_add_mod p z.size;have hm:=Nat.mod_lt p (Nat.pos_of_ne_zero hz);rw [Nat.mul_comm] at hd;rw [e,cY,ci,bU (by rw [hlen];omega),hlen,show p - p / z.size * z.size=p % z.size by omega,bx IP];simp [hm]
  ·rw [bn (by simp [madeCells];omega),bn (by rw [hlen];omega)]
theorem Ow.made {α:Type} {E:Bw α} {t:TypeId} (w:World) (z:Array Value) (n:Nat) (x:α) (hsz:z.size=E.sz) (hz:∀w,E.Kz w z.toList x []) (hn:n<=maxLen) :
  Ow E t (w.alloc (.cells (madeCells z (n * E.sz)) t)) (ab (some ⟨w.heap.size,0,none⟩) n n) (List.replicate n x) [w.heap.size]:=by
 have hf:∀(w:World) (m:Nat),Cw E w (List.replicate m z.toList).flatten (List.replicate m x) []:=by
  intro w m
  induction m with
  | zero=>exact ⟨rfl,rfl⟩
  | succ m ih=>exact ⟨z.toList,_,[],[],by rw [cQ,ci],rfl,hz w,ih⟩
 refine .inr ⟨w.heap.size,n,(madeCells z (n * E.sz)).toList,[],[],EX,?_,EX,hn,?_,?_,rfl⟩
 ·simp only [bg,If];exact heap_alloc_new w _
 ·rw [<-hsz,Nx];simp
 ·rw [<-hsz,Nx];exact hf _ _
theorem P2 {α:Type} {O R:Bw α} (h:Mu O R) (hz:0 < R.sz) (t:TypeId):Mu (Kl O t) (Oc R hz):=⟨rfl,fun hh=>by
 obtain ⟨v,rfl,ho⟩:=hh;exact h.slice hz t ho⟩
theorem Sl.at {α:Type} {E:Bw α} {w:World} {a:aj} {n cap:Nat} {xs:List α} {F} (h:Sl E w (ab a n cap) xs F) (k:Nat) (hk:k < xs.length) :
  ∃b off cs F1,a=some ⟨b,off,none⟩/\E.Kz w cs xs[k] F1/\(∀c∈F1,c∈F)/\∀j,j < E.sz->w.cell? ⟨b,off+k * E.sz+j,none⟩=cs[j]?:=by
 obtain ⟨a',cap',hv,hl,h⟩:=h;cases hv;rcases h with ⟨rfl,_⟩|⟨b,off,F',rfl,_,rfl,hc⟩
 ·simp at hk
 ·obtain ⟨cs,F1,h1,hj,hm⟩:=hc.get k hk;exact ⟨b,off,cs,F1,rfl,h1,fun c hc=>by simp [hm c hc],hj⟩
theorem Sl.slice {α:Type} {E:Bw α} {w v} {xs:List α} {F} (h:Sl E w v xs F):∃a cap,v=ab a xs.length cap:=by
 obtain ⟨a,cap,h,_⟩:=h;exact ⟨a,cap,h⟩
theorem Sl.len {α:Type} {E:Bw α} {w v} {xs:List α} {F} (h:Sl E w v xs F):xs.length<=maxLen:=by
 obtain ⟨a,cap,_,h,_⟩:=h;omega
theorem Sl.caps {α:Type} {E:Bw α} {w} {a:aj} {n cap:Nat} {xs:List α} {F} (h:Sl E w (ab a n cap) xs F):n=xs.length/\n<=cap/\cap<=maxLen:=by
 obtain ⟨a',cap',hv,h,_⟩:=h;cases hv;exact ⟨rfl,h⟩
def Ru {α:Type} (E:Bw α) (w:World) (v:Value) (x:α) (F:aq):Prop:=∃cs:am,v=.agg cs.toArray/\E.Kz w cs x F
theorem Ru.below {α:Type} {E:Bw α} {w w':World} {v x F} (h:Ru E w v x F) (hb:Below w.heap.size w w'):Ru E w' v x F:=by
 obtain ⟨cs,hv,h⟩:=h;exact ⟨cs,hv,E.below h hb⟩
def Awa {α:Type} (E:Bw α) (x:α) (w:World) (e:Ending) (w':World):Prop :=
 ∃v F,e=.returned v/\Ru E w' v x F/\F.Nodup/\(∀b∈F,w.heap.size<=b)/\Below w.heap.size w w'
def W8 {α:Type} (E:Bw α) (t:TypeId) (xs:List α) (w:World) (e:Ending) (w':World):Prop :=
 ∃v F,e=.returned v/\Ow E t w' v xs F/\F.Nodup/\(∀b∈F,w.heap.size<=b)/\Below w.heap.size w w'
theorem If.keepK {w w' g t cs F} (h:If w g t cs) (hk:Ei F w w') (hg:g ∉ F):If w' g t cs:=h.I5 (hk.block g h.lt hg)
structure Y0 (P:Program) (f:FuncId):Prop where
 ok:∃fn,P.funcs[f]?=some fn/\(fn.name == "runtime.NumGoroutine")=false/\fn.body.isNone=false
theorem Y0.mk' {P:Program} {f:FuncId} {fn:Func} (h:P.funcs[f]?=some fn) (h1:(fn.name == "runtime.NumGoroutine")=false) (h2:fn.body.isNone=false):Y0 P f:=⟨fn,h,h1,h2⟩
theorem Y0.run {P:Program} {f:FuncId} (h:Y0 P f) (args:Array Value) (w:World):(callFunc f args).run P w=.ok (.enter f args) w:=by
 obtain ⟨fn,h0,h1,h2⟩:=h.ok;have h1':¬fn.name = "runtime.NumGoroutine" := by simpa using h1
 have h2':¬fn.body=none:=fun e=>by rw [e] at h2;simp at h2
 simp [callFunc,program,Sem.run,h0,h1',h2',bind,Sem.bind,pure]
theorem Y0.upon {P:Program} {f:FuncId} (h:Y0 P f) {o:Oper} {a:Act} {K:Act->World->Prop} {Q:Exit->Act->World->Prop} {args:Array Value} {w:World} {R:Ending->World->Prop}
  (hc:Calls P f args w R) (hr:∀e w',R e w'->∃v,e=.returned v/\K (a.put o.dst v) w'):Oper.upon P o a K Q ((callFunc f args).run P w):=by
 rw [h.run,Oper.upon_enter];exact hc.mono fun e w' hR=>by obtain ⟨v,rfl,hk⟩:=hr e w' hR;exact hk
def IsC {α:Type} (E:Bw α) (w:World) (v:Value) (x:α) (F:aq):Prop:=∃u,v=u/\E.Kz w [u] x F
def Rl {α:Type} (p:α->Bool) (xs:List α):Int:=if xs.any p then (xs.findIdx p:Int) else -1
theorem Ok {α:Type} {p:α->Bool} {xs:List α} {k:Nat} (hk:k < xs.length) (h0:∀j,j < k->∀hj:j < xs.length,p xs[j]=false) (h1:p xs[k]=true):Rl p xs=k:=by
 have h:xs.findIdx p=k:=by
  rw [List.findIdx_eq hk];exact ⟨h1,fun j hj=>h0 j hj EV⟩
 have ha:xs.any p=true:=cG.2 ⟨xs[k],aB _,h1⟩;unfold Rl;rw [aH ha,h]
theorem M6 {α:Type} {p:α->Bool} {xs:List α} (h0:∀j,∀hj:j < xs.length,p xs[j]=false):Rl p xs=-1:=by
 unfold Rl;rw [aC];intro ha;obtain ⟨x,hx,hp⟩:=cG.1 ha;obtain ⟨i,hi,rfl⟩:=bi hx;rw [h0 i hi] at hp;simp at hp
theorem S8 {α:Type} (p:α->Bool) (xs:List α):decide (0<=Rl p xs)=xs.any p:=by
 unfold Rl;cases h:xs.any p <;> simp
def O1 (p:Nat->Bool) (n:Nat):Bool:=(List.range n).all p
theorem Ki {p:Nat->Bool} {n:Nat} (h:∀i,i < n->p i=true):O1 p n=true:=by simp [O1];exact h
theorem Lw {p:Nat->Bool} {n k:Nat} (hk:k < n) (h:p k=false):O1 p n=false:=by
 rw [Bool.eq_false_iff];intro ha;simp [O1] at ha;rw [ha k hk] at h;simp at h
theorem Jr {p:Nat->Bool} {n:Nat} (h:O1 p n=true) (i:Nat) (hi:i < n):p i=true:=by simp [O1] at h;exact h i hi
theorem U8 {p:Nat->Bool} {k:Nat} (h:∀i,i < k->p i=true) (hk:p k=true):∀i,i < k+1->p i=true:=fun i hi=>by
 rcases ba (cI hi) with h'|rfl
 ·exact h i h'
 ·exact hk
theorem X2 {P:Program} {f:FuncId} {args:Array Value} {w:World} {n:Nat} {v:Value}
  (h:Calls P f args (w.drewN n) fun e w'=>e=.returned v/\w.drewN n=w'):Calls P f args (w.drewN n) fun e w''=>e=.returned v/\∃m,w''=w.drewN m :=
 h.mono fun _ _ ⟨he,hm⟩=>⟨he,n,hm.symm⟩
def Bh6 {α:Type} (f:α->Nat) (xs:List α) (k:Nat):Nat:=((xs.take k).map f).sum
def Arp {α:Type} (mk:Int->α->α) (cnt:α->Nat):Int->List α->List α
 | _,[]=>[]
 | k,x::r=>mk k x::Arp mk cnt (k+cnt x) r
def Bhy {α:Type} (cnt:α->Nat) (xs:List α):Nat:=(xs.map cnt).sum
def One {α:Type} (E:Bw α):Prop:=∀{w cs x F},E.Kz w cs x F->∀u∈cs,u.oneCell'=true
theorem Da:One Bb:=fun h u hu=>by obtain ⟨rfl,_⟩:=h;simp at hu;subst hu;rfl
theorem Dz:One A8:=fun h u hu=>by obtain ⟨rfl,_⟩:=h;simp at hu;subst hu;rfl
theorem Sl.one {α:Type} {E:Bw α} {w v} {xs:List α} {F} (h:Sl E w v xs F):v.oneCell'=true:=by obtain ⟨a,c,rfl,_⟩:=h;rfl
theorem Ow.one {α:Type} {E:Bw α} {t w v} {xs:List α} {F} (h:Ow E t w v xs F):v.oneCell'=true:=by obtain ⟨a,c,rfl⟩:=h.slice;rfl
theorem Bb9 {α:Type} (E:Bw α) (hz:0 < E.sz):One (Oc E hz):=fun h u hu=>by obtain ⟨v,rfl,h⟩:=h;simp at hu;subst hu;exact h.one
theorem Cw.one' {α:Type} {E:Bw α} (hE:One E) {w:World}:∀{xs:List α} {cs:am} {G:aq},Cw E w cs xs G->∀u∈cs,u.oneCell'=true
 | [],_,_,h=>by simp [h.1]
 | x::r,_,_,h=>by
  obtain ⟨c1,c2,F1,F2,rfl,rfl,h1,h2⟩:=h;intro u hu;rcases aJ.1 hu with hu|hu
  ·exact hE h1 u hu
  ·exact h2.one' hE u hu
theorem N6.flat {α:Type} {E:Bw α} {w:World} {b:Nat}:∀{xs:List α} {off:Nat} {F:aq},N6 E w b off xs F->∃cs,Cw E w cs xs F/\∀j u,cs[j]?=some u->w.cell? ⟨b,off+j,none⟩=some u
 | [],off,_,h=>⟨[],⟨rfl,h⟩,fun j u hu=>by simp at hu⟩
 | x::r,off,_,h=>by
  obtain ⟨c1,F1,F2,rfl,h1,hc,h2⟩:=h;obtain ⟨c2,hf,hc2⟩:=h2.flat;have hl:=E.len h1;refine ⟨c1++c2,⟨c1,c2,F1,F2,rfl,rfl,h1,hf⟩,fun j u hu=>?_⟩;rcases dY j c1.length with hj|hj
  ·rw [bx hj] at hu;rw [hc j EV];exact hu
  ·rw [bU hj] at hu;have:=hc2 _ _ hu;rw [<-this];congr 2;omega
theorem Cw.cells {α:Type} {E:Bw α} {w:World} {b:Nat}:∀{xs:List α} {cs:am} {off:Nat} {F:aq},Cw E w cs xs F->(∀j u,cs[j]?=some u->w.cell? ⟨b,off+j,none⟩=some u)->N6 E w b off xs F
 | [],_,off,_,h,_=>h.2
 | x::r,_,off,_,h,hc=>by
  obtain ⟨c1,c2,F1,F2,rfl,rfl,h1,h2⟩:=h;have hl:=E.len h1;refine ⟨c1,F1,F2,rfl,h1,fun j hj=>?_,h2.cells fun j u hu=>?_⟩
  ·have:j < c1.length:=EV
   rw [aD this];exact hc j _ (by rw [bx this,aD this])
  ·have:=hc (c1.length+j) u JX;rw [<-this];congr 2;omega
def Hd (F:aq):Prop:=∀g G,F=g::G->g ∉ G
theorem Hd.of {F:aq} (h:F.Nodup):Hd F:=fun g G e=>by subst e;simp at h;exact h.1
theorem Ow.owns {α:Type} {E:Bw α} {t w v} {xs:List α} {F} (h:Ow E t w v xs F):∃cs G,w.ownsRow 0 t E.sz v xs.length cs/\Cw E w cs xs G/\F=v.ownBlock.toList++G:=by
 rcases h with ⟨rfl,rfl,rfl⟩|⟨g,cap,cs,rest,G,rfl,hr,h1,h2,h3,hf,rfl⟩
 ·exact ⟨[],[],⟨EX,.inl ⟨rfl,rfl⟩⟩,⟨rfl,rfl⟩,rfl⟩
 ·refine ⟨cs,G,⟨hf.len,.inr ⟨g,cap,(cs++rest).toArray,rfl,aE _,hr,h1,h2,by simp [h3],?_⟩⟩,hf,rfl⟩;rw [<-hf.len];simp
theorem Ow.ofOwns {α:Type} {E:Bw α} {t w v n} {cs:am} {xs:List α} {G} (h:w.ownsRow 0 t E.sz v n cs) (hf:Cw E w cs xs G) (hn:n=xs.length):Ow E t w v xs (v.ownBlock.toList++G):=by
 subst hn;obtain ⟨hl,h⟩:=h;rcases h with ⟨rfl,h0⟩|⟨g,cap,cur,rfl,_,hg,h1,h2,h3,h4⟩
 ·have:xs=[]:=bE h0;subst this;exact .inl ⟨rfl,rfl,by rw [hf.2];rfl⟩
 ·refine .inr ⟨g,cap,cs,cur.toList.drop cs.length,G,rfl,?_,h1,h2,?_,hf,rfl⟩
  ·have:cs++cur.toList.drop cs.length=cur.toList:=by
    rw [hl,<-h4];simp
   rw [this];exact hg
  ·rw [<-h3];simp;rw [hl];have:=cF E.sz h1;omega
theorem Anq {w:World} {t v n sz} {cs:am} (h:w.ownsRow 0 t sz v n cs):∀b,v.ownBlock=some b->b < w.heap.size:=by
 intro b hb;rcases h.2 with ⟨rfl,_⟩|⟨g,cap,cur,rfl,_,hg,_⟩
 ·cases hb
 ·cases hb;rcases dY g w.heap.size with hlt|hge
  ·exact hlt
  ·rw [ex hge] at hg;cases hg
section
variable {P:Program} {α:Type} {E:Bw α}
structure Apd (E:Bw α) (e:TypeId) (w:World) (v:Value) (xs ys:List α) (F Fy:aq) (v':Value) (w':World) (F':aq):Prop where
 ow:Ow E e w' v' (xs++ys) F'
 hd:Hd F'
 Ax5:F.Nodup->Fy.Nodup->(∀b∈Fy,b ∉ F)->F'.Nodup
 mem:∀b∈F',b∈F\/b∈Fy\/b=w.heap.size
 I5:Ei F w w'
 Arl:Ei v.ownBlock.toList w w'
 val:∃a cap,v'=ab a (xs.length+ys.length) cap
 Aqm:v'.ownBlock=v.ownBlock\/v'.ownBlock=some w.heap.size
 Bh0:∀Gx,F=v.ownBlock.toList++Gx->F'=v'.ownBlock.toList++(Gx++Fy)
theorem Awi {e:TypeId} {w:World} {v:Value} {xs ys:List α} {F Fy:aq} {v' w'} {cs news G} (hown:w.ownsRow 0 e E.sz v xs.length cs) (hf:Cw E w cs xs G) (hF:F=v.ownBlock.toList++G) (hd:Hd F)
  (hfy:Cw E w news ys Fy) (hdis:∀b∈Fy,v.ownBlock≠some b) (h':w'.ownsRow 0 e E.sz v' (xs.length+ys.length) (cs++news)) (hg:w.grownBy w' v.ownBlock)
  (hb:v'.ownBlock=v.ownBlock\/v'.ownBlock=some w.heap.size) (hs:∃a cap,v'=ab a (xs.length+ys.length) cap):∃F',Apd E e w v xs ys F Fy v' w' F':=by
 have hGn:∀b∈G,v.ownBlock≠some b:=fun b hb e=>by
  rw [e] at hF;exact hd b G hF hb
 have hfr:∀b,b < w.heap.size->v.ownBlock≠some b->w'.heap[b]?=w.heap[b]?:=fun b hb hn=>hg.block b hb (fun e=>hn e.symm);have hfl:Cw E w' (cs++news) (xs++ys) (G++Fy):=(hf.frame fun b hb=>hfr b (hf.lt b hb) (hGn b hb)).append (hfy.frame fun b hb=>hfr b (hfy.lt b hb) (hdis b hb));have hvl:=Anq hown;have hhead:∀g,v'.ownBlock=some g->g ∉ G/\g ∉ Fy:=fun g e=>by
  rcases hb with hb|hb
  ·rw [hb] at e;exact ⟨fun hm=>hGn g hm e,fun hm=>hdis g hm e⟩
  ·rw [hb] at e;cases e;exact ⟨fun hm=>Nat.lt_irrefl _ (hf.lt _ hm),fun hm=>Nat.lt_irrefl _ (hfy.lt _ hm)⟩
 refine ⟨v'.ownBlock.toList++(G++Fy),Ow.ofOwns h' hfl EX,?_,?_,?_,?_,⟨hg.os,hg.tape,hg.output,hg.size,fun k hk hm=>hfr k hk fun e=>hm (by rw [e];simp)⟩,hs,hb,fun Gx e=>by rw [hF] at e;rw [List.append_cancel_left e]⟩
 ·intro g G' e;cases hv:v'.ownBlock with
  | none =>
   have hxy:xs++ys=[]:=by
    rcases h'.2 with ⟨rfl,h0⟩|⟨g,cap,cur,rfl,_⟩
    ·exact bE IJ
    ·simp [Value.ownBlock] at hv
   rw [hxy] at hfl;rw [hfl.2,hv] at e;simp at e
  | some g2 =>
   rw [hv] at e;simp at e;obtain ⟨rfl,rfl⟩:=e;have:=hhead g2 hv;simp [this]
 ·intro h1 h2 h3;subst hF;have hn:(G++Fy).Nodup:=by
   rw [bK] at h1 ⊢;exact ⟨h1.2.1,h2,fun a ha b hb e=>h3 b hb (by rw [<-e];simp [ha])⟩
  cases hv:v'.ownBlock with
  | none=>simpa using hn
  | some g2=>have:=hhead g2 hv;simp only [Option.toList_some,dG,dl,aJ];exact ⟨by simp [this],hn⟩
 ·intro b hm;simp at hm;rcases hm with hm|hm|hm
  ·rcases hb with hb|hb
   ·rw [hb] at hm;left;rw [hF];simp [hm]
   ·rw [hb] at hm;cases hm;simp
  ·left;rw [hF];simp [hm]
  ·simp [hm]
 ·exact ⟨hg.os,hg.tape,hg.output,hg.size,fun k hk hm=>hfr k hk fun e=>hm (by rw [hF,e];simp)⟩
theorem Aq4 (hone:One E) (hsz:0 < E.sz) {o:Oper} {a:Act} {K:Act->World->Prop} {Q:Exit->Act->World->Prop} {w:World} (s x:Operand) (t:TypeId)
  (ho:o.op=.call { callee:=.builtin .append,args:=#[s,x],argTypes:=#[t,t] }) (e:TypeId) (z:Value) (bytes:Nat) (ht:P.underlying t=some (.slice e))
  (hinfo:(P.info? e).map (fun i=>(i.zero,i.size,i.bytes))=some (some z,E.sz,bytes)) (hzs:z.cells.size=E.sz)
  (v:Value) (xs:List α) (F:aq) (hs:a.eval s=v) (hown:Ow E e w v xs F) (hd:Hd F)
  (ao:aj) (ys:List α) (c:Nat) (hx:a.eval x=ab ao ys.length c) (news:am) (Fy:aq) (hfy:Cw E w news ys Fy)
  (hsrc:(ao=none/\c=0/\ys=[])\/∃ad,ao=some ad/\∀j u,news[j]?=some u->w.cell? (ad.add j)=some u)
  (hdis:∀b∈Fy,v.ownBlock≠some b) (h63:xs.length+ys.length<=maxLen) (hbytes:(xs.length+ys.length) * bytes<=140737488355328)
  (h:∀v' w' F',Apd E e w v xs ys F Fy v' w' F'->K (a.put o.dst v') w'):o.wp P a w K Q:=by
 obtain ⟨i,hi,hzz⟩:=cu.1 hinfo;simp only [Prod.mk.injEq] at hzz;obtain ⟨hz,hsize,hby⟩:=hzz;obtain ⟨cs,G,hrow,hf,hF⟩:=hown.owns;rcases hsrc with ⟨rfl,rfl,rfl⟩|⟨ad,rfl,hnews⟩
 ·have hn0:news=[]:=hfy.1;subst hn0;unfold Oper.wp execOp;simp only [ho,resolve,invoke,builtin,Sem.run_bind,Sem.run_pure,Result.andThen_ok,cT,cH,dg,hs,hx];have hrun:=run_append_owned_none (P:=P) w 0 t o.type e i E.sz ht hi _ xs.length cs hrow;rw [show ([]:List α).length=0 from rfl,hrun];obtain ⟨F',hA⟩:=Awi (ys:=[]) hrow hf hF hd hfy hdis (by simpa using hrow) (World.grownBy.refl _ _) (.inl rfl) (by obtain ⟨a,c,rfl⟩:=hown.slice;exact ⟨a,c,EX⟩);exact h _ _ _ hA
 ·obtain ⟨v',w',hr,h2,h3,h4,h5⟩:=run_append_own_at (P:=P) w 0 t o.type e i z E.sz bytes ht hi hz hsize hby hzs hsz v xs.length cs hrow ad ys.length c news hfy.len hnews (hfy.one' hone) h63 hbytes (aE _);unfold Oper.wp execOp;simp only [ho,resolve,invoke,builtin,Sem.run_bind,Sem.run_pure,Result.andThen_ok,cT,cH,dg,hs,hx,hr];have hs2:∃a cap,v'=ab a (xs.length+ys.length) cap:=by
   rcases h2.2 with ⟨rfl,h0⟩|⟨g,cap,cur,rfl,_⟩
   ·exact ⟨none,0,by rw [h0]⟩
   ·exact ⟨_,_,rfl⟩
  obtain ⟨F',hA⟩:=Awi (ys:=ys) hrow hf hF hd hfy hdis h2 h3 h5 hs2;exact h _ _ _ hA
theorem O7 (hone:One E) (hsz:0 < E.sz) {ops:Array Oper} {rest:List Oper} {o:Oper} {a:Act} {Q:Exit->Act->World->Prop} {w:World} (hgd:o.guard=none) (s x:Operand) (t:TypeId)
  (ho:o.op=.call { callee:=.builtin .append,args:=#[s,x],argTypes:=#[t,t] }) (e:TypeId) (z:Value) (bytes:Nat) (ht:P.underlying t=some (.slice e))
  (hinfo:(P.info? e).map (fun i=>(i.zero,i.size,i.bytes))=some (some z,E.sz,bytes)) (hzs:z.cells.size=E.sz)
  (v:Value) (xs:List α) (F:aq) (hs:a.eval s=v) (hown:Ow E e w v xs F) (hd:Hd F)
  (ao:aj) (ys:List α) (c:Nat) (hx:a.eval x=ab ao ys.length c) (news:am) (Fy:aq) (hfy:Cw E w news ys Fy)
  (hsrc:(ao=none/\c=0/\ys=[])\/∃ad,ao=some ad/\∀j u,news[j]?=some u->w.cell? (ad.add j)=some u)
  (hdis:∀b∈Fy,v.ownBlock≠some b) (h63:xs.length+ys.length<=maxLen) (hbytes:(xs.length+ys.length) * bytes<=140737488355328)
  (h:∀v' w' F',Apd E e w v xs ys F Fy v' w' F'->wpList P ops Q rest (a.put o.dst v') w'):wpList P ops Q (o::rest) a w :=
 wpList_plain hgd fun _ hK=>Aq4 hone hsz s x t ho e z bytes ht hinfo hzs v xs F hs hown hd ao ys c hx news Fy hfy hsrc hdis h63 hbytes fun v' w' F' hA=>hK _ _ (h v' w' F' hA)
theorem Aoc (hone:One E) (hsz:0 < E.sz) {ops:Array Oper} {o:Oper} {a:Act} {K:Act->World->Prop} {Q:Exit->Act->World->Prop} {Z:Prop} {w:World} (hgd:o.guard=none) (s x:Operand) (t:TypeId)
  (ho:o.op=.call { callee:=.builtin .append,args:=#[s,x],argTypes:=#[t,t] }) (e:TypeId) (z:Value) (bytes:Nat) (ht:P.underlying t=some (.slice e))
  (hinfo:(P.info? e).map (fun i=>(i.zero,i.size,i.bytes))=some (some z,E.sz,bytes)) (hzs:z.cells.size=E.sz)
  (v:Value) (xs:List α) (F:aq) (hs:a.eval s=v) (hown:Ow E e w v xs F) (hd:Hd F)
  (ao:aj) (ys:List α) (c:Nat) (hx:a.eval x=ab ao ys.length c) (news:am) (Fy:aq) (hfy:Cw E w news ys Fy)
  (hsrc:(ao=none/\c=0/\ys=[])\/∃ad,ao=some ad/\∀j u,news[j]?=some u->w.cell? (ad.add j)=some u)
  (hdis:∀b∈Fy,v.ownBlock≠some b) (h63:xs.length+ys.length<=maxLen) (hbytes:(xs.length+ys.length) * bytes<=140737488355328)
  (h:∀v' w' F',Apd E e w v xs ys F Fy v' w' F'->K (a.put o.dst v') w'):if Region.wanted o (yielded ops a.tmps)=true then Oper.wp P o a w K Q else Z:=by
 have hw:Region.wanted o (yielded ops a.tmps)=true:=by simp [Region.wanted,hgd]
 rw [aH hw];exact Aq4 hone hsz s x t ho e z bytes ht hinfo hzs v xs F hs hown hd ao ys c hx news Fy hfy hsrc hdis h63 hbytes h
end
theorem Ow.own_mem {α:Type} {E:Bw α} {t w v} {xs:List α} {F} (h:Ow E t w v xs F):∀b,v.ownBlock=some b->b∈F:=fun b hb=>by
 obtain ⟨cs,G,_,_,rfl⟩:=h.owns;simp [hb]
def Bgd {α:Type} (E:Bw α) (x:α) (w:World) (e:Ending) (w':World):Prop :=
 ∃v F,e=.returned v/\Ru E w' v x F/\(∀b∈F,w.heap.size<=b)/\Below w.heap.size w w'
theorem Ru.weak {α:Type} {O R:Bw α} (h:Mu O R) {w v x F} (ho:Ru O w v x F):∃F',(∀b∈F',b∈F)/\Ru R w v x F':=by
 obtain ⟨cs,hv,hx⟩:=ho;obtain ⟨F',h1,h2⟩:=h.Kz hx;exact ⟨F',h1,cs,hv,h2⟩
theorem Ow.empty {α:Type} {E:Bw α} {t:TypeId} {w:World} {g:Nat} (h:If w g t []):Ow E t w (ab (some ⟨g,0,none⟩) 0 0) ([]:List α) [g] :=
 .inr ⟨g,0,[],[],[],rfl,FF,EX,EX,EX,⟨rfl,rfl⟩,rfl⟩
theorem Hd.one (g:Nat):Hd [g]:=fun a G e=>by cases e;simp
theorem Hd.nil:Hd []:=fun a G e=>by cases e
theorem Sl.src {α:Type} {E:Bw α} {w:World} {v:Value} {xs:List α} {F} (h:Sl E w v xs F):∃ao c news Fy,v=ab ao xs.length c/\xs.length<=maxLen/\Cw E w news xs Fy/\(∀b∈Fy,b∈F) /\
  ((ao=none/\c=0/\xs=[])\/∃ad,ao=some ad/\∀j u,news[j]?=some u->w.cell? (ad.add j)=some u):=by
 obtain ⟨a,cap,rfl,hl,⟨rfl,rfl,h0⟩|⟨b,off,F',rfl,hne,rfl,hc⟩⟩:=h
 ·refine ⟨a,cap,[],[],rfl,EX,⟨rfl,rfl⟩,EX,?_⟩;cases a with
  | none=>exact .inl ⟨rfl,h0 rfl,rfl⟩
  | some ad=>exact .inr ⟨ad,rfl,fun j u hu=>by simp at hu⟩
 ·obtain ⟨cs,hf,hcs⟩:=hc.flat;refine ⟨_,cap,cs,F',rfl,EV,hf,fun b hb=>by simp [hb],.inr ⟨_,rfl,fun j u hu=>?_⟩⟩;rw [<-hcs j u hu];unfold Addr.add;split <;> simp_all
theorem Sl.takeS {α:Type} {E:Bw α} {w:World} {a:aj} {n cap:Nat} {xs:List α} {F} (h:Sl E w (ab a n cap) xs F) (k:Nat) (hk:k<=xs.length):∃F',(∀b∈F',b∈F)/\Sl E w (ab a k cap) (xs.take k) F':=by
 obtain ⟨a',cap',hv,hl,h⟩:=h;cases hv;have hlen:(xs.take k).length=k:=FB
 rcases h with ⟨rfl,rfl,h0⟩|⟨b,off,F',rfl,hne,rfl,hc⟩
 ·simp at hk;subst hk;exact ⟨[],EX,a,cap,EX,⟨EX,hl.2⟩,.inl ⟨EX,rfl,h0⟩⟩
 ·by_cases hk0:k=0
  ·subst hk0;exact ⟨[],EX,some ⟨b,off,none⟩,cap,EX,⟨EX,hl.2⟩,.inl ⟨EX,rfl,fun e=>by cases e⟩⟩
  ·obtain ⟨cs,hf,hcs⟩:=hc.flat;have e:xs=xs.take k++xs.drop k:=EX
   rw [e] at hf;obtain ⟨c1,c2,G1,G2,rfl,rfl,h1,h2⟩:=hf.split;refine ⟨b::G1,by intro x hx;simp at hx ⊢;rcases hx with hx|hx <;> simp [hx],_,cap,by rw [hlen],by rw [hlen];omega,.inr ⟨b,off,G1,rfl,fun e=>by rw [e] at hlen;simp at hlen;omega,rfl,h1.cells fun j u hu=>hcs j u ?_⟩⟩;have hj:j < c1.length:=by
    rcases dY j c1.length with h|h
    ·exact h
    ·rw [bn h] at hu;cases hu
   rw [bx hj];exact hu
def Aar {α:Type} (E:Bw α):Prop:=∀{w cs x F},E.Kz w cs x F->F=[]
theorem Ek:Aar Bb:=fun h=>h.2
theorem Hv:Aar A8:=fun h=>h.2.2
theorem Cw.scal {α:Type} {E:Bw α} (hE:Aar E) {w:World}:∀{xs:List α} {cs:am} {G:aq},Cw E w cs xs G->G=[]
 | [],_,_,h=>h.2
 | x::r,_,_,h=>by
  obtain ⟨c1,c2,F1,F2,rfl,rfl,h1,h2⟩:=h;rw [hE h1,h2.scal hE];rfl
theorem Ow.scal {α:Type} {E:Bw α} (hE:Aar E) {t w v} {xs:List α} {F} (h:Ow E t w v xs F):F=v.ownBlock.toList:=by
 obtain ⟨cs,G,_,hf,rfl⟩:=h.owns;rw [hf.scal hE,bg]
def Mix {α:Type} (O R:Bw α) (t:TypeId) (B1 B0:Nat) (w:World) (v:Value) (xs:List α) (k:Nat):Prop :=
 (v=ab none 0 0/\xs=[])\/∃g cap c1 c2 rest F G,v=ab (some ⟨g,0,none⟩) xs.length cap/\If w g t (c1++c2++rest)/\xs.length<=cap/\cap<=maxLen/\c1.length+c2.length+rest.length=cap * O.sz /\
  Cw O w c1 (xs.take k) F/\Cw R w c2 (xs.drop k) G/\(g::F).Nodup/\(∀b∈g::F,B0<=b)/\∀b∈G,b < B1
section
variable {α:Type} {O R:Bw α} {t:TypeId} {B1 B0:Nat} {w:World} {v:Value} {xs:List α}
theorem Mix.start (hsz:R.sz=O.sz) {F:aq} (h:Ow R t w v xs F) (h1:∀b,v.ownBlock=some b->B0<=b) (h2:∀b∈F,v.ownBlock=some b\/b < B1) (hd:Hd F):Mix O R t B1 B0 w v xs 0:=by
 rcases h with ⟨rfl,rfl,_⟩|⟨g,cap,cs,rest,G,rfl,hr,h3,h4,h5,hf,rfl⟩
 ·exact .inl ⟨rfl,rfl⟩
 ·refine .inr ⟨g,cap,[],cs,rest,[],G,rfl,GH,h3,h4,by simpa [<-hsz] using h5,⟨rfl,EX⟩,by simpa using hf,EX,by simpa using h1 g rfl,fun b hb=>?_⟩;rcases h2 b FD with e|e
  ·cases e;exact absurd hb (hd g G rfl)
  ·exact e
theorem Mix.done (h:Mix O R t B1 B0 w v xs xs.length):∃F,Ow O t w v xs F/\F.Nodup/\∀b∈F,B0<=b:=by
 rcases h with ⟨rfl,rfl⟩|⟨g,cap,c1,c2,rest,F,G,rfl,hr,h3,h4,h5,hf,hf2,hn,hb,_⟩
 ·exact ⟨[],.inl ⟨rfl,rfl,rfl⟩,EX,EX⟩
 ·have:c2=[]:=by simp at hf2;exact hf2.1
  subst this;exact ⟨g::F,.inr ⟨g,cap,c1,rest,F,rfl,GH,h3,h4,by simpa using h5,by simpa using hf,rfl⟩,hn,hb⟩
theorem Mix.frame {w':World} {k:Nat} (h:Mix O R t B1 B0 w v xs k) (hb:∀b,b < w.heap.size->b < B1\/B0<=b->w'.heap[b]?=w.heap[b]?):Mix O R t B1 B0 w' v xs k:=by
 rcases h with h|⟨g,cap,c1,c2,rest,F,G,hv,hr,h3,h4,h5,hf,hf2,hn,hb1,hb2⟩
 ·exact .inl h
 ·exact .inr ⟨g,cap,c1,c2,rest,F,G,hv,hr.I5 (hb g hr.lt (.inr (hb1 g EX))),h3,h4,h5,hf.frame fun b h=>hb b (hf.lt b h) (.inr (hb1 b JM)),hf2.frame fun b h=>hb b (hf2.lt b h) (.inl (hb2 b h)),hn,hb1,hb2⟩
theorem Mix.setFar {k:Nat} (h:Mix O R t B1 B0 w v xs k) {p:Addr} (h1:B1<=p.block) (h2:p.block < B0) (u:Value):Mix O R t B1 B0 (w.setCell p u) v xs k :=
 h.frame fun b _ hb=>Below.heap_setCell _ _ _ _ EV
theorem Mix.below {w':World} {k:Nat} (h:Mix O R t B1 B0 w v xs k) (hb:Below w.heap.size w w'):Mix O R t B1 B0 w' v xs k:=h.frame fun b h _=>hb.block b h
theorem Mix.slice {k:Nat} (h:Mix O R t B1 B0 w v xs k):∃a cap,v=ab a xs.length cap:=by
 rcases h with ⟨rfl,rfl⟩|⟨g,cap,c1,c2,rest,F,G,rfl,_⟩
 ·exact ⟨none,0,rfl⟩
 ·exact ⟨_,_,rfl⟩
theorem Mix.at {k:Nat} (h:Mix O R t B1 B0 w v xs k) (hsz:R.sz=O.sz) (hk:k < xs.length) (hB:B0<=w.heap.size) (h01:B1<=B0) :
  ∃g cap A c B Fk,v=ab (some ⟨g,0,none⟩) xs.length cap/\B0<=g/\If w g t (A++c++B)/\A.length=k * O.sz/\c.length=O.sz/\R.Kz w c xs[k] Fk/\(∀b∈Fk,b < B1) /\
   ∀w' c' F',If w' g t (A++c'++B)->O.Kz w' c' xs[k] F'->F'.Nodup->(∀b∈F',w.heap.size<=b)->(∀b,b < w.heap.size->b≠g->w'.heap[b]?=w.heap[b]?)->Mix O R t B1 B0 w' v xs (k+1):=by
 rcases h with ⟨_,rfl⟩|⟨g,cap,c1,c2,rest,F,G,rfl,hr,h3,h4,h5,hf,hf2,hn,hb1,hb2⟩
 ·simp at hk
 ·rw [bP hk] at hf2;obtain ⟨c,c3,G1,G2,rfl,rfl,h6,h7⟩:=hf2;have hc1:c1.length=k * O.sz:=by rw [hf.len,aO,cW EV]
  have hlc:=R.len h6;refine ⟨g,cap,c1,c,c3++rest,G1,rfl,hb1 g EX,GH,hc1,by rw [<-hsz];exact hlc,h6,fun b hb=>hb2 b FD,fun w' c' F' hr' h8 hn' hF' hk'=>?_⟩;have hlc':=O.len h8;have hne:∀b∈F++G2,b < w.heap.size/\b≠g:=fun b hb=>by
   rcases aJ.1 hb with hb|hb
   ·refine ⟨hf.lt b hb,fun e=>?_⟩;subst e;simp at hn;exact hn.1 hb
   ·have:=hb2 b FD;have:=hb1 g EX;exact ⟨EV,EV⟩
  refine .inr ⟨g,cap,c1++c',c3,rest,F++F',G2,rfl,by simpa using hr',h3,h4,?_,?_,?_,?_,?_,fun b hb=>hb2 b FD⟩
  ·simp only [aA] at h5 ⊢;omega
  ·rw [aR hk];exact (hf.frame fun b hb=>hk' b (hne b FD).1 (hne b FD).2).append (Cw.one h8)
  ·exact h7.frame fun b hb=>hk' b (hne b FD).1 (hne b FD).2
  ·have hg:=hr.lt;simp only [dl,aJ,not_or,bK] at hn ⊢;exact ⟨⟨hn.1,fun hm=>by have:=hF' g hm;omega⟩,hn.2,hn',fun a ha b hb e=>by have:=hf.lt a ha;have:=hF' b hb;omega⟩
  ·intro b hb;simp at hb;rcases hb with rfl|hb|hb
   ·exact hb1 b EX
   ·exact hb1 b FD
   ·have:=hF' b hb;omega
end
theorem Ru.I5 {α:Type} {E:Bw α} {w w':World} {v x F K} (h:Ru E w v x F) (hk:Ei K w w') (hd:∀b∈F,b ∉ K):Ru E w' v x F:=by
 obtain ⟨cs,hv,h⟩:=h;exact ⟨cs,hv,E.frame h fun b hb=>hk.block b (E.lt h b hb) (hd b hb)⟩
theorem Ru.lt {α:Type} {E:Bw α} {w:World} {v x F} (h:Ru E w v x F):∀b∈F,b < w.heap.size:=by
 obtain ⟨cs,hv,h⟩:=h;exact E.lt h
theorem Ru.drewN {α:Type} {E:Bw α} {w:World} {v x F} (h:Ru E w v x F) (n:Nat):Ru E (w.drewN n) v x F:=by
 obtain ⟨cs,hv,h⟩:=h;exact ⟨cs,hv,E.frame h fun _ _=>rfl⟩
theorem Sl.drewN {α:Type} {E:Bw α} {w:World} {v} {xs:List α} {F} (h:Sl E w v xs F) (n:Nat):Sl E (w.drewN n) v xs F:=h.frame fun _ _=>rfl
theorem Sl.I5 {α:Type} {E:Bw α} {w w':World} {v} {xs:List α} {F K} (h:Sl E w v xs F) (hk:Ei K w w') (hd:∀b∈F,b ∉ K) (hz:0 < E.sz:=by decide):Sl E w' v xs F :=
 h.frame fun b hb=>hk.block b (h.lt hz b hb) (hd b hb)
theorem Ow.drewN {α:Type} {E:Bw α} {t:TypeId} {w:World} {v} {xs:List α} {F} (h:Ow E t w v xs F) (n:Nat):Ow E t (w.drewN n) v xs F:=h.frame fun _ _=>rfl
theorem If.drewN {w g t cs} (h:If w g t cs) (n:Nat):If (w.drewN n) g t cs:=h
section
variable {P:Program} {ops:Array Oper} {Q:Exit->Act->World->Prop} {md:Region.Mode} {S:World->Prop} {X:Nat->Bool}
def Ez (P:Program) (md:Region.Mode) (ops:Array Oper) (Q:Exit->Act->World->Prop) (S:World->Prop) (X:Nat->Bool):Nat->Array Bool->Act->World->Prop
 | 0,listed,a,w=>Region.ready md ops listed=[]/\Q .normal a w
 | f+1,listed,a,w=>(Region.ready md ops listed=[]->Q .normal a w) /\
  ∀i∈Region.ready md ops listed,wpOp P ops Q i (fun a' w'=>(X i=false->S w')/\Ez P md ops Q S X f (listed.setIfInBounds i true) a' w') a w
theorem Ez.any:∀(f:Nat) (listed:Array Bool) (a:Act) (w:World),Ez P md ops Q S X f listed a w->wpAny P md ops Q f listed a w
 | 0,_,_,_,h=>h
 | f+1,_,_,_,h=>⟨h.1,fun i hi=>wpOp_mono (fun a' w' h'=>Ez.any f _ a' w' h'.2) (h.2 i hi)⟩
def Zl (md:Region.Mode) (ops:Array Oper) (listed:Array Bool):Prop:=∀j oj,ops[j]?=some oj->listed.getD j false=true->∀e∈oj.after,Region.binds md e=true->listed.getD e.on false=true
def Mv (md:Region.Mode) (ops:Array Oper) (listed:Array Bool):Bool :=
 (List.range ops.size).all fun j=>!listed.getD j false || ((ops[j]?).map fun o=>o.after.all fun e=>!Region.binds md e || listed.getD e.on false).getD true
theorem Aig {listed:Array Bool} (h:Mv md ops listed=true):Zl md ops listed:=fun j oj hj hl e he hb=>by
 have h1:=aV.1 h j (cO.2 (bG.1 hj).1);rw [hl,hj] at h1;simp only [Bool.not_true,fA,bV,fP] at h1;have h2:=Array.all_eq_true'.1 h1 e he;rw [hb] at h2;simpa using h2
theorem Zl.set {listed:Array Bool} {i:Nat} (h:Zl md ops listed) (hi:i∈Region.ready md ops listed):Zl md ops (listed.setIfInBounds i true):=fun j oj hj hl e he hb=>by
 obtain ⟨_,oi,hoi,hall⟩:=mem_ready.1 hi;by_cases hij:i=j
 ·subst hij;obtain rfl:=Option.some.inj (hj.symm.trans hoi);exact getD_set_true (hall e he hb)
 ·rw [getD_set_ne false hij] at hl;exact getD_set_true (h j oj hj hl e he hb)
def Sw (md:Region.Mode) (ops:Array Oper) (i:Nat):Nat->Nat->Bool
 | 0,_=>false
 | f+1,j=>((ops[j]?).map fun o=>o.after.any fun e=>Region.binds md e && (e.on == i || Sw md ops i f e.on)).getD false
theorem Wd {listed:Array Bool} {i:Nat} (hc:Zl md ops listed):∀(f j:Nat),(∀oj,ops[j]?=some oj->∀e∈oj.after,Region.binds md e=true->listed.getD e.on false=true)->Sw md ops i f j=true->listed.getD i false=true
 | 0,_,_,h=>by cases h
 | f+1,j,hd,h=>by
  unfold Sw at h;cases hj:ops[j]? with
  | none=>rw [hj] at h;cases h
  | some o =>
   rw [hj] at h;simp only [bV,fP] at h;obtain ⟨e,he,hb⟩:=Array.any_eq_true'.1 h;simp only [aw,bW,eQ] at hb;have h1:=hd o hj e he hb.1;rcases hb.2 with h2|h2
   ·rw [<-h2];exact h1
   ·exact Wd hc f e.on (fun oe ho=>hc e.on oe ho h1) h2
def Lv (md:Region.Mode) (ops:Array Oper) (X:Nat->Bool) (i:Nat):Bool:=(List.range ops.size).all fun j=>!X j || Sw md ops i ops.size j
theorem Ya {listed:Array Bool} {i:Nat} (h:listed.getD i true=false):listed.getD i false=false:=by
 rcases dY i listed.size with h'|h'
 ·simp [h'] at h ⊢;exact h
 ·simp [ex h'] at h
theorem Ez.first {i:Nat} {oi:Oper} {v:Value} (hi:ops[i]?=some oi) (hsel:∀(j:Nat) (o:Oper) cs b,ops[j]?=some o->o.op≠.select cs b)
  (hQ:∀c a w,Q (.panic c) (a.put oi.dst v) w->Q (.panic c) a w) (hX:Lv md ops X i=true) :
  ∀(f:Nat) (listed:Array Bool) (a:Act) (w:World),
   (∀j oj,ops[j]?=some oj->j≠i->listed.getD j true=false->(∀e∈oj.after,Region.binds md e=true->e.on≠i)->oi.apart ops oj=true) ->
   Zl md ops listed->i∈Region.ready md ops listed->YieldsIf P ops S oi v a->S w->Ez P md ops Q S X f (listed.setIfInBounds i true) (a.put oi.dst v) w->Ez P md ops Q S X (f+1) listed a w:=by
 intro f
 induction f with
 | zero =>
  intro listed a w _ _ hr hy hS H;refine ⟨fun h=>HH,fun j hj=>?_⟩;by_cases hji:j=i
  ·exact EI
  ·have:=ready_mono hj hji;rw [H.1] at this;cases this
 | succ f ih =>
  intro listed a w hfree hcl hr hy hS H;refine ⟨fun h=>HH,fun j hj=>?_⟩;by_cases hji:j=i
  ·exact EI
  ·obtain ⟨hju,oj,hoj,hall⟩:=mem_ready.1 hj;have hiu:=Ya (mem_ready.1 hr).1;have hnot:∀e∈oj.after,Region.binds md e=true->e.on≠i:=fun e he hb heq=>by
    have h1:=hall e he hb;rw [heq,hiu] at h1;cases h1
   have hXj:X j=false:=by
    cases hx:X j
    ·rfl
    ·have h1:=aV.1 hX j (cO.2 (bG.1 hoj).1);rw [hx] at h1;have h2:=Wd hcl ops.size j (fun o ho=>by obtain rfl:=Option.some.inj (ho.symm.trans hoj);exact hall) HR;rw [hiu] at h2;cases h2
   have h2:=wpOp_putIf hoj (hfree j oj hoj hji hju hnot) (fun cs b=>hsel i oi cs b hi) (fun cs b=>hsel j oj cs b hoj) hQ hy (H.2 j (ready_mono hj hji));refine wpOp_mono (fun a' w' h3=>⟨fun _=>h3.2.1 hXj,ih (listed.setIfInBounds j true) a' w' (fun k ok hk hki hun hno=>hfree k ok hk hki ?_ hno) (hcl.set hj) (ready_mono hr (Ne.symm hji)) h3.1 (h3.2.1 hXj) ?_⟩) h2
   ·by_cases hjk:j=k
    ·subst hjk;exact hju
    ·rw [getD_set_ne true hjk] at hun;exact hun
   ·rw [dX _ _ hji];exact h3.2.2
theorem Ez.take {i:Nat} {oi:Oper} {v:Value} {f:Nat} {listed:Array Bool} {a:Act} {w:World} (hi:ops[i]?=some oi)
  (hs:Region.noSelect ops=true) (hf:Region.free md ops listed i=true) (hr:(Region.ready md ops listed).contains i=true) (hX:Lv md ops X i=true) (hc:Mv md ops listed=true)
  (hQ:∀c a w,Q (.panic c) (a.put oi.dst v) w->Q (.panic c) a w) (hy:YieldsIf P ops S oi v a) (hS:S w)
  (h:Ez P md ops Q S X f (listed.setIfInBounds i true) (a.put oi.dst v) w):Ez P md ops Q S X (f+1) listed a w :=
 Ez.first hi (Region.noSelect_spec hs) hQ hX f listed a w (Region.free_spec hi hf) (Aig hc) GH hy hS h
theorem Ez.only {i:Nat} {o:Oper} {f:Nat} {listed:Array Bool} {a:Act} {w:World} (hr:Region.ready md ops listed=[i]) (ho:ops[i]?=some o)
  (h:∀K':Act->World->Prop,Shut (∀a w,(X i=false->S w)->Ez P md ops Q S X f (listed.setIfInBounds i true) a w->K' a w)->if Region.wanted o (yielded ops a.tmps)=true then Oper.wp P o a w K' Q else K' (a.put o.dst undef) w) :
  Ez P md ops Q S X (f+1) listed a w :=
 by
 refine ⟨fun h0=>(by rw [hr] at h0;cases h0),fun j hj=>?_⟩;rw [hr] at hj;obtain rfl:j=i:=HZ
 exact wpOp_step ho (fun K' hK=>h K' (fun a w hS hW=>hK a w ⟨hS,hW⟩))
theorem Ez.two {i j:Nat} {oi oj:Oper} {f:Nat} {listed:Array Bool} {a:Act} {w:World} (hr:Region.ready md ops listed=[i,j]) (hoi:ops[i]?=some oi) (hoj:ops[j]?=some oj)
  (h:∀K':Act->World->Prop,Shut (∀a w,(X i=false->S w)->Ez P md ops Q S X f (listed.setIfInBounds i true) a w->K' a w)->if Region.wanted oi (yielded ops a.tmps)=true then Oper.wp P oi a w K' Q else K' (a.put oi.dst undef) w)
  (h2:∀K':Act->World->Prop,Shut (∀a w,(X j=false->S w)->Ez P md ops Q S X f (listed.setIfInBounds j true) a w->K' a w)->if Region.wanted oj (yielded ops a.tmps)=true then Oper.wp P oj a w K' Q else K' (a.put oj.dst undef) w) :
  Ez P md ops Q S X (f+1) listed a w:=by
 refine ⟨fun h0=>(by rw [hr] at h0;cases h0),fun k hk=>?_⟩;rw [hr] at hk;simp only [aG,aT,bl] at hk;rcases hk with rfl|rfl
 ·exact wpOp_step hoi (fun K' hK=>h K' (fun a w hS hW=>hK a w ⟨hS,hW⟩))
 ·exact wpOp_step hoj (fun K' hK=>h2 K' (fun a w hS hW=>hK a w ⟨hS,hW⟩))
theorem Ez.done {listed:Array Bool} {a:Act} {w:World} (hr:Region.ready md ops listed=[]) (h:Q .normal a w):∀f,Ez P md ops Q S X f listed a w
 | 0=>⟨hr,h⟩
 | _+1=>⟨fun _=>h,by rw [hr];simp⟩
theorem Ez.start {id:Nat} {a:Act} {w:World} (hm:P.follows .mixedOrders=true) (h:Ez P .any ops Q S X ops.size (Array.replicate ops.size false) a w.drew):(Code.region id ops true).wp P Q a w :=
 wp_region_any hm (Ez.any _ _ _ _ h)
end
theorem O3 {a b:am} (h:Value.agg a.toArray=.agg b.toArray):a=b:=by simpa using h
inductive Pc:Type 1
 | row (g:Nat) (t:TypeId) (o:Nat) (A cs B:List Value)
 | sl {α:Type} (E:Bw α) (v:Value) (xs:List α) (F:List Nat)
 | ow {α:Type} (E:Bw α) (t:TypeId) (v:Value) (xs:List α) (F:List Nat)
 | isv {α:Type} (E:Bw α) (v:Value) (x:α) (F:List Nat)
 | own {α:Type} (E:Bw α) (v:Value) (x:α) (F:List Nat)
 | cel (b o:Nat) (cs:List Value)
 | flat {α:Type} (E:Bw α) (cs:List Value) (xs:List α) (F:List Nat)
def Pc.P:Pc->World->Prop
 | .row g t o A cs B,w=>A.length=o/\If w g t (A++cs++B)
 | .sl E v xs F,w=>0 < E.sz/\Sl E w v xs F
 | .ow E t v xs F,w=>F.Nodup/\Ow E t w v xs F
 | .isv E v x F,w=>Ru E w v x F
 | .own E v x F,w=>F.Nodup/\Ru E w v x F
 | .cel b o cs,w=>cs≠[]/\w.rangeAt b o cs
 | .flat E cs xs F,w=>F.Nodup/\Cw E w cs xs F
def Pc.F:Pc->aq
 | .row g ..=>[g]
 | .sl _ _ _ F|.ow _ _ _ _ F|.isv _ _ _ F|.own _ _ _ F|.flat _ _ _ F=>F
 | .cel b ..=>[b]
def Pc.mu:Pc->Bool
 | .row .. | .ow .. | .own .. | .flat ..=>true
 | _=>false
theorem Pc.st (p:Pc) {w w':World} (h:p.P w) (hF:∀b∈p.F,w'.heap[b]?=w.heap[b]?):p.P w':=by
 cases p with
 | row g t o A cs B=>exact ⟨h.1,h.2.I5 (hF g IW)⟩
 | sl E v xs F=>exact ⟨h.1,h.2.frame hF⟩
 | ow E t v xs F=>exact ⟨h.1,h.2.frame hF⟩
 | isv E v x F=>obtain ⟨cs,hv,h⟩:=h;exact ⟨cs,hv,E.frame h hF⟩
 | own E v x F=>obtain ⟨hn,cs,hv,h⟩:=h;exact ⟨hn,cs,hv,E.frame h hF⟩
 | cel b o cs=>exact ⟨h.1,fun j v hv=>(World.cell?_of_block (w:=w) (hF b IW)).trans (h.2 j v hv)⟩
 | flat E cs xs F=>exact ⟨h.1,h.2.frame hF⟩
theorem Pc.lt (p:Pc) {w:World} (h:p.P w):∀b∈p.F,b < w.heap.size:=by
 cases p with
 | row g t o A cs B=>intro b hb;simp [Pc.F] at hb;subst hb;exact h.2.lt
 | sl E v xs F=>exact h.2.lt h.1
 | ow E t v xs F=>exact h.2.lt
 | isv E v x F=>obtain ⟨cs,hv,h⟩:=h;exact E.lt h
 | own E v x F=>obtain ⟨_,cs,hv,h⟩:=h;exact E.lt h
 | cel b o cs =>
  intro c hc;simp [Pc.F] at hc;subst hc;cases cs with
  | nil=>exact absurd rfl h.1
  | cons v r=>exact World.block_lt_of_cell? w _ (h.2 0 v rfl)
 | flat E cs xs F=>exact h.2.lt
def Adi (p q:Pc):Prop:=(p.mu || q.mu)=true->∀b∈p.F,b ∉ q.F
theorem Adi.symm {p q:Pc} (h:Adi p q):Adi q p:=fun hm b hb hp=>h (by rw [Bool.or_comm];exact hm) b hp hb
def Si:List Pc->Prop
 | []=>True
 | p::R=>(∀q∈R,Adi p q)/\Si R
def Od (H:List Pc) (w:World):Prop:=∀p∈H,p.P w
theorem I4 {p:Pc} {w:World} (h:p.P w):Od [p] w:=fun q hq=>by simp at hq;subst hq;exact h
def fp:List Pc->aq
 | []=>[]
 | p::R=>p.F++fp R
theorem Ro {b:Nat}:∀{H:List Pc},b∈fp H↔∃p∈H,b∈p.F
 | []=>by simp [fp]
 | p::R=>by simp [fp,Ro (H:=R)]
theorem Od.st {H:List Pc} {w w':World} (h:Od H w) (hF:∀p∈H,∀b∈p.F,w'.heap[b]?=w.heap[b]?):Od H w':=fun p hp=>p.st (h p hp) (hF p hp)
theorem Od.below {H:List Pc} {w w':World} (h:Od H w) (hb:Below w.heap.size w w'):Od H w':=h.st fun p hp b hm=>hb.block b (p.lt (h p hp) b hm)
structure St (G D:aq) (w0:World) (H:List Pc) (w:World):Prop where
 I5:Ei G w0 w
 on:Od H w
 sep:Si H
 Acz:∀p∈H,∀b∈p.F,b∈G\/w0.heap.size<=b\/(p.mu=false/\b∈D)
section
variable {G D:aq} {w0:World}
theorem Si.perm2 {p q:Pc} {R:List Pc} (h:Si (p::q::R)):Si (q::p::R) :=
 ⟨fun x hx=>by
  rcases aG.1 hx with rfl|hx
  ·exact (h.1 q EX).symm
  ·exact h.2.1 x hx,fun x hx=>h.1 x IA,h.2.2⟩
inductive C2:List Pc->Pc->List Pc->Prop
 | here {p R}:C2 (p::R) p R
 | there {x p R R'}:C2 R p R'->C2 (x::R) p (x::R')
theorem C2.mem {H p R} (h:C2 H p R):p∈H:=by
 induction h with
 | here=>simp
 | there _ ih=>simp [ih]
theorem C2.sub {H p R} (h:C2 H p R):∀q∈R,q∈H:=by
 induction h with
 | here=>intro q hq;simp [hq]
 | there _ ih =>
  intro q hq;rcases aG.1 hq with rfl|hq
  ·simp
  ·simp [ih q hq]
theorem C2.sep {H p R} (h:C2 H p R) (hs:Si H):Si (p::R):=by
 induction h with
 | here=>exact hs
 | @there x p R R' h ih =>
  have h2:=ih hs.2;exact Si.perm2 ⟨fun q hq=>by
   rcases aG.1 hq with rfl|hq
   ·exact hs.1 _ h.mem
   ·exact hs.1 _ (h.sub q hq),h2⟩
theorem St.pick {H p R w} (s:St G D w0 H w) (h:C2 H p R):St G D w0 (p::R) w :=
 ⟨s.I5,fun q hq=>by
  rcases aG.1 hq with rfl|hq
  ·exact s.on _ h.mem
  ·exact s.on _ (h.sub q hq),h.sep s.sep,fun q hq=>by
  rcases aG.1 hq with rfl|hq
  ·exact s.Acz _ h.mem
  ·exact s.Acz _ (h.sub q hq)⟩
theorem St.tail {p R w} (s:St G D w0 (p::R) w):St G D w0 R w:=⟨s.I5,fun q hq=>s.on q FX,s.sep.2,fun q hq=>s.Acz q FX⟩
theorem St.get {H p w} (s:St G D w0 H w) (h:p∈H):p.P w:=s.on p h
theorem St.turn {M R N:List Pc} {w w':World} (s:St G D w0 (M++R) w) (hk:Ei (fp (M.filter (·.mu))) w w') (hN:Od N w') (hs:Si N)
  (hF:∀p∈N,∀b∈p.F,w.heap.size<=b\/(∃q∈M,q.mu=true/\b∈q.F)\/(p.mu=false/\∃q∈M++R,q.mu=false/\b∈q.F)):St G D w0 (N++R) w':=by
 have hsep:∀(A B:List Pc),Si (A++B)->Si A/\Si B/\∀p∈A,∀q∈B,Adi p q:=by
  intro A
  induction A with
  | nil=>intro B h;exact ⟨trivial,h,EX⟩
  | cons p A ih =>
   intro B h;obtain ⟨h1,h2,h3⟩:=ih B h.2;exact ⟨⟨fun q hq=>h.1 q FX,h1⟩,h2,fun x hx q hq=>by
    rcases aG.1 hx with rfl|hx
    ·exact h.1 q FX
    ·exact h3 x hx q hq⟩
 have hjoin:∀(A B:List Pc),Si A->Si B->(∀p∈A,∀q∈B,Adi p q)->Si (A++B):=by
  intro A
  induction A with
  | nil=>intro B _ h _;exact h
  | cons p A ih =>
   intro B hA hB h;exact ⟨fun q hq=>by
    rcases aJ.1 hq with hq|hq
    ·exact hA.1 q hq
    ·exact h p EX q hq,ih B hA.2 hB fun x hx q hq=>h x IA q hq⟩
 obtain ⟨sM,sR,sMR⟩:=hsep M R s.sep;have hRlt:∀q∈R,∀b∈q.F,b < w.heap.size:=fun q hq=>q.lt (s.on q FX);have hMR:∀q∈R,∀b∈q.F,b ∉ fp (M.filter (·.mu)):=fun q hq b hb hm=>by
  obtain ⟨p,hp,hpb⟩:=Ro.1 hm;obtain ⟨hp,hmu⟩:=bL.1 hp;exact sMR p hp q hq (by simp [hmu]) b hpb hb
 have hG:∀b∈fp (M.filter (·.mu)),b∈G\/w0.heap.size<=b:=fun b hb=>by
  obtain ⟨p,hp,hpb⟩:=Ro.1 hb;obtain ⟨hp,hmu⟩:=bL.1 hp;rcases s.Acz p HD b hpb with h|h|⟨h,_⟩
  ·exact .inl h
  ·exact .inr h
  ·rw [hmu] at h;cases h
 refine ⟨⟨hk.os.trans s.I5.os,hk.tape.trans s.I5.tape,hk.output.trans s.I5.output,bD s.I5.size hk.size,fun k hlt hn=>(hk.block k (dA hlt s.I5.size) fun hm=>?_).trans (s.I5.block k hlt hn)⟩,fun p hp=>?_,hjoin N R hs sR fun p hp q hq hmu b hb hqb=>?_,fun p hp b hb=>?_⟩
 ·rcases hG k hm with h|h
  ·exact hn h
  ·omega
 ·rcases aJ.1 hp with hp|hp
  ·exact hN p hp
  ·exact p.st (s.on p HD) fun b hb=>hk.block b (hRlt p hp b hb) (hMR p hp b hb)
 ·rcases hF p hp b hb with h|⟨m,hm,hmm,hmb⟩|⟨hpm,m,hm,hmm,hmb⟩
  ·have:=hRlt q hq b hqb;omega
  ·exact sMR m hm q hq (by simp [hmm]) b hmb hqb
  ·have hqm:q.mu=true:=by simpa [hpm] using hmu
   rcases aJ.1 hm with hm|hm
   ·exact sMR m hm q hq (by simp [hqm]) b hmb hqb
   ·-- two pieces of R
    have:∀(R:List Pc),Si R->∀m∈R,∀q∈R,m.mu=false->q.mu=true->∀b∈m.F,b ∉ q.F:=by
     intro R
     induction R with
     | nil=>intro _ m hm;simp at hm
     | cons x R ih =>
      intro hs m hm q hq h1 h2 b hb hqb;rcases aG.1 hm with e|hm2
      ·subst e;rcases aG.1 hq with e|hq2
       ·subst e;rw [h1] at h2;cases h2
       ·exact hs.1 q hq2 (by simp [h2]) b hb hqb
      ·rcases aG.1 hq with e|hq2
       ·subst e;exact hs.1 m hm2 (by simp [h2]) b hqb hb
       ·exact ih hs.2 m hm2 q hq2 h1 h2 b hb hqb
    exact this R sR m hm q hq hmm hqm b hmb hqb
 ·rcases aJ.1 hp with hp|hp
  ·rcases hF p hp b hb with h|⟨m,hm,hmm,hmb⟩|⟨hpm,m,hm,hmm,hmb⟩
   ·right;left;exact bD s.I5.size h
   ·rcases s.Acz m (by simp [hm]) b hmb with h|h|⟨h,_⟩
    ·exact .inl h
    ·exact .inr (.inl h)
    ·rw [hmm] at h;cases h
   ·rcases s.Acz m hm b hmb with h|h|⟨_,h⟩
    ·exact .inl h
    ·exact .inr (.inl h)
    ·exact .inr (.inr ⟨hpm,h⟩)
  ·exact s.Acz p HD b hb
end
abbrev Fr:=List (Nat × Value)
def Rn:Fr->Nat->Option Value
 | [],_=>none
 | (k,v)::r,t=>bif Nat.beq k t then some v else Rn r t
def ev (fr:Fr):Operand->Option Value
 | .tmp t=>Rn fr t
 | .const v=>some v
 | .global g=>some (.pointer (some ⟨g,0,none⟩))
 | .func f=>some (.func (.func f) #[] #[])
inductive Evs (fr:Fr):List Operand->am->Prop
 | nil:Evs fr [] []
 | cons {x v xs vs}:ev fr x=some v->Evs fr xs vs->Evs fr (x::xs) (v::vs)
structure Ag (n:Nat) (fr:Fr) (a:Act):Prop where
 df:a.defers=[]
 sz:a.tmps.size=n
 at_:∀t v,Rn fr t=some v->a.tmps[t]?=some v
theorem Ag.ev {n fr a x v} (h:Ag n fr a) (hx:ev fr x=some v):a.eval x=v:=by
 cases x with
 | tmp t=>have:=h.at_ t v hx;simp [Act.eval,fl,this]
 | const u=>simp [Go.Proofs.YtkoldibamfjghaaGreatDoor.ev] at hx;subst hx;rfl
 | global g=>simp [Go.Proofs.YtkoldibamfjghaaGreatDoor.ev] at hx;subst hx;rfl
 | func f=>simp [Go.Proofs.YtkoldibamfjghaaGreatDoor.ev] at hx;subst hx;rfl
theorem Ag.evs {n fr a xs vs} (h:Ag n fr a) (hx:Evs fr xs vs):xs.map a.eval=vs:=by
 induction hx with
 | nil=>rfl
 | cons hx _ ih=>simp [h.ev hx,ih]
theorem Ux (k:Nat) (v:Value) (r:Fr) (t:Nat):Rn ((k,v)::r) t=if k=t then some v else Rn r t:=by
 show (bif Nat.beq k t then some v else Rn r t)=_;by_cases h:k=t
 ·subst h;simp
 ·have:Nat.beq k t=false:=by
   cases hb:Nat.beq k t
   ·rfl
   ·exact absurd (Nat.eq_of_beq_eq_true hb) h
  rw [this,aC h];rfl
theorem Ag.put {n fr a d v} (h:Ag n fr a) (hd:Nat.blt d n=true):Ag n ((d,v)::fr) (a.put (some d) v):=by
 have hd':d < n:=by simpa using hd
 refine ⟨h.df,by simp [Act.put,h.sz],fun t u hu=>?_⟩;rw [Ux] at hu;show (a.tmps.setIfInBounds d v)[t]?=_;rw [Array.getElem?_setIfInBounds]
 split at hu
 ·rename_i e;subst e;simp at hu;subst hu;rw [aH rfl,aH (by rw [h.sz];exact hd')]
 ·rename_i e;rw [aC e];exact h.at_ t u hu
inductive Mo (fr:Fr):Fr->Prop
 | nil:Mo fr []
 | cons {t v r}:Rn fr t=some v->Mo fr r->Mo fr ((t,v)::r)
theorem Mo.Rn {fr fr':Fr} (h:Mo fr fr'):∀t v,Rn fr' t=some v->Rn fr t=some v:=by
 induction h with
 | nil=>intro t v hv;cases hv
 | cons h1 _ ih =>
  intro t v hv;rw [Ux] at hv
  split at hv
  ·rename_i e;subst e;rw [<-hv];exact h1
  ·exact ih t v hv
theorem Ag.sub {n fr fr' a} (h:Ag n fr a) (hs:Mo fr fr'):Ag n fr' a:=⟨h.df,h.sz,fun t v hv=>h.at_ t v (hs.Rn t v hv)⟩
structure Cx where
 P:Program
 G:aq
 D:aq
 w0:World
 n:Nat
 R:Exit->Act->World->Prop
inductive It
 | cd (c:Code)
 | blk (id:Nat)
 | lp (I:Act->World->Prop)
def run (c:Cx):List It->Exit->Act->World->Prop
 | []=>c.R
 | .cd y::k=>Exit.then (fun a w=>y.wp c.P (run c k) a w) (run c k)
 | .blk id::k=>Exit.inBlock id (run c k)
 | .lp I::k=>Exit.then I (run c k)
inductive Gl
 | B4 (k:List It) (x:Code)
 | list (k:List It) (ops:Array Oper) (l:List Oper)
 | norm (k:List It)
 | exit (k:List It) (id:Nat)
 | fin (e:Exit)
 | dx (k:List It) (H0:List Pc) (X:List Nat) (ops:Array Oper) (f:Nat) (listed:Array Bool)
 | dk (i:Nat) (k:List It) (H0:List Pc) (X:List Nat) (ops:Array Oper) (f:Nat) (listed:Array Bool)
def Gl.sem (c:Cx):Gl->Act->World->Prop
 | .B4 k x,a,w=>x.wp c.P (run c k) a w
 | .list k ops l,a,w=>wpList c.P ops (run c k) l a w
 | .norm k,a,w=>run c k .normal a w
 | .exit k id,a,w=>run c k (.exit id) a w
 | .fin e,a,w=>c.R e a w
 | .dx k H0 X ops f listed,a,w=>Ez c.P .any ops (run c k) (Od H0) (fun i=>X.contains i) f listed a w
 | .dk i k H0 X ops f listed,a,w=>(X.contains i=false->Od H0 w)/\Ez c.P .any ops (run c k) (Od H0) (fun i=>X.contains i) f listed a w
structure T (c:Cx) (fr:Fr) (H:List Pc) (Φ:Gl):Prop where
 h:∀a w,St c.G c.D c.w0 H w->Ag c.n fr a->Φ.sem c a w
theorem Ae1 (c:Cx):∀(k:List It),run c k .ret=c.R .ret
 | []=>rfl
 | .cd _::k=>Ae1 c k
 | .blk _::k=>Ae1 c k
 | .lp _::k=>Ae1 c k
theorem Mm (c:Cx) (ch:List PanicEntry):∀(k:List It),run c k (.panic ch)=c.R (.panic ch)
 | []=>rfl
 | .cd _::k=>Mm c ch k
 | .blk _::k=>Mm c ch k
 | .lp _::k=>Mm c ch k
inductive Lj:List Pc->List Pc->Prop
 | nil {A}:Lj A []
 | cons {A p R B}:C2 A p R->Lj R B->Lj A (p::B)
section
variable {c:Cx} {fr:Fr} {H:List Pc} {k:List It} {Φ:Gl}
theorem Lj.st {G D w0 w} {H H':List Pc} (h:Lj H H'):∀{X:List Pc},St G D w0 H w->Si X->(∀p∈X,∀q∈H,Adi p q)->(∀p∈X,p.P w/\∀b∈p.F,b∈G\/w0.heap.size<=b\/(p.mu=false/\b∈D)) ->
  (∀q∈H',q∈H)/\Si H':=by
 induction h with
 | nil=>intro X _ _ _ _;exact ⟨EX,trivial⟩
 | @cons A p R B hp hs ih =>
  intro X s hX hXa hXp;have s1:=s.pick hp;have ⟨h1,h2⟩:=ih (X:=[]) s1.tail trivial EX EX;exact ⟨fun q hq=>by
   rcases aG.1 hq with rfl|hq
   ·exact hp.mem
   ·exact hp.sub q (h1 q hq),fun q hq=>s1.sep.1 q (h1 q hq),h2⟩
theorem St.sub {G D w0 w} {H H':List Pc} (s:St G D w0 H w) (h:Lj H H'):St G D w0 H' w :=
 have ⟨h1,h2⟩:=h.st (X:=[]) s trivial EX EX
 ⟨s.I5,fun p hp=>s.on p (h1 p hp),h2,fun p hp=>s.Acz p (h1 p hp)⟩
theorem Bg1 (H':List Pc) (h:T c fr H' Φ) (hs:Lj H H':=by repeat (first|exact Lj.nil|refine Lj.cons HF ?_)):T c fr H Φ:=.mk fun a w s g=>h.h a w (s.sub hs) g
theorem V8 {p:Pc} (h:T c fr H Φ):T c fr (p::H) Φ:=.mk fun a w s g=>h.h a w s.tail g
/-! the rules of control -/
theorem N7 {x y:Code} (h:T c fr H (.B4 (.cd y::k) x)):T c fr H (.B4 k (Code.seq x y)):=.mk fun a w s g=>wp_seq (h.h a w s g)
theorem Vf (h:T c fr H (.norm k)):T c fr H (.B4 k Code.skip):=.mk fun a w s g=>wp_skip (h.h a w s g)
theorem Awp (h:T c fr H (.fin .ret)):T c fr H (.B4 k Code.ret):=.mk fun a w s g=>wp_ret (by rw [Ae1];exact h.h a w s g)
theorem Ao8 {id:Nat} (h:T c fr H (.exit k id)):T c fr H (.B4 k (Code.exit id)):=.mk fun a w s g=>wp_exit (h.h a w s g)
theorem Rz {id:Nat} {x:Code} (h:T c fr H (.B4 (.blk id::k) x)):T c fr H (.B4 k (Code.block id x)):=.mk fun a w s g=>wp_block (h.h a w s g)
theorem Aif {id:Nat} {l:List Oper} (h:T c fr H (.list k l.toArray l)):T c fr H (.B4 k (Code.region id l.toArray false)):=.mk fun a w s g=>wp_region_lit (h.h a w s g)
theorem c_t {x:Operand} {y z:Code} (hc:ev fr x=some (.bool true)) (h:T c fr H (.B4 k y)):T c fr H (.B4 k (Code.cond x y z)):=.mk fun a w s g=>wp_cond_true (g.ev hc) (h.h a w s g)
theorem c_f {x:Operand} {y z:Code} (hc:ev fr x=some (.bool false)) (h:T c fr H (.B4 k z)):T c fr H (.B4 k (Code.cond x y z)):=.mk fun a w s g=>wp_cond_false (g.ev hc) (h.h a w s g)
theorem A1 {x:Operand} {y z:Code} {p:Prop} {_:Decidable p} (hc:ev fr x=some (.bool (decide p))) (h1:p->T c fr H (.B4 k y)) (h2:¬p->T c fr H (.B4 k z)) :
  T c fr H (.B4 k (Code.cond x y z)):=.mk fun a w s g=>by
 by_cases hp:p
 ·exact wp_cond_true (by rw [g.ev hc,av hp]) ((h1 hp).h a w s g)
 ·exact wp_cond_false (by rw [g.ev hc,ay hp]) ((h2 hp).h a w s g)
theorem Xu {y:Code} (h:T c fr H (.B4 k y)):T c fr H (.norm (.cd y::k)):=⟨h.h⟩
theorem Ad1 {id:Nat} (h:T c fr H (.norm k)):T c fr H (.norm (.blk id::k)):=⟨h.h⟩
theorem Bgp (h:T c fr H (.fin .normal)):T c fr H (.norm []):=⟨h.h⟩
theorem Bed {y:Code} {id:Nat} (h:T c fr H (.exit k id)):T c fr H (.exit (.cd y::k) id):=⟨h.h⟩
theorem Bee {I:Act->World->Prop} {id:Nat} (h:T c fr H (.exit k id)):T c fr H (.exit (.lp I::k) id):=⟨h.h⟩
theorem Awy {id:Nat} (h:T c fr H (.norm k)):T c fr H (.exit (.blk id::k) id):=.mk fun a w s g=>by
 show (if id=id then run c k .normal a w else run c k (.exit id) a w);rw [aH rfl];exact h.h a w s g
theorem Aph {id id':Nat} (hne:Nat.beq id' id=false) (h:T c fr H (.exit k id')):T c fr H (.exit (.blk id::k) id'):=.mk fun a w s g=>by
 show (if id'=id then run c k .normal a w else run c k (.exit id') a w);rw [aC (fun e=>by rw [e] at hne;simp at hne)];exact h.h a w s g
theorem T3 {ops:Array Oper} (h:T c fr H (.norm k)):T c fr H (.list k ops []):=⟨h.h⟩
/-! loops -/
theorem Agd {p:Nat->Prop}:∀n,p n->∃m,p m/\∀j,p j->m<=j:=fun n=>by
 induction n using Nat.strongRecOn with
 | _ n ih =>
  intro hn;by_cases h:∃j,j < n/\p j
  ·obtain ⟨j,hj,hp⟩:=h;exact ih j hj hp
  ·exact ⟨n,hn,fun j hj=>Nat.le_of_not_lt fun hl=>h ⟨j,hl,hj⟩⟩
theorem Avl {P:Program} {Q:Exit->Act->World->Prop} {x:Code} {a:Act} {w:World} (I:Nat->Act->World->Prop) (m:Nat) (h0:I m a w)
  (round:∀m a w,I m a w->x.wp P (Exit.then (fun a' w'=>∃m',m' < m/\I m' a' w') Q) a w):(Code.loop x).wp P Q a w:=by
 classical
 refine wp_loop (fun a w=>∃m,I m a w) (fun a w=>if h:∃m,I m a w then Classical.choose (Agd (p:=fun m=>I m a w) h.choose h.choose_spec) else 0) ⟨m,h0⟩ fun a w hI=>?_;have hl:=Classical.choose_spec (Agd (p:=fun m=>I m a w) hI.choose hI.choose_spec);refine wp_mono (round _ a w hl.1) fun e a' w' he=>?_;cases e with
 | normal =>
  obtain ⟨m',hm,hi⟩:=he;have hex:∃m,I m a' w':=⟨m',hi⟩;refine ⟨hex,?_⟩;simp only [ef hI,ef hex];exact Nat.lt_of_le_of_lt ((Classical.choose_spec (Agd (p:=fun m=>I m a' w') hex.choose hex.choose_spec)).2 m' hi) hm
 | _=>exact he
def LpI {σ:Type} (c:Cx) (fr':σ->Fr) (H':σ->List Pc) (C:σ->Prop) (μ:σ->Nat) (m:Nat) (a:Act) (w:World):Prop:=∃s,C s/\μ s=m/\St c.G c.D c.w0 (H' s) w/\Ag c.n (fr' s) a
def LpN {σ:Type} (c:Cx) (fr':σ->Fr) (H':σ->List Pc) (C:σ->Prop) (μ:σ->Nat) (m:Nat) (a:Act) (w:World):Prop:=∃m',m' < m/\LpI c fr' H' C μ m' a w
theorem Awo {x:Code} {σ:Type} (fr':σ->Fr) (H':σ->List Pc) (C:σ->Prop) (μ:σ->Nat) (s0:σ) (h0:C s0)
  (round:∀s,C s->T c (fr' s) (H' s) (.B4 (.lp (LpN c fr' H' C μ (μ s))::k) x)) (hf:Mo fr (fr' s0):=by repeat (first|exact Mo.nil|refine Mo.cons FH ?_)) (hH:Lj H (H' s0):=by repeat (first|exact Lj.nil|refine Lj.cons HF ?_)):T c fr H (.B4 k (Code.loop x)):=.mk fun a w st g=>by
 refine Avl (LpI c fr' H' C μ) (μ s0) ⟨s0,h0,rfl,st.sub hH,g.sub hf⟩ fun m a w hI=>?_;obtain ⟨s,hC,rfl,hst,hg⟩:=hI;exact (round s hC).h a w hst hg
theorem Cb {σ:Type} {fr':σ->Fr} {H':σ->List Pc} {C:σ->Prop} {μ:σ->Nat} {m:Nat} (s:σ) (hC:C s) (hm:μ s < m) (hf:Mo fr (fr' s):=by repeat (first|exact Mo.nil|refine Mo.cons FH ?_)) (hH:Lj H (H' s):=by repeat (first|exact Lj.nil|refine Lj.cons HF ?_)) :
  T c fr H (.norm (.lp (LpN c fr' H' C μ m)::k)):=.mk fun _ _ st g=>⟨μ s,hm,s,hC,rfl,st.sub hH,g.sub hf⟩
end
class OneC (P:Program) (t:TypeId):Prop where
 d:∃d,P.underlying t=some d/\d.isRow=false
 s:(P.info? t).map (·.size)=some 1
class AggC (P:Program) (t:TypeId) (n:outParam Nat):Prop where
 d:∃d,P.underlying t=some d/\d.isRow=true
 s:(P.info? t).map (·.size)=some n
class FldC (P:Program) (t:TypeId) (i:Nat) (off:outParam Nat) (ft:outParam TypeId) (n:outParam Nat):Prop where
 f:∃fs f,P.underlying t=some (.struct fs)/\fs[i]?=some f/\f.offset=off/\f.type=ft
 s:(P.info? ft).map (·.size)=some n
 p:n≠0
class SlC (P:Program) (t:TypeId) (e:outParam TypeId) (n:outParam Nat):Prop where
 u:P.underlying t=some (.slice e)
 s:(P.info? e).map (·.size)=some n
class IntC (P:Program) (t:TypeId) (k:outParam IntKind):Prop where
 u:P.underlying t=some (.int k)
class StrC (P:Program) (t:TypeId):Prop where
 u:P.underlying t=some .string
class BoolC (P:Program) (t:TypeId):Prop where
 u:P.underlying t=some .bool
def Gc (g o j:Nat):Value:=.pointer (some ⟨g,o+j,none⟩)
structure Yd (P:Program) (n:Nat) (fr:Fr) (H:List Pc) (o:Op) (ty:TypeId) (v:Value):Prop where
 h:∀(a:Act) (w:World) (d:Option Tmp) (pos:String) (Cd:Array Edge) (g:Option (Nat × Bool)),Ag n fr a->Od H w->(execOp a.eval ⟨d,o,ty,pos,Cd,g⟩).run P w=.ok (.value v) w
theorem Ady (a b:au):(a.toList == b.toList)=decide (a=b):=by
 rw [cC];simp only [eQ,aF,ByteArray.toList_eq];exact ⟨fun h=>fq (fH h),fun h=>by rw [h]⟩
section
variable {P:Program} {n:Nat} {fr:Fr} {H:List Pc} {ty:TypeId} {v u:Value} {x y z:Operand}
theorem Mw {t:TypeId} {n:Nat} (h:(P.info? t).map (·.size)=some n) (w:World):(sizeOf t).run P w=.ok n w:=by
 obtain ⟨i,hi,hn⟩:=cu.1 h;simp [sizeOf,typeInfo,hi,hn]
theorem Amw {t:TypeId} (h:∃d,P.underlying t=some d/\d.isRow=false) (w:World):(isAgg t).run P w=.ok false w:=by
 obtain ⟨d,hu,hd⟩:=h;unfold isAgg;rw [Sem.run_bind,run_underlying hu w];cases d <;> simp_all
theorem Atl {t:TypeId} (h:∃d,P.underlying t=some d/\d.isRow=true) (w:World):(isAgg t).run P w=.ok true w:=by
 obtain ⟨d,hu,hd⟩:=h;unfold isAgg;rw [Sem.run_bind,run_underlying hu w];cases d <;> simp_all
theorem Bda (hx:ev fr x=some v):Yd P n fr H (.move x) ty v:=.mk fun a w d pos Cd g hA _=>by
 simp [execOp,hA.ev hx]
theorem Avn (hx:ev fr x=some v):Yd P n fr H (.assign x) ty v:=.mk fun a w d pos Cd g hA _=>by
 simp [execOp,hA.ev hx]
theorem Avr (hc:ev fr x=some (.bool true)) (hy:ev fr y=some v):Yd P n fr H (.pick x y z) ty v:=.mk fun a w d pos Cd g hA _=>by
 simp [execOp,hA.ev hc,hA.ev hy,asBool]
theorem Avq (hc:ev fr x=some (.bool false)) (hz:ev fr z=some v):Yd P n fr H (.pick x y z) ty v:=.mk fun a w d pos Cd g hA _=>by
 simp [execOp,hA.ev hc,hA.ev hz,asBool]
theorem Abk {w:World} {g t o j:Nat} {A cs B:am} (h:(Pc.row g t o A cs B).P w) (hv:cs[j]?=some v):w.cell? ⟨g,o+j,none⟩=some v:=by
 obtain ⟨rfl,h⟩:=h;rw [h.cellMid rfl (cj.1 hv).1];exact hv
theorem Ik {w:World} {g t o:Nat} {A cs B:am} (h:(Pc.row g t o A cs B).P w):w.rangeAt g o cs:=fun _ _ hv=>Abk h hv
theorem Au0 {w:World} {g t o:Nat} {A cs B:am} (h:(Pc.row g t o A cs B).P w):w.there g o cs.length:=fun j hj =>
 ⟨by rw [Abk h (aD hj)];rfl,h.2.frozen _⟩
theorem Agf {t:TypeId} [hT:OneC P t] {w:World} {a:Addr} (h:w.cell? a=some v):(Instr.loadAt t (.pointer (some a))).run P w=.ok v w:=by
 simp [Instr.loadAt,Instr.sureAddr,loadVar,Amw hT.d,h]
theorem Bhd {t g o j tt:Nat} {A cs B:am} [OneC P t] (hx:ev fr x=some (Gc g o j)) (hm:Pc.row g tt o A cs B∈H) (hv:cs[j]?=some v):Yd P n fr H (.load t x) ty v:=.mk fun a w d pos Cd gd hA hH=>by
 simp [execOp,hA.ev hx,Gc,Agf (Abk (hH _ hm) hv)]
theorem Bft {t b o j:Nat} {cs:am} [OneC P t] (hx:ev fr x=some (Gc b o j)) (hm:Pc.cel b o cs∈H) (hv:cs[j]?=some v):Yd P n fr H (.load t x) ty v:=.mk fun a w d pos Cd gd hA hH=>by
 simp [execOp,hA.ev hx,Gc,Agf ((hH _ hm).2 j v hv)]
inductive Cut:am->Nat->Nat->am->Prop
 | zero {l}:Cut l 0 0 []
 | one {x l m r}:Cut l 0 m r->Cut (x::l) 0 (m+1) (x::r)
 | skip {x l j m r}:Cut l j m r->Cut (x::l) (j+1) m r
theorem Cut.get {l j m r} (h:Cut l j m r):r.length=m/\∀(i:Nat) u,r[i]?=some u->l[j+i]?=some u:=by
 induction h with
 | zero=>exact ⟨rfl,fun i u h=>by simp at h⟩
 | one _ ih =>
  refine ⟨by simp [ih.1],fun i u h=>?_⟩;cases i with
  | zero=>simpa using h
  | succ i=>have:=ih.2 i u FF;simpa [fw] using this
 | skip _ ih =>
  refine ⟨ih.1,fun i u h=>?_⟩;have:=ih.2 i u h
  rwa [show ∀a b:Nat,a+1+b=a+b+1 by omega,bF]
theorem Age {t m:Nat} [hT:AggC P t m] {w:World} {b o j:Nat} {cs r:am} (h:w.rangeAt b o cs) (hc:Cut cs j m r):(Instr.loadAt t (.pointer (some ⟨b,o+j,none⟩))).run P w=.ok (.agg r.toArray) w:=by
 obtain ⟨d,hu,hd⟩:=hT.d;exact run_loadAt_mid w b (o+j) t r d (fun i u hu=>by rw [fw];exact h _ _ (hc.get.2 i u hu)) hu hd (by rw [hT.s,hc.get.1])
theorem Bai {t g o j tt m:Nat} {A cs B r:am} [AggC P t m] (hx:ev fr x=some (Gc g o j)) (hm:Pc.row g tt o A cs B∈H) (hc:Cut cs j m r):Yd P n fr H (.load t x) ty (.agg r.toArray):=.mk fun a w d pos Cd gd hA hH=>by
 simp [execOp,hA.ev hx,Gc,Age (Ik (hH _ hm)) hc]
theorem Bc8 {t b o j m:Nat} {cs r:am} [AggC P t m] (hx:ev fr x=some (Gc b o j)) (hm:Pc.cel b o cs∈H) (hc:Cut cs j m r):Yd P n fr H (.load t x) ty (.agg r.toArray):=.mk fun a w d pos Cd gd hA hH=>by
 simp [execOp,hA.ev hx,Gc,Age (hH _ hm).2 hc]
theorem Bg8 {t i g o j off ft m:Nat} [hF:FldC P t i off ft m] (hx:ev fr x=some (Gc g o j)):Yd P n fr H (.fieldAddr t x i) ty (Gc g o (j+off)):=.mk fun a w d pos Cd gd hA _=>by
 obtain ⟨fs,f,hu,hf,rfl,rfl⟩:=hF.f;simp [execOp,hA.ev hx,Gc,Instr.fieldAt,run_underlying hu,hf,Instr.sureAddr,fieldPlace,Mw hF.s,hF.p,Addr.add_lit,fw]
theorem Bfq {t i off ft m:Nat} {l:am} [hF:FldC P t i off ft m] [hT:OneC P ft] (hx:ev fr x=some (.agg l.toArray)) (hv:l[off]?=some v):Yd P n fr H (.field t x i) ty v:=.mk fun a w d pos Cd gd hA _=>by
 obtain ⟨fs,f,hu,hf,rfl,rfl⟩:=hF.f;simp [execOp,hA.ev hx,Instr.field,run_underlying hu,hf,asAgg,part,Amw hT.d,hv]
theorem Bc7 {t i off ft m m':Nat} {l r:am} [hF:FldC P t i off ft m] [hT:AggC P ft m'] (hx:ev fr x=some (.agg l.toArray)) (hc:Cut l off m' r):Yd P n fr H (.field t x i) ty (.agg r.toArray):=.mk fun a w d pos Cd gd hA _=>by
 obtain ⟨fs,f,hu,hf,rfl,rfl⟩:=hF.f;have e:l.toArray.extract f.offset (f.offset+m')=r.toArray:=by
  obtain ⟨h1,h2⟩:=hc.get;apply fH;simp only [List.extract_toArray,List.extract_eq_take_drop,Nat.add_sub_cancel_left];apply dm;intro i;rw [List.getElem?_take]
  split
  ·rename_i hi;have hr:r[i]?=some (r[i]'EV):=aD EV;rw [dw,hr];exact h2 i _ hr
  ·rw [bn EV]
 simp [execOp,hA.ev hx,Instr.field,run_underlying hu,hf,asAgg,part,Atl hT.d,Mw hT.s,<-e]
theorem Bf3 {g o j:Nat} (hx:ev fr x=some (Gc g o j)):Yd P n fr H (.nilCheck x) ty (Gc g o j):=.mk fun a w d pos Cd gd hA _=>by
 simp [execOp,hA.ev hx,Gc]
theorem Bdb {f:Nat} {l:Array Value} (hx:ev fr x=some (.func (.func f) #[] l)):Yd P n fr H (.nilCheck x) ty (.func (.func f) #[] l):=.mk fun a w d pos Cd gd hA _=>by
 simp [execOp,hA.ev hx]
theorem Bhc {t e m b o len cp:Nat} {kd:IntKind} {i:Int} [hS:SlC P t e m] (hx:ev fr x=some (ab (some ⟨b,o,none⟩) len cp)) (hy:ev fr y=some (.int kd i)) (h0:0<=i) (h1:i < len) :
  Yd P n fr H (.indexAddr t x y) ty (Gc b (o+i.toNat * m) 0):=.mk fun a w d pos Cd gd hA _=>by
 simp [execOp,hA.ev hx,hA.ev hy,Instr.indexAt,run_underlying hS.u,asIntOf,h0,h1,Mw hS.s,Addr.add_lit,Gc]
theorem Bfs {t:Nat} {kd:IntKind} {i:Int} {s:au} [hS:StrC P t] (hx:ev fr x=some (af s)) (hy:ev fr y=some (.int kd i)) (h0:0<=i) (h1:i.toNat < s.size) :
  Yd P n fr H (.index t x y) ty (.int .u8 (s[i.toNat]'h1).toNat):=.mk fun a w d pos Cd gd hA _=>by
 simp [execOp,hA.ev hx,hA.ev hy,Instr.index,run_underlying hS.u,asIntOf,h0,h1]
theorem Bg7 {i:Nat} {l:am} (hx:ev fr x=some (.tuple l.toArray)) (hv:l[i]?=some v):Yd P n fr H (.extract x i) ty v:=.mk fun a w d pos Cd gd hA _=>by
 simp [execOp,hA.ev hx,Instr.extract,hv]
theorem Bf4 {b:Bool} {t:Nat} (hx:ev fr x=some (.bool b)):Yd P n fr H (.unOp .not t x) ty (.bool (!b)):=.mk fun a w d pos Cd gd hA _=>by
 simp [execOp,hA.ev hx,Op.unary]
theorem Bdc {p:Prop} {_:Decidable p} {t:Nat} (hx:ev fr x=some (.bool (decide p))):Yd P n fr H (.unOp .not t x) ty (.bool (decide (¬p))):=.mk fun a w d pos Cd gd hA _=>by
 simp [execOp,hA.ev hx,Op.unary]
theorem Bf0 {a:Int} {t:Nat} (hx:ev fr x=some (aa a)) (h0:-9223372036854775808<=-a) (h1:-a<=9223372036854775807):Yd P n fr H (.unOp .neg t x) ty (aa (-a)):=.mk fun a w d pos Cd gd hA _=>by
 simp [execOp,hA.ev hx,Op.unary,Op.intArith,IntWalk.i64_in _ ⟨h0,h1⟩]
section
variable {a b:Int} {t t':TypeId} (hx:ev fr x=some (aa a)) (hy:ev fr y=some (aa b))
include hx hy
theorem Bfm (h0:-9223372036854775808<=a+b) (h1:a+b<=9223372036854775807):Yd P n fr H (.binOp .add t x y t') ty (aa (a+b)):=.mk fun a w d pos Cd gd hA _=>by
 simp [execOp,hA.ev hx,hA.ev hy,eqGuard_add,binOp_add,Op.intArith,IntWalk.i64_in _ ⟨h0,h1⟩]
theorem Bf8 (h0:-9223372036854775808<=a - b) (h1:a - b<=9223372036854775807):Yd P n fr H (.binOp .sub t x y t') ty (aa (a - b)):=.mk fun a w d pos Cd gd hA _=>by
 simp [execOp,hA.ev hx,hA.ev hy,eqGuard_sub,binOp_sub,Op.intArith,IntWalk.i64_in _ ⟨h0,h1⟩]
theorem Bfy (h0:-9223372036854775808<=a * b) (h1:a * b<=9223372036854775807):Yd P n fr H (.binOp .mul t x y t') ty (aa (a * b)):=.mk fun a w d pos Cd gd hA _=>by
 simp [execOp,hA.ev hx,hA.ev hy,eqGuard_mul,binOp_mul,Op.intArith,IntWalk.i64_in _ ⟨h0,h1⟩]
theorem Bf5 (h0:0<=a) (h2:a<=9223372036854775807) (h1:0 < b):Yd P n fr H (.binOp .quo t x y t') ty (aa (a / b)):=.mk fun c w d pos Cd gd hA _=>by
 have hle:a / b<=a:=Int.ediv_le_self _ h0;have hge:0<=a / b:=Int.ediv_nonneg h0 EV;have hb:b≠0:=EV
 simp [execOp,hA.ev hx,hA.ev hy,eqGuard_quo,binOp_quo,Op.intDiv,hb,fv h0,IntWalk.i64_in _ ⟨(by omega:-9223372036854775808<=a / b),(by omega:a / b<=9223372036854775807)⟩]
theorem Bf6 (h0:0<=a) (h1:0 < b):Yd P n fr H (.binOp .rem t x y t') ty (aa (a % b)):=.mk fun c w d pos Cd gd hA _=>by
 have hb:b≠0:=EV
 simp [execOp,hA.ev hx,hA.ev hy,eqGuard_rem,binOp_rem,Op.intDiv,hb,fu h0]
end
section
variable {a b:Int} {k:IntKind} {t t':TypeId} (hx:ev fr x=some (.int k a)) (hy:ev fr y=some (.int k b))
include hx hy
theorem Bfx {ts:Array TypeId}:Yd P n fr H (.call { callee:=.builtin .min,args:=#[x,y],argTypes:=ts }) ty (.int k (min a b)):=.mk fun c w d pos Cd gd hA _=>by
 have e:(if b < a then b else a)=min a b:=by split <;> omega
 simp [execOp,hA.ev hx,hA.ev hy,resolve,invoke,builtin,run_min_int2,e]
theorem Bfw {ts:Array TypeId}:Yd P n fr H (.call { callee:=.builtin .max,args:=#[x,y],argTypes:=ts }) ty (.int k (max a b)):=.mk fun c w d pos Cd gd hA _=>by
 have e:(if a < b then b else a)=max a b:=by split <;> omega
 simp [execOp,hA.ev hx,hA.ev hy,resolve,invoke,builtin,run_max_int2,e]
theorem Bhg:Yd P n fr H (.binOp .lss t x y t') ty (.bool (decide (a < b))):=.mk fun a w d pos Cd gd hA _=>by
 simp [execOp,hA.ev hx,hA.ev hy,eqGuard_lss,binOp_lss]
theorem Bhe:Yd P n fr H (.binOp .leq t x y t') ty (.bool (decide (a<=b))):=.mk fun a w d pos Cd gd hA _=>by
 simp [execOp,hA.ev hx,hA.ev hy,eqGuard_leq,binOp_leq]
theorem Bhb:Yd P n fr H (.binOp .gtr t x y t') ty (.bool (decide (b < a))):=.mk fun a w d pos Cd gd hA _=>by
 simp [execOp,hA.ev hx,hA.ev hy,eqGuard_gtr,binOp_gtr]
theorem Bha:Yd P n fr H (.binOp .geq t x y t') ty (.bool (decide (b<=a))):=.mk fun a w d pos Cd gd hA _=>by
 simp [execOp,hA.ev hx,hA.ev hy,eqGuard_geq,binOp_geq]
theorem Bg6:Yd P n fr H (.binOp .eql t x y t') ty (.bool (decide (a=b))):=.mk fun a w d pos Cd gd hA _=>by
 simp [execOp,hA.ev hx,hA.ev hy,eqGuard_at_int,binOp_eql];rfl
theorem Bhh:Yd P n fr H (.binOp .neq t x y t') ty (.bool (decide (¬a=b))):=.mk fun a w d pos Cd gd hA _=>by
 simp [execOp,hA.ev hx,hA.ev hy,eqGuard_at_int,binOp_neq,bne];rfl
end
section
variable {a b:au} {t t':TypeId} (hx:ev fr x=some (af a)) (hy:ev fr y=some (af b))
include hx hy
theorem Ie (h:a.size+b.size<=9223372036854775807):Yd P n fr H (.binOp .add t x y t') ty (af (a++b)):=.mk fun c w d pos Cd gd hA _=>by
 have:¬((a.size:Int)+b.size > 9223372036854775807):=EV
 simp [execOp,hA.ev hx,hA.ev hy,eqGuard_add,binOp,Op.stringOp,this]
theorem Bfp:Yd P n fr H (.binOp .eql t x y t') ty (.bool (decide (a=b))):=.mk fun c w d pos Cd gd hA _=>by
 simp [execOp,hA.ev hx,hA.ev hy,eqGuard_at_string,binOp,Op.stringOp,Ady a b]
theorem Bf2:Yd P n fr H (.binOp .neq t x y t') ty (.bool (decide (¬a=b))):=.mk fun c w d pos Cd gd hA _=>by
 simp [execOp,hA.ev hx,hA.ev hy,eqGuard_at_string,binOp,Op.stringOp,Ady a b]
end
theorem Afw {t:TypeId} [hB:BoolC P t] (a b:Bool) (w:World):(Op.equal t (.bool a) (.bool b)).run P w=.ok (a == b) w:=by
 unfold Op.equal;rw [show Op.maxDepth=9999+1 from rfl];unfold Op.equalIn;rw [Sem.run_bind,run_underlying hB.u w];rfl
theorem Bfo {a b:Bool} {t t':TypeId} [hB:BoolC P t] (hx:ev fr x=some (.bool a)) (hy:ev fr y=some (.bool b)):Yd P n fr H (.binOp .eql t x y t') ty (.bool (decide (a=b))):=.mk fun c w d pos Cd gd hA _=>by
 have e:binOp .eql t (.bool a) (.bool b)=(do pure (.bool (<-Op.equal t (.bool a) (.bool b)))):=rfl;exact DY
theorem Bfz {a b:Bool} {t t':TypeId} [hB:BoolC P t] (hx:ev fr x=some (.bool a)) (hy:ev fr y=some (.bool b)):Yd P n fr H (.binOp .neq t x y t') ty (.bool (decide (¬a=b))):=.mk fun c w d pos Cd gd hA _=>by
 have e:binOp .neq t (.bool a) (.bool b)=(do pure (.bool (!(<-Op.equal t (.bool a) (.bool b))))):=rfl;exact DY
theorem Aox {k k':IntKind} {a:Int} {s t:TypeId} [hS:IntC P s k'] [hD:IntC P t .i64] (hx:ev fr x=some (.int k a)) (h0:-9223372036854775808<=a) (h1:a<=9223372036854775807):Yd P n fr H (.convert s t x) ty (aa a):=.mk fun c w d pos Cd gd hA _=>by
 simp [execOp,hA.ev hx,convert,run_underlying hS.u,run_underlying hD.u,Conv.intToInt,IntWalk.i64_in _ ⟨h0,h1⟩]
theorem Bfv {a:aj} {len cp t e m:Nat} [hS:SlC P t e m] (hx:ev fr x=some (ab a len cp)):Yd P n fr H (.call { callee:=.builtin .len,args:=#[x],argTypes:=#[t] }) ty (aa len):=.mk fun c w d pos Cd gd hA _=>by
 simp [execOp,hA.ev hx,resolve,invoke,builtin,Builtin.len_,run_underlying hS.u,goInt]
theorem Bc9 {s:au} {t:Nat} [hS:StrC P t] (hx:ev fr x=some (af s)):Yd P n fr H (.call { callee:=.builtin .len,args:=#[x],argTypes:=#[t] }) ty (aa s.size):=.mk fun c w d pos Cd gd hA _=>by
 simp [execOp,hA.ev hx,resolve,invoke,builtin,run_len_string (h:=hS.u),goInt]
theorem O8 {t e m i:Nat} {a:aj} {len cp:Nat} {z:Int} [hS:SlC P t e m] (hx:ev fr x=some (ab a len cp)) (hy:ev fr y=some (aa z)) (hz:z=(i:Int)) (hi:i<=cp) (hc:cp<=9223372036854775807):Yd P n fr H (.slice t x none (some y) none) ty (ab a i cp):=.mk fun ac w d pos Cd gd hA _=>by
 subst hz;have he2:P.elem t=e:=JN
 have h3:(Instr.sliceAt t (ab a len cp) none (some (aa (i:Int))) none).run P w=.ok (ab a i cp) w:=by
  rw [run_sliceAt_slice (h:=GB),run_slice_h (ht:=GB) (h0:=EV) (h2:=EV),he2,Mw hS.s];have h0:a.map (fun b=>b.add 0)=a:=by cases a <;> simp [Addr.add]
  simp [Result.andThen,sliced,h0]
 exact BK
theorem Bg9 {f:Nat} {caps:List Operand} {vs:am} (hc:Evs fr caps vs):Yd P n fr H (.makeFunc (.func f) #[] caps.toArray) ty (.func (.func f) #[] vs.toArray):=.mk fun c w d pos Cd gd hA _=>by
 simp [execOp,Instr.makeFunc,hA.evs hc]
end
theorem Mq (w:World) (g:Nat):∀(c:am) (w:World) (p:Nat),Ny w g p c=w.setCells g p c
 | [],_,_=>rfl
 | _::r,_,_=>Mq w g r _ _
theorem Nd (z:Array Value) (n:Nat):(Builtin.zeroCells z n).toList.length=n * z.size:=by simp [Builtin.zeroCells]
theorem Ah9 (z:Array Value) (h:∀u∈z,u.oneCell'=true) (n:Nat):∀u∈(Builtin.zeroCells z n).toList,u.oneCell'=true:=by
 intro u hu;simp only [Builtin.zeroCells,Array.toList_map,bO] at hu;obtain ⟨i,hi,rfl⟩:=hu;simp at hi;have hz:0 < z.size:=Nat.pos_of_ne_zero fun e=>by rw [e,Nat.mul_zero] at hi;omega
 have hm:i % z.size < z.size:=Nat.mod_lt _ hz;rw [getElem!_pos z _ hm];exact h _ (Array.getElem_mem _)
theorem Tk {P:Program} (w:World) (t e ty:TypeId) (z:Value) (ht:P.underlying t=some (.slice e)) (hv:∀w,(zeroValue e).run P w=.ok z w) (h1:∀u∈z.cells,u.oneCell'=true) (b o n c:Nat) (hn:0 < n)
  (hc:∀j,j < n * z.cells.size->(w.cell? ⟨b,o+j,none⟩).isSome=true) (hf:∀j,j < n * z.cells.size->w.frozen? ⟨b,o+j,none⟩=false) :
  (Builtin.clear_ #[t] ty #[ab (some ⟨b,o,none⟩) n c]).run P w=.ok (.tuple #[]) (w.setCells b o (Builtin.zeroCells z.cells n).toList):=by
 have hst:=run_storeCells_cells (P:=P) b o (Builtin.zeroCells z.cells n).toList 0 w (by rw [Nd];simpa using hc) (by rw [Nd];simpa using hf) (Ah9 _ h1 _);simp only [bN] at hst;obtain ⟨m,rfl⟩:∃m,n=m+1:=⟨n - 1,EV⟩;simp [Builtin.clear_,run_underlying ht,hv,hst]
theorem Wf {P:Program} {e:TypeId} {z:Value} {size bytes:Nat} (h:(P.info? e).map (fun i=>(i.zero,i.size,i.bytes))=some (some z,size,bytes)):∀w,(zeroValue e).run P w=.ok z w:=fun w=>by
 obtain ⟨i,hi,hzz⟩:=cu.1 h;simp only [Prod.mk.injEq] at hzz;obtain ⟨hz, -, -⟩:=hzz;simp [zeroValue,typeInfo,hi,hz]
theorem Ym {α:Type} {p:α->Bool} {xs:List α} (h:xs.any p=true):∃k,∃hk:k < xs.length,Rl p xs=k/\p xs[k]=true/\(xs.take k).filter (fun x=>!p x)=xs.take k:=by
 have hk:xs.findIdx p < xs.length:=eD (by obtain ⟨x,hx,hp⟩:=cG.1 h;exact ⟨x,hx,hp⟩);refine ⟨_,hk,by unfold Rl;rw [aH h],f9 (w:=hk),?_⟩;rw [dv];intro x hx;obtain ⟨i,hi,rfl⟩:=cM.1 hx;have:=List.not_of_lt_findIdx (p:=p) (xs:=xs) (show i < xs.findIdx p by omega);exact ET
theorem Aa2 {α:Type} {p:α->Bool} {xs:List α} (h:¬xs.any p=true):Rl p xs=-1/\xs.filter (fun x=>!p x)=xs:=by
 refine ⟨by unfold Rl;rw [aC h],?_⟩;rw [dv];intro x hx;cases hp:p x
 ·rfl
 ·exact absurd (cG.2 ⟨x,hx,hp⟩) h
theorem Gw {α:Type} {q:α->Bool} {xs:List α} {j:Nat} (h:j < xs.length) (hq:q xs[j]=true):(xs.take (j+1)).filter q=(xs.take j).filter q++[xs[j]]:=by
 rw [aR h,bY];simp [hq]
theorem C9 {α:Type} {q:α->Bool} {xs:List α} {j:Nat} (h:j < xs.length) (hq:q xs[j]=false):(xs.take (j+1)).filter q=(xs.take j).filter q:=by
 rw [aR h,bY];simp [hq]
theorem Ag2 {w:World} {g off n:Nat} {c c':am} (h:c.length=n) (h':c'.length=n) (hc:∀j,j < n->w.cell? ⟨g,off+j,none⟩=c[j]?) (hc':∀j,j < n->w.cell? ⟨g,off+j,none⟩=c'[j]?):c=c':=by
 apply dm;intro j;by_cases hj:j < n
 ·rw [<-hc j hj,hc' j hj]
 ·rw [bn EV,bn EV]
def Gap {α:Type} (O:Bw α) (t:TypeId) (w:World) (g n cap:Nat) (ys:List α) (m:Nat) (zs:List α) (F:aq):Prop :=
 ∃c1 jk c3 rest G1 G3,n=ys.length+m+zs.length/\If w g t (c1++jk++c3++rest)/\n<=cap/\cap<=maxLen/\c1.length+jk.length+c3.length+rest.length=cap * O.sz/\jk.length=m * O.sz /\
  Cw O w c1 ys G1/\Cw O w c3 zs G3/\F=g::(G1++G3)/\F.Nodup
section
variable {α:Type} {O:Bw α} {t:TypeId} {w:World} {g n cap m:Nat} {ys zs:List α} {F:aq}
theorem Gap.start {a:aj} {n:Nat} {xs:List α} (h:Ow O t w (ab a n cap) xs F) (hn:F.Nodup) (e:xs=ys++zs) (h0:0 < xs.length):∃g,a=some ⟨g,0,none⟩/\n=xs.length/\Gap O t w g n cap ys 0 zs F:=by
 subst e;rcases h with ⟨_,h1,_⟩|⟨g,cap',cs,rest,G,hv,hr,h3,h4,h5,hf,rfl⟩
 ·rw [h1] at h0;simp at h0
 ·cases hv;obtain ⟨c1,c2,G1,G2,rfl,rfl,f1,f2⟩:=hf.split;refine ⟨g,rfl,rfl,c1,[],c2,rest,G1,G2,EX,GH,h3,h4,by simpa using h5,EX,f1,f2,rfl,hn⟩
theorem Gap.skip {x:α} (h:Gap O t w g n cap ys m (x::zs) F):∃F',Gap O t w g n cap ys (m+1) zs F'/\∀b∈F',b∈F:=by
 obtain ⟨c1,jk,c3,rest,G1,G3,hn,hr,h1,h2,h3,h4,f1,⟨c,c4,Fx,G4,rfl,rfl,hx,f3⟩,rfl,hnd⟩:=h;have hl:=O.len hx;refine ⟨g::(G1++G4),⟨c1,jk++c,c4,rest,G1,G4,by simp at hn ⊢;omega,GH,h1,h2,by simp at h3 ⊢;omega,by rw [aA,h4,hl,cD];simp,f1,f3,rfl,?_⟩,by intro b hb;simp at hb ⊢;rcases hb with hb|hb|hb <;> simp [hb]⟩;simp only [dl,bK,aJ,not_or] at hnd ⊢;exact ⟨⟨hnd.1.1,hnd.1.2.2⟩,hnd.2.1,hnd.2.2.1.2.1,fun a ha b hb=>hnd.2.2.2 a ha b (.inr hb)⟩
theorem Gap.first {x:α} (h:Gap O t w g n cap ys m (x::zs) F):∃c Fx,O.Kz w c x Fx/\(∀b∈Fx,b∈F)/\∀j,j < O.sz->w.cell? ⟨g,(ys.length+m) * O.sz+j,none⟩=c[j]?:=by
 obtain ⟨c1,jk,c3,rest,G1,G3,hn,hr,h1,h2,h3,h4,f1,⟨c,c4,Fx,G4,rfl,rfl,hx,f3⟩,rfl,hnd⟩:=h;have hl:=O.len hx;refine ⟨c,Fx,hx,fun b hb=>by simp [hb],fun j hj=>?_⟩;have hr':If w g t ((c1++jk)++c++(c4++rest)):=GH
 exact hr'.cellMid (by rw [aA,f1.len,h4,cD]) EV
theorem Gap.move {x:α} (hm:0 < m) (h:Gap O t w g n cap ys m (x::zs) F) :
  (∀j,j < O.sz->(∃u,w.cell? ⟨g,ys.length * O.sz+j,none⟩=some u)/\w.frozen? ⟨g,ys.length * O.sz+j,none⟩=false) /\
  ∃c Fx,O.Kz w c x Fx/\(∀b∈Fx,b∈F)/\(∀j,j < O.sz->w.cell? ⟨g,(ys.length+m) * O.sz+j,none⟩=c[j]?)/\∀w',Below w.heap.size w w'->∃F',Gap O t (Ny w' g (ys.length * O.sz) c) g n cap (ys++[x]) m zs F'/\∀b∈F',b∈F:=by
 obtain ⟨c,Fx,hx0,hxF,hcell⟩:=h.first
 obtain ⟨c1,jk,c3,rest,G1,G3,hn,hr,h1,h2,h3,h4,f1,⟨c',c4,Fx',G4,rfl,rfl,hx,f3⟩,rfl,hnd⟩:=h;have hl:=O.len hx;have hl0:=O.len hx0;obtain ⟨m',rfl⟩:∃m',m=m'+1:=⟨m - 1,EV⟩;have hjk:jk=jk.take O.sz++jk.drop O.sz:=EX
 have hjl:(jk.take O.sz).length=O.sz:=by rw [aO,h4,cD];omega
 have hA:=f1.len;have hr':If w g t (c1++jk.take O.sz++(jk.drop O.sz++c'++c4++rest)):=by
  have e:c1++jk.take O.sz++(jk.drop O.sz++c'++c4++rest)=c1++jk++(c'++c4)++rest:=by
   simp only [aM];rw [<-aM (jk.take O.sz),bo]
  rw [e];exact hr
 have hcc:c=c':=by
  apply dm ;intro j;by_cases hj:j < O.sz
  ·have hr2:If w g t ((c1++jk)++c'++(c4++rest)):=GH
   rw [<-hcell j hj,hr2.cellMid (by rw [aA,hA,h4,<-cD]) EV]
  ·rw [bn EV,bn EV]
 refine ⟨fun j hj=>⟨⟨_,by rw [hr'.cellMid (j:=j) EV EV,aD EV]⟩,hr'.frozen _⟩,c,Fx',hcc▸hx,fun b hb=>by simp [hb],hcell,fun w' hb=>?_⟩;subst hcc;have hgl:=hr.lt;have hnd':=hnd;simp only [dl,bK,aJ,not_or] at hnd';have hrow:=(hr'.below hb).put c (jk.take O.sz) (p:=ys.length * O.sz) hA.symm EV;have hfr:∀b,b < w.heap.size->b≠g->(Ny w' g (ys.length * O.sz) c).heap[b]?=w.heap[b]?:=fun b hb1 hb2=>(Nz c w' _ b hb2).trans (hb.block b hb1);have n1:∀b∈G1,b≠g:=fun b hb e=>hnd'.1.1 (e▸hb)
 have n2:∀b∈Fx',b≠g:=fun b hb e=>hnd'.1.2.1 (e▸hb);have n3:∀b∈G4,b≠g:=fun b hb e=>hnd'.1.2.2 (e▸hb);refine ⟨g::((G1++Fx')++G4),⟨c1++c,jk.drop O.sz++c,c4,rest,G1++Fx',G4,by simp at hn ⊢;omega,?_,h1,h2,?_,?_,?_,f3.frame fun b hb=>hfr b (f3.lt b hb) (n3 b hb),rfl,?_⟩,by intro b hb;simpa [or_assoc] using hb⟩
 ·simpa using hrow
 ·simp [h4,cD] at h3 ⊢;omega
 ·simp [h4,cD];omega
 ·exact (f1.frame fun b hb=>hfr b (f1.lt b hb) (n1 b hb)).append (Cw.one (O.frame hx fun b hb=>hfr b (O.lt hx b hb) (n2 b hb)))
 ·simpa using hnd
theorem Gap.below {w':World} (h:Gap O t w g n cap ys m zs F) (hb:Below w.heap.size w w'):Gap O t w' g n cap ys m zs F:=by
 obtain ⟨c1,jk,c3,rest,G1,G3,hn,hr,h1,h2,h3,h4,f1,f3,hF,hnd⟩:=h;exact ⟨c1,jk,c3,rest,G1,G3,hn,hr.below hb,h1,h2,h3,h4,f1.frame fun b h=>hb.block b (f1.lt b h),f3.frame fun b h=>hb.block b (f3.lt b h),hF,hnd⟩
theorem Gap.caps (h:Gap O t w g n cap ys m zs F):n=ys.length+m+zs.length/\n<=cap/\cap<=maxLen/\g < w.heap.size/\g∈F/\F.Nodup:=by
 obtain ⟨c1,jk,c3,rest,G1,G3,hn,hr,h1,h2,h3,h4,f1,f3,rfl,hnd⟩:=h;exact ⟨hn,h1,h2,hr.lt,EX,hnd⟩
theorem Gap.done {z:Array Value} (hz:z.size=O.sz) (h:Gap O t w g n cap ys m [] F) :
  (∀j,j < m * O.sz->(w.cell? ⟨g,ys.length * O.sz+j,none⟩).isSome=true/\w.frozen? ⟨g,ys.length * O.sz+j,none⟩=false) /\
  ∃F',Ow O t (w.setCells g (ys.length * O.sz) (Builtin.zeroCells z m).toList) (ab (some ⟨g,0,none⟩) ys.length cap) ys F'/\F'.Nodup/\∀b∈F',b∈F:=by
 obtain ⟨c1,jk,c3,rest,G1,G3,hn,hr,h1,h2,h3,h4,f1,⟨rfl,rfl⟩,rfl,hnd⟩:=h;have hA:=f1.len;simp only [bg] at hr hnd;have hr':If w g t (c1++jk++rest):=hr;refine ⟨fun j hj=>⟨?_,hr'.frozen _⟩,g::G1,?_,hnd,EX⟩
 ·rw [hr'.cellMid (j:=j) EV EV,aD EV];rfl
 ·rw [<-Mq w];have hrow:=hr'.put (Builtin.zeroCells z m).toList jk (p:=ys.length * O.sz) hA.symm (by rw [Nd,h4,hz]);have hng:g ∉ G1:=by simp at hnd;exact hnd.1
  refine .inr ⟨g,cap,c1,(Builtin.zeroCells z m).toList++rest,G1,rfl,by simpa using hrow,by simp at hn;omega,h2,?_,f1.frame fun b hb=>Nz _ _ _ _ fun e=>hng (e▸hb),rfl⟩;rw [aA,Nd,hz,<-h4];simp at h3;omega
end
class ZC (P:Program) (t:TypeId) (zs:outParam (am)):Prop where
 z:∃v,(P.info? t).map (·.zero)=some (some v)/\v.cells=zs.toArray
class ElT (P:Program) (e:TypeId) (z:outParam Value) (n:outParam Nat) (by_:outParam Nat):Prop where
 i:(P.info? e).map (fun i=>(i.zero,i.size,i.bytes))=some (some z,n,by_)
 s:z.cells.size=n
class BldC (P:Program) (t:TypeId) (pl:outParam (List (Nat × Nat))) (zs:outParam (am)):Prop where
 b:∀parts,P.built t parts=Instr.fill (pl.toArray[·]?) zs.toArray parts
def Q2 (P:Program) (f:FuncId):Bool:=match P.funcs[f]? with
 | some fn=>!(fn.name == "runtime.NumGoroutine") && !fn.body.isNone
 | none=>false
theorem Ve {P:Program} {f:FuncId} (h:Q2 P f=true):Y0 P f:=by
 unfold Q2 at h
 split at h
 ·rename_i fn hf;simp only [aw,bu] at h;exact .mk' hf h.1 h.2
 ·cases h
structure Ef (c:Cx) (fr:Fr) (H:List Pc) (o:Oper) (Φ:Gl):Prop where
 h:∀Q a w,St c.G c.D c.w0 H w->Ag c.n fr a->o.wp c.P a w (Φ.sem c) Q
structure Cl (c:Cx) (fr:Fr) (H:List Pc) (d:Nat) (f:FuncId) (vs:am) (Φ:Gl):Prop where
 h:∀w,St c.G c.D c.w0 H w->∃R:Ending->World->Prop,Calls c.P f vs.toArray w R/\∀e w',R e w'->∃v,e=.returned v/\∀a,Ag c.n ((d,v)::fr) a->Φ.sem c a w'
theorem Pd {c:Cx} {fr:Fr} {H:List Pc} {o:Oper} {Φ:Gl} (h:∀Q a w,St c.G c.D c.w0 H w->Ag c.n fr a->Oper.upon c.P o a (Φ.sem c) Q ((execOp a.eval o).run c.P w)):Ef c fr H o Φ:=⟨h⟩
inductive Rpl:List Pc->Pc->Pc->List Pc->Prop
 | here {p q R}:Rpl (p::R) p q (q::R)
 | there {x p q R S}:Rpl R p q S->Rpl (x::R) p q (x::S)
theorem Rpl.picks {H p q S} (h:Rpl H p q S):∃R,C2 H p R/\C2 S q R:=by
 induction h with
 | here=>exact ⟨_,.here,.here⟩
 | there _ ih=>obtain ⟨R,h1,h2⟩:=ih;exact ⟨_,.there h1,.there h2⟩
theorem C2.unsep {H p R} (h:C2 H p R) (hs:Si (p::R)):Si H:=by
 induction h with
 | here=>exact hs
 | @there x p R R' h ih =>
  have h2:=Si.perm2 hs;have h3:=ih h2.2;refine ⟨fun q hq=>?_,h3⟩;have:∀{A:List Pc} {p B},C2 A p B->∀q∈A,q=p\/q∈B:=by
   intro A p B h
   induction h with
   | here=>intro q hq;simpa using hq
   | there _ ih =>
    intro q hq;rcases aG.1 hq with rfl|hq
    ·simp
    ·rcases ih q hq with h|h <;> simp [h]
  rcases this h q hq with rfl|hq
  ·exact h2.1 _ EX
  ·exact h2.1 _ FX
theorem C2.or {A:List Pc} {p B} (h:C2 A p B):∀q∈A,q=p\/q∈B:=by
 induction h with
 | here=>intro q hq;simpa using hq
 | there _ ih =>
  intro q hq;rcases aG.1 hq with rfl|hq
  ·simp
  ·rcases ih q hq with h|h <;> simp [h]
theorem St.unpick {G D w0 H p R w} (s:St G D w0 (p::R) w) (h:C2 H p R):St G D w0 H w :=
 ⟨s.I5,fun q hq=>by rcases h.or q hq with rfl|hq;exact s.on _ EX;exact s.on _ FX,h.unsep s.sep,fun q hq=>by rcases h.or q hq with rfl|hq;exact s.Acz _ EX;exact s.Acz _ FX⟩
theorem St.rpl {G D w0 H p q S} {w w':World} (s:St G D w0 H w) (h:Rpl H p q S) (hm:p.mu=true) (hF:∀b∈q.F,b∈p.F\/w.heap.size<=b) (hk:Ei p.F w w') (hq:q.P w'):St G D w0 S w':=by
 obtain ⟨R,h1,h2⟩:=h.picks;refine St.unpick (R:=R) ?_ h2;refine St.turn (M:=[p]) (R:=R) (N:=[q]) (s.pick h1) (by simpa [List.filter,hm,fp] using hk) (by intro x hx;simp at hx;subst hx;exact hq) ⟨EX,trivial⟩ fun x hx b hb=>?_;simp at hx;subst hx;rcases hF b hb with h|h
 ·exact .inr (.inl ⟨p,EX,hm,h⟩)
 ·exact .inl h
theorem St.add {G D w0 H} {w w':World} {N:List Pc} (s:St G D w0 H w) (hb:Below w.heap.size w w') (hN:Od N w') (hs:Si N) (hF:∀p∈N,∀b∈p.F,w.heap.size<=b\/(p.mu=false/\∃q∈H,q.mu=false/\b∈q.F)):St G D w0 (N++H) w' :=
 St.turn (M:=[]) (R:=H) (N:=N) s (by simpa [fp] using Ei.ofBelow hb) hN hs fun p hp b hb=>by
  rcases hF p hp b hb with h|h
  ·exact .inl h
  ·exact .inr (.inr FF)
theorem St.below {G D w0 H} {w w':World} (s:St G D w0 H w) (hb:Below w.heap.size w w'):St G D w0 H w':=s.add (N:=[]) hb (by intro p hp;simp at hp) trivial EX
theorem Xa (w:World) (o:Obj):Below w.heap.size w (w.alloc o):=(Below.refl _ _).alloc (aK _) o
theorem St.new {G D w0 H} {w:World} (s:St G D w0 H w) (t:TypeId) (cs:am):St G D w0 (.row w.heap.size t 0 [] cs []::H) (w.alloc (.cells cs.toArray t)) :=
 s.add (N:=[.row w.heap.size t 0 [] cs []]) (Xa _ _) (by intro p hp;simp at hp;subst hp;exact ⟨rfl,by simpa using If.made w t cs⟩) ⟨EX,trivial⟩ (by intro p hp b hb;simp at hp;subst hp;simp [Pc.F] at hb;subst hb;exact .inl (aK _))
inductive Put:am->Nat->am->am->Prop
 | zero {cs}:Put cs 0 [] cs
 | one {x cs u l r}:Put cs 0 l r->Put (x::cs) 0 (u::l) (u::r)
 | skip {x cs j l r}:Put cs j l r->Put (x::cs) (j+1) l (x::r)
theorem Put.parts {cs j l r} (h:Put cs j l r):∃A o B,cs=A++o++B/\r=A++l++B/\A.length=j/\o.length=l.length:=by
 induction h with
 | @zero cs=>exact ⟨[],[],cs,EX,EX,rfl,rfl⟩
 | @one x cs u l r _ ih =>
  obtain ⟨A,o,B,rfl,rfl,hA,ho⟩:=ih;have:A=[]:=bE hA;subst this;exact ⟨[],x::o,B,EX,EX,rfl,by simp [ho]⟩
 | @skip x cs j l r _ ih =>
  obtain ⟨A,o,B,rfl,rfl,hA,ho⟩:=ih;exact ⟨x::A,o,B,EX,EX,by simp [hA],ho⟩
theorem Ah7 {P:Program} {t:TypeId} {n:Nat} (hs:(P.info? t).map (·.size)=some n) {w:World} {b o:Nat} {v:Value} {l:am} (hv:v.cells=l.toArray) (hl:l.length=n) (ht:w.there b o n) (h1:l.all (·.oneCell')=true) :
  (Instr.storeAt t (.pointer (some ⟨b,o,none⟩)) v).run P w=.ok () (w.setCells b o l):=by
 subst hl;have:=run_storeCells_cells (P:=P) b o l 0 w (fun j hj=>by simpa using (ht j hj).1) (fun j hj=>by simpa using (ht j hj).2) (fun v hv=>aV.1 h1 v hv);simp only [bN] at this;simp [Instr.storeAt,Instr.sureAddr,storeVar,Mw hs,hv,this]
theorem Bcq {w:World} {g t o j:Nat} {A cs B l r:am} (h:(Pc.row g t o A cs B).P w) (hp:Put cs j l r):(Pc.row g t o A r B).P (w.setCells g (o+j) l)/\Ei [g] w (w.setCells g (o+j) l):=by
 obtain ⟨rfl,h⟩:=h;obtain ⟨X,y,Y,rfl,rfl,rfl,hy⟩:=hp.parts;have h2:If w g t ((A++X)++y++(Y++B)):=FF
 have h3:=If.put l y h2 (p:=A.length+X.length) EX hy.symm;have hk:=Ly (g:=g) l w (A.length+X.length);rw [Mq w g l w] at h3 hk;exact ⟨⟨rfl,HT⟩,hk⟩
def Fn (P:Program) (f:FuncId) (args:am) (A M:List Pc) {σ:Type} (C:σ->Prop) (v:σ->Value) (N:σ->List Pc):Prop :=
 ∀w,Od (M++A) w->Si (M++A)->Calls P f args.toArray w fun e w'=>∃s,C s/\e=.returned (v s)/\Od (N s) w'/\Si (N s)/\Ei (fp M) w w' /\
  ∀p∈N s,∀b∈p.F,w.heap.size<=b\/(∃q∈M,b∈q.F)\/(p.mu=false/\∃q∈A,b∈q.F)
inductive Km:List Pc->List Pc->List Pc->Prop
 | nil {H}:Km H [] H
 | cons {H p R M S}:C2 H p R->Km R M S->Km H (p::M) S
theorem Km.st {G D w0 H M R w} (h:Km H M R):∀{X:List Pc},St G D w0 (X++H) w->St G D w0 (X++(M++R)) w:=by
 induction h with
 | nil=>intro X s;simpa using s
 | @cons H p R M S hp _ ih =>
  intro X s;have h1:∀(X:List Pc),C2 (X++H) p (X++R):=by
   intro X;induction X with
   | nil=>exact hp
   | cons x X ih=>exact .there ih
  have h2:∀(X:List Pc),C2 (X++(p::(M++S))) p (X++(M++S)):=by
   intro X;induction X with
   | nil=>exact .here
   | cons x X ih=>exact .there ih
  have s1:=s.pick (h1 X);have s2:=ih (X:=p::X) (by simpa using s1);exact St.unpick (by simpa using s2) (h2 X)
inductive Mt:List Pc->List Pc->Prop
 | nil {H}:Mt [] H
 | cons {p A H}:p∈H->Mt A H->Mt (p::A) H
theorem Mt.all {A H} (h:Mt A H):∀p∈A,p∈H:=by
 induction h with
 | nil=>simp
 | cons h _ ih=>intro q hq;rcases aG.1 hq with rfl|hq;exact h;exact ih q hq
section
variable {c:Cx} {fr:Fr} {H:List Pc} {k:List It} {Φ:Gl} {ops:Array Oper} {rest:List Oper} {d:Nat} {o:Op} {ty:TypeId} {pos:String} {Cd:Array Edge} {v u:Value} {x y:Operand}
theorem Bh9 {o:Oper} (h:Ef c fr H o (.list k ops rest)) (hg:o.guard=none:=by rfl):T c fr H (.list k ops (o::rest)):=.mk fun a w s g =>
 wpList_plain hg fun K hK=>Oper.wp_mono hK (h.h _ a w s g)
theorem Bdl {gd:Option (Nat × Bool)} (hy:Yd c.P c.n fr H o ty v) (hd:Nat.blt d c.n=true) (h:T c ((d,v)::fr) H Φ):Ef c fr H ⟨some d,o,ty,pos,Cd,gd⟩ Φ:=Pd fun Q a w s g=>by
 rw [hy.h a w (some d) pos Cd gd g s.on];exact h.h _ _ s (g.put hd)
structure On (c:Cx) (fr:Fr) (H:List Pc) (od:Option Tmp) (o:Op) (ty:TypeId) (Φ:Gl):Prop where
 h:∀pos Cd gd,Ef c fr H ⟨od,o,ty,pos,Cd,gd⟩ Φ
theorem wO {od:Option Tmp} (h:On c fr H od o ty (.list k ops rest)):T c fr H (.list k ops (⟨od,o,ty,pos,Cd,none⟩::rest)):=Bh9 (h.h pos Cd none)
theorem oc (hd:Nat.blt d c.n=true) (hy:Yd c.P c.n fr H o ty v) (h:T c ((d,v)::fr) H Φ):On c fr H (some d) o ty Φ:=⟨fun _ _ _=>Bdl hy hd h⟩
/-! guards of a plain region -/
theorem U9 {a:Act} {j t:Nat} {b b':Bool} {od:Option Tmp} (ht:(ops[j]?).bind (·.dst)=some t) (hl:Rn fr t=some (.bool b')) (g:Ag c.n fr a):Region.wanted ⟨od,o,ty,pos,Cd,some (j,b)⟩ (yielded ops a.tmps)=(b' == b):=by
 simp only [Region.wanted,yielded,ht,de,g.at_ t _ hl];cases b <;> cases b' <;> rfl
theorem Aot {j t:Nat} {b:Bool} {od:Option Tmp} (ht:(ops[j]?).bind (·.dst)=some t) (hl:Rn fr t=some (.bool b)) (h:T c fr H (.list k ops (⟨od,o,ty,pos,Cd,none⟩::rest))) :
  T c fr H (.list k ops (⟨od,o,ty,pos,Cd,some (j,b)⟩::rest)):=.mk fun a w s g=>by
 have h1:=h.h a w s g;simp only [Gl.sem] at h1 ⊢;unfold wpList at h1 ⊢;rw [U9 (c:=c) ht hl g];simp only [Region.wanted,if_true,beq_self_eq_true] at h1 ⊢;exact h1
theorem Aos {j t:Nat} {b b':Bool} (ht:(ops[j]?).bind (·.dst)=some t) (hl:Rn fr t=some (.bool b')) (hb:(b' == b)=false) (hd:Nat.blt d c.n=true) (h:T c ((d,undef)::fr) H (.list k ops rest)) :
  T c fr H (.list k ops (⟨some d,o,ty,pos,Cd,some (j,b)⟩::rest)):=.mk fun a w s g=>by
 simp only [Gl.sem];unfold wpList;rw [U9 (c:=c) ht hl g,hb];simp only [dW,if_false];exact h.h _ _ s (g.put hd)
theorem Aou {j t:Nat} {b:Bool} (ht:(ops[j]?).bind (·.dst)=some t) (hl:Rn fr t=some undef) (hd:Nat.blt d c.n=true) (h:T c ((d,undef)::fr) H (.list k ops rest)) :
  T c fr H (.list k ops (⟨some d,o,ty,pos,Cd,some (j,b)⟩::rest)):=.mk fun a w s g=>by
 have hw:Region.wanted ⟨some d,o,ty,pos,Cd,some (j,b)⟩ (yielded ops a.tmps)=false:=by
  simp only [Region.wanted,yielded,ht,de,g.at_ t _ hl];rfl
 simp only [Gl.sem];unfold wpList;rw [hw];simp only [dW,if_false];exact h.h _ _ s (g.put hd)
theorem Dc {j t:Nat} {b:Bool} {od:Option Tmp} {p:Prop} {_:Decidable p} (ht:(ops[j]?).bind (·.dst)=some t) (hl:Rn fr t=some (.bool (decide p))) (h1:p->T c ((t,.bool true)::fr) H (.list k ops (⟨od,o,ty,pos,Cd,some (j,b)⟩::rest))) (h2:¬p->T c ((t,.bool false)::fr) H (.list k ops (⟨od,o,ty,pos,Cd,some (j,b)⟩::rest))) :
  T c fr H (.list k ops (⟨od,o,ty,pos,Cd,some (j,b)⟩::rest)):=.mk fun a w s g=>by
 by_cases hp:p
 ·rw [av hp] at hl;exact (h1 hp).h a w s ⟨g.df,g.sz,fun i z hz=>by rw [Ux] at hz;split at hz;(rename_i e;subst e;rw [<-hz,g.at_ _ _ hl]);exact g.at_ i z hz⟩
 ·rw [ay hp] at hl;exact (h2 hp).h a w s ⟨g.df,g.sz,fun i z hz=>by rw [Ux] at hz;split at hz;(rename_i e;subst e;rw [<-hz,g.at_ _ _ hl]);exact g.at_ i z hz⟩
/-! memory -/
theorem Awz {t:TypeId} {zs:am} {gd:Option (Nat × Bool)} [hZ:ZC c.P t zs] (h:∀g,T c ((d,Gc g 0 0)::fr) (.row g t 0 [] zs []::H) Φ) (hd:Nat.blt d c.n=true:=by rfl):Ef c fr H ⟨some d,.alloc t,ty,pos,Cd,gd⟩ Φ:=Pd fun Q a w s g=>by
 obtain ⟨z,hz,hzc⟩:=hZ.z;obtain ⟨i,hi,hiz⟩:=cu.1 hz;have e:(execOp a.eval ⟨some d,.alloc t,ty,pos,Cd,gd⟩).run c.P w=.ok (.value (Gc w.heap.size 0 0)) (w.alloc (.cells zs.toArray t)):=by
  simp [execOp,Instr.alloc,zeroValue,typeInfo,hi,hiz,newVar,newRow,hzc,Gc]
 rw [e];exact (h _).h _ _ (s.new t zs) (g.put hd)
theorem Bef {t:TypeId} {l:am} {gd:Option (Nat × Bool)} (hx:ev fr x=some v) (hv:v.cells=l.toArray) (h:∀g,T c ((d,Gc g 0 0)::fr) (.row g t 0 [] l []::H) Φ) (hd:Nat.blt d c.n=true:=by rfl):Ef c fr H ⟨some d,.box t x,ty,pos,Cd,gd⟩ Φ:=Pd fun Q a w s g=>by
 have e:(execOp a.eval ⟨some d,.box t x,ty,pos,Cd,gd⟩).run c.P w=.ok (.value (Gc w.heap.size 0 0)) (w.alloc (.cells l.toArray t)):=by
  simp [execOp,Instr.box,g.ev hx,newVar,newRow,hv,Gc]
 rw [e];exact (h _).h _ _ (s.new t l) (g.put hd)
theorem Amk {t g tt o' j m:Nat} {A cs B l r:am} {S:List Pc} {gd:Option (Nat × Bool)} (hs:(c.P.info? t).map (·.size)=some m) (hx:ev fr x=some (Gc g o' j)) (hy:ev fr y=some v) (hv:v.cells=l.toArray) (hl:l.length=m) (h1:l.all (·.oneCell')=true)
  (hp:Put cs j l r) (hr:Rpl H (.row g tt o' A cs B) (.row g tt o' A r B) S) (h:T c fr S Φ):Ef c fr H ⟨none,.store t x y,ty,pos,Cd,gd⟩ Φ:=Pd fun Q a w s ag=>by
 have hP:(Pc.row g tt o' A cs B).P w:=by obtain ⟨R,h1,_⟩:=hr.picks;exact s.on _ h1.mem
 have ht:w.there g (o'+j) m:=fun i hi=>by
  obtain ⟨X,z,Y,rfl, -,rfl,hz⟩:=hp.parts;have:=Au0 hP (X.length+i) FB
  rwa [<-fw] at this
 have e:(execOp a.eval ⟨none,.store t x y,ty,pos,Cd,gd⟩).run c.P w=.ok .skip (w.setCells g (o'+j) l):=by
  simp [execOp,ag.ev hx,ag.ev hy,Gc,Ah7 hs hv hl ht h1]
 rw [e];have ⟨h2,h3⟩:=Bcq hP hp;exact h.h _ _ (s.rpl hr rfl (fun b hb=>.inl hb) h3 h2) ag
theorem Ci {t:TypeId} {zs:am} [hZ:ZC c.P t zs] (hd:Nat.blt d c.n=true) (h:∀g,T c ((d,Gc g 0 0)::fr) (.row g t 0 [] zs []::H) Φ):On c fr H (some d) (.alloc t) ty Φ:=⟨fun _ _ _=>Awz h hd⟩
theorem Bgv {t:TypeId} {l:am} (hd:Nat.blt d c.n=true) (hx:ev fr x=some v) (hv:v.cells=l.toArray) (h:∀g,T c ((d,Gc g 0 0)::fr) (.row g t 0 [] l []::H) Φ):On c fr H (some d) (.box t x) ty Φ:=⟨fun _ _ _=>Bef hx hv h hd⟩
theorem Ap7 {t g tt o' j m:Nat} {A cs B l r:am} {S:List Pc} (hx:ev fr x=some (Gc g o' j)) (hy:ev fr y=some v) (hv:v.cells=l.toArray) (hs:(c.P.info? t).map (·.size)=some m) (hl:l.length=m) (hr:Rpl H (.row g tt o' A cs B) (.row g tt o' A r B) S) (hp:Put cs j l r) (h1:l.all (·.oneCell')=true) (h:T c fr S Φ):On c fr H none (.store t x y) ty Φ :=
 ⟨fun _ _ _=>Amk hs hx hy hv hl h1 hp hr h⟩
/-! calls -/
theorem Bdk {f:Nat} {aS:List Operand} {ts:Array TypeId} {vs:am} {gd:Option (Nat × Bool)} (h:Cl c fr H d f vs Φ) (ha:Evs fr aS vs) (hb:Q2 c.P f=true) (hd:Nat.blt d c.n=true):Ef c fr H ⟨some d,.call { callee:=.value (.func f),args:=aS.toArray,argTypes:=ts },ty,pos,Cd,gd⟩ Φ:=Pd fun Q a w s g=>by
 have e:(execOp a.eval ⟨some d,.call { callee:=.value (.func f),args:=aS.toArray,argTypes:=ts },ty,pos,Cd,gd⟩).run c.P w=(callFunc f vs.toArray).run c.P w:=by
  simp [execOp,resolve,Deferred.ofValue,Act.eval,invoke,g.evs ha]
 rw [e];obtain ⟨R,hc,hk⟩:=h.h w s;refine (Ve hb).upon hc fun e w' hR=>?_;obtain ⟨v,he,hv⟩:=hk e w' hR;exact ⟨v,he,hv _ (g.put hd)⟩
theorem Aat {f:Nat} {vs:am} {R:World->Ending->World->Prop} (hc:∀w,St c.G c.D c.w0 H w->Calls c.P f vs.toArray w (R w))
  (hk:∀w e w',St c.G c.D c.w0 H w->R w e w'->∃v,e=.returned v/\∀a,Ag c.n ((d,v)::fr) a->Φ.sem c a w'):Cl c fr H d f vs Φ:=⟨fun w s=>⟨R w,hc w s,fun e w' hR=>hk w e w' s hR⟩⟩
theorem cb {f:Nat} {vs:am} (hc:∀w,St c.G c.D c.w0 H w->Calls c.P f vs.toArray w (RB v w)) (h:T c ((d,v)::fr) H Φ):Cl c fr H d f vs Φ :=
 Aat hc fun w e w' s ⟨he,hB⟩=>⟨v,he,fun a g=>h.h a w' (s.below hB) g⟩
theorem ce {f:Nat} {vs:am} (hc:∀w,St c.G c.D c.w0 H w->Calls c.P f vs.toArray w fun e w'=>e=.returned v/\w=w') (h:T c ((d,v)::fr) H Φ):Cl c fr H d f vs Φ :=
 Aat hc fun w e w' s ⟨he,hB⟩=>⟨v,he,fun a g=>h.h a w' (hB▸s) g⟩
theorem cf_ {f:Nat} {vs:am} {A M R:List Pc} {σ:Type} {C:σ->Prop} {vv:σ->Value} {N:σ->List Pc} (hf:Fn c.P f vs A M C vv N) (h:∀s,C s->T c ((d,vv s)::fr) (N s++R) Φ)
  (hM:Km H M R) (hA:Mt A R) (hmM:M.all (·.mu)=true) (hmA:A.all (fun p=>!p.mu)=true):Cl c fr H d f vs Φ :=
 have hMR:∀w,St c.G c.D c.w0 H w->St c.G c.D c.w0 (M++R) w:=fun w s=>by simpa using hM.st (X:=[]) HP
 have hmu:∀p∈M,p.mu=true:=fun p hp=>aV.1 hmM p hp;have hro:∀p∈A,p.mu=false:=fun p hp=>by simpa using aV.1 hmA p hp
 have hpre:∀w,St c.G c.D c.w0 H w->Od (M++A) w/\Si (M++A):=fun w s=>by
  have s2:=hMR w s;have hAR:=hA.all;refine ⟨fun p hp=>?_,?_⟩
  ·rcases aJ.1 hp with hp|hp
   ·exact s2.on p HD
   ·exact s2.on p (by simp [hAR p hp])
  ·have:∀(M:List Pc),Si (M++R)->Si (M++A):=by
    intro M
    induction M with
    | nil =>
     intro _;have:∀(A:List Pc),(∀p∈A,p.mu=false)->Si A:=by
      intro A
      induction A with
      | nil=>intro _;trivial
      | cons p A ih=>intro h;exact ⟨fun q hq hm=>by rw [h p EX,h q FX] at hm;simp at hm,ih fun q hq=>h q FX⟩
     exact this A hro
    | cons p M ih =>
     intro hs;exact ⟨fun q hq=>hs.1 q (by rcases aJ.1 hq with h|h;simp [h];simp [hAR q h]),ih hs.2⟩
   exact this M s2.sep
 Aat (R:=fun w e w'=>∃s,C s/\e=.returned (vv s)/\Od (N s) w'/\Si (N s)/\Ei (fp M) w w'/\∀p∈N s,∀b∈p.F,w.heap.size<=b\/(∃q∈M,b∈q.F)\/(p.mu=false/\∃q∈A,b∈q.F))
  (fun w s=>hf w (hpre w s).1 (hpre w s).2)
  (fun w e w' s ⟨z,hz,he,hN,hS,hK,hF⟩=>⟨_,he,fun a g=>(h z hz).h a w' (St.turn (hMR w s) (by rwa [dv.2 hmu]) hN hS fun p hp b hb=>by
   rcases hF p hp b hb with h|⟨q,hq,hqb⟩|⟨hp,q,hq,hqb⟩
   ·exact .inl h
   ·exact .inr (.inl ⟨q,hq,hmu q hq,hqb⟩)
   ·exact .inr (.inr ⟨hp,q,by simp [hA.all q hq],hro q hq,hqb⟩)) g⟩)
theorem Ak1 {f:Nat} {aS:List Operand} {ts:Array TypeId} {vs:am} (hd:Nat.blt d c.n=true) (hb:Q2 c.P f=true) (ha:Evs fr aS vs) (h:Cl c fr H d f vs Φ):On c fr H (some d) (.call { callee:=.value (.func f),args:=aS.toArray,argTypes:=ts }) ty Φ:=⟨fun _ _ _=>Bdk h ha hb hd⟩
/-! a function's beginning and end -/
end
def Akd (P:Program) (w:World) (A M:List Pc) {σ:Type} (C:σ->Prop) (v:σ->Value) (N:σ->List Pc) (e:Ending) (w':World):Prop:=∃s,C s/\e=.returned (v s)/\Od (N s) w'/\Si (N s)/\Ei (fp M) w w' /\
  ∀p∈N s,∀b∈p.F,w.heap.size<=b\/(∃q∈M,b∈q.F)\/(p.mu=false/\∃q∈A,b∈q.F)
def Amc:Nat->am->Fr
 | _,[]=>[]
 | i,v::r=>(i,v)::Amc (i+1) r
theorem Aue (vs:am):∀i t v,Rn (Amc i vs) t=some v->i<=t/\vs[t - i]?=some v:=by
 induction vs with
 | nil=>intro i t v h;cases h
 | cons x r ih =>
  intro i t v h;unfold Amc at h;rw [Ux] at h
  split at h
  ·rename_i e;subst e;exact ⟨aK _,FF⟩
  ·have ⟨h1,h2⟩:=ih (i+1) t v h;refine ⟨EV,?_⟩;rw [show t - i=(t - (i+1))+1 by omega,bF];exact h2
theorem Aw7 {P:Program} {f:FuncId} {fn:Func} {cd:Code} {args:am} {A M:List Pc} {σ:Type} {C:σ->Prop} {v:σ->Value} {N:σ->List Pc} (hf:P.funcs[f]?=some fn) (hb:fn.body=some cd)
  (h:∀w,T ⟨P,fp M,fp A,w,fn.ntmps,bodyPost P fn (Akd P w A M C v N)⟩ (Amc 0 args) (M++A) (.B4 [] cd))
  (hn:args.length<=fn.ntmps) (hmA:A.all (fun p=>!p.mu)=true):Fn P f args A M C v N:=fun w hH hS=>by
 refine calls_of_wp hf hb ?_;have hro:∀p∈A,p.mu=false:=fun p hp=>by simpa using aV.1 hmA p hp
 refine (h w).h _ _ ⟨Ei.refl _ _,hH,hS,fun p hp b hb=>?_⟩ ⟨rfl,FB,fun t u hu=>?_⟩
 ·rcases aJ.1 hp with hp|hp
  ·exact .inl (Ro.2 ⟨p,hp,hb⟩)
  ·exact .inr (.inr ⟨hro p hp,Ro.2 ⟨p,hp,hb⟩⟩)
 ·obtain ⟨-,h2⟩:=Aue args 0 t u hu;simp only [gA] at h2;show (args.toArray++Array.replicate (fn.ntmps - args.toArray.size) undef)[t]?=_;have ht:t < args.length:=(cj.1 h2).1;rw [dK (by simpa using ht)];simpa using h2
inductive Res (P:Program) (fr:Fr) (H:List Pc):List ResultVar->am->Prop
 | nil:Res P fr H [] []
 | tmp {t v r vs}:Rn fr t=some v->Res P fr H r vs->Res P fr H (.tmp t::r) (v::vs)
 | agg {t ty m g o tt A cs B r vs}:AggC P ty m->Rn fr t=some (Gc g o 0)->Pc.row g tt o A cs B∈H->cs.length=m->Res P fr H r vs->Res P fr H (.cell t ty::r) (.agg cs.toArray::vs)
 | one {t ty g o tt A v B r vs}:OneC P ty->Rn fr t=some (Gc g o 0)->Pc.row g tt o A [v] B∈H->Res P fr H r vs->Res P fr H (.cell t ty::r) (v::vs)
theorem Cut.whole:∀(l:am),Cut l 0 l.length l
 | []=>.zero
 | _::r=>.one (Cut.whole r)
theorem Afk (x:Addr):asAddr (.pointer (some x))=pure x:=rfl
theorem Bcn {P:Program} {fr:Fr} {H:List Pc} {n:Nat} {rs vs} (f:ResultVar->Sem Value) {a:Act} (f1:∀t,f (.tmp t)=pure (a.tmps.getD t undef)) (f2:∀p t,f (.cell p t)=do loadVar t (<-asAddr (a.tmps.getD p undef)))
  (h:Res P fr H rs vs) {w:World} (g:Ag n fr a) (hH:Od H w):(rs.mapM f).run P w=.ok vs w:=by
 simp only [fl] at f1 f2
 induction h with
 | nil=>simp
 | tmp hl _ ih=>simp [fU,f1,g.at_ _ _ hl,ih]
 | @agg t ty m gg o tt A cs B r vs hT hl hm hc _ ih =>
  have h1:=Age (hT:=hT) (j:=0) (Ik (hH _ hm)) (by rw [<-hc];exact Cut.whole cs);exact DW
 | @one t ty gg o tt A v B r vs hT hl hm _ ih =>
  have h1:=Agf (hT:=hT) (Abk (j:=0) (hH _ hm) rfl);exact DW
def Tp:am->Value
 | [v]=>v
 | vs=>.tuple vs.toArray
theorem An5 {P:Program} {fr:Fr} {H:List Pc} {n:Nat} {fn:Func} {rs vs} (hr:fn.results=rs.toArray) (h:Res P fr H rs vs) {a:Act} {w:World} (g:Ag n fr a) (hH:Od H w):(results fn a.tmps).run P w=.ok (Tp vs) w:=by
 unfold results;rw [hr];simp only [Sem.run_bind,Array.mapM_eq_mapM_toList];have:∀(f:ResultVar->Sem Value),(rs.mapM f).run P w=.ok vs w->((List.toArray <$> rs.mapM f:Sem (Array Value))).run P w=.ok vs.toArray w:=fun f hf=>by
  simp [hf]
 refine (congrArg (fun x=>Result.andThen x _) (this _ (Bcn _ ?_ ?_ h g hH))).trans ?_
 ·intro t;rfl
 ·intro p t;rfl
 simp only [Result.andThen_ok,Sem.run_pure]
 congr 1
 match vs with
 | []=>rfl
 | [v]=>rfl
 | v::u::r=>simp [Tp]
theorem Bej {P:Program} {fn:Func} {G D:aq} {w0:World} {n:Nat} {A M:List Pc} {σ:Type} {C:σ->Prop} {v:σ->Value} {N:σ->List Pc} {fr:Fr} {H:List Pc} {rs:List ResultVar} {vs:am} (s:σ) (hC:C s)
  (hr:fn.results=rs.toArray) (h:Res P fr H rs vs) (hv:Tp vs=v s) (hN:Lj H (N s)) (hG:G=fp M) (hD:D=fp A):T ⟨P,G,D,w0,n,bodyPost P fn (Akd P w0 A M C v N)⟩ fr H (.fin .ret):=.mk fun a w st g=>by
 subst hG hD;refine ⟨g.df,_,An5 hr h g st.on,s,hC,by rw [hv],?_⟩;have s2:=st.sub hN;refine ⟨s2.on,s2.sep,s2.I5,fun p hp b hb=>?_⟩;rcases s2.Acz p hp b hb with h|h|⟨h1,h⟩
 ·exact .inr (.inl (Ro.1 h))
 ·exact .inl h
 ·exact .inr (.inr ⟨h1,Ro.1 h⟩)
set_option maxRecDepth 100000
theorem fI {p:Prop} (h:p:=by exact ⟨⟨_,_,rfl,rfl,rfl,rfl⟩,EY,EW⟩):p:=h
theorem aI {p:Prop} (h:p:=by exact ⟨⟨_,rfl,rfl⟩,EY⟩):p:=h
theorem sI {p:Prop} (h:p:=by exact ⟨rfl,EY⟩):p:=h
theorem bI {p:Prop} (h:p:=by exact ⟨fun parts=>by kernel_rfl⟩):p:=h
theorem eI {p:Prop} (h:p:=by exact ⟨EY,rfl⟩):p:=h
theorem zI {p:Prop} (h:p:=by exact ⟨⟨_,rfl,rfl⟩⟩):p:=h
theorem iI {p:Prop} (h:p:=by exact ⟨rfl⟩):p:=h
instance:OneC prog 3:=aI
instance:IntC prog 3 .i64:=iI
instance:ZC prog 3 [aa 0]:=zI
instance:ElT prog 3 (aa 0) 1 8:=eI
instance:OneC prog 5:=aI
instance:IntC prog 5 .u8:=iI
instance:ElT prog 5 (.int .u8 0) 1 1:=eI
instance:OneC prog 58:=aI
instance:IntC prog 58 .u64:=iI
instance:IntC prog 146 .u64:=iI
instance:OneC prog 4:=aI
instance:BoolC prog 4:=iI
instance:OneC prog 9:=aI
instance:StrC prog 9:=iI
instance:ZC prog 9 [af ⟨#[]⟩]:=zI
instance:ElT prog 9 (af ⟨#[]⟩) 1 16:=eI
instance:AggC prog 26 1:=aI
instance:FldC prog 26 0 0 24 1:=fI
instance:ZC prog 26 [ab none 0 0]:=zI
instance:BldC prog 26 [(0,1)] [ab none 0 0]:=bI
instance:AggC prog 29 3:=aI
instance:FldC prog 29 0 0 3 1:=fI
instance:FldC prog 29 1 1 3 1:=fI
instance:FldC prog 29 2 2 27 1:=fI
instance:ZC prog 29 [aa 0,aa 0,ab none 0 0]:=zI
instance:BldC prog 29 [(0,1),(1,1),(2,1)] [aa 0,aa 0,ab none 0 0]:=bI
instance:AggC prog 32 6:=aI
instance:FldC prog 32 0 0 29 3:=fI
instance:FldC prog 32 1 3 3 1:=fI
instance:FldC prog 32 2 4 3 1:=fI
instance:FldC prog 32 3 5 30 1:=fI
instance:ZC prog 32 [aa 0,aa 0,ab none 0 0,aa 0,aa 0,ab none 0 0]:=zI
instance:BldC prog 32 [(0,3),(3,1),(4,1),(5,1)] [aa 0,aa 0,ab none 0 0,aa 0,aa 0,ab none 0 0]:=bI
instance:AggC prog 37 11:=aI
instance:FldC prog 37 0 0 26 1:=fI
instance:FldC prog 37 1 1 32 6:=fI
instance:FldC prog 37 2 7 33 1:=fI
instance:FldC prog 37 3 8 34 1:=fI
instance:FldC prog 37 4 9 35 1:=fI
instance:FldC prog 37 5 10 35 1:=fI
instance:ZC prog 37 [ab none 0 0,aa 0,aa 0,ab none 0 0,aa 0,aa 0,ab none 0 0,ab none 0 0,ab none 0 0,ab none 0 0,ab none 0 0]:=zI
instance:BldC prog 37 [(0,1),(1,6),(7,1),(8,1),(9,1),(10,1)] [ab none 0 0,aa 0,aa 0,ab none 0 0,aa 0,aa 0,ab none 0 0,ab none 0 0,ab none 0 0,ab none 0 0,ab none 0 0]:=bI
instance:AggC prog 39 3:=aI
instance:FldC prog 39 0 0 9 1:=fI
instance:FldC prog 39 1 1 9 1:=fI
instance:FldC prog 39 2 2 3 1:=fI
instance:ZC prog 39 [af ⟨#[]⟩,af ⟨#[]⟩,aa 0]:=zI
instance:BldC prog 39 [(0,1),(1,1),(2,1)] [af ⟨#[]⟩,af ⟨#[]⟩,aa 0]:=bI
instance:AggC prog 41 14:=aI
instance:FldC prog 41 0 0 37 11:=fI
instance:FldC prog 41 1 11 39 3:=fI
instance:ZC prog 41 [ab none 0 0,aa 0,aa 0,ab none 0 0,aa 0,aa 0,ab none 0 0,ab none 0 0,ab none 0 0,ab none 0 0,ab none 0 0,af ⟨#[]⟩,af ⟨#[]⟩,aa 0]:=zI
instance:BldC prog 41 [(0,11),(11,3)] [ab none 0 0,aa 0,aa 0,ab none 0 0,aa 0,aa 0,ab none 0 0,ab none 0 0,ab none 0 0,ab none 0 0,ab none 0 0,af ⟨#[]⟩,af ⟨#[]⟩,aa 0]:=bI
instance:AggC prog 56 2:=aI
instance:FldC prog 56 0 0 9 1:=fI
instance:FldC prog 56 1 1 9 1:=fI
instance:ZC prog 56 [af ⟨#[]⟩,af ⟨#[]⟩]:=zI
instance:ElT prog 56 (.agg #[af ⟨#[]⟩,af ⟨#[]⟩]) 2 32:=eI
instance:BldC prog 56 [(0,1),(1,1)] [af ⟨#[]⟩,af ⟨#[]⟩]:=bI
instance:FldC prog 60 0 0 22 1:=fI
instance:FldC prog 60 1 1 3 1:=fI
instance:FldC prog 60 2 2 58 1:=fI
instance:BldC prog 60 [(0,1),(1,1),(2,1)] [ab none 0 0,aa 0,.int .u64 0]:=bI
instance:AggC prog 73 2:=aI
instance:FldC prog 73 0 0 3 1:=fI
instance:FldC prog 73 1 1 71 1:=fI
instance:ZC prog 73 [aa 0,ab none 0 0]:=zI
instance:BldC prog 73 [(0,1),(1,1)] [aa 0,ab none 0 0]:=bI
instance:AggC prog 76 5:=aI
instance:FldC prog 76 0 0 4 1:=fI
instance:FldC prog 76 1 1 3 1:=fI
instance:FldC prog 76 2 2 73 2:=fI
instance:FldC prog 76 3 4 74 1:=fI
instance:ZC prog 76 [.bool false,aa 0,aa 0,ab none 0 0,ab none 0 0]:=zI
instance:ElT prog 76 (.agg #[.bool false,aa 0,aa 0,ab none 0 0,ab none 0 0]) 5 72:=eI
instance:BldC prog 76 [(0,1),(1,1),(2,2),(4,1)] [.bool false,aa 0,aa 0,ab none 0 0,ab none 0 0]:=bI
instance:AggC prog 97 3:=aI
instance:FldC prog 97 0 0 3 1:=fI
instance:FldC prog 97 1 1 3 1:=fI
instance:FldC prog 97 2 2 9 1:=fI
instance:ZC prog 97 [aa 0,aa 0,af ⟨#[]⟩]:=zI
instance:BldC prog 97 [(0,1),(1,1),(2,1)] [aa 0,aa 0,af ⟨#[]⟩]:=bI
instance:AggC prog 107 2:=aI
instance:FldC prog 107 0 0 4 1:=fI
instance:FldC prog 107 1 1 9 1:=fI
instance:ZC prog 107 [.bool false,af ⟨#[]⟩]:=zI
instance:ElT prog 107 (.agg #[.bool false,af ⟨#[]⟩]) 2 24:=eI
instance:BldC prog 107 [(0,1),(1,1)] [.bool false,af ⟨#[]⟩]:=bI
instance:AggC prog 122 2:=aI
instance:FldC prog 122 0 0 3 1:=fI
instance:FldC prog 122 1 1 120 1:=fI
instance:ZC prog 122 [aa 0,ab none 0 0]:=zI
instance:ElT prog 122 (.agg #[aa 0,ab none 0 0]) 2 32:=eI
instance:BldC prog 122 [(0,1),(1,1)] [aa 0,ab none 0 0]:=bI
instance:AggC prog 141 5:=aI
instance:FldC prog 141 0 0 3 1:=fI
instance:FldC prog 141 1 1 3 1:=fI
instance:FldC prog 141 2 2 3 1:=fI
instance:FldC prog 141 3 3 3 1:=fI
instance:FldC prog 141 4 4 9 1:=fI
instance:ZC prog 141 [aa 0,aa 0,aa 0,aa 0,af ⟨#[]⟩]:=zI
instance:ElT prog 141 (.agg #[aa 0,aa 0,aa 0,aa 0,af ⟨#[]⟩]) 5 48:=eI
instance:BldC prog 141 [(0,1),(1,1),(2,1),(3,1),(4,1)] [aa 0,aa 0,aa 0,aa 0,af ⟨#[]⟩]:=bI
instance:AggC prog 191 2:=aI
instance:FldC prog 191 0 0 3 1:=fI
instance:FldC prog 191 1 1 3 1:=fI
instance:ZC prog 191 [aa 0,aa 0]:=zI
instance:ElT prog 191 (.agg #[aa 0,aa 0]) 2 16:=eI
instance:BldC prog 191 [(0,1),(1,1)] [aa 0,aa 0]:=bI
instance:AggC prog 193 3:=aI
instance:FldC prog 193 0 0 3 1:=fI
instance:FldC prog 193 1 1 24 1:=fI
instance:FldC prog 193 2 2 3 1:=fI
instance:ZC prog 193 [aa 0,ab none 0 0,aa 0]:=zI
instance:ElT prog 193 (.agg #[aa 0,ab none 0 0,aa 0]) 3 40:=eI
instance:BldC prog 193 [(0,1),(1,1),(2,1)] [aa 0,ab none 0 0,aa 0]:=bI
instance:AggC prog 231 4:=aI
instance:FldC prog 231 0 0 3 1:=fI
instance:FldC prog 231 1 1 3 1:=fI
instance:FldC prog 231 2 2 3 1:=fI
instance:FldC prog 231 3 3 3 1:=fI
instance:ZC prog 231 [aa 0,aa 0,aa 0,aa 0]:=zI
instance:ElT prog 231 (.agg #[aa 0,aa 0,aa 0,aa 0]) 4 32:=eI
instance:BldC prog 231 [(0,1),(1,1),(2,1),(3,1)] [aa 0,aa 0,aa 0,aa 0]:=bI
instance:OneC prog 22:=aI
instance:SlC prog 22 5 1:=sI
instance:OneC prog 24:=aI
instance:SlC prog 24 3 1:=sI
instance:OneC prog 27:=aI
instance:SlC prog 27 9 1:=sI
instance:OneC prog 30:=aI
instance:SlC prog 30 191 2:=sI
instance:OneC prog 33:=aI
instance:SlC prog 33 122 2:=sI
instance:OneC prog 34:=aI
instance:SlC prog 34 76 5:=sI
instance:OneC prog 35:=aI
instance:SlC prog 35 125 1:=sI
instance:SlC prog 52 56 2:=sI
instance:OneC prog 71:=aI
instance:SlC prog 71 107 2:=sI
instance:OneC prog 74:=aI
instance:SlC prog 74 231 4:=sI
instance:OneC prog 120:=aI
instance:SlC prog 120 193 3:=sI
instance:OneC prog 125:=aI
instance:SlC prog 125 141 5:=sI
instance:ZC prog 125 [ab none 0 0]:=zI
instance:ElT prog 125 (ab none 0 0) 1 24:=eI
instance:OneC prog 280:=aI
instance:OneC prog 326:=aI
instance:OneC prog 328:=aI
theorem Sl.dropS {P:Program} {α:Type} {E:Bw α} {w:World} {a:aj} {n cap:Nat} {xs:List α} {F} (h:Sl E w (ab a n cap) xs F) (t:TypeId) (ht:P.underlying t=some (.slice (P.elem t))) (k:Nat) (hk:k<=xs.length)
  (hs:∀W,(sizeOf (P.elem t)).run P W=.ok E.sz W):∃a2 c2 F',(∀W,(Instr.sliceAt t (ab a n cap) (some (aa (k:Int))) none none).run P W=.ok (ab a2 (xs.length - k) c2) W)/\(∀b∈F',b∈F)/\Sl E w (ab a2 (xs.length - k) c2) (xs.drop k) F':=by
 obtain ⟨a',cap',hv,hl,h⟩:=h;cases hv;have hrun:∀W,(Instr.sliceAt t (ab a xs.length cap) (some (aa (k:Int))) none none).run P W=.ok (ab (if cap=k then a else a.map (·.add (k * E.sz))) (xs.length - k) (cap - k)) W:=fun W=>by
  rw [run_sliceAt_slice (h:=ht),run_slice_l (ht:=ht) (h0:=EV) (h1:=EV),hs];simp [Result.andThen,sliced]
 refine ⟨if cap=k then a else a.map (·.add (k * E.sz)),cap - k,?_⟩;rcases h with ⟨rfl,rfl,h0⟩|⟨b,off,F',rfl,hne,rfl,hc⟩
 ·refine ⟨[],hrun,EX,if cap=k then a else a.map (·.add (k * E.sz)),cap - k,EX,⟨EX,EV⟩,.inl ⟨EX,rfl,fun e=>?_⟩⟩;cases a with
  | none=>rw [h0 rfl];simp
  | some ad=>split at e <;> simp at e
 ·by_cases hkn:k=xs.length
  ·subst hkn;refine ⟨[],hrun,EX,if cap=xs.length then some ⟨b,off,none⟩ else (some (⟨b,off,none⟩:Addr)).map (·.add (xs.length * E.sz)),cap - xs.length,EX,⟨EX,EV⟩,.inl ⟨EX,rfl,fun e=>?_⟩⟩
   split at e <;> simp at e
  ·obtain ⟨cs,hf,hcs⟩:=hc.flat;have e:xs=xs.take k++xs.drop k:=EX
   rw [e] at hf;obtain ⟨c1,c2,G1,G2,rfl,rfl,h1,h2⟩:=hf.split;have hl1:=h1.len;have hck:¬cap=k:=EV
   rw [aO,cW EV] at hl1;refine ⟨b::G2,hrun,by intro x hx;simp at hx ⊢;rcases hx with hx|hx <;> simp [hx],some ⟨b,off+k * E.sz,none⟩,cap - k,?_,⟨FB,EV⟩,.inr ⟨b,off+k * E.sz,G2,rfl,fun e=>?_,rfl,h2.cells fun j u hu=>?_⟩⟩
   ·rw [aC hck];simp only [bV,Addr.add,aX,Value.slice.injEq,Option.some.injEq,cK,cJ];by_cases h0:k * E.sz=0 <;> simp [h0]
   ·have:=congrArg List.length e;simp at this;omega
   ·have:=hcs (c1.length+j) u JX;rw [<-this,hl1];congr 2;omega
theorem Bn {p:Pc} {H:List Pc} (h:p∈H:=by (repeat (first|exact .head _|apply List.Mem.tail));first|done|fail):p∈H:=h
theorem Bea {l:am} {j m:Nat} {r:am} (h:Cut l j m r:=by repeat constructor):Cut l j m r:=h
theorem Aur {l r s:am} {j:Nat} (h:Put l j r s:=by first|exact .one .zero|repeat constructor):Put l j r s:=h
theorem Vi {fr:Fr} {aS:List Operand} {vs:am} (h:Evs fr aS vs:=by repeat (first|exact Evs.nil|apply Evs.cons FH)):Evs fr aS vs:=h
theorem Ag0 {H S:List Pc} {p q:Pc} (h:Rpl H p q S:=by (repeat (first|exact .here|apply Rpl.there));first|done|fail):Rpl H p q S:=h
theorem Dr {H R:List Pc} {p:Pc} (h:C2 H p R:=by (repeat (first|exact .here|apply C2.there));first|done|fail):C2 H p R:=h
theorem Agp {H M R:List Pc} (h:Km H M R:=by repeat (first|exact Km.nil|apply Km.cons (by exact Dr))):Km H M R:=h
theorem hsE {A H:List Pc} (h:Lj A H:=by repeat (first|exact Lj.nil|refine Lj.cons (by exact Dr) ?_)):Lj A H:=h
theorem frE {a b:Fr} (h:Mo a b:=by repeat (first|exact Mo.nil|refine Mo.cons FH ?_)):Mo a b:=h
theorem As9 (l:am):∀(k off:Nat) (A o B:am),A.length=off+k->o.length=l.length->(l.zipIdx k).foldl (fun (cs:Array Value) (x:Value × Nat)=>cs.setIfInBounds (off+x.2) x.1) (A++o++B).toArray=(A++l++B).toArray:=by
 induction l with
 | nil=>intro k off A o B _ ho;simp at ho;subst ho;simp
 | cons u r ih =>
  intro k off A o B hA ho;cases o with
  | nil=>simp at ho
  | cons z o =>
   rw [List.zipIdx_cons,dU];have h4:(A++(z::o)++B).toArray.setIfInBounds (off+k) u=((A++[u])++o++B).toArray:=by
    rw [<-hA];simp [List.set_append]
   show List.foldl _ ((A++(z::o)++B).toArray.setIfInBounds (off+k) u) _=_;rw [h4,ih (k+1) off (A++[u]) o B FB (by simpa using ho)];simp
inductive Fil (pl:Nat->Option (Nat × Nat)) (fr:Fr):am->List (Nat × Operand)->am->Prop
 | nil {cs}:Fil pl fr cs [] cs
 | cons {cs i x ps v l off r q}:ev fr x=some v->v.cells=l.toArray->pl i=some (off,l.length)->Put cs off l r->Fil pl fr r ps q->Fil pl fr cs ((i,x)::ps) q
theorem Fil.run {pl:Nat->Option (Nat × Nat)} {fr:Fr} {n:Nat} {cs q:am} {ps:List (Nat × Operand)} (h:Fil pl fr cs ps q) {a:Act} (g:Ag n fr a):Instr.fill pl cs.toArray (ps.map fun (i,x)=>(i,a.eval x))=some q.toArray:=by
 induction h with
 | nil=>rfl
 | @cons cs i x ps v l off r q hx hv hp hput _ ih =>
  obtain ⟨A,o,B,rfl,rfl,rfl,ho⟩:=hput.parts;rw [cH];unfold Instr.fill;simp only [hp,g.ev hx,hv];have h1:¬((l.toArray.size≠l.length)\/(A.length+l.toArray.size > (A++o++B).toArray.size)):=FB
  rw [aC HR];have h2:l.toArray.zipIdx.foldl (fun (cs:Array Value) (x:Value × Nat)=>cs.setIfInBounds (A.length+x.2) x.1) (A++o++B).toArray=(A++l++B).toArray:=by
   rw [<-Array.foldl_toList];have:=As9 l 0 A.length A o B rfl ho;exact ET
  rw [h2];exact ih
theorem Io {pl:Nat->Option (Nat × Nat)} {fr:Fr} {cs q:am} {ps:List (Nat × Operand)} (h:Fil pl fr cs ps q:=by repeat (first|exact Fil.nil|apply Fil.cons FH FH FH (by repeat constructor))):Fil pl fr cs ps q:=h
theorem Bg5 {P:Program} {n:Nat} {fr:Fr} {H:List Pc} {ty:TypeId} {t:Nat} {pl:List (Nat × Nat)} {zs q:am} {ps:List (Nat × Operand)} [hB:BldC P t pl zs] (hf:Fil (pl.toArray[·]?) fr zs ps q):Yd P n fr H (.build t ps.toArray) ty (.agg q.toArray):=.mk fun a w d pos Cd gd g _=>by
 have h3:=hf.run g;have h4:=run_build (P:=P) w t (ps.map fun (i,x)=>(i,a.eval x)).toArray q.toArray (by rw [hB.b];exact h3);simp only [cT] at h4;simp [execOp,h4]
theorem ydE {P:Program} {n:Nat} {fr:Fr} {H:List Pc} {o:Op} {ty:TypeId} {v:Value} (h:Yd P n fr H o ty v:=by first|(apply Bda;rfl)|(apply Avn;rfl)|(apply Bf3;rfl)|(apply Bg8;rfl)|(apply Bhd;rfl;exact Bn;rfl)|(apply Bft;rfl;exact Bn;rfl)|(apply Bai;rfl;exact Bn;exact Bea)|(apply Bc8;rfl;exact Bn;exact Bea)|(apply Avr;rfl;rfl)|(apply Avq;rfl;rfl)|(apply Bfv;rfl)|(apply Bc9;rfl)|(apply Bg7;rfl;rfl)|(apply Bfq;rfl;rfl)|(apply Bc7;rfl;exact Bea)|(apply Bhg;rfl;rfl)|(apply Bhe;rfl;rfl)|(apply Bhb;rfl;rfl)|(apply Bha;rfl;rfl)|(apply Bg6;rfl;rfl)|(apply Bhh;rfl;rfl)|(apply Bfm;rfl;rfl;omega;omega)|(apply Bf8;rfl;rfl;omega;omega)|(apply Bfp;rfl;rfl)|(apply Bf2;rfl;rfl)|(apply Ie;rfl;rfl;omega)|(apply Bdc;rfl)|(apply Bf4;rfl)|(apply Bf0;rfl;omega;omega)|(apply Bhc;rfl;rfl;omega;omega)|(apply Bfs;rfl;rfl;omega;omega)|(apply Bf5;rfl;rfl;omega;omega;omega)|(apply Bf6;rfl;rfl;omega;omega)|(apply Bfy;rfl;rfl;omega;omega)|(apply Aox;rfl;omega;omega)|(apply Bfo;rfl;rfl)|(apply Bfz;rfl;rfl)|(apply Bg9;exact Vi)|(apply Bdb;rfl)|(apply Bfx;rfl;rfl)|(apply Bfw;rfl;rfl)|(apply Bg5;exact Io)):Yd P n fr H o ty v:=h
section
variable {c:Cx} {fr:Fr} {H:List Pc} {k:List It} {Φ:Gl} {ops:Array Oper} {rest:List Oper} {d:Nat} {o:Op} {ty:TypeId} {pos:String} {Cd:Array Edge} {v u:Value} {x y:Operand}
theorem st {t g tt o' j m:Nat} {A cs B l r:am} {S:List Pc} {gd:Option (Nat × Bool)} (h:T c fr S Φ) (hx:ev fr x=some (Gc g o' j):=by rfl) (hy:ev fr y=some v:=by rfl) (hv:v.cells=l.toArray:=by rfl) (hs:(c.P.info? t).map (·.size)=some m:=by first|exact AggC.s|exact OneC.s) (hl:l.length=m:=by rfl)
  (hr:Rpl H (.row g tt o' A cs B) (.row g tt o' A r B) S:=by (repeat (first|exact .here|apply Rpl.there));first|done|fail) (hp:Put cs j l r:=by first|exact .one .zero|repeat constructor) (h1:l.all (·.oneCell')=true:=by rfl):Ef c fr H ⟨none,.store t x y,ty,pos,Cd,gd⟩ Φ:=Amk hs hx hy hv hl h1 hp hr h
theorem ca {f:Nat} {aS:List Operand} {ts:Array TypeId} {vs:am} {gd:Option (Nat × Bool)} (h:Cl c fr H d f vs Φ) (ha:Evs fr aS vs:=by repeat (first|exact Evs.nil|apply Evs.cons FH)) (hb:Q2 c.P f=true:=by kernel_rfl) (hd:Nat.blt d c.n=true:=by rfl):Ef c fr H ⟨some d,.call { callee:=.value (.func f),args:=aS.toArray,argTypes:=ts },ty,pos,Cd,gd⟩ Φ:=Bdk h ha hb hd
theorem cf {f:Nat} {vs:am} {A M R:List Pc} {σ:Type} {C:σ->Prop} {vv:σ->Value} {N:σ->List Pc} (hf:Fn c.P f vs A M C vv N) (h:∀s,C s->T c ((d,vv s)::fr) (N s++R) Φ)
  (hM:Km H M R:=by repeat (first|exact Km.nil|apply Km.cons (by exact Dr))) (hA:Mt A R:=by repeat (first|exact Mt.nil|refine Mt.cons FA ?_)) (hmM:M.all (·.mu)=true:=by rfl) (hmA:A.all (fun p=>!p.mu)=true:=by rfl):Cl c fr H d f vs Φ:=cf_ hf h hM hA hmM hmA
inductive Alu:List Pc->List Pc->List Pc->Prop
 | nil {R}:Alu [] R R
 | cons {p N R X}:Alu N R X->Alu (p::N) R (p::X)
theorem Alu.eq {N R X} (h:Alu N R X):N++R=X:=by
 induction h with
 | nil=>rfl
 | cons _ ih=>simp [ih]
theorem Oz {N R X:List Pc} (h:T c fr X Φ) (hX:Alu N R X:=by repeat constructor):T c fr (N++R) Φ:=by rw [hX.eq];exact h
theorem St.ro {G D w0 w} {p q:Pc} (s:St G D w0 H w) (hq:q∈H) (hm:q.mu=false) (hpm:p.mu=false) (hp:p.P w) (hF:∀b∈p.F,b∈q.F):St G D w0 (p::H) w :=
 s.add (N:=[p]) (Below.refl _ _) (by intro x hx;simp at hx;subst hx;exact hp) ⟨EX,trivial⟩ (by intro x hx b hb;simp at hx;subst hx;exact .inr ⟨hpm,q,hq,hm,hF b hb⟩)
theorem St.conv {G D w0 w} {p q:Pc} {S:List Pc} (s:St G D w0 (p::S) w) (hm:p.mu=true) (hq:q.P w) (hF:∀b∈q.F,b∈p.F):St G D w0 (q::S) w :=
 St.turn (M:=[p]) (N:=[q]) s (Ei.refl _ w) (by intro x hx;simp at hx;subst hx;exact hq) ⟨EX,trivial⟩ (by intro x hx b hb;simp at hx;subst hx;exact .inr (.inl ⟨p,EX,hm,hF b hb⟩))
/-! elements, parts of slices that read -/
theorem Wp {α:Type} {E:Bw α} {w:World} {a:aj} {n cp:Nat} {xs:List α} {F:aq} (h:(Pc.sl E (ab a n cp) xs F).P w) (i:Nat) (hi:i < xs.length) :
  ∃b o cs G,a=some ⟨b,o,none⟩/\E.Kz w cs xs[i] G/\(∀x∈G,x∈F)/\b∈F/\cs≠[]/\w.rangeAt b (o+i * E.sz) cs:=by
 obtain ⟨hz,a',cap,hv,hl,h|⟨b,o,F',rfl,hne,rfl,hc⟩⟩:=h
 ·rw [h.1] at hi;simp at hi
 ·simp only [Value.slice.injEq] at hv;obtain ⟨rfl, -, -⟩:=hv;obtain ⟨cs,F1,h1,h2,h3⟩:=hc.get i hi;have hl:=E.len h1;refine ⟨b,o,cs,F1,rfl,h1,fun x hx=>by simp [h3 x hx],EX,fun e=>by subst e;simp at hl;omega,fun j u hu=>?_⟩;have hj:j < E.sz:=by have:=(cj.1 hu).1;omega
  rw [h2 j hj];exact hu
theorem In {a:aj} {n cp:Nat} {xs:ar} {F:aq} (i:Nat) (h:∀(hi:i < xs.length) b o,a=some ⟨b,o,none⟩->T c fr (.cel b (o+i * 1) [aa xs[i]]::H) Φ) (hm:.sl Bb (ab a n cp) xs F∈H:=by exact Bn) (hi:i < xs.length:=by omega):T c fr H Φ:=.mk fun ac w s g=>by
 obtain ⟨b,o,cs,G,ha,⟨rfl,rfl⟩, -,hb,hne,hr⟩:=Wp (s.get hm) i hi;exact (h hi b o ha).h ac w (s.ro hm rfl rfl ⟨hne,hr⟩ GC) g
theorem Mg {a:aj} {n cp:Nat} {xs:ai} {F:aq} (i:Nat) (h:∀(hi:i < xs.length) b o,a=some ⟨b,o,none⟩->xs[i].size<=maxLen->T c fr (.cel b (o+i * 1) [af xs[i]]::H) Φ) (hm:.sl A8 (ab a n cp) xs F∈H:=by exact Bn) (hi:i < xs.length:=by omega):T c fr H Φ:=.mk fun ac w s g=>by
 obtain ⟨b,o,cs,G,ha,⟨rfl,hs,rfl⟩, -,hb,hne,hr⟩:=Wp (s.get hm) i hi;exact (h hi b o ha hs).h ac w (s.ro hm rfl rfl ⟨hne,hr⟩ GC) g
theorem Av {α:Type} {E:Bw α} {t:TypeId} {v:Value} {xs:List α} {F:aq} {S:List Pc} (h:∀F',T c fr (.sl E v xs F'::S) Φ) (hp:C2 H (.ow E t v xs F) S:=by exact Dr) (hz:0 < E.sz:=by decide):T c fr H Φ:=.mk fun a w s g=>by
 have s1:=s.pick hp;obtain ⟨-,ho⟩:=s1.on (.ow E t v xs F) EX;obtain ⟨F',hF,hs⟩:=ho.read;exact (h F').h a w (s1.conv rfl ⟨hz,hs⟩ hF) g
theorem Ow.takeO {α:Type} {E:Bw α} {t:TypeId} {w:World} {a:aj} {n cp:Nat} {xs:List α} {F:aq} (h:Ow E t w (ab a n cp) xs F) (k:Nat) (hk:k<=xs.length):∃F',F'.Sublist F/\Ow E t w (ab a k cp) (xs.take k) F':=by
 rcases h with ⟨h1,rfl,rfl⟩|⟨g,cap,cs,rest,G,h1,h2,h3,h4,h5,h6,rfl⟩
 ·cases h1;have:k=0:=by simpa using hk
  subst this;exact ⟨[],.slnil,.inl ⟨rfl,rfl,rfl⟩⟩
 ·cases h1;rw [<-bo k xs] at h6;obtain ⟨c1,c2,G1,G2,rfl,rfl,f1,f2⟩:=h6.split;have hl:(xs.take k).length=k:=by simp [cW hk]
  refine ⟨g::G1,(List.sublist_append_left G1 G2).cons_cons g,.inr ⟨g,cp,c1,c2++rest,G1,by rw [hl],by rw [<-aM];exact h2,EV,h4,by simp only [aA] at h5 ⊢;omega,f1,rfl⟩⟩
theorem Alm {α:Type} {E:Bw α} {t:TypeId} {a:aj} {n cp:Nat} {xs:List α} {F:aq} {S:List Pc} (k:Nat) (h:∀F',T c fr (.ow E t (ab a k cp) (xs.take k) F'::S) Φ) (hk:k<=xs.length:=by omega) (hp:C2 H (.ow E t (ab a n cp) xs F) S:=by exact Dr):T c fr H Φ:=.mk fun ac w s g=>by
 have s1:=s.pick hp;obtain ⟨hn,ho⟩:=s1.on (.ow E t (ab a n cp) xs F) EX;obtain ⟨F',hF,hs⟩:=ho.takeO k hk;exact (h F').h ac w (s1.conv rfl ⟨hn.sublist hF,hs⟩ hF.subset) g
theorem Azl {α:Type} {E:Bw α} {t:TypeId} {a:aj} {n cp:Nat} {xs:List α} {F:aq} (h:n<=cp->cp<=9223372036854775807->T c fr H Φ) (hm:.ow E t (ab a n cp) xs F∈H:=by exact Bn):T c fr H Φ:=.mk fun ac w s g=>by
 obtain ⟨-,h'|⟨g',cap,cs,rest,G,h1,h2,h3,h4, -⟩⟩:=s.get hm
 ·obtain ⟨h1,h2, -⟩:=h';cases h1;exact (h EX EW).h ac w s g
 ·cases h1;exact (h h3 (by unfold maxLen at h4;omega)).h ac w s g
theorem Cj {α:Type} (E:Bw α) (t:TypeId) (h:T c fr (.ow E t (ab none 0 0) [] []::H) Φ):T c fr H Φ:=.mk fun a w s g =>
 h.h a w (s.add (N:=[.ow E t (ab none 0 0) [] []]) (Below.refl _ _) (by intro p hp;simp at hp;subst hp;exact ⟨EX,.inl ⟨rfl,rfl,rfl⟩⟩) ⟨EX,trivial⟩ (by intro p hp b hb;simp at hp;subst hp;simp [Pc.F] at hb)) g
theorem Cm {α:Type} (E:Bw α) (hz:0 < E.sz) (h:T c fr (.sl E (ab none 0 0) [] []::H) Φ):T c fr H Φ:=.mk fun a w s g =>
 h.h a w (s.add (N:=[.sl E (ab none 0 0) [] []]) (Below.refl _ _) (by intro p hp;simp at hp;subst hp;exact ⟨hz,none,0,rfl,⟨aK _,FC⟩,.inl ⟨rfl,rfl,fun _=>rfl⟩⟩) ⟨EX,trivial⟩ (by intro p hp b hb;simp at hp;subst hp;simp [Pc.F] at hb)) g
theorem C1 {α:Type} (E:Bw α) {t g:Nat} {S:List Pc} (h:T c fr (.ow E t (ab (some ⟨g,0,none⟩) 0 0) [] [g]::S) Φ) (hp:C2 H (.row g t 0 [] [] []) S:=by exact Dr):T c fr H Φ:=.mk fun a w s ag=>by
 have s1:=s.pick hp;obtain ⟨-,hr⟩:=s1.on (.row g t 0 [] [] []) EX;exact h.h a w (s1.conv rfl ⟨EX,Ow.empty GH⟩ (fun b hb=>hb)) ag
theorem bs0 {t e m:Nat} {gd:Option (Nat × Bool)} [hS:SlC c.P t e m] (h:∀g,T c ((d,ab (some ⟨g,0,none⟩) 0 0)::fr) (.row g e 0 [] [] []::H) Φ) (hd:Nat.blt d c.n=true:=by rfl):Ef c fr H ⟨some d,.buildSlice t 0 #[],ty,pos,Cd,gd⟩ Φ:=Pd fun Q a w s g=>by
 have e1:(execOp a.eval ⟨some d,.buildSlice t 0 #[],ty,pos,Cd,gd⟩).run c.P w=.ok (.value (ab (some ⟨w.heap.size,0,none⟩) 0 0)) (w.alloc (.cells #[] e)):=by
  simp [execOp,Instr.buildSlice,run_underlying hS.u,Mw hS.s,Instr.fill,newRow,Array.range_zero']
 rw [e1];exact (h _).h _ _ (s.new e []) (g.put hd)
inductive Asg:am->am->am->Prop
 | nil {r}:Asg [] r r
 | cons {u l r q}:Asg l r q->Asg (u::l) r (u::q)
theorem Asg.eq {l r q} (h:Asg l r q):l++r=q:=by
 induction h with
 | nil=>rfl
 | cons _ ih=>simp [ih]
inductive Rpt (zs:am):Nat->am->Prop
 | zero:Rpt zs 0 []
 | succ {n r q}:Rpt zs n r->Asg zs r q->Rpt zs (n+1) q
theorem Rpt.eq {zs:am} {n q} (h:Rpt zs n q):q=(List.replicate n zs).flatten:=by
 induction h with
 | zero=>rfl
 | succ _ h2 ih=>rw [<-h2.eq,ih,cQ,ci]
theorem bs {t e m b len:Nat} {z:Value} {zs cs q:am} {ps:List (Nat × Operand)} {gd:Option (Nat × Bool)} [hS:SlC c.P t e m] [hE:ElT c.P e z m b] [hZ:ZC c.P e zs] (h:∀g,T c ((d,ab (some ⟨g,0,none⟩) len len)::fr) (.row g e 0 [] q []::H) Φ)
  (hc:Rpt zs len cs:=by repeat constructor) (hf:Fil (fun i=>some (i * m,m)) fr cs ps q:=by repeat (first|exact Fil.nil|apply Fil.cons FH FH FH (by repeat constructor))) (hl:Nat.ble (len * m) 1000=true:=by rfl) (hm:Nat.blt 0 m=true:=by rfl) (hlen:Nat.blt 0 len=true:=by rfl) (hd:Nat.blt d c.n=true:=by rfl) :
  Ef c fr H ⟨some d,.buildSlice t len ps.toArray,ty,pos,Cd,gd⟩ Φ:=Pd fun Q a w s g=>by
 have hm0:m≠0:=by have:0 < m:=IP;omega
 have hlen0:len≠0:=by have:0 < len:=(by simpa using hlen);omega
 have hl2:len * m<=1000:=GU
 obtain ⟨i,hi,hz⟩:=cu.1 hE.i;simp only [Prod.mk.injEq] at hz;obtain ⟨hz,hs, -⟩:=hz;obtain ⟨z',hz',hzc⟩:=hZ.z;obtain rfl:z'=z:=by rw [hi] at hz';simp [hz] at hz';exact hz'.symm
 have hzl:zs.length=m:=by have:=hE.s;rw [hzc] at this;simpa using this
 have e2:((Array.range (len * m)).map (zs.toArray[· % zs.toArray.size]!))=cs.toArray:=by
  have:=Nx zs.toArray len;rw [hc.eq];apply fH;rw [show zs.toArray.size=m from by simp [hzl]] at this;simpa [madeCells] using this
 have e1:(execOp a.eval ⟨some d,.buildSlice t len ps.toArray,ty,pos,Cd,gd⟩).run c.P w=.ok (.value (ab (some ⟨w.heap.size,0,none⟩) len len)) (w.alloc (.cells q.toArray e)):=by
  have h3:=hf.run g;have hne:¬(len * m=0):=Nat.mul_ne_zero hlen0 hm0;have hns:¬(len * m > 2 ^ 24):=EV
  have hzv:(zeroValue e).run c.P w=.ok z' w:=by simp [zeroValue,typeInfo,hi,hz]
  simp only [execOp,Instr.buildSlice,Sem.run_bind,run_underlying hS.u,Mw hS.s,Result.andThen_ok,aC hns,aC hne,hzv,hzc,Sem.run_pure,Sem.run_ite,e2];simp only [cT,h3,newRow,Sem.run_bind,run_newObj_alloc,Result.andThen_ok,Sem.run_pure]
 rw [e1];exact (h _).h _ _ (s.new e q) (g.put hd)
theorem Kj {t e m:Nat} [SlC c.P t e m] (hd:Nat.blt d c.n=true) (h:∀g,T c ((d,ab (some ⟨g,0,none⟩) 0 0)::fr) (.row g e 0 [] [] []::H) Φ):On c fr H (some d) (.buildSlice t 0 #[]) ty Φ:=⟨fun _ _ _=>bs0 h hd⟩
theorem Ir {zs:am} {n:Nat} {q:am} (h:Rpt zs n q:=by repeat constructor):Rpt zs n q:=h
theorem Iz {t e m b len:Nat} {z:Value} {zs cs q:am} {ps:List (Nat × Operand)} [SlC c.P t e m] [ElT c.P e z m b] [ZC c.P e zs] (hd:Nat.blt d c.n=true) (hlen:Nat.blt 0 len=true) (hm:Nat.blt 0 m=true) (hl:Nat.ble (len * m) 1000=true) (hc:Rpt zs len cs) (hf:Fil (fun i=>some (i * m,m)) fr cs ps q) (h:∀g,T c ((d,ab (some ⟨g,0,none⟩) len len)::fr) (.row g e 0 [] q []::H) Φ) :
  On c fr H (some d) (.buildSlice t len ps.toArray) ty Φ:=⟨fun _ _ _=>bs h hc hf hl hm hlen hd⟩
end
theorem Aul {A B:aq} (h:(A++B).Nodup) {b:Nat} (ha:b∈A) (hb:b∈B):False:=(bK.1 h).2.2 b ha b hb rfl
section
variable {c:Cx} {fr:Fr} {H:List Pc} {k:List It} {Φ:Gl} {ops:Array Oper} {rest:List Oper} {d:Nat} {o:Op} {ty:TypeId} {pos:String} {Cd:Array Edge} {v u:Value} {x y:Operand}
theorem ap {α:Type} {E:Bw α} {t e m b:Nat} {z:Value} [hS:SlC c.P t e m] [hE:ElT c.P e z m b] {xs ys:List α} {F Fy:aq} {ao:aj} {n cp:Nat} {gd:Option (Nat × Bool)} {R S:List Pc} (one:One E) (hz:0 < E.sz) (hm:E.sz=m)
  (hp:C2 H (.ow E e v xs F) R) (hx:ev fr x=some v) (hy:ev fr y=some (ab ao n cp)) (hn:n=ys.length)
  (hsrc:∀w,St c.G c.D c.w0 (.ow E e v xs F::R) w->∃news,Cw E w news ys Fy/\((ao=none/\cp=0/\ys=[])\/∃ad,ao=some ad/\∀j u,news[j]?=some u->w.cell? (ad.add j)=some u)/\(∀b∈Fy,b ∉ F)/\Fy.Nodup)
  (hFy:∀w v' F',St c.G c.D c.w0 (.ow E e v xs F::R) w->(∀b∈F',b∈F\/b∈Fy\/b=w.heap.size)->∀w',Ei F w w'->(Pc.ow E e v' (xs++ys) F').P w'->St c.G c.D c.w0 (.ow E e v' (xs++ys) F'::S) w')
  (h63:xs.length+ys.length<=maxLen) (hby:(xs.length+ys.length) * b<=140737488355328)
  (h:∀a' c' F',T c ((d,.slice a' (xs++ys).length c')::fr) (.ow E e (.slice a' (xs++ys).length c') (xs++ys) F'::S) Φ) (hd:Nat.blt d c.n=true) :
  Ef c fr H ⟨some d,.call { callee:=.builtin .append,args:=#[x,y],argTypes:=#[t,t] },ty,pos,Cd,gd⟩ Φ:=.mk fun Q a w s g=>by
 have s1:=s.pick hp;obtain ⟨hnd,how⟩:=s1.on (.ow E e v xs F) EX;obtain ⟨news,hfl,hsr,hdis,hny⟩:=hsrc w s1;subst hn;refine Aq4 (P:=c.P) one hz x y t rfl e z b hS.u (by rw [hE.i,hm]) (by rw [hE.s,hm]) v xs F (g.ev hx) how (Hd.of hnd) ao ys cp (g.ev hy) news Fy hfl hsr (fun b hb e=>hdis b hb (how.own_mem b e)) h63 hby fun v' w' F' hA=>?_;obtain ⟨a',c',rfl⟩:=hA.val;rw [<-aA] at hA ⊢;have hw:=hA.ow;exact (h a' c' F').h _ _ (hFy w _ F' s1 hA.mem w' hA.I5 ⟨hA.Ax5 hnd hny hdis,hw⟩) (g.put hd)
theorem Np {α:Type} {E:Bw α} {t e m b:Nat} {z:Value} [hS:SlC c.P t e m] [hE:ElT c.P e z m b] {xs ys:List α} {F:aq} {g n cp tt:Nat} {cs:am} {R S:List Pc}
  (hfl:∀w,Cw E w cs ys []) (one:One E) (h:∀a' c' F',T c ((d,.slice a' (xs++ys).length c')::fr) (.ow E e (.slice a' (xs++ys).length c') (xs++ys) F'::S) Φ)
  (hx:ev fr x=some v:=by rfl) (hy:ev fr y=some (ab (some ⟨g,0,none⟩) n cp):=by rfl) (hp:C2 H (.ow E e v xs F) R:=by exact Dr) (hp2:C2 R (.row g tt 0 [] cs []) S:=by exact Dr) (hn:n=ys.length:=by rfl) (hz:0 < E.sz:=by decide) (hm:E.sz=m:=by rfl)
  (h63:xs.length+ys.length<=9223372036854775807:=by simp only [aU,aY];omega) (hby:(xs.length+ys.length) * b<=140737488355328:=by simp only [aU,aY];omega) (hd:Nat.blt d c.n=true:=by rfl) :
  On c fr H (some d) (.call { callee:=.builtin .append,args:=#[x,y],argTypes:=#[t,t] }) ty Φ :=
 ⟨fun _ _ _=>ap one hz hm hp hx hy hn (Fy:=[]) (fun w s=>⟨cs,hfl w,.inr ⟨_,rfl,fun j u hu=>by
   have hr:=(s.on (.row g tt 0 [] cs []) (by simp [hp2.mem])).2;have:=hr.cell j;simp only [aZ,bg] at this;rw [hu] at this;unfold Addr.add
   split
   ·rename_i e;subst e;exact this
   ·simpa using this⟩,EX,EX⟩)
  (fun w v' F' s hF w' hk hv=>by
   have s2:St c.G c.D c.w0 (.ow E e v xs F::S) w:=⟨s.I5,fun q hq=>s.on q (by rcases aG.1 hq with rfl|hq;simp;simp [hp2.sub q hq]),⟨fun q hq=>s.sep.1 q (hp2.sub q hq),(hp2.sep s.sep.2).2⟩,fun q hq=>s.Acz q (by rcases aG.1 hq with rfl|hq;simp;simp [hp2.sub q hq])⟩;exact St.turn (M:=[.ow E e v xs F]) (N:=[.ow E e v' (xs++ys) F']) s2 GZ IT ⟨EX,trivial⟩ (by
    intro q hq b hb;simp at hq;subst hq;rcases hF b hb with h|h|h
    ·exact .inr (.inl ⟨.ow E e v xs F,EX,rfl,h⟩)
    ·simp at h
    ·exact .inl EV))
  (by unfold maxLen;exact h63) hby h hd⟩
theorem Nm {α:Type} {E:Bw α} {t e m b:Nat} {z:Value} [hS:SlC c.P t e m] [hE:ElT c.P e z m b] {xs ys:List α} {F G:aq} {ao:aj} {n cp:Nat} {R:List Pc}
  (one:One E) (sc:∀{w cs x F},E.Kz w cs x F->F=[]) (h:∀a' c' F',T c ((d,.slice a' (xs++ys).length c')::fr) (.ow E e (.slice a' (xs++ys).length c') (xs++ys) F'::R) Φ)
  (hx:ev fr x=some v:=by rfl) (hy:ev fr y=some (ab ao n cp):=by rfl) (hp:C2 H (.ow E e v xs F) R:=by exact Dr) (hp2:.sl E (ab ao n cp) ys G∈R:=by exact Bn) (hn:n=ys.length:=by rfl) (hz:0 < E.sz:=by decide) (hm:E.sz=m:=by rfl)
  (h63:xs.length+ys.length<=9223372036854775807:=by first|omega|(simp only [aU,aY];omega)) (hby:(xs.length+ys.length) * b<=140737488355328:=by first|omega|(simp only [aU,aY];omega)) (hd:Nat.blt d c.n=true:=by rfl) :
  On c fr H (some d) (.call { callee:=.builtin .append,args:=#[x,y],argTypes:=#[t,t] }) ty Φ :=
 have flat0:∀{w cs zs G},Cw E w cs zs G->G=[]:=fun {w cs zs G}=>by
  induction zs generalizing cs G with
  | nil=>intro h;exact h.2
  | cons z r ih=>intro h;obtain ⟨c1,c2,F1,F2,_,rfl,h1,h2⟩:=h;rw [sc h1,ih h2];rfl
 ⟨fun _ _ _=>ap one hz hm hp hx hy hn (Fy:=[]) (fun w s=>by
   obtain ⟨-,hs⟩:=s.on (.sl E (ab ao n cp) ys G) (by simp [hp2]);obtain ⟨ao',cc,news,Fy,he, -,hfy, -,hsrc⟩:=hs.src;simp only [Value.slice.injEq] at he;obtain ⟨rfl, -,rfl⟩:=he;obtain rfl:=flat0 hfy;exact ⟨news,hfy,hsrc,EX,EX⟩)
  (fun w v' F' s hF w' hk hv=>St.turn (M:=[.ow E e v xs F]) (N:=[.ow E e v' (xs++ys) F']) s GZ IT ⟨EX,trivial⟩ (by
    intro q hq b hb;simp at hq;subst hq;rcases hF b hb with h|h|h
    ·exact .inr (.inl ⟨.ow E e v xs F,EX,rfl,h⟩)
    ·simp at h
    ·exact .inl EV))
  (by unfold maxLen;exact h63) hby h hd⟩
/-! parts of slices that read -/
theorem Aew {P:Program} {t e m:Nat} (hS:SlC P t e m):P.elem t=e:=by simp [Program.elem,hS.u]
theorem sld {α:Type} {E:Bw α} {t e m:Nat} [hS:SlC c.P t e m] {a:aj} {n cp:Nat} {xs:List α} {F:aq} {i:Int} (j:Nat) (h:∀a' c' F',T c ((d,.slice a' (xs.drop j).length c')::fr) (.sl E (.slice a' (xs.drop j).length c') (xs.drop j) F'::H) Φ)
  (hx:ev fr x=some (ab a n cp):=by rfl) (hy:ev fr y=some (aa i):=by rfl) (hm:.sl E (ab a n cp) xs F∈H:=by exact Bn) (hi:i=(j:Int):=by first|rfl|omega) (hj:j<=xs.length:=by omega) (he:E.sz=m:=by rfl) (hd:Nat.blt d c.n=true:=by rfl):On c fr H (some d) (.slice t x (some y) none none) ty Φ:=⟨fun pos Cd gd=>Pd fun Q ac w s g=>by
 subst hi;obtain ⟨hz,hs⟩:=s.get hm;have he2:=Aew hS;obtain ⟨a2,c2,F',hr,hF,h2⟩:=hs.dropS t GB j hj (fun W=>by rw [he2,he];exact Mw hS.s W);have e1:(execOp ac.eval ⟨some d,.slice t x (some y) none none,ty,pos,Cd,gd⟩).run c.P w=.ok (.value (.slice a2 (xs.drop j).length c2)) w:=by
  simp [execOp,g.ev hx,g.ev hy,hr]
 rw [e1];rw [<-aX] at h2;exact (h a2 c2 F').h _ w (s.ro hm rfl rfl ⟨hz,h2⟩ hF) (g.put hd)⟩
/-! one element of an owned slice, of elements without blocks of their own -/
def Avz {α:Type} (E:Bw α) (t:TypeId) (g:Nat) (v:Value) (xs:List α) (i:Nat) (A B:am):Prop:=∀w cs y,If w g t (A++cs++B)->E.Kz w cs y []->Ow E t w v (xs.set i y) [g]
theorem Rm {α:Type} {E:Bw α} {t:TypeId} {a:aj} {n cp m:Nat} {xs:List α} {F:aq} {S:List Pc} (sc:Aar E) (i:Nat) (h:∀(_:i < xs.length) g A cs B,a=some ⟨g,0,none⟩->F=[g]->(∀w,E.Kz w cs xs[i] [])->Avz E t g (ab (some ⟨g,0,none⟩) n cp) xs i A B->T c fr (.row g t (0+i * m) A cs B::S) Φ)
  (hp:C2 H (.ow E t (ab a n cp) xs F) S) (hm:E.sz=m) (hi:i < xs.length):T c fr H Φ:=.mk fun ac w s g=>by
 have z1:=s.pick hp;obtain ⟨-,ho⟩:=z1.on (.ow E t (ab a n cp) xs F) EX;obtain ⟨g0,cap,A,cs,B,G1,Fi,G2,hv,hr,hA, -,hx,rfl, -,hW⟩:=ho.focus i hi
 cases hv;obtain rfl:=sc hx;have hG:∀b,b ∉ G1++G2:=by
  intro b hb;have:=ho.scal sc;simp only [Value.ownBlock,Option.toList_some,bg,List.cons.injEq,cJ] at this;rw [this] at hb;simp at hb
 have hG0:G1++G2=[]:=eO.2 hG;subst hm;refine (h hi g0 A cs B rfl (by simpa using hG0) (fun w'=>E.frame hx EX) (fun w' c' y hr' hy=>?_)).h ac w (z1.conv rfl ⟨EV,hr⟩ (by intro b hb;simp [Pc.F] at hb;subst hb;simp [Pc.F])) g;have:=hW w' c' y [] hr' hy (fun b hb=>absurd hb (hG b));simpa [hG0] using this
theorem P5 {α:Type} {E:Bw α} {t:TypeId} {g o:Nat} {v:Value} {xs:List α} {i:Nat} {A cs B:am} {S:List Pc} (y:α) (hh:Avz E t g v xs i A B) (hy:∀w,E.Kz w cs y []) (h:T c fr (.ow E t v (xs.set i y) [g]::S) Φ) (hp:C2 H (.row g t o A cs B) S:=by exact Dr):T c fr H Φ:=.mk fun ac w s ag=>by
 have z1:=s.pick hp;obtain ⟨-,hr⟩:=z1.on (.row g t o A cs B) EX;exact h.h ac w (z1.conv rfl ⟨EX,hh w cs y hr (hy w)⟩ (fun b hb=>hb)) ag
/-! calls by the elder contracts -/
theorem cn {α:Type} {E:Bw α} {t:TypeId} {xs:List α} {f:Nat} {vs:am} (hc:∀w,St c.G c.D c.w0 H w->Calls c.P f vs.toArray w (W8 E t xs w)) (h:∀a cp F,T c ((d,ab a xs.length cp)::fr) (.ow E t (ab a xs.length cp) xs F::H) Φ):Cl c fr H d f vs Φ :=
 Aat hc (fun w e w' s hR=>by
  obtain ⟨v,F,he,ho,hn,hF,hB⟩:=hR;obtain ⟨a,cp,rfl⟩:=ho.slice;exact ⟨_,he,fun ac g=>(h a cp F).h ac w' (s.add (N:=[.ow E t (ab a xs.length cp) xs F]) hB (by intro q hq;simp at hq;subst hq;exact ⟨hn,ho⟩) ⟨EX,trivial⟩ HK) g⟩)
theorem cr {α:Type} {E:Bw α} {z:α} {f:Nat} {vs:am} (hc:∀w,St c.G c.D c.w0 H w->Calls c.P f vs.toArray w (Bgd E z w)) (h:∀v F,T c ((d,v)::fr) (.isv E v z F::H) Φ):Cl c fr H d f vs Φ :=
 Aat hc (fun w e w' s hR=>by
  obtain ⟨v,F,he,ho,hF,hB⟩:=hR;exact ⟨_,he,fun ac g=>(h v F).h ac w' (s.add (N:=[.isv E v z F]) hB (by intro q hq;simp at hq;subst hq;exact ho) ⟨EX,trivial⟩ HK) g⟩)
theorem cv {α:Type} {E:Bw α} {z:α} {f:Nat} {vs:am} (hc:∀w,St c.G c.D c.w0 H w->Calls c.P f vs.toArray w (Awa E z w)) (h:∀v F,T c ((d,v)::fr) (.own E v z F::H) Φ):Cl c fr H d f vs Φ :=
 Aat hc (fun w e w' s hR=>by
  obtain ⟨v,F,he,ho,hn,hF,hB⟩:=hR;exact ⟨_,he,fun ac g=>(h v F).h ac w' (s.add (N:=[.own E v z F]) hB (by intro q hq;simp at hq;subst hq;exact ⟨hn,ho⟩) ⟨EX,trivial⟩ HK) g⟩)
/-! regions that draw their order -/
inductive Nth:List Pc->Nat->Pc->Prop
 | zero {p R}:Nth (p::R) 0 p
 | succ {x p R i}:Nth R i p->Nth (x::R) (i+1) p
inductive Sel (H:List Pc):aq->List Pc->Prop
 | nil:Sel H [] []
 | cons {i is p R}:Nth H i p->Sel H is R->Sel H (i::is) (p::R)
theorem Nth.mem {H i p} (h:Nth H i p):p∈H:=by
 induction h with
 | zero=>simp
 | succ _ ih=>simp [ih]
variable {H0:List Pc} {X:aq} {f:Nat} {listed:Array Bool}
theorem Ar {id:Nat} {l:List Oper} (is X:aq) (h:T c fr H (.dx k H0 X l.toArray l.length (Array.replicate l.length false))) (_hsel:Sel H is H0:=by repeat constructor) (hm:c.P.follows .mixedOrders=true:=by kernel_rfl):T c fr H (.B4 k (Code.region id l.toArray true)):=.mk fun a w s g=>by
 exact DT
def Wz (c:Cx):Prop:=∀ch d v a w,c.R (.panic ch) (Act.put a d v) w->c.R (.panic ch) a w
theorem Zf {P:Program} {D G:aq} {w0:World} {n:Nat} {fn:Func} {R:Ending->World->Prop}:Wz ⟨P,G,D,w0,n,bodyPost P fn R⟩:=fun ch d v a w h=>by
 cases d <;> exact h
theorem dt (i:Nat) (h:T c ((d,v)::fr) H (.dx k H0 X ops f (listed.setIfInBounds i true))) (ho:ops[i]?=some ⟨some d,o,ty,pos,Cd,none⟩:=by rw [aP];rfl) (hy:Yd c.P c.n fr H0 o ty v:=by exact ydE) (hs:Mt H0 H:=by repeat (first|exact Mt.nil|refine Mt.cons FA ?_))
  (h1:Region.noSelect ops=true:=by kernel_rfl) (h2:Region.free .any ops listed i=true:=by kernel_rfl) (h3:(Region.ready .any ops listed).contains i=true:=by kernel_rfl) (h4:Lv .any ops (fun i=>X.contains i) i=true:=by kernel_rfl) (h5:Mv .any ops listed=true:=by kernel_rfl) (hR:Wz c:=by exact Zf) (hd:Nat.blt d c.n=true:=by rfl) :
  T c fr H (.dx k H0 X ops (f+1) listed):=.mk fun a w s g =>
 Ez.take (v:=v) ho h1 h2 h3 h4 h5 (fun ch a w hp=>by rw [Mm] at hp ⊢;exact hR _ _ _ _ _ hp) (.inl ⟨rfl,fun w' hw'=>hy.h a w' _ _ _ _ g hw'⟩) (fun p hp=>s.on p (hs.all p hp)) (h.h _ _ s (g.put hd))
theorem Apg (i j:Nat) {α:Type} {E:Bw α} {t e m:Nat} [hS:SlC c.P t e m] {a:aj} {n cp:Nat} {xs:List α} {F:aq} {z:Int} (h:∀a' c' F',T c ((d,.slice a' (xs.drop j).length c')::fr) (.sl E (.slice a' (xs.drop j).length c') (xs.drop j) F'::H) (.dx k H0 X ops f (listed.setIfInBounds i true))) (ho:ops[i]?=some ⟨some d,.slice t x (some y) none none,ty,pos,Cd,none⟩:=by rw [aP];rfl)
  (hx:ev fr x=some (ab a n cp):=by rfl) (hy:ev fr y=some (aa z):=by rfl) (hm:.sl E (ab a n cp) xs F∈H:=by exact Bn) (hi:z=(j:Int):=by first|rfl|omega) (hj:j<=xs.length:=by omega) (he:E.sz=m:=by rfl) (hs:Mt H0 H:=by repeat (first|exact Mt.nil|refine Mt.cons FA ?_))
  (h1:Region.noSelect ops=true:=by kernel_rfl) (h2:Region.free .any ops listed i=true:=by kernel_rfl) (h3:(Region.ready .any ops listed).contains i=true:=by kernel_rfl) (h4:Lv .any ops (fun i=>X.contains i) i=true:=by kernel_rfl) (h5:Mv .any ops listed=true:=by kernel_rfl) (hR:Wz c:=by exact Zf) (hd:Nat.blt d c.n=true:=by rfl) :
  T c fr H (.dx k H0 X ops (f+1) listed):=.mk fun ac w s g=>by
 subst hi;obtain ⟨hz,hs'⟩:=s.get hm;have he2:=Aew hS;obtain ⟨a2,c2,F',hr,hF,h2'⟩:=hs'.dropS t GB j hj (fun W=>by rw [he2,he];exact Mw hS.s W);rw [<-aX] at h2' hr;refine Ez.take (v:=.slice a2 (xs.drop j).length c2) ho h1 h2 h3 h4 h5 (fun ch a w hp=>by rw [Mm] at hp ⊢;exact hR _ _ _ _ _ hp) (.inl ⟨rfl,fun w' _=>?_⟩) (fun p hp=>s.on p (hs.all p hp)) ((h a2 c2 F').h _ w (s.ro hm rfl rfl ⟨hz,h2'⟩ hF) (g.put hd));simp only [execOp,cL,bV,g.ev hx,g.ev hy,Sem.run_bind,hr,Result.andThen_ok,Sem.run_pure]
theorem Dd (i:Nat) {j t:Nat} {b:Bool} (h:T c ((d,v)::fr) H (.dx k H0 X ops f (listed.setIfInBounds i true))) (ho:ops[i]?=some ⟨some d,o,ty,pos,Cd,some (j,b)⟩:=by rw [aP];rfl) (ht:(ops[j]?).bind (·.dst)=some t:=by rfl) (hl:Rn fr t=some (.bool b):=by rfl) (hy:Yd c.P c.n fr H0 o ty v:=by exact ydE) (hs:Mt H0 H:=by repeat (first|exact Mt.nil|refine Mt.cons FA ?_))
  (h1:Region.noSelect ops=true:=by kernel_rfl) (h2:Region.free .any ops listed i=true:=by kernel_rfl) (h3:(Region.ready .any ops listed).contains i=true:=by kernel_rfl) (h4:Lv .any ops (fun i=>X.contains i) i=true:=by kernel_rfl) (h5:Mv .any ops listed=true:=by kernel_rfl) (hR:Wz c:=by exact Zf) (hd:Nat.blt d c.n=true:=by rfl) :
  T c fr H (.dx k H0 X ops (f+1) listed):=.mk fun a w s g =>
 Ez.take (v:=v) ho h1 h2 h3 h4 h5 (fun ch a w hp=>by rw [Mm] at hp ⊢;exact hR _ _ _ _ _ hp) (.inl ⟨by rw [U9 (c:=c) ht hl g];simp,fun w' hw'=>hy.h a w' _ _ _ _ g hw'⟩) (fun p hp=>s.on p (hs.all p hp)) (h.h _ _ s (g.put hd))
theorem ds (i:Nat) {j t:Nat} {b b':Bool} (h:T c ((d,undef)::fr) H (.dx k H0 X ops f (listed.setIfInBounds i true))) (ho:ops[i]?=some ⟨some d,o,ty,pos,Cd,some (j,b)⟩:=by rw [aP];rfl) (ht:(ops[j]?).bind (·.dst)=some t:=by rfl) (hl:Rn fr t=some (.bool b'):=by rfl) (hb:(b' == b)=false:=by rfl) (hs:Mt H0 H:=by repeat (first|exact Mt.nil|refine Mt.cons FA ?_))
  (h1:Region.noSelect ops=true:=by kernel_rfl) (h2:Region.free .any ops listed i=true:=by kernel_rfl) (h3:(Region.ready .any ops listed).contains i=true:=by kernel_rfl) (h4:Lv .any ops (fun i=>X.contains i) i=true:=by kernel_rfl) (h5:Mv .any ops listed=true:=by kernel_rfl) (hR:Wz c:=by exact Zf) (hd:Nat.blt d c.n=true:=by rfl) :
  T c fr H (.dx k H0 X ops (f+1) listed):=.mk fun a w s g =>
 Ez.take (v:=undef) ho h1 h2 h3 h4 h5 (fun ch a w hp=>by rw [Mm] at hp ⊢;exact hR _ _ _ _ _ hp) (.inr ⟨by rw [U9 (c:=c) ht hl g];exact hb,rfl⟩) (fun p hp=>s.on p (hs.all p hp)) (h.h _ _ s (g.put hd))
theorem dsu (i:Nat) {j t:Nat} {b:Bool} (h:T c ((d,undef)::fr) H (.dx k H0 X ops f (listed.setIfInBounds i true))) (ho:ops[i]?=some ⟨some d,o,ty,pos,Cd,some (j,b)⟩:=by rw [aP];rfl) (ht:(ops[j]?).bind (·.dst)=some t:=by rfl) (hl:Rn fr t=some undef:=by rfl) (hs:Mt H0 H:=by repeat (first|exact Mt.nil|refine Mt.cons FA ?_))
  (h1:Region.noSelect ops=true:=by kernel_rfl) (h2:Region.free .any ops listed i=true:=by kernel_rfl) (h3:(Region.ready .any ops listed).contains i=true:=by kernel_rfl) (h4:Lv .any ops (fun i=>X.contains i) i=true:=by kernel_rfl) (h5:Mv .any ops listed=true:=by kernel_rfl) (hR:Wz c:=by exact Zf) (hd:Nat.blt d c.n=true:=by rfl) :
  T c fr H (.dx k H0 X ops (f+1) listed):=.mk fun a w s g =>
 Ez.take (v:=undef) ho h1 h2 h3 h4 h5 (fun ch a w hp=>by rw [Mm] at hp ⊢;exact hR _ _ _ _ _ hp) (.inr ⟨by simp only [Region.wanted,yielded,ht,de,g.at_ t _ hl];rfl,rfl⟩) (fun p hp=>s.on p (hs.all p hp)) (h.h _ _ s (g.put hd))
theorem dk {i:Nat} (h:T c fr H (.dx k H0 X ops f listed)) (hs:Mt H0 H:=by repeat (first|exact Mt.nil|refine Mt.cons FA ?_)):T c fr H (.dk i k H0 X ops f listed):=.mk fun a w s g=>⟨fun _ p hp=>s.on p (hs.all p hp),h.h a w s g⟩
theorem N2 {i:Nat} (h:T c fr H (.dx k H0 X ops f listed)) (hi:X.contains i=true:=by rfl):T c fr H (.dk i k H0 X ops f listed):=.mk fun a w s g=>⟨fun h0=>(by rw [hi] at h0;cases h0),h.h a w s g⟩
theorem d1 (i:Nat) {o:Oper} (h:Ef c fr H o (.dk i k H0 X ops f (listed.setIfInBounds i true))) (hr:Region.ready .any ops listed=[i]:=by kernel_rfl) (ho:ops[i]?=some o:=by rw [aP];rfl) (hg:o.guard=none:=by rfl):T c fr H (.dx k H0 X ops (f+1) listed):=.mk fun a w s g =>
 Ez.only hr ho fun K hK=>by
  rw [aH (by simp [Region.wanted,hg])];exact Oper.wp_mono (fun a' w' h'=>hK a' w' h'.1 h'.2) (h.h _ a w s g)
theorem d1g (i:Nat) {od:Option Tmp} {j t:Nat} {b:Bool} (h:Ef c fr H ⟨od,o,ty,pos,Cd,some (j,b)⟩ (.dk i k H0 X ops f (listed.setIfInBounds i true))) (hr:Region.ready .any ops listed=[i]:=by kernel_rfl) (ho:ops[i]?=some ⟨od,o,ty,pos,Cd,some (j,b)⟩:=by rw [aP];rfl) (ht:(ops[j]?).bind (·.dst)=some t:=by rfl) (hl:Rn fr t=some (.bool b):=by rfl):T c fr H (.dx k H0 X ops (f+1) listed):=.mk fun a w s g =>
 Ez.only hr ho fun K hK=>by
  rw [aH (by rw [U9 (c:=c) ht hl g];simp)];exact Oper.wp_mono (fun a' w' h'=>hK a' w' h'.1 h'.2) (h.h _ a w s g)
theorem d2 (i j:Nat) {o o2:Oper} (h:Ef c fr H o (.dk i k H0 X ops f (listed.setIfInBounds i true))) (h':Ef c fr H o2 (.dk j k H0 X ops f (listed.setIfInBounds j true)))
  (hr:Region.ready .any ops listed=[i,j]:=by kernel_rfl) (ho:ops[i]?=some o:=by rw [aP];rfl) (ho2:ops[j]?=some o2:=by rw [aP];rfl) (hg:o.guard=none:=by rfl) (hg2:o2.guard=none:=by rfl):T c fr H (.dx k H0 X ops (f+1) listed):=.mk fun a w s g =>
 Ez.two hr ho ho2 (fun K hK=>by
  rw [aH (by simp [Region.wanted,hg])];exact Oper.wp_mono (fun a' w' h'=>hK a' w' h'.1 h'.2) (h.h _ a w s g)) (fun K hK=>by
  rw [aH (by simp [Region.wanted,hg2])];exact Oper.wp_mono (fun a' w' h''=>hK a' w' h''.1 h''.2) (h'.h _ a w s g))
theorem dO (i:Nat) {od:Option Tmp} (hr:Region.ready .any ops listed=[i]) (ho:ops[i]?=some ⟨od,o,ty,pos,Cd,none⟩) (h:On c fr H od o ty (.dk i k H0 X ops f (listed.setIfInBounds i true))):T c fr H (.dx k H0 X ops (f+1) listed):=d1 i (h.h pos Cd none) hr ho rfl
theorem dO2 (i j:Nat) {od od2:Option Tmp} {o2:Op} {ty2:TypeId} {pos2:String} {aft2:Array Edge} (hr:Region.ready .any ops listed=[i,j]) (ho:ops[i]?=some ⟨od,o,ty,pos,Cd,none⟩) (ho2:ops[j]?=some ⟨od2,o2,ty2,pos2,aft2,none⟩) (h:On c fr H od o ty (.dk i k H0 X ops f (listed.setIfInBounds i true))) (h':On c fr H od2 o2 ty2 (.dk j k H0 X ops f (listed.setIfInBounds j true))):T c fr H (.dx k H0 X ops (f+1) listed):=d2 i j (h.h pos Cd none) (h'.h pos2 aft2 none) hr ho ho2 rfl rfl
theorem dd (h:T c fr H (.norm k)) (hr:Region.ready .any ops listed=[]:=by kernel_rfl):T c fr H (.dx k H0 X ops f listed):=.mk fun a w s g=>Ez.done hr (h.h a w s g) f
theorem ey {gd:Option (Nat × Bool)} (h:T c ((d,v)::fr) H Φ) (hy:Yd c.P c.n fr H o ty v:=by exact ydE) (hd:Nat.blt d c.n=true:=by rfl):Ef c fr H ⟨some d,o,ty,pos,Cd,gd⟩ Φ:=Bdl hy hd h
end
inductive Kf (fr:Fr):aq->Fr->Prop
 | nil:Kf fr [] []
 | cons {t v ts r}:Rn fr t=some v->Kf fr ts r->Kf fr (t::ts) ((t,v)::r)
theorem Kf.sub {fr ts r} (h:Kf fr ts r):Mo fr r:=by
 induction h with
 | nil=>exact .nil
 | cons h _ ih=>exact .cons h ih
theorem Mo.app {fr a b:Fr} (h:Mo fr a) (h2:Mo fr b):Mo fr (a++b):=by
 induction h with
 | nil=>exact h2
 | cons h _ ih=>exact .cons h ih
theorem Km.hsub {H M R:List Pc} (h:Km H M R):Lj H (M++R):=by
 have all:∀(H:List Pc),Lj H H:=by
  intro H
  induction H with
  | nil=>exact .nil
  | cons p H ih=>exact .cons .here ih
 induction h with
 | nil=>exact all _
 | cons hp _ ih=>exact .cons hp ih
theorem Ca {c:Cx} {fr:Fr} {H:List Pc} {k:List It} {x:Code} {σ:Type} {cst:Fr} {rest:List Pc} (ks:aq) (upd:σ->Fr) (chg:σ->List Pc) (C:σ->Prop) (μ:σ->Nat) (s0:σ) (h0:C s0)
  (round:∀s,C s->T c (upd s++cst) (chg s++rest) (.B4 (.lp (LpN c (fun s=>upd s++cst) (fun s=>chg s++rest) C μ (μ s))::k) x)) (hk:Kf fr ks cst:=by repeat (first|exact Kf.nil|apply Kf.cons FH)) (hf:Mo fr (upd s0):=by exact frE) (hH:Km H (chg s0) rest:=by exact Agp):T c fr H (.B4 k (Code.loop x)) :=
 Awo (fun s=>upd s++cst) (fun s=>chg s++rest) C μ s0 h0 round (hf.app hk.sub) hH.hsub
theorem Dk {c:Cx} {fr:Fr} {H:List Pc} {k:List It} {x:Code} {σ:Type} {cst:Fr} (ks:aq) (upd:σ->Fr) (C:σ->Prop) (μ:σ->Nat) (s0:σ) (h0:C s0)
  (round:∀s,C s->T c (upd s++cst) H (.B4 (.lp (LpN c (fun s=>upd s++cst) (fun _=>H) C μ (μ s))::k) x)) (hk:Kf fr ks cst:=by repeat (first|exact Kf.nil|apply Kf.cons FH)) (hf:Mo fr (upd s0):=by exact frE):T c fr H (.B4 k (Code.loop x)) :=
 Awo (fun s=>upd s++cst) (fun _=>H) C μ s0 h0 round (hf.app hk.sub) (by
  have all:∀(H:List Pc),Lj H H:=by
   intro H
   induction H with
   | nil=>exact .nil
   | cons p H ih=>exact .cons .here ih
  exact all _)
def Jn {σ:Type} (c:Cx) (fr':σ->Fr) (H':σ->List Pc) (C:σ->Prop) (a:Act) (w:World):Prop:=∃s,C s/\St c.G c.D c.w0 (H' s) w/\Ag c.n (fr' s) a
theorem Bd9 {c:Cx} {fr:Fr} {H:List Pc} {k:List It} {x:Code} {σ:Type} (fr':σ->Fr) (H':σ->List Pc) (C:σ->Prop) (h:T c fr H (.B4 (.lp (Jn c fr' H' C)::k) x)) (h2:∀s,C s->T c (fr' s) (H' s) (.norm k)):T c fr H (.B4 k x):=.mk fun a w s g =>
 wp_mono (h.h a w s g) fun e a' w' he=>by
  cases e with
  | normal=>obtain ⟨z,hz,hs,hg⟩:=he;exact (h2 z hz).h a' w' hs hg
  | _=>exact he
theorem Bh {c:Cx} {fr:Fr} {H:List Pc} {k:List It} {σ:Type} {fr':σ->Fr} {H':σ->List Pc} {C:σ->Prop} (s:σ) (hC:C s) (hf:Mo fr (fr' s):=by repeat (first|exact Mo.nil|refine Mo.cons FH ?_)) (hH:Lj H (H' s):=by repeat (first|exact Lj.nil|refine Lj.cons (by exact Dr) ?_)):T c fr H (.norm (.lp (Jn c fr' H' C)::k)) :=
 .mk fun _ _ st g=>⟨s,hC,st.sub hH,g.sub hf⟩
theorem Du {c:Cx} {fr:Fr} {H:List Pc} {k:List It} {x:Code} {σ:Type} {cst:Fr} {rest:List Pc} (ks rs:aq) (upd:σ->Fr) (chg:σ->List Pc) (C:σ->Prop) (h:T c fr H (.B4 (.lp (Jn c (fun s=>upd s++cst) (fun s=>chg s++rest) C)::k) x)) (h2:∀s,C s->T c (upd s++cst) (chg s++rest) (.norm k)) (_hk:Kf fr ks cst:=by repeat (first|exact Kf.nil|apply Kf.cons FH)) (_hr:Sel H rs rest:=by repeat constructor):T c fr H (.B4 k x) :=
 Bd9 _ _ C h h2
theorem enter {P:Program} {f:FuncId} {fn:Func} {cd:Code} {args:am} {A M H:List Pc} {σ:Type} {C:σ->Prop} {v:σ->Value} {N:σ->List Pc} {n:Nat} (hf:P.funcs[f]?=some fn) (hb:fn.body=some cd) (hn:fn.ntmps=n)
  (h:∀w,T ⟨P,fp M,fp A,w,n,bodyPost P fn (Akd P w A M C v N)⟩ (Amc 0 args) H (.B4 [] cd))
  (hl:Nat.ble args.length n=true:=by rfl) (hmA:A.all (fun p=>!p.mu)=true:=by rfl) (hH:Alu M A H:=by repeat constructor):Fn P f args A M C v N:=by
 subst hn;exact Aw7 hf hb (fun w=>by rw [hH.eq];exact h w) GU hmA
theorem ret {P:Program} {fn:Func} {G D:aq} {w0:World} {n:Nat} {A M:List Pc} {σ:Type} {C:σ->Prop} {v:σ->Value} {N:σ->List Pc} {fr:Fr} {H:List Pc} {rs:List ResultVar} {vs:am} (s:σ) (hC:C s) (hv:Tp vs=v s)
  (hr:fn.results=rs.toArray:=by rfl) (h:Res P fr H rs vs:=by repeat (first|exact Res.nil|apply Res.tmp FH|apply Res.agg inferInstance FH FA FH|apply Res.one inferInstance FH FA)) (hN:Lj H (N s):=by repeat (first|exact Lj.nil|refine Lj.cons (by exact Dr) ?_)) (hG:G=fp M:=by rfl) (hD:D=fp A:=by rfl):T ⟨P,G,D,w0,n,bodyPost P fn (Akd P w0 A M C v N)⟩ fr H (.fin .ret):=Bej s hC hr h hv hN hG hD
theorem Fn.val {P:Program} {f:FuncId} {args:am} {A:List Pc} {C:Unit->Prop} {v:Value} (h:Fn P f args A [] C (fun _=>v) (fun _=>[])) (w:World) (hA:Od A w) (hm:A.all (fun p=>!p.mu)=true:=by rfl):Calls P f args.toArray w (RB v w) :=
 have hs:∀(A:List Pc),A.all (fun p=>!p.mu)=true->Si A:=by
  intro A
  induction A with
  | nil=>intro _;trivial
  | cons p A ih =>
   intro h;simp only [dL,aw,bu] at h;exact ⟨fun q hq hm=>by have:=aV.1 h.2 q hq;simp [h.1] at hm;simp [hm] at this,ih h.2⟩
 (h w IV (by simpa using hs A hm)).mono fun e w' ⟨_,_,he,_,_,hk,_⟩=>⟨he,hk.below (aK _) (by simp [fp])⟩
theorem Aqn:∀(A:List Pc),A.all (fun p=>!p.mu)=true->Si A
 | [],_=>trivial
 | p::A,h=>by
  simp only [dL,aw,bu] at h;exact ⟨fun q hq hm=>by have:=aV.1 h.2 q hq;simp [h.1] at hm;simp [hm] at this,Aqn A h.2⟩
theorem Pc.nd {p:Pc} (hm:p.mu=true) {w:World} (h:p.P w):p.F.Nodup:=by
 cases p with
 | row g t o A cs B=>simp [Pc.F]
 | ow E t v xs F=>exact h.1
 | own E v x F=>exact h.1
 | flat E cs xs F=>exact h.1
 | _=>cases hm
theorem Amr {w:World}:∀{N:List Pc},N.all (·.mu)=true->Od N w->Si N->(fp N).Nodup
 | [],_,_,_=>by simp [fp]
 | p::N,hm,hH,hs=>by
  simp only [dL,aw] at hm;refine bK.2 ⟨Pc.nd hm.1 (hH p EX),Amr hm.2 (fun q hq=>hH q FX) hs.2,fun b hb b' hb' e=>?_⟩;subst e;obtain ⟨q,hq,hqb⟩:=Ro.1 hb';exact hs.1 q hq (by simp [hm.1]) b hb hqb
theorem Fn.made {P:Program} {f:FuncId} {args:am} {A:List Pc} {σ:Type} {C:σ->Prop} {v:σ->Value} {N:σ->List Pc} (h:Fn P f args A [] C v N) (w:World) (hA:Od A w) (hN:∀s,(N s).all (·.mu)=true) (hm:A.all (fun p=>!p.mu)=true:=by rfl) :
  Calls P f args.toArray w fun e w'=>∃s,C s/\e=.returned (v s)/\Od (N s) w'/\(fp (N s)).Nodup/\(∀b∈fp (N s),w.heap.size<=b)/\Below w.heap.size w w' :=
 (h w IV (by simpa using Aqn A hm)).mono fun e w' ⟨s,hC,he,hH,hS,hk,hF⟩=>⟨s,hC,he,hH,Amr (hN s) hH hS,(fun b hb=>by
  obtain ⟨p,hp,hpb⟩:=Ro.1 hb;rcases hF p hp b hpb with h|⟨q,hq,_⟩|⟨h,_⟩
  ·exact h
  ·simp at hq
  ·have:=aV.1 (hN s) p hp;rw [h] at this;cases this),hk.below (aK _) (by simp [fp])⟩
theorem Fn.read {P:Program} {f:FuncId} {args:am} {A:List Pc} {σ:Type} {C:σ->Prop} {v:σ->Value} {N:σ->List Pc} (h:Fn P f args A [] C v N) (w:World) (hA:Od A w) (hm:A.all (fun p=>!p.mu)=true:=by rfl) :
  Calls P f args.toArray w fun e w'=>∃s,C s/\e=.returned (v s)/\Od (N s) w'/\Below w.heap.size w w' :=
 (h w IV (by simpa using Aqn A hm)).mono fun e w' ⟨s,hC,he,hH,hS,hk,hF⟩=>⟨s,hC,he,hH,hk.below (aK _) (by simp [fp])⟩
theorem Up {p q:Pc} {w:World} (h:p.P w) (h2:q.P w):Od [p,q] w:=fun r hr=>by
 simp only [aG,aT,bl] at hr;rcases hr with rfl|rfl <;> assumption
structure Kp (X:Prop):Prop where
 h:X
section
variable {c:Cx} {fr:Fr} {H:List Pc} {d:Nat} {ty:TypeId} {v:Value} {x:Operand} {Φ:Gl}
theorem Ap5 {Y:Nat->Prop} {t:TypeId} {l:am} (hd:Nat.blt d c.n=true) (hx:ev fr x=some v) (hv:v.cells=l.toArray) (hX:Kp (∀g,Y g)) (h:∀g,Kp (Y g)->T c ((d,Gc g 0 0)::fr) (.row g t 0 [] l []::H) Φ):On c fr H (some d) (.box t x) ty Φ:=Bgv hd hx hv fun g=>h g ⟨hX.h g⟩
theorem Agm {Y:Nat->Prop} {t:TypeId} {zs:am} [ZC c.P t zs] (hd:Nat.blt d c.n=true) (hX:Kp (∀g,Y g)) (h:∀g,Kp (Y g)->T c ((d,Gc g 0 0)::fr) (.row g t 0 [] zs []::H) Φ):On c fr H (some d) (.alloc t) ty Φ:=Ci hd fun g=>h g ⟨hX.h g⟩
theorem Ax9 {Y:Nat->Prop} {t e m:Nat} [SlC c.P t e m] (hd:Nat.blt d c.n=true) (hX:Kp (∀g,Y g)) (h:∀g,Kp (Y g)->T c ((d,ab (some ⟨g,0,none⟩) 0 0)::fr) (.row g e 0 [] [] []::H) Φ):On c fr H (some d) (.buildSlice t 0 #[]) ty Φ:=Kj hd fun g=>h g ⟨hX.h g⟩
theorem Bdp {Y:Nat->Prop} {t e m b len:Nat} {z:Value} {zs cs q:am} {ps:List (Nat × Operand)} [SlC c.P t e m] [ElT c.P e z m b] [ZC c.P e zs] (hd:Nat.blt d c.n=true) (hlen:Nat.blt 0 len=true) (hm:Nat.blt 0 m=true) (hl:Nat.ble (len * m) 1000=true) (hc:Rpt zs len cs) (hf:Fil (fun i=>some (i * m,m)) fr cs ps q) (hX:Kp (∀g,Y g)) (h:∀g,Kp (Y g)->T c ((d,ab (some ⟨g,0,none⟩) len len)::fr) (.row g e 0 [] q []::H) Φ) :
  On c fr H (some d) (.buildSlice t len ps.toArray) ty Φ:=Iz hd hlen hm hl hc hf fun g=>h g ⟨hX.h g⟩
end
theorem go {X:Prop} {c:Cx} {fr:Fr} {H:List Pc} {Φ:Gl} (h:X) (hs:Kp X->T c fr H Φ:=by intro hX;(repeat (first|apply N7|apply Aif|(apply wO;apply oc;rfl;exact ydE)|apply T3|apply Xu|(apply Aot;rfl;rfl)|(apply Aos;rfl;rfl;rfl;rfl)|(apply Aou;rfl;rfl;rfl)|(apply c_t;rfl)|(apply c_f;rfl)|apply Vf|apply Rz|apply Ad1|apply Ao8|apply Awy|apply Bed|apply Bee|(apply Aph;rfl)|apply Awp|(apply wO;apply Ap5;rfl;rfl;rfl;exact hX;clear hX;intro _ hX)|(apply wO;apply Agm;rfl;exact hX;clear hX;intro _ hX)|(apply wO;apply Ap7;rfl;rfl;rfl;(first|exact AggC.s|exact OneC.s);rfl;exact Ag0;exact Aur;rfl)|(apply wO;apply Ax9;rfl;exact hX;clear hX;intro _ hX)|(apply wO;apply Bdp;rfl;rfl;rfl;rfl;exact Ir;exact Io;exact hX;clear hX;intro _ hX)|(apply wO;apply Ak1;rfl;kernel_rfl;exact Vi)));exact hX.h):T c fr H Φ:=hs ⟨h⟩
theorem Ih {X:Prop} {c:Cx} {fr:Fr} {H:List Pc} {Φ:Gl} (h:X) (hs:Kp X->T c fr H Φ:=by intro hX;(repeat (first|apply N7|apply Aif|(apply wO;apply oc;rfl;exact ydE)|apply T3|apply Xu|(apply Aot;rfl;rfl)|(apply Aos;rfl;rfl;rfl;rfl)|(apply Aou;rfl;rfl;rfl)|(apply c_t;rfl)|(apply c_f;rfl)|apply Vf|apply Rz|apply Ad1|apply Ao8|apply Awy|apply Bed|apply Bee|(apply Aph;rfl)|apply Awp|(apply wO;apply Ap5;rfl;rfl;rfl;exact hX;clear hX;intro _ hX)|(apply wO;apply Agm;rfl;exact hX;clear hX;intro _ hX)|(apply wO;apply Ap7;rfl;rfl;rfl;(first|exact AggC.s|exact OneC.s);rfl;exact Ag0;exact Aur;rfl)|(apply wO;apply Ax9;rfl;exact hX;clear hX;intro _ hX)|(apply wO;apply Bdp;rfl;rfl;rfl;rfl;exact Ir;exact Io;exact hX;clear hX;intro _ hX)));exact hX.h):T c fr H Φ:=hs ⟨h⟩
section
variable {c:Cx} {fr:Fr} {H:List Pc} {k:List It} {Φ:Gl} {ops:Array Oper} {rest:List Oper} {d:Nat} {o:Op} {ty:TypeId} {pos:String} {Cd:Array Edge} {v u:Value} {x y:Operand} {H0:List Pc} {X:aq} {f:Nat} {listed:Array Bool}
theorem oC {f:Nat} {aS:List Operand} {ts:Array TypeId} {vs:am} (h:Cl c fr H d f vs Φ) (hd:Nat.blt d c.n=true:=by rfl) (hb:Q2 c.P f=true:=by kernel_rfl) (ha:Evs fr aS vs:=by exact Vi):On c fr H (some d) (.call { callee:=.value (.func f),args:=aS.toArray,argTypes:=ts }) ty Φ:=Ak1 hd hb ha h
theorem oS {t g tt o' j m:Nat} {A cs B l r:am} {S:List Pc} (h:T c fr S Φ) (hx:ev fr x=some (Gc g o' j):=by rfl) (hy:ev fr y=some v:=by rfl) (hv:v.cells=l.toArray:=by rfl) (hs:(c.P.info? t).map (·.size)=some m:=by first|exact AggC.s|exact OneC.s) (hl:l.length=m:=by rfl) (hr:Rpl H (.row g tt o' A cs B) (.row g tt o' A r B) S:=by exact Ag0) (hp:Put cs j l r:=by exact Aur) (h1:l.all (·.oneCell')=true:=by rfl):On c fr H none (.store t x y) ty Φ:=Ap7 hx hy hv hs hl hr hp h1 h
theorem dN (i:Nat) {od:Option Tmp} (h:On c fr H od o ty (.dk i k H0 X ops f (listed.setIfInBounds i true))) (hr:Region.ready .any ops listed=[i]:=by kernel_rfl) (ho:ops[i]?=some ⟨od,o,ty,pos,Cd,none⟩:=by rw [aP];rfl):T c fr H (.dx k H0 X ops (f+1) listed):=dO i hr ho h
theorem dM (i j:Nat) {od od2:Option Tmp} {o2:Op} {ty2:TypeId} {pos2:String} {aft2:Array Edge} (h:On c fr H od o ty (.dk i k H0 X ops f (listed.setIfInBounds i true))) (h':On c fr H od2 o2 ty2 (.dk j k H0 X ops f (listed.setIfInBounds j true))) (hr:Region.ready .any ops listed=[i,j]:=by kernel_rfl) (ho:ops[i]?=some ⟨od,o,ty,pos,Cd,none⟩:=by rw [aP];rfl) (ho2:ops[j]?=some ⟨od2,o2,ty2,pos2,aft2,none⟩:=by rw [aP];rfl):T c fr H (.dx k H0 X ops (f+1) listed):=dO2 i j hr ho ho2 h h'
theorem Dg (i0 i1:Nat) {d0:Nat} {o0:Op} {t0:TypeId} {p0:String} {a0:Array Edge} {v0:Value} {d1:Nat} {o1:Op} {t1:TypeId} {p1:String} {a1:Array Edge} {v1:Value} (h:T c ((d1,v1)::((d0,v0)::fr)) H (.dx k H0 X ops f ((listed.setIfInBounds i0 true).setIfInBounds i1 true))) (hs:Mt H0 H:=by repeat (first|exact Mt.nil|refine Mt.cons FA ?_)) (h1:Region.noSelect ops=true:=by kernel_rfl) (hR:Wz c:=by exact Zf) (ho0:ops[i0]?=some ⟨some d0,o0,t0,p0,a0,none⟩:=by rw [aP];rfl) (hy0:Yd c.P c.n fr H0 o0 t0 v0:=by exact ydE) (w0:Region.free .any ops listed i0=true:=by kernel_rfl) (x0:(Region.ready .any ops listed).contains i0=true:=by kernel_rfl) (y0:Lv .any ops (fun i=>X.contains i) i0=true:=by kernel_rfl) (z0:Mv .any ops listed=true:=by kernel_rfl) (e0:Nat.blt d0 c.n=true:=by rfl) (ho1:ops[i1]?=some ⟨some d1,o1,t1,p1,a1,none⟩:=by rw [aP];rfl) (hy1:Yd c.P c.n ((d0,v0)::fr) H0 o1 t1 v1:=by exact ydE) (w1:Region.free .any ops (listed.setIfInBounds i0 true) i1=true:=by kernel_rfl) (x1:(Region.ready .any ops (listed.setIfInBounds i0 true)).contains i1=true:=by kernel_rfl) (y1:Lv .any ops (fun i=>X.contains i) i1=true:=by kernel_rfl) (z1:Mv .any ops (listed.setIfInBounds i0 true)=true:=by kernel_rfl) (e1:Nat.blt d1 c.n=true:=by rfl):T c fr H (.dx k H0 X ops (f+1+1) listed):=dt i0 (dt i1 h ho1 hy1 hs h1 w1 x1 y1 z1 hR e1) ho0 hy0 hs h1 w0 x0 y0 z0 hR e0
theorem C8 (i0 i1 i2 i3:Nat) {d0:Nat} {o0:Op} {t0:TypeId} {p0:String} {a0:Array Edge} {v0:Value} {d1:Nat} {o1:Op} {t1:TypeId} {p1:String} {a1:Array Edge} {v1:Value} {d2:Nat} {o2:Op} {t2:TypeId} {p2:String} {a2:Array Edge} {v2:Value} {d3:Nat} {o3:Op} {t3:TypeId} {p3:String} {a3:Array Edge} {v3:Value} (h:T c ((d3,v3)::((d2,v2)::((d1,v1)::((d0,v0)::fr)))) H (.dx k H0 X ops f ((((listed.setIfInBounds i0 true).setIfInBounds i1 true).setIfInBounds i2 true).setIfInBounds i3 true))) (hs:Mt H0 H:=by repeat (first|exact Mt.nil|refine Mt.cons FA ?_)) (h1:Region.noSelect ops=true:=by kernel_rfl) (hR:Wz c:=by exact Zf) (ho0:ops[i0]?=some ⟨some d0,o0,t0,p0,a0,none⟩:=by rw [aP];rfl) (hy0:Yd c.P c.n fr H0 o0 t0 v0:=by exact ydE) (w0:Region.free .any ops listed i0=true:=by kernel_rfl) (x0:(Region.ready .any ops listed).contains i0=true:=by kernel_rfl) (y0:Lv .any ops (fun i=>X.contains i) i0=true:=by kernel_rfl) (z0:Mv .any ops listed=true:=by kernel_rfl) (e0:Nat.blt d0 c.n=true:=by rfl) (ho1:ops[i1]?=some ⟨some d1,o1,t1,p1,a1,none⟩:=by rw [aP];rfl) (hy1:Yd c.P c.n ((d0,v0)::fr) H0 o1 t1 v1:=by exact ydE) (w1:Region.free .any ops (listed.setIfInBounds i0 true) i1=true:=by kernel_rfl) (x1:(Region.ready .any ops (listed.setIfInBounds i0 true)).contains i1=true:=by kernel_rfl) (y1:Lv .any ops (fun i=>X.contains i) i1=true:=by kernel_rfl) (z1:Mv .any ops (listed.setIfInBounds i0 true)=true:=by kernel_rfl) (e1:Nat.blt d1 c.n=true:=by rfl) (ho2:ops[i2]?=some ⟨some d2,o2,t2,p2,a2,none⟩:=by rw [aP];rfl) (hy2:Yd c.P c.n ((d1,v1)::((d0,v0)::fr)) H0 o2 t2 v2:=by exact ydE) (w2:Region.free .any ops ((listed.setIfInBounds i0 true).setIfInBounds i1 true) i2=true:=by kernel_rfl) (x2:(Region.ready .any ops ((listed.setIfInBounds i0 true).setIfInBounds i1 true)).contains i2=true:=by kernel_rfl) (y2:Lv .any ops (fun i=>X.contains i) i2=true:=by kernel_rfl) (z2:Mv .any ops ((listed.setIfInBounds i0 true).setIfInBounds i1 true)=true:=by kernel_rfl) (e2:Nat.blt d2 c.n=true:=by rfl) (ho3:ops[i3]?=some ⟨some d3,o3,t3,p3,a3,none⟩:=by rw [aP];rfl) (hy3:Yd c.P c.n ((d2,v2)::((d1,v1)::((d0,v0)::fr))) H0 o3 t3 v3:=by exact ydE) (w3:Region.free .any ops (((listed.setIfInBounds i0 true).setIfInBounds i1 true).setIfInBounds i2 true) i3=true:=by kernel_rfl) (x3:(Region.ready .any ops (((listed.setIfInBounds i0 true).setIfInBounds i1 true).setIfInBounds i2 true)).contains i3=true:=by kernel_rfl) (y3:Lv .any ops (fun i=>X.contains i) i3=true:=by kernel_rfl) (z3:Mv .any ops (((listed.setIfInBounds i0 true).setIfInBounds i1 true).setIfInBounds i2 true)=true:=by kernel_rfl) (e3:Nat.blt d3 c.n=true:=by rfl):T c fr H (.dx k H0 X ops (f+1+1+1+1) listed):=dt i0 (dt i1 (dt i2 (dt i3 h ho3 hy3 hs h1 w3 x3 y3 z3 hR e3) ho2 hy2 hs h1 w2 x2 y2 z2 hR e2) ho1 hy1 hs h1 w1 x1 y1 z1 hR e1) ho0 hy0 hs h1 w0 x0 y0 z0 hR e0
theorem Be {f:Nat} {vs:am} {A M R:List Pc} {σ:Type} {C:σ->Prop} {vv:σ->Value} {N K:σ->List Pc} (hf:Fn c.P f vs A M C vv N) (h:∀s,C s->T c ((d,vv s)::fr) (K s) Φ) (hM:Km H M R:=by repeat (first|exact Km.nil|apply Km.cons (by exact Dr))) (hA:Mt A R:=by repeat (first|exact Mt.nil|refine Mt.cons FA ?_)) (hmM:M.all (·.mu)=true:=by rfl) (hmA:A.all (fun p=>!p.mu)=true:=by rfl) (hK:∀s,Alu (N s) R (K s):=by intro _;repeat constructor):Cl c fr H d f vs Φ:=cf_ hf (fun s hs=>Oz (h s hs) (hK s)) hM hA hmM hmA
end
def Ff (lo x hi:Int):Bool:=decide (lo<=x) && decide (x<=hi)
theorem Co {a b:Bool} (h:a=b):Ending.returned (.bool a)=.returned (.bool b):=by rw [h]
theorem Aj5 (s:au) (k:Nat) (h:k < s.size):s.data.toList.take (k+1)=s.data.toList.take k++[s[k]]:=by
 rw [aR FF];rfl
theorem Aog (s:au) (k:Nat) (h:¬k < s.size):s.data.toList.take k=s.data.toList:=aW FB
theorem Aev (s:au) (k:Nat) (h:k < s.size):s.data.toList.drop k=s[k]::s.data.toList.drop (k+1):=by
 rw [bP FF];rfl
theorem Aay (s:au) (k:Nat) (h:¬k < s.size):s.data.toList.drop k=[]:=List.drop_of_length_le FB
theorem Az0 {a b:UInt8}:((a.toNat:Int) == (b.toNat:Int))=(a == b):=by
 rw [cC];simp [<-UInt8.toNat_inj];omega
theorem Hy (x lo hi:Int) (w:World) :
  Calls prog 106 #[aa x,aa lo,aa hi] w fun e w'=>e=.returned (.bool (Ff lo x hi))/\w=w':=by
 go_enter func106,ntmps106
 go_wp2
 all_goals go_ret
 all_goals exact ⟨Co (by simp [Ff, *] <;> omega),rfl⟩
theorem Kg (x lo hi:Int) (w:World) :
  Calls prog 130 #[aa x,aa lo,aa hi] w fun e w'=>e=.returned (.bool (Ff lo x hi))/\w=w':=by
 go_enter func130,ntmps130
 go_wp2
 all_goals go_ret
 all_goals exact ⟨Co (by simp [Ff, *] <;> omega),rfl⟩
def J4 (c:UInt8) (l:List UInt8):Bool:=l.any (· == c)
theorem Apz (s:au) (c:UInt8) (w:World) (hs:s.size<=maxLen) :
  Calls prog 68 #[af s,.int .u8 c.toNat] w fun e w'=>e=.returned (.bool (J4 c s.data.toList))/\w=w':=by
 unfold maxLen at hs
 go_enter func68,ntmps68
 go_wp2
 go_loop [5] (fun i=>∃k:Nat,k<=s.size/\i=aa k/\Hid (J4 c s.data.toList=J4 c (s.data.toList.drop k))) (fun i=>s.size - (intOf i).toNat)
 case atStart=>exact ⟨0,aE _,rfl,rfl⟩
 case round =>
  obtain ⟨k,hk,rfl,hz⟩:=hrel;by_cases hlt:k < s.size
  ·have hz:=Lib.hid (hz.out.trans (by rw [Aev s k hlt];rfl:_=(s[k] == c || J4 c (s.data.toList.drop (k+1)))));by_cases he:((s[k].toNat:Int) == (c.toNat:Int))=true
   ·go_wp2
    go_ret
    rw [Az0] at he;exact ⟨Co (by rw [hz.out,he];rfl),rfl⟩
   ·have he:=eq_false_of_ne_true he
    go_wp2
    go_round
    case rel=>rw [Az0] at he;exact ⟨k+1,EV,HM,by refine Lib.hid ?_;rw [hz.out,he];rfl⟩
    case measure=>simp [intOf];omega
  ·go_wp2
   go_ret
   exact ⟨Co (by rw [hz.out,Aay s k hlt];rfl),rfl⟩
def Pu (b:UInt8):Bool:=Ff 32 b.toNat 126 && !(b == 35)
def Iy (l:List UInt8):Bool:=l.all Pu
theorem Ae5 {a:UInt8}:((a.toNat:Int) == 35)=(a == 35):=Az0 (b:=35)
theorem Amx (s:au) (w:World) (hs:s.size<=maxLen) :
  Calls prog 107 #[af s] w fun e w'=>e=.returned (.bool (Iy s.data.toList))/\w=w':=by
 unfold maxLen at hs
 go_enter func107,ntmps107
 go_wp2
 go_loop [6] (fun i=>∃k:Nat,k<=s.size/\i=aa k/\Hid (Iy s.data.toList=Iy (s.data.toList.drop k))) (fun i=>s.size - (intOf i).toNat)
 case atStart=>exact ⟨0,aE _,rfl,rfl⟩
 case round =>
  obtain ⟨k,hk,rfl,hz⟩:=hrel;by_cases hlt:k < s.size
  ·have hz:=Lib.hid (hz.out.trans (by rw [Aev s k hlt];rfl:_=(Pu s[k] && Iy (s.data.toList.drop (k+1)))));have hb:(s[k].toNat:Int)<=255:=HX
   go_wp2_with (go_at_call 106;refine (Hy _ _ _ _).mono ?_;rintro e w' ⟨rfl,rfl⟩)
   ·have h1:Ff 32 s[k].toNat 126=true:=FM
    have h2:((s[k].toNat:Int) == 35)=true:=FM
    go_ret
    exact ⟨Co (by rw [hz.out];rw [Ae5] at h2;simp [Pu,h2]),rfl⟩
   ·have h1:Ff 32 s[k].toNat 126=true:=FM
    have h2:((s[k].toNat:Int) == 35)=false:=FM
    exact EG
   ·have h1:¬Ff 32 s[k].toNat 126=true:=FM
    go_ret
    exact ⟨Co (by rw [hz.out];simp [Pu,h1]),rfl⟩
  ·go_wp2
   go_ret
   exact ⟨Co (by rw [hz.out,Aay s k hlt];rfl),rfl⟩
theorem Ap0 (s:au) (n:Int) (w:World) (hs:s.size<=maxLen) :
  Calls prog 67 #[af s,aa n] w fun e w'=>e=.returned (.bool (Iy s.data.toList && decide ((s.size:Int)<=n)))/\w=w':=by
 unfold maxLen at hs
 go_enter func67,ntmps67
 go_wp2
 go_loop [5] (fun i=>∃k:Nat,k<=s.size/\i=aa k/\Hid (Iy s.data.toList=Iy (s.data.toList.drop k))) (fun i=>s.size - (intOf i).toNat)
 case atStart=>exact ⟨0,aE _,rfl,rfl⟩
 case round =>
  obtain ⟨k,hk,rfl,hz⟩:=hrel;by_cases hlt:k < s.size
  ·have hz:=Lib.hid (hz.out.trans (by rw [Aev s k hlt];rfl:_=(Pu s[k] && Iy (s.data.toList.drop (k+1)))));have hb:(s[k].toNat:Int)<=255:=HX
   go_wp2_with (go_at_call 130;refine (Kg _ _ _ _).mono ?_;rintro e w' ⟨rfl,rfl⟩)
   ·have h1:Ff 32 s[k].toNat 126=true:=FM
    have h2:((s[k].toNat:Int) == 35)=true:=FM
    go_ret
    exact ⟨Co (by rw [hz.out];rw [Ae5] at h2;simp [Pu,h2]),rfl⟩
   ·have h1:Ff 32 s[k].toNat 126=true:=FM
    have h2:((s[k].toNat:Int) == 35)=false:=FM
    exact EG
   ·have h1:¬Ff 32 s[k].toNat 126=true:=FM
    go_ret
    exact ⟨Co (by rw [hz.out];simp [Pu,h1]),rfl⟩
  ·go_wp2
   go_ret
   exact ⟨Co (by rw [hz.out,Aay s k hlt];simp [Iy]),rfl⟩
theorem Lt {a b:Int} (h:a=b):Ending.returned (aa a)=.returned (aa b):=by rw [h]
theorem Af5:(prog.info? 3).map (fun i=>(i.zero,i.size,i.bytes))=some (some (aa 0),1,8):=by kernel_rfl
theorem Sl.int {w:World} {a:aj} {n cap:Nat} {xs:ar} {F} (h:Sl Bb w (ab a n cap) xs F):n=xs.length/\n<=maxLen /\
  ∀k (hk:k < xs.length),∃b off,a=some ⟨b,off,none⟩/\w.cell? ⟨b,off+k,none⟩=some (aa xs[k]):=by
 obtain ⟨a',cap',hv,hl,h⟩:=h;cases hv;refine ⟨rfl,EV,fun k hk=>?_⟩;rcases h with ⟨rfl,_⟩|⟨b,off,F',rfl,_,_,hc⟩
 ·simp at hk
 ·obtain ⟨cs,F1,⟨rfl,_⟩,hj,_⟩:=hc.get k hk;exact ⟨b,off,rfl,by simpa [Bb] using hj 0 EW⟩
theorem Amv:(prog.info? 9).map (fun i=>(i.zero,i.size,i.bytes))=some (some (af ⟨#[]⟩),1,16):=by kernel_rfl
theorem Sl.str {w:World} {a:aj} {n cap:Nat} {xs:ai} {F} (h:Sl A8 w (ab a n cap) xs F):n=xs.length/\n<=maxLen /\
  ∀k (hk:k < xs.length),xs[k].size<=maxLen/\∃b off,a=some ⟨b,off,none⟩/\w.cell? ⟨b,off+k,none⟩=some (af xs[k]):=by
 obtain ⟨a',cap',hv,hl,h⟩:=h;cases hv;refine ⟨rfl,EV,fun k hk=>?_⟩;rcases h with ⟨rfl,_⟩|⟨b,off,F',rfl,_,_,hc⟩
 ·simp at hk
 ·obtain ⟨cs,F1,⟨rfl,hs,_⟩,hj,_⟩:=hc.get k hk;exact ⟨hs,b,off,rfl,by simpa [A8] using hj 0 EW⟩
structure Log where
 Bj:au
 pending:au
 count:Int
def Bdz:Bw Log where
 sz:=3
 Kz _ cs x F:=cs=[af x.Bj,af x.pending,aa x.count]/\x.Bj.size<=maxLen/\x.pending.size<=maxLen/\F=[]
 len h:=by obtain ⟨rfl,s1,s2,rfl⟩:=h;rfl
 lt h:=by obtain ⟨rfl,s1,s2,rfl⟩:=h;simp
 frame h _:=h
def Bah (x:Log):Nat:=x.Bj.size+x.pending.size
section
variable {c:Cx} {fr:Fr} {H:List Pc} {Φ:Gl}
theorem Bca {v:Value} {x:Log} {F:aq} (h:∀(_:Unit),v=.agg #[af x.Bj,af x.pending,aa x.count]->x.Bj.size<=maxLen->x.pending.size<=maxLen->T c fr (H) Φ) (hm:.isv Bdz v x F∈H:=by exact Bn):T c fr H Φ:=.mk fun a w s g=>by
 obtain ⟨cs,rfl,rfl,s1,s2,rfl⟩:=s.get hm;exact (h () rfl s1 s2 ).h a w s g
theorem Awq (x:Log) (s1:x.Bj.size<=maxLen) (s2:x.pending.size<=maxLen) (h:T c fr (.isv Bdz (.agg #[af x.Bj,af x.pending,aa x.count]) x ([])::H) Φ)  : T c fr H Φ:=.mk fun a w s g=>by
 refine h.h a w (s.add (N:=[_]) (Below.refl _ _) (by intro q hq;obtain rfl:=aL.1 hq;exact ⟨_,rfl,rfl,s1,s2,rfl⟩) ⟨EX,trivial⟩ fun q hq b hb=>?_) g;obtain rfl:=aL.1 hq;simp [Pc.F] at hb
end
structure Ha where
 E8:au
 Eg:au
def I9:Bw Ha where
 sz:=2
 Kz _ cs x F:=cs=[af x.E8,af x.Eg]/\x.E8.size<=maxLen/\x.Eg.size<=maxLen/\F=[]
 len h:=by obtain ⟨rfl,s1,s2,rfl⟩:=h;rfl
 lt h:=by obtain ⟨rfl,s1,s2,rfl⟩:=h;simp
 frame h _:=h
theorem Xv:One I9:=fun h u hu=>by
 obtain ⟨rfl,s1,s2,rfl⟩:=h;simp only [aG,aT,bl] at hu;rcases hu with rfl|rfl
 ·rfl
 ·rfl
theorem Af4:(prog.info? 56).map (fun i=>(i.zero,i.size,i.bytes))=some (some (.agg #[af ⟨#[]⟩,af ⟨#[]⟩]),2,32):=by kernel_rfl
section
variable {c:Cx} {fr:Fr} {H:List Pc} {Φ:Gl}
theorem Ame {a:aj} {n cp:Nat} {xs:List Ha} {F:aq} (i:Nat) (h:∀(hi:i < xs.length) (b o:Nat),a=some ⟨b,o,none⟩->xs[i].E8.size<=maxLen->xs[i].Eg.size<=maxLen->T c fr (.cel b (o+i * 2) [af xs[i].E8,af xs[i].Eg]::H) Φ) (hm:.sl I9 (ab a n cp) xs F∈H:=by exact Bn) (hi:i < xs.length:=by omega):T c fr H Φ:=.mk fun ac w s g=>by
 obtain ⟨b,o,cs,G,ha,hrep,hG,hb,hne,hr⟩:=Wp (s.get hm) i hi;obtain ⟨rfl,s1,s2,rfl⟩:=hrep;exact (h hi b o  ha s1 s2 ).h ac w (s.ro hm rfl rfl ⟨hne,hr⟩ GC) g
theorem Ah1 (x:Ha) (s1:x.E8.size<=maxLen) (s2:x.Eg.size<=maxLen) (w:World):Cw I9 w [af x.E8,af x.Eg] [x] []:=⟨_,[],[],[],EX,EX,⟨rfl,s1,s2,rfl⟩,rfl,rfl⟩
end
theorem Awm {a b:au}:a.data.toList=b.data.toList↔a=b:=⟨fun h=>by
 obtain ⟨⟨a⟩⟩:=a;obtain ⟨⟨b⟩⟩:=b;dsimp only at h;rw [h],fun h=>by rw [h]⟩
def Apk (a b:Log):Bool:=decide (a.Bj=b.Bj) && (decide (a.pending=b.pending) && decide (a.count=b.count))
def Aw0 (a b:Ha):Bool:=decide (a.E8=b.E8) && decide (a.Eg=b.Eg)
theorem Afv {a b:Log}:Apk a b=true↔a=b:=by
 obtain ⟨d,p,k⟩:=a;obtain ⟨d2,p2,k2⟩:=b;unfold Apk;simp only [aw,aF,Log.mk.injEq]
theorem As0 (a:Ha):Aw0 a a=true:=by unfold Aw0;simp
theorem Beq (a b:Log) (w:World):(Op.equalIn 10000 39 (.agg #[af a.Bj,af a.pending,aa a.count]) (.agg #[af b.Bj,af b.pending,aa b.count])).run prog w=.ok (Apk a b) w:=by
 have u2:=underlying9;have u3:=underlying3;have hS:prog.underlying 39=some (.struct (prog.fieldsOf 39)):=EY
 rw [show (10000:Nat)=9999+1 from rfl,run_equalIn_agg w 9999 39 _ _ hS EY];have a1:=Tryz.isAgg9;have a2:=Tryz.isAgg3;obtain ⟨d,p,k⟩:=a;obtain ⟨d2,p2,k2⟩:=b;simp only [Program.fieldsOf,underlying39]
 go_simp
 unfold Apk;simp only [ByteArray.toList_eq,Awm]
 repeat' split
 all_goals simp [*]
theorem Be3 (a b:Ha) (w:World):(Op.equalIn 10000 56 (.agg #[af a.E8,af a.Eg]) (.agg #[af b.E8,af b.Eg])).run prog w=.ok (Aw0 a b) w:=by
 have u2:=underlying9;have hS:prog.underlying 56=some (.struct (prog.fieldsOf 56)):=EY
 rw [show (10000:Nat)=9999+1 from rfl,run_equalIn_agg w 9999 56 _ _ hS EY];have a1:=Tryz.isAgg9;obtain ⟨d,p⟩:=a;obtain ⟨d2,p2⟩:=b;simp only [Program.fieldsOf,underlying56]
 go_simp
 unfold Aw0;simp only [ByteArray.toList_eq,Awm]
 repeat' split
 all_goals simp [*]
theorem Asc {n:Nat} {fr:Fr} {H:List Pc} {x y:Operand} {ty t':TypeId} {a b:Log} (hx:ev fr x=some (.agg #[af a.Bj,af a.pending,aa a.count])) (hy:ev fr y=some (.agg #[af b.Bj,af b.pending,aa b.count])):Yd prog n fr H (.binOp .eql 39 x y t') ty (.bool (Apk a b)):=.mk fun c w d pos Cd gd hA _=>by
 have h2:(eqGuard .eql 39 x y (.agg #[af a.Bj,af a.pending,aa a.count]) (.agg #[af b.Bj,af b.pending,aa b.count])).run prog w=.ok () w:=run_eqGuard_agg w _ _ _ _ _ _ EY;simp only [execOp,hA.ev hx,hA.ev hy,Sem.run_bind,h2,Result.andThen_ok,run_eql_struct,Beq,Sem.run_pure]
theorem Bc6 {n:Nat} {fr:Fr} {H:List Pc} {x y:Operand} {ty t':TypeId} {a b:Ha} (hx:ev fr x=some (.agg #[af a.E8,af a.Eg])) (hy:ev fr y=some (.agg #[af b.E8,af b.Eg])):Yd prog n fr H (.binOp .eql 56 x y t') ty (.bool (Aw0 a b)):=.mk fun c w d pos Cd gd hA _=>by
 have h2:(eqGuard .eql 56 x y (.agg #[af a.E8,af a.Eg]) (.agg #[af b.E8,af b.Eg])).run prog w=.ok () w:=run_eqGuard_agg w _ _ _ _ _ _ EY;simp only [execOp,hA.ev hx,hA.ev hy,Sem.run_bind,h2,Result.andThen_ok,run_eql_struct,Be3,Sem.run_pure]
theorem Agv {s:au} (h:s.size<=maxLen) (w:World):Cw A8 w [af s] [s] []:=⟨_,[],[],[],EX,EX,⟨rfl,h,rfl⟩,rfl,rfl⟩
theorem Ww {c:Cx} {fr:Fr} {H:List Pc} {Φ:Gl} {α:Type} {E:Bw α} {v:Value} {xs:List α} {F:aq} (h:∀a cp,v=ab a xs.length cp->xs.length<=cp->cp<=9223372036854775807->T c fr H Φ) (hm:.sl E v xs F∈H:=by exact Bn):T c fr H Φ:=.mk fun ac w s g=>by
 obtain ⟨-,hs⟩:=s.get hm;obtain ⟨a,cp,rfl⟩:=hs.slice;obtain ⟨-,h2,h3⟩:=hs.caps;exact (h a cp rfl h2 (by unfold maxLen at h3;omega)).h ac w s g
theorem Eh {c:Cx} {fr:Fr} {H:List Pc} {Φ:Gl} {α:Type} {E:Bw α} {t g:Nat} {cs:am} {xs:List α} {S:List Pc} (hfl:∀w,Cw E w cs xs []) (h:T c fr (.ow E t (ab (some ⟨g,0,none⟩) xs.length xs.length) xs [g]::S) Φ) (hl:xs.length<=1048576) (hp:C2 H (.row g t 0 [] cs []) S:=by exact Dr):T c fr H Φ:=.mk fun a w s g'=>by
 have s1:=s.pick hp;have hr:=(s1.on (.row g t 0 [] cs []) EX).2;have hlen:=(hfl w).len;refine h.h a w (s1.conv rfl ⟨EX,.inr ⟨g,xs.length,cs,[],[],rfl,GH,aK _,FC,by simpa using hlen,hfl w,rfl⟩⟩ IW) g'
theorem Bbg {P:Program} {f:FuncId} {args:am} {A:List Pc} {σ:Type} {C:σ->Prop} {v:σ->Value} {N:σ->Pc}
  (h:∀w,Od A w->Calls P f args.toArray w fun e w'=>∃s,C s/\e=.returned (v s)/\(N s).P w'/\(∀b∈(N s).F,w.heap.size<=b)/\Below w.heap.size w w'):Fn P f args A [] C v (fun s=>[N s]):=fun w hA _=>by
 refine (h w IV).mono ?_;rintro e w' ⟨s,hC,he,hN,hF,hB⟩;refine ⟨s,hC,he,I4 hN,⟨EX,trivial⟩,Ei.ofBelow hB,fun p hp b hb=>?_⟩;simp at hp;subst hp;exact .inl (hF b hb)
section
variable {P:Program} {n:Nat} {fr:Fr} {H:List Pc} {ty:TypeId} {x y z:Operand}
theorem We {t:TypeId} {s:au} {kd:IntKind} {i:Int} [hS:StrC P t] (hx:ev fr x=some (af s)) (hy:ev fr y=some (.int kd i)) (h0:0<=i) (h1:i<=s.size):Yd P n fr H (.slice t x (some y) none none) ty (af (s.extract i.toNat s.size)):=.mk fun a w d pos Cd g hA _=>by
 have h3:(Instr.sliceAt t (af s) (some (.int kd i)) none none).run P w=.ok (af (s.extract i.toNat s.size)) w:=by
  rw [run_sliceAt_string (h:=hS.u),run_slice_string_l (ht:=hS.u) (h0:=h0) (h1:=h1)]
 exact BK
theorem Adh {t:TypeId} {s:au} {kd:IntKind} {i:Int} [hS:StrC P t] (hx:ev fr x=some (af s)) (hy:ev fr y=some (.int kd i)) (h0:0<=i) (h1:i<=s.size):Yd P n fr H (.slice t x none (some y) none) ty (af (s.extract 0 i.toNat)):=.mk fun a w d pos Cd g hA _=>by
 have h3:(Instr.sliceAt t (af s) none (some (.int kd i)) none).run P w=.ok (af (s.extract 0 i.toNat)) w:=by
  rw [run_sliceAt_string (h:=hS.u),run_slice_string_h (ht:=hS.u) (h0:=h0) (h2:=h1)]
 exact BK
theorem Bf7 {t:TypeId} {s:au} {kd kd2:IntKind} {i j:Int} [hS:StrC P t] (hx:ev fr x=some (af s)) (hy:ev fr y=some (.int kd i)) (hz:ev fr z=some (.int kd2 j)) (h0:0<=i) (h1:i<=j) (h2:j<=s.size):Yd P n fr H (.slice t x (some y) (some z) none) ty (af (s.extract i.toNat j.toNat)):=.mk fun a w d pos Cd g hA _=>by
 have h3:(Instr.sliceAt t (af s) (some (.int kd i)) (some (.int kd2 j)) none).run P w=.ok (af (s.extract i.toNat j.toNat)) w:=by
  rw [run_sliceAt_string (h:=hS.u),run_slice_string (h:=hS.u) (h0:=h0) (h1:=h1) (h2:=h2)]
 simp only [execOp,cL,bV,hA.ev hx,hA.ev hy,hA.ev hz,Sem.run_bind,h3,Result.andThen_ok,Sem.run_pure]
end
section
variable {c:Cx} {fr:Fr} {H:List Pc} {k:List It} {Φ:Gl} {ops:Array Oper} {rest:List Oper} {d:Nat} {o:Op} {ty:TypeId} {v u:Value} {x y:Operand}
theorem Ap6 {t e m b:Nat} {z:Value} [hS:SlC c.P t e m] [hE:ElT c.P e z m b] (k:Nat) {kl kc:IntKind} {cs:am} (hd:Nat.blt d c.n=true) (hx:ev fr x=some (.int kl (k:Nat))) (hy:ev fr y=some (.int kc (k:Nat))) (hcs:madeCells z.cells (k * m)=cs.toArray) (hb:b * k<=281474976710656) (h63:k<=9223372036854775807)
  (h:∀g,T c ((d,ab (some ⟨g,0,none⟩) k k)::fr) (.row g e 0 [] cs []::H) Φ):On c fr H (some d) (.makeSlice t x y) ty Φ:=⟨fun _ _ _=>Pd fun Q a w s g=>by
 obtain ⟨i,hi,hiz⟩:=cu.1 hE.i;simp only [Prod.mk.injEq] at hiz;obtain ⟨i1,i2,i3⟩:=hiz;have hb':(i.bytes:Int) * ((k:Nat):Int)<=281474976710656:=by rw [i3];have:((b * k:Nat):Int)<=281474976710656:=EV;rwa [Int.natCast_mul] at this
 have hr:=run_make (P:=c.P) w t e i z hS.u hi i1 kl kc (k:Nat) (k:Nat) EV EV hb' EV;simp only [bc,i2,hcs] at hr;have e1:∀pos Cd gd,(execOp a.eval ⟨some d,.makeSlice t x y,ty,pos,Cd,gd⟩).run c.P w=.ok (.value (ab (some ⟨w.heap.size,0,none⟩) k k)) (w.alloc (.cells cs.toArray e)):=by
  intro pos Cd gd;simp [execOp,g.ev hx,g.ev hy,hr]
 rw [e1];exact (h _).h _ _ (s.new e cs) (g.put hd)⟩
theorem Ae0 {fo:Operand} {f:Nat} {caps:am} {aS:List Operand} {ts:Array TypeId} {vs:am} (hd:Nat.blt d c.n=true) (hf:ev fr fo=some (.func (.func f) #[] caps.toArray)) (hb:Q2 c.P f=true) (ha:Evs fr aS vs) (h:Cl c fr H d f (vs++caps) Φ):On c fr H (some d) (.call { callee:=.value fo,args:=aS.toArray,argTypes:=ts }) ty Φ:=⟨fun _ _ _=>Pd fun Q a w s g=>by
 have e:∀pos Cd gd,(execOp a.eval ⟨some d,.call { callee:=.value fo,args:=aS.toArray,argTypes:=ts },ty,pos,Cd,gd⟩).run c.P w=(callFunc f (vs++caps).toArray).run c.P w:=by
  intro pos Cd gd;simp [execOp,resolve,Deferred.ofValue,g.ev hf,invoke,g.evs ha]
 rw [e];obtain ⟨R,hc,hk⟩:=h.h w s;refine (Ve hb).upon hc fun e w' hR=>?_;obtain ⟨v,he,hv⟩:=hk e w' hR;exact ⟨v,he,hv _ (g.put hd)⟩⟩
theorem Ar8 {α:Type} {E:Bw α} {a:aj} {n cp:Nat} {xs:List α} {F:aq} (k:Nat) (h:∀F',T c fr (.sl E (.slice a (xs.take k).length cp) (xs.take k) F'::H) Φ) (hk:k<=xs.length) (hm:.sl E (ab a n cp) xs F∈H:=by exact Bn):T c fr H Φ:=.mk fun ac w s g=>by
 obtain ⟨hz,hs⟩:=s.get hm;obtain ⟨F',hF,h2⟩:=hs.takeS k hk;have hl:(xs.take k).length=k:=by simp [cW hk]
 have h':=h F';rw [hl] at h';exact h'.h _ w (s.ro hm rfl rfl ⟨hz,h2⟩ hF) g
end
end Go.Proofs.YtkoldibamfjghaaGreatDoor
