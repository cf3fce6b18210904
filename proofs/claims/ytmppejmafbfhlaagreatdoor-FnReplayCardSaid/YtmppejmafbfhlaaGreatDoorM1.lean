/- Part 1 of the proof: 26 texts, one behind the other. -/
import Derived.WalkKit
import Derived.Lib.Hide
import Derived.ProofKit
import Derived.OpenShut
import Derived.Deep.Draws
import Derived.Deep.AppendLies
import Derived.OwnWalk
import Derived.Deep.RegionHeld
import Derived.Deep.MidRow
import Derived.IntWalk
import Derived.Laws.Strings
import Derived.Lib.SliceRun
import Derived.Test.YtmppejmafbfhlaaGreatDoorProg
import Derived.Test.YtmppejmafbfhlaaGreatDoorRows
import Derived.WalkSpells
import Derived.WalkLawsBesides
import Derived.Deep.QuietTactic
import Derived.BigQuiet
import Derived.Deep.RegionHeld3
import Derived.Deep.OwnRows
import Derived.Laws.StructEq
open _root_.Go.Proofs.Tryz
set_option maxRecDepth 100000
set_option maxHeartbeats 8000000
set_option linter.all false
set_option linter.unusedVariables false
set_option linter.unusedSimpArgs false
namespace Go.Proofs.YtmppejmafbfhlaaGreatDoor
theorem BK{p:Prop}(h:p:=by simp only [execOp,cP,bW,hA.ev hx,hA.ev hy,Sem.run_bind,h3,Result.andThen_ok,Sem.run_pure]):p:=h
theorem DT{p:Prop}(h:p:=by exact ⟨rfl,rfl⟩):p:=h
theorem DV{p:Prop}(h:p:=by refine E7.start (S:=O8 H0) (X:=fun i=>X.contains i) hm ?_;have:=h.h a w.drew (s.below (Eu (Below.refl _ _) 1)) g;simpa [Gl.sem] using this):p:=h
theorem DZ{p:Prop}(h:p:=by simp only [Instr.loadAt,Instr.sureAddr,Sem.run_bind,Sem.run_pure,Result.andThen_ok,bT] at h1;simp [gj,f2,g.at_ _ _ hl,Gj,Agj,h1,ih]):p:=h
theorem EB{p:Prop}(h:p:=by simp only [execOp,hA.ev hx,hA.ev hy,eqGuard_at_bool,e,Sem.run_bind,Sem.run_pure,Result.andThen_ok,Agx];cases a <;> cases b <;> rfl):p:=h
theorem EI{p:Prop}(h:p:=by exact ⟨⟨k+1,by omega,by go_num,by refine Lib.hid ?_;rw [hz.out];rw [Af4] at h2;simp [Qk,h1,h2]⟩,by simp [intOf];omega⟩):p:=h
theorem EK{p:Prop}(h:p:=by subst hji;exact hy.wpOp hi hS ⟨fun _=>hS,H⟩):p:=h
theorem EV{p:Prop}(h:p:=by simpa using this):p:=h
theorem EY{p:Prop}(h:p:=by omega):p:=h
theorem EZ{p:Prop}(h:p:=by decide):p:=h
theorem FA{p:Prop}(h:p:=by simp):p:=h
theorem FB{p:Prop}(h:p:=by kernel_rfl):p:=h
theorem FC{p:Prop}(h:p:=by repeat (first|exact .here|apply C1.there)):p:=h
theorem FD{p:Prop}(h:p:=by exact Bp):p:=h
theorem FE{p:Prop}(h:p:=by unfold maxLen;omega):p:=h
theorem FF{p:Prop}(h:p:=by simp;omega):p:=h
theorem FG{p:Prop}(h:p:=by simp [hb]):p:=h
theorem FI{p:Prop}(h:p:=by simpa using h):p:=h
theorem FJ{p:Prop}(h:p:=by rw [aO];rfl):p:=h
theorem FL{p:Prop}(h:p:=by rfl):p:=h
theorem FR{p:Prop}(h:p:=by assumption):p:=h
theorem GB{p:Prop}(h:p:=by simp [hq]):p:=h
theorem GE{p:Prop}(h:p:=by rw [he2];exact hS.u):p:=h
theorem GF{p:Prop}(h:p:=by intro x hx;simp [Pc.F] at hx;subst hx;exact hb):p:=h
theorem GJ{p:Prop}(h:p:=by simp [intOf];omega):p:=h
theorem GL{p:Prop}(h:p:=by simpa using hr):p:=h
theorem GY{p:Prop}(h:p:=by simpa using hl):p:=h
theorem HE{p:Prop}(h:p:=by simpa using hj):p:=h
theorem HF{p:Prop}(h:p:=by simpa [List.filter,Pc.mu,fp,Pc.F] using hk):p:=h
theorem HK{p:Prop}(h:p:=by simp [hp]):p:=h
theorem HM{p:Prop}(h:p:=by (repeat (first|exact .here|apply C1.there));first|done|fail):p:=h
theorem HN{p:Prop}(h:p:=by simpa using h2):p:=h
theorem HO{p:Prop}(h:p:=by rw [h] at hr;cases hr):p:=h
theorem HR{p:Prop}(h:p:=by intro q hq b hb;simp at hq;subst hq;exact .inl (hF b hb)):p:=h
theorem HT{p:Prop}(h:p:=by go_num):p:=h
theorem HW{p:Prop}(h:p:=by simpa using s):p:=h
theorem HY{p:Prop}(h:p:=by simpa using h1):p:=h
theorem IA{p:Prop}(h:p:=by simpa using h3):p:=h
theorem ID{p:Prop}(h:p:=by simpa using hi):p:=h
theorem IE{p:Prop}(h:p:=by have:=s[k].toNat_lt;omega):p:=h
theorem IH{p:Prop}(h:p:=by simp [Program.elem,hS.u]):p:=h
theorem IJ{p:Prop}(h:p:=by simp [hx]):p:=h
theorem IS{p:Prop}(h:p:=by rw [aA];omega):p:=h
theorem IX{p:Prop}(h:p:=by simp [h.1]):p:=h
theorem IY{p:Prop}(h:p:=by simpa using hm):p:=h
theorem JB{p:Prop}(h:p:=by simp [hz]):p:=h
theorem JC{p:Prop}(h:p:=by intro q hq;simp at hq;subst hq;exact hv):p:=h
theorem JF{p:Prop}(h:p:=by simpa using hA):p:=h
theorem JG{p:Prop}(h:p:=by simp [Pc.F]):p:=h
theorem JK{p:Prop}(h:p:=by simp [hc]):p:=h
theorem JT{p:Prop}(h:p:=by simp [h]):p:=h
theorem KE{p:Prop}(h:p:=by rw [bV (by omega),show c1.length+j - c1.length=j by omega];exact hu):p:=h
end Go.Proofs.YtmppejmafbfhlaaGreatDoor
namespace Go.Proofs.YtmppejmafbfhlaaGreatDoor
open Go.RowKit
abbrev aa(n:Int):Value:=.int .i64 n
abbrev ab(a:Option Addr)(n c:Nat):Value:=.slice a n c
abbrev af(s:ByteArray):Value:=.string s
abbrev ai:=List ByteArray
abbrev aj:=Option Addr
abbrev am:=List Value
abbrev aq:=List Nat
abbrev ar:=List Int
abbrev au:=ByteArray
def av:=@decide_eq_true
def aw:=@Bool.and_eq_true
def ay:=@decide_eq_false
def aA:=@List.length_append
def aB:=@List.getElem_mem
def aC:=@if_neg
def aD:=@Nat.zero_le
def aE:=@List.getElem?_eq_getElem
def aF:=@decide_eq_true_eq
def aG:=@List.mem_cons
def aH:=@if_pos
def aJ:=@List.mem_append
def aK:=@Nat.le_refl
def aL:=@List.mem_singleton
def aM:=@List.append_assoc
def aN:=@ByteArray.size_append
def aO:=@List.getElem?_toArray
def aP:=@List.length_take
def aQ:=@List.mem_cons_of_mem
def aR:=@List.take_succ_eq_append_getElem
def aT:=@List.not_mem_nil
def aU:=@List.length_cons
def aV:=@List.take_of_length_le
def aW:=@List.all_eq_true
def aX:=@List.length_drop
def aY:=@List.length_nil
def aZ:=@List.nil_append
def ba:=@Int.toNat_natCast
def bc:=@List.append_nil
def be:=@Nat.lt_or_eq_of_le
def bf:=@List.length_map
def bg:=@List.setIfInBounds_toArray
def bh:=@List.pairwise_iff_getElem
def bi:=@List.length_replicate
def bj:=@List.take_length
def bl:=@List.getElem_of_mem
def bm:=@List.set_cons_zero
def bn:=@or_false
def bo:=@List.take_append_drop
def bp:=@List.getElem?_eq_none
def bq:=@List.set_cons_succ
def br:=@List.mem_of_mem_drop
def bt:=@List.getD_eq_getElem?_getD
def bu:=@List.length_eq_zero_iff
def bv:=@List.set_getElem_self
def bw:=@Bool.not_eq_true'
def bx:=@List.getElem?_append_left
def bA:=@Nat.lt_succ_iff
def bB:=@List.map_append
def bC:=@List.mem_or_eq_of_mem_set
def bD:=@List.eq_nil_of_length_eq_zero
def bE:=@Nat.le_trans
def bF:=@List.drop_eq_getElem_cons
def bG:=@List.length_set
def bH:=@List.getElem?_cons_succ
def bJ:=@Array.getElem?_eq_some_iff
def bK:=@List.mem_of_mem_take
def bL:=@List.mem_map
def bM:=@List.getElem?_cons_zero
def bN:=@List.length_filter_le
def bO:=@List.nodup_append
def bP:=@List.flatten_cons
def bQ:=@Bool.true_and
def bR:=@List.mem_filter
def bS:=@decide_eq_false_iff_not
def bT:=@Nat.add_zero
def bU:=@List.take_left'
def bV:=@List.getElem?_append_right
def bW:=@Option.map_some
def bX:=@Bool.or_eq_true
def bY:=@List.cons_append
def bZ:=@Bool.and_false
def cg:=@ByteArray.size_extract
def ci:=@List.mem_of_getElem?
def cj:=@List.filter_append
def cm:=@List.getElem?_eq_some_iff
def co:=@Nat.eq_zero_or_pos
def cu:=@Option.map_eq_some_iff
def cw:=@List.drop_drop
def cy:=@List.take_add_one
def cA:=@List.mem_append_left
def cB:=@List.any_eq_false
def cC:=@Nat.add_mul
def cD:=@Bool.eq_iff_iff
def cF:=@Nat.mul_le_mul_right
def cG:=@List.any_eq_true
def cH:=@Nat.zero_add
def cI:=@List.map_cons
def cJ:=@Bool.false_and
def cK:=@Nat.le_of_lt_succ
def cL:=@Decidable.not_not
def cM:=@true_and
def cN:=@List.flatten_append
def cO:=@and_true
def cP:=@Option.map_none
def cQ:=@List.mem_take_iff_getElem
def cR:=@List.mem_range
def cS:=@List.all_eq_false
def cT:=@List.length_pos_iff
def cU:=@List.replicate_succ
def cV:=@Nat.mul_one
def cW:=@List.map_toArray
def cX:=@List.length_filterMap_le
def cY:=@Nat.min_eq_left
def cZ:=@List.take_append_of_le_length
def de:=@List.getElem_set_ne
def dg:=@Option.bind_some
def dh:=@List.drop_zero
def di:=@List.map_nil
def dl:=@List.pairwise_cons
def dm:=@List.nodup_cons
def dp:=@ByteArray.data_append
def dr:=@List.singleton_append
def du:=@List.ext_getElem?
def dv:=@of_decide_eq_true
def dw:=@List.getLast?_eq_getElem?
def dy:=@Bool.or_eq_false_iff
def dz:=@Array.getElem?_eq_getElem
def dA:=@List.filter_eq_self
def dB:=@Int.natCast_nonneg
def dC:=@List.range_succ
def dD:=@List.length_modify
def dF:=@List.drop_left'
def dG:=@Nat.add_sub_cancel
def dH:=@List.getElem?_drop
def dI:=@Nat.lt_of_lt_of_le
def dJ:=@Array.getElem?_eq_none
def dK:=@List.getElem_drop
def dL:=@List.length_singleton
def dQ:=@Nat.lt_or_ge
def dR:=@Nat.pow_le_pow_right
def dS:=@List.pairwise_append
def dU:=@decide_eq_decide
def dV:=@List.all_cons
def dW:=@Array.getElem?_append_left
def dX:=@List.map_congr_left
def dY:=@List.all_append
def dZ:=@List.foldl_cons
def d9:=@Bool.false_eq_true
def ed:=@Nat.pow_succ
def ef:=@Array.setIfInBounds_comm
def eh:=@List.mem_filterMap
def ei:=@dif_pos
def ej:=@List.drop_left
def eu:=@List.not_all_eq_any_not
def ew:=@List.not_any_eq_all_not
def ex:=@List.filter_congr
def eC:=@List.foldl_append
def eD:=@List.drop_of_length_le
def eG:=@List.getElem?_set_self
def eH:=@Int.tmod_eq_emod
def eJ:=@List.take_append
def eK:=@List.getElem_map
def eL:=@List.findIdx_lt_length_of_exists
def eO:=@List.set_append_right
def eP:=@List.mem_append_right
def eQ:=@List.getElem_set_self
def eS:=@List.replicate_succ'
def eU:=@beq_iff_eq
def eV:=@List.eq_nil_iff_forall_not_mem
def eX:=@List.append_inj
def eY:=@Array.eq_empty_of_size_eq_zero
def eZ:=@List.map_map
def fe:=@List.dropWhile_cons
def ff:=@List.take_succ_cons
def fg:=@List.filter_sublist
def fh:=@List.replicate_zero
def fl:=@List.take_zero
def fm:=@List.foldl_nil
def fq:=@List.takeWhile_append_of_pos
def fu:=@List.dropWhile_append_of_pos
def fv:=@List.mem_replicate
def fw:=@decide_eq_true_iff
def fy:=@Array.getD_eq_getD_getElem?
def fz:=@ByteArray.ext
def fA:=@List.takeWhile_cons_of_pos
def fB:=@Nat.add_assoc
def fC:=@Bool.false_or
def fD:=@Int.tmod_eq_emod_of_nonneg
def fE:=@Bool.and_true
def fG:=@Int.tdiv_eq_ediv_of_nonneg
def fH:=@List.take_sublist
def fK:=@List.push_toArray
def fL:=@List.drop_sublist
def fM:=@List.size_toArray
def fN:=@List.mem_drop_iff_getElem
def fO:=@Array.ext'
def fP:=@List.getLastD_eq_getLast?
def fQ:=@Option.getD_some
def fS:=@List.getElem_append_left
def fT:=@Nat.sub_zero
def fU:=@List.getElem_set
def fV:=@List.filter_cons
def fW:=@Option.bind_eq_some_iff
def fZ:=@List.append_cancel_left
def f9:=@List.map_id
def gh:=@List.getElem_modify_eq
def gi:=@List.take_left
def gj:=@List.mapM_cons
def gl:=@List.perm_append_comm
def gm:=@List.findIdx_getElem
def gv:=@List.getElem?_modify
def gx:=@Array.replicate_zero
def gy:=@Array.replicate_succ
def gz:=@List.drop_nil
def gA:=@List.take_set_of_le
def gB:=@List.getElem_modify
def gD:=@List.drop_set_of_lt
def gE:=@List.takeWhile_cons
def gF:=@List.append_toArray
def gG:=@Bool.or_true
def gH:=@Nat.succ_mul
def gI:=@Int.lt_trans
def gJ:=@Int.le_refl
def gN:=@Nat.mul_add
def gO:=@Nat.one_mul
abbrev RB (b:Value) (w:World):Ending->World->Prop:=fun e w2=>e=.returned b/\Below w.heap.size w w2
end Go.Proofs.YtmppejmafbfhlaaGreatDoor
namespace Go.Proofs.YtmppejmafbfhlaaGreatDoor
open Go.RowKit
def kc {w w':World} {a:Addr} {v:Value} (hb:Below w.heap.size w w') (h:w.cell? a=some v):w'.cell? a=some v :=
 (hb.cell (World.block_lt_of_cell? w a h)).trans h
def kf {w w':World} {a:Addr} {v:Value} (hb:Below w.heap.size w w') (h:w.cell? a=some v):w'.frozen? a=w.frozen? a :=
 hb.frozen (World.block_lt_of_cell? w a h)
def tr {B:Nat} {w w1 w2:World} (h:Below B w w1) (h':Below w1.heap.size w1 w2) (hB:B<=w.heap.size):Below B w w2:=h.trans (h'.mono (bE hB h.size))
structure B8 (α:Type) where
 sz:Nat
 Mj:World->am->α->aq->Prop
 len:∀{w cs x F},Mj w cs x F->cs.length=sz
 lt:∀{w cs x F},Mj w cs x F->∀b∈F,b < w.heap.size
 frame:∀{w w':World} {cs x F},Mj w cs x F->(∀b∈F,w'.heap[b]?=w.heap[b]?)->Mj w' cs x F
def O0 {α:Type} (E:B8 α) (w:World) (b:Nat):Nat->List α->aq->Prop
 | _,[],F=>F=[]
 | off,x::r,F=>∃cs F1 F2,F=F1++F2/\E.Mj w cs x F1/\(∀j,j < E.sz->w.cell? ⟨b,off+j,none⟩=cs[j]?)/\O0 E w b (off+E.sz) r F2
def Sl {α:Type} (E:B8 α) (w:World) (v:Value) (xs:List α) (F:aq):Prop :=
 ∃a cap,v=ab a xs.length cap/\(xs.length<=cap/\cap<=maxLen) /\
  ((xs=[]/\F=[]/\(a=none->cap=0))\/∃b off F',a=some ⟨b,off,none⟩/\xs≠[]/\F=b::F'/\O0 E w b off xs F')
def O0.lt {α:Type} {E:B8 α} {w:World} {b:Nat}:∀{xs:List α} {off:Nat} {F:aq},O0 E w b off xs F->∀c∈F,c < w.heap.size
 | [],_,_,h=>by simp [O0] at h;simp [h]
 | _::r,_,_,h=>by
  obtain ⟨cs,F1,F2,rfl,h1,_,h2⟩:=h;intro c hc;rcases aJ.1 hc with hc|hc
  ·exact E.lt h1 c hc
  ·exact O0.lt h2 c hc
def O0.frame {α:Type} {E:B8 α} {w w':World} {b:Nat} (hb:w'.heap[b]?=w.heap[b]?):∀{xs:List α} {off:Nat} {F:aq},O0 E w b off xs F ->
  (∀c∈F,w'.heap[c]?=w.heap[c]?)->O0 E w' b off xs F
 | [],_,_,h,_=>h
 | _::r,_,_,h,hF=>by
  obtain ⟨cs,F1,F2,rfl,h1,hc,h2⟩:=h;refine ⟨cs,F1,F2,rfl,E.frame h1 fun c hc=>hF c JK,fun j hj=>?_,O0.frame hb h2 fun c hc=>hF c JK⟩;rw [World.cell?_of_block (w:=w) hb];exact hc j hj
def O0.get {α:Type} {E:B8 α} {w:World} {b:Nat}:∀{xs:List α} {off:Nat} {F:aq},O0 E w b off xs F->∀(i:Nat) (hi:i < xs.length),
  ∃cs F1,E.Mj w cs xs[i] F1/\(∀j,j < E.sz->w.cell? ⟨b,off+i * E.sz+j,none⟩=cs[j]?)/\∀c∈F1,c∈F
 | [],_,_,_,i,hi=>by simp at hi
 | x::r,off,_,h,0,_=>by
  obtain ⟨cs,F1,F2,rfl,h1,hc,h2⟩:=h;exact ⟨cs,F1,h1,by simpa using hc,fun c hc=>by simp [hc]⟩
 | x::r,off,_,h,i+1,hi=>by
  obtain ⟨cs,F1,F2,rfl,h1,hc,h2⟩:=h;obtain ⟨cs',F3,h3,hc3,hm⟩:=O0.get h2 i ID;refine ⟨cs',F3,IA,fun j hj=>?_,fun c hc=>by simp [hm c hc]⟩;rw [<-hc3 j hj,show off+(i+1) * E.sz+j=off+E.sz+i * E.sz+j by rw [cC];omega]
def O0.block {α:Type} {E:B8 α} {w:World} {b off:Nat} {xs:List α} {F:aq} (h:O0 E w b off xs F) (hne:xs≠[]) (hz:0 < E.sz):b < w.heap.size:=by
 cases xs with
 | nil=>exact absurd rfl hne
 | cons x r =>
  obtain ⟨cs,F1,F2,rfl,h1,hc,h2⟩:=h;have h0:=hc 0 hz;have hl:=E.len h1;rw [aE EY] at h0;exact World.block_lt_of_cell? w _ h0
def Sl.lt {α:Type} {E:B8 α} (hz:0 < E.sz) {w v xs F} (h:Sl E w v xs F):∀c∈F,c < w.heap.size:=by
 obtain ⟨a,cap,_,_,⟨_,rfl,_⟩|⟨b,off,F',_,hne,rfl,hc⟩⟩:=h
 ·simp
 ·intro c hm;rcases aG.1 hm with rfl|hm
  ·exact hc.block hne hz
  ·exact hc.lt c hm
def Sl.frame {α:Type} {E:B8 α} {w w':World} {v xs F} (h:Sl E w v xs F) (hF:∀b∈F,w'.heap[b]?=w.heap[b]?):Sl E w' v xs F:=by
 obtain ⟨a,cap,hv,hl,⟨h1,h2⟩|⟨b,off,F',h1,hne,rfl,hc⟩⟩:=h
 ·exact ⟨a,cap,hv,hl,.inl ⟨h1,h2⟩⟩
 ·exact ⟨a,cap,hv,hl,.inr ⟨b,off,F',h1,hne,rfl,hc.frame (hF b FA) fun c hc=>hF c JK⟩⟩
def Sl.below {α:Type} {E:B8 α} (hz:0 < E.sz) {w w':World} {v xs F} (h:Sl E w v xs F) (hb:Below w.heap.size w w'):Sl E w' v xs F :=
 h.frame fun c hc=>hb.block c (h.lt hz c hc)
def Bc:B8 Int where
 sz:=1
 Mj _ cs z F:=cs=[aa z]/\F=[]
 len h:=IX
 lt h:=by simp [h.2]
 frame h _:=h
def A9:B8 au where
 sz:=1
 Mj _ cs s F:=cs=[af s]/\s.size<=maxLen/\F=[]
 len h:=IX
 lt h:=by simp [h.2.2]
 frame h _:=h
def O7 {α:Type} (E:B8 α) (hz:0 < E.sz):B8 (List α) where
 sz:=1
 Mj w cs xs F:=∃v,cs=[v]/\Sl E w v xs F
 len h:=by obtain ⟨v,rfl,_⟩:=h;rfl
 lt h:=by obtain ⟨v,rfl,h⟩:=h;exact h.lt hz
 frame h hF:=by obtain ⟨v,rfl,h⟩:=h;exact ⟨v,rfl,h.frame hF⟩
def Bev:B8 Unit where
 sz:=0
 Mj _ cs _ F:=cs=[]/\F=[]
 len h:=IX
 lt h:=by simp [h.2]
 frame h _:=h
def Aw1 {α β:Type} (A:B8 α) (B:B8 β):B8 (α × β) where
 sz:=A.sz+B.sz
 Mj w cs x F:=∃c1 c2 F1 F2,cs=c1++c2/\F=F1++F2/\A.Mj w c1 x.1 F1/\B.Mj w c2 x.2 F2
 len h:=by obtain ⟨c1,c2,F1,F2,rfl,rfl,h1,h2⟩:=h;simp [A.len h1,B.len h2]
 lt h:=by
  obtain ⟨c1,c2,F1,F2,rfl,rfl,h1,h2⟩:=h;intro b hb;rcases aJ.1 hb with hb|hb
  ·exact A.lt h1 b hb
  ·exact B.lt h2 b hb
 frame h hF:=by
  obtain ⟨c1,c2,F1,F2,rfl,rfl,h1,h2⟩:=h;exact ⟨c1,c2,F1,F2,rfl,rfl,A.frame h1 fun b hb=>hF b FG,B.frame h2 fun b hb=>hF b FG⟩
def B8.comap {α β:Type} (B:B8 β) (f:α->β):B8 α where
 sz:=B.sz
 Mj w cs x F:=B.Mj w cs (f x) F
 len h:=B.len h
 lt h:=B.lt h
 frame h hF:=B.frame h hF
def B8.below {α:Type} (E:B8 α) {w w':World} {cs x F} (h:E.Mj w cs x F) (hb:Below w.heap.size w w'):E.Mj w' cs x F :=
 E.frame h fun c hc=>hb.block c (E.lt h c hc)
structure Bfk where
 Ev:au
 Fv:au
def Bho:B8 Bfk:=(Aw1 A9 (Aw1 A9 Bev)).comap fun x=>(x.Ev,x.Fv,())
def Bho.open {w cs x F} (h:Bho.Mj w cs x F):cs=[af x.Ev,af x.Fv]/\x.Ev.size<=maxLen/\x.Fv.size<=maxLen:=by
 obtain ⟨c1,c2,F1,F2,rfl,rfl,⟨rfl,h1,_⟩,c3,c4,F3,F4,rfl,rfl,⟨rfl,h2,_⟩,rfl,_⟩:=h;exact ⟨rfl,h1,h2⟩
end Go.Proofs.YtmppejmafbfhlaaGreatDoor
namespace Go.Proofs.YtmppejmafbfhlaaGreatDoor
open Go.ChangeShapes Go.WideShapes Go.ChangeAt Go.RowKit
def Aag {H:Type} {enc:TypeId × Value->H} {P:Program} (hl:laidOutB P=true) {W W':World} (hb:Below W.heap.size W W') :
  ∀(ts:List TypeId) (vs:am) (ds:List (DataW H)) (ps:List MemPlace),(∀t∈ts,P.readableRec t=true/\t < P.types.size) ->
   DataW.TrodAll enc P W 0 (fun _=>true) true ts vs ds ps->(∀x∈ps,x.block < W.heap.size)->DataW.TrodAll enc P W' 0 (fun b=>decide (b < W.heap.size)) true ts vs ds ps
 | [],vs,ds,ps,_,h,_=>by obtain ⟨rfl,rfl,rfl⟩:=trodAll_nil h;exact rfl
 | t::ts,vs,ds,ps,ht,h,hlt=>by
  obtain ⟨v,vs',d,ds',p,q,rfl,rfl,rfl,h1,h2⟩:=trodAll_cons h;have ⟨a,b⟩:=ht t FA;exact ⟨p,q,Below.trod hl a b h1 hb fun x hx=>hlt x IJ,Aag hl hb ts vs' ds' q (fun t h=>ht t JT) h2 fun x hx=>hlt x IJ,rfl⟩
def Ayz {H:Type} {enc:TypeId × Value->H} {P:Program} {f:Func} {s:ChangeSpec} {tb:TypeId} (hl:laidOutB P=true) (hr:∀t∈f.params.toList,P.readableRec t=true/\t < P.types.size)
  (hb:P.underlying tb=some .bool) (hres:f.resultTypes = #[tb]) (hv:s.vars=[]) {W W':World} {args:Array Value} {ds gs:List (DataW H)} {before:List MemPlace}
  (hs:s.fn H ds={ results:=[.lit (.bool true)],args:=ds }) (hW:DataW.Whole enc P f.params.toList s.vars false W args.toList ds gs before) (hB:Below W.heap.size W W') :
  s.post enc P f false true false false W args (.bool true) W':=by
 have hlt:=hW.lt;have hW0:=hW;obtain ⟨p,q,hA,hV,rfl,_,_⟩:=hW0;rw [hv] at hV;obtain ⟨rfl,rfl⟩:=trodVars_none hV;refine ⟨ds,[],p++[],[],p,[],hW,?_,?_,?_,hB.frame _,fun h=>by cases h⟩
 ·rw [bc,hs,hres];exact trodAll_mk1 (shut_bool hb true)
 ·rw [bc,hs];exact Aag hl hB _ _ _ _ hr hA fun x hx=>hlt x (by simpa using hx)
 ·rw [hv,bc,hs];exact rfl
def Am8 (P:Program) {α:Type} (E:B8 α) (t:TypeId):Prop :=
 ∀{H:Type} {enc:TypeId × Value->H} {w:World} {fuel:Nat} {cs:am} {x:DataW H × List MemPlace},DataW.trod enc P w 0 (fun _=>true) true fuel t cs=some x->∃y F,E.Mj w cs y F
section
variable {P:Program}
def Ae4 {α:Type} {E:B8 α} {e:TypeId} (hsz:P.cellsOf e=E.sz) (he:Am8 P E e) {H:Type} {enc:TypeId × Value->H} {w:World} {n b off:Nat} :
  ∀(els:List (DataW H × List MemPlace)) (k:Nat),(∀i,i < els.length->(w.cells? 0 ((⟨b,off,none⟩:Addr).add ((k+i) * P.cellsOf e)) (P.cellsOf e)).bind (DataW.trod enc P w 0 (fun _=>true) true n e)=els[i]?) ->
   ∃ys F,ys.length=els.length/\O0 E w b (off+k * E.sz) ys F
 | [],_,_=>⟨[],[],rfl,rfl⟩
 | x::r,k,h=>by
  have h0:=h 0 FA;simp only [bT,bM,fW] at h0;obtain ⟨cs,hc,hx⟩:=h0;obtain ⟨y,F1,hy⟩:=he hx;obtain ⟨ys,F2,hl,hys⟩:=Ae4 hsz he r (k+1) fun i hi=>by
   have:=h (i+1) ID;rw [show k+1+i=k+(i+1) by omega];exact EV
  refine ⟨y::ys,F1++F2,by simp [hl],cs,F1,F2,rfl,hy,fun j hj=>?_,by rwa [show off+k * E.sz+E.sz=off+(k+1) * E.sz by rw [cC];omega]⟩;obtain ⟨_,hlen,hcell⟩:=World.cells?_some hc;rw [<-hcell j (by rw [hsz];exact hj)]
  congr 1
  simp only [Addr.add,hsz]
  split <;> split <;> simp_all <;> omega
def Ao6 {α:Type} {E:B8 α} {t e:TypeId} (ht:P.underlying t=some (.slice e)) (hsz:P.cellsOf e=E.sz) (hz:0 < E.sz) (he:Am8 P E e):Am8 P (O7 E hz) t:=fun h=>by
 rcases DataW.trod_slice ht h with ⟨rfl,_⟩|⟨a,len,cap,elems,rest,n,rfl,rfl,_,_,hlc,hcm,hlen,hel,_,_⟩
 ·exact ⟨[],[],_,rfl,none,0,rfl,⟨FA,FA⟩,.inl ⟨rfl,rfl,fun _=>rfl⟩⟩
 ·by_cases h0:len=0
  ·subst h0;exact ⟨[],[],_,rfl,some a,cap,rfl,⟨FA,EY⟩,.inl ⟨rfl,rfl,fun e=>by cases e⟩⟩
  ·have hs:a=⟨a.block,a.off,none⟩:=by
    have:=hel 0 EY;rw [aE EY] at this;simp only [fW] at this;obtain ⟨cs,hc,_⟩:=this;obtain ⟨_,hl2,hcell⟩:=World.cells?_some hc;have h1:=hcell 0 EY;rw [aE EY] at h1;simp [Addr.add,World.cell?] at h1
    split at h1 <;> simp_all
    cases a;simp_all
   obtain ⟨ys,F,hyl,hys⟩:=Ae4 hsz he elems 0 (n:=n) (b:=a.block) (off:=a.off) (enc:=_) (w:=_) (by
    rw [<-hs];intro i hi;rw [cH];exact hel i EY)
   refine ⟨ys,a.block::F,_,rfl,some a,cap,by rw [hyl,hlen],⟨EY,EY⟩,.inr ⟨a.block,a.off,F,by rw [<-hs],?_,rfl,by simpa using hys⟩⟩;intro e;rw [e] at hyl;simp at hyl;omega
end
inductive Aga (P:Program):List Field->Nat->(α:Type)->B8 α->Prop
 | nil (off:Nat):Aga P [] off Unit Bev
 | cons {f:Field} {r:List Field} {off:Nat} {α β:Type} {A:B8 α} {B:B8 β} (ho:f.offset=off) (hc:P.cellsOf f.type=A.sz) (hA:Am8 P A f.type) (h:Aga P r (off+A.sz) β B):Aga P (f::r) off (α × β) (Aw1 A B)
end Go.Proofs.YtmppejmafbfhlaaGreatDoor
namespace Go.Proofs.YtmppejmafbfhlaaGreatDoor
open Go.RowKit
structure Ek (F:aq) (w w':World):Prop where
 os:w'.os=w.os
 tape:w'.tape=w.tape
 output:w'.output=w.output
 size:w.heap.size<=w'.heap.size
 block:∀k,k < w.heap.size->k ∉ F->w'.heap[k]?=w.heap[k]?
def Ek.refl (F:aq) (w:World):Ek F w w:=⟨rfl,rfl,rfl,aK _,fun _ _ _=>rfl⟩
def Ek.trans {F:aq} {a b c:World} (h:Ek F a b) (k:Ek F b c):Ek F a c :=
 ⟨k.os.trans h.os,k.tape.trans h.tape,k.output.trans h.output,bE h.size k.size,fun i hi hf=>(k.block i (dI hi h.size) hf).trans (h.block i hi hf)⟩
def Ek.mono {F G:aq} {a b:World} (h:Ek F a b) (hs:∀x∈F,x < a.heap.size->x∈G):Ek G a b :=
 ⟨h.os,h.tape,h.output,h.size,fun k hk hg=>h.block k hk fun hf=>hg (hs k hf hk)⟩
def Ek.ofBelow {F:aq} {w w':World} (h:Below w.heap.size w w'):Ek F w w':=⟨h.os,h.tape,h.output,h.size,fun k hk _=>h.block k hk⟩
def Ek.below {F:aq} {w w':World} {B:Nat} (h:Ek F w w') (hB:B<=w.heap.size) (hF:∀b∈F,B<=b):Below B w w' :=
 ⟨h.os,h.tape,h.output,h.size,fun k hk=>h.block k EY fun hf=>by have:=hF k hf;omega⟩
def Ek.setCell {F:aq} {w w':World} (h:Ek F w w') {p:Addr} (hp:p.block∈F) (u:Value):Ek F w (w'.setCell p u) :=
 h.trans ⟨rfl,rfl,rfl,by simp [World.setCell],fun k _ hf=>Below.heap_setCell _ _ _ _ (fun e=>hf (e▸hp))⟩
def Ek.alloc {F:aq} {w w':World} (h:Ek F w w') (o:Obj):Ek F w (w'.alloc o) :=
 h.trans ⟨rfl,rfl,rfl,FA,fun k hk _=>Below.heap_alloc _ _ _ hk⟩
def Ek.drewN {F:aq} {w w':World} (h:Ek F w w') (n:Nat):Ek F w (w'.drewN n):=⟨h.os,h.tape,h.output,h.size,h.block⟩
def Ek.cell {F:aq} {w w':World} (h:Ek F w w') {a:Addr} {v:Value} (ha:a.block ∉ F) (hc:w.cell? a=some v):w'.cell? a=some v :=
 (World.cell?_of_block (w:=w) (h.block a.block (World.block_lt_of_cell? w a hc) ha)).trans hc
def Eu {B:Nat} {a w:World} (h:Below B a w) (n:Nat):Below B a (w.drewN n):=⟨h.os,h.tape,h.output,h.size,h.block⟩
def Ip (w:World) (g:Nat) (t:TypeId) (cs:am):Prop:=w.heap[g]?=some (.cells cs.toArray t (0,0))
def Ip.lt {w g t cs} (h:Ip w g t cs):g < w.heap.size:=by
 rcases dQ g w.heap.size with h1|h1
 ·exact h1
 ·rw [Ip,dJ h1] at h;simp at h
def Ip.cell {w g t cs} (h:Ip w g t cs) (j:Nat):w.cell? ⟨g,j,none⟩=cs[j]?:=by
 simp [World.cell?,show w.heap[g]?=_ from h]
def Ip.frozen {w g t cs} (h:Ip w g t cs) (j:Nat):w.frozen? ⟨g,j,none⟩=false:=by
 simp [World.frozen?,show w.heap[g]?=_ from h]
def Ip.Je {w w' g t cs} (h:Ip w g t cs) (e:w'.heap[g]?=w.heap[g]?):Ip w' g t cs:=e.trans h
def Ip.below {w w' g t cs} (h:Ip w g t cs) (hb:Below w.heap.size w w'):Ip w' g t cs:=h.Je (hb.block g h.lt)
def Ip.set {w g t cs} (h:Ip w g t cs) (j:Nat) (u:Value):Ip (w.setCell ⟨g,j,none⟩ u) g t (cs.set j u):=by
 have h':w.heap[g]?=_:=h;simp [Ip,World.setCell,Array.getElem?_modify,h']
def Ip.setOther {w g t cs} (h:Ip w g t cs) {p:Addr} (hp:p.block≠g) (u:Value):Ip (w.setCell p u) g t cs :=
 h.Je (Below.heap_setCell _ _ _ _ (fun e=>hp e.symm))
def Ip.cells {w g t cs} (h:Ip w g t cs):∀j,w.cell? ⟨g,j,none⟩=cs[j]?:=h.cell
def Ip.frozens {w g t cs} (h:Ip w g t cs):∀j,w.frozen? ⟨g,j,none⟩=false:=h.frozen
def Ip.made (w:World) (t:TypeId) (cs:am):Ip (w.alloc (.cells cs.toArray t)) w.heap.size t cs:=heap_alloc_new w _
def Ip.alloc {w g t cs} (h:Ip w g t cs) (o:Obj):Ip (w.alloc o) g t cs:=h.Je (Below.heap_alloc _ _ _ h.lt)
def Jr (w:World) (o:Obj) (g:Nat) (t:TypeId) (cs:am):Ip (w.alloc o) g t cs↔if g=w.heap.size then o=.cells cs.toArray t (0,0) else Ip w g t cs:=by
 unfold Ip;show (w.heap.push o)[g]?=_↔_;rw [Array.getElem?_push]
 split <;> simp
def Cw {α:Type} (E:B8 α) (w:World):am->List α->aq->Prop
 | cs,[],G=>cs=[]/\G=[]
 | cs,x::r,G=>∃c1 c2 F1 F2,cs=c1++c2/\G=F1++F2/\E.Mj w c1 x F1/\Cw E w c2 r F2
section
variable {α:Type} {E:B8 α}
def Cw.len {w:World}:∀{xs:List α} {cs:am} {G:aq},Cw E w cs xs G->cs.length=xs.length * E.sz
 | [],_,_,h=>by simp [h.1]
 | x::r,_,_,h=>by
  obtain ⟨c1,c2,F1,F2,rfl,rfl,h1,h2⟩:=h;rw [aA,E.len h1,h2.len,aU,cC];omega
def Cw.lt {w:World}:∀{xs:List α} {cs:am} {G:aq},Cw E w cs xs G->∀b∈G,b < w.heap.size
 | [],_,_,h=>by simp [h.2]
 | x::r,_,_,h=>by
  obtain ⟨c1,c2,F1,F2,rfl,rfl,h1,h2⟩:=h;intro b hb;rcases aJ.1 hb with hb|hb
  ·exact E.lt h1 b hb
  ·exact h2.lt b hb
def Cw.frame {w w':World}:∀{xs:List α} {cs:am} {G:aq},Cw E w cs xs G->(∀b∈G,w'.heap[b]?=w.heap[b]?)->Cw E w' cs xs G
 | [],_,_,h,_=>h
 | x::r,_,_,h,hG=>by
  obtain ⟨c1,c2,F1,F2,rfl,rfl,h1,h2⟩:=h;exact ⟨c1,c2,F1,F2,rfl,rfl,E.frame h1 fun b hb=>hG b FG,h2.frame fun b hb=>hG b FG⟩
def Cw.append {w:World}:∀{xs ys:List α} {cs ds:am} {G H:aq},Cw E w cs xs G->Cw E w ds ys H->Cw E w (cs++ds) (xs++ys) (G++H)
 | [],_,_,_,_,_,h,k=>by obtain ⟨rfl,rfl⟩:=h;simpa using k
 | x::r,_,_,_,_,_,h,k=>by
  obtain ⟨c1,c2,F1,F2,rfl,rfl,h1,h2⟩:=h;exact ⟨c1,_,F1,_,by rw [aM],by rw [aM],h1,h2.append k⟩
def Cw.one {w:World} {x:α} {cs:am} {G:aq} (h:E.Mj w cs x G):Cw E w cs [x] G:=⟨cs,[],G,[],FA,FA,h,rfl,rfl⟩
def Cw.split {w:World}:∀{xs ys:List α} {cs:am} {G:aq},Cw E w cs (xs++ys) G->∃c1 c2 G1 G2,cs=c1++c2/\G=G1++G2/\Cw E w c1 xs G1/\Cw E w c2 ys G2
 | [],_,cs,G,h=>⟨[],cs,[],G,rfl,rfl,⟨rfl,rfl⟩,h⟩
 | x::r,_,_,_,h=>by
  obtain ⟨c1,c2,F1,F2,rfl,rfl,h1,h2⟩:=h;obtain ⟨d1,d2,G1,G2,rfl,rfl,h3,h4⟩:=h2.split;exact ⟨c1++d1,d2,F1++G1,G2,FA,FA,⟨c1,d1,F1,G1,rfl,rfl,h1,h3⟩,h4⟩
def Cw.focus {w:World} {xs:List α} {cs:am} {G:aq} (h:Cw E w cs xs G) (i:Nat) (hi:i < xs.length) :
  ∃A c B G1 Fi G2,cs=A++c++B/\G=G1++Fi++G2/\A.length=i * E.sz/\c.length=E.sz/\Cw E w A (xs.take i) G1/\E.Mj w c xs[i] Fi/\Cw E w B (xs.drop (i+1)) G2:=by
 have e:xs=xs.take i++xs[i]::xs.drop (i+1):=FA
 rw [e] at h;obtain ⟨A,c2,G1,G2,rfl,rfl,h1,c,B,F1,F2,rfl,rfl,h2,h3⟩:=h.split;exact ⟨A,c,B,G1,F1,F2,FA,FA,by rw [h1.len,aP,cY EY],E.len h2,h1,h2,h3⟩
def Cw.build {w:World} {xs:List α} {A c B:am} {G1 Fi G2:aq} {i:Nat} (hi:i < xs.length) {x:α} (h1:Cw E w A (xs.take i) G1) (h2:E.Mj w c x Fi) (h3:Cw E w B (xs.drop (i+1)) G2) :
  Cw E w (A++c++B) (xs.set i x) (G1++Fi++G2):=by
 have e:xs.set i x=xs.take i++[x]++xs.drop (i+1):=by
  rw [List.set_eq_take_append_cons_drop];simp [hi]
 rw [e];exact (h1.append (Cw.one h2)).append h3
def Ow (E:B8 α) (t:TypeId) (w:World) (v:Value) (xs:List α) (F:aq):Prop :=
 (v=ab none 0 0/\xs=[]/\F=[]) \/
 ∃g cap cs rest G,v=ab (some ⟨g,0,none⟩) xs.length cap/\Ip w g t (cs++rest)/\xs.length<=cap/\cap<=maxLen/\cs.length+rest.length=cap * E.sz/\Cw E w cs xs G/\F=g::G
def Ow.lt {t:TypeId} {w v} {xs:List α} {F} (h:Ow E t w v xs F):∀b∈F,b < w.heap.size:=by
 rcases h with ⟨_,_,rfl⟩|⟨g,cap,cs,rest,G,_,hr,_,_,_,hf,rfl⟩
 ·simp
 ·intro b hb;rcases aG.1 hb with rfl|hb
  ·exact hr.lt
  ·exact hf.lt b hb
def Ow.frame {t:TypeId} {w w':World} {v} {xs:List α} {F} (h:Ow E t w v xs F) (hF:∀b∈F,w'.heap[b]?=w.heap[b]?):Ow E t w' v xs F:=by
 rcases h with h|⟨g,cap,cs,rest,G,hv,hr,h1,h2,h3,hf,rfl⟩
 ·exact .inl h
 ·exact .inr ⟨g,cap,cs,rest,G,hv,hr.Je (hF g FA),h1,h2,h3,hf.frame fun b hb=>hF b FG,rfl⟩
def Ow.below {t:TypeId} {w w':World} {v} {xs:List α} {F} (h:Ow E t w v xs F) (hb:Below w.heap.size w w'):Ow E t w' v xs F :=
 h.frame fun b h'=>hb.block b (h.lt b h')
def Ow.Je {t:TypeId} {w w':World} {v} {xs:List α} {F K} (h:Ow E t w v xs F) (hk:Ek K w w') (hd:∀b∈F,b ∉ K):Ow E t w' v xs F :=
 h.frame fun b h'=>hk.block b (h.lt b h') (hd b h')
def Ow.setFar {t:TypeId} {w:World} {v} {xs:List α} {F} (h:Ow E t w v xs F) {p:Addr} (hp:p.block ∉ F) (u:Value):Ow E t (w.setCell p u) v xs F :=
 h.frame fun b hb=>Below.heap_setCell _ _ _ _ fun e=>hp (e▸hb)
def Ow.len {t:TypeId} {w v} {xs:List α} {F} (h:Ow E t w v xs F):xs.length<=maxLen:=by
 rcases h with ⟨_,rfl,_⟩|⟨g,cap,cs,rest,G,_,_,h1,h2,_⟩
 ·simp
 ·omega
def Ow.slice {t:TypeId} {w v} {xs:List α} {F} (h:Ow E t w v xs F):∃a cap,v=ab a xs.length cap:=by
 rcases h with ⟨rfl,rfl,_⟩|⟨g,cap,cs,rest,G,rfl,_⟩
 ·exact ⟨none,0,rfl⟩
 ·exact ⟨_,_,rfl⟩
def Ow.focus {t:TypeId} {w v} {xs:List α} {F} (h:Ow E t w v xs F) (i:Nat) (hi:i < xs.length) :
  ∃g cap A c B G1 Fi G2,v=ab (some ⟨g,0,none⟩) xs.length cap/\Ip w g t (A++c++B)/\A.length=i * E.sz/\c.length=E.sz/\E.Mj w c xs[i] Fi/\F=g::(G1++Fi++G2) /\
   (∀b∈G1++G2,b < w.heap.size) /\
   ∀w' c' x' Fi',Ip w' g t (A++c'++B)->E.Mj w' c' x' Fi'->(∀b∈G1++G2,w'.heap[b]?=w.heap[b]?)->Ow E t w' v (xs.set i x') (g::(G1++Fi'++G2)):=by
 rcases h with ⟨_,rfl,_⟩|⟨g,cap,cs,rest,G,rfl,hr,h1,h2,h3,hf,rfl⟩
 ·simp at hi
 ·obtain ⟨A,c,B,G1,Fi,G2,rfl,rfl,hA,hc,hfA,hx,hfB⟩:=hf.focus i hi
  refine ⟨g,cap,A,c,B++rest,G1,Fi,G2,rfl,GL,hA,hc,hx,rfl,?_,?_⟩
  ·intro b hb;rcases aJ.1 hb with hb|hb
   ·exact hfA.lt b hb
   ·exact hfB.lt b hb
  ·intro w' c' x' Fi' hr' hx' hG;refine .inr ⟨g,cap,A++c'++B,rest,G1++Fi'++G2,FA,by simpa using hr',HY,h2,?_,?_,rfl⟩
   ·have:=E.len hx';simp only [aA] at h3 ⊢;omega
   ·exact Cw.build hi (hfA.frame fun b hb=>hG b FG) hx' (hfB.frame fun b hb=>hG b FG)
structure M9 {α:Type} (O R:B8 α):Prop where
 sz:O.sz=R.sz
 Mj:∀{w cs x F},O.Mj w cs x F->∃F',(∀b∈F',b∈F)/\R.Mj w cs x F'
def M9.refl {α:Type} (E:B8 α):M9 E E:=⟨rfl,fun h=>⟨_,fun _ h=>h,h⟩⟩
def Ow.sl {O R:B8 α} (hW:M9 O R) {t:TypeId} {w v} {xs:List α} {F} (h:Ow O t w v xs F):∃F',(∀b∈F',b∈F)/\Sl R w v xs F':=by
 have key:∀(xs:List α) (cs:am) (G:aq) (g off:Nat),Cw O w cs xs G->(∀j,j < cs.length->w.cell? ⟨g,off+j,none⟩=cs[j]?)->∃G',(∀b∈G',b∈G)/\O0 R w g off xs G':=by
  intro xs
  induction xs with
  | nil=>intro cs G g off h _;exact ⟨[],FA,rfl⟩
  | cons x r ih =>
   intro cs G g off h hc;obtain ⟨c1,c2,F1,F2,rfl,rfl,h1,h2⟩:=h;have hl:=O.len h1;have hs:=hW.sz;obtain ⟨F1',hs1,hr1⟩:=hW.Mj h1;obtain ⟨F2',hs2,hr2⟩:=ih c2 F2 g (off+R.sz) h2 fun j hj=>by
    have:=hc (c1.length+j) FF;rw [bV EY,show c1.length+j - c1.length=j by omega] at this;rw [<-this,show off+R.sz+j=off+(c1.length+j) by omega]
   refine ⟨F1'++F2',fun b hb=>?_,c1,F1',F2',rfl,hr1,fun j hj=>?_,hr2⟩
   ·rcases aJ.1 hb with hb|hb
    ·simp [hs1 b hb]
    ·simp [hs2 b hb]
   ·rw [hc j FF,bx EY]
 have hl:=h.len;rcases h with ⟨rfl,rfl,rfl⟩|⟨g,cap,cs,rest,G,rfl,hrow,h1,h2,h3,hf,rfl⟩
 ·exact ⟨[],FA,none,0,rfl,FA,.inl ⟨rfl,rfl,fun _=>rfl⟩⟩
 ·by_cases h0:xs=[]
  ·subst h0;exact ⟨[],FA,some ⟨g,0,none⟩,cap,rfl,⟨FA,h2⟩,.inl ⟨rfl,rfl,fun e=>by cases e⟩⟩
  ·obtain ⟨G',hG,hc⟩:=key xs cs G g 0 hf fun j hj=>by rw [cH,hrow.cell,bx hj]
   exact ⟨g::G',fun b hb=>by rcases aG.1 hb with rfl|hb;simp;simp [hG b hb],_,cap,rfl,⟨h1,h2⟩,.inr ⟨g,0,G',rfl,h0,rfl,hc⟩⟩
def Ow.read {t:TypeId} {w v} {xs:List α} {F} (h:Ow E t w v xs F):∃F',(∀b∈F',b∈F)/\Sl E w v xs F':=by
 exact h.sl (M9.refl E)
end
def M9.slice {α:Type} {O R:B8 α} (h:M9 O R) (hz:0 < R.sz) (t:TypeId) {w v} {xs:List α} {F} (ho:Ow O t w v xs F):∃F',(∀b∈F',b∈F)/\(O7 R hz).Mj w [v] xs F':=by
 obtain ⟨F',h1,h2⟩:=ho.sl h;exact ⟨F',h1,v,rfl,h2⟩
def J0 {α:Type} (E:B8 α) (t:TypeId):B8 (List α) where
 sz:=1
 Mj w cs xs F:=∃v,cs=[v]/\Ow E t w v xs F
 len h:=by obtain ⟨v,rfl,_⟩:=h;rfl
 lt h:=by obtain ⟨v,rfl,h⟩:=h;exact h.lt
 frame h hF:=by obtain ⟨v,rfl,h⟩:=h;exact ⟨v,rfl,h.frame hF⟩
def Bd5 (A c B:am) (j:Nat) (hj:j < c.length) (u:Value):(A++c++B).set (A.length+j) u=A++c.set j u++B:=by
 rw [aM,eO _ _ EY,show A.length+j - A.length=j by omega,List.set_append_left _ _ hj,aM]
def Ip.setMid {w g t} {A c B:am} (h:Ip w g t (A++c++B)) {p j:Nat} (hp:p=A.length+j) (hj:j < c.length) (u:Value):Ip (w.setCell ⟨g,p,none⟩ u) g t (A++c.set j u++B):=by
 subst hp;rw [<-Bd5 _ _ _ _ hj];exact h.set _ u
def Ip.cellMid {w g t} {A c B:am} (h:Ip w g t (A++c++B)) {p j:Nat} (hp:p=A.length+j) (hj:j < c.length):w.cell? ⟨g,p,none⟩=c[j]?:=by
 subst hp;rw [h.cell,aM,bV EY,show A.length+j - A.length=j by omega,bx hj]
def Oj (w:World) (g:Nat):Nat->am->World
 | _,[]=>w
 | p,u::r=>Oj (w.setCell ⟨g,p,none⟩ u) g (p+1) r
def Ip.put {g t}:∀(c' c:am) {w:World} {A B:am} {p:Nat},Ip w g t (A++c++B)->p=A.length->c'.length=c.length->Ip (Oj w g p c') g t (A++c'++B)
 | [],[],_,_,_,_,h,_,_=>h
 | u::r,d::c,w,A,B,p,h,hp,hl=>by
  have h1:=h.setMid (p:=p) (j:=0) EY FA u;simp only [bm] at h1;have h2:=Ip.put r c (w:=w.setCell ⟨g,p,none⟩ u) (A:=A++[u]) (B:=B) (p:=p+1) HY FF GY;simpa [Oj] using h2
 | [],_::_,_,_,_,_,_,_,hl=>by simp at hl
 | _::_,[],_,_,_,_,_,_,hl=>by simp at hl
def Ok {g:Nat}:∀(c:am) (w:World) (p:Nat) (b:Nat),b≠g->(Oj w g p c).heap[b]?=w.heap[b]?
 | [],_,_,_,_=>rfl
 | _::r,_,_,b,hb=>(Ok r _ _ b hb).trans (Below.heap_setCell _ _ _ _ hb)
def Mi {g:Nat}:∀(c:am) (w:World) (p:Nat),Ek [g] w (Oj w g p c)
 | [],w,_=>Ek.refl _ w
 | u::r,w,p=>((Ek.refl [g] w).setCell (p:=⟨g,p,none⟩) FA u).trans (Mi r _ _)
def Ow.put {α:Type} {E:B8 α} {t:TypeId} {w:World} {g n cap:Nat} {xs:List α} {F:aq} (h:Ow E t w (ab (some ⟨g,0,none⟩) n cap) xs F) (hn:F.Nodup) (i:Nat) (hi:i < xs.length) :
  g∈F/\(∀j,j < E.sz->(∃u,w.cell? ⟨g,i * E.sz+j,none⟩=some u)/\w.frozen? ⟨g,i * E.sz+j,none⟩=false) /\
  ∀c' x' F',E.Mj w c' x' F'->F'.Nodup->(∀b∈F',b ∉ F)->∃F2,Ow E t (Oj w g (i * E.sz) c') (ab (some ⟨g,0,none⟩) n cap) (xs.set i x') F2/\F2.Nodup/\∀b∈F2,b∈F\/b∈F':=by
 obtain ⟨g',cp,A,c,B,G1,Fi,G2,hv,hrow,hA,hcl,hx,rfl,hlt,back⟩:=h.focus i hi
 simp only [Value.slice.injEq,Option.some.injEq,Addr.mk.injEq] at hv;obtain ⟨⟨rfl,_⟩,rfl,rfl⟩:=hv;have hnd:g ∉ G1++G2:=fun hm=>by simp at hn hm;rcases hm with hm|hm <;> simp [hm] at hn
 refine ⟨FA,fun j hj=>⟨⟨c[j]'EY,by rw [hrow.cellMid (j:=j) EY EY,aE]⟩,hrow.frozen _⟩,fun c' x' F' hx' hn' hd=>⟨g::(G1++F'++G2),?_,?_,?_⟩⟩
 ·have hl:=E.len hx';have hg:g ∉ F':=fun e=>hd g e FA;exact back _ c' x' F' (hrow.put c' c EY EY) (E.frame hx' fun b hb=>Ok _ _ _ _ fun e=>hg (e▸hb)) fun b hb=>Ok _ _ _ _ fun e=>hnd (e▸hb)
 ·have hd1:∀b∈F',b≠g/\b ∉ G1/\b ∉ G2:=fun b hb=>by have:=hd b hb;simp at this;exact ⟨this.1,this.2.1,this.2.2.2⟩
  simp only [dm,bO,aJ,not_or] at hn ⊢;obtain ⟨⟨⟨h1,h2⟩,h3⟩,⟨h4,h5,h6⟩,h7,h8⟩:=hn;refine ⟨⟨⟨h1,fun e=>(hd1 g e).1 rfl⟩,h3⟩,⟨h4,hn',fun a ha b hb e=>(hd1 b hb).2.1 (e▸ha)⟩,h7,fun a ha b hb=>?_⟩;rcases ha with ha|ha
  ·exact h8 a (.inl ha) b hb
  ·exact fun e=>(hd1 a ha).2.2 (e▸hb)
 ·intro b hb;simp at hb ⊢;rcases hb with hb|hb|hb|hb <;> simp [hb]
def Ow.head {α:Type} {E:B8 α} {t:TypeId} {w:World} {a:aj} {n cap:Nat} {xs:List α} {F:aq} (h:Ow E t w (ab a n cap) xs F) (i:Nat) (hi:i < xs.length):∃g,a=some ⟨g,0,none⟩:=by
 obtain ⟨g,cp,A,c,B,G1,Fi,G2,hv, -⟩:=h.focus i hi
 simp only [Value.slice.injEq] at hv;exact ⟨g,hv.1⟩
def Oi (z:Array Value) (n:Nat):(madeCells z (n * z.size)).toList=(List.replicate n z.toList).flatten:=by
 apply du;intro p;by_cases hz:z.size=0
 ·have:z = #[]:=eY hz;subst this;simp [madeCells]
 ·have hlen:∀m,((List.replicate m z.toList).flatten).length=m * z.size:=fun m=>by simp
  by_cases hp:p < n * z.size
  ·have h1:(madeCells z (n * z.size)).toList[p]?=some z[p % z.size]!:=by simp [madeCells,hp]
   rw [h1];have hq:p / z.size < n:=Nat.div_lt_of_lt_mul (by rwa [Nat.mul_comm]);have e:List.replicate n z.toList=List.replicate (p / z.size) z.toList++z.toList::List.replicate (n - p / z.size - 1) z.toList:=by
    rw [<-cU,List.replicate_append_replicate];congr 1;omega
   have hd:=Nat.div_add_mod p z.size;have hm:=Nat.mod_lt p (Nat.pos_of_ne_zero hz);rw [Nat.mul_comm] at hd;rw [e,cN,bP,bV (by rw [hlen];omega),hlen,show p - p / z.size * z.size=p % z.size by omega,bx IY];simp [hm]
  ·rw [bp (by simp [madeCells];omega),bp (by rw [hlen];omega)]
def Ow.made {α:Type} {E:B8 α} {t:TypeId} (w:World) (z:Array Value) (n:Nat) (x:α) (hsz:z.size=E.sz) (hz:∀w,E.Mj w z.toList x []) (hn:n<=maxLen) :
  Ow E t (w.alloc (.cells (madeCells z (n * E.sz)) t)) (ab (some ⟨w.heap.size,0,none⟩) n n) (List.replicate n x) [w.heap.size]:=by
 have hf:∀(w:World) (m:Nat),Cw E w (List.replicate m z.toList).flatten (List.replicate m x) []:=by
  intro w m
  induction m with
  | zero=>exact ⟨rfl,rfl⟩
  | succ m ih=>exact ⟨z.toList,_,[],[],by rw [cU,bP],rfl,hz w,ih⟩
 refine .inr ⟨w.heap.size,n,(madeCells z (n * E.sz)).toList,[],[],FA,?_,FA,hn,?_,?_,rfl⟩
 ·simp only [bc,Ip];exact heap_alloc_new w _
 ·rw [<-hsz,Oi];simp
 ·rw [<-hsz,Oi];exact hf _ _
def Qr {α:Type} {O R:B8 α} (h:M9 O R) (hz:0 < R.sz) (t:TypeId):M9 (J0 O t) (O7 R hz):=⟨rfl,fun hh=>by
 obtain ⟨v,rfl,ho⟩:=hh;exact h.slice hz t ho⟩
def Sl.at {α:Type} {E:B8 α} {w:World} {a:aj} {n cap:Nat} {xs:List α} {F} (h:Sl E w (ab a n cap) xs F) (k:Nat) (hk:k < xs.length) :
  ∃b off cs F1,a=some ⟨b,off,none⟩/\E.Mj w cs xs[k] F1/\(∀c∈F1,c∈F)/\∀j,j < E.sz->w.cell? ⟨b,off+k * E.sz+j,none⟩=cs[j]?:=by
 obtain ⟨a',cap',hv,hl,h⟩:=h;cases hv;rcases h with ⟨rfl,_⟩|⟨b,off,F',rfl,_,rfl,hc⟩
 ·simp at hk
 ·obtain ⟨cs,F1,h1,hj,hm⟩:=hc.get k hk;exact ⟨b,off,cs,F1,rfl,h1,fun c hc=>by simp [hm c hc],hj⟩
def Sl.slice {α:Type} {E:B8 α} {w v} {xs:List α} {F} (h:Sl E w v xs F):∃a cap,v=ab a xs.length cap:=by
 obtain ⟨a,cap,h,_⟩:=h;exact ⟨a,cap,h⟩
def Sl.len {α:Type} {E:B8 α} {w v} {xs:List α} {F} (h:Sl E w v xs F):xs.length<=maxLen:=by
 obtain ⟨a,cap,_,h,_⟩:=h;omega
def Sl.caps {α:Type} {E:B8 α} {w} {a:aj} {n cap:Nat} {xs:List α} {F} (h:Sl E w (ab a n cap) xs F):n=xs.length/\n<=cap/\cap<=maxLen:=by
 obtain ⟨a',cap',hv,h,_⟩:=h;cases hv;exact ⟨rfl,h⟩
def Su {α:Type} (E:B8 α) (w:World) (v:Value) (x:α) (F:aq):Prop:=∃cs:am,v=.agg cs.toArray/\E.Mj w cs x F
def Su.below {α:Type} {E:B8 α} {w w':World} {v x F} (h:Su E w v x F) (hb:Below w.heap.size w w'):Su E w' v x F:=by
 obtain ⟨cs,hv,h⟩:=h;exact ⟨cs,hv,E.below h hb⟩
def Axf {α:Type} (E:B8 α) (x:α) (w:World) (e:Ending) (w':World):Prop :=
 ∃v F,e=.returned v/\Su E w' v x F/\F.Nodup/\(∀b∈F,w.heap.size<=b)/\Below w.heap.size w w'
def X4 {α:Type} (E:B8 α) (t:TypeId) (xs:List α) (w:World) (e:Ending) (w':World):Prop :=
 ∃v F,e=.returned v/\Ow E t w' v xs F/\F.Nodup/\(∀b∈F,w.heap.size<=b)/\Below w.heap.size w w'
def Ip.keepK {w w' g t cs F} (h:Ip w g t cs) (hk:Ek F w w') (hg:g ∉ F):Ip w' g t cs:=h.Je (hk.block g h.lt hg)
structure Zw (P:Program) (f:FuncId):Prop where
 ok:∃fn,P.funcs[f]?=some fn/\(fn.name == "runtime.NumGoroutine")=false/\fn.body.isNone=false
def Zw.mk' {P:Program} {f:FuncId} {fn:Func} (h:P.funcs[f]?=some fn) (h1:(fn.name == "runtime.NumGoroutine")=false) (h2:fn.body.isNone=false):Zw P f:=⟨fn,h,h1,h2⟩
def Zw.run {P:Program} {f:FuncId} (h:Zw P f) (args:Array Value) (w:World):(callFunc f args).run P w=.ok (.enter f args) w:=by
 obtain ⟨fn,h0,h1,h2⟩:=h.ok;have h1':¬fn.name = "runtime.NumGoroutine" := by simpa using h1
 have h2':¬fn.body=none:=fun e=>by rw [e] at h2;simp at h2
 simp [callFunc,program,Sem.run,h0,h1',h2',bind,Sem.bind,pure]
def Zw.upon {P:Program} {f:FuncId} (h:Zw P f) {o:Oper} {a:Act} {K:Act->World->Prop} {Q:Exit->Act->World->Prop} {args:Array Value} {w:World} {R:Ending->World->Prop}
  (hc:Calls P f args w R) (hr:∀e w',R e w'->∃v,e=.returned v/\K (a.put o.dst v) w'):Oper.upon P o a K Q ((callFunc f args).run P w):=by
 rw [h.run,Oper.upon_enter];exact hc.mono fun e w' hR=>by obtain ⟨v,rfl,hk⟩:=hr e w' hR;exact hk
def IsC {α:Type} (E:B8 α) (w:World) (v:Value) (x:α) (F:aq):Prop:=∃u,v=u/\E.Mj w [u] x F
def Si {α:Type} (p:α->Bool) (xs:List α):Int:=if xs.any p then (xs.findIdx p:Int) else -1
def Pi {α:Type} {p:α->Bool} {xs:List α} {k:Nat} (hk:k < xs.length) (h0:∀j,j < k->∀hj:j < xs.length,p xs[j]=false) (h1:p xs[k]=true):Si p xs=k:=by
 have h:xs.findIdx p=k:=by
  rw [List.findIdx_eq hk];exact ⟨h1,fun j hj=>h0 j hj EY⟩
 have ha:xs.any p=true:=cG.2 ⟨xs[k],aB _,h1⟩;unfold Si;rw [aH ha,h]
def No {α:Type} {p:α->Bool} {xs:List α} (h0:∀j,∀hj:j < xs.length,p xs[j]=false):Si p xs=-1:=by
 unfold Si;rw [aC];intro ha;obtain ⟨x,hx,hp⟩:=cG.1 ha;obtain ⟨i,hi,rfl⟩:=bl hx;rw [h0 i hi] at hp;simp at hp
def Ty {α:Type} (p:α->Bool) (xs:List α):decide (0<=Si p xs)=xs.any p:=by
 unfold Si;cases h:xs.any p <;> simp
def Pr (p:Nat->Bool) (n:Nat):Bool:=(List.range n).all p
def Ks {p:Nat->Bool} {n:Nat} (h:∀i,i < n->p i=true):Pr p n=true:=by simp [Pr];exact h
def Md {p:Nat->Bool} {n k:Nat} (hk:k < n) (h:p k=false):Pr p n=false:=by
 rw [Bool.eq_false_iff];intro ha;simp [Pr] at ha;rw [ha k hk] at h;simp at h
def J8 {p:Nat->Bool} {n:Nat} (h:Pr p n=true) (i:Nat) (hi:i < n):p i=true:=by simp [Pr] at h;exact h i hi
def V3 {p:Nat->Bool} {k:Nat} (h:∀i,i < k->p i=true) (hk:p k=true):∀i,i < k+1->p i=true:=fun i hi=>by
 rcases be (cK hi) with h'|rfl
 ·exact h i h'
 ·exact hk
def Ys {P:Program} {f:FuncId} {args:Array Value} {w:World} {n:Nat} {v:Value}
  (h:Calls P f args (w.drewN n) fun e w'=>e=.returned v/\w.drewN n=w'):Calls P f args (w.drewN n) fun e w''=>e=.returned v/\∃m,w''=w.drewN m :=
 h.mono fun _ _ ⟨he,hm⟩=>⟨he,n,hm.symm⟩
def Bjk {α:Type} (f:α->Nat) (xs:List α) (k:Nat):Nat:=((xs.take k).map f).sum
def Asq {α:Type} (mk:Int->α->α) (cnt:α->Nat):Int->List α->List α
 | _,[]=>[]
 | k,x::r=>mk k x::Asq mk cnt (k+cnt x) r
def Bjc {α:Type} (cnt:α->Nat) (xs:List α):Nat:=(xs.map cnt).sum
def One {α:Type} (E:B8 α):Prop:=∀{w cs x F},E.Mj w cs x F->∀u∈cs,u.oneCell'=true
def C7:One Bc:=fun h u hu=>by obtain ⟨rfl,_⟩:=h;simp at hu;subst hu;rfl
def D7:One A9:=fun h u hu=>by obtain ⟨rfl,_⟩:=h;simp at hu;subst hu;rfl
def Sl.one {α:Type} {E:B8 α} {w v} {xs:List α} {F} (h:Sl E w v xs F):v.oneCell'=true:=by obtain ⟨a,c,rfl,_⟩:=h;rfl
def Ow.one {α:Type} {E:B8 α} {t w v} {xs:List α} {F} (h:Ow E t w v xs F):v.oneCell'=true:=by obtain ⟨a,c,rfl⟩:=h.slice;rfl
def Bdm {α:Type} (E:B8 α) (hz:0 < E.sz):One (O7 E hz):=fun h u hu=>by obtain ⟨v,rfl,h⟩:=h;simp at hu;subst hu;exact h.one
def Cw.one' {α:Type} {E:B8 α} (hE:One E) {w:World}:∀{xs:List α} {cs:am} {G:aq},Cw E w cs xs G->∀u∈cs,u.oneCell'=true
 | [],_,_,h=>by simp [h.1]
 | x::r,_,_,h=>by
  obtain ⟨c1,c2,F1,F2,rfl,rfl,h1,h2⟩:=h;intro u hu;rcases aJ.1 hu with hu|hu
  ·exact hE h1 u hu
  ·exact h2.one' hE u hu
def O0.flat {α:Type} {E:B8 α} {w:World} {b:Nat}:∀{xs:List α} {off:Nat} {F:aq},O0 E w b off xs F->∃cs,Cw E w cs xs F/\∀j u,cs[j]?=some u->w.cell? ⟨b,off+j,none⟩=some u
 | [],off,_,h=>⟨[],⟨rfl,h⟩,fun j u hu=>by simp at hu⟩
 | x::r,off,_,h=>by
  obtain ⟨c1,F1,F2,rfl,h1,hc,h2⟩:=h;obtain ⟨c2,hf,hc2⟩:=h2.flat;have hl:=E.len h1;refine ⟨c1++c2,⟨c1,c2,F1,F2,rfl,rfl,h1,hf⟩,fun j u hu=>?_⟩;rcases dQ j c1.length with hj|hj
  ·rw [bx hj] at hu;rw [hc j EY];exact hu
  ·rw [bV hj] at hu;have:=hc2 _ _ hu;rw [<-this];congr 2;omega
def Cw.cells {α:Type} {E:B8 α} {w:World} {b:Nat}:∀{xs:List α} {cs:am} {off:Nat} {F:aq},Cw E w cs xs F->(∀j u,cs[j]?=some u->w.cell? ⟨b,off+j,none⟩=some u)->O0 E w b off xs F
 | [],_,off,_,h,_=>h.2
 | x::r,_,off,_,h,hc=>by
  obtain ⟨c1,c2,F1,F2,rfl,rfl,h1,h2⟩:=h;have hl:=E.len h1;refine ⟨c1,F1,F2,rfl,h1,fun j hj=>?_,h2.cells fun j u hu=>?_⟩
  ·have:j < c1.length:=EY
   rw [aE this];exact hc j _ (by rw [bx this,aE this])
  ·have:=hc (c1.length+j) u KE;rw [<-this];congr 2;omega
def Hd (F:aq):Prop:=∀g G,F=g::G->g ∉ G
def Hd.of {F:aq} (h:F.Nodup):Hd F:=fun g G e=>by subst e;simp at h;exact h.1
def Ow.owns {α:Type} {E:B8 α} {t w v} {xs:List α} {F} (h:Ow E t w v xs F):∃cs G,w.ownsRow 0 t E.sz v xs.length cs/\Cw E w cs xs G/\F=v.ownBlock.toList++G:=by
 rcases h with ⟨rfl,rfl,rfl⟩|⟨g,cap,cs,rest,G,rfl,hr,h1,h2,h3,hf,rfl⟩
 ·exact ⟨[],[],⟨FA,.inl ⟨rfl,rfl⟩⟩,⟨rfl,rfl⟩,rfl⟩
 ·refine ⟨cs,G,⟨hf.len,.inr ⟨g,cap,(cs++rest).toArray,rfl,aD _,hr,h1,h2,by simp [h3],?_⟩⟩,hf,rfl⟩;rw [<-hf.len];simp
def Ow.ofOwns {α:Type} {E:B8 α} {t w v n} {cs:am} {xs:List α} {G} (h:w.ownsRow 0 t E.sz v n cs) (hf:Cw E w cs xs G) (hn:n=xs.length):Ow E t w v xs (v.ownBlock.toList++G):=by
 subst hn;obtain ⟨hl,h⟩:=h;rcases h with ⟨rfl,h0⟩|⟨g,cap,cur,rfl,_,hg,h1,h2,h3,h4⟩
 ·have:xs=[]:=bD h0;subst this;exact .inl ⟨rfl,rfl,by rw [hf.2];rfl⟩
 ·refine .inr ⟨g,cap,cs,cur.toList.drop cs.length,G,rfl,?_,h1,h2,?_,hf,rfl⟩
  ·have:cs++cur.toList.drop cs.length=cur.toList:=by
    rw [hl,<-h4];simp
   rw [this];exact hg
  ·rw [<-h3];simp;rw [hl];have:=cF E.sz h1;omega
def Aox {w:World} {t v n sz} {cs:am} (h:w.ownsRow 0 t sz v n cs):∀b,v.ownBlock=some b->b < w.heap.size:=by
 intro b hb;rcases h.2 with ⟨rfl,_⟩|⟨g,cap,cur,rfl,_,hg,_⟩
 ·cases hb
 ·cases hb;rcases dQ g w.heap.size with hlt|hge
  ·exact hlt
  ·rw [dJ hge] at hg;cases hg
section
variable {P:Program} {α:Type} {E:B8 α}
structure Apd (E:B8 α) (e:TypeId) (w:World) (v:Value) (xs ys:List α) (F Fy:aq) (v':Value) (w':World) (F':aq):Prop where
 ow:Ow E e w' v' (xs++ys) F'
 hd:Hd F'
 Aza:F.Nodup->Fy.Nodup->(∀b∈Fy,b ∉ F)->F'.Nodup
 mem:∀b∈F',b∈F\/b∈Fy\/b=w.heap.size
 Je:Ek F w w'
 Asn:Ek v.ownBlock.toList w w'
 val:∃a cap,v'=ab a (xs.length+ys.length) cap
 Arl:v'.ownBlock=v.ownBlock\/v'.ownBlock=some w.heap.size
 Bje:∀Gx,F=v.ownBlock.toList++Gx->F'=v'.ownBlock.toList++(Gx++Fy)
def Axp {e:TypeId} {w:World} {v:Value} {xs ys:List α} {F Fy:aq} {v' w'} {cs news G} (hown:w.ownsRow 0 e E.sz v xs.length cs) (hf:Cw E w cs xs G) (hF:F=v.ownBlock.toList++G) (hd:Hd F)
  (hfy:Cw E w news ys Fy) (hdis:∀b∈Fy,v.ownBlock≠some b) (h':w'.ownsRow 0 e E.sz v' (xs.length+ys.length) (cs++news)) (hg:w.grownBy w' v.ownBlock)
  (hb:v'.ownBlock=v.ownBlock\/v'.ownBlock=some w.heap.size) (hs:∃a cap,v'=ab a (xs.length+ys.length) cap):∃F',Apd E e w v xs ys F Fy v' w' F':=by
 have hGn:∀b∈G,v.ownBlock≠some b:=fun b hb e=>by
  rw [e] at hF;exact hd b G hF hb
 have hfr:∀b,b < w.heap.size->v.ownBlock≠some b->w'.heap[b]?=w.heap[b]?:=fun b hb hn=>hg.block b hb (fun e=>hn e.symm);have hfl:Cw E w' (cs++news) (xs++ys) (G++Fy):=(hf.frame fun b hb=>hfr b (hf.lt b hb) (hGn b hb)).append (hfy.frame fun b hb=>hfr b (hfy.lt b hb) (hdis b hb));have hvl:=Aox hown;have hhead:∀g,v'.ownBlock=some g->g ∉ G/\g ∉ Fy:=fun g e=>by
  rcases hb with hb|hb
  ·rw [hb] at e;exact ⟨fun hm=>hGn g hm e,fun hm=>hdis g hm e⟩
  ·rw [hb] at e;cases e;exact ⟨fun hm=>Nat.lt_irrefl _ (hf.lt _ hm),fun hm=>Nat.lt_irrefl _ (hfy.lt _ hm)⟩
 refine ⟨v'.ownBlock.toList++(G++Fy),Ow.ofOwns h' hfl FA,?_,?_,?_,?_,⟨hg.os,hg.tape,hg.output,hg.size,fun k hk hm=>hfr k hk fun e=>hm (by rw [e];simp)⟩,hs,hb,fun Gx e=>by rw [hF] at e;rw [fZ e]⟩
 ·intro g G' e;cases hv:v'.ownBlock with
  | none =>
   have hxy:xs++ys=[]:=by
    rcases h'.2 with ⟨rfl,h0⟩|⟨g,cap,cur,rfl,_⟩
    ·exact bD IS
    ·simp [Value.ownBlock] at hv
   rw [hxy] at hfl;rw [hfl.2,hv] at e;simp at e
  | some g2 =>
   rw [hv] at e;simp at e;obtain ⟨rfl,rfl⟩:=e;have:=hhead g2 hv;simp [this]
 ·intro h1 h2 h3;subst hF;have hn:(G++Fy).Nodup:=by
   rw [bO] at h1 ⊢;exact ⟨h1.2.1,h2,fun a ha b hb e=>h3 b hb (by rw [<-e];simp [ha])⟩
  cases hv:v'.ownBlock with
  | none=>simpa using hn
  | some g2=>have:=hhead g2 hv;simp only [Option.toList_some,dr,dm,aJ];exact ⟨by simp [this],hn⟩
 ·intro b hm;simp at hm;rcases hm with hm|hm|hm
  ·rcases hb with hb|hb
   ·rw [hb] at hm;left;rw [hF];simp [hm]
   ·rw [hb] at hm;cases hm;simp
  ·left;rw [hF];simp [hm]
  ·simp [hm]
 ·exact ⟨hg.os,hg.tape,hg.output,hg.size,fun k hk hm=>hfr k hk fun e=>hm (by rw [hF,e];simp)⟩
def Ar6 (hone:One E) (hsz:0 < E.sz) {o:Oper} {a:Act} {K:Act->World->Prop} {Q:Exit->Act->World->Prop} {w:World} (s x:Operand) (t:TypeId)
  (ho:o.op=.call { callee:=.builtin .append,args:=#[s,x],argTypes:=#[t,t] }) (e:TypeId) (z:Value) (bytes:Nat) (ht:P.underlying t=some (.slice e))
  (hinfo:(P.info? e).map (fun i=>(i.zero,i.size,i.bytes))=some (some z,E.sz,bytes)) (hzs:z.cells.size=E.sz)
  (v:Value) (xs:List α) (F:aq) (hs:a.eval s=v) (hown:Ow E e w v xs F) (hd:Hd F)
  (ao:aj) (ys:List α) (c:Nat) (hx:a.eval x=ab ao ys.length c) (news:am) (Fy:aq) (hfy:Cw E w news ys Fy)
  (hsrc:(ao=none/\c=0/\ys=[])\/∃ad,ao=some ad/\∀j u,news[j]?=some u->w.cell? (ad.add j)=some u)
  (hdis:∀b∈Fy,v.ownBlock≠some b) (h63:xs.length+ys.length<=maxLen) (hbytes:(xs.length+ys.length) * bytes<=140737488355328)
  (h:∀v' w' F',Apd E e w v xs ys F Fy v' w' F'->K (a.put o.dst v') w'):o.wp P a w K Q:=by
 obtain ⟨i,hi,hzz⟩:=cu.1 hinfo;simp only [Prod.mk.injEq] at hzz;obtain ⟨hz,hsize,hby⟩:=hzz;obtain ⟨cs,G,hrow,hf,hF⟩:=hown.owns;rcases hsrc with ⟨rfl,rfl,rfl⟩|⟨ad,rfl,hnews⟩
 ·have hn0:news=[]:=hfy.1;subst hn0;unfold Oper.wp execOp;simp only [ho,resolve,invoke,builtin,Sem.run_bind,Sem.run_pure,Result.andThen_ok,cW,cI,di,hs,hx];have hrun:=run_append_owned_none (P:=P) w 0 t o.type e i E.sz ht hi _ xs.length cs hrow;rw [show ([]:List α).length=0 from rfl,hrun];obtain ⟨F',hA⟩:=Axp (ys:=[]) hrow hf hF hd hfy hdis (by simpa using hrow) (World.grownBy.refl _ _) (.inl rfl) (by obtain ⟨a,c,rfl⟩:=hown.slice;exact ⟨a,c,FA⟩);exact h _ _ _ hA
 ·obtain ⟨v',w',hr,h2,h3,h4,h5⟩:=run_append_own_at (P:=P) w 0 t o.type e i z E.sz bytes ht hi hz hsize hby hzs hsz v xs.length cs hrow ad ys.length c news hfy.len hnews (hfy.one' hone) h63 hbytes (aD _);unfold Oper.wp execOp;simp only [ho,resolve,invoke,builtin,Sem.run_bind,Sem.run_pure,Result.andThen_ok,cW,cI,di,hs,hx,hr];have hs2:∃a cap,v'=ab a (xs.length+ys.length) cap:=by
   rcases h2.2 with ⟨rfl,h0⟩|⟨g,cap,cur,rfl,_⟩
   ·exact ⟨none,0,by rw [h0]⟩
   ·exact ⟨_,_,rfl⟩
  obtain ⟨F',hA⟩:=Axp (ys:=ys) hrow hf hF hd hfy hdis h2 h3 h5 hs2;exact h _ _ _ hA
def Pw (hone:One E) (hsz:0 < E.sz) {ops:Array Oper} {rest:List Oper} {o:Oper} {a:Act} {Q:Exit->Act->World->Prop} {w:World} (hgd:o.guard=none) (s x:Operand) (t:TypeId)
  (ho:o.op=.call { callee:=.builtin .append,args:=#[s,x],argTypes:=#[t,t] }) (e:TypeId) (z:Value) (bytes:Nat) (ht:P.underlying t=some (.slice e))
  (hinfo:(P.info? e).map (fun i=>(i.zero,i.size,i.bytes))=some (some z,E.sz,bytes)) (hzs:z.cells.size=E.sz)
  (v:Value) (xs:List α) (F:aq) (hs:a.eval s=v) (hown:Ow E e w v xs F) (hd:Hd F)
  (ao:aj) (ys:List α) (c:Nat) (hx:a.eval x=ab ao ys.length c) (news:am) (Fy:aq) (hfy:Cw E w news ys Fy)
  (hsrc:(ao=none/\c=0/\ys=[])\/∃ad,ao=some ad/\∀j u,news[j]?=some u->w.cell? (ad.add j)=some u)
  (hdis:∀b∈Fy,v.ownBlock≠some b) (h63:xs.length+ys.length<=maxLen) (hbytes:(xs.length+ys.length) * bytes<=140737488355328)
  (h:∀v' w' F',Apd E e w v xs ys F Fy v' w' F'->wpList P ops Q rest (a.put o.dst v') w'):wpList P ops Q (o::rest) a w :=
 wpList_plain hgd fun _ hK=>Ar6 hone hsz s x t ho e z bytes ht hinfo hzs v xs F hs hown hd ao ys c hx news Fy hfy hsrc hdis h63 hbytes fun v' w' F' hA=>hK _ _ (h v' w' F' hA)
def Apk (hone:One E) (hsz:0 < E.sz) {ops:Array Oper} {o:Oper} {a:Act} {K:Act->World->Prop} {Q:Exit->Act->World->Prop} {Z:Prop} {w:World} (hgd:o.guard=none) (s x:Operand) (t:TypeId)
  (ho:o.op=.call { callee:=.builtin .append,args:=#[s,x],argTypes:=#[t,t] }) (e:TypeId) (z:Value) (bytes:Nat) (ht:P.underlying t=some (.slice e))
  (hinfo:(P.info? e).map (fun i=>(i.zero,i.size,i.bytes))=some (some z,E.sz,bytes)) (hzs:z.cells.size=E.sz)
  (v:Value) (xs:List α) (F:aq) (hs:a.eval s=v) (hown:Ow E e w v xs F) (hd:Hd F)
  (ao:aj) (ys:List α) (c:Nat) (hx:a.eval x=ab ao ys.length c) (news:am) (Fy:aq) (hfy:Cw E w news ys Fy)
  (hsrc:(ao=none/\c=0/\ys=[])\/∃ad,ao=some ad/\∀j u,news[j]?=some u->w.cell? (ad.add j)=some u)
  (hdis:∀b∈Fy,v.ownBlock≠some b) (h63:xs.length+ys.length<=maxLen) (hbytes:(xs.length+ys.length) * bytes<=140737488355328)
  (h:∀v' w' F',Apd E e w v xs ys F Fy v' w' F'->K (a.put o.dst v') w'):if Region.wanted o (yielded ops a.tmps)=true then Oper.wp P o a w K Q else Z:=by
 have hw:Region.wanted o (yielded ops a.tmps)=true:=by simp [Region.wanted,hgd]
 rw [aH hw];exact Ar6 hone hsz s x t ho e z bytes ht hinfo hzs v xs F hs hown hd ao ys c hx news Fy hfy hsrc hdis h63 hbytes h
end
def Ow.own_mem {α:Type} {E:B8 α} {t w v} {xs:List α} {F} (h:Ow E t w v xs F):∀b,v.ownBlock=some b->b∈F:=fun b hb=>by
 obtain ⟨cs,G,_,_,rfl⟩:=h.owns;simp [hb]
def Bhq {α:Type} (E:B8 α) (x:α) (w:World) (e:Ending) (w':World):Prop :=
 ∃v F,e=.returned v/\Su E w' v x F/\(∀b∈F,w.heap.size<=b)/\Below w.heap.size w w'
def Su.weak {α:Type} {O R:B8 α} (h:M9 O R) {w v x F} (ho:Su O w v x F):∃F',(∀b∈F',b∈F)/\Su R w v x F':=by
 obtain ⟨cs,hv,hx⟩:=ho;obtain ⟨F',h1,h2⟩:=h.Mj hx;exact ⟨F',h1,cs,hv,h2⟩
def Ow.empty {α:Type} {E:B8 α} {t:TypeId} {w:World} {g:Nat} (h:Ip w g t []):Ow E t w (ab (some ⟨g,0,none⟩) 0 0) ([]:List α) [g] :=
 .inr ⟨g,0,[],[],[],rfl,FI,FA,FA,FA,⟨rfl,rfl⟩,rfl⟩
def Hd.one (g:Nat):Hd [g]:=fun a G e=>by cases e;simp
def Hd.nil:Hd []:=fun a G e=>by cases e
def Sl.src {α:Type} {E:B8 α} {w:World} {v:Value} {xs:List α} {F} (h:Sl E w v xs F):∃ao c news Fy,v=ab ao xs.length c/\xs.length<=maxLen/\Cw E w news xs Fy/\(∀b∈Fy,b∈F) /\
  ((ao=none/\c=0/\xs=[])\/∃ad,ao=some ad/\∀j u,news[j]?=some u->w.cell? (ad.add j)=some u):=by
 obtain ⟨a,cap,rfl,hl,⟨rfl,rfl,h0⟩|⟨b,off,F',rfl,hne,rfl,hc⟩⟩:=h
 ·refine ⟨a,cap,[],[],rfl,FA,⟨rfl,rfl⟩,FA,?_⟩;cases a with
  | none=>exact .inl ⟨rfl,h0 rfl,rfl⟩
  | some ad=>exact .inr ⟨ad,rfl,fun j u hu=>by simp at hu⟩
 ·obtain ⟨cs,hf,hcs⟩:=hc.flat;refine ⟨_,cap,cs,F',rfl,EY,hf,fun b hb=>by simp [hb],.inr ⟨_,rfl,fun j u hu=>?_⟩⟩;rw [<-hcs j u hu];unfold Addr.add;split <;> simp_all
def Sl.takeS {α:Type} {E:B8 α} {w:World} {a:aj} {n cap:Nat} {xs:List α} {F} (h:Sl E w (ab a n cap) xs F) (k:Nat) (hk:k<=xs.length):∃F',(∀b∈F',b∈F)/\Sl E w (ab a k cap) (xs.take k) F':=by
 obtain ⟨a',cap',hv,hl,h⟩:=h;cases hv;have hlen:(xs.take k).length=k:=FF
 rcases h with ⟨rfl,rfl,h0⟩|⟨b,off,F',rfl,hne,rfl,hc⟩
 ·simp at hk;subst hk;exact ⟨[],FA,a,cap,FA,⟨FA,hl.2⟩,.inl ⟨FA,rfl,h0⟩⟩
 ·by_cases hk0:k=0
  ·subst hk0;exact ⟨[],FA,some ⟨b,off,none⟩,cap,FA,⟨FA,hl.2⟩,.inl ⟨FA,rfl,fun e=>by cases e⟩⟩
  ·obtain ⟨cs,hf,hcs⟩:=hc.flat;have e:xs=xs.take k++xs.drop k:=FA
   rw [e] at hf;obtain ⟨c1,c2,G1,G2,rfl,rfl,h1,h2⟩:=hf.split;refine ⟨b::G1,by intro x hx;simp at hx ⊢;rcases hx with hx|hx <;> simp [hx],_,cap,by rw [hlen],by rw [hlen];omega,.inr ⟨b,off,G1,rfl,fun e=>by rw [e] at hlen;simp at hlen;omega,rfl,h1.cells fun j u hu=>hcs j u ?_⟩⟩;have hj:j < c1.length:=by
    rcases dQ j c1.length with h|h
    ·exact h
    ·rw [bp h] at hu;cases hu
   rw [bx hj];exact hu
def Abn {α:Type} (E:B8 α):Prop:=∀{w cs x F},E.Mj w cs x F->F=[]
def Eb:Abn Bc:=fun h=>h.2
def Ie:Abn A9:=fun h=>h.2.2
def Cw.scal {α:Type} {E:B8 α} (hE:Abn E) {w:World}:∀{xs:List α} {cs:am} {G:aq},Cw E w cs xs G->G=[]
 | [],_,_,h=>h.2
 | x::r,_,_,h=>by
  obtain ⟨c1,c2,F1,F2,rfl,rfl,h1,h2⟩:=h;rw [hE h1,h2.scal hE];rfl
def Ow.scal {α:Type} {E:B8 α} (hE:Abn E) {t w v} {xs:List α} {F} (h:Ow E t w v xs F):F=v.ownBlock.toList:=by
 obtain ⟨cs,G,_,hf,rfl⟩:=h.owns;rw [hf.scal hE,bc]
def Mix {α:Type} (O R:B8 α) (t:TypeId) (B1 B0:Nat) (w:World) (v:Value) (xs:List α) (k:Nat):Prop :=
 (v=ab none 0 0/\xs=[])\/∃g cap c1 c2 rest F G,v=ab (some ⟨g,0,none⟩) xs.length cap/\Ip w g t (c1++c2++rest)/\xs.length<=cap/\cap<=maxLen/\c1.length+c2.length+rest.length=cap * O.sz /\
  Cw O w c1 (xs.take k) F/\Cw R w c2 (xs.drop k) G/\(g::F).Nodup/\(∀b∈g::F,B0<=b)/\∀b∈G,b < B1
section
variable {α:Type} {O R:B8 α} {t:TypeId} {B1 B0:Nat} {w:World} {v:Value} {xs:List α}
def Mix.start (hsz:R.sz=O.sz) {F:aq} (h:Ow R t w v xs F) (h1:∀b,v.ownBlock=some b->B0<=b) (h2:∀b∈F,v.ownBlock=some b\/b < B1) (hd:Hd F):Mix O R t B1 B0 w v xs 0:=by
 rcases h with ⟨rfl,rfl,_⟩|⟨g,cap,cs,rest,G,rfl,hr,h3,h4,h5,hf,rfl⟩
 ·exact .inl ⟨rfl,rfl⟩
 ·refine .inr ⟨g,cap,[],cs,rest,[],G,rfl,GL,h3,h4,by simpa [<-hsz] using h5,⟨rfl,FA⟩,by simpa using hf,FA,by simpa using h1 g rfl,fun b hb=>?_⟩;rcases h2 b FG with e|e
  ·cases e;exact absurd hb (hd g G rfl)
  ·exact e
def Mix.done (h:Mix O R t B1 B0 w v xs xs.length):∃F,Ow O t w v xs F/\F.Nodup/\∀b∈F,B0<=b:=by
 rcases h with ⟨rfl,rfl⟩|⟨g,cap,c1,c2,rest,F,G,rfl,hr,h3,h4,h5,hf,hf2,hn,hb,_⟩
 ·exact ⟨[],.inl ⟨rfl,rfl,rfl⟩,FA,FA⟩
 ·have:c2=[]:=by simp at hf2;exact hf2.1
  subst this;exact ⟨g::F,.inr ⟨g,cap,c1,rest,F,rfl,GL,h3,h4,by simpa using h5,by simpa using hf,rfl⟩,hn,hb⟩
def Mix.frame {w':World} {k:Nat} (h:Mix O R t B1 B0 w v xs k) (hb:∀b,b < w.heap.size->b < B1\/B0<=b->w'.heap[b]?=w.heap[b]?):Mix O R t B1 B0 w' v xs k:=by
 rcases h with h|⟨g,cap,c1,c2,rest,F,G,hv,hr,h3,h4,h5,hf,hf2,hn,hb1,hb2⟩
 ·exact .inl h
 ·exact .inr ⟨g,cap,c1,c2,rest,F,G,hv,hr.Je (hb g hr.lt (.inr (hb1 g FA))),h3,h4,h5,hf.frame fun b h=>hb b (hf.lt b h) (.inr (hb1 b JT)),hf2.frame fun b h=>hb b (hf2.lt b h) (.inl (hb2 b h)),hn,hb1,hb2⟩
def Mix.setFar {k:Nat} (h:Mix O R t B1 B0 w v xs k) {p:Addr} (h1:B1<=p.block) (h2:p.block < B0) (u:Value):Mix O R t B1 B0 (w.setCell p u) v xs k :=
 h.frame fun b _ hb=>Below.heap_setCell _ _ _ _ EY
def Mix.below {w':World} {k:Nat} (h:Mix O R t B1 B0 w v xs k) (hb:Below w.heap.size w w'):Mix O R t B1 B0 w' v xs k:=h.frame fun b h _=>hb.block b h
def Mix.slice {k:Nat} (h:Mix O R t B1 B0 w v xs k):∃a cap,v=ab a xs.length cap:=by
 rcases h with ⟨rfl,rfl⟩|⟨g,cap,c1,c2,rest,F,G,rfl,_⟩
 ·exact ⟨none,0,rfl⟩
 ·exact ⟨_,_,rfl⟩
def Mix.at {k:Nat} (h:Mix O R t B1 B0 w v xs k) (hsz:R.sz=O.sz) (hk:k < xs.length) (hB:B0<=w.heap.size) (h01:B1<=B0) :
  ∃g cap A c B Fk,v=ab (some ⟨g,0,none⟩) xs.length cap/\B0<=g/\Ip w g t (A++c++B)/\A.length=k * O.sz/\c.length=O.sz/\R.Mj w c xs[k] Fk/\(∀b∈Fk,b < B1) /\
   ∀w' c' F',Ip w' g t (A++c'++B)->O.Mj w' c' xs[k] F'->F'.Nodup->(∀b∈F',w.heap.size<=b)->(∀b,b < w.heap.size->b≠g->w'.heap[b]?=w.heap[b]?)->Mix O R t B1 B0 w' v xs (k+1):=by
 rcases h with ⟨_,rfl⟩|⟨g,cap,c1,c2,rest,F,G,rfl,hr,h3,h4,h5,hf,hf2,hn,hb1,hb2⟩
 ·simp at hk
 ·rw [bF hk] at hf2;obtain ⟨c,c3,G1,G2,rfl,rfl,h6,h7⟩:=hf2;have hc1:c1.length=k * O.sz:=by rw [hf.len,aP,cY EY]
  have hlc:=R.len h6;refine ⟨g,cap,c1,c,c3++rest,G1,rfl,hb1 g FA,GL,hc1,by rw [<-hsz];exact hlc,h6,fun b hb=>hb2 b FG,fun w' c' F' hr' h8 hn' hF' hk'=>?_⟩;have hlc':=O.len h8;have hne:∀b∈F++G2,b < w.heap.size/\b≠g:=fun b hb=>by
   rcases aJ.1 hb with hb|hb
   ·refine ⟨hf.lt b hb,fun e=>?_⟩;subst e;simp at hn;exact hn.1 hb
   ·have:=hb2 b FG;have:=hb1 g FA;exact ⟨EY,EY⟩
  refine .inr ⟨g,cap,c1++c',c3,rest,F++F',G2,rfl,by simpa using hr',h3,h4,?_,?_,?_,?_,?_,fun b hb=>hb2 b FG⟩
  ·simp only [aA] at h5 ⊢;omega
  ·rw [aR hk];exact (hf.frame fun b hb=>hk' b (hne b FG).1 (hne b FG).2).append (Cw.one h8)
  ·exact h7.frame fun b hb=>hk' b (hne b FG).1 (hne b FG).2
  ·have hg:=hr.lt;simp only [dm,aJ,not_or,bO] at hn ⊢;exact ⟨⟨hn.1,fun hm=>by have:=hF' g hm;omega⟩,hn.2,hn',fun a ha b hb e=>by have:=hf.lt a ha;have:=hF' b hb;omega⟩
  ·intro b hb;simp at hb;rcases hb with rfl|hb|hb
   ·exact hb1 b FA
   ·exact hb1 b FG
   ·have:=hF' b hb;omega
end
def Su.Je {α:Type} {E:B8 α} {w w':World} {v x F K} (h:Su E w v x F) (hk:Ek K w w') (hd:∀b∈F,b ∉ K):Su E w' v x F:=by
 obtain ⟨cs,hv,h⟩:=h;exact ⟨cs,hv,E.frame h fun b hb=>hk.block b (E.lt h b hb) (hd b hb)⟩
def Su.lt {α:Type} {E:B8 α} {w:World} {v x F} (h:Su E w v x F):∀b∈F,b < w.heap.size:=by
 obtain ⟨cs,hv,h⟩:=h;exact E.lt h
def Su.drewN {α:Type} {E:B8 α} {w:World} {v x F} (h:Su E w v x F) (n:Nat):Su E (w.drewN n) v x F:=by
 obtain ⟨cs,hv,h⟩:=h;exact ⟨cs,hv,E.frame h fun _ _=>rfl⟩
def Sl.drewN {α:Type} {E:B8 α} {w:World} {v} {xs:List α} {F} (h:Sl E w v xs F) (n:Nat):Sl E (w.drewN n) v xs F:=h.frame fun _ _=>rfl
def Sl.Je {α:Type} {E:B8 α} {w w':World} {v} {xs:List α} {F K} (h:Sl E w v xs F) (hk:Ek K w w') (hd:∀b∈F,b ∉ K) (hz:0 < E.sz:=by decide):Sl E w' v xs F :=
 h.frame fun b hb=>hk.block b (h.lt hz b hb) (hd b hb)
def Ow.drewN {α:Type} {E:B8 α} {t:TypeId} {w:World} {v} {xs:List α} {F} (h:Ow E t w v xs F) (n:Nat):Ow E t (w.drewN n) v xs F:=h.frame fun _ _=>rfl
def Ip.drewN {w g t cs} (h:Ip w g t cs) (n:Nat):Ip (w.drewN n) g t cs:=h
section
variable {P:Program} {ops:Array Oper} {Q:Exit->Act->World->Prop} {md:Region.Mode} {S:World->Prop} {X:Nat->Bool}
def E7 (P:Program) (md:Region.Mode) (ops:Array Oper) (Q:Exit->Act->World->Prop) (S:World->Prop) (X:Nat->Bool):Nat->Array Bool->Act->World->Prop
 | 0,listed,a,w=>Region.ready md ops listed=[]/\Q .normal a w
 | f+1,listed,a,w=>(Region.ready md ops listed=[]->Q .normal a w) /\
  ∀i∈Region.ready md ops listed,wpOp P ops Q i (fun a' w'=>(X i=false->S w')/\E7 P md ops Q S X f (listed.setIfInBounds i true) a' w') a w
def E7.any:∀(f:Nat) (listed:Array Bool) (a:Act) (w:World),E7 P md ops Q S X f listed a w->wpAny P md ops Q f listed a w
 | 0,_,_,_,h=>h
 | f+1,_,_,_,h=>⟨h.1,fun i hi=>wpOp_mono (fun a' w' h'=>E7.any f _ a' w' h'.2) (h.2 i hi)⟩
def Aaj (md:Region.Mode) (ops:Array Oper) (listed:Array Bool):Prop:=∀j oj,ops[j]?=some oj->listed.getD j false=true->∀e∈oj.after,Region.binds md e=true->listed.getD e.on false=true
def Na (md:Region.Mode) (ops:Array Oper) (listed:Array Bool):Bool :=
 (List.range ops.size).all fun j=>!listed.getD j false || ((ops[j]?).map fun o=>o.after.all fun e=>!Region.binds md e || listed.getD e.on false).getD true
def Ajj {listed:Array Bool} (h:Na md ops listed=true):Aaj md ops listed:=fun j oj hj hl e he hb=>by
 have h1:=aW.1 h j (cR.2 (bJ.1 hj).1);rw [hl,hj] at h1;simp only [Bool.not_true,fC,bW,fQ] at h1;have h2:=Array.all_eq_true'.1 h1 e he;rw [hb] at h2;simpa using h2
def Aaj.set {listed:Array Bool} {i:Nat} (h:Aaj md ops listed) (hi:i∈Region.ready md ops listed):Aaj md ops (listed.setIfInBounds i true):=fun j oj hj hl e he hb=>by
 obtain ⟨_,oi,hoi,hall⟩:=mem_ready.1 hi;by_cases hij:i=j
 ·subst hij;obtain rfl:=Option.some.inj (hj.symm.trans hoi);exact getD_set_true (hall e he hb)
 ·rw [getD_set_ne false hij] at hl;exact getD_set_true (h j oj hj hl e he hb)
def Tt (md:Region.Mode) (ops:Array Oper) (i:Nat):Nat->Nat->Bool
 | 0,_=>false
 | f+1,j=>((ops[j]?).map fun o=>o.after.any fun e=>Region.binds md e && (e.on == i || Tt md ops i f e.on)).getD false
def Xj {listed:Array Bool} {i:Nat} (hc:Aaj md ops listed):∀(f j:Nat),(∀oj,ops[j]?=some oj->∀e∈oj.after,Region.binds md e=true->listed.getD e.on false=true)->Tt md ops i f j=true->listed.getD i false=true
 | 0,_,_,h=>by cases h
 | f+1,j,hd,h=>by
  unfold Tt at h;cases hj:ops[j]? with
  | none=>rw [hj] at h;cases h
  | some o =>
   rw [hj] at h;simp only [bW,fQ] at h;obtain ⟨e,he,hb⟩:=Array.any_eq_true'.1 h;simp only [aw,bX,eU] at hb;have h1:=hd o hj e he hb.1;rcases hb.2 with h2|h2
   ·rw [<-h2];exact h1
   ·exact Xj hc f e.on (fun oe ho=>hc e.on oe ho h1) h2
def Mc (md:Region.Mode) (ops:Array Oper) (X:Nat->Bool) (i:Nat):Bool:=(List.range ops.size).all fun j=>!X j || Tt md ops i ops.size j
def Y2 {listed:Array Bool} {i:Nat} (h:listed.getD i true=false):listed.getD i false=false:=by
 rcases dQ i listed.size with h'|h'
 ·simp [h'] at h ⊢;exact h
 ·simp [dJ h'] at h
def E7.first {i:Nat} {oi:Oper} {v:Value} (hi:ops[i]?=some oi) (hsel:∀(j:Nat) (o:Oper) cs b,ops[j]?=some o->o.op≠.select cs b)
  (hQ:∀c a w,Q (.panic c) (a.put oi.dst v) w->Q (.panic c) a w) (hX:Mc md ops X i=true) :
  ∀(f:Nat) (listed:Array Bool) (a:Act) (w:World),
   (∀j oj,ops[j]?=some oj->j≠i->listed.getD j true=false->(∀e∈oj.after,Region.binds md e=true->e.on≠i)->oi.apart ops oj=true) ->
   Aaj md ops listed->i∈Region.ready md ops listed->YieldsIf P ops S oi v a->S w->E7 P md ops Q S X f (listed.setIfInBounds i true) (a.put oi.dst v) w->E7 P md ops Q S X (f+1) listed a w:=by
 intro f
 induction f with
 | zero =>
  intro listed a w _ _ hr hy hS H;refine ⟨fun h=>HO,fun j hj=>?_⟩;by_cases hji:j=i
  ·exact EK
  ·have:=ready_mono hj hji;rw [H.1] at this;cases this
 | succ f ih =>
  intro listed a w hfree hcl hr hy hS H;refine ⟨fun h=>HO,fun j hj=>?_⟩;by_cases hji:j=i
  ·exact EK
  ·obtain ⟨hju,oj,hoj,hall⟩:=mem_ready.1 hj;have hiu:=Y2 (mem_ready.1 hr).1;have hnot:∀e∈oj.after,Region.binds md e=true->e.on≠i:=fun e he hb heq=>by
    have h1:=hall e he hb;rw [heq,hiu] at h1;cases h1
   have hXj:X j=false:=by
    cases hx:X j
    ·rfl
    ·have h1:=aW.1 hX j (cR.2 (bJ.1 hoj).1);rw [hx] at h1;have h2:=Xj hcl ops.size j (fun o ho=>by obtain rfl:=Option.some.inj (ho.symm.trans hoj);exact hall) HY;rw [hiu] at h2;cases h2
   have h2:=wpOp_putIf hoj (hfree j oj hoj hji hju hnot) (fun cs b=>hsel i oi cs b hi) (fun cs b=>hsel j oj cs b hoj) hQ hy (H.2 j (ready_mono hj hji));refine wpOp_mono (fun a' w' h3=>⟨fun _=>h3.2.1 hXj,ih (listed.setIfInBounds j true) a' w' (fun k ok hk hki hun hno=>hfree k ok hk hki ?_ hno) (hcl.set hj) (ready_mono hr (Ne.symm hji)) h3.1 (h3.2.1 hXj) ?_⟩) h2
   ·by_cases hjk:j=k
    ·subst hjk;exact hju
    ·rw [getD_set_ne true hjk] at hun;exact hun
   ·rw [ef _ _ hji];exact h3.2.2
def E7.take {i:Nat} {oi:Oper} {v:Value} {f:Nat} {listed:Array Bool} {a:Act} {w:World} (hi:ops[i]?=some oi)
  (hs:Region.noSelect ops=true) (hf:Region.free md ops listed i=true) (hr:(Region.ready md ops listed).contains i=true) (hX:Mc md ops X i=true) (hc:Na md ops listed=true)
  (hQ:∀c a w,Q (.panic c) (a.put oi.dst v) w->Q (.panic c) a w) (hy:YieldsIf P ops S oi v a) (hS:S w)
  (h:E7 P md ops Q S X f (listed.setIfInBounds i true) (a.put oi.dst v) w):E7 P md ops Q S X (f+1) listed a w :=
 E7.first hi (Region.noSelect_spec hs) hQ hX f listed a w (Region.free_spec hi hf) (Ajj hc) GL hy hS h
def E7.only {i:Nat} {o:Oper} {f:Nat} {listed:Array Bool} {a:Act} {w:World} (hr:Region.ready md ops listed=[i]) (ho:ops[i]?=some o)
  (h:∀K':Act->World->Prop,Shut (∀a w,(X i=false->S w)->E7 P md ops Q S X f (listed.setIfInBounds i true) a w->K' a w)->if Region.wanted o (yielded ops a.tmps)=true then Oper.wp P o a w K' Q else K' (a.put o.dst undef) w) :
  E7 P md ops Q S X (f+1) listed a w :=
 by
 refine ⟨fun h0=>(by rw [hr] at h0;cases h0),fun j hj=>?_⟩;rw [hr] at hj;obtain rfl:j=i:=HE
 exact wpOp_step ho (fun K' hK=>h K' (fun a w hS hW=>hK a w ⟨hS,hW⟩))
def E7.two {i j:Nat} {oi oj:Oper} {f:Nat} {listed:Array Bool} {a:Act} {w:World} (hr:Region.ready md ops listed=[i,j]) (hoi:ops[i]?=some oi) (hoj:ops[j]?=some oj)
  (h:∀K':Act->World->Prop,Shut (∀a w,(X i=false->S w)->E7 P md ops Q S X f (listed.setIfInBounds i true) a w->K' a w)->if Region.wanted oi (yielded ops a.tmps)=true then Oper.wp P oi a w K' Q else K' (a.put oi.dst undef) w)
  (h2:∀K':Act->World->Prop,Shut (∀a w,(X j=false->S w)->E7 P md ops Q S X f (listed.setIfInBounds j true) a w->K' a w)->if Region.wanted oj (yielded ops a.tmps)=true then Oper.wp P oj a w K' Q else K' (a.put oj.dst undef) w) :
  E7 P md ops Q S X (f+1) listed a w:=by
 refine ⟨fun h0=>(by rw [hr] at h0;cases h0),fun k hk=>?_⟩;rw [hr] at hk;simp only [aG,aT,bn] at hk;rcases hk with rfl|rfl
 ·exact wpOp_step hoi (fun K' hK=>h K' (fun a w hS hW=>hK a w ⟨hS,hW⟩))
 ·exact wpOp_step hoj (fun K' hK=>h2 K' (fun a w hS hW=>hK a w ⟨hS,hW⟩))
def E7.done {listed:Array Bool} {a:Act} {w:World} (hr:Region.ready md ops listed=[]) (h:Q .normal a w):∀f,E7 P md ops Q S X f listed a w
 | 0=>⟨hr,h⟩
 | _+1=>⟨fun _=>h,by rw [hr];simp⟩
def E7.start {id:Nat} {a:Act} {w:World} (hm:P.follows .mixedOrders=true) (h:E7 P .any ops Q S X ops.size (Array.replicate ops.size false) a w.drew):(Code.region id ops true).wp P Q a w :=
 wp_region_any hm (E7.any _ _ _ _ h)
end
def Oa {a b:am} (h:Value.agg a.toArray=.agg b.toArray):a=b:=FI
inductive Pc:Type 1
 | row (g:Nat) (t:TypeId) (o:Nat) (A cs B:List Value)
 | sl {α:Type} (E:B8 α) (v:Value) (xs:List α) (F:List Nat)
 | ow {α:Type} (E:B8 α) (t:TypeId) (v:Value) (xs:List α) (F:List Nat)
 | isv {α:Type} (E:B8 α) (v:Value) (x:α) (F:List Nat)
 | own {α:Type} (E:B8 α) (v:Value) (x:α) (F:List Nat)
 | cel (b o:Nat) (cs:List Value)
 | flat {α:Type} (E:B8 α) (cs:List Value) (xs:List α) (F:List Nat)
def Pc.P:Pc->World->Prop
 | .row g t o A cs B,w=>A.length=o/\Ip w g t (A++cs++B)
 | .sl E v xs F,w=>0 < E.sz/\Sl E w v xs F
 | .ow E t v xs F,w=>F.Nodup/\Ow E t w v xs F
 | .isv E v x F,w=>Su E w v x F
 | .own E v x F,w=>F.Nodup/\Su E w v x F
 | .cel b o cs,w=>cs≠[]/\w.rangeAt b o cs
 | .flat E cs xs F,w=>F.Nodup/\Cw E w cs xs F
def Pc.F:Pc->aq
 | .row g ..=>[g]
 | .sl _ _ _ F|.ow _ _ _ _ F|.isv _ _ _ F|.own _ _ _ F|.flat _ _ _ F=>F
 | .cel b ..=>[b]
def Pc.mu:Pc->Bool
 | .row .. | .ow .. | .own .. | .flat ..=>true
 | _=>false
def Pc.st (p:Pc) {w w':World} (h:p.P w) (hF:∀b∈p.F,w'.heap[b]?=w.heap[b]?):p.P w':=by
 cases p with
 | row g t o A cs B=>exact ⟨h.1,h.2.Je (hF g JG)⟩
 | sl E v xs F=>exact ⟨h.1,h.2.frame hF⟩
 | ow E t v xs F=>exact ⟨h.1,h.2.frame hF⟩
 | isv E v x F=>obtain ⟨cs,hv,h⟩:=h;exact ⟨cs,hv,E.frame h hF⟩
 | own E v x F=>obtain ⟨hn,cs,hv,h⟩:=h;exact ⟨hn,cs,hv,E.frame h hF⟩
 | cel b o cs=>exact ⟨h.1,fun j v hv=>(World.cell?_of_block (w:=w) (hF b JG)).trans (h.2 j v hv)⟩
 | flat E cs xs F=>exact ⟨h.1,h.2.frame hF⟩
def Pc.lt (p:Pc) {w:World} (h:p.P w):∀b∈p.F,b < w.heap.size:=by
 cases p with
 | row g t o A cs B=>intro b hb;simp [Pc.F] at hb;subst hb;exact h.2.lt
 | sl E v xs F=>exact h.2.lt h.1
 | ow E t v xs F=>exact h.2.lt
 | isv E v x F=>obtain ⟨cs,hv,h⟩:=h;exact E.lt h
 | own E v x F=>obtain ⟨_,cs,hv,h⟩:=h;exact E.lt h
 | cel b o cs =>
  intro c hc;simp [Pc.F] at hc;subst hc;cases cs with
  | nil=>exact absurd rfl h.1
  | cons v r=>exact World.block_lt_of_cell? w _ (h.2 0 v rfl)
 | flat E cs xs F=>exact h.2.lt
def Aeg (p q:Pc):Prop:=(p.mu || q.mu)=true->∀b∈p.F,b ∉ q.F
def Aeg.symm {p q:Pc} (h:Aeg p q):Aeg q p:=fun hm b hb hp=>h (by rw [Bool.or_comm];exact hm) b hp hb
def Ti:List Pc->Prop
 | []=>True
 | p::R=>(∀q∈R,Aeg p q)/\Ti R
def O8 (H:List Pc) (w:World):Prop:=∀p∈H,p.P w
def I6 {p:Pc} {w:World} (h:p.P w):O8 [p] w:=fun q hq=>by simp at hq;subst hq;exact h
def fp:List Pc->aq
 | []=>[]
 | p::R=>p.F++fp R
def Sk {b:Nat}:∀{H:List Pc},b∈fp H↔∃p∈H,b∈p.F
 | []=>by simp [fp]
 | p::R=>by simp [fp,Sk (H:=R)]
def O8.st {H:List Pc} {w w':World} (h:O8 H w) (hF:∀p∈H,∀b∈p.F,w'.heap[b]?=w.heap[b]?):O8 H w':=fun p hp=>p.st (h p hp) (hF p hp)
def O8.below {H:List Pc} {w w':World} (h:O8 H w) (hb:Below w.heap.size w w'):O8 H w':=h.st fun p hp b hm=>hb.block b (p.lt (h p hp) b hm)
structure St (G D:aq) (w0:World) (H:List Pc) (w:World):Prop where
 Je:Ek G w0 w
 on:O8 H w
 sep:Ti H
 Adw:∀p∈H,∀b∈p.F,b∈G\/w0.heap.size<=b\/(p.mu=false/\b∈D)
section
variable {G D:aq} {w0:World}
def Ti.perm2 {p q:Pc} {R:List Pc} (h:Ti (p::q::R)):Ti (q::p::R) :=
 ⟨fun x hx=>by
  rcases aG.1 hx with rfl|hx
  ·exact (h.1 q FA).symm
  ·exact h.2.1 x hx,fun x hx=>h.1 x IJ,h.2.2⟩
inductive C1:List Pc->Pc->List Pc->Prop
 | here {p R}:C1 (p::R) p R
 | there {x p R R'}:C1 R p R'->C1 (x::R) p (x::R')
def C1.mem {H p R} (h:C1 H p R):p∈H:=by
 induction h with
 | here=>simp
 | there _ ih=>simp [ih]
def C1.sub {H p R} (h:C1 H p R):∀q∈R,q∈H:=by
 induction h with
 | here=>intro q hq;simp [hq]
 | there _ ih =>
  intro q hq;rcases aG.1 hq with rfl|hq
  ·simp
  ·simp [ih q hq]
def C1.sep {H p R} (h:C1 H p R) (hs:Ti H):Ti (p::R):=by
 induction h with
 | here=>exact hs
 | @there x p R R' h ih =>
  have h2:=ih hs.2;exact Ti.perm2 ⟨fun q hq=>by
   rcases aG.1 hq with rfl|hq
   ·exact hs.1 _ h.mem
   ·exact hs.1 _ (h.sub q hq),h2⟩
def St.pick {H p R w} (s:St G D w0 H w) (h:C1 H p R):St G D w0 (p::R) w :=
 ⟨s.Je,fun q hq=>by
  rcases aG.1 hq with rfl|hq
  ·exact s.on _ h.mem
  ·exact s.on _ (h.sub q hq),h.sep s.sep,fun q hq=>by
  rcases aG.1 hq with rfl|hq
  ·exact s.Adw _ h.mem
  ·exact s.Adw _ (h.sub q hq)⟩
def St.tail {p R w} (s:St G D w0 (p::R) w):St G D w0 R w:=⟨s.Je,fun q hq=>s.on q GB,s.sep.2,fun q hq=>s.Adw q GB⟩
def St.get {H p w} (s:St G D w0 H w) (h:p∈H):p.P w:=s.on p h
def St.turn {M R N:List Pc} {w w':World} (s:St G D w0 (M++R) w) (hk:Ek (fp (M.filter (·.mu))) w w') (hN:O8 N w') (hs:Ti N)
  (hF:∀p∈N,∀b∈p.F,w.heap.size<=b\/(∃q∈M,q.mu=true/\b∈q.F)\/(p.mu=false/\∃q∈M++R,q.mu=false/\b∈q.F)):St G D w0 (N++R) w':=by
 have hsep:∀(A B:List Pc),Ti (A++B)->Ti A/\Ti B/\∀p∈A,∀q∈B,Aeg p q:=by
  intro A
  induction A with
  | nil=>intro B h;exact ⟨trivial,h,FA⟩
  | cons p A ih =>
   intro B h;obtain ⟨h1,h2,h3⟩:=ih B h.2;exact ⟨⟨fun q hq=>h.1 q GB,h1⟩,h2,fun x hx q hq=>by
    rcases aG.1 hx with rfl|hx
    ·exact h.1 q GB
    ·exact h3 x hx q hq⟩
 have hjoin:∀(A B:List Pc),Ti A->Ti B->(∀p∈A,∀q∈B,Aeg p q)->Ti (A++B):=by
  intro A
  induction A with
  | nil=>intro B _ h _;exact h
  | cons p A ih =>
   intro B hA hB h;exact ⟨fun q hq=>by
    rcases aJ.1 hq with hq|hq
    ·exact hA.1 q hq
    ·exact h p FA q hq,ih B hA.2 hB fun x hx q hq=>h x IJ q hq⟩
 obtain ⟨sM,sR,sMR⟩:=hsep M R s.sep;have hRlt:∀q∈R,∀b∈q.F,b < w.heap.size:=fun q hq=>q.lt (s.on q GB);have hMR:∀q∈R,∀b∈q.F,b ∉ fp (M.filter (·.mu)):=fun q hq b hb hm=>by
  obtain ⟨p,hp,hpb⟩:=Sk.1 hm;obtain ⟨hp,hmu⟩:=bR.1 hp;exact sMR p hp q hq (by simp [hmu]) b hpb hb
 have hG:∀b∈fp (M.filter (·.mu)),b∈G\/w0.heap.size<=b:=fun b hb=>by
  obtain ⟨p,hp,hpb⟩:=Sk.1 hb;obtain ⟨hp,hmu⟩:=bR.1 hp;rcases s.Adw p HK b hpb with h|h|⟨h,_⟩
  ·exact .inl h
  ·exact .inr h
  ·rw [hmu] at h;cases h
 refine ⟨⟨hk.os.trans s.Je.os,hk.tape.trans s.Je.tape,hk.output.trans s.Je.output,bE s.Je.size hk.size,fun k hlt hn=>(hk.block k (dI hlt s.Je.size) fun hm=>?_).trans (s.Je.block k hlt hn)⟩,fun p hp=>?_,hjoin N R hs sR fun p hp q hq hmu b hb hqb=>?_,fun p hp b hb=>?_⟩
 ·rcases hG k hm with h|h
  ·exact hn h
  ·omega
 ·rcases aJ.1 hp with hp|hp
  ·exact hN p hp
  ·exact p.st (s.on p HK) fun b hb=>hk.block b (hRlt p hp b hb) (hMR p hp b hb)
 ·rcases hF p hp b hb with h|⟨m,hm,hmm,hmb⟩|⟨hpm,m,hm,hmm,hmb⟩
  ·have:=hRlt q hq b hqb;omega
  ·exact sMR m hm q hq (by simp [hmm]) b hmb hqb
  ·have hqm:q.mu=true:=by simpa [hpm] using hmu
   rcases aJ.1 hm with hm|hm
   ·exact sMR m hm q hq (by simp [hqm]) b hmb hqb
   ·-- two pieces of R
    have:∀(R:List Pc),Ti R->∀m∈R,∀q∈R,m.mu=false->q.mu=true->∀b∈m.F,b ∉ q.F:=by
     intro R
     induction R with
     | nil=>intro _ m hm;simp at hm
     | cons x R ih =>
      intro hs m hm q hq h1 h2 b hb hqb;rcases aG.1 hm with e|hm2
      ·subst e;rcases aG.1 hq with e|hq2
       ·subst e;rw [h1] at h2;cases h2
       ·exact hs.1 q hq2 (by simp [h2]) b hb hqb
      ·rcases aG.1 hq with e|hq2
       ·subst e;exact hs.1 m hm2 (by simp [h2]) b hqb hb
       ·exact ih hs.2 m hm2 q hq2 h1 h2 b hb hqb
    exact this R sR m hm q hq hmm hqm b hmb hqb
 ·rcases aJ.1 hp with hp|hp
  ·rcases hF p hp b hb with h|⟨m,hm,hmm,hmb⟩|⟨hpm,m,hm,hmm,hmb⟩
   ·right;left;exact bE s.Je.size h
   ·rcases s.Adw m (by simp [hm]) b hmb with h|h|⟨h,_⟩
    ·exact .inl h
    ·exact .inr (.inl h)
    ·rw [hmm] at h;cases h
   ·rcases s.Adw m hm b hmb with h|h|⟨_,h⟩
    ·exact .inl h
    ·exact .inr (.inl h)
    ·exact .inr (.inr ⟨hpm,h⟩)
  ·exact s.Adw p HK b hb
end
abbrev Fr:=List (Nat × Value)
def Sj:Fr->Nat->Option Value
 | [],_=>none
 | (k,v)::r,t=>bif Nat.beq k t then some v else Sj r t
def ev (fr:Fr):Operand->Option Value
 | .tmp t=>Sj fr t
 | .const v=>some v
 | .global g=>some (.pointer (some ⟨g,0,none⟩))
 | .func f=>some (.func (.func f) #[] #[])
inductive Evs (fr:Fr):List Operand->am->Prop
 | nil:Evs fr [] []
 | cons {x v xs vs}:ev fr x=some v->Evs fr xs vs->Evs fr (x::xs) (v::vs)
structure Ag (n:Nat) (fr:Fr) (a:Act):Prop where
 df:a.defers=[]
 sz:a.tmps.size=n
 at_:∀t v,Sj fr t=some v->a.tmps[t]?=some v
def Ag.ev {n fr a x v} (h:Ag n fr a) (hx:ev fr x=some v):a.eval x=v:=by
 cases x with
 | tmp t=>have:=h.at_ t v hx;simp [Act.eval,fy,this]
 | const u=>simp [Go.Proofs.YtmppejmafbfhlaaGreatDoor.ev] at hx;subst hx;rfl
 | global g=>simp [Go.Proofs.YtmppejmafbfhlaaGreatDoor.ev] at hx;subst hx;rfl
 | func f=>simp [Go.Proofs.YtmppejmafbfhlaaGreatDoor.ev] at hx;subst hx;rfl
def Ag.evs {n fr a xs vs} (h:Ag n fr a) (hx:Evs fr xs vs):xs.map a.eval=vs:=by
 induction hx with
 | nil=>rfl
 | cons hx _ ih=>simp [h.ev hx,ih]
def Vr (k:Nat) (v:Value) (r:Fr) (t:Nat):Sj ((k,v)::r) t=if k=t then some v else Sj r t:=by
 show (bif Nat.beq k t then some v else Sj r t)=_;by_cases h:k=t
 ·subst h;simp
 ·have:Nat.beq k t=false:=by
   cases hb:Nat.beq k t
   ·rfl
   ·exact absurd (Nat.eq_of_beq_eq_true hb) h
  rw [this,aC h];rfl
def Ag.put {n fr a d v} (h:Ag n fr a) (hd:Nat.blt d n=true):Ag n ((d,v)::fr) (a.put (some d) v):=by
 have hd':d < n:=by simpa using hd
 refine ⟨h.df,by simp [Act.put,h.sz],fun t u hu=>?_⟩;rw [Vr] at hu;show (a.tmps.setIfInBounds d v)[t]?=_;rw [Array.getElem?_setIfInBounds]
 split at hu
 ·rename_i e;subst e;simp at hu;subst hu;rw [aH rfl,aH (by rw [h.sz];exact hd')]
 ·rename_i e;rw [aC e];exact h.at_ t u hu
inductive M2 (fr:Fr):Fr->Prop
 | nil:M2 fr []
 | cons {t v r}:Sj fr t=some v->M2 fr r->M2 fr ((t,v)::r)
def M2.Sj {fr fr':Fr} (h:M2 fr fr'):∀t v,Sj fr' t=some v->Sj fr t=some v:=by
 induction h with
 | nil=>intro t v hv;cases hv
 | cons h1 _ ih =>
  intro t v hv;rw [Vr] at hv
  split at hv
  ·rename_i e;subst e;rw [<-hv];exact h1
  ·exact ih t v hv
def Ag.sub {n fr fr' a} (h:Ag n fr a) (hs:M2 fr fr'):Ag n fr' a:=⟨h.df,h.sz,fun t v hv=>h.at_ t v (hs.Sj t v hv)⟩
structure Cx where
 P:Program
 G:aq
 D:aq
 w0:World
 n:Nat
 R:Exit->Act->World->Prop
inductive It
 | cd (c:Code)
 | blk (id:Nat)
 | lp (I:Act->World->Prop)
def run (c:Cx):List It->Exit->Act->World->Prop
 | []=>c.R
 | .cd y::k=>Exit.then (fun a w=>y.wp c.P (run c k) a w) (run c k)
 | .blk id::k=>Exit.inBlock id (run c k)
 | .lp I::k=>Exit.then I (run c k)
inductive Gl
 | By (k:List It) (x:Code)
 | list (k:List It) (ops:Array Oper) (l:List Oper)
 | norm (k:List It)
 | exit (k:List It) (id:Nat)
 | fin (e:Exit)
 | dx (k:List It) (H0:List Pc) (X:List Nat) (ops:Array Oper) (f:Nat) (listed:Array Bool)
 | dk (i:Nat) (k:List It) (H0:List Pc) (X:List Nat) (ops:Array Oper) (f:Nat) (listed:Array Bool)
def Gl.sem (c:Cx):Gl->Act->World->Prop
 | .By k x,a,w=>x.wp c.P (run c k) a w
 | .list k ops l,a,w=>wpList c.P ops (run c k) l a w
 | .norm k,a,w=>run c k .normal a w
 | .exit k id,a,w=>run c k (.exit id) a w
 | .fin e,a,w=>c.R e a w
 | .dx k H0 X ops f listed,a,w=>E7 c.P .any ops (run c k) (O8 H0) (fun i=>X.contains i) f listed a w
 | .dk i k H0 X ops f listed,a,w=>(X.contains i=false->O8 H0 w)/\E7 c.P .any ops (run c k) (O8 H0) (fun i=>X.contains i) f listed a w
structure T (c:Cx) (fr:Fr) (H:List Pc) (Φ:Gl):Prop where
 h:∀a w,St c.G c.D c.w0 H w->Ag c.n fr a->Φ.sem c a w
def Af0 (c:Cx):∀(k:List It),run c k .ret=c.R .ret
 | []=>rfl
 | .cd _::k=>Af0 c k
 | .blk _::k=>Af0 c k
 | .lp _::k=>Af0 c k
def Mz (c:Cx) (ch:List PanicEntry):∀(k:List It),run c k (.panic ch)=c.R (.panic ch)
 | []=>rfl
 | .cd _::k=>Mz c ch k
 | .blk _::k=>Mz c ch k
 | .lp _::k=>Mz c ch k
inductive Lr:List Pc->List Pc->Prop
 | nil {A}:Lr A []
 | cons {A p R B}:C1 A p R->Lr R B->Lr A (p::B)
section
variable {c:Cx} {fr:Fr} {H:List Pc} {k:List It} {Φ:Gl}
def Lr.st {G D w0 w} {H H':List Pc} (h:Lr H H'):∀{X:List Pc},St G D w0 H w->Ti X->(∀p∈X,∀q∈H,Aeg p q)->(∀p∈X,p.P w/\∀b∈p.F,b∈G\/w0.heap.size<=b\/(p.mu=false/\b∈D)) ->
  (∀q∈H',q∈H)/\Ti H':=by
 induction h with
 | nil=>intro X _ _ _ _;exact ⟨FA,trivial⟩
 | @cons A p R B hp hs ih =>
  intro X s hX hXa hXp;have s1:=s.pick hp;have ⟨h1,h2⟩:=ih (X:=[]) s1.tail trivial FA FA;exact ⟨fun q hq=>by
   rcases aG.1 hq with rfl|hq
   ·exact hp.mem
   ·exact hp.sub q (h1 q hq),fun q hq=>s1.sep.1 q (h1 q hq),h2⟩
def St.sub {G D w0 w} {H H':List Pc} (s:St G D w0 H w) (h:Lr H H'):St G D w0 H' w :=
 have ⟨h1,h2⟩:=h.st (X:=[]) s trivial FA FA
 ⟨s.Je,fun p hp=>s.on p (h1 p hp),h2,fun p hp=>s.Adw p (h1 p hp)⟩
def Bif (H':List Pc) (h:T c fr H' Φ) (hs:Lr H H':=by repeat (first|exact Lr.nil|refine Lr.cons HM ?_)):T c fr H Φ:=.mk fun a w s g=>h.h a w (s.sub hs) g
def Xd {p:Pc} (h:T c fr H Φ):T c fr (p::H) Φ:=.mk fun a w s g=>h.h a w s.tail g
/-! the rules of control -/
def Pg {x y:Code} (h:T c fr H (.By (.cd y::k) x)):T c fr H (.By k (Code.seq x y)):=.mk fun a w s g=>wp_seq (h.h a w s g)
def X5 (h:T c fr H (.norm k)):T c fr H (.By k Code.skip):=.mk fun a w s g=>wp_skip (h.h a w s g)
def Bez (h:T c fr H (.fin .ret)):T c fr H (.By k Code.ret):=.mk fun a w s g=>wp_ret (by rw [Af0];exact h.h a w s g)
def Axu {id:Nat} (h:T c fr H (.exit k id)):T c fr H (.By k (Code.exit id)):=.mk fun a w s g=>wp_exit (h.h a w s g)
def Un {id:Nat} {x:Code} (h:T c fr H (.By (.blk id::k) x)):T c fr H (.By k (Code.block id x)):=.mk fun a w s g=>wp_block (h.h a w s g)
def Anm {id:Nat} {l:List Oper} (h:T c fr H (.list k l.toArray l)):T c fr H (.By k (Code.region id l.toArray false)):=.mk fun a w s g=>wp_region_lit (h.h a w s g)
def c_t {x:Operand} {y z:Code} (hc:ev fr x=some (.bool true)) (h:T c fr H (.By k y)):T c fr H (.By k (Code.cond x y z)):=.mk fun a w s g=>wp_cond_true (g.ev hc) (h.h a w s g)
def c_f {x:Operand} {y z:Code} (hc:ev fr x=some (.bool false)) (h:T c fr H (.By k z)):T c fr H (.By k (Code.cond x y z)):=.mk fun a w s g=>wp_cond_false (g.ev hc) (h.h a w s g)
def Ay {x:Operand} {y z:Code} {p:Prop} {_:Decidable p} (hc:ev fr x=some (.bool (decide p))) (h1:p->T c fr H (.By k y)) (h2:¬p->T c fr H (.By k z)) :
  T c fr H (.By k (Code.cond x y z)):=.mk fun a w s g=>by
 by_cases hp:p
 ·exact wp_cond_true (by rw [g.ev hc,av hp]) ((h1 hp).h a w s g)
 ·exact wp_cond_false (by rw [g.ev hc,ay hp]) ((h2 hp).h a w s g)
def Zz {y:Code} (h:T c fr H (.By k y)):T c fr H (.norm (.cd y::k)):=⟨h.h⟩
def Ahl {id:Nat} (h:T c fr H (.norm k)):T c fr H (.norm (.blk id::k)):=⟨h.h⟩
def Bh4 (h:T c fr H (.fin .normal)):T c fr H (.norm []):=⟨h.h⟩
def Bhv {y:Code} {id:Nat} (h:T c fr H (.exit k id)):T c fr H (.exit (.cd y::k) id):=⟨h.h⟩
def Bhw {I:Act->World->Prop} {id:Nat} (h:T c fr H (.exit k id)):T c fr H (.exit (.lp I::k) id):=⟨h.h⟩
def Be1 {id:Nat} (h:T c fr H (.norm k)):T c fr H (.exit (.blk id::k) id):=.mk fun a w s g=>by
 show (if id=id then run c k .normal a w else run c k (.exit id) a w);rw [aH rfl];exact h.h a w s g
def Ax1 {id id':Nat} (hne:Nat.beq id' id=false) (h:T c fr H (.exit k id')):T c fr H (.exit (.blk id::k) id'):=.mk fun a w s g=>by
 show (if id'=id then run c k .normal a w else run c k (.exit id') a w);rw [aC (fun e=>by rw [e] at hne;simp at hne)];exact h.h a w s g
def V8 {ops:Array Oper} (h:T c fr H (.norm k)):T c fr H (.list k ops []):=⟨h.h⟩
/-! loops -/
def Ahf {p:Nat->Prop}:∀n,p n->∃m,p m/\∀j,p j->m<=j:=fun n=>by
 induction n using Nat.strongRecOn with
 | _ n ih =>
  intro hn;by_cases h:∃j,j < n/\p j
  ·obtain ⟨j,hj,hp⟩:=h;exact ih j hj hp
  ·exact ⟨n,hn,fun j hj=>Nat.le_of_not_lt fun hl=>h ⟨j,hl,hj⟩⟩
def Awo {P:Program} {Q:Exit->Act->World->Prop} {x:Code} {a:Act} {w:World} (I:Nat->Act->World->Prop) (m:Nat) (h0:I m a w)
  (round:∀m a w,I m a w->x.wp P (Exit.then (fun a' w'=>∃m',m' < m/\I m' a' w') Q) a w):(Code.loop x).wp P Q a w:=by
 classical
 refine wp_loop (fun a w=>∃m,I m a w) (fun a w=>if h:∃m,I m a w then Classical.choose (Ahf (p:=fun m=>I m a w) h.choose h.choose_spec) else 0) ⟨m,h0⟩ fun a w hI=>?_;have hl:=Classical.choose_spec (Ahf (p:=fun m=>I m a w) hI.choose hI.choose_spec);refine wp_mono (round _ a w hl.1) fun e a' w' he=>?_;cases e with
 | normal =>
  obtain ⟨m',hm,hi⟩:=he;have hex:∃m,I m a' w':=⟨m',hi⟩;refine ⟨hex,?_⟩;simp only [ei hI,ei hex];exact Nat.lt_of_le_of_lt ((Classical.choose_spec (Ahf (p:=fun m=>I m a' w') hex.choose hex.choose_spec)).2 m' hi) hm
 | _=>exact he
def LpI {σ:Type} (c:Cx) (fr':σ->Fr) (H':σ->List Pc) (C:σ->Prop) (μ:σ->Nat) (m:Nat) (a:Act) (w:World):Prop:=∃s,C s/\μ s=m/\St c.G c.D c.w0 (H' s) w/\Ag c.n (fr' s) a
def LpN {σ:Type} (c:Cx) (fr':σ->Fr) (H':σ->List Pc) (C:σ->Prop) (μ:σ->Nat) (m:Nat) (a:Act) (w:World):Prop:=∃m',m' < m/\LpI c fr' H' C μ m' a w
def Axv {x:Code} {σ:Type} (fr':σ->Fr) (H':σ->List Pc) (C:σ->Prop) (μ:σ->Nat) (s0:σ) (h0:C s0)
  (round:∀s,C s->T c (fr' s) (H' s) (.By (.lp (LpN c fr' H' C μ (μ s))::k) x)) (hf:M2 fr (fr' s0):=by repeat (first|exact M2.nil|refine M2.cons FL ?_)) (hH:Lr H (H' s0):=by repeat (first|exact Lr.nil|refine Lr.cons HM ?_)):T c fr H (.By k (Code.loop x)):=.mk fun a w st g=>by
 refine Awo (LpI c fr' H' C μ) (μ s0) ⟨s0,h0,rfl,st.sub hH,g.sub hf⟩ fun m a w hI=>?_;obtain ⟨s,hC,rfl,hst,hg⟩:=hI;exact (round s hC).h a w hst hg
def Ce {σ:Type} {fr':σ->Fr} {H':σ->List Pc} {C:σ->Prop} {μ:σ->Nat} {m:Nat} (s:σ) (hC:C s) (hm:μ s < m) (hf:M2 fr (fr' s):=by repeat (first|exact M2.nil|refine M2.cons FL ?_)) (hH:Lr H (H' s):=by repeat (first|exact Lr.nil|refine Lr.cons HM ?_)) :
  T c fr H (.norm (.lp (LpN c fr' H' C μ m)::k)):=.mk fun _ _ st g=>⟨μ s,hm,s,hC,rfl,st.sub hH,g.sub hf⟩
end
class OneC (P:Program) (t:TypeId):Prop where
 d:∃d,P.underlying t=some d/\d.isRow=false
 s:(P.info? t).map (·.size)=some 1
class AggC (P:Program) (t:TypeId) (n:outParam Nat):Prop where
 d:∃d,P.underlying t=some d/\d.isRow=true
 s:(P.info? t).map (·.size)=some n
class FldC (P:Program) (t:TypeId) (i:Nat) (off:outParam Nat) (ft:outParam TypeId) (n:outParam Nat):Prop where
 f:∃fs f,P.underlying t=some (.struct fs)/\fs[i]?=some f/\f.offset=off/\f.type=ft
 s:(P.info? ft).map (·.size)=some n
 p:n≠0
class SlC (P:Program) (t:TypeId) (e:outParam TypeId) (n:outParam Nat):Prop where
 u:P.underlying t=some (.slice e)
 s:(P.info? e).map (·.size)=some n
class IntC (P:Program) (t:TypeId) (k:outParam IntKind):Prop where
 u:P.underlying t=some (.int k)
class StrC (P:Program) (t:TypeId):Prop where
 u:P.underlying t=some .string
class BoolC (P:Program) (t:TypeId):Prop where
 u:P.underlying t=some .bool
def Gj (g o j:Nat):Value:=.pointer (some ⟨g,o+j,none⟩)
structure Yd (P:Program) (n:Nat) (fr:Fr) (H:List Pc) (o:Op) (ty:TypeId) (v:Value):Prop where
 h:∀(a:Act) (w:World) (d:Option Tmp) (pos:String) (Cf:Array Edge) (g:Option (Nat × Bool)),Ag n fr a->O8 H w->(execOp a.eval ⟨d,o,ty,pos,Cf,g⟩).run P w=.ok (.value v) w
def Aew (a b:au):(a.toList == b.toList)=decide (a=b):=by
 rw [cD];simp only [eU,aF,ByteArray.toList_eq];exact ⟨fun h=>fz (fO h),fun h=>by rw [h]⟩
section
variable {P:Program} {n:Nat} {fr:Fr} {H:List Pc} {ty:TypeId} {v u:Value} {x y z:Operand}
def Nb {t:TypeId} {n:Nat} (h:(P.info? t).map (·.size)=some n) (w:World):(sizeOf t).run P w=.ok n w:=by
 obtain ⟨i,hi,hn⟩:=cu.1 h;simp [sizeOf,typeInfo,hi,hn]
def An5 {t:TypeId} (h:∃d,P.underlying t=some d/\d.isRow=false) (w:World):(isAgg t).run P w=.ok false w:=by
 obtain ⟨d,hu,hd⟩:=h;unfold isAgg;rw [Sem.run_bind,run_underlying hu w];cases d <;> simp_all
def Aun {t:TypeId} (h:∃d,P.underlying t=some d/\d.isRow=true) (w:World):(isAgg t).run P w=.ok true w:=by
 obtain ⟨d,hu,hd⟩:=h;unfold isAgg;rw [Sem.run_bind,run_underlying hu w];cases d <;> simp_all
def Bep (hx:ev fr x=some v):Yd P n fr H (.move x) ty v:=.mk fun a w d pos Cf g hA _=>by
 simp [execOp,hA.ev hx]
def Awq (hx:ev fr x=some v):Yd P n fr H (.assign x) ty v:=.mk fun a w d pos Cf g hA _=>by
 simp [execOp,hA.ev hx]
def Awu (hc:ev fr x=some (.bool true)) (hy:ev fr y=some v):Yd P n fr H (.pick x y z) ty v:=.mk fun a w d pos Cf g hA _=>by
 simp [execOp,hA.ev hc,hA.ev hy,asBool]
def Awt (hc:ev fr x=some (.bool false)) (hz:ev fr z=some v):Yd P n fr H (.pick x y z) ty v:=.mk fun a w d pos Cf g hA _=>by
 simp [execOp,hA.ev hc,hA.ev hz,asBool]
def Ach {w:World} {g t o j:Nat} {A cs B:am} (h:(Pc.row g t o A cs B).P w) (hv:cs[j]?=some v):w.cell? ⟨g,o+j,none⟩=some v:=by
 obtain ⟨rfl,h⟩:=h;rw [h.cellMid rfl (cm.1 hv).1];exact hv
def Iv {w:World} {g t o:Nat} {A cs B:am} (h:(Pc.row g t o A cs B).P w):w.rangeAt g o cs:=fun _ _ hv=>Ach h hv
def Av3 {w:World} {g t o:Nat} {A cs B:am} (h:(Pc.row g t o A cs B).P w):w.there g o cs.length:=fun j hj =>
 ⟨by rw [Ach h (aE hj)];rfl,h.2.frozen _⟩
def Ahh {t:TypeId} [hT:OneC P t] {w:World} {a:Addr} (h:w.cell? a=some v):(Instr.loadAt t (.pointer (some a))).run P w=.ok v w:=by
 simp [Instr.loadAt,Instr.sureAddr,loadVar,An5 hT.d,h]
def Bir {t g o j tt:Nat} {A cs B:am} [OneC P t] (hx:ev fr x=some (Gj g o j)) (hm:Pc.row g tt o A cs B∈H) (hv:cs[j]?=some v):Yd P n fr H (.load t x) ty v:=.mk fun a w d pos Cf gd hA hH=>by
 simp [execOp,hA.ev hx,Gj,Ahh (Ach (hH _ hm) hv)]
def Bg7 {t b o j:Nat} {cs:am} [OneC P t] (hx:ev fr x=some (Gj b o j)) (hm:Pc.cel b o cs∈H) (hv:cs[j]?=some v):Yd P n fr H (.load t x) ty v:=.mk fun a w d pos Cf gd hA hH=>by
 simp [execOp,hA.ev hx,Gj,Ahh ((hH _ hm).2 j v hv)]
inductive Cut:am->Nat->Nat->am->Prop
 | zero {l}:Cut l 0 0 []
 | one {x l m r}:Cut l 0 m r->Cut (x::l) 0 (m+1) (x::r)
 | skip {x l j m r}:Cut l j m r->Cut (x::l) (j+1) m r
def Cut.get {l j m r} (h:Cut l j m r):r.length=m/\∀(i:Nat) u,r[i]?=some u->l[j+i]?=some u:=by
 induction h with
 | zero=>exact ⟨rfl,fun i u h=>by simp at h⟩
 | one _ ih =>
  refine ⟨by simp [ih.1],fun i u h=>?_⟩;cases i with
  | zero=>simpa using h
  | succ i=>have:=ih.2 i u FI;simpa [fB] using this
 | skip _ ih =>
  refine ⟨ih.1,fun i u h=>?_⟩;have:=ih.2 i u h
  rwa [show ∀a b:Nat,a+1+b=a+b+1 by omega,bH]
def Ahg {t m:Nat} [hT:AggC P t m] {w:World} {b o j:Nat} {cs r:am} (h:w.rangeAt b o cs) (hc:Cut cs j m r):(Instr.loadAt t (.pointer (some ⟨b,o+j,none⟩))).run P w=.ok (.agg r.toArray) w:=by
 obtain ⟨d,hu,hd⟩:=hT.d;exact run_loadAt_mid w b (o+j) t r d (fun i u hu=>by rw [fB];exact h _ _ (hc.get.2 i u hu)) hu hd (by rw [hT.s,hc.get.1])
def Bg6 {t g o j tt m:Nat} {A cs B r:am} [AggC P t m] (hx:ev fr x=some (Gj g o j)) (hm:Pc.row g tt o A cs B∈H) (hc:Cut cs j m r):Yd P n fr H (.load t x) ty (.agg r.toArray):=.mk fun a w d pos Cf gd hA hH=>by
 simp [execOp,hA.ev hx,Gj,Ahg (Iv (hH _ hm)) hc]
def Ben {t b o j m:Nat} {cs r:am} [AggC P t m] (hx:ev fr x=some (Gj b o j)) (hm:Pc.cel b o cs∈H) (hc:Cut cs j m r):Yd P n fr H (.load t x) ty (.agg r.toArray):=.mk fun a w d pos Cf gd hA hH=>by
 simp [execOp,hA.ev hx,Gj,Ahg (hH _ hm).2 hc]
def Bim {t i g o j off ft m:Nat} [hF:FldC P t i off ft m] (hx:ev fr x=some (Gj g o j)):Yd P n fr H (.fieldAddr t x i) ty (Gj g o (j+off)):=.mk fun a w d pos Cf gd hA _=>by
 obtain ⟨fs,f,hu,hf,rfl,rfl⟩:=hF.f;simp [execOp,hA.ev hx,Gj,Instr.fieldAt,run_underlying hu,hf,Instr.sureAddr,fieldPlace,Nb hF.s,hF.p,Addr.add_lit,fB]
def Bg4 {t i off ft m:Nat} {l:am} [hF:FldC P t i off ft m] [hT:OneC P ft] (hx:ev fr x=some (.agg l.toArray)) (hv:l[off]?=some v):Yd P n fr H (.field t x i) ty v:=.mk fun a w d pos Cf gd hA _=>by
 obtain ⟨fs,f,hu,hf,rfl,rfl⟩:=hF.f;simp [execOp,hA.ev hx,Instr.field,run_underlying hu,hf,asAgg,part,An5 hT.d,hv]
def Bem {t i off ft m m':Nat} {l r:am} [hF:FldC P t i off ft m] [hT:AggC P ft m'] (hx:ev fr x=some (.agg l.toArray)) (hc:Cut l off m' r):Yd P n fr H (.field t x i) ty (.agg r.toArray):=.mk fun a w d pos Cf gd hA _=>by
 obtain ⟨fs,f,hu,hf,rfl,rfl⟩:=hF.f;have e:l.toArray.extract f.offset (f.offset+m')=r.toArray:=by
  obtain ⟨h1,h2⟩:=hc.get;apply fO;simp only [List.extract_toArray,List.extract_eq_take_drop,Nat.add_sub_cancel_left];apply du;intro i;rw [List.getElem?_take]
  split
  ·rename_i hi;have hr:r[i]?=some (r[i]'EY):=aE EY;rw [dH,hr];exact h2 i _ hr
  ·rw [bp EY]
 simp [execOp,hA.ev hx,Instr.field,run_underlying hu,hf,asAgg,part,Aun hT.d,Nb hT.s,<-e]
def Bhg {g o j:Nat} (hx:ev fr x=some (Gj g o j)):Yd P n fr H (.nilCheck x) ty (Gj g o j):=.mk fun a w d pos Cf gd hA _=>by
 simp [execOp,hA.ev hx,Gj]
def Beq {f:Nat} {l:Array Value} (hx:ev fr x=some (.func (.func f) #[] l)):Yd P n fr H (.nilCheck x) ty (.func (.func f) #[] l):=.mk fun a w d pos Cf gd hA _=>by
 simp [execOp,hA.ev hx]
def Biq {t e m b o len cp:Nat} {kd:IntKind} {i:Int} [hS:SlC P t e m] (hx:ev fr x=some (ab (some ⟨b,o,none⟩) len cp)) (hy:ev fr y=some (.int kd i)) (h0:0<=i) (h1:i < len) :
  Yd P n fr H (.indexAddr t x y) ty (Gj b (o+i.toNat * m) 0):=.mk fun a w d pos Cf gd hA _=>by
 simp [execOp,hA.ev hx,hA.ev hy,Instr.indexAt,run_underlying hS.u,asIntOf,h0,h1,Nb hS.s,Addr.add_lit,Gj]
def Bbt {t:Nat} {kd:IntKind} {i:Int} {s:au} [hS:StrC P t] (hx:ev fr x=some (af s)) (hy:ev fr y=some (.int kd i)) (h0:0<=i) (h1:i.toNat < s.size) :
  Yd P n fr H (.index t x y) ty (.int .u8 (s[i.toNat]'h1).toNat):=.mk fun a w d pos Cf gd hA _=>by
 simp [execOp,hA.ev hx,hA.ev hy,Instr.index,run_underlying hS.u,asIntOf,h0,h1]
def Bil {i:Nat} {l:am} (hx:ev fr x=some (.tuple l.toArray)) (hv:l[i]?=some v):Yd P n fr H (.extract x i) ty v:=.mk fun a w d pos Cf gd hA _=>by
 simp [execOp,hA.ev hx,Instr.extract,hv]
def Bhh {b:Bool} {t:Nat} (hx:ev fr x=some (.bool b)):Yd P n fr H (.unOp .not t x) ty (.bool (!b)):=.mk fun a w d pos Cf gd hA _=>by
 simp [execOp,hA.ev hx,Op.unary]
def Ber {p:Prop} {_:Decidable p} {t:Nat} (hx:ev fr x=some (.bool (decide p))):Yd P n fr H (.unOp .not t x) ty (.bool (decide (¬p))):=.mk fun a w d pos Cf gd hA _=>by
 simp [execOp,hA.ev hx,Op.unary]
def Bhd {a:Int} {t:Nat} (hx:ev fr x=some (aa a)) (h0:-9223372036854775808<=-a) (h1:-a<=9223372036854775807):Yd P n fr H (.unOp .neg t x) ty (aa (-a)):=.mk fun a w d pos Cf gd hA _=>by
 simp [execOp,hA.ev hx,Op.unary,Op.intArith,IntWalk.i64_in _ ⟨h0,h1⟩]
section
variable {a b:Int} {t t':TypeId} (hx:ev fr x=some (aa a)) (hy:ev fr y=some (aa b))
include hx hy
def Bgz (h0:-9223372036854775808<=a+b) (h1:a+b<=9223372036854775807):Yd P n fr H (.binOp .add t x y t') ty (aa (a+b)):=.mk fun a w d pos Cf gd hA _=>by
 simp [execOp,hA.ev hx,hA.ev hy,eqGuard_add,binOp_add,Op.intArith,IntWalk.i64_in _ ⟨h0,h1⟩]
def Bhl (h0:-9223372036854775808<=a - b) (h1:a - b<=9223372036854775807):Yd P n fr H (.binOp .sub t x y t') ty (aa (a - b)):=.mk fun a w d pos Cf gd hA _=>by
 simp [execOp,hA.ev hx,hA.ev hy,eqGuard_sub,binOp_sub,Op.intArith,IntWalk.i64_in _ ⟨h0,h1⟩]
def Bhb (h0:-9223372036854775808<=a * b) (h1:a * b<=9223372036854775807):Yd P n fr H (.binOp .mul t x y t') ty (aa (a * b)):=.mk fun a w d pos Cf gd hA _=>by
 simp [execOp,hA.ev hx,hA.ev hy,eqGuard_mul,binOp_mul,Op.intArith,IntWalk.i64_in _ ⟨h0,h1⟩]
def Bhi (h0:0<=a) (h2:a<=9223372036854775807) (h1:0 < b):Yd P n fr H (.binOp .quo t x y t') ty (aa (a / b)):=.mk fun c w d pos Cf gd hA _=>by
 have hle:a / b<=a:=Int.ediv_le_self _ h0;have hge:0<=a / b:=Int.ediv_nonneg h0 EY;have hb:b≠0:=EY
 simp [execOp,hA.ev hx,hA.ev hy,eqGuard_quo,binOp_quo,Op.intDiv,hb,fG h0,IntWalk.i64_in _ ⟨(by omega:-9223372036854775808<=a / b),(by omega:a / b<=9223372036854775807)⟩]
def Bhj (h0:0<=a) (h1:0 < b):Yd P n fr H (.binOp .rem t x y t') ty (aa (a % b)):=.mk fun c w d pos Cf gd hA _=>by
 have hb:b≠0:=EY
 simp [execOp,hA.ev hx,hA.ev hy,eqGuard_rem,binOp_rem,Op.intDiv,hb,fD h0]
end
section
variable {a b:Int} {k:IntKind} {t t':TypeId} (hx:ev fr x=some (.int k a)) (hy:ev fr y=some (.int k b))
include hx hy
def Bha {ts:Array TypeId}:Yd P n fr H (.call { callee:=.builtin .min,args:=#[x,y],argTypes:=ts }) ty (.int k (min a b)):=.mk fun c w d pos Cf gd hA _=>by
 have e:(if b < a then b else a)=min a b:=by split <;> omega
 simp [execOp,hA.ev hx,hA.ev hy,resolve,invoke,builtin,run_min_int2,e]
def Bg9 {ts:Array TypeId}:Yd P n fr H (.call { callee:=.builtin .max,args:=#[x,y],argTypes:=ts }) ty (.int k (max a b)):=.mk fun c w d pos Cf gd hA _=>by
 have e:(if a < b then b else a)=max a b:=by split <;> omega
 simp [execOp,hA.ev hx,hA.ev hy,resolve,invoke,builtin,run_max_int2,e]
def Biu:Yd P n fr H (.binOp .lss t x y t') ty (.bool (decide (a < b))):=.mk fun a w d pos Cf gd hA _=>by
 simp [execOp,hA.ev hx,hA.ev hy,eqGuard_lss,binOp_lss]
def Bis:Yd P n fr H (.binOp .leq t x y t') ty (.bool (decide (a<=b))):=.mk fun a w d pos Cf gd hA _=>by
 simp [execOp,hA.ev hx,hA.ev hy,eqGuard_leq,binOp_leq]
def Bip:Yd P n fr H (.binOp .gtr t x y t') ty (.bool (decide (b < a))):=.mk fun a w d pos Cf gd hA _=>by
 simp [execOp,hA.ev hx,hA.ev hy,eqGuard_gtr,binOp_gtr]
def Bio:Yd P n fr H (.binOp .geq t x y t') ty (.bool (decide (b<=a))):=.mk fun a w d pos Cf gd hA _=>by
 simp [execOp,hA.ev hx,hA.ev hy,eqGuard_geq,binOp_geq]
def Bik:Yd P n fr H (.binOp .eql t x y t') ty (.bool (decide (a=b))):=.mk fun a w d pos Cf gd hA _=>by
 simp [execOp,hA.ev hx,hA.ev hy,eqGuard_at_int,binOp_eql];rfl
def Biv:Yd P n fr H (.binOp .neq t x y t') ty (.bool (decide (¬a=b))):=.mk fun a w d pos Cf gd hA _=>by
 simp [execOp,hA.ev hx,hA.ev hy,eqGuard_at_int,binOp_neq,bne];rfl
end
section
variable {a b:au} {t t':TypeId} (hx:ev fr x=some (af a)) (hy:ev fr y=some (af b))
include hx hy
def Hh (h:a.size+b.size<=9223372036854775807):Yd P n fr H (.binOp .add t x y t') ty (af (a++b)):=.mk fun c w d pos Cf gd hA _=>by
 have:¬((a.size:Int)+b.size > 9223372036854775807):=EY
 simp [execOp,hA.ev hx,hA.ev hy,eqGuard_add,binOp,Op.stringOp,this]
def Bg3:Yd P n fr H (.binOp .eql t x y t') ty (.bool (decide (a=b))):=.mk fun c w d pos Cf gd hA _=>by
 simp [execOp,hA.ev hx,hA.ev hy,eqGuard_at_string,binOp,Op.stringOp,Aew a b]
def Bhf:Yd P n fr H (.binOp .neq t x y t') ty (.bool (decide (¬a=b))):=.mk fun c w d pos Cf gd hA _=>by
 simp [execOp,hA.ev hx,hA.ev hy,eqGuard_at_string,binOp,Op.stringOp,Aew a b]
end
def Agx {t:TypeId} [hB:BoolC P t] (a b:Bool) (w:World):(Op.equal t (.bool a) (.bool b)).run P w=.ok (a == b) w:=by
 unfold Op.equal;rw [show Op.maxDepth=9999+1 from rfl];unfold Op.equalIn;rw [Sem.run_bind,run_underlying hB.u w];rfl
def Bg2 {a b:Bool} {t t':TypeId} [hB:BoolC P t] (hx:ev fr x=some (.bool a)) (hy:ev fr y=some (.bool b)):Yd P n fr H (.binOp .eql t x y t') ty (.bool (decide (a=b))):=.mk fun c w d pos Cf gd hA _=>by
 have e:binOp .eql t (.bool a) (.bool b)=(do pure (.bool (<-Op.equal t (.bool a) (.bool b)))):=rfl;exact EB
def Bhc {a b:Bool} {t t':TypeId} [hB:BoolC P t] (hx:ev fr x=some (.bool a)) (hy:ev fr y=some (.bool b)):Yd P n fr H (.binOp .neq t x y t') ty (.bool (decide (¬a=b))):=.mk fun c w d pos Cf gd hA _=>by
 have e:binOp .neq t (.bool a) (.bool b)=(do pure (.bool (!(<-Op.equal t (.bool a) (.bool b))))):=rfl;exact EB
def Ap1 {k k':IntKind} {a:Int} {s t:TypeId} [hS:IntC P s k'] [hD:IntC P t .i64] (hx:ev fr x=some (.int k a)) (h0:-9223372036854775808<=a) (h1:a<=9223372036854775807):Yd P n fr H (.convert s t x) ty (aa a):=.mk fun c w d pos Cf gd hA _=>by
 simp [execOp,hA.ev hx,convert,run_underlying hS.u,run_underlying hD.u,Conv.intToInt,IntWalk.i64_in _ ⟨h0,h1⟩]
def Bg8 {a:aj} {len cp t e m:Nat} [hS:SlC P t e m] (hx:ev fr x=some (ab a len cp)):Yd P n fr H (.call { callee:=.builtin .len,args:=#[x],argTypes:=#[t] }) ty (aa len):=.mk fun c w d pos Cf gd hA _=>by
 simp [execOp,hA.ev hx,resolve,invoke,builtin,Builtin.len_,run_underlying hS.u,goInt]
def Beo {s:au} {t:Nat} [hS:StrC P t] (hx:ev fr x=some (af s)):Yd P n fr H (.call { callee:=.builtin .len,args:=#[x],argTypes:=#[t] }) ty (aa s.size):=.mk fun c w d pos Cf gd hA _=>by
 simp [execOp,hA.ev hx,resolve,invoke,builtin,run_len_string (h:=hS.u),goInt]
def Pd {t e m i:Nat} {a:aj} {len cp:Nat} {z:Int} [hS:SlC P t e m] (hx:ev fr x=some (ab a len cp)) (hy:ev fr y=some (aa z)) (hz:z=(i:Int)) (hi:i<=cp) (hc:cp<=9223372036854775807):Yd P n fr H (.slice t x none (some y) none) ty (ab a i cp):=.mk fun ac w d pos Cf gd hA _=>by
 subst hz;have he2:P.elem t=e:=IH
 have h3:(Instr.sliceAt t (ab a len cp) none (some (aa (i:Int))) none).run P w=.ok (ab a i cp) w:=by
  rw [run_sliceAt_slice (h:=GE),run_slice_h (ht:=GE) (h0:=EY) (h2:=EY),he2,Nb hS.s];have h0:a.map (fun b=>b.add 0)=a:=by cases a <;> simp [Addr.add]
  simp [Result.andThen,sliced,h0]
 exact BK
def Bin {f:Nat} {caps:List Operand} {vs:am} (hc:Evs fr caps vs):Yd P n fr H (.makeFunc (.func f) #[] caps.toArray) ty (.func (.func f) #[] vs.toArray):=.mk fun c w d pos Cf gd hA _=>by
 simp [execOp,Instr.makeFunc,hA.evs hc]
end
def M5 (w:World) (g:Nat):∀(c:am) (w:World) (p:Nat),Oj w g p c=w.setCells g p c
 | [],_,_=>rfl
 | _::r,_,_=>M5 w g r _ _
def Nv (z:Array Value) (n:Nat):(Builtin.zeroCells z n).toList.length=n * z.size:=by simp [Builtin.zeroCells]
def Ajc (z:Array Value) (h:∀u∈z,u.oneCell'=true) (n:Nat):∀u∈(Builtin.zeroCells z n).toList,u.oneCell'=true:=by
 intro u hu;simp only [Builtin.zeroCells,Array.toList_map,bL] at hu;obtain ⟨i,hi,rfl⟩:=hu;simp at hi;have hz:0 < z.size:=Nat.pos_of_ne_zero fun e=>by rw [e,Nat.mul_zero] at hi;omega
 have hm:i % z.size < z.size:=Nat.mod_lt _ hz;rw [getElem!_pos z _ hm];exact h _ (Array.getElem_mem _)
def Uc {P:Program} (w:World) (t e ty:TypeId) (z:Value) (ht:P.underlying t=some (.slice e)) (hv:∀w,(zeroValue e).run P w=.ok z w) (h1:∀u∈z.cells,u.oneCell'=true) (b o n c:Nat) (hn:0 < n)
  (hc:∀j,j < n * z.cells.size->(w.cell? ⟨b,o+j,none⟩).isSome=true) (hf:∀j,j < n * z.cells.size->w.frozen? ⟨b,o+j,none⟩=false) :
  (Builtin.clear_ #[t] ty #[ab (some ⟨b,o,none⟩) n c]).run P w=.ok (.tuple #[]) (w.setCells b o (Builtin.zeroCells z.cells n).toList):=by
 have hst:=run_storeCells_cells (P:=P) b o (Builtin.zeroCells z.cells n).toList 0 w (by rw [Nv];simpa using hc) (by rw [Nv];simpa using hf) (Ajc _ h1 _);simp only [bT] at hst;obtain ⟨m,rfl⟩:∃m,n=m+1:=⟨n - 1,EY⟩;simp [Builtin.clear_,run_underlying ht,hv,hst]
def Xl {P:Program} {e:TypeId} {z:Value} {size bytes:Nat} (h:(P.info? e).map (fun i=>(i.zero,i.size,i.bytes))=some (some z,size,bytes)):∀w,(zeroValue e).run P w=.ok z w:=fun w=>by
 obtain ⟨i,hi,hzz⟩:=cu.1 h;simp only [Prod.mk.injEq] at hzz;obtain ⟨hz, -, -⟩:=hzz;simp [zeroValue,typeInfo,hi,hz]
def Zi {α:Type} {p:α->Bool} {xs:List α} (h:xs.any p=true):∃k,∃hk:k < xs.length,Si p xs=k/\p xs[k]=true/\(xs.take k).filter (fun x=>!p x)=xs.take k:=by
 have hk:xs.findIdx p < xs.length:=eL (by obtain ⟨x,hx,hp⟩:=cG.1 h;exact ⟨x,hx,hp⟩);refine ⟨_,hk,by unfold Si;rw [aH h],gm (w:=hk),?_⟩;rw [dA];intro x hx;obtain ⟨i,hi,rfl⟩:=cQ.1 hx;have:=List.not_of_lt_findIdx (p:=p) (xs:=xs) (show i < xs.findIdx p by omega);exact EV
def Abv {α:Type} {p:α->Bool} {xs:List α} (h:¬xs.any p=true):Si p xs=-1/\xs.filter (fun x=>!p x)=xs:=by
 refine ⟨by unfold Si;rw [aC h],?_⟩;rw [dA];intro x hx;cases hp:p x
 ·rfl
 ·exact absurd (cG.2 ⟨x,hx,hp⟩) h
def Hj {α:Type} {q:α->Bool} {xs:List α} {j:Nat} (h:j < xs.length) (hq:q xs[j]=true):(xs.take (j+1)).filter q=(xs.take j).filter q++[xs[j]]:=by
 rw [aR h,cj];simp [hq]
def Db {α:Type} {q:α->Bool} {xs:List α} {j:Nat} (h:j < xs.length) (hq:q xs[j]=false):(xs.take (j+1)).filter q=(xs.take j).filter q:=by
 rw [aR h,cj];simp [hq]
def Ah8 {w:World} {g off n:Nat} {c c':am} (h:c.length=n) (h':c'.length=n) (hc:∀j,j < n->w.cell? ⟨g,off+j,none⟩=c[j]?) (hc':∀j,j < n->w.cell? ⟨g,off+j,none⟩=c'[j]?):c=c':=by
 apply du;intro j;by_cases hj:j < n
 ·rw [<-hc j hj,hc' j hj]
 ·rw [bp EY,bp EY]
def Gap {α:Type} (O:B8 α) (t:TypeId) (w:World) (g n cap:Nat) (ys:List α) (m:Nat) (zs:List α) (F:aq):Prop :=
 ∃c1 jk c3 rest G1 G3,n=ys.length+m+zs.length/\Ip w g t (c1++jk++c3++rest)/\n<=cap/\cap<=maxLen/\c1.length+jk.length+c3.length+rest.length=cap * O.sz/\jk.length=m * O.sz /\
  Cw O w c1 ys G1/\Cw O w c3 zs G3/\F=g::(G1++G3)/\F.Nodup
section
variable {α:Type} {O:B8 α} {t:TypeId} {w:World} {g n cap m:Nat} {ys zs:List α} {F:aq}
def Gap.start {a:aj} {n:Nat} {xs:List α} (h:Ow O t w (ab a n cap) xs F) (hn:F.Nodup) (e:xs=ys++zs) (h0:0 < xs.length):∃g,a=some ⟨g,0,none⟩/\n=xs.length/\Gap O t w g n cap ys 0 zs F:=by
 subst e;rcases h with ⟨_,h1,_⟩|⟨g,cap',cs,rest,G,hv,hr,h3,h4,h5,hf,rfl⟩
 ·rw [h1] at h0;simp at h0
 ·cases hv;obtain ⟨c1,c2,G1,G2,rfl,rfl,f1,f2⟩:=hf.split;refine ⟨g,rfl,rfl,c1,[],c2,rest,G1,G2,FA,GL,h3,h4,by simpa using h5,FA,f1,f2,rfl,hn⟩
def Gap.skip {x:α} (h:Gap O t w g n cap ys m (x::zs) F):∃F',Gap O t w g n cap ys (m+1) zs F'/\∀b∈F',b∈F:=by
 obtain ⟨c1,jk,c3,rest,G1,G3,hn,hr,h1,h2,h3,h4,f1,⟨c,c4,Fx,G4,rfl,rfl,hx,f3⟩,rfl,hnd⟩:=h;have hl:=O.len hx;refine ⟨g::(G1++G4),⟨c1,jk++c,c4,rest,G1,G4,by simp at hn ⊢;omega,GL,h1,h2,by simp at h3 ⊢;omega,by rw [aA,h4,hl,cC];simp,f1,f3,rfl,?_⟩,by intro b hb;simp at hb ⊢;rcases hb with hb|hb|hb <;> simp [hb]⟩;simp only [dm,bO,aJ,not_or] at hnd ⊢;exact ⟨⟨hnd.1.1,hnd.1.2.2⟩,hnd.2.1,hnd.2.2.1.2.1,fun a ha b hb=>hnd.2.2.2 a ha b (.inr hb)⟩
def Gap.first {x:α} (h:Gap O t w g n cap ys m (x::zs) F):∃c Fx,O.Mj w c x Fx/\(∀b∈Fx,b∈F)/\∀j,j < O.sz->w.cell? ⟨g,(ys.length+m) * O.sz+j,none⟩=c[j]?:=by
 obtain ⟨c1,jk,c3,rest,G1,G3,hn,hr,h1,h2,h3,h4,f1,⟨c,c4,Fx,G4,rfl,rfl,hx,f3⟩,rfl,hnd⟩:=h;have hl:=O.len hx;refine ⟨c,Fx,hx,fun b hb=>by simp [hb],fun j hj=>?_⟩;have hr':Ip w g t ((c1++jk)++c++(c4++rest)):=GL
 exact hr'.cellMid (by rw [aA,f1.len,h4,cC]) EY
def Gap.move {x:α} (hm:0 < m) (h:Gap O t w g n cap ys m (x::zs) F) :
  (∀j,j < O.sz->(∃u,w.cell? ⟨g,ys.length * O.sz+j,none⟩=some u)/\w.frozen? ⟨g,ys.length * O.sz+j,none⟩=false) /\
  ∃c Fx,O.Mj w c x Fx/\(∀b∈Fx,b∈F)/\(∀j,j < O.sz->w.cell? ⟨g,(ys.length+m) * O.sz+j,none⟩=c[j]?)/\∀w',Below w.heap.size w w'->∃F',Gap O t (Oj w' g (ys.length * O.sz) c) g n cap (ys++[x]) m zs F'/\∀b∈F',b∈F:=by
 obtain ⟨c,Fx,hx0,hxF,hcell⟩:=h.first
 obtain ⟨c1,jk,c3,rest,G1,G3,hn,hr,h1,h2,h3,h4,f1,⟨c',c4,Fx',G4,rfl,rfl,hx,f3⟩,rfl,hnd⟩:=h;have hl:=O.len hx;have hl0:=O.len hx0;obtain ⟨m',rfl⟩:∃m',m=m'+1:=⟨m - 1,EY⟩;have hjk:jk=jk.take O.sz++jk.drop O.sz:=FA
 have hjl:(jk.take O.sz).length=O.sz:=by rw [aP,h4,cC];omega
 have hA:=f1.len;have hr':Ip w g t (c1++jk.take O.sz++(jk.drop O.sz++c'++c4++rest)):=by
  have e:c1++jk.take O.sz++(jk.drop O.sz++c'++c4++rest)=c1++jk++(c'++c4)++rest:=by
   simp only [aM];rw [<-aM (jk.take O.sz),bo]
  rw [e];exact hr
 have hcc:c=c':=by
  apply du ;intro j;by_cases hj:j < O.sz
  ·have hr2:Ip w g t ((c1++jk)++c'++(c4++rest)):=GL
   rw [<-hcell j hj,hr2.cellMid (by rw [aA,hA,h4,<-cC]) EY]
  ·rw [bp EY,bp EY]
 refine ⟨fun j hj=>⟨⟨_,by rw [hr'.cellMid (j:=j) EY EY,aE EY]⟩,hr'.frozen _⟩,c,Fx',hcc▸hx,fun b hb=>by simp [hb],hcell,fun w' hb=>?_⟩;subst hcc;have hgl:=hr.lt;have hnd':=hnd;simp only [dm,bO,aJ,not_or] at hnd';have hrow:=(hr'.below hb).put c (jk.take O.sz) (p:=ys.length * O.sz) hA.symm EY;have hfr:∀b,b < w.heap.size->b≠g->(Oj w' g (ys.length * O.sz) c).heap[b]?=w.heap[b]?:=fun b hb1 hb2=>(Ok c w' _ b hb2).trans (hb.block b hb1);have n1:∀b∈G1,b≠g:=fun b hb e=>hnd'.1.1 (e▸hb)
 have n2:∀b∈Fx',b≠g:=fun b hb e=>hnd'.1.2.1 (e▸hb);have n3:∀b∈G4,b≠g:=fun b hb e=>hnd'.1.2.2 (e▸hb);refine ⟨g::((G1++Fx')++G4),⟨c1++c,jk.drop O.sz++c,c4,rest,G1++Fx',G4,by simp at hn ⊢;omega,?_,h1,h2,?_,?_,?_,f3.frame fun b hb=>hfr b (f3.lt b hb) (n3 b hb),rfl,?_⟩,by intro b hb;simpa [or_assoc] using hb⟩
 ·simpa using hrow
 ·simp [h4,cC] at h3 ⊢;omega
 ·simp [h4,cC];omega
 ·exact (f1.frame fun b hb=>hfr b (f1.lt b hb) (n1 b hb)).append (Cw.one (O.frame hx fun b hb=>hfr b (O.lt hx b hb) (n2 b hb)))
 ·simpa using hnd
def Gap.below {w':World} (h:Gap O t w g n cap ys m zs F) (hb:Below w.heap.size w w'):Gap O t w' g n cap ys m zs F:=by
 obtain ⟨c1,jk,c3,rest,G1,G3,hn,hr,h1,h2,h3,h4,f1,f3,hF,hnd⟩:=h;exact ⟨c1,jk,c3,rest,G1,G3,hn,hr.below hb,h1,h2,h3,h4,f1.frame fun b h=>hb.block b (f1.lt b h),f3.frame fun b h=>hb.block b (f3.lt b h),hF,hnd⟩
def Gap.caps (h:Gap O t w g n cap ys m zs F):n=ys.length+m+zs.length/\n<=cap/\cap<=maxLen/\g < w.heap.size/\g∈F/\F.Nodup:=by
 obtain ⟨c1,jk,c3,rest,G1,G3,hn,hr,h1,h2,h3,h4,f1,f3,rfl,hnd⟩:=h;exact ⟨hn,h1,h2,hr.lt,FA,hnd⟩
def Gap.done {z:Array Value} (hz:z.size=O.sz) (h:Gap O t w g n cap ys m [] F) :
  (∀j,j < m * O.sz->(w.cell? ⟨g,ys.length * O.sz+j,none⟩).isSome=true/\w.frozen? ⟨g,ys.length * O.sz+j,none⟩=false) /\
  ∃F',Ow O t (w.setCells g (ys.length * O.sz) (Builtin.zeroCells z m).toList) (ab (some ⟨g,0,none⟩) ys.length cap) ys F'/\F'.Nodup/\∀b∈F',b∈F:=by
 obtain ⟨c1,jk,c3,rest,G1,G3,hn,hr,h1,h2,h3,h4,f1,⟨rfl,rfl⟩,rfl,hnd⟩:=h;have hA:=f1.len;simp only [bc] at hr hnd;have hr':Ip w g t (c1++jk++rest):=hr;refine ⟨fun j hj=>⟨?_,hr'.frozen _⟩,g::G1,?_,hnd,FA⟩
 ·rw [hr'.cellMid (j:=j) EY EY,aE EY];rfl
 ·rw [<-M5 w];have hrow:=hr'.put (Builtin.zeroCells z m).toList jk (p:=ys.length * O.sz) hA.symm (by rw [Nv,h4,hz]);have hng:g ∉ G1:=by simp at hnd;exact hnd.1
  refine .inr ⟨g,cap,c1,(Builtin.zeroCells z m).toList++rest,G1,rfl,by simpa using hrow,by simp at hn;omega,h2,?_,f1.frame fun b hb=>Ok _ _ _ _ fun e=>hng (e▸hb),rfl⟩;rw [aA,Nv,hz,<-h4];simp at h3;omega
end
class ZC (P:Program) (t:TypeId) (zs:outParam (am)):Prop where
 z:∃v,(P.info? t).map (·.zero)=some (some v)/\v.cells=zs.toArray
class ElT (P:Program) (e:TypeId) (z:outParam Value) (n:outParam Nat) (by_:outParam Nat):Prop where
 i:(P.info? e).map (fun i=>(i.zero,i.size,i.bytes))=some (some z,n,by_)
 s:z.cells.size=n
class BldC (P:Program) (t:TypeId) (pl:outParam (List (Nat × Nat))) (zs:outParam (am)):Prop where
 b:∀parts,P.built t parts=Instr.fill (pl.toArray[·]?) zs.toArray parts
def Rr (P:Program) (f:FuncId):Bool:=match P.funcs[f]? with
 | some fn=>!(fn.name == "runtime.NumGoroutine") && !fn.body.isNone
 | none=>false
def Wf {P:Program} {f:FuncId} (h:Rr P f=true):Zw P f:=by
 unfold Rr at h
 split at h
 ·rename_i fn hf;simp only [aw,bw] at h;exact .mk' hf h.1 h.2
 ·cases h
structure Ef (c:Cx) (fr:Fr) (H:List Pc) (o:Oper) (Φ:Gl):Prop where
 h:∀Q a w,St c.G c.D c.w0 H w->Ag c.n fr a->o.wp c.P a w (Φ.sem c) Q
structure Cl (c:Cx) (fr:Fr) (H:List Pc) (d:Nat) (f:FuncId) (vs:am) (Φ:Gl):Prop where
 h:∀w,St c.G c.D c.w0 H w->∃R:Ending->World->Prop,Calls c.P f vs.toArray w R/\∀e w',R e w'->∃v,e=.returned v/\∀a,Ag c.n ((d,v)::fr) a->Φ.sem c a w'
def Ph {c:Cx} {fr:Fr} {H:List Pc} {o:Oper} {Φ:Gl} (h:∀Q a w,St c.G c.D c.w0 H w->Ag c.n fr a->Oper.upon c.P o a (Φ.sem c) Q ((execOp a.eval o).run c.P w)):Ef c fr H o Φ:=⟨h⟩
inductive Rpl:List Pc->Pc->Pc->List Pc->Prop
 | here {p q R}:Rpl (p::R) p q (q::R)
 | there {x p q R S}:Rpl R p q S->Rpl (x::R) p q (x::S)
def Rpl.picks {H p q S} (h:Rpl H p q S):∃R,C1 H p R/\C1 S q R:=by
 induction h with
 | here=>exact ⟨_,.here,.here⟩
 | there _ ih=>obtain ⟨R,h1,h2⟩:=ih;exact ⟨_,.there h1,.there h2⟩
def C1.unsep {H p R} (h:C1 H p R) (hs:Ti (p::R)):Ti H:=by
 induction h with
 | here=>exact hs
 | @there x p R R' h ih =>
  have h2:=Ti.perm2 hs;have h3:=ih h2.2;refine ⟨fun q hq=>?_,h3⟩;have:∀{A:List Pc} {p B},C1 A p B->∀q∈A,q=p\/q∈B:=by
   intro A p B h
   induction h with
   | here=>intro q hq;simpa using hq
   | there _ ih =>
    intro q hq;rcases aG.1 hq with rfl|hq
    ·simp
    ·rcases ih q hq with h|h <;> simp [h]
  rcases this h q hq with rfl|hq
  ·exact h2.1 _ FA
  ·exact h2.1 _ GB
def C1.or {A:List Pc} {p B} (h:C1 A p B):∀q∈A,q=p\/q∈B:=by
 induction h with
 | here=>intro q hq;simpa using hq
 | there _ ih =>
  intro q hq;rcases aG.1 hq with rfl|hq
  ·simp
  ·rcases ih q hq with h|h <;> simp [h]
def St.unpick {G D w0 H p R w} (s:St G D w0 (p::R) w) (h:C1 H p R):St G D w0 H w :=
 ⟨s.Je,fun q hq=>by rcases h.or q hq with rfl|hq;exact s.on _ FA;exact s.on _ GB,h.unsep s.sep,fun q hq=>by rcases h.or q hq with rfl|hq;exact s.Adw _ FA;exact s.Adw _ GB⟩
def St.rpl {G D w0 H p q S} {w w':World} (s:St G D w0 H w) (h:Rpl H p q S) (hm:p.mu=true) (hF:∀b∈q.F,b∈p.F\/w.heap.size<=b) (hk:Ek p.F w w') (hq:q.P w'):St G D w0 S w':=by
 obtain ⟨R,h1,h2⟩:=h.picks;refine St.unpick (R:=R) ?_ h2;refine St.turn (M:=[p]) (R:=R) (N:=[q]) (s.pick h1) (by simpa [List.filter,hm,fp] using hk) (by intro x hx;simp at hx;subst hx;exact hq) ⟨FA,trivial⟩ fun x hx b hb=>?_;simp at hx;subst hx;rcases hF b hb with h|h
 ·exact .inr (.inl ⟨p,FA,hm,h⟩)
 ·exact .inl h
def St.add {G D w0 H} {w w':World} {N:List Pc} (s:St G D w0 H w) (hb:Below w.heap.size w w') (hN:O8 N w') (hs:Ti N) (hF:∀p∈N,∀b∈p.F,w.heap.size<=b\/(p.mu=false/\∃q∈H,q.mu=false/\b∈q.F)):St G D w0 (N++H) w' :=
 St.turn (M:=[]) (R:=H) (N:=N) s (by simpa [fp] using Ek.ofBelow hb) hN hs fun p hp b hb=>by
  rcases hF p hp b hb with h|h
  ·exact .inl h
  ·exact .inr (.inr FI)
def St.below {G D w0 H} {w w':World} (s:St G D w0 H w) (hb:Below w.heap.size w w'):St G D w0 H w':=s.add (N:=[]) hb (by intro p hp;simp at hp) trivial FA
def Um (w:World) (o:Obj):Below w.heap.size w (w.alloc o):=(Below.refl _ _).alloc (aK _) o
def St.new {G D w0 H} {w:World} (s:St G D w0 H w) (t:TypeId) (cs:am):St G D w0 (.row w.heap.size t 0 [] cs []::H) (w.alloc (.cells cs.toArray t)) :=
 s.add (N:=[.row w.heap.size t 0 [] cs []]) (Um _ _) (by intro p hp;simp at hp;subst hp;exact ⟨rfl,by simpa using Ip.made w t cs⟩) ⟨FA,trivial⟩ (by intro p hp b hb;simp at hp;subst hp;simp [Pc.F] at hb;subst hb;exact .inl (aK _))
inductive Put:am->Nat->am->am->Prop
 | zero {cs}:Put cs 0 [] cs
 | one {x cs u l r}:Put cs 0 l r->Put (x::cs) 0 (u::l) (u::r)
 | skip {x cs j l r}:Put cs j l r->Put (x::cs) (j+1) l (x::r)
def Put.parts {cs j l r} (h:Put cs j l r):∃A o B,cs=A++o++B/\r=A++l++B/\A.length=j/\o.length=l.length:=by
 induction h with
 | @zero cs=>exact ⟨[],[],cs,FA,FA,rfl,rfl⟩
 | @one x cs u l r _ ih =>
  obtain ⟨A,o,B,rfl,rfl,hA,ho⟩:=ih;have:A=[]:=bD hA;subst this;exact ⟨[],x::o,B,FA,FA,rfl,by simp [ho]⟩
 | @skip x cs j l r _ ih =>
  obtain ⟨A,o,B,rfl,rfl,hA,ho⟩:=ih;exact ⟨x::A,o,B,FA,FA,by simp [hA],ho⟩
def Ai9 {P:Program} {t:TypeId} {n:Nat} (hs:(P.info? t).map (·.size)=some n) {w:World} {b o:Nat} {v:Value} {l:am} (hv:v.cells=l.toArray) (hl:l.length=n) (ht:w.there b o n) (h1:l.all (·.oneCell')=true) :
  (Instr.storeAt t (.pointer (some ⟨b,o,none⟩)) v).run P w=.ok () (w.setCells b o l):=by
 subst hl;have:=run_storeCells_cells (P:=P) b o l 0 w (fun j hj=>by simpa using (ht j hj).1) (fun j hj=>by simpa using (ht j hj).2) (fun v hv=>aW.1 h1 v hv);simp only [bT] at this;simp [Instr.storeAt,Instr.sureAddr,storeVar,Nb hs,hv,this]
def Bd3 {w:World} {g t o j:Nat} {A cs B l r:am} (h:(Pc.row g t o A cs B).P w) (hp:Put cs j l r):(Pc.row g t o A r B).P (w.setCells g (o+j) l)/\Ek [g] w (w.setCells g (o+j) l):=by
 obtain ⟨rfl,h⟩:=h;obtain ⟨X,y,Y,rfl,rfl,rfl,hy⟩:=hp.parts;have h2:Ip w g t ((A++X)++y++(Y++B)):=FI
 have h3:=Ip.put l y h2 (p:=A.length+X.length) FA hy.symm;have hk:=Mi (g:=g) l w (A.length+X.length);rw [M5 w g l w] at h3 hk;exact ⟨⟨rfl,IA⟩,hk⟩
def Fn (P:Program) (f:FuncId) (args:am) (A M:List Pc) {σ:Type} (C:σ->Prop) (v:σ->Value) (N:σ->List Pc):Prop :=
 ∀w,O8 (M++A) w->Ti (M++A)->Calls P f args.toArray w fun e w'=>∃s,C s/\e=.returned (v s)/\O8 (N s) w'/\Ti (N s)/\Ek (fp M) w w' /\
  ∀p∈N s,∀b∈p.F,w.heap.size<=b\/(∃q∈M,b∈q.F)\/(p.mu=false/\∃q∈A,b∈q.F)
inductive Kv:List Pc->List Pc->List Pc->Prop
 | nil {H}:Kv H [] H
 | cons {H p R M S}:C1 H p R->Kv R M S->Kv H (p::M) S
def Kv.st {G D w0 H M R w} (h:Kv H M R):∀{X:List Pc},St G D w0 (X++H) w->St G D w0 (X++(M++R)) w:=by
 induction h with
 | nil=>intro X s;simpa using s
 | @cons H p R M S hp _ ih =>
  intro X s;have h1:∀(X:List Pc),C1 (X++H) p (X++R):=by
   intro X;induction X with
   | nil=>exact hp
   | cons x X ih=>exact .there ih
  have h2:∀(X:List Pc),C1 (X++(p::(M++S))) p (X++(M++S)):=by
   intro X;induction X with
   | nil=>exact .here
   | cons x X ih=>exact .there ih
  have s1:=s.pick (h1 X);have s2:=ih (X:=p::X) (by simpa using s1);exact St.unpick (by simpa using s2) (h2 X)
inductive M8:List Pc->List Pc->Prop
 | nil {H}:M8 [] H
 | cons {p A H}:p∈H->M8 A H->M8 (p::A) H
def M8.all {A H} (h:M8 A H):∀p∈A,p∈H:=by
 induction h with
 | nil=>simp
 | cons h _ ih=>intro q hq;rcases aG.1 hq with rfl|hq;exact h;exact ih q hq
section
variable {c:Cx} {fr:Fr} {H:List Pc} {k:List It} {Φ:Gl} {ops:Array Oper} {rest:List Oper} {d:Nat} {o:Op} {ty:TypeId} {pos:String} {Cf:Array Edge} {v u:Value} {x y:Operand}
def Bjn {o:Oper} (h:Ef c fr H o (.list k ops rest)) (hg:o.guard=none:=by rfl):T c fr H (.list k ops (o::rest)):=.mk fun a w s g =>
 wpList_plain hg fun K hK=>Oper.wp_mono hK (h.h _ a w s g)
def Be2 {gd:Option (Nat × Bool)} (hy:Yd c.P c.n fr H o ty v) (hd:Nat.blt d c.n=true) (h:T c ((d,v)::fr) H Φ):Ef c fr H ⟨some d,o,ty,pos,Cf,gd⟩ Φ:=Ph fun Q a w s g=>by
 rw [hy.h a w (some d) pos Cf gd g s.on];exact h.h _ _ s (g.put hd)
structure On (c:Cx) (fr:Fr) (H:List Pc) (od:Option Tmp) (o:Op) (ty:TypeId) (Φ:Gl):Prop where
 h:∀pos Cf gd,Ef c fr H ⟨od,o,ty,pos,Cf,gd⟩ Φ
def wO {od:Option Tmp} (h:On c fr H od o ty (.list k ops rest)):T c fr H (.list k ops (⟨od,o,ty,pos,Cf,none⟩::rest)):=Bjn (h.h pos Cf none)
def oc (hd:Nat.blt d c.n=true) (hy:Yd c.P c.n fr H o ty v) (h:T c ((d,v)::fr) H Φ):On c fr H (some d) o ty Φ:=⟨fun _ _ _=>Be2 hy hd h⟩
/-! guards of a plain region -/
def V9 {a:Act} {j t:Nat} {b b':Bool} {od:Option Tmp} (ht:(ops[j]?).bind (·.dst)=some t) (hl:Sj fr t=some (.bool b')) (g:Ag c.n fr a):Region.wanted ⟨od,o,ty,pos,Cf,some (j,b)⟩ (yielded ops a.tmps)=(b' == b):=by
 simp only [Region.wanted,yielded,ht,dg,g.at_ t _ hl];cases b <;> cases b' <;> rfl
def Ar3 {j t:Nat} {b:Bool} {od:Option Tmp} (ht:(ops[j]?).bind (·.dst)=some t) (hl:Sj fr t=some (.bool b)) (h:T c fr H (.list k ops (⟨od,o,ty,pos,Cf,none⟩::rest))) :
  T c fr H (.list k ops (⟨od,o,ty,pos,Cf,some (j,b)⟩::rest)):=.mk fun a w s g=>by
 have h1:=h.h a w s g;simp only [Gl.sem] at h1 ⊢;unfold wpList at h1 ⊢;rw [V9 (c:=c) ht hl g];simp only [Region.wanted,if_true,beq_self_eq_true] at h1 ⊢;exact h1
def Ar2 {j t:Nat} {b b':Bool} (ht:(ops[j]?).bind (·.dst)=some t) (hl:Sj fr t=some (.bool b')) (hb:(b' == b)=false) (hd:Nat.blt d c.n=true) (h:T c ((d,undef)::fr) H (.list k ops rest)) :
  T c fr H (.list k ops (⟨some d,o,ty,pos,Cf,some (j,b)⟩::rest)):=.mk fun a w s g=>by
 simp only [Gl.sem];unfold wpList;rw [V9 (c:=c) ht hl g,hb];simp only [d9,if_false];exact h.h _ _ s (g.put hd)
def Ar4 {j t:Nat} {b:Bool} (ht:(ops[j]?).bind (·.dst)=some t) (hl:Sj fr t=some undef) (hd:Nat.blt d c.n=true) (h:T c ((d,undef)::fr) H (.list k ops rest)) :
  T c fr H (.list k ops (⟨some d,o,ty,pos,Cf,some (j,b)⟩::rest)):=.mk fun a w s g=>by
 have hw:Region.wanted ⟨some d,o,ty,pos,Cf,some (j,b)⟩ (yielded ops a.tmps)=false:=by
  simp only [Region.wanted,yielded,ht,dg,g.at_ t _ hl];rfl
 simp only [Gl.sem];unfold wpList;rw [hw];simp only [d9,if_false];exact h.h _ _ s (g.put hd)
def Dd {j t:Nat} {b:Bool} {od:Option Tmp} {p:Prop} {_:Decidable p} (ht:(ops[j]?).bind (·.dst)=some t) (hl:Sj fr t=some (.bool (decide p))) (h1:p->T c ((t,.bool true)::fr) H (.list k ops (⟨od,o,ty,pos,Cf,some (j,b)⟩::rest))) (h2:¬p->T c ((t,.bool false)::fr) H (.list k ops (⟨od,o,ty,pos,Cf,some (j,b)⟩::rest))) :
  T c fr H (.list k ops (⟨od,o,ty,pos,Cf,some (j,b)⟩::rest)):=.mk fun a w s g=>by
 by_cases hp:p
 ·rw [av hp] at hl;exact (h1 hp).h a w s ⟨g.df,g.sz,fun i z hz=>by rw [Vr] at hz;split at hz;(rename_i e;subst e;rw [<-hz,g.at_ _ _ hl]);exact g.at_ i z hz⟩
 ·rw [ay hp] at hl;exact (h2 hp).h a w s ⟨g.df,g.sz,fun i z hz=>by rw [Vr] at hz;split at hz;(rename_i e;subst e;rw [<-hz,g.at_ _ _ hl]);exact g.at_ i z hz⟩
/-! memory -/
def Ax2 {t:TypeId} {zs:am} {gd:Option (Nat × Bool)} [hZ:ZC c.P t zs] (h:∀g,T c ((d,Gj g 0 0)::fr) (.row g t 0 [] zs []::H) Φ) (hd:Nat.blt d c.n=true:=by rfl):Ef c fr H ⟨some d,.alloc t,ty,pos,Cf,gd⟩ Φ:=Ph fun Q a w s g=>by
 obtain ⟨z,hz,hzc⟩:=hZ.z;obtain ⟨i,hi,hiz⟩:=cu.1 hz;have e:(execOp a.eval ⟨some d,.alloc t,ty,pos,Cf,gd⟩).run c.P w=.ok (.value (Gj w.heap.size 0 0)) (w.alloc (.cells zs.toArray t)):=by
  simp [execOp,Instr.alloc,zeroValue,typeInfo,hi,hiz,newVar,newRow,hzc,Gj]
 rw [e];exact (h _).h _ _ (s.new t zs) (g.put hd)
def Bfv {t:TypeId} {l:am} {gd:Option (Nat × Bool)} (hx:ev fr x=some v) (hv:v.cells=l.toArray) (h:∀g,T c ((d,Gj g 0 0)::fr) (.row g t 0 [] l []::H) Φ) (hd:Nat.blt d c.n=true:=by rfl):Ef c fr H ⟨some d,.box t x,ty,pos,Cf,gd⟩ Φ:=Ph fun Q a w s g=>by
 have e:(execOp a.eval ⟨some d,.box t x,ty,pos,Cf,gd⟩).run c.P w=.ok (.value (Gj w.heap.size 0 0)) (w.alloc (.cells l.toArray t)):=by
  simp [execOp,Instr.box,g.ev hx,newVar,newRow,hv,Gj]
 rw [e];exact (h _).h _ _ (s.new t l) (g.put hd)
def Anr {t g tt o' j m:Nat} {A cs B l r:am} {S:List Pc} {gd:Option (Nat × Bool)} (hs:(c.P.info? t).map (·.size)=some m) (hx:ev fr x=some (Gj g o' j)) (hy:ev fr y=some v) (hv:v.cells=l.toArray) (hl:l.length=m) (h1:l.all (·.oneCell')=true)
  (hp:Put cs j l r) (hr:Rpl H (.row g tt o' A cs B) (.row g tt o' A r B) S) (h:T c fr S Φ):Ef c fr H ⟨none,.store t x y,ty,pos,Cf,gd⟩ Φ:=Ph fun Q a w s ag=>by
 have hP:(Pc.row g tt o' A cs B).P w:=by obtain ⟨R,h1,_⟩:=hr.picks;exact s.on _ h1.mem
 have ht:w.there g (o'+j) m:=fun i hi=>by
  obtain ⟨X,z,Y,rfl, -,rfl,hz⟩:=hp.parts;have:=Av3 hP (X.length+i) FF
  rwa [<-fB] at this
 have e:(execOp a.eval ⟨none,.store t x y,ty,pos,Cf,gd⟩).run c.P w=.ok .skip (w.setCells g (o'+j) l):=by
  simp [execOp,ag.ev hx,ag.ev hy,Gj,Ai9 hs hv hl ht h1]
 rw [e];have ⟨h2,h3⟩:=Bd3 hP hp;exact h.h _ _ (s.rpl hr rfl (fun b hb=>.inl hb) h3 h2) ag
def Cn {t:TypeId} {zs:am} [hZ:ZC c.P t zs] (hd:Nat.blt d c.n=true) (h:∀g,T c ((d,Gj g 0 0)::fr) (.row g t 0 [] zs []::H) Φ):On c fr H (some d) (.alloc t) ty Φ:=⟨fun _ _ _=>Ax2 h hd⟩
def Bh9 {t:TypeId} {l:am} (hd:Nat.blt d c.n=true) (hx:ev fr x=some v) (hv:v.cells=l.toArray) (h:∀g,T c ((d,Gj g 0 0)::fr) (.row g t 0 [] l []::H) Φ):On c fr H (some d) (.box t x) ty Φ:=⟨fun _ _ _=>Bfv hx hv h hd⟩
def Azh {t g tt o' j m:Nat} {A cs B l r:am} {S:List Pc} (hx:ev fr x=some (Gj g o' j)) (hy:ev fr y=some v) (hv:v.cells=l.toArray) (hs:(c.P.info? t).map (·.size)=some m) (hl:l.length=m) (hr:Rpl H (.row g tt o' A cs B) (.row g tt o' A r B) S) (hp:Put cs j l r) (h1:l.all (·.oneCell')=true) (h:T c fr S Φ):On c fr H none (.store t x y) ty Φ :=
 ⟨fun _ _ _=>Anr hs hx hy hv hl h1 hp hr h⟩
/-! calls -/
def Be0 {f:Nat} {aS:List Operand} {ts:Array TypeId} {vs:am} {gd:Option (Nat × Bool)} (h:Cl c fr H d f vs Φ) (ha:Evs fr aS vs) (hb:Rr c.P f=true) (hd:Nat.blt d c.n=true):Ef c fr H ⟨some d,.call { callee:=.value (.func f),args:=aS.toArray,argTypes:=ts },ty,pos,Cf,gd⟩ Φ:=Ph fun Q a w s g=>by
 have e:(execOp a.eval ⟨some d,.call { callee:=.value (.func f),args:=aS.toArray,argTypes:=ts },ty,pos,Cf,gd⟩).run c.P w=(callFunc f vs.toArray).run c.P w:=by
  simp [execOp,resolve,Deferred.ofValue,Act.eval,invoke,g.evs ha]
 rw [e];obtain ⟨R,hc,hk⟩:=h.h w s;refine (Wf hb).upon hc fun e w' hR=>?_;obtain ⟨v,he,hv⟩:=hk e w' hR;exact ⟨v,he,hv _ (g.put hd)⟩
def Abo {f:Nat} {vs:am} {R:World->Ending->World->Prop} (hc:∀w,St c.G c.D c.w0 H w->Calls c.P f vs.toArray w (R w))
  (hk:∀w e w',St c.G c.D c.w0 H w->R w e w'->∃v,e=.returned v/\∀a,Ag c.n ((d,v)::fr) a->Φ.sem c a w'):Cl c fr H d f vs Φ:=⟨fun w s=>⟨R w,hc w s,fun e w' hR=>hk w e w' s hR⟩⟩
def cb {f:Nat} {vs:am} (hc:∀w,St c.G c.D c.w0 H w->Calls c.P f vs.toArray w (RB v w)) (h:T c ((d,v)::fr) H Φ):Cl c fr H d f vs Φ :=
 Abo hc fun w e w' s ⟨he,hB⟩=>⟨v,he,fun a g=>h.h a w' (s.below hB) g⟩
def ce {f:Nat} {vs:am} (hc:∀w,St c.G c.D c.w0 H w->Calls c.P f vs.toArray w fun e w'=>e=.returned v/\w=w') (h:T c ((d,v)::fr) H Φ):Cl c fr H d f vs Φ :=
 Abo hc fun w e w' s ⟨he,hB⟩=>⟨v,he,fun a g=>h.h a w' (hB▸s) g⟩
def cf_ {f:Nat} {vs:am} {A M R:List Pc} {σ:Type} {C:σ->Prop} {vv:σ->Value} {N:σ->List Pc} (hf:Fn c.P f vs A M C vv N) (h:∀s,C s->T c ((d,vv s)::fr) (N s++R) Φ)
  (hM:Kv H M R) (hA:M8 A R) (hmM:M.all (·.mu)=true) (hmA:A.all (fun p=>!p.mu)=true):Cl c fr H d f vs Φ :=
 have hMR:∀w,St c.G c.D c.w0 H w->St c.G c.D c.w0 (M++R) w:=fun w s=>by simpa using hM.st (X:=[]) HW
 have hmu:∀p∈M,p.mu=true:=fun p hp=>aW.1 hmM p hp;have hro:∀p∈A,p.mu=false:=fun p hp=>by simpa using aW.1 hmA p hp
 have hpre:∀w,St c.G c.D c.w0 H w->O8 (M++A) w/\Ti (M++A):=fun w s=>by
  have s2:=hMR w s;have hAR:=hA.all;refine ⟨fun p hp=>?_,?_⟩
  ·rcases aJ.1 hp with hp|hp
   ·exact s2.on p HK
   ·exact s2.on p (by simp [hAR p hp])
  ·have:∀(M:List Pc),Ti (M++R)->Ti (M++A):=by
    intro M
    induction M with
    | nil =>
     intro _;have:∀(A:List Pc),(∀p∈A,p.mu=false)->Ti A:=by
      intro A
      induction A with
      | nil=>intro _;trivial
      | cons p A ih=>intro h;exact ⟨fun q hq hm=>by rw [h p FA,h q GB] at hm;simp at hm,ih fun q hq=>h q GB⟩
     exact this A hro
    | cons p M ih =>
     intro hs;exact ⟨fun q hq=>hs.1 q (by rcases aJ.1 hq with h|h;simp [h];simp [hAR q h]),ih hs.2⟩
   exact this M s2.sep
 Abo (R:=fun w e w'=>∃s,C s/\e=.returned (vv s)/\O8 (N s) w'/\Ti (N s)/\Ek (fp M) w w'/\∀p∈N s,∀b∈p.F,w.heap.size<=b\/(∃q∈M,b∈q.F)\/(p.mu=false/\∃q∈A,b∈q.F))
  (fun w s=>hf w (hpre w s).1 (hpre w s).2)
  (fun w e w' s ⟨z,hz,he,hN,hS,hK,hF⟩=>⟨_,he,fun a g=>(h z hz).h a w' (St.turn (hMR w s) (by rwa [dA.2 hmu]) hN hS fun p hp b hb=>by
   rcases hF p hp b hb with h|⟨q,hq,hqb⟩|⟨hp,q,hq,hqb⟩
   ·exact .inl h
   ·exact .inr (.inl ⟨q,hq,hmu q hq,hqb⟩)
   ·exact .inr (.inr ⟨hp,q,by simp [hA.all q hq],hro q hq,hqb⟩)) g⟩)
def Al7 {f:Nat} {aS:List Operand} {ts:Array TypeId} {vs:am} (hd:Nat.blt d c.n=true) (hb:Rr c.P f=true) (ha:Evs fr aS vs) (h:Cl c fr H d f vs Φ):On c fr H (some d) (.call { callee:=.value (.func f),args:=aS.toArray,argTypes:=ts }) ty Φ:=⟨fun _ _ _=>Be0 h ha hb hd⟩
/-! a function's beginning and end -/
end
def Alh (P:Program) (w:World) (A M:List Pc) {σ:Type} (C:σ->Prop) (v:σ->Value) (N:σ->List Pc) (e:Ending) (w':World):Prop:=∃s,C s/\e=.returned (v s)/\O8 (N s) w'/\Ti (N s)/\Ek (fp M) w w' /\
  ∀p∈N s,∀b∈p.F,w.heap.size<=b\/(∃q∈M,b∈q.F)\/(p.mu=false/\∃q∈A,b∈q.F)
def Ank:Nat->am->Fr
 | _,[]=>[]
 | i,v::r=>(i,v)::Ank (i+1) r
def Avh (vs:am):∀i t v,Sj (Ank i vs) t=some v->i<=t/\vs[t - i]?=some v:=by
 induction vs with
 | nil=>intro i t v h;cases h
 | cons x r ih =>
  intro i t v h;unfold Ank at h;rw [Vr] at h
  split at h
  ·rename_i e;subst e;exact ⟨aK _,FI⟩
  ·have ⟨h1,h2⟩:=ih (i+1) t v h;refine ⟨EY,?_⟩;rw [show t - i=(t - (i+1))+1 by omega,bH];exact h2
def Ayb {P:Program} {f:FuncId} {fn:Func} {cd:Code} {args:am} {A M:List Pc} {σ:Type} {C:σ->Prop} {v:σ->Value} {N:σ->List Pc} (hf:P.funcs[f]?=some fn) (hb:fn.body=some cd)
  (h:∀w,T ⟨P,fp M,fp A,w,fn.ntmps,bodyPost P fn (Alh P w A M C v N)⟩ (Ank 0 args) (M++A) (.By [] cd))
  (hn:args.length<=fn.ntmps) (hmA:A.all (fun p=>!p.mu)=true):Fn P f args A M C v N:=fun w hH hS=>by
 refine calls_of_wp hf hb ?_;have hro:∀p∈A,p.mu=false:=fun p hp=>by simpa using aW.1 hmA p hp
 refine (h w).h _ _ ⟨Ek.refl _ _,hH,hS,fun p hp b hb=>?_⟩ ⟨rfl,FF,fun t u hu=>?_⟩
 ·rcases aJ.1 hp with hp|hp
  ·exact .inl (Sk.2 ⟨p,hp,hb⟩)
  ·exact .inr (.inr ⟨hro p hp,Sk.2 ⟨p,hp,hb⟩⟩)
 ·obtain ⟨-,h2⟩:=Avh args 0 t u hu;simp only [fT] at h2;show (args.toArray++Array.replicate (fn.ntmps - args.toArray.size) undef)[t]?=_;have ht:t < args.length:=(cm.1 h2).1;rw [dW (by simpa using ht)];simpa using h2
inductive Res (P:Program) (fr:Fr) (H:List Pc):List ResultVar->am->Prop
 | nil:Res P fr H [] []
 | tmp {t v r vs}:Sj fr t=some v->Res P fr H r vs->Res P fr H (.tmp t::r) (v::vs)
 | agg {t ty m g o tt A cs B r vs}:AggC P ty m->Sj fr t=some (Gj g o 0)->Pc.row g tt o A cs B∈H->cs.length=m->Res P fr H r vs->Res P fr H (.cell t ty::r) (.agg cs.toArray::vs)
 | one {t ty g o tt A v B r vs}:OneC P ty->Sj fr t=some (Gj g o 0)->Pc.row g tt o A [v] B∈H->Res P fr H r vs->Res P fr H (.cell t ty::r) (v::vs)
def Cut.whole:∀(l:am),Cut l 0 l.length l
 | []=>.zero
 | _::r=>.one (Cut.whole r)
def Agj (x:Addr):asAddr (.pointer (some x))=pure x:=rfl
def Bd0 {P:Program} {fr:Fr} {H:List Pc} {n:Nat} {rs vs} (f:ResultVar->Sem Value) {a:Act} (f1:∀t,f (.tmp t)=pure (a.tmps.getD t undef)) (f2:∀p t,f (.cell p t)=do loadVar t (<-asAddr (a.tmps.getD p undef)))
  (h:Res P fr H rs vs) {w:World} (g:Ag n fr a) (hH:O8 H w):(rs.mapM f).run P w=.ok vs w:=by
 simp only [fy] at f1 f2
 induction h with
 | nil=>simp
 | tmp hl _ ih=>simp [gj,f1,g.at_ _ _ hl,ih]
 | @agg t ty m gg o tt A cs B r vs hT hl hm hc _ ih =>
  have h1:=Ahg (hT:=hT) (j:=0) (Iv (hH _ hm)) (by rw [<-hc];exact Cut.whole cs);exact DZ
 | @one t ty gg o tt A v B r vs hT hl hm _ ih =>
  have h1:=Ahh (hT:=hT) (Ach (j:=0) (hH _ hm) rfl);exact DZ
def Uh:am->Value
 | [v]=>v
 | vs=>.tuple vs.toArray
def Apc {P:Program} {fr:Fr} {H:List Pc} {n:Nat} {fn:Func} {rs vs} (hr:fn.results=rs.toArray) (h:Res P fr H rs vs) {a:Act} {w:World} (g:Ag n fr a) (hH:O8 H w):(results fn a.tmps).run P w=.ok (Uh vs) w:=by
 unfold results;rw [hr];simp only [Sem.run_bind,Array.mapM_eq_mapM_toList];have:∀(f:ResultVar->Sem Value),(rs.mapM f).run P w=.ok vs w->((List.toArray <$> rs.mapM f:Sem (Array Value))).run P w=.ok vs.toArray w:=fun f hf=>by
  simp [hf]
 refine (congrArg (fun x=>Result.andThen x _) (this _ (Bd0 _ ?_ ?_ h g hH))).trans ?_
 ·intro t;rfl
 ·intro p t;rfl
 simp only [Result.andThen_ok,Sem.run_pure]
 congr 1
 match vs with
 | []=>rfl
 | [v]=>rfl
 | v::u::r=>simp [Uh]
def Bfz {P:Program} {fn:Func} {G D:aq} {w0:World} {n:Nat} {A M:List Pc} {σ:Type} {C:σ->Prop} {v:σ->Value} {N:σ->List Pc} {fr:Fr} {H:List Pc} {rs:List ResultVar} {vs:am} (s:σ) (hC:C s)
  (hr:fn.results=rs.toArray) (h:Res P fr H rs vs) (hv:Uh vs=v s) (hN:Lr H (N s)) (hG:G=fp M) (hD:D=fp A):T ⟨P,G,D,w0,n,bodyPost P fn (Alh P w0 A M C v N)⟩ fr H (.fin .ret):=.mk fun a w st g=>by
 subst hG hD;refine ⟨g.df,_,Apc hr h g st.on,s,hC,by rw [hv],?_⟩;have s2:=st.sub hN;refine ⟨s2.on,s2.sep,s2.Je,fun p hp b hb=>?_⟩;rcases s2.Adw p hp b hb with h|h|⟨h1,h⟩
 ·exact .inr (.inl (Sk.1 h))
 ·exact .inl h
 ·exact .inr (.inr ⟨h1,Sk.1 h⟩)
set_option maxRecDepth 100000
def fI {p:Prop} (h:p:=by exact ⟨⟨_,_,rfl,rfl,rfl,rfl⟩,FB,EZ⟩):p:=h
def aI {p:Prop} (h:p:=by exact ⟨⟨_,rfl,rfl⟩,FB⟩):p:=h
def sI {p:Prop} (h:p:=by exact ⟨rfl,FB⟩):p:=h
def bI {p:Prop} (h:p:=by exact ⟨fun parts=>by kernel_rfl⟩):p:=h
def eI {p:Prop} (h:p:=by exact ⟨FB,rfl⟩):p:=h
def zI {p:Prop} (h:p:=by exact ⟨⟨_,rfl,rfl⟩⟩):p:=h
def iI {p:Prop} (h:p:=by exact ⟨rfl⟩):p:=h
instance:OneC prog 3:=aI
instance:IntC prog 3 .i64:=iI
instance:ZC prog 3 [aa 0]:=zI
instance:ElT prog 3 (aa 0) 1 8:=eI
instance:OneC prog 5:=aI
instance:IntC prog 5 .u8:=iI
instance:ElT prog 5 (.int .u8 0) 1 1:=eI
instance:OneC prog 59:=aI
instance:IntC prog 59 .u64:=iI
instance:IntC prog 130 .u64:=iI
instance:OneC prog 4:=aI
instance:BoolC prog 4:=iI
instance:OneC prog 9:=aI
instance:StrC prog 9:=iI
instance:ZC prog 9 [af ⟨#[]⟩]:=zI
instance:ElT prog 9 (af ⟨#[]⟩) 1 16:=eI
instance:AggC prog 26 1:=aI
instance:FldC prog 26 0 0 24 1:=fI
instance:ZC prog 26 [ab none 0 0]:=zI
instance:BldC prog 26 [(0,1)] [ab none 0 0]:=bI
instance:AggC prog 28 3:=aI
instance:FldC prog 28 0 0 9 1:=fI
instance:FldC prog 28 1 1 9 1:=fI
instance:FldC prog 28 2 2 3 1:=fI
instance:ZC prog 28 [af ⟨#[]⟩,af ⟨#[]⟩,aa 0]:=zI
instance:BldC prog 28 [(0,1),(1,1),(2,1)] [af ⟨#[]⟩,af ⟨#[]⟩,aa 0]:=bI
instance:AggC prog 35 3:=aI
instance:FldC prog 35 0 0 3 1:=fI
instance:FldC prog 35 1 1 3 1:=fI
instance:FldC prog 35 2 2 33 1:=fI
instance:ZC prog 35 [aa 0,aa 0,ab none 0 0]:=zI
instance:BldC prog 35 [(0,1),(1,1),(2,1)] [aa 0,aa 0,ab none 0 0]:=bI
instance:AggC prog 38 6:=aI
instance:FldC prog 38 0 0 35 3:=fI
instance:FldC prog 38 1 3 3 1:=fI
instance:FldC prog 38 2 4 3 1:=fI
instance:FldC prog 38 3 5 36 1:=fI
instance:ZC prog 38 [aa 0,aa 0,ab none 0 0,aa 0,aa 0,ab none 0 0]:=zI
instance:BldC prog 38 [(0,3),(3,1),(4,1),(5,1)] [aa 0,aa 0,ab none 0 0,aa 0,aa 0,ab none 0 0]:=bI
instance:AggC prog 43 11:=aI
instance:FldC prog 43 0 0 26 1:=fI
instance:FldC prog 43 1 1 38 6:=fI
instance:FldC prog 43 2 7 39 1:=fI
instance:FldC prog 43 3 8 40 1:=fI
instance:FldC prog 43 4 9 41 1:=fI
instance:FldC prog 43 5 10 41 1:=fI
instance:ZC prog 43 [ab none 0 0,aa 0,aa 0,ab none 0 0,aa 0,aa 0,ab none 0 0,ab none 0 0,ab none 0 0,ab none 0 0,ab none 0 0]:=zI
instance:BldC prog 43 [(0,1),(1,6),(7,1),(8,1),(9,1),(10,1)] [ab none 0 0,aa 0,aa 0,ab none 0 0,aa 0,aa 0,ab none 0 0,ab none 0 0,ab none 0 0,ab none 0 0,ab none 0 0]:=bI
instance:AggC prog 45 14:=aI
instance:FldC prog 45 0 0 43 11:=fI
instance:FldC prog 45 1 11 28 3:=fI
instance:ZC prog 45 [ab none 0 0,aa 0,aa 0,ab none 0 0,aa 0,aa 0,ab none 0 0,ab none 0 0,ab none 0 0,ab none 0 0,ab none 0 0,af ⟨#[]⟩,af ⟨#[]⟩,aa 0]:=zI
instance:BldC prog 45 [(0,11),(11,3)] [ab none 0 0,aa 0,aa 0,ab none 0 0,aa 0,aa 0,ab none 0 0,ab none 0 0,ab none 0 0,ab none 0 0,ab none 0 0,af ⟨#[]⟩,af ⟨#[]⟩,aa 0]:=bI
instance:FldC prog 61 0 0 22 1:=fI
instance:FldC prog 61 1 1 3 1:=fI
instance:FldC prog 61 2 2 59 1:=fI
instance:BldC prog 61 [(0,1),(1,1),(2,1)] [ab none 0 0,aa 0,.int .u64 0]:=bI
instance:AggC prog 71 2:=aI
instance:FldC prog 71 0 0 9 1:=fI
instance:FldC prog 71 1 1 9 1:=fI
instance:ZC prog 71 [af ⟨#[]⟩,af ⟨#[]⟩]:=zI
instance:ElT prog 71 (.agg #[af ⟨#[]⟩,af ⟨#[]⟩]) 2 32:=eI
instance:BldC prog 71 [(0,1),(1,1)] [af ⟨#[]⟩,af ⟨#[]⟩]:=bI
instance:AggC prog 91 3:=aI
instance:FldC prog 91 0 0 3 1:=fI
instance:FldC prog 91 1 1 3 1:=fI
instance:FldC prog 91 2 2 9 1:=fI
instance:ZC prog 91 [aa 0,aa 0,af ⟨#[]⟩]:=zI
instance:BldC prog 91 [(0,1),(1,1),(2,1)] [aa 0,aa 0,af ⟨#[]⟩]:=bI
instance:AggC prog 111 2:=aI
instance:FldC prog 111 0 0 3 1:=fI
instance:FldC prog 111 1 1 109 1:=fI
instance:ZC prog 111 [aa 0,ab none 0 0]:=zI
instance:ElT prog 111 (.agg #[aa 0,ab none 0 0]) 2 32:=eI
instance:BldC prog 111 [(0,1),(1,1)] [aa 0,ab none 0 0]:=bI
instance:AggC prog 115 2:=aI
instance:FldC prog 115 0 0 3 1:=fI
instance:FldC prog 115 1 1 113 1:=fI
instance:ZC prog 115 [aa 0,ab none 0 0]:=zI
instance:BldC prog 115 [(0,1),(1,1)] [aa 0,ab none 0 0]:=bI
instance:AggC prog 118 5:=aI
instance:FldC prog 118 0 0 4 1:=fI
instance:FldC prog 118 1 1 3 1:=fI
instance:FldC prog 118 2 2 115 2:=fI
instance:FldC prog 118 3 4 116 1:=fI
instance:ZC prog 118 [.bool false,aa 0,aa 0,ab none 0 0,ab none 0 0]:=zI
instance:ElT prog 118 (.agg #[.bool false,aa 0,aa 0,ab none 0 0,ab none 0 0]) 5 72:=eI
instance:BldC prog 118 [(0,1),(1,1),(2,2),(4,1)] [.bool false,aa 0,aa 0,ab none 0 0,ab none 0 0]:=bI
instance:AggC prog 159 5:=aI
instance:FldC prog 159 0 0 3 1:=fI
instance:FldC prog 159 1 1 3 1:=fI
instance:FldC prog 159 2 2 3 1:=fI
instance:FldC prog 159 3 3 3 1:=fI
instance:FldC prog 159 4 4 9 1:=fI
instance:ZC prog 159 [aa 0,aa 0,aa 0,aa 0,af ⟨#[]⟩]:=zI
instance:ElT prog 159 (.agg #[aa 0,aa 0,aa 0,aa 0,af ⟨#[]⟩]) 5 48:=eI
instance:BldC prog 159 [(0,1),(1,1),(2,1),(3,1),(4,1)] [aa 0,aa 0,aa 0,aa 0,af ⟨#[]⟩]:=bI
instance:AggC prog 165 2:=aI
instance:FldC prog 165 0 0 3 1:=fI
instance:FldC prog 165 1 1 3 1:=fI
instance:ZC prog 165 [aa 0,aa 0]:=zI
instance:ElT prog 165 (.agg #[aa 0,aa 0]) 2 16:=eI
instance:BldC prog 165 [(0,1),(1,1)] [aa 0,aa 0]:=bI
instance:AggC prog 167 3:=aI
instance:FldC prog 167 0 0 3 1:=fI
instance:FldC prog 167 1 1 24 1:=fI
instance:FldC prog 167 2 2 3 1:=fI
instance:ZC prog 167 [aa 0,ab none 0 0,aa 0]:=zI
instance:ElT prog 167 (.agg #[aa 0,ab none 0 0,aa 0]) 3 40:=eI
instance:BldC prog 167 [(0,1),(1,1),(2,1)] [aa 0,ab none 0 0,aa 0]:=bI
instance:AggC prog 195 4:=aI
instance:FldC prog 195 0 0 3 1:=fI
instance:FldC prog 195 1 1 3 1:=fI
instance:FldC prog 195 2 2 3 1:=fI
instance:FldC prog 195 3 3 3 1:=fI
instance:ZC prog 195 [aa 0,aa 0,aa 0,aa 0]:=zI
instance:ElT prog 195 (.agg #[aa 0,aa 0,aa 0,aa 0]) 4 32:=eI
instance:BldC prog 195 [(0,1),(1,1),(2,1),(3,1)] [aa 0,aa 0,aa 0,aa 0]:=bI
instance:AggC prog 223 2:=aI
instance:FldC prog 223 0 0 4 1:=fI
instance:FldC prog 223 1 1 9 1:=fI
instance:ZC prog 223 [.bool false,af ⟨#[]⟩]:=zI
instance:ElT prog 223 (.agg #[.bool false,af ⟨#[]⟩]) 2 24:=eI
instance:BldC prog 223 [(0,1),(1,1)] [.bool false,af ⟨#[]⟩]:=bI
instance:OneC prog 22:=aI
instance:SlC prog 22 5 1:=sI
instance:OneC prog 24:=aI
instance:SlC prog 24 3 1:=sI
instance:OneC prog 33:=aI
instance:SlC prog 33 9 1:=sI
instance:OneC prog 36:=aI
instance:SlC prog 36 165 2:=sI
instance:OneC prog 39:=aI
instance:SlC prog 39 111 2:=sI
instance:OneC prog 40:=aI
instance:SlC prog 40 118 5:=sI
instance:OneC prog 41:=aI
instance:SlC prog 41 120 1:=sI
instance:SlC prog 73 71 2:=sI
instance:OneC prog 109:=aI
instance:SlC prog 109 167 3:=sI
instance:OneC prog 113:=aI
instance:SlC prog 113 223 2:=sI
instance:OneC prog 116:=aI
instance:SlC prog 116 195 4:=sI
instance:OneC prog 120:=aI
instance:SlC prog 120 159 5:=sI
instance:ZC prog 120 [ab none 0 0]:=zI
instance:ElT prog 120 (ab none 0 0) 1 24:=eI
instance:OneC prog 239:=aI
instance:OneC prog 296:=aI
instance:OneC prog 298:=aI
def Sl.dropS {P:Program} {α:Type} {E:B8 α} {w:World} {a:aj} {n cap:Nat} {xs:List α} {F} (h:Sl E w (ab a n cap) xs F) (t:TypeId) (ht:P.underlying t=some (.slice (P.elem t))) (k:Nat) (hk:k<=xs.length)
  (hs:∀W,(sizeOf (P.elem t)).run P W=.ok E.sz W):∃a2 c2 F',(∀W,(Instr.sliceAt t (ab a n cap) (some (aa (k:Int))) none none).run P W=.ok (ab a2 (xs.length - k) c2) W)/\(∀b∈F',b∈F)/\Sl E w (ab a2 (xs.length - k) c2) (xs.drop k) F':=by
 obtain ⟨a',cap',hv,hl,h⟩:=h;cases hv;have hrun:∀W,(Instr.sliceAt t (ab a xs.length cap) (some (aa (k:Int))) none none).run P W=.ok (ab (if cap=k then a else a.map (·.add (k * E.sz))) (xs.length - k) (cap - k)) W:=fun W=>by
  rw [run_sliceAt_slice (h:=ht),run_slice_l (ht:=ht) (h0:=EY) (h1:=EY),hs];simp [Result.andThen,sliced]
 refine ⟨if cap=k then a else a.map (·.add (k * E.sz)),cap - k,?_⟩;rcases h with ⟨rfl,rfl,h0⟩|⟨b,off,F',rfl,hne,rfl,hc⟩
 ·refine ⟨[],hrun,FA,if cap=k then a else a.map (·.add (k * E.sz)),cap - k,FA,⟨FA,EY⟩,.inl ⟨FA,rfl,fun e=>?_⟩⟩;cases a with
  | none=>rw [h0 rfl];simp
  | some ad=>split at e <;> simp at e
 ·by_cases hkn:k=xs.length
  ·subst hkn;refine ⟨[],hrun,FA,if cap=xs.length then some ⟨b,off,none⟩ else (some (⟨b,off,none⟩:Addr)).map (·.add (xs.length * E.sz)),cap - xs.length,FA,⟨FA,EY⟩,.inl ⟨FA,rfl,fun e=>?_⟩⟩
   split at e <;> simp at e
  ·obtain ⟨cs,hf,hcs⟩:=hc.flat;have e:xs=xs.take k++xs.drop k:=FA
   rw [e] at hf;obtain ⟨c1,c2,G1,G2,rfl,rfl,h1,h2⟩:=hf.split;have hl1:=h1.len;have hck:¬cap=k:=EY
   rw [aP,cY EY] at hl1;refine ⟨b::G2,hrun,by intro x hx;simp at hx ⊢;rcases hx with hx|hx <;> simp [hx],some ⟨b,off+k * E.sz,none⟩,cap - k,?_,⟨FF,EY⟩,.inr ⟨b,off+k * E.sz,G2,rfl,fun e=>?_,rfl,h2.cells fun j u hu=>?_⟩⟩
   ·rw [aC hck];simp only [bW,Addr.add,aX,Value.slice.injEq,Option.some.injEq,cO,cM];by_cases h0:k * E.sz=0 <;> simp [h0]
   ·have:=congrArg List.length e;simp at this;omega
   ·have:=hcs (c1.length+j) u KE;rw [<-this,hl1];congr 2;omega
def Bp {p:Pc} {H:List Pc} (h:p∈H:=by (repeat (first|exact .head _|apply List.Mem.tail));first|done|fail):p∈H:=h
def Bfs {l:am} {j m:Nat} {r:am} (h:Cut l j m r:=by repeat constructor):Cut l j m r:=h
def Azr {l r s:am} {j:Nat} (h:Put l j r s:=by first|exact .one .zero|repeat constructor):Put l j r s:=h
def Wj {fr:Fr} {aS:List Operand} {vs:am} (h:Evs fr aS vs:=by repeat (first|exact Evs.nil|apply Evs.cons FL)):Evs fr aS vs:=h
def Amd {H S:List Pc} {p q:Pc} (h:Rpl H p q S:=by (repeat (first|exact .here|apply Rpl.there));first|done|fail):Rpl H p q S:=h
def Do {H R:List Pc} {p:Pc} (h:C1 H p R:=by (repeat (first|exact .here|apply C1.there));first|done|fail):C1 H p R:=h
def Ahs {H M R:List Pc} (h:Kv H M R:=by repeat (first|exact Kv.nil|apply Kv.cons (by exact Do))):Kv H M R:=h
def hsE {A H:List Pc} (h:Lr A H:=by repeat (first|exact Lr.nil|refine Lr.cons (by exact Do) ?_)):Lr A H:=h
def frE {a b:Fr} (h:M2 a b:=by repeat (first|exact M2.nil|refine M2.cons FL ?_)):M2 a b:=h
def Aub (l:am):∀(k off:Nat) (A o B:am),A.length=off+k->o.length=l.length->(l.zipIdx k).foldl (fun (cs:Array Value) (x:Value × Nat)=>cs.setIfInBounds (off+x.2) x.1) (A++o++B).toArray=(A++l++B).toArray:=by
 induction l with
 | nil=>intro k off A o B _ ho;simp at ho;subst ho;simp
 | cons u r ih =>
  intro k off A o B hA ho;cases o with
  | nil=>simp at ho
  | cons z o =>
   rw [List.zipIdx_cons,dZ];have h4:(A++(z::o)++B).toArray.setIfInBounds (off+k) u=((A++[u])++o++B).toArray:=by
    rw [<-hA];simp [List.set_append]
   show List.foldl _ ((A++(z::o)++B).toArray.setIfInBounds (off+k) u) _=_;rw [h4,ih (k+1) off (A++[u]) o B FF (by simpa using ho)];simp
inductive Fil (pl:Nat->Option (Nat × Nat)) (fr:Fr):am->List (Nat × Operand)->am->Prop
 | nil {cs}:Fil pl fr cs [] cs
 | cons {cs i x ps v l off r q}:ev fr x=some v->v.cells=l.toArray->pl i=some (off,l.length)->Put cs off l r->Fil pl fr r ps q->Fil pl fr cs ((i,x)::ps) q
def Fil.run {pl:Nat->Option (Nat × Nat)} {fr:Fr} {n:Nat} {cs q:am} {ps:List (Nat × Operand)} (h:Fil pl fr cs ps q) {a:Act} (g:Ag n fr a):Instr.fill pl cs.toArray (ps.map fun (i,x)=>(i,a.eval x))=some q.toArray:=by
 induction h with
 | nil=>rfl
 | @cons cs i x ps v l off r q hx hv hp hput _ ih =>
  obtain ⟨A,o,B,rfl,rfl,rfl,ho⟩:=hput.parts;rw [cI];unfold Instr.fill;simp only [hp,g.ev hx,hv];have h1:¬((l.toArray.size≠l.length)\/(A.length+l.toArray.size > (A++o++B).toArray.size)):=FF
  rw [aC HY];have h2:l.toArray.zipIdx.foldl (fun (cs:Array Value) (x:Value × Nat)=>cs.setIfInBounds (A.length+x.2) x.1) (A++o++B).toArray=(A++l++B).toArray:=by
   rw [<-Array.foldl_toList];have:=Aub l 0 A.length A o B rfl ho;exact EV
  rw [h2];exact ih
def Ir {pl:Nat->Option (Nat × Nat)} {fr:Fr} {cs q:am} {ps:List (Nat × Operand)} (h:Fil pl fr cs ps q:=by repeat (first|exact Fil.nil|apply Fil.cons FL FL FL (by repeat constructor))):Fil pl fr cs ps q:=h
def Bij {P:Program} {n:Nat} {fr:Fr} {H:List Pc} {ty:TypeId} {t:Nat} {pl:List (Nat × Nat)} {zs q:am} {ps:List (Nat × Operand)} [hB:BldC P t pl zs] (hf:Fil (pl.toArray[·]?) fr zs ps q):Yd P n fr H (.build t ps.toArray) ty (.agg q.toArray):=.mk fun a w d pos Cf gd g _=>by
 have h3:=hf.run g;have h4:=run_build (P:=P) w t (ps.map fun (i,x)=>(i,a.eval x)).toArray q.toArray (by rw [hB.b];exact h3);simp only [cW] at h4;simp [execOp,h4]
def ydE {P:Program} {n:Nat} {fr:Fr} {H:List Pc} {o:Op} {ty:TypeId} {v:Value} (h:Yd P n fr H o ty v:=by first|(apply Bep;rfl)|(apply Awq;rfl)|(apply Bhg;rfl)|(apply Bim;rfl)|(apply Bir;rfl;exact Bp;rfl)|(apply Bg7;rfl;exact Bp;rfl)|(apply Bg6;rfl;exact Bp;exact Bfs)|(apply Ben;rfl;exact Bp;exact Bfs)|(apply Awu;rfl;rfl)|(apply Awt;rfl;rfl)|(apply Bg8;rfl)|(apply Beo;rfl)|(apply Bil;rfl;rfl)|(apply Bg4;rfl;rfl)|(apply Bem;rfl;exact Bfs)|(apply Biu;rfl;rfl)|(apply Bis;rfl;rfl)|(apply Bip;rfl;rfl)|(apply Bio;rfl;rfl)|(apply Bik;rfl;rfl)|(apply Biv;rfl;rfl)|(apply Bgz;rfl;rfl;omega;omega)|(apply Bhl;rfl;rfl;omega;omega)|(apply Bg3;rfl;rfl)|(apply Bhf;rfl;rfl)|(apply Hh;rfl;rfl;omega)|(apply Ber;rfl)|(apply Bhh;rfl)|(apply Bhd;rfl;omega;omega)|(apply Biq;rfl;rfl;omega;omega)|(apply Bbt;rfl;rfl;omega;omega)|(apply Bhi;rfl;rfl;omega;omega;omega)|(apply Bhj;rfl;rfl;omega;omega)|(apply Bhb;rfl;rfl;omega;omega)|(apply Ap1;rfl;omega;omega)|(apply Bg2;rfl;rfl)|(apply Bhc;rfl;rfl)|(apply Bin;exact Wj)|(apply Beq;rfl)|(apply Bha;rfl;rfl)|(apply Bg9;rfl;rfl)|(apply Bij;exact Ir)):Yd P n fr H o ty v:=h
section
variable {c:Cx} {fr:Fr} {H:List Pc} {k:List It} {Φ:Gl} {ops:Array Oper} {rest:List Oper} {d:Nat} {o:Op} {ty:TypeId} {pos:String} {Cf:Array Edge} {v u:Value} {x y:Operand}
def st {t g tt o' j m:Nat} {A cs B l r:am} {S:List Pc} {gd:Option (Nat × Bool)} (h:T c fr S Φ) (hx:ev fr x=some (Gj g o' j):=by rfl) (hy:ev fr y=some v:=by rfl) (hv:v.cells=l.toArray:=by rfl) (hs:(c.P.info? t).map (·.size)=some m:=by first|exact AggC.s|exact OneC.s) (hl:l.length=m:=by rfl)
  (hr:Rpl H (.row g tt o' A cs B) (.row g tt o' A r B) S:=by (repeat (first|exact .here|apply Rpl.there));first|done|fail) (hp:Put cs j l r:=by first|exact .one .zero|repeat constructor) (h1:l.all (·.oneCell')=true:=by rfl):Ef c fr H ⟨none,.store t x y,ty,pos,Cf,gd⟩ Φ:=Anr hs hx hy hv hl h1 hp hr h
def ca {f:Nat} {aS:List Operand} {ts:Array TypeId} {vs:am} {gd:Option (Nat × Bool)} (h:Cl c fr H d f vs Φ) (ha:Evs fr aS vs:=by repeat (first|exact Evs.nil|apply Evs.cons FL)) (hb:Rr c.P f=true:=by kernel_rfl) (hd:Nat.blt d c.n=true:=by rfl):Ef c fr H ⟨some d,.call { callee:=.value (.func f),args:=aS.toArray,argTypes:=ts },ty,pos,Cf,gd⟩ Φ:=Be0 h ha hb hd
def cf {f:Nat} {vs:am} {A M R:List Pc} {σ:Type} {C:σ->Prop} {vv:σ->Value} {N:σ->List Pc} (hf:Fn c.P f vs A M C vv N) (h:∀s,C s->T c ((d,vv s)::fr) (N s++R) Φ)
  (hM:Kv H M R:=by repeat (first|exact Kv.nil|apply Kv.cons (by exact Do))) (hA:M8 A R:=by repeat (first|exact M8.nil|refine M8.cons FD ?_)) (hmM:M.all (·.mu)=true:=by rfl) (hmA:A.all (fun p=>!p.mu)=true:=by rfl):Cl c fr H d f vs Φ:=cf_ hf h hM hA hmM hmA
inductive Amy:List Pc->List Pc->List Pc->Prop
 | nil {R}:Amy [] R R
 | cons {p N R X}:Amy N R X->Amy (p::N) R (p::X)
def Amy.eq {N R X} (h:Amy N R X):N++R=X:=by
 induction h with
 | nil=>rfl
 | cons _ ih=>simp [ih]
def Pp {N R X:List Pc} (h:T c fr X Φ) (hX:Amy N R X:=by repeat constructor):T c fr (N++R) Φ:=by rw [hX.eq];exact h
def St.ro {G D w0 w} {p q:Pc} (s:St G D w0 H w) (hq:q∈H) (hm:q.mu=false) (hpm:p.mu=false) (hp:p.P w) (hF:∀b∈p.F,b∈q.F):St G D w0 (p::H) w :=
 s.add (N:=[p]) (Below.refl _ _) (by intro x hx;simp at hx;subst hx;exact hp) ⟨FA,trivial⟩ (by intro x hx b hb;simp at hx;subst hx;exact .inr ⟨hpm,q,hq,hm,hF b hb⟩)
def St.conv {G D w0 w} {p q:Pc} {S:List Pc} (s:St G D w0 (p::S) w) (hm:p.mu=true) (hq:q.P w) (hF:∀b∈q.F,b∈p.F):St G D w0 (q::S) w :=
 St.turn (M:=[p]) (N:=[q]) s (Ek.refl _ w) (by intro x hx;simp at hx;subst hx;exact hq) ⟨FA,trivial⟩ (by intro x hx b hb;simp at hx;subst hx;exact .inr (.inl ⟨p,FA,hm,hF b hb⟩))
/-! elements, parts of slices that read -/
def Xu {α:Type} {E:B8 α} {w:World} {a:aj} {n cp:Nat} {xs:List α} {F:aq} (h:(Pc.sl E (ab a n cp) xs F).P w) (i:Nat) (hi:i < xs.length) :
  ∃b o cs G,a=some ⟨b,o,none⟩/\E.Mj w cs xs[i] G/\(∀x∈G,x∈F)/\b∈F/\cs≠[]/\w.rangeAt b (o+i * E.sz) cs:=by
 obtain ⟨hz,a',cap,hv,hl,h|⟨b,o,F',rfl,hne,rfl,hc⟩⟩:=h
 ·rw [h.1] at hi;simp at hi
 ·simp only [Value.slice.injEq] at hv;obtain ⟨rfl, -, -⟩:=hv;obtain ⟨cs,F1,h1,h2,h3⟩:=hc.get i hi;have hl:=E.len h1;refine ⟨b,o,cs,F1,rfl,h1,fun x hx=>by simp [h3 x hx],FA,fun e=>by subst e;simp at hl;omega,fun j u hu=>?_⟩;have hj:j < E.sz:=by have:=(cm.1 hu).1;omega
  rw [h2 j hj];exact hu
def Im {a:aj} {n cp:Nat} {xs:ar} {F:aq} (i:Nat) (h:∀(hi:i < xs.length) b o,a=some ⟨b,o,none⟩->T c fr (.cel b (o+i * 1) [aa xs[i]]::H) Φ) (hm:.sl Bc (ab a n cp) xs F∈H:=by exact Bp) (hi:i < xs.length:=by omega):T c fr H Φ:=.mk fun ac w s g=>by
 obtain ⟨b,o,cs,G,ha,⟨rfl,rfl⟩, -,hb,hne,hr⟩:=Xu (s.get hm) i hi;exact (h hi b o ha).h ac w (s.ro hm rfl rfl ⟨hne,hr⟩ GF) g
def Me {a:aj} {n cp:Nat} {xs:ai} {F:aq} (i:Nat) (h:∀(hi:i < xs.length) b o,a=some ⟨b,o,none⟩->xs[i].size<=maxLen->T c fr (.cel b (o+i * 1) [af xs[i]]::H) Φ) (hm:.sl A9 (ab a n cp) xs F∈H:=by exact Bp) (hi:i < xs.length:=by omega):T c fr H Φ:=.mk fun ac w s g=>by
 obtain ⟨b,o,cs,G,ha,⟨rfl,hs,rfl⟩, -,hb,hne,hr⟩:=Xu (s.get hm) i hi;exact (h hi b o ha hs).h ac w (s.ro hm rfl rfl ⟨hne,hr⟩ GF) g
def Av {α:Type} {E:B8 α} {t:TypeId} {v:Value} {xs:List α} {F:aq} {S:List Pc} (h:∀F',T c fr (.sl E v xs F'::S) Φ) (hp:C1 H (.ow E t v xs F) S:=by exact Do) (hz:0 < E.sz:=by decide):T c fr H Φ:=.mk fun a w s g=>by
 have s1:=s.pick hp;obtain ⟨-,ho⟩:=s1.on (.ow E t v xs F) FA;obtain ⟨F',hF,hs⟩:=ho.read;exact (h F').h a w (s1.conv rfl ⟨hz,hs⟩ hF) g
def Ow.takeO {α:Type} {E:B8 α} {t:TypeId} {w:World} {a:aj} {n cp:Nat} {xs:List α} {F:aq} (h:Ow E t w (ab a n cp) xs F) (k:Nat) (hk:k<=xs.length):∃F',F'.Sublist F/\Ow E t w (ab a k cp) (xs.take k) F':=by
 rcases h with ⟨h1,rfl,rfl⟩|⟨g,cap,cs,rest,G,h1,h2,h3,h4,h5,h6,rfl⟩
 ·cases h1;have:k=0:=by simpa using hk
  subst this;exact ⟨[],.slnil,.inl ⟨rfl,rfl,rfl⟩⟩
 ·cases h1;rw [<-bo k xs] at h6;obtain ⟨c1,c2,G1,G2,rfl,rfl,f1,f2⟩:=h6.split;have hl:(xs.take k).length=k:=by simp [cY hk]
  refine ⟨g::G1,(List.sublist_append_left G1 G2).cons_cons g,.inr ⟨g,cp,c1,c2++rest,G1,by rw [hl],by rw [<-aM];exact h2,EY,h4,by simp only [aA] at h5 ⊢;omega,f1,rfl⟩⟩
def Ail {α:Type} {E:B8 α} {t:TypeId} {a:aj} {n cp:Nat} {xs:List α} {F:aq} {S:List Pc} (k:Nat) (h:∀F',T c fr (.ow E t (ab a k cp) (xs.take k) F'::S) Φ) (hk:k<=xs.length:=by omega) (hp:C1 H (.ow E t (ab a n cp) xs F) S:=by exact Do):T c fr H Φ:=.mk fun ac w s g=>by
 have s1:=s.pick hp;obtain ⟨hn,ho⟩:=s1.on (.ow E t (ab a n cp) xs F) FA;obtain ⟨F',hF,hs⟩:=ho.takeO k hk;exact (h F').h ac w (s1.conv rfl ⟨hn.sublist hF,hs⟩ hF.subset) g
def As7 {α:Type} {E:B8 α} {t:TypeId} {a:aj} {n cp:Nat} {xs:List α} {F:aq} (h:n<=cp->cp<=9223372036854775807->T c fr H Φ) (hm:.ow E t (ab a n cp) xs F∈H:=by exact Bp):T c fr H Φ:=.mk fun ac w s g=>by
 obtain ⟨-,h'|⟨g',cap,cs,rest,G,h1,h2,h3,h4, -⟩⟩:=s.get hm
 ·obtain ⟨h1,h2, -⟩:=h';cases h1;exact (h FA EZ).h ac w s g
 ·cases h1;exact (h h3 (by unfold maxLen at h4;omega)).h ac w s g
def Bt {α:Type} (E:B8 α) (t:TypeId) (h:T c fr (.ow E t (ab none 0 0) [] []::H) Φ):T c fr H Φ:=.mk fun a w s g =>
 h.h a w (s.add (N:=[.ow E t (ab none 0 0) [] []]) (Below.refl _ _) (by intro p hp;simp at hp;subst hp;exact ⟨FA,.inl ⟨rfl,rfl,rfl⟩⟩) ⟨FA,trivial⟩ (by intro p hp b hb;simp at hp;subst hp;simp [Pc.F] at hb)) g
def Ci {α:Type} (E:B8 α) (hz:0 < E.sz) (h:T c fr (.sl E (ab none 0 0) [] []::H) Φ):T c fr H Φ:=.mk fun a w s g =>
 h.h a w (s.add (N:=[.sl E (ab none 0 0) [] []]) (Below.refl _ _) (by intro p hp;simp at hp;subst hp;exact ⟨hz,none,0,rfl,⟨aK _,FE⟩,.inl ⟨rfl,rfl,fun _=>rfl⟩⟩) ⟨FA,trivial⟩ (by intro p hp b hb;simp at hp;subst hp;simp [Pc.F] at hb)) g
def C3 {α:Type} (E:B8 α) {t g:Nat} {S:List Pc} (h:T c fr (.ow E t (ab (some ⟨g,0,none⟩) 0 0) [] [g]::S) Φ) (hp:C1 H (.row g t 0 [] [] []) S:=by exact Do):T c fr H Φ:=.mk fun a w s ag=>by
 have s1:=s.pick hp;obtain ⟨-,hr⟩:=s1.on (.row g t 0 [] [] []) FA;exact h.h a w (s1.conv rfl ⟨FA,Ow.empty GL⟩ (fun b hb=>hb)) ag
def bs0 {t e m:Nat} {gd:Option (Nat × Bool)} [hS:SlC c.P t e m] (h:∀g,T c ((d,ab (some ⟨g,0,none⟩) 0 0)::fr) (.row g e 0 [] [] []::H) Φ) (hd:Nat.blt d c.n=true:=by rfl):Ef c fr H ⟨some d,.buildSlice t 0 #[],ty,pos,Cf,gd⟩ Φ:=Ph fun Q a w s g=>by
 have e1:(execOp a.eval ⟨some d,.buildSlice t 0 #[],ty,pos,Cf,gd⟩).run c.P w=.ok (.value (ab (some ⟨w.heap.size,0,none⟩) 0 0)) (w.alloc (.cells #[] e)):=by
  simp [execOp,Instr.buildSlice,run_underlying hS.u,Nb hS.s,Instr.fill,newRow,Array.range_zero']
 rw [e1];exact (h _).h _ _ (s.new e []) (g.put hd)
inductive Ati:am->am->am->Prop
 | nil {r}:Ati [] r r
 | cons {u l r q}:Ati l r q->Ati (u::l) r (u::q)
def Ati.eq {l r q} (h:Ati l r q):l++r=q:=by
 induction h with
 | nil=>rfl
 | cons _ ih=>simp [ih]
inductive Rpt (zs:am):Nat->am->Prop
 | zero:Rpt zs 0 []
 | succ {n r q}:Rpt zs n r->Ati zs r q->Rpt zs (n+1) q
def Rpt.eq {zs:am} {n q} (h:Rpt zs n q):q=(List.replicate n zs).flatten:=by
 induction h with
 | zero=>rfl
 | succ _ h2 ih=>rw [<-h2.eq,ih,cU,bP]
def bs {t e m b len:Nat} {z:Value} {zs cs q:am} {ps:List (Nat × Operand)} {gd:Option (Nat × Bool)} [hS:SlC c.P t e m] [hE:ElT c.P e z m b] [hZ:ZC c.P e zs] (h:∀g,T c ((d,ab (some ⟨g,0,none⟩) len len)::fr) (.row g e 0 [] q []::H) Φ)
  (hc:Rpt zs len cs:=by repeat constructor) (hf:Fil (fun i=>some (i * m,m)) fr cs ps q:=by repeat (first|exact Fil.nil|apply Fil.cons FL FL FL (by repeat constructor))) (hl:Nat.ble (len * m) 1000=true:=by rfl) (hm:Nat.blt 0 m=true:=by rfl) (hlen:Nat.blt 0 len=true:=by rfl) (hd:Nat.blt d c.n=true:=by rfl) :
  Ef c fr H ⟨some d,.buildSlice t len ps.toArray,ty,pos,Cf,gd⟩ Φ:=Ph fun Q a w s g=>by
 have hm0:m≠0:=by have:0 < m:=IY;omega
 have hlen0:len≠0:=by have:0 < len:=(by simpa using hlen);omega
 have hl2:len * m<=1000:=GY
 obtain ⟨i,hi,hz⟩:=cu.1 hE.i;simp only [Prod.mk.injEq] at hz;obtain ⟨hz,hs, -⟩:=hz;obtain ⟨z',hz',hzc⟩:=hZ.z;obtain rfl:z'=z:=by rw [hi] at hz';simp [hz] at hz';exact hz'.symm
 have hzl:zs.length=m:=by have:=hE.s;rw [hzc] at this;simpa using this
 have e2:((Array.range (len * m)).map (zs.toArray[· % zs.toArray.size]!))=cs.toArray:=by
  have:=Oi zs.toArray len;rw [hc.eq];apply fO;rw [show zs.toArray.size=m from by simp [hzl]] at this;simpa [madeCells] using this
 have e1:(execOp a.eval ⟨some d,.buildSlice t len ps.toArray,ty,pos,Cf,gd⟩).run c.P w=.ok (.value (ab (some ⟨w.heap.size,0,none⟩) len len)) (w.alloc (.cells q.toArray e)):=by
  have h3:=hf.run g;have hne:¬(len * m=0):=Nat.mul_ne_zero hlen0 hm0;have hns:¬(len * m > 2 ^ 24):=EY
  have hzv:(zeroValue e).run c.P w=.ok z' w:=by simp [zeroValue,typeInfo,hi,hz]
  simp only [execOp,Instr.buildSlice,Sem.run_bind,run_underlying hS.u,Nb hS.s,Result.andThen_ok,aC hns,aC hne,hzv,hzc,Sem.run_pure,Sem.run_ite,e2];simp only [cW,h3,newRow,Sem.run_bind,run_newObj_alloc,Result.andThen_ok,Sem.run_pure]
 rw [e1];exact (h _).h _ _ (s.new e q) (g.put hd)
def Kt {t e m:Nat} [SlC c.P t e m] (hd:Nat.blt d c.n=true) (h:∀g,T c ((d,ab (some ⟨g,0,none⟩) 0 0)::fr) (.row g e 0 [] [] []::H) Φ):On c fr H (some d) (.buildSlice t 0 #[]) ty Φ:=⟨fun _ _ _=>bs0 h hd⟩
def Iy {zs:am} {n:Nat} {q:am} (h:Rpt zs n q:=by repeat constructor):Rpt zs n q:=h
def I1 {t e m b len:Nat} {z:Value} {zs cs q:am} {ps:List (Nat × Operand)} [SlC c.P t e m] [ElT c.P e z m b] [ZC c.P e zs] (hd:Nat.blt d c.n=true) (hlen:Nat.blt 0 len=true) (hm:Nat.blt 0 m=true) (hl:Nat.ble (len * m) 1000=true) (hc:Rpt zs len cs) (hf:Fil (fun i=>some (i * m,m)) fr cs ps q) (h:∀g,T c ((d,ab (some ⟨g,0,none⟩) len len)::fr) (.row g e 0 [] q []::H) Φ) :
  On c fr H (some d) (.buildSlice t len ps.toArray) ty Φ:=⟨fun _ _ _=>bs h hc hf hl hm hlen hd⟩
end
def Avo {A B:aq} (h:(A++B).Nodup) {b:Nat} (ha:b∈A) (hb:b∈B):False:=(bO.1 h).2.2 b ha b hb rfl
section
variable {c:Cx} {fr:Fr} {H:List Pc} {k:List It} {Φ:Gl} {ops:Array Oper} {rest:List Oper} {d:Nat} {o:Op} {ty:TypeId} {pos:String} {Cf:Array Edge} {v u:Value} {x y:Operand}
def ap {α:Type} {E:B8 α} {t e m b:Nat} {z:Value} [hS:SlC c.P t e m] [hE:ElT c.P e z m b] {xs ys:List α} {F Fy:aq} {ao:aj} {n cp:Nat} {gd:Option (Nat × Bool)} {R S:List Pc} (one:One E) (hz:0 < E.sz) (hm:E.sz=m)
  (hp:C1 H (.ow E e v xs F) R) (hx:ev fr x=some v) (hy:ev fr y=some (ab ao n cp)) (hn:n=ys.length)
  (hsrc:∀w,St c.G c.D c.w0 (.ow E e v xs F::R) w->∃news,Cw E w news ys Fy/\((ao=none/\cp=0/\ys=[])\/∃ad,ao=some ad/\∀j u,news[j]?=some u->w.cell? (ad.add j)=some u)/\(∀b∈Fy,b ∉ F)/\Fy.Nodup)
  (hFy:∀w v' F',St c.G c.D c.w0 (.ow E e v xs F::R) w->(∀b∈F',b∈F\/b∈Fy\/b=w.heap.size)->∀w',Ek F w w'->(Pc.ow E e v' (xs++ys) F').P w'->St c.G c.D c.w0 (.ow E e v' (xs++ys) F'::S) w')
  (h63:xs.length+ys.length<=maxLen) (hby:(xs.length+ys.length) * b<=140737488355328)
  (h:∀a' c' F',T c ((d,.slice a' (xs++ys).length c')::fr) (.ow E e (.slice a' (xs++ys).length c') (xs++ys) F'::S) Φ) (hd:Nat.blt d c.n=true) :
  Ef c fr H ⟨some d,.call { callee:=.builtin .append,args:=#[x,y],argTypes:=#[t,t] },ty,pos,Cf,gd⟩ Φ:=.mk fun Q a w s g=>by
 have s1:=s.pick hp;obtain ⟨hnd,how⟩:=s1.on (.ow E e v xs F) FA;obtain ⟨news,hfl,hsr,hdis,hny⟩:=hsrc w s1;subst hn;refine Ar6 (P:=c.P) one hz x y t rfl e z b hS.u (by rw [hE.i,hm]) (by rw [hE.s,hm]) v xs F (g.ev hx) how (Hd.of hnd) ao ys cp (g.ev hy) news Fy hfl hsr (fun b hb e=>hdis b hb (how.own_mem b e)) h63 hby fun v' w' F' hA=>?_;obtain ⟨a',c',rfl⟩:=hA.val;rw [<-aA] at hA ⊢;have hw:=hA.ow;exact (h a' c' F').h _ _ (hFy w _ F' s1 hA.mem w' hA.Je ⟨hA.Aza hnd hny hdis,hw⟩) (g.put hd)
def N9 {α:Type} {E:B8 α} {t e m b:Nat} {z:Value} [hS:SlC c.P t e m] [hE:ElT c.P e z m b] {xs ys:List α} {F:aq} {g n cp tt:Nat} {cs:am} {R S:List Pc}
  (hfl:∀w,Cw E w cs ys []) (one:One E) (h:∀a' c' F',T c ((d,.slice a' (xs++ys).length c')::fr) (.ow E e (.slice a' (xs++ys).length c') (xs++ys) F'::S) Φ)
  (hx:ev fr x=some v:=by rfl) (hy:ev fr y=some (ab (some ⟨g,0,none⟩) n cp):=by rfl) (hp:C1 H (.ow E e v xs F) R:=by exact Do) (hp2:C1 R (.row g tt 0 [] cs []) S:=by exact Do) (hn:n=ys.length:=by rfl) (hz:0 < E.sz:=by decide) (hm:E.sz=m:=by rfl)
  (h63:xs.length+ys.length<=9223372036854775807:=by simp only [aU,aY];omega) (hby:(xs.length+ys.length) * b<=140737488355328:=by simp only [aU,aY];omega) (hd:Nat.blt d c.n=true:=by rfl) :
  On c fr H (some d) (.call { callee:=.builtin .append,args:=#[x,y],argTypes:=#[t,t] }) ty Φ :=
 ⟨fun _ _ _=>ap one hz hm hp hx hy hn (Fy:=[]) (fun w s=>⟨cs,hfl w,.inr ⟨_,rfl,fun j u hu=>by
   have hr:=(s.on (.row g tt 0 [] cs []) (by simp [hp2.mem])).2;have:=hr.cell j;simp only [aZ,bc] at this;rw [hu] at this;unfold Addr.add
   split
   ·rename_i e;subst e;exact this
   ·simpa using this⟩,FA,FA⟩)
  (fun w v' F' s hF w' hk hv=>by
   have s2:St c.G c.D c.w0 (.ow E e v xs F::S) w:=⟨s.Je,fun q hq=>s.on q (by rcases aG.1 hq with rfl|hq;simp;simp [hp2.sub q hq]),⟨fun q hq=>s.sep.1 q (hp2.sub q hq),(hp2.sep s.sep.2).2⟩,fun q hq=>s.Adw q (by rcases aG.1 hq with rfl|hq;simp;simp [hp2.sub q hq])⟩;exact St.turn (M:=[.ow E e v xs F]) (N:=[.ow E e v' (xs++ys) F']) s2 HF JC ⟨FA,trivial⟩ (by
    intro q hq b hb;simp at hq;subst hq;rcases hF b hb with h|h|h
    ·exact .inr (.inl ⟨.ow E e v xs F,FA,rfl,h⟩)
    ·simp at h
    ·exact .inl EY))
  (by unfold maxLen;exact h63) hby h hd⟩
def N5 {α:Type} {E:B8 α} {t e m b:Nat} {z:Value} [hS:SlC c.P t e m] [hE:ElT c.P e z m b] {xs ys:List α} {F G:aq} {ao:aj} {n cp:Nat} {R:List Pc}
  (one:One E) (sc:∀{w cs x F},E.Mj w cs x F->F=[]) (h:∀a' c' F',T c ((d,.slice a' (xs++ys).length c')::fr) (.ow E e (.slice a' (xs++ys).length c') (xs++ys) F'::R) Φ)
  (hx:ev fr x=some v:=by rfl) (hy:ev fr y=some (ab ao n cp):=by rfl) (hp:C1 H (.ow E e v xs F) R:=by exact Do) (hp2:.sl E (ab ao n cp) ys G∈R:=by exact Bp) (hn:n=ys.length:=by rfl) (hz:0 < E.sz:=by decide) (hm:E.sz=m:=by rfl)
  (h63:xs.length+ys.length<=9223372036854775807:=by first|omega|(simp only [aU,aY];omega)) (hby:(xs.length+ys.length) * b<=140737488355328:=by first|omega|(simp only [aU,aY];omega)) (hd:Nat.blt d c.n=true:=by rfl) :
  On c fr H (some d) (.call { callee:=.builtin .append,args:=#[x,y],argTypes:=#[t,t] }) ty Φ :=
 have flat0:∀{w cs zs G},Cw E w cs zs G->G=[]:=fun {w cs zs G}=>by
  induction zs generalizing cs G with
  | nil=>intro h;exact h.2
  | cons z r ih=>intro h;obtain ⟨c1,c2,F1,F2,_,rfl,h1,h2⟩:=h;rw [sc h1,ih h2];rfl
 ⟨fun _ _ _=>ap one hz hm hp hx hy hn (Fy:=[]) (fun w s=>by
   obtain ⟨-,hs⟩:=s.on (.sl E (ab ao n cp) ys G) (by simp [hp2]);obtain ⟨ao',cc,news,Fy,he, -,hfy, -,hsrc⟩:=hs.src;simp only [Value.slice.injEq] at he;obtain ⟨rfl, -,rfl⟩:=he;obtain rfl:=flat0 hfy;exact ⟨news,hfy,hsrc,FA,FA⟩)
  (fun w v' F' s hF w' hk hv=>St.turn (M:=[.ow E e v xs F]) (N:=[.ow E e v' (xs++ys) F']) s HF JC ⟨FA,trivial⟩ (by
    intro q hq b hb;simp at hq;subst hq;rcases hF b hb with h|h|h
    ·exact .inr (.inl ⟨.ow E e v xs F,FA,rfl,h⟩)
    ·simp at h
    ·exact .inl EY))
  (by unfold maxLen;exact h63) hby h hd⟩
/-! parts of slices that read -/
def Afu {P:Program} {t e m:Nat} (hS:SlC P t e m):P.elem t=e:=IH
def sld {α:Type} {E:B8 α} {t e m:Nat} [hS:SlC c.P t e m] {a:aj} {n cp:Nat} {xs:List α} {F:aq} {i:Int} (j:Nat) (h:∀a' c' F',T c ((d,.slice a' (xs.drop j).length c')::fr) (.sl E (.slice a' (xs.drop j).length c') (xs.drop j) F'::H) Φ)
  (hx:ev fr x=some (ab a n cp):=by rfl) (hy:ev fr y=some (aa i):=by rfl) (hm:.sl E (ab a n cp) xs F∈H:=by exact Bp) (hi:i=(j:Int):=by first|rfl|omega) (hj:j<=xs.length:=by omega) (he:E.sz=m:=by rfl) (hd:Nat.blt d c.n=true:=by rfl):On c fr H (some d) (.slice t x (some y) none none) ty Φ:=⟨fun pos Cf gd=>Ph fun Q ac w s g=>by
 subst hi;obtain ⟨hz,hs⟩:=s.get hm;have he2:=Afu hS;obtain ⟨a2,c2,F',hr,hF,h2⟩:=hs.dropS t GE j hj (fun W=>by rw [he2,he];exact Nb hS.s W);have e1:(execOp ac.eval ⟨some d,.slice t x (some y) none none,ty,pos,Cf,gd⟩).run c.P w=.ok (.value (.slice a2 (xs.drop j).length c2)) w:=by
  simp [execOp,g.ev hx,g.ev hy,hr]
 rw [e1];rw [<-aX] at h2;exact (h a2 c2 F').h _ w (s.ro hm rfl rfl ⟨hz,h2⟩ hF) (g.put hd)⟩
/-! one element of an owned slice, of elements without blocks of their own -/
def Aw3 {α:Type} (E:B8 α) (t:TypeId) (g:Nat) (v:Value) (xs:List α) (i:Nat) (A B:am):Prop:=∀w cs y,Ip w g t (A++cs++B)->E.Mj w cs y []->Ow E t w v (xs.set i y) [g]
def Q4 {α:Type} {E:B8 α} {t:TypeId} {a:aj} {n cp m:Nat} {xs:List α} {F:aq} {S:List Pc} (sc:Abn E) (i:Nat) (h:∀(_:i < xs.length) g A cs B,a=some ⟨g,0,none⟩->F=[g]->(∀w,E.Mj w cs xs[i] [])->Aw3 E t g (ab (some ⟨g,0,none⟩) n cp) xs i A B->T c fr (.row g t (0+i * m) A cs B::S) Φ)
  (hp:C1 H (.ow E t (ab a n cp) xs F) S) (hm:E.sz=m) (hi:i < xs.length):T c fr H Φ:=.mk fun ac w s g=>by
 have z1:=s.pick hp;obtain ⟨-,ho⟩:=z1.on (.ow E t (ab a n cp) xs F) FA;obtain ⟨g0,cap,A,cs,B,G1,Fi,G2,hv,hr,hA, -,hx,rfl, -,hW⟩:=ho.focus i hi
 cases hv;obtain rfl:=sc hx;have hG:∀b,b ∉ G1++G2:=by
  intro b hb;have:=ho.scal sc;simp only [Value.ownBlock,Option.toList_some,bc,List.cons.injEq,cM] at this;rw [this] at hb;simp at hb
 have hG0:G1++G2=[]:=eV.2 hG;subst hm;refine (h hi g0 A cs B rfl (by simpa using hG0) (fun w'=>E.frame hx FA) (fun w' c' y hr' hy=>?_)).h ac w (z1.conv rfl ⟨EY,hr⟩ (by intro b hb;simp [Pc.F] at hb;subst hb;simp [Pc.F])) g;have:=hW w' c' y [] hr' hy (fun b hb=>absurd hb (hG b));simpa [hG0] using this
def P8 {α:Type} {E:B8 α} {t:TypeId} {g o:Nat} {v:Value} {xs:List α} {i:Nat} {A cs B:am} {S:List Pc} (y:α) (hh:Aw3 E t g v xs i A B) (hy:∀w,E.Mj w cs y []) (h:T c fr (.ow E t v (xs.set i y) [g]::S) Φ) (hp:C1 H (.row g t o A cs B) S:=by exact Do):T c fr H Φ:=.mk fun ac w s ag=>by
 have z1:=s.pick hp;obtain ⟨-,hr⟩:=z1.on (.row g t o A cs B) FA;exact h.h ac w (z1.conv rfl ⟨FA,hh w cs y hr (hy w)⟩ (fun b hb=>hb)) ag
/-! calls by the elder contracts -/
def cn {α:Type} {E:B8 α} {t:TypeId} {xs:List α} {f:Nat} {vs:am} (hc:∀w,St c.G c.D c.w0 H w->Calls c.P f vs.toArray w (X4 E t xs w)) (h:∀a cp F,T c ((d,ab a xs.length cp)::fr) (.ow E t (ab a xs.length cp) xs F::H) Φ):Cl c fr H d f vs Φ :=
 Abo hc (fun w e w' s hR=>by
  obtain ⟨v,F,he,ho,hn,hF,hB⟩:=hR;obtain ⟨a,cp,rfl⟩:=ho.slice;exact ⟨_,he,fun ac g=>(h a cp F).h ac w' (s.add (N:=[.ow E t (ab a xs.length cp) xs F]) hB (by intro q hq;simp at hq;subst hq;exact ⟨hn,ho⟩) ⟨FA,trivial⟩ HR) g⟩)
def cr {α:Type} {E:B8 α} {z:α} {f:Nat} {vs:am} (hc:∀w,St c.G c.D c.w0 H w->Calls c.P f vs.toArray w (Bhq E z w)) (h:∀v F,T c ((d,v)::fr) (.isv E v z F::H) Φ):Cl c fr H d f vs Φ :=
 Abo hc (fun w e w' s hR=>by
  obtain ⟨v,F,he,ho,hF,hB⟩:=hR;exact ⟨_,he,fun ac g=>(h v F).h ac w' (s.add (N:=[.isv E v z F]) hB (by intro q hq;simp at hq;subst hq;exact ho) ⟨FA,trivial⟩ HR) g⟩)
def cv {α:Type} {E:B8 α} {z:α} {f:Nat} {vs:am} (hc:∀w,St c.G c.D c.w0 H w->Calls c.P f vs.toArray w (Axf E z w)) (h:∀v F,T c ((d,v)::fr) (.own E v z F::H) Φ):Cl c fr H d f vs Φ :=
 Abo hc (fun w e w' s hR=>by
  obtain ⟨v,F,he,ho,hn,hF,hB⟩:=hR;exact ⟨_,he,fun ac g=>(h v F).h ac w' (s.add (N:=[.own E v z F]) hB (by intro q hq;simp at hq;subst hq;exact ⟨hn,ho⟩) ⟨FA,trivial⟩ HR) g⟩)
/-! regions that draw their order -/
inductive Nth:List Pc->Nat->Pc->Prop
 | zero {p R}:Nth (p::R) 0 p
 | succ {x p R i}:Nth R i p->Nth (x::R) (i+1) p
inductive Sel (H:List Pc):aq->List Pc->Prop
 | nil:Sel H [] []
 | cons {i is p R}:Nth H i p->Sel H is R->Sel H (i::is) (p::R)
def Nth.mem {H i p} (h:Nth H i p):p∈H:=by
 induction h with
 | zero=>simp
 | succ _ ih=>simp [ih]
variable {H0:List Pc} {X:aq} {f:Nat} {listed:Array Bool}
def Ar {id:Nat} {l:List Oper} (is X:aq) (h:T c fr H (.dx k H0 X l.toArray l.length (Array.replicate l.length false))) (_hsel:Sel H is H0:=by repeat constructor) (hm:c.P.follows .mixedOrders=true:=by kernel_rfl):T c fr H (.By k (Code.region id l.toArray true)):=.mk fun a w s g=>by
 exact DV
def X2 (c:Cx):Prop:=∀ch d v a w,c.R (.panic ch) (Act.put a d v) w->c.R (.panic ch) a w
def Aad {P:Program} {D G:aq} {w0:World} {n:Nat} {fn:Func} {R:Ending->World->Prop}:X2 ⟨P,G,D,w0,n,bodyPost P fn R⟩:=fun ch d v a w h=>by
 cases d <;> exact h
def dt (i:Nat) (h:T c ((d,v)::fr) H (.dx k H0 X ops f (listed.setIfInBounds i true))) (ho:ops[i]?=some ⟨some d,o,ty,pos,Cf,none⟩:=by rw [aO];rfl) (hy:Yd c.P c.n fr H0 o ty v:=by exact ydE) (hs:M8 H0 H:=by repeat (first|exact M8.nil|refine M8.cons FD ?_))
  (h1:Region.noSelect ops=true:=by kernel_rfl) (h2:Region.free .any ops listed i=true:=by kernel_rfl) (h3:(Region.ready .any ops listed).contains i=true:=by kernel_rfl) (h4:Mc .any ops (fun i=>X.contains i) i=true:=by kernel_rfl) (h5:Na .any ops listed=true:=by kernel_rfl) (hR:X2 c:=by exact Aad) (hd:Nat.blt d c.n=true:=by rfl) :
  T c fr H (.dx k H0 X ops (f+1) listed):=.mk fun a w s g =>
 E7.take (v:=v) ho h1 h2 h3 h4 h5 (fun ch a w hp=>by rw [Mz] at hp ⊢;exact hR _ _ _ _ _ hp) (.inl ⟨rfl,fun w' hw'=>hy.h a w' _ _ _ _ g hw'⟩) (fun p hp=>s.on p (hs.all p hp)) (h.h _ _ s (g.put hd))
def Aqk (i j:Nat) {α:Type} {E:B8 α} {t e m:Nat} [hS:SlC c.P t e m] {a:aj} {n cp:Nat} {xs:List α} {F:aq} {z:Int} (h:∀a' c' F',T c ((d,.slice a' (xs.drop j).length c')::fr) (.sl E (.slice a' (xs.drop j).length c') (xs.drop j) F'::H) (.dx k H0 X ops f (listed.setIfInBounds i true))) (ho:ops[i]?=some ⟨some d,.slice t x (some y) none none,ty,pos,Cf,none⟩:=by rw [aO];rfl)
  (hx:ev fr x=some (ab a n cp):=by rfl) (hy:ev fr y=some (aa z):=by rfl) (hm:.sl E (ab a n cp) xs F∈H:=by exact Bp) (hi:z=(j:Int):=by first|rfl|omega) (hj:j<=xs.length:=by omega) (he:E.sz=m:=by rfl) (hs:M8 H0 H:=by repeat (first|exact M8.nil|refine M8.cons FD ?_))
  (h1:Region.noSelect ops=true:=by kernel_rfl) (h2:Region.free .any ops listed i=true:=by kernel_rfl) (h3:(Region.ready .any ops listed).contains i=true:=by kernel_rfl) (h4:Mc .any ops (fun i=>X.contains i) i=true:=by kernel_rfl) (h5:Na .any ops listed=true:=by kernel_rfl) (hR:X2 c:=by exact Aad) (hd:Nat.blt d c.n=true:=by rfl) :
  T c fr H (.dx k H0 X ops (f+1) listed):=.mk fun ac w s g=>by
 subst hi;obtain ⟨hz,hs'⟩:=s.get hm;have he2:=Afu hS;obtain ⟨a2,c2,F',hr,hF,h2'⟩:=hs'.dropS t GE j hj (fun W=>by rw [he2,he];exact Nb hS.s W);rw [<-aX] at h2' hr;refine E7.take (v:=.slice a2 (xs.drop j).length c2) ho h1 h2 h3 h4 h5 (fun ch a w hp=>by rw [Mz] at hp ⊢;exact hR _ _ _ _ _ hp) (.inl ⟨rfl,fun w' _=>?_⟩) (fun p hp=>s.on p (hs.all p hp)) ((h a2 c2 F').h _ w (s.ro hm rfl rfl ⟨hz,h2'⟩ hF) (g.put hd));simp only [execOp,cP,bW,g.ev hx,g.ev hy,Sem.run_bind,hr,Result.andThen_ok,Sem.run_pure]
def Dg (i:Nat) {j t:Nat} {b:Bool} (h:T c ((d,v)::fr) H (.dx k H0 X ops f (listed.setIfInBounds i true))) (ho:ops[i]?=some ⟨some d,o,ty,pos,Cf,some (j,b)⟩:=by rw [aO];rfl) (ht:(ops[j]?).bind (·.dst)=some t:=by rfl) (hl:Sj fr t=some (.bool b):=by rfl) (hy:Yd c.P c.n fr H0 o ty v:=by exact ydE) (hs:M8 H0 H:=by repeat (first|exact M8.nil|refine M8.cons FD ?_))
  (h1:Region.noSelect ops=true:=by kernel_rfl) (h2:Region.free .any ops listed i=true:=by kernel_rfl) (h3:(Region.ready .any ops listed).contains i=true:=by kernel_rfl) (h4:Mc .any ops (fun i=>X.contains i) i=true:=by kernel_rfl) (h5:Na .any ops listed=true:=by kernel_rfl) (hR:X2 c:=by exact Aad) (hd:Nat.blt d c.n=true:=by rfl) :
  T c fr H (.dx k H0 X ops (f+1) listed):=.mk fun a w s g =>
 E7.take (v:=v) ho h1 h2 h3 h4 h5 (fun ch a w hp=>by rw [Mz] at hp ⊢;exact hR _ _ _ _ _ hp) (.inl ⟨by rw [V9 (c:=c) ht hl g];simp,fun w' hw'=>hy.h a w' _ _ _ _ g hw'⟩) (fun p hp=>s.on p (hs.all p hp)) (h.h _ _ s (g.put hd))
def ds (i:Nat) {j t:Nat} {b b':Bool} (h:T c ((d,undef)::fr) H (.dx k H0 X ops f (listed.setIfInBounds i true))) (ho:ops[i]?=some ⟨some d,o,ty,pos,Cf,some (j,b)⟩:=by rw [aO];rfl) (ht:(ops[j]?).bind (·.dst)=some t:=by rfl) (hl:Sj fr t=some (.bool b'):=by rfl) (hb:(b' == b)=false:=by rfl) (hs:M8 H0 H:=by repeat (first|exact M8.nil|refine M8.cons FD ?_))
  (h1:Region.noSelect ops=true:=by kernel_rfl) (h2:Region.free .any ops listed i=true:=by kernel_rfl) (h3:(Region.ready .any ops listed).contains i=true:=by kernel_rfl) (h4:Mc .any ops (fun i=>X.contains i) i=true:=by kernel_rfl) (h5:Na .any ops listed=true:=by kernel_rfl) (hR:X2 c:=by exact Aad) (hd:Nat.blt d c.n=true:=by rfl) :
  T c fr H (.dx k H0 X ops (f+1) listed):=.mk fun a w s g =>
 E7.take (v:=undef) ho h1 h2 h3 h4 h5 (fun ch a w hp=>by rw [Mz] at hp ⊢;exact hR _ _ _ _ _ hp) (.inr ⟨by rw [V9 (c:=c) ht hl g];exact hb,rfl⟩) (fun p hp=>s.on p (hs.all p hp)) (h.h _ _ s (g.put hd))
def dsu (i:Nat) {j t:Nat} {b:Bool} (h:T c ((d,undef)::fr) H (.dx k H0 X ops f (listed.setIfInBounds i true))) (ho:ops[i]?=some ⟨some d,o,ty,pos,Cf,some (j,b)⟩:=by rw [aO];rfl) (ht:(ops[j]?).bind (·.dst)=some t:=by rfl) (hl:Sj fr t=some undef:=by rfl) (hs:M8 H0 H:=by repeat (first|exact M8.nil|refine M8.cons FD ?_))
  (h1:Region.noSelect ops=true:=by kernel_rfl) (h2:Region.free .any ops listed i=true:=by kernel_rfl) (h3:(Region.ready .any ops listed).contains i=true:=by kernel_rfl) (h4:Mc .any ops (fun i=>X.contains i) i=true:=by kernel_rfl) (h5:Na .any ops listed=true:=by kernel_rfl) (hR:X2 c:=by exact Aad) (hd:Nat.blt d c.n=true:=by rfl) :
  T c fr H (.dx k H0 X ops (f+1) listed):=.mk fun a w s g =>
 E7.take (v:=undef) ho h1 h2 h3 h4 h5 (fun ch a w hp=>by rw [Mz] at hp ⊢;exact hR _ _ _ _ _ hp) (.inr ⟨by simp only [Region.wanted,yielded,ht,dg,g.at_ t _ hl];rfl,rfl⟩) (fun p hp=>s.on p (hs.all p hp)) (h.h _ _ s (g.put hd))
def dk {i:Nat} (h:T c fr H (.dx k H0 X ops f listed)) (hs:M8 H0 H:=by repeat (first|exact M8.nil|refine M8.cons FD ?_)):T c fr H (.dk i k H0 X ops f listed):=.mk fun a w s g=>⟨fun _ p hp=>s.on p (hs.all p hp),h.h a w s g⟩
def Nm {i:Nat} (h:T c fr H (.dx k H0 X ops f listed)) (hi:X.contains i=true:=by rfl):T c fr H (.dk i k H0 X ops f listed):=.mk fun a w s g=>⟨fun h0=>(by rw [hi] at h0;cases h0),h.h a w s g⟩
def d1 (i:Nat) {o:Oper} (h:Ef c fr H o (.dk i k H0 X ops f (listed.setIfInBounds i true))) (hr:Region.ready .any ops listed=[i]:=by kernel_rfl) (ho:ops[i]?=some o:=by rw [aO];rfl) (hg:o.guard=none:=by rfl):T c fr H (.dx k H0 X ops (f+1) listed):=.mk fun a w s g =>
 E7.only hr ho fun K hK=>by
  rw [aH (by simp [Region.wanted,hg])];exact Oper.wp_mono (fun a' w' h'=>hK a' w' h'.1 h'.2) (h.h _ a w s g)
def d1g (i:Nat) {od:Option Tmp} {j t:Nat} {b:Bool} (h:Ef c fr H ⟨od,o,ty,pos,Cf,some (j,b)⟩ (.dk i k H0 X ops f (listed.setIfInBounds i true))) (hr:Region.ready .any ops listed=[i]:=by kernel_rfl) (ho:ops[i]?=some ⟨od,o,ty,pos,Cf,some (j,b)⟩:=by rw [aO];rfl) (ht:(ops[j]?).bind (·.dst)=some t:=by rfl) (hl:Sj fr t=some (.bool b):=by rfl):T c fr H (.dx k H0 X ops (f+1) listed):=.mk fun a w s g =>
 E7.only hr ho fun K hK=>by
  rw [aH (by rw [V9 (c:=c) ht hl g];simp)];exact Oper.wp_mono (fun a' w' h'=>hK a' w' h'.1 h'.2) (h.h _ a w s g)
def d2 (i j:Nat) {o o2:Oper} (h:Ef c fr H o (.dk i k H0 X ops f (listed.setIfInBounds i true))) (h':Ef c fr H o2 (.dk j k H0 X ops f (listed.setIfInBounds j true)))
  (hr:Region.ready .any ops listed=[i,j]:=by kernel_rfl) (ho:ops[i]?=some o:=by rw [aO];rfl) (ho2:ops[j]?=some o2:=by rw [aO];rfl) (hg:o.guard=none:=by rfl) (hg2:o2.guard=none:=by rfl):T c fr H (.dx k H0 X ops (f+1) listed):=.mk fun a w s g =>
 E7.two hr ho ho2 (fun K hK=>by
  rw [aH (by simp [Region.wanted,hg])];exact Oper.wp_mono (fun a' w' h'=>hK a' w' h'.1 h'.2) (h.h _ a w s g)) (fun K hK=>by
  rw [aH (by simp [Region.wanted,hg2])];exact Oper.wp_mono (fun a' w' h''=>hK a' w' h''.1 h''.2) (h'.h _ a w s g))
def dO (i:Nat) {od:Option Tmp} (hr:Region.ready .any ops listed=[i]) (ho:ops[i]?=some ⟨od,o,ty,pos,Cf,none⟩) (h:On c fr H od o ty (.dk i k H0 X ops f (listed.setIfInBounds i true))):T c fr H (.dx k H0 X ops (f+1) listed):=d1 i (h.h pos Cf none) hr ho rfl
def dO2 (i j:Nat) {od od2:Option Tmp} {o2:Op} {ty2:TypeId} {pos2:String} {aft2:Array Edge} (hr:Region.ready .any ops listed=[i,j]) (ho:ops[i]?=some ⟨od,o,ty,pos,Cf,none⟩) (ho2:ops[j]?=some ⟨od2,o2,ty2,pos2,aft2,none⟩) (h:On c fr H od o ty (.dk i k H0 X ops f (listed.setIfInBounds i true))) (h':On c fr H od2 o2 ty2 (.dk j k H0 X ops f (listed.setIfInBounds j true))):T c fr H (.dx k H0 X ops (f+1) listed):=d2 i j (h.h pos Cf none) (h'.h pos2 aft2 none) hr ho ho2 rfl rfl
def dd (h:T c fr H (.norm k)) (hr:Region.ready .any ops listed=[]:=by kernel_rfl):T c fr H (.dx k H0 X ops f listed):=.mk fun a w s g=>E7.done hr (h.h a w s g) f
def ey {gd:Option (Nat × Bool)} (h:T c ((d,v)::fr) H Φ) (hy:Yd c.P c.n fr H o ty v:=by exact ydE) (hd:Nat.blt d c.n=true:=by rfl):Ef c fr H ⟨some d,o,ty,pos,Cf,gd⟩ Φ:=Be2 hy hd h
end
inductive Kf (fr:Fr):aq->Fr->Prop
 | nil:Kf fr [] []
 | cons {t v ts r}:Sj fr t=some v->Kf fr ts r->Kf fr (t::ts) ((t,v)::r)
def Kf.sub {fr ts r} (h:Kf fr ts r):M2 fr r:=by
 induction h with
 | nil=>exact .nil
 | cons h _ ih=>exact .cons h ih
def M2.app {fr a b:Fr} (h:M2 fr a) (h2:M2 fr b):M2 fr (a++b):=by
 induction h with
 | nil=>exact h2
 | cons h _ ih=>exact .cons h ih
def Kv.hsub {H M R:List Pc} (h:Kv H M R):Lr H (M++R):=by
 have all:∀(H:List Pc),Lr H H:=by
  intro H
  induction H with
  | nil=>exact .nil
  | cons p H ih=>exact .cons .here ih
 induction h with
 | nil=>exact all _
 | cons hp _ ih=>exact .cons hp ih
def Ca {c:Cx} {fr:Fr} {H:List Pc} {k:List It} {x:Code} {σ:Type} {cst:Fr} {rest:List Pc} (ks:aq) (upd:σ->Fr) (chg:σ->List Pc) (C:σ->Prop) (μ:σ->Nat) (s0:σ) (h0:C s0)
  (round:∀s,C s->T c (upd s++cst) (chg s++rest) (.By (.lp (LpN c (fun s=>upd s++cst) (fun s=>chg s++rest) C μ (μ s))::k) x)) (hk:Kf fr ks cst:=by repeat (first|exact Kf.nil|apply Kf.cons FL)) (hf:M2 fr (upd s0):=by exact frE) (hH:Kv H (chg s0) rest:=by exact Ahs):T c fr H (.By k (Code.loop x)) :=
 Axv (fun s=>upd s++cst) (fun s=>chg s++rest) C μ s0 h0 round (hf.app hk.sub) hH.hsub
def Dl {c:Cx} {fr:Fr} {H:List Pc} {k:List It} {x:Code} {σ:Type} {cst:Fr} (ks:aq) (upd:σ->Fr) (C:σ->Prop) (μ:σ->Nat) (s0:σ) (h0:C s0)
  (round:∀s,C s->T c (upd s++cst) H (.By (.lp (LpN c (fun s=>upd s++cst) (fun _=>H) C μ (μ s))::k) x)) (hk:Kf fr ks cst:=by repeat (first|exact Kf.nil|apply Kf.cons FL)) (hf:M2 fr (upd s0):=by exact frE):T c fr H (.By k (Code.loop x)) :=
 Axv (fun s=>upd s++cst) (fun _=>H) C μ s0 h0 round (hf.app hk.sub) (by
  have all:∀(H:List Pc),Lr H H:=by
   intro H
   induction H with
   | nil=>exact .nil
   | cons p H ih=>exact .cons .here ih
  exact all _)
def Jn {σ:Type} (c:Cx) (fr':σ->Fr) (H':σ->List Pc) (C:σ->Prop) (a:Act) (w:World):Prop:=∃s,C s/\St c.G c.D c.w0 (H' s) w/\Ag c.n (fr' s) a
def Bfr {c:Cx} {fr:Fr} {H:List Pc} {k:List It} {x:Code} {σ:Type} (fr':σ->Fr) (H':σ->List Pc) (C:σ->Prop) (h:T c fr H (.By (.lp (Jn c fr' H' C)::k) x)) (h2:∀s,C s->T c (fr' s) (H' s) (.norm k)):T c fr H (.By k x):=.mk fun a w s g =>
 wp_mono (h.h a w s g) fun e a' w' he=>by
  cases e with
  | normal=>obtain ⟨z,hz,hs,hg⟩:=he;exact (h2 z hz).h a' w' hs hg
  | _=>exact he
def Bk {c:Cx} {fr:Fr} {H:List Pc} {k:List It} {σ:Type} {fr':σ->Fr} {H':σ->List Pc} {C:σ->Prop} (s:σ) (hC:C s) (hf:M2 fr (fr' s):=by repeat (first|exact M2.nil|refine M2.cons FL ?_)) (hH:Lr H (H' s):=by repeat (first|exact Lr.nil|refine Lr.cons (by exact Do) ?_)):T c fr H (.norm (.lp (Jn c fr' H' C)::k)) :=
 .mk fun _ _ st g=>⟨s,hC,st.sub hH,g.sub hf⟩
def Dv {c:Cx} {fr:Fr} {H:List Pc} {k:List It} {x:Code} {σ:Type} {cst:Fr} {rest:List Pc} (ks rs:aq) (upd:σ->Fr) (chg:σ->List Pc) (C:σ->Prop) (h:T c fr H (.By (.lp (Jn c (fun s=>upd s++cst) (fun s=>chg s++rest) C)::k) x)) (h2:∀s,C s->T c (upd s++cst) (chg s++rest) (.norm k)) (_hk:Kf fr ks cst:=by repeat (first|exact Kf.nil|apply Kf.cons FL)) (_hr:Sel H rs rest:=by repeat constructor):T c fr H (.By k x) :=
 Bfr _ _ C h h2
def enter {P:Program} {f:FuncId} {fn:Func} {cd:Code} {args:am} {A M H:List Pc} {σ:Type} {C:σ->Prop} {v:σ->Value} {N:σ->List Pc} {n:Nat} (hf:P.funcs[f]?=some fn) (hb:fn.body=some cd) (hn:fn.ntmps=n)
  (h:∀w,T ⟨P,fp M,fp A,w,n,bodyPost P fn (Alh P w A M C v N)⟩ (Ank 0 args) H (.By [] cd))
  (hl:Nat.ble args.length n=true:=by rfl) (hmA:A.all (fun p=>!p.mu)=true:=by rfl) (hH:Amy M A H:=by repeat constructor):Fn P f args A M C v N:=by
 subst hn;exact Ayb hf hb (fun w=>by rw [hH.eq];exact h w) GY hmA
def ret {P:Program} {fn:Func} {G D:aq} {w0:World} {n:Nat} {A M:List Pc} {σ:Type} {C:σ->Prop} {v:σ->Value} {N:σ->List Pc} {fr:Fr} {H:List Pc} {rs:List ResultVar} {vs:am} (s:σ) (hC:C s) (hv:Uh vs=v s)
  (hr:fn.results=rs.toArray:=by rfl) (h:Res P fr H rs vs:=by repeat (first|exact Res.nil|apply Res.tmp FL|apply Res.agg inferInstance FL FD FL|apply Res.one inferInstance FL FD)) (hN:Lr H (N s):=by repeat (first|exact Lr.nil|refine Lr.cons (by exact Do) ?_)) (hG:G=fp M:=by rfl) (hD:D=fp A:=by rfl):T ⟨P,G,D,w0,n,bodyPost P fn (Alh P w0 A M C v N)⟩ fr H (.fin .ret):=Bfz s hC hr h hv hN hG hD
def Fn.val {P:Program} {f:FuncId} {args:am} {A:List Pc} {C:Unit->Prop} {v:Value} (h:Fn P f args A [] C (fun _=>v) (fun _=>[])) (w:World) (hA:O8 A w) (hm:A.all (fun p=>!p.mu)=true:=by rfl):Calls P f args.toArray w (RB v w) :=
 have hs:∀(A:List Pc),A.all (fun p=>!p.mu)=true->Ti A:=by
  intro A
  induction A with
  | nil=>intro _;trivial
  | cons p A ih =>
   intro h;simp only [dV,aw,bw] at h;exact ⟨fun q hq hm=>by have:=aW.1 h.2 q hq;simp [h.1] at hm;simp [hm] at this,ih h.2⟩
 (h w JF (by simpa using hs A hm)).mono fun e w' ⟨_,_,he,_,_,hk,_⟩=>⟨he,hk.below (aK _) (by simp [fp])⟩
def Arm:∀(A:List Pc),A.all (fun p=>!p.mu)=true->Ti A
 | [],_=>trivial
 | p::A,h=>by
  simp only [dV,aw,bw] at h;exact ⟨fun q hq hm=>by have:=aW.1 h.2 q hq;simp [h.1] at hm;simp [hm] at this,Arm A h.2⟩
def Pc.nd {p:Pc} (hm:p.mu=true) {w:World} (h:p.P w):p.F.Nodup:=by
 cases p with
 | row g t o A cs B=>simp [Pc.F]
 | ow E t v xs F=>exact h.1
 | own E v x F=>exact h.1
 | flat E cs xs F=>exact h.1
 | _=>cases hm
def An0 {w:World}:∀{N:List Pc},N.all (·.mu)=true->O8 N w->Ti N->(fp N).Nodup
 | [],_,_,_=>by simp [fp]
 | p::N,hm,hH,hs=>by
  simp only [dV,aw] at hm;refine bO.2 ⟨Pc.nd hm.1 (hH p FA),An0 hm.2 (fun q hq=>hH q GB) hs.2,fun b hb b' hb' e=>?_⟩;subst e;obtain ⟨q,hq,hqb⟩:=Sk.1 hb';exact hs.1 q hq (by simp [hm.1]) b hb hqb
def Fn.made {P:Program} {f:FuncId} {args:am} {A:List Pc} {σ:Type} {C:σ->Prop} {v:σ->Value} {N:σ->List Pc} (h:Fn P f args A [] C v N) (w:World) (hA:O8 A w) (hN:∀s,(N s).all (·.mu)=true) (hm:A.all (fun p=>!p.mu)=true:=by rfl) :
  Calls P f args.toArray w fun e w'=>∃s,C s/\e=.returned (v s)/\O8 (N s) w'/\(fp (N s)).Nodup/\(∀b∈fp (N s),w.heap.size<=b)/\Below w.heap.size w w' :=
 (h w JF (by simpa using Arm A hm)).mono fun e w' ⟨s,hC,he,hH,hS,hk,hF⟩=>⟨s,hC,he,hH,An0 (hN s) hH hS,(fun b hb=>by
  obtain ⟨p,hp,hpb⟩:=Sk.1 hb;rcases hF p hp b hpb with h|⟨q,hq,_⟩|⟨h,_⟩
  ·exact h
  ·simp at hq
  ·have:=aW.1 (hN s) p hp;rw [h] at this;cases this),hk.below (aK _) (by simp [fp])⟩
def Fn.read {P:Program} {f:FuncId} {args:am} {A:List Pc} {σ:Type} {C:σ->Prop} {v:σ->Value} {N:σ->List Pc} (h:Fn P f args A [] C v N) (w:World) (hA:O8 A w) (hm:A.all (fun p=>!p.mu)=true:=by rfl) :
  Calls P f args.toArray w fun e w'=>∃s,C s/\e=.returned (v s)/\O8 (N s) w'/\Below w.heap.size w w' :=
 (h w JF (by simpa using Arm A hm)).mono fun e w' ⟨s,hC,he,hH,hS,hk,hF⟩=>⟨s,hC,he,hH,hk.below (aK _) (by simp [fp])⟩
def Vj {p q:Pc} {w:World} (h:p.P w) (h2:q.P w):O8 [p,q] w:=fun r hr=>by
 simp only [aG,aT,bn] at hr;rcases hr with rfl|rfl <;> assumption
structure Kp (X:Prop):Prop where
 h:X
section
variable {c:Cx} {fr:Fr} {H:List Pc} {d:Nat} {ty:TypeId} {v:Value} {x:Operand} {Φ:Gl}
def Aze {Y:Nat->Prop} {t:TypeId} {l:am} (hd:Nat.blt d c.n=true) (hx:ev fr x=some v) (hv:v.cells=l.toArray) (hX:Kp (∀g,Y g)) (h:∀g,Kp (Y g)->T c ((d,Gj g 0 0)::fr) (.row g t 0 [] l []::H) Φ):On c fr H (some d) (.box t x) ty Φ:=Bh9 hd hx hv fun g=>h g ⟨hX.h g⟩
def Aor {Y:Nat->Prop} {t:TypeId} {zs:am} [ZC c.P t zs] (hd:Nat.blt d c.n=true) (hX:Kp (∀g,Y g)) (h:∀g,Kp (Y g)->T c ((d,Gj g 0 0)::fr) (.row g t 0 [] zs []::H) Φ):On c fr H (some d) (.alloc t) ty Φ:=Cn hd fun g=>h g ⟨hX.h g⟩
def Azf {Y:Nat->Prop} {t e m:Nat} [SlC c.P t e m] (hd:Nat.blt d c.n=true) (hX:Kp (∀g,Y g)) (h:∀g,Kp (Y g)->T c ((d,ab (some ⟨g,0,none⟩) 0 0)::fr) (.row g e 0 [] [] []::H) Φ):On c fr H (some d) (.buildSlice t 0 #[]) ty Φ:=Kt hd fun g=>h g ⟨hX.h g⟩
def Be8 {Y:Nat->Prop} {t e m b len:Nat} {z:Value} {zs cs q:am} {ps:List (Nat × Operand)} [SlC c.P t e m] [ElT c.P e z m b] [ZC c.P e zs] (hd:Nat.blt d c.n=true) (hlen:Nat.blt 0 len=true) (hm:Nat.blt 0 m=true) (hl:Nat.ble (len * m) 1000=true) (hc:Rpt zs len cs) (hf:Fil (fun i=>some (i * m,m)) fr cs ps q) (hX:Kp (∀g,Y g)) (h:∀g,Kp (Y g)->T c ((d,ab (some ⟨g,0,none⟩) len len)::fr) (.row g e 0 [] q []::H) Φ) :
  On c fr H (some d) (.buildSlice t len ps.toArray) ty Φ:=I1 hd hlen hm hl hc hf fun g=>h g ⟨hX.h g⟩
end
def go {X:Prop} {c:Cx} {fr:Fr} {H:List Pc} {Φ:Gl} (h:X) (hs:Kp X->T c fr H Φ:=by intro hX;(repeat (first|apply Pg|apply Anm|(apply wO;apply oc;rfl;exact ydE)|apply V8|apply Zz|(apply Ar3;rfl;rfl)|(apply Ar2;rfl;rfl;rfl;rfl)|(apply Ar4;rfl;rfl;rfl)|(apply c_t;rfl)|(apply c_f;rfl)|apply X5|apply Un|apply Ahl|apply Axu|apply Be1|apply Bhv|apply Bhw|(apply Ax1;rfl)|apply Bez|(apply wO;apply Aze;rfl;rfl;rfl;exact hX;clear hX;intro _ hX)|(apply wO;apply Aor;rfl;exact hX;clear hX;intro _ hX)|(apply wO;apply Azh;rfl;rfl;rfl;(first|exact AggC.s|exact OneC.s);rfl;exact Amd;exact Azr;rfl)|(apply wO;apply Azf;rfl;exact hX;clear hX;intro _ hX)|(apply wO;apply Be8;rfl;rfl;rfl;rfl;exact Iy;exact Ir;exact hX;clear hX;intro _ hX)|(apply wO;apply Al7;rfl;kernel_rfl;exact Wj)));exact hX.h):T c fr H Φ:=hs ⟨h⟩
def Hy {X:Prop} {c:Cx} {fr:Fr} {H:List Pc} {Φ:Gl} (h:X) (hs:Kp X->T c fr H Φ:=by intro hX;(repeat (first|apply Pg|apply Anm|(apply wO;apply oc;rfl;exact ydE)|apply V8|apply Zz|(apply Ar3;rfl;rfl)|(apply Ar2;rfl;rfl;rfl;rfl)|(apply Ar4;rfl;rfl;rfl)|(apply c_t;rfl)|(apply c_f;rfl)|apply X5|apply Un|apply Ahl|apply Axu|apply Be1|apply Bhv|apply Bhw|(apply Ax1;rfl)|apply Bez|(apply wO;apply Aze;rfl;rfl;rfl;exact hX;clear hX;intro _ hX)|(apply wO;apply Aor;rfl;exact hX;clear hX;intro _ hX)|(apply wO;apply Azh;rfl;rfl;rfl;(first|exact AggC.s|exact OneC.s);rfl;exact Amd;exact Azr;rfl)|(apply wO;apply Azf;rfl;exact hX;clear hX;intro _ hX)|(apply wO;apply Be8;rfl;rfl;rfl;rfl;exact Iy;exact Ir;exact hX;clear hX;intro _ hX)));exact hX.h):T c fr H Φ:=hs ⟨h⟩
section
variable {c:Cx} {fr:Fr} {H:List Pc} {k:List It} {Φ:Gl} {ops:Array Oper} {rest:List Oper} {d:Nat} {o:Op} {ty:TypeId} {pos:String} {Cf:Array Edge} {v u:Value} {x y:Operand} {H0:List Pc} {X:aq} {f:Nat} {listed:Array Bool}
def oC {f:Nat} {aS:List Operand} {ts:Array TypeId} {vs:am} (h:Cl c fr H d f vs Φ) (hd:Nat.blt d c.n=true:=by rfl) (hb:Rr c.P f=true:=by kernel_rfl) (ha:Evs fr aS vs:=by exact Wj):On c fr H (some d) (.call { callee:=.value (.func f),args:=aS.toArray,argTypes:=ts }) ty Φ:=Al7 hd hb ha h
def oS {t g tt o' j m:Nat} {A cs B l r:am} {S:List Pc} (h:T c fr S Φ) (hx:ev fr x=some (Gj g o' j):=by rfl) (hy:ev fr y=some v:=by rfl) (hv:v.cells=l.toArray:=by rfl) (hs:(c.P.info? t).map (·.size)=some m:=by first|exact AggC.s|exact OneC.s) (hl:l.length=m:=by rfl) (hr:Rpl H (.row g tt o' A cs B) (.row g tt o' A r B) S:=by exact Amd) (hp:Put cs j l r:=by exact Azr) (h1:l.all (·.oneCell')=true:=by rfl):On c fr H none (.store t x y) ty Φ:=Azh hx hy hv hs hl hr hp h1 h
def dN (i:Nat) {od:Option Tmp} (h:On c fr H od o ty (.dk i k H0 X ops f (listed.setIfInBounds i true))) (hr:Region.ready .any ops listed=[i]:=by kernel_rfl) (ho:ops[i]?=some ⟨od,o,ty,pos,Cf,none⟩:=by rw [aO];rfl):T c fr H (.dx k H0 X ops (f+1) listed):=dO i hr ho h
def dM (i j:Nat) {od od2:Option Tmp} {o2:Op} {ty2:TypeId} {pos2:String} {aft2:Array Edge} (h:On c fr H od o ty (.dk i k H0 X ops f (listed.setIfInBounds i true))) (h':On c fr H od2 o2 ty2 (.dk j k H0 X ops f (listed.setIfInBounds j true))) (hr:Region.ready .any ops listed=[i,j]:=by kernel_rfl) (ho:ops[i]?=some ⟨od,o,ty,pos,Cf,none⟩:=by rw [aO];rfl) (ho2:ops[j]?=some ⟨od2,o2,ty2,pos2,aft2,none⟩:=by rw [aO];rfl):T c fr H (.dx k H0 X ops (f+1) listed):=dO2 i j hr ho ho2 h h'
def Dh (i0 i1:Nat) {d0:Nat} {o0:Op} {t0:TypeId} {p0:String} {a0:Array Edge} {v0:Value} {d1:Nat} {o1:Op} {t1:TypeId} {p1:String} {a1:Array Edge} {v1:Value} (h:T c ((d1,v1)::((d0,v0)::fr)) H (.dx k H0 X ops f ((listed.setIfInBounds i0 true).setIfInBounds i1 true))) (hs:M8 H0 H:=by repeat (first|exact M8.nil|refine M8.cons FD ?_)) (h1:Region.noSelect ops=true:=by kernel_rfl) (hR:X2 c:=by exact Aad) (ho0:ops[i0]?=some ⟨some d0,o0,t0,p0,a0,none⟩:=by rw [aO];rfl) (hy0:Yd c.P c.n fr H0 o0 t0 v0:=by exact ydE) (w0:Region.free .any ops listed i0=true:=by kernel_rfl) (x0:(Region.ready .any ops listed).contains i0=true:=by kernel_rfl) (y0:Mc .any ops (fun i=>X.contains i) i0=true:=by kernel_rfl) (z0:Na .any ops listed=true:=by kernel_rfl) (e0:Nat.blt d0 c.n=true:=by rfl) (ho1:ops[i1]?=some ⟨some d1,o1,t1,p1,a1,none⟩:=by rw [aO];rfl) (hy1:Yd c.P c.n ((d0,v0)::fr) H0 o1 t1 v1:=by exact ydE) (w1:Region.free .any ops (listed.setIfInBounds i0 true) i1=true:=by kernel_rfl) (x1:(Region.ready .any ops (listed.setIfInBounds i0 true)).contains i1=true:=by kernel_rfl) (y1:Mc .any ops (fun i=>X.contains i) i1=true:=by kernel_rfl) (z1:Na .any ops (listed.setIfInBounds i0 true)=true:=by kernel_rfl) (e1:Nat.blt d1 c.n=true:=by rfl):T c fr H (.dx k H0 X ops (f+1+1) listed):=dt i0 (dt i1 h ho1 hy1 hs h1 w1 x1 y1 z1 hR e1) ho0 hy0 hs h1 w0 x0 y0 z0 hR e0
def C4 (i0 i1 i2 i3:Nat) {d0:Nat} {o0:Op} {t0:TypeId} {p0:String} {a0:Array Edge} {v0:Value} {d1:Nat} {o1:Op} {t1:TypeId} {p1:String} {a1:Array Edge} {v1:Value} {d2:Nat} {o2:Op} {t2:TypeId} {p2:String} {a2:Array Edge} {v2:Value} {d3:Nat} {o3:Op} {t3:TypeId} {p3:String} {a3:Array Edge} {v3:Value} (h:T c ((d3,v3)::((d2,v2)::((d1,v1)::((d0,v0)::fr)))) H (.dx k H0 X ops f ((((listed.setIfInBounds i0 true).setIfInBounds i1 true).setIfInBounds i2 true).setIfInBounds i3 true))) (hs:M8 H0 H:=by repeat (first|exact M8.nil|refine M8.cons FD ?_)) (h1:Region.noSelect ops=true:=by kernel_rfl) (hR:X2 c:=by exact Aad) (ho0:ops[i0]?=some ⟨some d0,o0,t0,p0,a0,none⟩:=by rw [aO];rfl) (hy0:Yd c.P c.n fr H0 o0 t0 v0:=by exact ydE) (w0:Region.free .any ops listed i0=true:=by kernel_rfl) (x0:(Region.ready .any ops listed).contains i0=true:=by kernel_rfl) (y0:Mc .any ops (fun i=>X.contains i) i0=true:=by kernel_rfl) (z0:Na .any ops listed=true:=by kernel_rfl) (e0:Nat.blt d0 c.n=true:=by rfl) (ho1:ops[i1]?=some ⟨some d1,o1,t1,p1,a1,none⟩:=by rw [aO];rfl) (hy1:Yd c.P c.n ((d0,v0)::fr) H0 o1 t1 v1:=by exact ydE) (w1:Region.free .any ops (listed.setIfInBounds i0 true) i1=true:=by kernel_rfl) (x1:(Region.ready .any ops (listed.setIfInBounds i0 true)).contains i1=true:=by kernel_rfl) (y1:Mc .any ops (fun i=>X.contains i) i1=true:=by kernel_rfl) (z1:Na .any ops (listed.setIfInBounds i0 true)=true:=by kernel_rfl) (e1:Nat.blt d1 c.n=true:=by rfl) (ho2:ops[i2]?=some ⟨some d2,o2,t2,p2,a2,none⟩:=by rw [aO];rfl) (hy2:Yd c.P c.n ((d1,v1)::((d0,v0)::fr)) H0 o2 t2 v2:=by exact ydE) (w2:Region.free .any ops ((listed.setIfInBounds i0 true).setIfInBounds i1 true) i2=true:=by kernel_rfl) (x2:(Region.ready .any ops ((listed.setIfInBounds i0 true).setIfInBounds i1 true)).contains i2=true:=by kernel_rfl) (y2:Mc .any ops (fun i=>X.contains i) i2=true:=by kernel_rfl) (z2:Na .any ops ((listed.setIfInBounds i0 true).setIfInBounds i1 true)=true:=by kernel_rfl) (e2:Nat.blt d2 c.n=true:=by rfl) (ho3:ops[i3]?=some ⟨some d3,o3,t3,p3,a3,none⟩:=by rw [aO];rfl) (hy3:Yd c.P c.n ((d2,v2)::((d1,v1)::((d0,v0)::fr))) H0 o3 t3 v3:=by exact ydE) (w3:Region.free .any ops (((listed.setIfInBounds i0 true).setIfInBounds i1 true).setIfInBounds i2 true) i3=true:=by kernel_rfl) (x3:(Region.ready .any ops (((listed.setIfInBounds i0 true).setIfInBounds i1 true).setIfInBounds i2 true)).contains i3=true:=by kernel_rfl) (y3:Mc .any ops (fun i=>X.contains i) i3=true:=by kernel_rfl) (z3:Na .any ops (((listed.setIfInBounds i0 true).setIfInBounds i1 true).setIfInBounds i2 true)=true:=by kernel_rfl) (e3:Nat.blt d3 c.n=true:=by rfl):T c fr H (.dx k H0 X ops (f+1+1+1+1) listed):=dt i0 (dt i1 (dt i2 (dt i3 h ho3 hy3 hs h1 w3 x3 y3 z3 hR e3) ho2 hy2 hs h1 w2 x2 y2 z2 hR e2) ho1 hy1 hs h1 w1 x1 y1 z1 hR e1) ho0 hy0 hs h1 w0 x0 y0 z0 hR e0
def Be {f:Nat} {vs:am} {A M R:List Pc} {σ:Type} {C:σ->Prop} {vv:σ->Value} {N K:σ->List Pc} (hf:Fn c.P f vs A M C vv N) (h:∀s,C s->T c ((d,vv s)::fr) (K s) Φ) (hM:Kv H M R:=by repeat (first|exact Kv.nil|apply Kv.cons (by exact Do))) (hA:M8 A R:=by repeat (first|exact M8.nil|refine M8.cons FD ?_)) (hmM:M.all (·.mu)=true:=by rfl) (hmA:A.all (fun p=>!p.mu)=true:=by rfl) (hK:∀s,Amy (N s) R (K s):=by intro _;repeat constructor):Cl c fr H d f vs Φ:=cf_ hf (fun s hs=>Pp (h s hs) (hK s)) hM hA hmM hmA
end
def Ff (lo x hi:Int):Bool:=decide (lo<=x) && decide (x<=hi)
def Cs {a b:Bool} (h:a=b):Ending.returned (.bool a)=.returned (.bool b):=by rw [h]
def Ak8 (s:au) (k:Nat) (h:k < s.size):s.data.toList.take (k+1)=s.data.toList.take k++[s[k]]:=by
 rw [aR FI];rfl
def Apo (s:au) (k:Nat) (h:¬k < s.size):s.data.toList.take k=s.data.toList:=aV FF
def Aft (s:au) (k:Nat) (h:k < s.size):s.data.toList.drop k=s[k]::s.data.toList.drop (k+1):=by
 rw [bF FI];rfl
def Abs (s:au) (k:Nat) (h:¬k < s.size):s.data.toList.drop k=[]:=eD FF
def Bbd {a b:UInt8}:((a.toNat:Int) == (b.toNat:Int))=(a == b):=by
 rw [cD];simp [<-UInt8.toNat_inj];omega
def Hw (x lo hi:Int) (w:World) :
  Calls prog 37 #[aa x,aa lo,aa hi] w fun e w'=>e=.returned (.bool (Ff lo x hi))/\w=w':=by
 go_enter func37,ntmps37
 go_wp2
 all_goals go_ret
 all_goals exact ⟨Cs (by simp [Ff, *] <;> omega),rfl⟩
def Kq (x lo hi:Int) (w:World) :
  Calls prog 114 #[aa x,aa lo,aa hi] w fun e w'=>e=.returned (.bool (Ff lo x hi))/\w=w':=by
 go_enter func114,ntmps114
 go_wp2
 all_goals go_ret
 all_goals exact ⟨Cs (by simp [Ff, *] <;> omega),rfl⟩
def Ki (c:UInt8) (l:List UInt8):Bool:=l.any (· == c)
def Aq1 (s:au) (c:UInt8) (w:World) (hs:s.size<=maxLen) :
  Calls prog 78 #[af s,.int .u8 c.toNat] w fun e w'=>e=.returned (.bool (Ki c s.data.toList))/\w=w':=by
 unfold maxLen at hs
 go_enter func78,ntmps78
 go_wp2
 go_loop [5] (fun i=>∃k:Nat,k<=s.size/\i=aa k/\Hid (Ki c s.data.toList=Ki c (s.data.toList.drop k))) (fun i=>s.size - (intOf i).toNat)
 case atStart=>exact ⟨0,aD _,rfl,rfl⟩
 case round =>
  obtain ⟨k,hk,rfl,hz⟩:=hrel;by_cases hlt:k < s.size
  ·have hz:=Lib.hid (hz.out.trans (by rw [Aft s k hlt];rfl:_=(s[k] == c || Ki c (s.data.toList.drop (k+1)))));by_cases he:((s[k].toNat:Int) == (c.toNat:Int))=true
   ·go_wp2
    go_ret
    rw [Bbd] at he;exact ⟨Cs (by rw [hz.out,he];rfl),rfl⟩
   ·have he:=eq_false_of_ne_true he
    go_wp2
    go_round
    case rel=>rw [Bbd] at he;exact ⟨k+1,EY,HT,by refine Lib.hid ?_;rw [hz.out,he];rfl⟩
    case measure=>simp [intOf];omega
  ·go_wp2
   go_ret
   exact ⟨Cs (by rw [hz.out,Abs s k hlt];rfl),rfl⟩
def Qk (b:UInt8):Bool:=Ff 32 b.toNat 126 && !(b == 35)
def I7 (l:List UInt8):Bool:=l.all Qk
def Af4 {a:UInt8}:((a.toNat:Int) == 35)=(a == 35):=Bbd (b:=35)
def An6 (s:au) (w:World) (hs:s.size<=maxLen) :
  Calls prog 88 #[af s] w fun e w'=>e=.returned (.bool (I7 s.data.toList))/\w=w':=by
 unfold maxLen at hs
 go_enter func88,ntmps88
 go_wp2
 go_loop [6] (fun i=>∃k:Nat,k<=s.size/\i=aa k/\Hid (I7 s.data.toList=I7 (s.data.toList.drop k))) (fun i=>s.size - (intOf i).toNat)
 case atStart=>exact ⟨0,aD _,rfl,rfl⟩
 case round =>
  obtain ⟨k,hk,rfl,hz⟩:=hrel;by_cases hlt:k < s.size
  ·have hz:=Lib.hid (hz.out.trans (by rw [Aft s k hlt];rfl:_=(Qk s[k] && I7 (s.data.toList.drop (k+1)))));have hb:(s[k].toNat:Int)<=255:=IE
   go_wp2_with (go_at_call 37;refine (Hw _ _ _ _).mono ?_;rintro e w' ⟨rfl,rfl⟩)
   ·have h1:Ff 32 s[k].toNat 126=true:=FR
    have h2:((s[k].toNat:Int) == 35)=true:=FR
    go_ret
    exact ⟨Cs (by rw [hz.out];rw [Af4] at h2;simp [Qk,h2]),rfl⟩
   ·have h1:Ff 32 s[k].toNat 126=true:=FR
    have h2:((s[k].toNat:Int) == 35)=false:=FR
    exact EI
   ·have h1:¬Ff 32 s[k].toNat 126=true:=FR
    go_ret
    exact ⟨Cs (by rw [hz.out];simp [Qk,h1]),rfl⟩
  ·go_wp2
   go_ret
   exact ⟨Cs (by rw [hz.out,Abs s k hlt];rfl),rfl⟩
def Aq2 (s:au) (n:Int) (w:World) (hs:s.size<=maxLen) :
  Calls prog 77 #[af s,aa n] w fun e w'=>e=.returned (.bool (I7 s.data.toList && decide ((s.size:Int)<=n)))/\w=w':=by
 unfold maxLen at hs
 go_enter func77,ntmps77
 go_wp2
 go_loop [5] (fun i=>∃k:Nat,k<=s.size/\i=aa k/\Hid (I7 s.data.toList=I7 (s.data.toList.drop k))) (fun i=>s.size - (intOf i).toNat)
 case atStart=>exact ⟨0,aD _,rfl,rfl⟩
 case round =>
  obtain ⟨k,hk,rfl,hz⟩:=hrel;by_cases hlt:k < s.size
  ·have hz:=Lib.hid (hz.out.trans (by rw [Aft s k hlt];rfl:_=(Qk s[k] && I7 (s.data.toList.drop (k+1)))));have hb:(s[k].toNat:Int)<=255:=IE
   go_wp2_with (go_at_call 114;refine (Kq _ _ _ _).mono ?_;rintro e w' ⟨rfl,rfl⟩)
   ·have h1:Ff 32 s[k].toNat 126=true:=FR
    have h2:((s[k].toNat:Int) == 35)=true:=FR
    go_ret
    exact ⟨Cs (by rw [hz.out];rw [Af4] at h2;simp [Qk,h2]),rfl⟩
   ·have h1:Ff 32 s[k].toNat 126=true:=FR
    have h2:((s[k].toNat:Int) == 35)=false:=FR
    exact EI
   ·have h1:¬Ff 32 s[k].toNat 126=true:=FR
    go_ret
    exact ⟨Cs (by rw [hz.out];simp [Qk,h1]),rfl⟩
  ·go_wp2
   go_ret
   exact ⟨Cs (by rw [hz.out,Abs s k hlt];simp [I7]),rfl⟩
def L8 {a b:Int} (h:a=b):Ending.returned (aa a)=.returned (aa b):=by rw [h]
def Ag7:(prog.info? 3).map (fun i=>(i.zero,i.size,i.bytes))=some (some (aa 0),1,8):=FB
def Sl.int {w:World} {a:aj} {n cap:Nat} {xs:ar} {F} (h:Sl Bc w (ab a n cap) xs F):n=xs.length/\n<=maxLen /\
  ∀k (hk:k < xs.length),∃b off,a=some ⟨b,off,none⟩/\w.cell? ⟨b,off+k,none⟩=some (aa xs[k]):=by
 obtain ⟨a',cap',hv,hl,h⟩:=h;cases hv;refine ⟨rfl,EY,fun k hk=>?_⟩;rcases h with ⟨rfl,_⟩|⟨b,off,F',rfl,_,_,hc⟩
 ·simp at hk
 ·obtain ⟨cs,F1,⟨rfl,_⟩,hj,_⟩:=hc.get k hk;exact ⟨b,off,rfl,by simpa [Bc] using hj 0 EZ⟩
def An4:(prog.info? 9).map (fun i=>(i.zero,i.size,i.bytes))=some (some (af ⟨#[]⟩),1,16):=FB
def Sl.str {w:World} {a:aj} {n cap:Nat} {xs:ai} {F} (h:Sl A9 w (ab a n cap) xs F):n=xs.length/\n<=maxLen /\
  ∀k (hk:k < xs.length),xs[k].size<=maxLen/\∃b off,a=some ⟨b,off,none⟩/\w.cell? ⟨b,off+k,none⟩=some (af xs[k]):=by
 obtain ⟨a',cap',hv,hl,h⟩:=h;cases hv;refine ⟨rfl,EY,fun k hk=>?_⟩;rcases h with ⟨rfl,_⟩|⟨b,off,F',rfl,_,_,hc⟩
 ·simp at hk
 ·obtain ⟨cs,F1,⟨rfl,hs,_⟩,hj,_⟩:=hc.get k hk;exact ⟨hs,b,off,rfl,by simpa [A9] using hj 0 EZ⟩
structure Log where
 Bd:au
 pending:au
 count:Int
def Atk:B8 Log where
 sz:=3
 Mj _ cs x F:=cs=[af x.Bd,af x.pending,aa x.count]/\x.Bd.size<=maxLen/\x.pending.size<=maxLen/\F=[]
 len h:=by obtain ⟨rfl,s1,s2,rfl⟩:=h;rfl
 lt h:=by obtain ⟨rfl,s1,s2,rfl⟩:=h;simp
 frame h _:=h
def Y8 (x:Log):Nat:=x.Bd.size+x.pending.size
section
variable {c:Cx} {fr:Fr} {H:List Pc} {Φ:Gl}
def Afz {v:Value} {x:Log} {F:aq} (h:∀(_:Unit),v=.agg #[af x.Bd,af x.pending,aa x.count]->x.Bd.size<=maxLen->x.pending.size<=maxLen->T c fr (H) Φ) (hm:.isv Atk v x F∈H:=by exact Bp):T c fr H Φ:=.mk fun a w s g=>by
 obtain ⟨cs,rfl,rfl,s1,s2,rfl⟩:=s.get hm;exact (h () rfl s1 s2 ).h a w s g
def Agm (x:Log) (s1:x.Bd.size<=maxLen) (s2:x.pending.size<=maxLen) (h:T c fr (.isv Atk (.agg #[af x.Bd,af x.pending,aa x.count]) x ([])::H) Φ)  : T c fr H Φ:=.mk fun a w s g=>by
 refine h.h a w (s.add (N:=[_]) (Below.refl _ _) (by intro q hq;obtain rfl:=aL.1 hq;exact ⟨_,rfl,rfl,s1,s2,rfl⟩) ⟨FA,trivial⟩ fun q hq b hb=>?_) g;obtain rfl:=aL.1 hq;simp [Pc.F] at hb
end
structure Gz where
 Ev:au
 Fv:au
def Il:B8 Gz where
 sz:=2
 Mj _ cs x F:=cs=[af x.Ev,af x.Fv]/\x.Ev.size<=maxLen/\x.Fv.size<=maxLen/\F=[]
 len h:=by obtain ⟨rfl,s1,s2,rfl⟩:=h;rfl
 lt h:=by obtain ⟨rfl,s1,s2,rfl⟩:=h;simp
 frame h _:=h
def Yn:One Il:=fun h u hu=>by
 obtain ⟨rfl,s1,s2,rfl⟩:=h;simp only [aG,aT,bn] at hu;rcases hu with rfl|rfl
 ·rfl
 ·rfl
def Ag6:(prog.info? 71).map (fun i=>(i.zero,i.size,i.bytes))=some (some (.agg #[af ⟨#[]⟩,af ⟨#[]⟩]),2,32):=FB
section
variable {c:Cx} {fr:Fr} {H:List Pc} {Φ:Gl}
def Aej {a:aj} {n cp:Nat} {xs:List Gz} {F:aq} (i:Nat) (h:∀(hi:i < xs.length) (b o:Nat),a=some ⟨b,o,none⟩->xs[i].Ev.size<=maxLen->xs[i].Fv.size<=maxLen->T c fr (.cel b (o+i * 2) [af xs[i].Ev,af xs[i].Fv]::H) Φ) (hm:.sl Il (ab a n cp) xs F∈H:=by exact Bp) (hi:i < xs.length:=by omega):T c fr H Φ:=.mk fun ac w s g=>by
 obtain ⟨b,o,cs,G,ha,hrep,hG,hb,hne,hr⟩:=Xu (s.get hm) i hi;obtain ⟨rfl,s1,s2,rfl⟩:=hrep;exact (h hi b o  ha s1 s2 ).h ac w (s.ro hm rfl rfl ⟨hne,hr⟩ GF) g
def Ai4 (x:Gz) (s1:x.Ev.size<=maxLen) (s2:x.Fv.size<=maxLen) (w:World):Cw Il w [af x.Ev,af x.Fv] [x] []:=⟨_,[],[],[],FA,FA,⟨rfl,s1,s2,rfl⟩,rfl,rfl⟩
end
def Aqc {a b:au}:a.data.toList=b.data.toList↔a=b:=⟨fun h=>by
 obtain ⟨⟨a⟩⟩:=a;obtain ⟨⟨b⟩⟩:=b;dsimp only at h;rw [h],fun h=>by rw [h]⟩
def At4 (a b:Log):Bool:=decide (a.Bd=b.Bd) && (decide (a.pending=b.pending) && decide (a.count=b.count))
def Ax3 {a b:Log}:At4 a b=true↔a=b:=by
 obtain ⟨d,p,k⟩:=a;obtain ⟨d2,p2,k2⟩:=b;unfold At4;simp only [aw,aF,Log.mk.injEq]
def Bf6 (a b:Log) (w:World):(Op.equalIn 10000 28 (.agg #[af a.Bd,af a.pending,aa a.count]) (.agg #[af b.Bd,af b.pending,aa b.count])).run prog w=.ok (At4 a b) w:=by
 have u2:=underlying9;have u3:=underlying3;have hS:prog.underlying 28=some (.struct (prog.fieldsOf 28)):=FB
 rw [show (10000:Nat)=9999+1 from rfl,run_equalIn_agg w 9999 28 _ _ hS FB];have a1:=Tryz.isAgg9;have a2:=Tryz.isAgg3;obtain ⟨d,p,k⟩:=a;obtain ⟨d2,p2,k2⟩:=b;simp only [Program.fieldsOf,underlying28]
 go_simp
 unfold At4;simp only [ByteArray.toList_eq,Aqc]
 repeat' split
 all_goals simp [*]
def Bel {n:Nat} {fr:Fr} {H:List Pc} {x y:Operand} {ty t':TypeId} {a b:Log} (hx:ev fr x=some (.agg #[af a.Bd,af a.pending,aa a.count])) (hy:ev fr y=some (.agg #[af b.Bd,af b.pending,aa b.count])):Yd prog n fr H (.binOp .eql 28 x y t') ty (.bool (At4 a b)):=.mk fun c w d pos Cf gd hA _=>by
 have h2:(eqGuard .eql 28 x y (.agg #[af a.Bd,af a.pending,aa a.count]) (.agg #[af b.Bd,af b.pending,aa b.count])).run prog w=.ok () w:=run_eqGuard_agg w _ _ _ _ _ _ FB;simp only [execOp,hA.ev hx,hA.ev hy,Sem.run_bind,h2,Result.andThen_ok,run_eql_struct,Bf6,Sem.run_pure]
def Ah0 {s:au} (h:s.size<=maxLen) (w:World):Cw A9 w [af s] [s] []:=⟨_,[],[],[],FA,FA,⟨rfl,h,rfl⟩,rfl,rfl⟩
def Xf {c:Cx} {fr:Fr} {H:List Pc} {Φ:Gl} {α:Type} {E:B8 α} {v:Value} {xs:List α} {F:aq} (h:∀a cp,v=ab a xs.length cp->xs.length<=cp->cp<=9223372036854775807->T c fr H Φ) (hm:.sl E v xs F∈H:=by exact Bp):T c fr H Φ:=.mk fun ac w s g=>by
 obtain ⟨-,hs⟩:=s.get hm;obtain ⟨a,cp,rfl⟩:=hs.slice;obtain ⟨-,h2,h3⟩:=hs.caps;exact (h a cp rfl h2 (by unfold maxLen at h3;omega)).h ac w s g
def Dy {c:Cx} {fr:Fr} {H:List Pc} {Φ:Gl} {α:Type} {E:B8 α} {t g:Nat} {cs:am} {xs:List α} {S:List Pc} (hfl:∀w,Cw E w cs xs []) (h:T c fr (.ow E t (ab (some ⟨g,0,none⟩) xs.length xs.length) xs [g]::S) Φ) (hl:xs.length<=1048576) (hp:C1 H (.row g t 0 [] cs []) S:=by exact Do):T c fr H Φ:=.mk fun a w s g'=>by
 have s1:=s.pick hp;have hr:=(s1.on (.row g t 0 [] cs []) FA).2;have hlen:=(hfl w).len;refine h.h a w (s1.conv rfl ⟨FA,.inr ⟨g,xs.length,cs,[],[],rfl,GL,aK _,FE,by simpa using hlen,hfl w,rfl⟩⟩ JG) g'
def Bcr {P:Program} {f:FuncId} {args:am} {A:List Pc} {σ:Type} {C:σ->Prop} {v:σ->Value} {N:σ->Pc}
  (h:∀w,O8 A w->Calls P f args.toArray w fun e w'=>∃s,C s/\e=.returned (v s)/\(N s).P w'/\(∀b∈(N s).F,w.heap.size<=b)/\Below w.heap.size w w'):Fn P f args A [] C v (fun s=>[N s]):=fun w hA _=>by
 refine (h w JF).mono ?_;rintro e w' ⟨s,hC,he,hN,hF,hB⟩;refine ⟨s,hC,he,I6 hN,⟨FA,trivial⟩,Ek.ofBelow hB,fun p hp b hb=>?_⟩;simp at hp;subst hp;exact .inl (hF b hb)
section
variable {P:Program} {n:Nat} {fr:Fr} {H:List Pc} {ty:TypeId} {x y z:Operand}
def Xk {t:TypeId} {s:au} {kd:IntKind} {i:Int} [hS:StrC P t] (hx:ev fr x=some (af s)) (hy:ev fr y=some (.int kd i)) (h0:0<=i) (h1:i<=s.size):Yd P n fr H (.slice t x (some y) none none) ty (af (s.extract i.toNat s.size)):=.mk fun a w d pos Cf g hA _=>by
 have h3:(Instr.sliceAt t (af s) (some (.int kd i)) none none).run P w=.ok (af (s.extract i.toNat s.size)) w:=by
  rw [run_sliceAt_string (h:=hS.u),run_slice_string_l (ht:=hS.u) (h0:=h0) (h1:=h1)]
 exact BK
def Y9 {t:TypeId} {s:au} {kd:IntKind} {i:Int} [hS:StrC P t] (hx:ev fr x=some (af s)) (hy:ev fr y=some (.int kd i)) (h0:0<=i) (h1:i<=s.size):Yd P n fr H (.slice t x none (some y) none) ty (af (s.extract 0 i.toNat)):=.mk fun a w d pos Cf g hA _=>by
 have h3:(Instr.sliceAt t (af s) none (some (.int kd i)) none).run P w=.ok (af (s.extract 0 i.toNat)) w:=by
  rw [run_sliceAt_string (h:=hS.u),run_slice_string_h (ht:=hS.u) (h0:=h0) (h2:=h1)]
 exact BK
def Bhk {t:TypeId} {s:au} {kd kd2:IntKind} {i j:Int} [hS:StrC P t] (hx:ev fr x=some (af s)) (hy:ev fr y=some (.int kd i)) (hz:ev fr z=some (.int kd2 j)) (h0:0<=i) (h1:i<=j) (h2:j<=s.size):Yd P n fr H (.slice t x (some y) (some z) none) ty (af (s.extract i.toNat j.toNat)):=.mk fun a w d pos Cf g hA _=>by
 have h3:(Instr.sliceAt t (af s) (some (.int kd i)) (some (.int kd2 j)) none).run P w=.ok (af (s.extract i.toNat j.toNat)) w:=by
  rw [run_sliceAt_string (h:=hS.u),run_slice_string (h:=hS.u) (h0:=h0) (h1:=h1) (h2:=h2)]
 simp only [execOp,cP,bW,hA.ev hx,hA.ev hy,hA.ev hz,Sem.run_bind,h3,Result.andThen_ok,Sem.run_pure]
end
section
variable {c:Cx} {fr:Fr} {H:List Pc} {k:List It} {Φ:Gl} {ops:Array Oper} {rest:List Oper} {d:Nat} {o:Op} {ty:TypeId} {v u:Value} {x y:Operand}
def Aho {t e m b:Nat} {z:Value} [hS:SlC c.P t e m] [hE:ElT c.P e z m b] (k:Nat) {kl kc:IntKind} {cs:am} (hd:Nat.blt d c.n=true) (hx:ev fr x=some (.int kl (k:Nat))) (hy:ev fr y=some (.int kc (k:Nat))) (hcs:madeCells z.cells (k * m)=cs.toArray) (hb:b * k<=281474976710656) (h63:k<=9223372036854775807)
  (h:∀g,T c ((d,ab (some ⟨g,0,none⟩) k k)::fr) (.row g e 0 [] cs []::H) Φ):On c fr H (some d) (.makeSlice t x y) ty Φ:=⟨fun _ _ _=>Ph fun Q a w s g=>by
 obtain ⟨i,hi,hiz⟩:=cu.1 hE.i;simp only [Prod.mk.injEq] at hiz;obtain ⟨i1,i2,i3⟩:=hiz;have hb':(i.bytes:Int) * ((k:Nat):Int)<=281474976710656:=by rw [i3];have:((b * k:Nat):Int)<=281474976710656:=EY;rwa [Int.natCast_mul] at this
 have hr:=run_make (P:=c.P) w t e i z hS.u hi i1 kl kc (k:Nat) (k:Nat) EY EY hb' EY;simp only [ba,i2,hcs] at hr;have e1:∀pos Cf gd,(execOp a.eval ⟨some d,.makeSlice t x y,ty,pos,Cf,gd⟩).run c.P w=.ok (.value (ab (some ⟨w.heap.size,0,none⟩) k k)) (w.alloc (.cells cs.toArray e)):=by
  intro pos Cf gd;simp [execOp,g.ev hx,g.ev hy,hr]
 rw [e1];exact (h _).h _ _ (s.new e cs) (g.put hd)⟩
def Afy {fo:Operand} {f:Nat} {caps:am} {aS:List Operand} {ts:Array TypeId} {vs:am} (hd:Nat.blt d c.n=true) (hf:ev fr fo=some (.func (.func f) #[] caps.toArray)) (hb:Rr c.P f=true) (ha:Evs fr aS vs) (h:Cl c fr H d f (vs++caps) Φ):On c fr H (some d) (.call { callee:=.value fo,args:=aS.toArray,argTypes:=ts }) ty Φ:=⟨fun _ _ _=>Ph fun Q a w s g=>by
 have e:∀pos Cf gd,(execOp a.eval ⟨some d,.call { callee:=.value fo,args:=aS.toArray,argTypes:=ts },ty,pos,Cf,gd⟩).run c.P w=(callFunc f (vs++caps).toArray).run c.P w:=by
  intro pos Cf gd;simp [execOp,resolve,Deferred.ofValue,g.ev hf,invoke,g.evs ha]
 rw [e];obtain ⟨R,hc,hk⟩:=h.h w s;refine (Wf hb).upon hc fun e w' hR=>?_;obtain ⟨v,he,hv⟩:=hk e w' hR;exact ⟨v,he,hv _ (g.put hd)⟩⟩
def Ata {α:Type} {E:B8 α} {a:aj} {n cp:Nat} {xs:List α} {F:aq} (k:Nat) (h:∀F',T c fr (.sl E (.slice a (xs.take k).length cp) (xs.take k) F'::H) Φ) (hk:k<=xs.length) (hm:.sl E (ab a n cp) xs F∈H:=by exact Bp):T c fr H Φ:=.mk fun ac w s g=>by
 obtain ⟨hz,hs⟩:=s.get hm;obtain ⟨F',hF,h2⟩:=hs.takeS k hk;have hl:(xs.take k).length=k:=by simp [cY hk]
 have h':=h F';rw [hl] at h';exact h'.h _ w (s.ro hm rfl rfl ⟨hz,h2⟩ hF) g
end
end Go.Proofs.YtmppejmafbfhlaaGreatDoor
