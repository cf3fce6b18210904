/- Part 1 of the proof: 22 texts, one behind the other. -/
import Derived.WalkKit
import Derived.Lib.Hide
import Derived.ProofKit
import Derived.OpenShut
import Derived.Deep.Draws
import Derived.Deep.AppendLies
import Derived.OwnWalk
import Derived.Test.YtkoldibamfjghaaGreatDoorRows
import Derived.WalkSpells
import Derived.WalkLawsBesides
import Derived.Deep.QuietTactic
import Derived.BigQuiet
import Derived.Deep.RegionHeld3
import Derived.Deep.OwnRows
import Derived.Lib.ItoaNum
import Derived.Lib.Bytealg
import Derived.Deep.RegionHeld
import Derived.Deep.MidRow
import Derived.IntWalk
import Derived.Laws.Strings
import Derived.Lib.SliceRun
open _root_.Go.Proofs.Tryz
set_option maxRecDepth 100000
set_option maxHeartbeats 8000000
set_option linter.all false
set_option linter.unusedVariables false
set_option linter.unusedSimpArgs false
namespace Go.Proofs.YtkoldibamfjghaaGreatDoor
theorem BJ{p:Prop}(h:p:=by simp only [execOp,cN,bY,hA.ev hx,hA.ev hy,Sem.run_bind,h3,Result.andThen_ok,Sem.run_pure]):p:=h
theorem DT{p:Prop}(h:p:=by exact ⟨rfl,rfl⟩):p:=h
theorem DV{p:Prop}(h:p:=by refine Ez.start (S:=Ob H0) (X:=fun i=>X.contains i) hm ?_;have:=h.h a w.drew (s.below (E5 (Below.refl _ _) 1)) g;simpa [Gl.sem] using this):p:=h
theorem DZ{p:Prop}(h:p:=by simp only [Instr.loadAt,Instr.sureAddr,Sem.run_bind,Sem.run_pure,Result.andThen_ok,bR] at h1;simp [fT,f2,g.at_ _ _ hl,Ga,Afk,h1,ih]):p:=h
theorem EB{p:Prop}(h:p:=by simp only [execOp,hA.ev hx,hA.ev hy,eqGuard_at_bool,e,Sem.run_bind,Sem.run_pure,Result.andThen_ok,Afw];cases a <;> cases b <;> rfl):p:=h
theorem EJ{p:Prop}(h:p:=by exact ⟨⟨k+1,by omega,by go_num,by refine Lib.hid ?_;rw [hz.out];rw [Ae5] at h2;simp [Pn,h1,h2]⟩,by simp [intOf];omega⟩):p:=h
theorem EL{p:Prop}(h:p:=by subst hji;exact hy.wpOp hi hS ⟨fun _=>hS,H⟩):p:=h
theorem EX{p:Prop}(h:p:=by simpa using this):p:=h
theorem EZ{p:Prop}(h:p:=by omega):p:=h
theorem FA{p:Prop}(h:p:=by decide):p:=h
theorem FB{p:Prop}(h:p:=by simp):p:=h
theorem FC{p:Prop}(h:p:=by kernel_rfl):p:=h
theorem FD{p:Prop}(h:p:=by exact Bl):p:=h
theorem FE{p:Prop}(h:p:=by repeat (first|exact .here|apply C2.there)):p:=h
theorem FF{p:Prop}(h:p:=by simp;omega):p:=h
theorem FG{p:Prop}(h:p:=by simp [hb]):p:=h
theorem FH{p:Prop}(h:p:=by unfold maxLen;omega):p:=h
theorem FJ{p:Prop}(h:p:=by simpa using h):p:=h
theorem FL{p:Prop}(h:p:=by rfl):p:=h
theorem FR{p:Prop}(h:p:=by assumption):p:=h
theorem FX{p:Prop}(h:p:=by rw [aR];rfl):p:=h
theorem GB{p:Prop}(h:p:=by simp [hq]):p:=h
theorem GF{p:Prop}(h:p:=by rw [he2];exact hS.u):p:=h
theorem GJ{p:Prop}(h:p:=by simp [intOf];omega):p:=h
theorem GK{p:Prop}(h:p:=by simpa using hr):p:=h
theorem GL{p:Prop}(h:p:=by intro x hx;simp [Pc.F] at hx;subst hx;exact hb):p:=h
theorem GY{p:Prop}(h:p:=by simpa using hl):p:=h
theorem HD{p:Prop}(h:p:=by simpa [List.filter,Pc.mu,fp,Pc.F] using hk):p:=h
theorem HH{p:Prop}(h:p:=by simp [hp]):p:=h
theorem HJ{p:Prop}(h:p:=by (repeat (first|exact .here|apply C2.there));first|done|fail):p:=h
theorem HK{p:Prop}(h:p:=by simpa using h2):p:=h
theorem HL{p:Prop}(h:p:=by rw [h] at hr;cases hr):p:=h
theorem HO{p:Prop}(h:p:=by intro q hq b hb;simp at hq;subst hq;exact .inl (hF b hb)):p:=h
theorem HQ{p:Prop}(h:p:=by go_num):p:=h
theorem HT{p:Prop}(h:p:=by simpa using s):p:=h
theorem HV{p:Prop}(h:p:=by simpa using h1):p:=h
theorem HX{p:Prop}(h:p:=by simpa using h3):p:=h
theorem IA{p:Prop}(h:p:=by simpa using hi):p:=h
theorem IB{p:Prop}(h:p:=by have:=s[k].toNat_lt;omega):p:=h
theorem ID{p:Prop}(h:p:=by simpa using hj):p:=h
theorem IE{p:Prop}(h:p:=by simp [hx]):p:=h
theorem IN{p:Prop}(h:p:=by rw [aA];omega):p:=h
theorem IT{p:Prop}(h:p:=by simpa using hm):p:=h
theorem IW{p:Prop}(h:p:=by simp [hz]):p:=h
theorem IX{p:Prop}(h:p:=by intro q hq;simp at hq;subst hq;exact hv):p:=h
theorem IZ{p:Prop}(h:p:=by simpa using hA):p:=h
theorem JB{p:Prop}(h:p:=by simp [Pc.F]):p:=h
theorem JG{p:Prop}(h:p:=by simp [hc]):p:=h
theorem JN{p:Prop}(h:p:=by simp [h.1]):p:=h
theorem JR{p:Prop}(h:p:=by simp [h]):p:=h
theorem JS{p:Prop}(h:p:=by simp [Program.elem,hS.u]):p:=h
theorem KE{p:Prop}(h:p:=by rw [bX (by omega),show c1.length+j - c1.length=j by omega];exact hu):p:=h
end Go.Proofs.YtkoldibamfjghaaGreatDoor
namespace Go.Proofs.YtkoldibamfjghaaGreatDoor
open Go.RowKit
abbrev aa(n:Int):Value:=.int .i64 n
abbrev ab(a:Option Addr)(n c:Nat):Value:=.slice a n c
abbrev af(s:ByteArray):Value:=.string s
abbrev ai:=List ByteArray
abbrev aj:=Option Addr
abbrev am:=List Value
abbrev aq:=List Nat
abbrev ar:=List Int
abbrev au:=ByteArray
def av:=@decide_eq_true
def aw:=@Bool.and_eq_true
def ay:=@decide_eq_false
def aA:=@List.length_append
def aB:=@List.getElem_mem
def aC:=@if_neg
def aD:=@List.getElem?_eq_getElem
def aE:=@ByteArray.size_append
def aF:=@decide_eq_true_eq
def aG:=@Nat.zero_le
def aH:=@List.mem_cons
def aJ:=@if_pos
def aK:=@List.mem_append
def aL:=@Nat.le_refl
def aM:=@List.mem_singleton
def aN:=@List.append_assoc
def aO:=@List.take_succ_eq_append_getElem
def aP:=@List.length_take
def aQ:=@List.mem_cons_of_mem
def aR:=@List.getElem?_toArray
def aT:=@List.not_mem_nil
def aU:=@List.length_cons
def aV:=@List.take_of_length_le
def aW:=@List.all_eq_true
def aX:=@List.length_drop
def aY:=@List.length_nil
def aZ:=@List.nil_append
def ba:=@Int.toNat_natCast
def bc:=@Nat.lt_or_eq_of_le
def be:=@List.setIfInBounds_toArray
def bf:=@List.length_map
def bg:=@List.append_nil
def bh:=@List.pairwise_iff_getElem
def bi:=@List.getElem_of_mem
def bj:=@List.set_cons_zero
def bl:=@List.take_length
def bm:=@or_false
def bn:=@List.getD_eq_getElem?_getD
def bo:=@List.take_append_drop
def br:=@List.getElem?_eq_none
def bt:=@List.set_cons_succ
def bu:=@List.mem_of_mem_drop
def bv:=@List.length_eq_zero_iff
def bw:=@List.length_replicate
def bx:=@List.set_getElem_self
def bA:=@Bool.not_eq_true'
def bB:=@List.getElem?_append_left
def bC:=@Nat.lt_succ_iff
def bD:=@List.map_append
def bE:=@List.mem_or_eq_of_mem_set
def bF:=@List.eq_nil_of_length_eq_zero
def bG:=@Nat.le_trans
def bH:=@List.getElem?_cons_succ
def bJ:=@List.length_filter_le
def bK:=@Array.getElem?_eq_some_iff
def bL:=@List.mem_map
def bM:=@List.getElem?_cons_zero
def bN:=@List.nodup_append
def bO:=@List.mem_of_mem_take
def bP:=@List.mem_filter
def bQ:=@decide_eq_false_iff_not
def bR:=@Nat.add_zero
def bS:=@List.drop_eq_getElem_cons
def bT:=@List.take_left'
def bU:=@List.length_set
def bV:=@Bool.true_and
def bW:=@List.filter_append
def bX:=@List.getElem?_append_right
def bY:=@Option.map_some
def bZ:=@Bool.or_eq_true
def cg:=@List.mem_of_getElem?
def ci:=@Bool.and_false
def cj:=@List.cons_append
def cm:=@List.flatten_cons
def co:=@List.getElem?_eq_some_iff
def cu:=@ByteArray.size_extract
def cw:=@Option.map_eq_some_iff
def cy:=@Nat.eq_zero_or_pos
def cA:=@List.drop_drop
def cB:=@List.map_cons
def cC:=@List.take_add_one
def cD:=@List.any_eq_false
def cF:=@ByteArray.data_append
def cG:=@Bool.eq_iff_iff
def cH:=@Nat.add_mul
def cI:=@Nat.mul_le_mul_right
def cJ:=@List.any_eq_true
def cK:=@List.mem_append_left
def cL:=@Nat.le_of_lt_succ
def cM:=@List.mem_take_iff_getElem
def cN:=@Option.map_none
def cO:=@Nat.zero_add
def cP:=@List.mem_range
def cQ:=@true_and
def cR:=@and_true
def cS:=@List.all_eq_false
def cT:=@List.length_pos_iff
def cU:=@List.replicate_succ
def cV:=@Nat.mul_one
def cW:=@List.map_toArray
def cX:=@Bool.false_and
def cY:=@List.length_filterMap_le
def cZ:=@Nat.min_eq_left
def da:=@List.map_nil
def db:=@List.getElem_drop
def de:=@List.getElem_set_ne
def dg:=@List.flatten_append
def dh:=@Option.bind_some
def di:=@List.pairwise_cons
def dl:=@List.nodup_cons
def dm:=@List.range_succ
def dp:=@Decidable.not_not
def dr:=@List.ext_getElem?
def du:=@of_decide_eq_true
def dv:=@Bool.or_eq_false_iff
def dw:=@List.drop_zero
def dy:=@List.filter_eq_self
def dz:=@ByteArray.ext
def dA:=@List.length_modify
def dB:=@Int.natCast_nonneg
def dC:=@List.drop_left'
def dD:=@List.getElem?_drop
def dF:=@List.foldl_append
def dG:=@List.singleton_append
def dH:=@List.length_singleton
def dI:=@Nat.pow_le_pow_right
def dJ:=@List.pairwise_append
def dK:=@decide_eq_decide
def dL:=@Array.getElem?_append_left
def dQ:=@List.all_cons
def dR:=@List.map_congr_left
def dS:=@List.foldl_cons
def dU:=@List.getLast?_eq_getElem?
def dV:=@List.all_append
def dW:=@Array.getElem?_eq_getElem
def dX:=@Nat.add_sub_cancel
def dY:=@Array.setIfInBounds_comm
def dZ:=@Nat.pow_succ
def d9:=@Nat.lt_or_ge
def ed:=@List.mem_filterMap
def ef:=@Bool.false_eq_true
def eh:=@Nat.lt_of_lt_of_le
def ei:=@dif_pos
def ej:=@List.not_any_eq_all_not
def eu:=@List.not_all_eq_any_not
def ew:=@List.filter_congr
def ex:=@Array.getElem?_eq_none
def eC:=@List.getElem?_set_self
def eD:=@List.findIdx_lt_length_of_exists
def eG:=@Int.tmod_eq_emod
def eH:=@List.set_append_right
def eJ:=@List.getElem_set_self
def eK:=@List.map_map
def eL:=@List.append_inj
def eO:=@List.replicate_succ'
def eP:=@Array.eq_empty_of_size_eq_zero
def eQ:=@beq_iff_eq
def eS:=@List.eq_nil_iff_forall_not_mem
def eU:=@List.replicate_zero
def eV:=@List.dropWhile_cons
def eX:=@List.filter_sublist
def eY:=@List.dropWhile_append_of_pos
def eZ:=@List.foldl_nil
def fb:=@List.drop_left
def fe:=@List.takeWhile_append_of_pos
def ff:=@List.take_zero
def fg:=@List.mem_replicate
def fh:=@Array.getD_eq_getD_getElem?
def fl:=@decide_eq_true_iff
def fm:=@Bool.false_or
def fq:=@Int.tdiv_eq_ediv_of_nonneg
def fu:=@Int.tmod_eq_emod_of_nonneg
def fv:=@List.takeWhile_cons_of_pos
def fw:=@Nat.add_assoc
def fy:=@Bool.and_true
def fz:=@List.size_toArray
def fA:=@List.drop_sublist
def fB:=@List.push_toArray
def fC:=@List.take_sublist
def fD:=@List.getLastD_eq_getLast?
def fE:=@List.mem_drop_iff_getElem
def fG:=@Array.ext'
def fH:=@List.filter_cons
def fK:=@Option.getD_some
def fL:=@List.getElem_map
def fM:=@List.getElem_set
def fN:=@List.getElem_append_left
def fO:=@Option.bind_eq_some_iff
def fP:=@List.map_id
def fQ:=@List.getElem_modify_eq
def fS:=@List.mem_append_right
def fT:=@List.mapM_cons
def fU:=@List.take_left
def fV:=@List.perm_append_comm
def fW:=@List.getElem?_modify
def fZ:=@List.findIdx_getElem
def f9:=@Array.replicate_succ
def ga:=@Array.replicate_zero
def gh:=@List.drop_nil
def gi:=@List.take_succ_cons
def gj:=@List.drop_set_of_lt
def gm:=@List.take_set_of_le
def gv:=@List.takeWhile_cons
def gx:=@List.getElem_modify
def gy:=@List.append_toArray
def gz:=@Int.lt_trans
def gA:=@Nat.sub_zero
def gB:=@Bool.or_true
def gC:=@Nat.succ_mul
def gD:=@Int.le_refl
def gE:=@Nat.mul_add
def gF:=@Nat.one_mul
abbrev RB (b:Value) (w:World):Ending->World->Prop:=fun e w2=>e=.returned b/\Below w.heap.size w w2
end Go.Proofs.YtkoldibamfjghaaGreatDoor
namespace Go.Proofs.YtkoldibamfjghaaGreatDoor
open Go.RowKit
theorem kc {w w':World} {a:Addr} {v:Value} (hb:Below w.heap.size w w') (h:w.cell? a=some v):w'.cell? a=some v :=
 (hb.cell (World.block_lt_of_cell? w a h)).trans h
theorem kf {w w':World} {a:Addr} {v:Value} (hb:Below w.heap.size w w') (h:w.cell? a=some v):w'.frozen? a=w.frozen? a :=
 hb.frozen (World.block_lt_of_cell? w a h)
theorem tr {B:Nat} {w w1 w2:World} (h:Below B w w1) (h':Below w1.heap.size w1 w2) (hB:B<=w.heap.size):Below B w w2:=h.trans (h'.mono (bG hB h.size))
structure Bt (α:Type) where
 sz:Nat
 L8:World->am->α->aq->Prop
 len:∀{w cs x F},L8 w cs x F->cs.length=sz
 lt:∀{w cs x F},L8 w cs x F->∀b∈F,b < w.heap.size
 frame:∀{w w':World} {cs x F},L8 w cs x F->(∀b∈F,w'.heap[b]?=w.heap[b]?)->L8 w' cs x F
def N4 {α:Type} (E:Bt α) (w:World) (b:Nat):Nat->List α->aq->Prop
 | _,[],F=>F=[]
 | off,x::r,F=>∃cs F1 F2,F=F1++F2/\E.L8 w cs x F1/\(∀j,j < E.sz->w.cell? ⟨b,off+j,none⟩=cs[j]?)/\N4 E w b (off+E.sz) r F2
def Sl {α:Type} (E:Bt α) (w:World) (v:Value) (xs:List α) (F:aq):Prop :=
 ∃a cap,v=ab a xs.length cap/\(xs.length<=cap/\cap<=maxLen) /\
  ((xs=[]/\F=[]/\(a=none->cap=0))\/∃b off F',a=some ⟨b,off,none⟩/\xs≠[]/\F=b::F'/\N4 E w b off xs F')
theorem N4.lt {α:Type} {E:Bt α} {w:World} {b:Nat}:∀{xs:List α} {off:Nat} {F:aq},N4 E w b off xs F->∀c∈F,c < w.heap.size
 | [],_,_,h=>by simp [N4] at h;simp [h]
 | _::r,_,_,h=>by
  obtain ⟨cs,F1,F2,rfl,h1,_,h2⟩:=h;intro c hc;rcases aK.1 hc with hc|hc
  ·exact E.lt h1 c hc
  ·exact N4.lt h2 c hc
theorem N4.frame {α:Type} {E:Bt α} {w w':World} {b:Nat} (hb:w'.heap[b]?=w.heap[b]?):∀{xs:List α} {off:Nat} {F:aq},N4 E w b off xs F ->
  (∀c∈F,w'.heap[c]?=w.heap[c]?)->N4 E w' b off xs F
 | [],_,_,h,_=>h
 | _::r,_,_,h,hF=>by
  obtain ⟨cs,F1,F2,rfl,h1,hc,h2⟩:=h;refine ⟨cs,F1,F2,rfl,E.frame h1 fun c hc=>hF c JG,fun j hj=>?_,N4.frame hb h2 fun c hc=>hF c JG⟩;rw [World.cell?_of_block (w:=w) hb];exact hc j hj
theorem N4.get {α:Type} {E:Bt α} {w:World} {b:Nat}:∀{xs:List α} {off:Nat} {F:aq},N4 E w b off xs F->∀(i:Nat) (hi:i < xs.length),
  ∃cs F1,E.L8 w cs xs[i] F1/\(∀j,j < E.sz->w.cell? ⟨b,off+i * E.sz+j,none⟩=cs[j]?)/\∀c∈F1,c∈F
 | [],_,_,_,i,hi=>by simp at hi
 | x::r,off,_,h,0,_=>by
  obtain ⟨cs,F1,F2,rfl,h1,hc,h2⟩:=h;exact ⟨cs,F1,h1,by simpa using hc,fun c hc=>by simp [hc]⟩
 | x::r,off,_,h,i+1,hi=>by
  obtain ⟨cs,F1,F2,rfl,h1,hc,h2⟩:=h;obtain ⟨cs',F3,h3,hc3,hm⟩:=N4.get h2 i IA;refine ⟨cs',F3,HX,fun j hj=>?_,fun c hc=>by simp [hm c hc]⟩;rw [<-hc3 j hj,show off+(i+1) * E.sz+j=off+E.sz+i * E.sz+j by rw [cH];omega]
theorem N4.block {α:Type} {E:Bt α} {w:World} {b off:Nat} {xs:List α} {F:aq} (h:N4 E w b off xs F) (hne:xs≠[]) (hz:0 < E.sz):b < w.heap.size:=by
 cases xs with
 | nil=>exact absurd rfl hne
 | cons x r =>
  obtain ⟨cs,F1,F2,rfl,h1,hc,h2⟩:=h;have h0:=hc 0 hz;have hl:=E.len h1;rw [aD EZ] at h0;exact World.block_lt_of_cell? w _ h0
theorem Sl.lt {α:Type} {E:Bt α} (hz:0 < E.sz) {w v xs F} (h:Sl E w v xs F):∀c∈F,c < w.heap.size:=by
 obtain ⟨a,cap,_,_,⟨_,rfl,_⟩|⟨b,off,F',_,hne,rfl,hc⟩⟩:=h
 ·simp
 ·intro c hm;rcases aH.1 hm with rfl|hm
  ·exact hc.block hne hz
  ·exact hc.lt c hm
theorem Sl.frame {α:Type} {E:Bt α} {w w':World} {v xs F} (h:Sl E w v xs F) (hF:∀b∈F,w'.heap[b]?=w.heap[b]?):Sl E w' v xs F:=by
 obtain ⟨a,cap,hv,hl,⟨h1,h2⟩|⟨b,off,F',h1,hne,rfl,hc⟩⟩:=h
 ·exact ⟨a,cap,hv,hl,.inl ⟨h1,h2⟩⟩
 ·exact ⟨a,cap,hv,hl,.inr ⟨b,off,F',h1,hne,rfl,hc.frame (hF b FB) fun c hc=>hF c JG⟩⟩
theorem Sl.below {α:Type} {E:Bt α} (hz:0 < E.sz) {w w':World} {v xs F} (h:Sl E w v xs F) (hb:Below w.heap.size w w'):Sl E w' v xs F :=
 h.frame fun c hc=>hb.block c (h.lt hz c hc)
def Bc:Bt Int where
 sz:=1
 L8 _ cs z F:=cs=[aa z]/\F=[]
 len h:=JN
 lt h:=by simp [h.2]
 frame h _:=h
def A8:Bt au where
 sz:=1
 L8 _ cs s F:=cs=[af s]/\s.size<=maxLen/\F=[]
 len h:=JN
 lt h:=by simp [h.2.2]
 frame h _:=h
def Oa {α:Type} (E:Bt α) (hz:0 < E.sz):Bt (List α) where
 sz:=1
 L8 w cs xs F:=∃v,cs=[v]/\Sl E w v xs F
 len h:=by obtain ⟨v,rfl,_⟩:=h;rfl
 lt h:=by obtain ⟨v,rfl,h⟩:=h;exact h.lt hz
 frame h hF:=by obtain ⟨v,rfl,h⟩:=h;exact ⟨v,rfl,h.frame hF⟩
def Bda:Bt Unit where
 sz:=0
 L8 _ cs _ F:=cs=[]/\F=[]
 len h:=JN
 lt h:=by simp [h.2]
 frame h _:=h
def Avx {α β:Type} (A:Bt α) (B:Bt β):Bt (α × β) where
 sz:=A.sz+B.sz
 L8 w cs x F:=∃c1 c2 F1 F2,cs=c1++c2/\F=F1++F2/\A.L8 w c1 x.1 F1/\B.L8 w c2 x.2 F2
 len h:=by obtain ⟨c1,c2,F1,F2,rfl,rfl,h1,h2⟩:=h;simp [A.len h1,B.len h2]
 lt h:=by
  obtain ⟨c1,c2,F1,F2,rfl,rfl,h1,h2⟩:=h;intro b hb;rcases aK.1 hb with hb|hb
  ·exact A.lt h1 b hb
  ·exact B.lt h2 b hb
 frame h hF:=by
  obtain ⟨c1,c2,F1,F2,rfl,rfl,h1,h2⟩:=h;exact ⟨c1,c2,F1,F2,rfl,rfl,A.frame h1 fun b hb=>hF b FG,B.frame h2 fun b hb=>hF b FG⟩
def Bt.comap {α β:Type} (B:Bt β) (f:α->β):Bt α where
 sz:=B.sz
 L8 w cs x F:=B.L8 w cs (f x) F
 len h:=B.len h
 lt h:=B.lt h
 frame h hF:=B.frame h hF
theorem Bt.below {α:Type} (E:Bt α) {w w':World} {cs x F} (h:E.L8 w cs x F) (hb:Below w.heap.size w w'):E.L8 w' cs x F :=
 E.frame h fun c hc=>hb.block c (E.lt h c hc)
structure Bdw where
 I2:au
 Gj:au
def Bfx:Bt Bdw:=(Avx A8 (Avx A8 Bda)).comap fun x=>(x.I2,x.Gj,())
theorem Bfx.open {w cs x F} (h:Bfx.L8 w cs x F):cs=[af x.I2,af x.Gj]/\x.I2.size<=maxLen/\x.Gj.size<=maxLen:=by
 obtain ⟨c1,c2,F1,F2,rfl,rfl,⟨rfl,h1,_⟩,c3,c4,F3,F4,rfl,rfl,⟨rfl,h2,_⟩,rfl,_⟩:=h;exact ⟨rfl,h1,h2⟩
end Go.Proofs.YtkoldibamfjghaaGreatDoor
namespace Go.Proofs.YtkoldibamfjghaaGreatDoor
open Go.ChangeShapes Go.WideShapes Go.ChangeAt Go.RowKit
theorem Y9 {H:Type} {enc:TypeId × Value->H} {P:Program} (hl:laidOutB P=true) {W W':World} (hb:Below W.heap.size W W') :
  ∀(ts:List TypeId) (vs:am) (ds:List (DataW H)) (ps:List MemPlace),(∀t∈ts,P.readableRec t=true/\t < P.types.size) ->
   DataW.TrodAll enc P W 0 (fun _=>true) true ts vs ds ps->(∀x∈ps,x.block < W.heap.size)->DataW.TrodAll enc P W' 0 (fun b=>decide (b < W.heap.size)) true ts vs ds ps
 | [],vs,ds,ps,_,h,_=>by obtain ⟨rfl,rfl,rfl⟩:=trodAll_nil h;exact rfl
 | t::ts,vs,ds,ps,ht,h,hlt=>by
  obtain ⟨v,vs',d,ds',p,q,rfl,rfl,rfl,h1,h2⟩:=trodAll_cons h;have ⟨a,b⟩:=ht t FB;exact ⟨p,q,Below.trod hl a b h1 hb fun x hx=>hlt x IE,Y9 hl hb ts vs' ds' q (fun t h=>ht t JR) h2 fun x hx=>hlt x IE,rfl⟩
theorem Axu {H:Type} {enc:TypeId × Value->H} {P:Program} {f:Func} {s:ChangeSpec} {tb:TypeId} (hl:laidOutB P=true) (hr:∀t∈f.params.toList,P.readableRec t=true/\t < P.types.size)
  (hb:P.underlying tb=some .bool) (hres:f.resultTypes = #[tb]) (hv:s.vars=[]) {W W':World} {args:Array Value} {ds gs:List (DataW H)} {before:List MemPlace}
  (hs:s.fn H ds={ results:=[.lit (.bool true)],args:=ds }) (hW:DataW.Whole enc P f.params.toList s.vars false W args.toList ds gs before) (hB:Below W.heap.size W W') :
  s.post enc P f false true false false W args (.bool true) W':=by
 have hlt:=hW.lt;have hW0:=hW;obtain ⟨p,q,hA,hV,rfl,_,_⟩:=hW0;rw [hv] at hV;obtain ⟨rfl,rfl⟩:=trodVars_none hV;refine ⟨ds,[],p++[],[],p,[],hW,?_,?_,?_,hB.frame _,fun h=>by cases h⟩
 ·rw [bg,hs,hres];exact trodAll_mk1 (shut_bool hb true)
 ·rw [bg,hs];exact Y9 hl hB _ _ _ _ hr hA fun x hx=>hlt x (by simpa using hx)
 ·rw [hv,bg,hs];exact rfl
def Al9 (P:Program) {α:Type} (E:Bt α) (t:TypeId):Prop :=
 ∀{H:Type} {enc:TypeId × Value->H} {w:World} {fuel:Nat} {cs:am} {x:DataW H × List MemPlace},DataW.trod enc P w 0 (fun _=>true) true fuel t cs=some x->∃y F,E.L8 w cs y F
section
variable {P:Program}
theorem Ad3 {α:Type} {E:Bt α} {e:TypeId} (hsz:P.cellsOf e=E.sz) (he:Al9 P E e) {H:Type} {enc:TypeId × Value->H} {w:World} {n b off:Nat} :
  ∀(els:List (DataW H × List MemPlace)) (k:Nat),(∀i,i < els.length->(w.cells? 0 ((⟨b,off,none⟩:Addr).add ((k+i) * P.cellsOf e)) (P.cellsOf e)).bind (DataW.trod enc P w 0 (fun _=>true) true n e)=els[i]?) ->
   ∃ys F,ys.length=els.length/\N4 E w b (off+k * E.sz) ys F
 | [],_,_=>⟨[],[],rfl,rfl⟩
 | x::r,k,h=>by
  have h0:=h 0 FB;simp only [bR,bM,fO] at h0;obtain ⟨cs,hc,hx⟩:=h0;obtain ⟨y,F1,hy⟩:=he hx;obtain ⟨ys,F2,hl,hys⟩:=Ad3 hsz he r (k+1) fun i hi=>by
   have:=h (i+1) IA;rw [show k+1+i=k+(i+1) by omega];exact EX
  refine ⟨y::ys,F1++F2,by simp [hl],cs,F1,F2,rfl,hy,fun j hj=>?_,by rwa [show off+k * E.sz+E.sz=off+(k+1) * E.sz by rw [cH];omega]⟩;obtain ⟨_,hlen,hcell⟩:=World.cells?_some hc;rw [<-hcell j (by rw [hsz];exact hj)]
  congr 1
  simp only [Addr.add,hsz]
  split <;> split <;> simp_all <;> omega
theorem Aoe {α:Type} {E:Bt α} {t e:TypeId} (ht:P.underlying t=some (.slice e)) (hsz:P.cellsOf e=E.sz) (hz:0 < E.sz) (he:Al9 P E e):Al9 P (Oa E hz) t:=fun h=>by
 rcases DataW.trod_slice ht h with ⟨rfl,_⟩|⟨a,len,cap,elems,rest,n,rfl,rfl,_,_,hlc,hcm,hlen,hel,_,_⟩
 ·exact ⟨[],[],_,rfl,none,0,rfl,⟨FB,FB⟩,.inl ⟨rfl,rfl,fun _=>rfl⟩⟩
 ·by_cases h0:len=0
  ·subst h0;exact ⟨[],[],_,rfl,some a,cap,rfl,⟨FB,EZ⟩,.inl ⟨rfl,rfl,fun e=>by cases e⟩⟩
  ·have hs:a=⟨a.block,a.off,none⟩:=by
    have:=hel 0 EZ;rw [aD EZ] at this;simp only [fO] at this;obtain ⟨cs,hc,_⟩:=this;obtain ⟨_,hl2,hcell⟩:=World.cells?_some hc;have h1:=hcell 0 EZ;rw [aD EZ] at h1;simp [Addr.add,World.cell?] at h1
    split at h1 <;> simp_all
    cases a;simp_all
   obtain ⟨ys,F,hyl,hys⟩:=Ad3 hsz he elems 0 (n:=n) (b:=a.block) (off:=a.off) (enc:=_) (w:=_) (by
    rw [<-hs];intro i hi;rw [cO];exact hel i EZ)
   refine ⟨ys,a.block::F,_,rfl,some a,cap,by rw [hyl,hlen],⟨EZ,EZ⟩,.inr ⟨a.block,a.off,F,by rw [<-hs],?_,rfl,by simpa using hys⟩⟩;intro e;rw [e] at hyl;simp at hyl;omega
end
inductive Afb (P:Program):List Field->Nat->(α:Type)->Bt α->Prop
 | nil (off:Nat):Afb P [] off Unit Bda
 | cons {f:Field} {r:List Field} {off:Nat} {α β:Type} {A:Bt α} {B:Bt β} (ho:f.offset=off) (hc:P.cellsOf f.type=A.sz) (hA:Al9 P A f.type) (h:Afb P r (off+A.sz) β B):Afb P (f::r) off (α × β) (Avx A B)
end Go.Proofs.YtkoldibamfjghaaGreatDoor
namespace Go.Proofs.YtkoldibamfjghaaGreatDoor
open Go.RowKit
structure Ei (F:aq) (w w':World):Prop where
 os:w'.os=w.os
 tape:w'.tape=w.tape
 output:w'.output=w.output
 size:w.heap.size<=w'.heap.size
 block:∀k,k < w.heap.size->k ∉ F->w'.heap[k]?=w.heap[k]?
theorem Ei.refl (F:aq) (w:World):Ei F w w:=⟨rfl,rfl,rfl,aL _,fun _ _ _=>rfl⟩
theorem Ei.trans {F:aq} {a b c:World} (h:Ei F a b) (k:Ei F b c):Ei F a c :=
 ⟨k.os.trans h.os,k.tape.trans h.tape,k.output.trans h.output,bG h.size k.size,fun i hi hf=>(k.block i (eh hi h.size) hf).trans (h.block i hi hf)⟩
theorem Ei.mono {F G:aq} {a b:World} (h:Ei F a b) (hs:∀x∈F,x < a.heap.size->x∈G):Ei G a b :=
 ⟨h.os,h.tape,h.output,h.size,fun k hk hg=>h.block k hk fun hf=>hg (hs k hf hk)⟩
theorem Ei.ofBelow {F:aq} {w w':World} (h:Below w.heap.size w w'):Ei F w w':=⟨h.os,h.tape,h.output,h.size,fun k hk _=>h.block k hk⟩
theorem Ei.below {F:aq} {w w':World} {B:Nat} (h:Ei F w w') (hB:B<=w.heap.size) (hF:∀b∈F,B<=b):Below B w w' :=
 ⟨h.os,h.tape,h.output,h.size,fun k hk=>h.block k EZ fun hf=>by have:=hF k hf;omega⟩
theorem Ei.setCell {F:aq} {w w':World} (h:Ei F w w') {p:Addr} (hp:p.block∈F) (u:Value):Ei F w (w'.setCell p u) :=
 h.trans ⟨rfl,rfl,rfl,by simp [World.setCell],fun k _ hf=>Below.heap_setCell _ _ _ _ (fun e=>hf (e▸hp))⟩
theorem Ei.alloc {F:aq} {w w':World} (h:Ei F w w') (o:Obj):Ei F w (w'.alloc o) :=
 h.trans ⟨rfl,rfl,rfl,FB,fun k hk _=>Below.heap_alloc _ _ _ hk⟩
theorem Ei.drewN {F:aq} {w w':World} (h:Ei F w w') (n:Nat):Ei F w (w'.drewN n):=⟨h.os,h.tape,h.output,h.size,h.block⟩
theorem Ei.cell {F:aq} {w w':World} (h:Ei F w w') {a:Addr} {v:Value} (ha:a.block ∉ F) (hc:w.cell? a=some v):w'.cell? a=some v :=
 (World.cell?_of_block (w:=w) (h.block a.block (World.block_lt_of_cell? w a hc) ha)).trans hc
theorem E5 {B:Nat} {a w:World} (h:Below B a w) (n:Nat):Below B a (w.drewN n):=⟨h.os,h.tape,h.output,h.size,h.block⟩
def Ib (w:World) (g:Nat) (t:TypeId) (cs:am):Prop:=w.heap[g]?=some (.cells cs.toArray t (0,0))
theorem Ib.lt {w g t cs} (h:Ib w g t cs):g < w.heap.size:=by
 rcases d9 g w.heap.size with h1|h1
 ·exact h1
 ·rw [Ib,ex h1] at h;simp at h
theorem Ib.cell {w g t cs} (h:Ib w g t cs) (j:Nat):w.cell? ⟨g,j,none⟩=cs[j]?:=by
 simp [World.cell?,show w.heap[g]?=_ from h]
theorem Ib.frozen {w g t cs} (h:Ib w g t cs) (j:Nat):w.frozen? ⟨g,j,none⟩=false:=by
 simp [World.frozen?,show w.heap[g]?=_ from h]
theorem Ib.I0 {w w' g t cs} (h:Ib w g t cs) (e:w'.heap[g]?=w.heap[g]?):Ib w' g t cs:=e.trans h
theorem Ib.below {w w' g t cs} (h:Ib w g t cs) (hb:Below w.heap.size w w'):Ib w' g t cs:=h.I0 (hb.block g h.lt)
theorem Ib.set {w g t cs} (h:Ib w g t cs) (j:Nat) (u:Value):Ib (w.setCell ⟨g,j,none⟩ u) g t (cs.set j u):=by
 have h':w.heap[g]?=_:=h;simp [Ib,World.setCell,Array.getElem?_modify,h']
theorem Ib.setOther {w g t cs} (h:Ib w g t cs) {p:Addr} (hp:p.block≠g) (u:Value):Ib (w.setCell p u) g t cs :=
 h.I0 (Below.heap_setCell _ _ _ _ (fun e=>hp e.symm))
theorem Ib.cells {w g t cs} (h:Ib w g t cs):∀j,w.cell? ⟨g,j,none⟩=cs[j]?:=h.cell
theorem Ib.frozens {w g t cs} (h:Ib w g t cs):∀j,w.frozen? ⟨g,j,none⟩=false:=h.frozen
theorem Ib.made (w:World) (t:TypeId) (cs:am):Ib (w.alloc (.cells cs.toArray t)) w.heap.size t cs:=heap_alloc_new w _
theorem Ib.alloc {w g t cs} (h:Ib w g t cs) (o:Obj):Ib (w.alloc o) g t cs:=h.I0 (Below.heap_alloc _ _ _ h.lt)
theorem Je (w:World) (o:Obj) (g:Nat) (t:TypeId) (cs:am):Ib (w.alloc o) g t cs↔if g=w.heap.size then o=.cells cs.toArray t (0,0) else Ib w g t cs:=by
 unfold Ib;show (w.heap.push o)[g]?=_↔_;rw [Array.getElem?_push]
 split <;> simp
def Cz {α:Type} (E:Bt α) (w:World):am->List α->aq->Prop
 | cs,[],G=>cs=[]/\G=[]
 | cs,x::r,G=>∃c1 c2 F1 F2,cs=c1++c2/\G=F1++F2/\E.L8 w c1 x F1/\Cz E w c2 r F2
section
variable {α:Type} {E:Bt α}
theorem Cz.len {w:World}:∀{xs:List α} {cs:am} {G:aq},Cz E w cs xs G->cs.length=xs.length * E.sz
 | [],_,_,h=>by simp [h.1]
 | x::r,_,_,h=>by
  obtain ⟨c1,c2,F1,F2,rfl,rfl,h1,h2⟩:=h;rw [aA,E.len h1,h2.len,aU,cH];omega
theorem Cz.lt {w:World}:∀{xs:List α} {cs:am} {G:aq},Cz E w cs xs G->∀b∈G,b < w.heap.size
 | [],_,_,h=>by simp [h.2]
 | x::r,_,_,h=>by
  obtain ⟨c1,c2,F1,F2,rfl,rfl,h1,h2⟩:=h;intro b hb;rcases aK.1 hb with hb|hb
  ·exact E.lt h1 b hb
  ·exact h2.lt b hb
theorem Cz.frame {w w':World}:∀{xs:List α} {cs:am} {G:aq},Cz E w cs xs G->(∀b∈G,w'.heap[b]?=w.heap[b]?)->Cz E w' cs xs G
 | [],_,_,h,_=>h
 | x::r,_,_,h,hG=>by
  obtain ⟨c1,c2,F1,F2,rfl,rfl,h1,h2⟩:=h;exact ⟨c1,c2,F1,F2,rfl,rfl,E.frame h1 fun b hb=>hG b FG,h2.frame fun b hb=>hG b FG⟩
theorem Cz.append {w:World}:∀{xs ys:List α} {cs ds:am} {G H:aq},Cz E w cs xs G->Cz E w ds ys H->Cz E w (cs++ds) (xs++ys) (G++H)
 | [],_,_,_,_,_,h,k=>by obtain ⟨rfl,rfl⟩:=h;simpa using k
 | x::r,_,_,_,_,_,h,k=>by
  obtain ⟨c1,c2,F1,F2,rfl,rfl,h1,h2⟩:=h;exact ⟨c1,_,F1,_,by rw [aN],by rw [aN],h1,h2.append k⟩
theorem Cz.one {w:World} {x:α} {cs:am} {G:aq} (h:E.L8 w cs x G):Cz E w cs [x] G:=⟨cs,[],G,[],FB,FB,h,rfl,rfl⟩
theorem Cz.split {w:World}:∀{xs ys:List α} {cs:am} {G:aq},Cz E w cs (xs++ys) G->∃c1 c2 G1 G2,cs=c1++c2/\G=G1++G2/\Cz E w c1 xs G1/\Cz E w c2 ys G2
 | [],_,cs,G,h=>⟨[],cs,[],G,rfl,rfl,⟨rfl,rfl⟩,h⟩
 | x::r,_,_,_,h=>by
  obtain ⟨c1,c2,F1,F2,rfl,rfl,h1,h2⟩:=h;obtain ⟨d1,d2,G1,G2,rfl,rfl,h3,h4⟩:=h2.split;exact ⟨c1++d1,d2,F1++G1,G2,FB,FB,⟨c1,d1,F1,G1,rfl,rfl,h1,h3⟩,h4⟩
theorem Cz.focus {w:World} {xs:List α} {cs:am} {G:aq} (h:Cz E w cs xs G) (i:Nat) (hi:i < xs.length) :
  ∃A c B G1 Fi G2,cs=A++c++B/\G=G1++Fi++G2/\A.length=i * E.sz/\c.length=E.sz/\Cz E w A (xs.take i) G1/\E.L8 w c xs[i] Fi/\Cz E w B (xs.drop (i+1)) G2:=by
 have e:xs=xs.take i++xs[i]::xs.drop (i+1):=FB
 rw [e] at h;obtain ⟨A,c2,G1,G2,rfl,rfl,h1,c,B,F1,F2,rfl,rfl,h2,h3⟩:=h.split;exact ⟨A,c,B,G1,F1,F2,FB,FB,by rw [h1.len,aP,cZ EZ],E.len h2,h1,h2,h3⟩
theorem Cz.build {w:World} {xs:List α} {A c B:am} {G1 Fi G2:aq} {i:Nat} (hi:i < xs.length) {x:α} (h1:Cz E w A (xs.take i) G1) (h2:E.L8 w c x Fi) (h3:Cz E w B (xs.drop (i+1)) G2) :
  Cz E w (A++c++B) (xs.set i x) (G1++Fi++G2):=by
 have e:xs.set i x=xs.take i++[x]++xs.drop (i+1):=by
  rw [List.set_eq_take_append_cons_drop];simp [hi]
 rw [e];exact (h1.append (Cz.one h2)).append h3
def Ow (E:Bt α) (t:TypeId) (w:World) (v:Value) (xs:List α) (F:aq):Prop :=
 (v=ab none 0 0/\xs=[]/\F=[]) \/
 ∃g cap cs rest G,v=ab (some ⟨g,0,none⟩) xs.length cap/\Ib w g t (cs++rest)/\xs.length<=cap/\cap<=maxLen/\cs.length+rest.length=cap * E.sz/\Cz E w cs xs G/\F=g::G
theorem Ow.lt {t:TypeId} {w v} {xs:List α} {F} (h:Ow E t w v xs F):∀b∈F,b < w.heap.size:=by
 rcases h with ⟨_,_,rfl⟩|⟨g,cap,cs,rest,G,_,hr,_,_,_,hf,rfl⟩
 ·simp
 ·intro b hb;rcases aH.1 hb with rfl|hb
  ·exact hr.lt
  ·exact hf.lt b hb
theorem Ow.frame {t:TypeId} {w w':World} {v} {xs:List α} {F} (h:Ow E t w v xs F) (hF:∀b∈F,w'.heap[b]?=w.heap[b]?):Ow E t w' v xs F:=by
 rcases h with h|⟨g,cap,cs,rest,G,hv,hr,h1,h2,h3,hf,rfl⟩
 ·exact .inl h
 ·exact .inr ⟨g,cap,cs,rest,G,hv,hr.I0 (hF g FB),h1,h2,h3,hf.frame fun b hb=>hF b FG,rfl⟩
theorem Ow.below {t:TypeId} {w w':World} {v} {xs:List α} {F} (h:Ow E t w v xs F) (hb:Below w.heap.size w w'):Ow E t w' v xs F :=
 h.frame fun b h'=>hb.block b (h.lt b h')
theorem Ow.I0 {t:TypeId} {w w':World} {v} {xs:List α} {F K} (h:Ow E t w v xs F) (hk:Ei K w w') (hd:∀b∈F,b ∉ K):Ow E t w' v xs F :=
 h.frame fun b h'=>hk.block b (h.lt b h') (hd b h')
theorem Ow.setFar {t:TypeId} {w:World} {v} {xs:List α} {F} (h:Ow E t w v xs F) {p:Addr} (hp:p.block ∉ F) (u:Value):Ow E t (w.setCell p u) v xs F :=
 h.frame fun b hb=>Below.heap_setCell _ _ _ _ fun e=>hp (e▸hb)
theorem Ow.len {t:TypeId} {w v} {xs:List α} {F} (h:Ow E t w v xs F):xs.length<=maxLen:=by
 rcases h with ⟨_,rfl,_⟩|⟨g,cap,cs,rest,G,_,_,h1,h2,_⟩
 ·simp
 ·omega
theorem Ow.slice {t:TypeId} {w v} {xs:List α} {F} (h:Ow E t w v xs F):∃a cap,v=ab a xs.length cap:=by
 rcases h with ⟨rfl,rfl,_⟩|⟨g,cap,cs,rest,G,rfl,_⟩
 ·exact ⟨none,0,rfl⟩
 ·exact ⟨_,_,rfl⟩
theorem Ow.focus {t:TypeId} {w v} {xs:List α} {F} (h:Ow E t w v xs F) (i:Nat) (hi:i < xs.length) :
  ∃g cap A c B G1 Fi G2,v=ab (some ⟨g,0,none⟩) xs.length cap/\Ib w g t (A++c++B)/\A.length=i * E.sz/\c.length=E.sz/\E.L8 w c xs[i] Fi/\F=g::(G1++Fi++G2) /\
   (∀b∈G1++G2,b < w.heap.size) /\
   ∀w' c' x' Fi',Ib w' g t (A++c'++B)->E.L8 w' c' x' Fi'->(∀b∈G1++G2,w'.heap[b]?=w.heap[b]?)->Ow E t w' v (xs.set i x') (g::(G1++Fi'++G2)):=by
 rcases h with ⟨_,rfl,_⟩|⟨g,cap,cs,rest,G,rfl,hr,h1,h2,h3,hf,rfl⟩
 ·simp at hi
 ·obtain ⟨A,c,B,G1,Fi,G2,rfl,rfl,hA,hc,hfA,hx,hfB⟩:=hf.focus i hi
  refine ⟨g,cap,A,c,B++rest,G1,Fi,G2,rfl,GK,hA,hc,hx,rfl,?_,?_⟩
  ·intro b hb;rcases aK.1 hb with hb|hb
   ·exact hfA.lt b hb
   ·exact hfB.lt b hb
  ·intro w' c' x' Fi' hr' hx' hG;refine .inr ⟨g,cap,A++c'++B,rest,G1++Fi'++G2,FB,by simpa using hr',HV,h2,?_,?_,rfl⟩
   ·have:=E.len hx';simp only [aA] at h3 ⊢;omega
   ·exact Cz.build hi (hfA.frame fun b hb=>hG b FG) hx' (hfB.frame fun b hb=>hG b FG)
structure Mq {α:Type} (O R:Bt α):Prop where
 sz:O.sz=R.sz
 L8:∀{w cs x F},O.L8 w cs x F->∃F',(∀b∈F',b∈F)/\R.L8 w cs x F'
theorem Mq.refl {α:Type} (E:Bt α):Mq E E:=⟨rfl,fun h=>⟨_,fun _ h=>h,h⟩⟩
theorem Ow.sl {O R:Bt α} (hW:Mq O R) {t:TypeId} {w v} {xs:List α} {F} (h:Ow O t w v xs F):∃F',(∀b∈F',b∈F)/\Sl R w v xs F':=by
 have key:∀(xs:List α) (cs:am) (G:aq) (g off:Nat),Cz O w cs xs G->(∀j,j < cs.length->w.cell? ⟨g,off+j,none⟩=cs[j]?)->∃G',(∀b∈G',b∈G)/\N4 R w g off xs G':=by
  intro xs
  induction xs with
  | nil=>intro cs G g off h _;exact ⟨[],FB,rfl⟩
  | cons x r ih =>
   intro cs G g off h hc;obtain ⟨c1,c2,F1,F2,rfl,rfl,h1,h2⟩:=h;have hl:=O.len h1;have hs:=hW.sz;obtain ⟨F1',hs1,hr1⟩:=hW.L8 h1;obtain ⟨F2',hs2,hr2⟩:=ih c2 F2 g (off+R.sz) h2 fun j hj=>by
    have:=hc (c1.length+j) FF;rw [bX EZ,show c1.length+j - c1.length=j by omega] at this;rw [<-this,show off+R.sz+j=off+(c1.length+j) by omega]
   refine ⟨F1'++F2',fun b hb=>?_,c1,F1',F2',rfl,hr1,fun j hj=>?_,hr2⟩
   ·rcases aK.1 hb with hb|hb
    ·simp [hs1 b hb]
    ·simp [hs2 b hb]
   ·rw [hc j FF,bB EZ]
 have hl:=h.len;rcases h with ⟨rfl,rfl,rfl⟩|⟨g,cap,cs,rest,G,rfl,hrow,h1,h2,h3,hf,rfl⟩
 ·exact ⟨[],FB,none,0,rfl,FB,.inl ⟨rfl,rfl,fun _=>rfl⟩⟩
 ·by_cases h0:xs=[]
  ·subst h0;exact ⟨[],FB,some ⟨g,0,none⟩,cap,rfl,⟨FB,h2⟩,.inl ⟨rfl,rfl,fun e=>by cases e⟩⟩
  ·obtain ⟨G',hG,hc⟩:=key xs cs G g 0 hf fun j hj=>by rw [cO,hrow.cell,bB hj]
   exact ⟨g::G',fun b hb=>by rcases aH.1 hb with rfl|hb;simp;simp [hG b hb],_,cap,rfl,⟨h1,h2⟩,.inr ⟨g,0,G',rfl,h0,rfl,hc⟩⟩
theorem Ow.read {t:TypeId} {w v} {xs:List α} {F} (h:Ow E t w v xs F):∃F',(∀b∈F',b∈F)/\Sl E w v xs F':=by
 exact h.sl (Mq.refl E)
end
theorem Mq.slice {α:Type} {O R:Bt α} (h:Mq O R) (hz:0 < R.sz) (t:TypeId) {w v} {xs:List α} {F} (ho:Ow O t w v xs F):∃F',(∀b∈F',b∈F)/\(Oa R hz).L8 w [v] xs F':=by
 obtain ⟨F',h1,h2⟩:=ho.sl h;exact ⟨F',h1,v,rfl,h2⟩
def Ki {α:Type} (E:Bt α) (t:TypeId):Bt (List α) where
 sz:=1
 L8 w cs xs F:=∃v,cs=[v]/\Ow E t w v xs F
 len h:=by obtain ⟨v,rfl,_⟩:=h;rfl
 lt h:=by obtain ⟨v,rfl,h⟩:=h;exact h.lt
 frame h hF:=by obtain ⟨v,rfl,h⟩:=h;exact ⟨v,rfl,h.frame hF⟩
theorem Bco (A c B:am) (j:Nat) (hj:j < c.length) (u:Value):(A++c++B).set (A.length+j) u=A++c.set j u++B:=by
 rw [aN,eH _ _ EZ,show A.length+j - A.length=j by omega,List.set_append_left _ _ hj,aN]
theorem Ib.setMid {w g t} {A c B:am} (h:Ib w g t (A++c++B)) {p j:Nat} (hp:p=A.length+j) (hj:j < c.length) (u:Value):Ib (w.setCell ⟨g,p,none⟩ u) g t (A++c.set j u++B):=by
 subst hp;rw [<-Bco _ _ _ _ hj];exact h.set _ u
theorem Ib.cellMid {w g t} {A c B:am} (h:Ib w g t (A++c++B)) {p j:Nat} (hp:p=A.length+j) (hj:j < c.length):w.cell? ⟨g,p,none⟩=c[j]?:=by
 subst hp;rw [h.cell,aN,bX EZ,show A.length+j - A.length=j by omega,bB hj]
def Nw (w:World) (g:Nat):Nat->am->World
 | _,[]=>w
 | p,u::r=>Nw (w.setCell ⟨g,p,none⟩ u) g (p+1) r
theorem Ib.put {g t}:∀(c' c:am) {w:World} {A B:am} {p:Nat},Ib w g t (A++c++B)->p=A.length->c'.length=c.length->Ib (Nw w g p c') g t (A++c'++B)
 | [],[],_,_,_,_,h,_,_=>h
 | u::r,d::c,w,A,B,p,h,hp,hl=>by
  have h1:=h.setMid (p:=p) (j:=0) EZ FB u;simp only [bj] at h1;have h2:=Ib.put r c (w:=w.setCell ⟨g,p,none⟩ u) (A:=A++[u]) (B:=B) (p:=p+1) HV FF GY;simpa [Nw] using h2
 | [],_::_,_,_,_,_,_,_,hl=>by simp at hl
 | _::_,[],_,_,_,_,_,_,hl=>by simp at hl
theorem Nx {g:Nat}:∀(c:am) (w:World) (p:Nat) (b:Nat),b≠g->(Nw w g p c).heap[b]?=w.heap[b]?
 | [],_,_,_,_=>rfl
 | _::r,_,_,b,hb=>(Nx r _ _ b hb).trans (Below.heap_setCell _ _ _ _ hb)
theorem Lt {g:Nat}:∀(c:am) (w:World) (p:Nat),Ei [g] w (Nw w g p c)
 | [],w,_=>Ei.refl _ w
 | u::r,w,p=>((Ei.refl [g] w).setCell (p:=⟨g,p,none⟩) FB u).trans (Lt r _ _)
theorem Ow.put {α:Type} {E:Bt α} {t:TypeId} {w:World} {g n cap:Nat} {xs:List α} {F:aq} (h:Ow E t w (ab (some ⟨g,0,none⟩) n cap) xs F) (hn:F.Nodup) (i:Nat) (hi:i < xs.length) :
  g∈F/\(∀j,j < E.sz->(∃u,w.cell? ⟨g,i * E.sz+j,none⟩=some u)/\w.frozen? ⟨g,i * E.sz+j,none⟩=false) /\
  ∀c' x' F',E.L8 w c' x' F'->F'.Nodup->(∀b∈F',b ∉ F)->∃F2,Ow E t (Nw w g (i * E.sz) c') (ab (some ⟨g,0,none⟩) n cap) (xs.set i x') F2/\F2.Nodup/\∀b∈F2,b∈F\/b∈F':=by
 obtain ⟨g',cp,A,c,B,G1,Fi,G2,hv,hrow,hA,hcl,hx,rfl,hlt,back⟩:=h.focus i hi
 simp only [Value.slice.injEq,Option.some.injEq,Addr.mk.injEq] at hv;obtain ⟨⟨rfl,_⟩,rfl,rfl⟩:=hv;have hnd:g ∉ G1++G2:=fun hm=>by simp at hn hm;rcases hm with hm|hm <;> simp [hm] at hn
 refine ⟨FB,fun j hj=>⟨⟨c[j]'EZ,by rw [hrow.cellMid (j:=j) EZ EZ,aD]⟩,hrow.frozen _⟩,fun c' x' F' hx' hn' hd=>⟨g::(G1++F'++G2),?_,?_,?_⟩⟩
 ·have hl:=E.len hx';have hg:g ∉ F':=fun e=>hd g e FB;exact back _ c' x' F' (hrow.put c' c EZ EZ) (E.frame hx' fun b hb=>Nx _ _ _ _ fun e=>hg (e▸hb)) fun b hb=>Nx _ _ _ _ fun e=>hnd (e▸hb)
 ·have hd1:∀b∈F',b≠g/\b ∉ G1/\b ∉ G2:=fun b hb=>by have:=hd b hb;simp at this;exact ⟨this.1,this.2.1,this.2.2.2⟩
  simp only [dl,bN,aK,not_or] at hn ⊢;obtain ⟨⟨⟨h1,h2⟩,h3⟩,⟨h4,h5,h6⟩,h7,h8⟩:=hn;refine ⟨⟨⟨h1,fun e=>(hd1 g e).1 rfl⟩,h3⟩,⟨h4,hn',fun a ha b hb e=>(hd1 b hb).2.1 (e▸ha)⟩,h7,fun a ha b hb=>?_⟩;rcases ha with ha|ha
  ·exact h8 a (.inl ha) b hb
  ·exact fun e=>(hd1 a ha).2.2 (e▸hb)
 ·intro b hb;simp at hb ⊢;rcases hb with hb|hb|hb|hb <;> simp [hb]
theorem Ow.head {α:Type} {E:Bt α} {t:TypeId} {w:World} {a:aj} {n cap:Nat} {xs:List α} {F:aq} (h:Ow E t w (ab a n cap) xs F) (i:Nat) (hi:i < xs.length):∃g,a=some ⟨g,0,none⟩:=by
 obtain ⟨g,cp,A,c,B,G1,Fi,G2,hv, -⟩:=h.focus i hi
 simp only [Value.slice.injEq] at hv;exact ⟨g,hv.1⟩
theorem Nu (z:Array Value) (n:Nat):(madeCells z (n * z.size)).toList=(List.replicate n z.toList).flatten:=by
 apply dr;intro p;by_cases hz:z.size=0
 ·have:z = #[]:=eP hz;subst this;simp [madeCells]
 ·have hlen:∀m,((List.replicate m z.toList).flatten).length=m * z.size:=fun m=>by simp
  by_cases hp:p < n * z.size
  ·have h1:(madeCells z (n * z.size)).toList[p]?=some z[p % z.size]!:=by simp [madeCells,hp]
   rw [h1];have hq:p / z.size < n:=Nat.div_lt_of_lt_mul (by rwa [Nat.mul_comm]);have e:List.replicate n z.toList=List.replicate (p / z.size) z.toList++z.toList::List.replicate (n - p / z.size - 1) z.toList:=by
    rw [<-cU,List.replicate_append_replicate];congr 1;omega
   have hd:=Nat.div_add_mod p z.size;have hm:=Nat.mod_lt p (Nat.pos_of_ne_zero hz);rw [Nat.mul_comm] at hd;rw [e,dg,cm,bX (by rw [hlen];omega),hlen,show p - p / z.size * z.size=p % z.size by omega,bB IT];simp [hm]
  ·rw [br (by simp [madeCells];omega),br (by rw [hlen];omega)]
theorem Ow.made {α:Type} {E:Bt α} {t:TypeId} (w:World) (z:Array Value) (n:Nat) (x:α) (hsz:z.size=E.sz) (hz:∀w,E.L8 w z.toList x []) (hn:n<=maxLen) :
  Ow E t (w.alloc (.cells (madeCells z (n * E.sz)) t)) (ab (some ⟨w.heap.size,0,none⟩) n n) (List.replicate n x) [w.heap.size]:=by
 have hf:∀(w:World) (m:Nat),Cz E w (List.replicate m z.toList).flatten (List.replicate m x) []:=by
  intro w m
  induction m with
  | zero=>exact ⟨rfl,rfl⟩
  | succ m ih=>exact ⟨z.toList,_,[],[],by rw [cU,cm],rfl,hz w,ih⟩
 refine .inr ⟨w.heap.size,n,(madeCells z (n * E.sz)).toList,[],[],FB,?_,FB,hn,?_,?_,rfl⟩
 ·simp only [bg,Ib];exact heap_alloc_new w _
 ·rw [<-hsz,Nu];simp
 ·rw [<-hsz,Nu];exact hf _ _
theorem Pt {α:Type} {O R:Bt α} (h:Mq O R) (hz:0 < R.sz) (t:TypeId):Mq (Ki O t) (Oa R hz):=⟨rfl,fun hh=>by
 obtain ⟨v,rfl,ho⟩:=hh;exact h.slice hz t ho⟩
theorem Sl.at {α:Type} {E:Bt α} {w:World} {a:aj} {n cap:Nat} {xs:List α} {F} (h:Sl E w (ab a n cap) xs F) (k:Nat) (hk:k < xs.length) :
  ∃b off cs F1,a=some ⟨b,off,none⟩/\E.L8 w cs xs[k] F1/\(∀c∈F1,c∈F)/\∀j,j < E.sz->w.cell? ⟨b,off+k * E.sz+j,none⟩=cs[j]?:=by
 obtain ⟨a',cap',hv,hl,h⟩:=h;cases hv;rcases h with ⟨rfl,_⟩|⟨b,off,F',rfl,_,rfl,hc⟩
 ·simp at hk
 ·obtain ⟨cs,F1,h1,hj,hm⟩:=hc.get k hk;exact ⟨b,off,cs,F1,rfl,h1,fun c hc=>by simp [hm c hc],hj⟩
theorem Sl.slice {α:Type} {E:Bt α} {w v} {xs:List α} {F} (h:Sl E w v xs F):∃a cap,v=ab a xs.length cap:=by
 obtain ⟨a,cap,h,_⟩:=h;exact ⟨a,cap,h⟩
theorem Sl.len {α:Type} {E:Bt α} {w v} {xs:List α} {F} (h:Sl E w v xs F):xs.length<=maxLen:=by
 obtain ⟨a,cap,_,h,_⟩:=h;omega
theorem Sl.caps {α:Type} {E:Bt α} {w} {a:aj} {n cap:Nat} {xs:List α} {F} (h:Sl E w (ab a n cap) xs F):n=xs.length/\n<=cap/\cap<=maxLen:=by
 obtain ⟨a',cap',hv,h,_⟩:=h;cases hv;exact ⟨rfl,h⟩
def Ro {α:Type} (E:Bt α) (w:World) (v:Value) (x:α) (F:aq):Prop:=∃cs:am,v=.agg cs.toArray/\E.L8 w cs x F
theorem Ro.below {α:Type} {E:Bt α} {w w':World} {v x F} (h:Ro E w v x F) (hb:Below w.heap.size w w'):Ro E w' v x F:=by
 obtain ⟨cs,hv,h⟩:=h;exact ⟨cs,hv,E.below h hb⟩
def Awa {α:Type} (E:Bt α) (x:α) (w:World) (e:Ending) (w':World):Prop :=
 ∃v F,e=.returned v/\Ro E w' v x F/\F.Nodup/\(∀b∈F,w.heap.size<=b)/\Below w.heap.size w w'
def Wr {α:Type} (E:Bt α) (t:TypeId) (xs:List α) (w:World) (e:Ending) (w':World):Prop :=
 ∃v F,e=.returned v/\Ow E t w' v xs F/\F.Nodup/\(∀b∈F,w.heap.size<=b)/\Below w.heap.size w w'
theorem Ib.keepK {w w' g t cs F} (h:Ib w g t cs) (hk:Ei F w w') (hg:g ∉ F):Ib w' g t cs:=h.I0 (hk.block g h.lt hg)
structure Yo (P:Program) (f:FuncId):Prop where
 ok:∃fn,P.funcs[f]?=some fn/\(fn.name == "runtime.NumGoroutine")=false/\fn.body.isNone=false
theorem Yo.mk' {P:Program} {f:FuncId} {fn:Func} (h:P.funcs[f]?=some fn) (h1:(fn.name == "runtime.NumGoroutine")=false) (h2:fn.body.isNone=false):Yo P f:=⟨fn,h,h1,h2⟩
theorem Yo.run {P:Program} {f:FuncId} (h:Yo P f) (args:Array Value) (w:World):(callFunc f args).run P w=.ok (.enter f args) w:=by
 obtain ⟨fn,h0,h1,h2⟩:=h.ok;have h1':¬fn.name = "runtime.NumGoroutine" := by simpa using h1
 have h2':¬fn.body=none:=fun e=>by rw [e] at h2;simp at h2
 simp [callFunc,program,Sem.run,h0,h1',h2',bind,Sem.bind,pure]
theorem Yo.upon {P:Program} {f:FuncId} (h:Yo P f) {o:Oper} {a:Act} {K:Act->World->Prop} {Q:Exit->Act->World->Prop} {args:Array Value} {w:World} {R:Ending->World->Prop}
  (hc:Calls P f args w R) (hr:∀e w',R e w'->∃v,e=.returned v/\K (a.put o.dst v) w'):Oper.upon P o a K Q ((callFunc f args).run P w):=by
 rw [h.run,Oper.upon_enter];exact hc.mono fun e w' hR=>by obtain ⟨v,rfl,hk⟩:=hr e w' hR;exact hk
def IsC {α:Type} (E:Bt α) (w:World) (v:Value) (x:α) (F:aq):Prop:=∃u,v=u/\E.L8 w [u] x F
def Re {α:Type} (p:α->Bool) (xs:List α):Int:=if xs.any p then (xs.findIdx p:Int) else -1
theorem Oh {α:Type} {p:α->Bool} {xs:List α} {k:Nat} (hk:k < xs.length) (h0:∀j,j < k->∀hj:j < xs.length,p xs[j]=false) (h1:p xs[k]=true):Re p xs=k:=by
 have h:xs.findIdx p=k:=by
  rw [List.findIdx_eq hk];exact ⟨h1,fun j hj=>h0 j hj EZ⟩
 have ha:xs.any p=true:=cJ.2 ⟨xs[k],aB _,h1⟩;unfold Re;rw [aJ ha,h]
theorem M2 {α:Type} {p:α->Bool} {xs:List α} (h0:∀j,∀hj:j < xs.length,p xs[j]=false):Re p xs=-1:=by
 unfold Re;rw [aC];intro ha;obtain ⟨x,hx,hp⟩:=cJ.1 ha;obtain ⟨i,hi,rfl⟩:=bi hx;rw [h0 i hi] at hp;simp at hp
theorem Sw {α:Type} (p:α->Bool) (xs:List α):decide (0<=Re p xs)=xs.any p:=by
 unfold Re;cases h:xs.any p <;> simp
def Ov (p:Nat->Bool) (n:Nat):Bool:=(List.range n).all p
theorem Kd {p:Nat->Bool} {n:Nat} (h:∀i,i < n->p i=true):Ov p n=true:=by simp [Ov];exact h
theorem Lr {p:Nat->Bool} {n k:Nat} (hk:k < n) (h:p k=false):Ov p n=false:=by
 rw [Bool.eq_false_iff];intro ha;simp [Ov] at ha;rw [ha k hk] at h;simp at h
theorem Jp {p:Nat->Bool} {n:Nat} (h:Ov p n=true) (i:Nat) (hi:i < n):p i=true:=by simp [Ov] at h;exact h i hi
theorem U4 {p:Nat->Bool} {k:Nat} (h:∀i,i < k->p i=true) (hk:p k=true):∀i,i < k+1->p i=true:=fun i hi=>by
 rcases bc (cL hi) with h'|rfl
 ·exact h i h'
 ·exact hk
theorem Xn {P:Program} {f:FuncId} {args:Array Value} {w:World} {n:Nat} {v:Value}
  (h:Calls P f args (w.drewN n) fun e w'=>e=.returned v/\w.drewN n=w'):Calls P f args (w.drewN n) fun e w''=>e=.returned v/\∃m,w''=w.drewN m :=
 h.mono fun _ _ ⟨he,hm⟩=>⟨he,n,hm.symm⟩
def Bht {α:Type} (f:α->Nat) (xs:List α) (k:Nat):Nat:=((xs.take k).map f).sum
def Arw {α:Type} (mk:Int->α->α) (cnt:α->Nat):Int->List α->List α
 | _,[]=>[]
 | k,x::r=>mk k x::Arw mk cnt (k+cnt x) r
def Bhl {α:Type} (cnt:α->Nat) (xs:List α):Nat:=(xs.map cnt).sum
def One {α:Type} (E:Bt α):Prop:=∀{w cs x F},E.L8 w cs x F->∀u∈cs,u.oneCell'=true
theorem C6:One Bc:=fun h u hu=>by obtain ⟨rfl,_⟩:=h;simp at hu;subst hu;rfl
theorem Do:One A8:=fun h u hu=>by obtain ⟨rfl,_⟩:=h;simp at hu;subst hu;rfl
theorem Sl.one {α:Type} {E:Bt α} {w v} {xs:List α} {F} (h:Sl E w v xs F):v.oneCell'=true:=by obtain ⟨a,c,rfl,_⟩:=h;rfl
theorem Ow.one {α:Type} {E:Bt α} {t w v} {xs:List α} {F} (h:Ow E t w v xs F):v.oneCell'=true:=by obtain ⟨a,c,rfl⟩:=h.slice;rfl
theorem Bb8 {α:Type} (E:Bt α) (hz:0 < E.sz):One (Oa E hz):=fun h u hu=>by obtain ⟨v,rfl,h⟩:=h;simp at hu;subst hu;exact h.one
theorem Cz.one' {α:Type} {E:Bt α} (hE:One E) {w:World}:∀{xs:List α} {cs:am} {G:aq},Cz E w cs xs G->∀u∈cs,u.oneCell'=true
 | [],_,_,h=>by simp [h.1]
 | x::r,_,_,h=>by
  obtain ⟨c1,c2,F1,F2,rfl,rfl,h1,h2⟩:=h;intro u hu;rcases aK.1 hu with hu|hu
  ·exact hE h1 u hu
  ·exact h2.one' hE u hu
theorem N4.flat {α:Type} {E:Bt α} {w:World} {b:Nat}:∀{xs:List α} {off:Nat} {F:aq},N4 E w b off xs F->∃cs,Cz E w cs xs F/\∀j u,cs[j]?=some u->w.cell? ⟨b,off+j,none⟩=some u
 | [],off,_,h=>⟨[],⟨rfl,h⟩,fun j u hu=>by simp at hu⟩
 | x::r,off,_,h=>by
  obtain ⟨c1,F1,F2,rfl,h1,hc,h2⟩:=h;obtain ⟨c2,hf,hc2⟩:=h2.flat;have hl:=E.len h1;refine ⟨c1++c2,⟨c1,c2,F1,F2,rfl,rfl,h1,hf⟩,fun j u hu=>?_⟩;rcases d9 j c1.length with hj|hj
  ·rw [bB hj] at hu;rw [hc j EZ];exact hu
  ·rw [bX hj] at hu;have:=hc2 _ _ hu;rw [<-this];congr 2;omega
theorem Cz.cells {α:Type} {E:Bt α} {w:World} {b:Nat}:∀{xs:List α} {cs:am} {off:Nat} {F:aq},Cz E w cs xs F->(∀j u,cs[j]?=some u->w.cell? ⟨b,off+j,none⟩=some u)->N4 E w b off xs F
 | [],_,off,_,h,_=>h.2
 | x::r,_,off,_,h,hc=>by
  obtain ⟨c1,c2,F1,F2,rfl,rfl,h1,h2⟩:=h;have hl:=E.len h1;refine ⟨c1,F1,F2,rfl,h1,fun j hj=>?_,h2.cells fun j u hu=>?_⟩
  ·have:j < c1.length:=EZ
   rw [aD this];exact hc j _ (by rw [bB this,aD this])
  ·have:=hc (c1.length+j) u KE;rw [<-this];congr 2;omega
def Hd (F:aq):Prop:=∀g G,F=g::G->g ∉ G
theorem Hd.of {F:aq} (h:F.Nodup):Hd F:=fun g G e=>by subst e;simp at h;exact h.1
theorem Ow.owns {α:Type} {E:Bt α} {t w v} {xs:List α} {F} (h:Ow E t w v xs F):∃cs G,w.ownsRow 0 t E.sz v xs.length cs/\Cz E w cs xs G/\F=v.ownBlock.toList++G:=by
 rcases h with ⟨rfl,rfl,rfl⟩|⟨g,cap,cs,rest,G,rfl,hr,h1,h2,h3,hf,rfl⟩
 ·exact ⟨[],[],⟨FB,.inl ⟨rfl,rfl⟩⟩,⟨rfl,rfl⟩,rfl⟩
 ·refine ⟨cs,G,⟨hf.len,.inr ⟨g,cap,(cs++rest).toArray,rfl,aG _,hr,h1,h2,by simp [h3],?_⟩⟩,hf,rfl⟩;rw [<-hf.len];simp
theorem Ow.ofOwns {α:Type} {E:Bt α} {t w v n} {cs:am} {xs:List α} {G} (h:w.ownsRow 0 t E.sz v n cs) (hf:Cz E w cs xs G) (hn:n=xs.length):Ow E t w v xs (v.ownBlock.toList++G):=by
 subst hn;obtain ⟨hl,h⟩:=h;rcases h with ⟨rfl,h0⟩|⟨g,cap,cur,rfl,_,hg,h1,h2,h3,h4⟩
 ·have:xs=[]:=bF h0;subst this;exact .inl ⟨rfl,rfl,by rw [hf.2];rfl⟩
 ·refine .inr ⟨g,cap,cs,cur.toList.drop cs.length,G,rfl,?_,h1,h2,?_,hf,rfl⟩
  ·have:cs++cur.toList.drop cs.length=cur.toList:=by
    rw [hl,<-h4];simp
   rw [this];exact hg
  ·rw [<-h3];simp;rw [hl];have:=cI E.sz h1;omega
theorem An5 {w:World} {t v n sz} {cs:am} (h:w.ownsRow 0 t sz v n cs):∀b,v.ownBlock=some b->b < w.heap.size:=by
 intro b hb;rcases h.2 with ⟨rfl,_⟩|⟨g,cap,cur,rfl,_,hg,_⟩
 ·cases hb
 ·cases hb;rcases d9 g w.heap.size with hlt|hge
  ·exact hlt
  ·rw [ex hge] at hg;cases hg
section
variable {P:Program} {α:Type} {E:Bt α}
structure Apd (E:Bt α) (e:TypeId) (w:World) (v:Value) (xs ys:List α) (F Fy:aq) (v':Value) (w':World) (F':aq):Prop where
 ow:Ow E e w' v' (xs++ys) F'
 hd:Hd F'
 Ax4:F.Nodup->Fy.Nodup->(∀b∈Fy,b ∉ F)->F'.Nodup
 mem:∀b∈F',b∈F\/b∈Fy\/b=w.heap.size
 I0:Ei F w w'
 Ars:Ei v.ownBlock.toList w w'
 val:∃a cap,v'=ab a (xs.length+ys.length) cap
 Aqo:v'.ownBlock=v.ownBlock\/v'.ownBlock=some w.heap.size
 Bhn:∀Gx,F=v.ownBlock.toList++Gx->F'=v'.ownBlock.toList++(Gx++Fy)
theorem Awi {e:TypeId} {w:World} {v:Value} {xs ys:List α} {F Fy:aq} {v' w'} {cs news G} (hown:w.ownsRow 0 e E.sz v xs.length cs) (hf:Cz E w cs xs G) (hF:F=v.ownBlock.toList++G) (hd:Hd F)
  (hfy:Cz E w news ys Fy) (hdis:∀b∈Fy,v.ownBlock≠some b) (h':w'.ownsRow 0 e E.sz v' (xs.length+ys.length) (cs++news)) (hg:w.grownBy w' v.ownBlock)
  (hb:v'.ownBlock=v.ownBlock\/v'.ownBlock=some w.heap.size) (hs:∃a cap,v'=ab a (xs.length+ys.length) cap):∃F',Apd E e w v xs ys F Fy v' w' F':=by
 have hGn:∀b∈G,v.ownBlock≠some b:=fun b hb e=>by
  rw [e] at hF;exact hd b G hF hb
 have hfr:∀b,b < w.heap.size->v.ownBlock≠some b->w'.heap[b]?=w.heap[b]?:=fun b hb hn=>hg.block b hb (fun e=>hn e.symm);have hfl:Cz E w' (cs++news) (xs++ys) (G++Fy):=(hf.frame fun b hb=>hfr b (hf.lt b hb) (hGn b hb)).append (hfy.frame fun b hb=>hfr b (hfy.lt b hb) (hdis b hb));have hvl:=An5 hown;have hhead:∀g,v'.ownBlock=some g->g ∉ G/\g ∉ Fy:=fun g e=>by
  rcases hb with hb|hb
  ·rw [hb] at e;exact ⟨fun hm=>hGn g hm e,fun hm=>hdis g hm e⟩
  ·rw [hb] at e;cases e;exact ⟨fun hm=>Nat.lt_irrefl _ (hf.lt _ hm),fun hm=>Nat.lt_irrefl _ (hfy.lt _ hm)⟩
 refine ⟨v'.ownBlock.toList++(G++Fy),Ow.ofOwns h' hfl FB,?_,?_,?_,?_,⟨hg.os,hg.tape,hg.output,hg.size,fun k hk hm=>hfr k hk fun e=>hm (by rw [e];simp)⟩,hs,hb,fun Gx e=>by rw [hF] at e;rw [List.append_cancel_left e]⟩
 ·intro g G' e;cases hv:v'.ownBlock with
  | none =>
   have hxy:xs++ys=[]:=by
    rcases h'.2 with ⟨rfl,h0⟩|⟨g,cap,cur,rfl,_⟩
    ·exact bF IN
    ·simp [Value.ownBlock] at hv
   rw [hxy] at hfl;rw [hfl.2,hv] at e;simp at e
  | some g2 =>
   rw [hv] at e;simp at e;obtain ⟨rfl,rfl⟩:=e;have:=hhead g2 hv;simp [this]
 ·intro h1 h2 h3;subst hF;have hn:(G++Fy).Nodup:=by
   rw [bN] at h1 ⊢;exact ⟨h1.2.1,h2,fun a ha b hb e=>h3 b hb (by rw [<-e];simp [ha])⟩
  cases hv:v'.ownBlock with
  | none=>simpa using hn
  | some g2=>have:=hhead g2 hv;simp only [Option.toList_some,dG,dl,aK];exact ⟨by simp [this],hn⟩
 ·intro b hm;simp at hm;rcases hm with hm|hm|hm
  ·rcases hb with hb|hb
   ·rw [hb] at hm;left;rw [hF];simp [hm]
   ·rw [hb] at hm;cases hm;simp
  ·left;rw [hF];simp [hm]
  ·simp [hm]
 ·exact ⟨hg.os,hg.tape,hg.output,hg.size,fun k hk hm=>hfr k hk fun e=>hm (by rw [hF,e];simp)⟩
theorem Ara (hone:One E) (hsz:0 < E.sz) {o:Oper} {a:Act} {K:Act->World->Prop} {Q:Exit->Act->World->Prop} {w:World} (s x:Operand) (t:TypeId)
  (ho:o.op=.call { callee:=.builtin .append,args:=#[s,x],argTypes:=#[t,t] }) (e:TypeId) (z:Value) (bytes:Nat) (ht:P.underlying t=some (.slice e))
  (hinfo:(P.info? e).map (fun i=>(i.zero,i.size,i.bytes))=some (some z,E.sz,bytes)) (hzs:z.cells.size=E.sz)
  (v:Value) (xs:List α) (F:aq) (hs:a.eval s=v) (hown:Ow E e w v xs F) (hd:Hd F)
  (ao:aj) (ys:List α) (c:Nat) (hx:a.eval x=ab ao ys.length c) (news:am) (Fy:aq) (hfy:Cz E w news ys Fy)
  (hsrc:(ao=none/\c=0/\ys=[])\/∃ad,ao=some ad/\∀j u,news[j]?=some u->w.cell? (ad.add j)=some u)
  (hdis:∀b∈Fy,v.ownBlock≠some b) (h63:xs.length+ys.length<=maxLen) (hbytes:(xs.length+ys.length) * bytes<=140737488355328)
  (h:∀v' w' F',Apd E e w v xs ys F Fy v' w' F'->K (a.put o.dst v') w'):o.wp P a w K Q:=by
 obtain ⟨i,hi,hzz⟩:=cw.1 hinfo;simp only [Prod.mk.injEq] at hzz;obtain ⟨hz,hsize,hby⟩:=hzz;obtain ⟨cs,G,hrow,hf,hF⟩:=hown.owns;rcases hsrc with ⟨rfl,rfl,rfl⟩|⟨ad,rfl,hnews⟩
 ·have hn0:news=[]:=hfy.1;subst hn0;unfold Oper.wp execOp;simp only [ho,resolve,invoke,builtin,Sem.run_bind,Sem.run_pure,Result.andThen_ok,cW,cB,da,hs,hx];have hrun:=run_append_owned_none (P:=P) w 0 t o.type e i E.sz ht hi _ xs.length cs hrow;rw [show ([]:List α).length=0 from rfl,hrun];obtain ⟨F',hA⟩:=Awi (ys:=[]) hrow hf hF hd hfy hdis (by simpa using hrow) (World.grownBy.refl _ _) (.inl rfl) (by obtain ⟨a,c,rfl⟩:=hown.slice;exact ⟨a,c,FB⟩);exact h _ _ _ hA
 ·obtain ⟨v',w',hr,h2,h3,h4,h5⟩:=run_append_own_at (P:=P) w 0 t o.type e i z E.sz bytes ht hi hz hsize hby hzs hsz v xs.length cs hrow ad ys.length c news hfy.len hnews (hfy.one' hone) h63 hbytes (aG _);unfold Oper.wp execOp;simp only [ho,resolve,invoke,builtin,Sem.run_bind,Sem.run_pure,Result.andThen_ok,cW,cB,da,hs,hx,hr];have hs2:∃a cap,v'=ab a (xs.length+ys.length) cap:=by
   rcases h2.2 with ⟨rfl,h0⟩|⟨g,cap,cur,rfl,_⟩
   ·exact ⟨none,0,by rw [h0]⟩
   ·exact ⟨_,_,rfl⟩
  obtain ⟨F',hA⟩:=Awi (ys:=ys) hrow hf hF hd hfy hdis h2 h3 h5 hs2;exact h _ _ _ hA
theorem Oz (hone:One E) (hsz:0 < E.sz) {ops:Array Oper} {rest:List Oper} {o:Oper} {a:Act} {Q:Exit->Act->World->Prop} {w:World} (hgd:o.guard=none) (s x:Operand) (t:TypeId)
  (ho:o.op=.call { callee:=.builtin .append,args:=#[s,x],argTypes:=#[t,t] }) (e:TypeId) (z:Value) (bytes:Nat) (ht:P.underlying t=some (.slice e))
  (hinfo:(P.info? e).map (fun i=>(i.zero,i.size,i.bytes))=some (some z,E.sz,bytes)) (hzs:z.cells.size=E.sz)
  (v:Value) (xs:List α) (F:aq) (hs:a.eval s=v) (hown:Ow E e w v xs F) (hd:Hd F)
  (ao:aj) (ys:List α) (c:Nat) (hx:a.eval x=ab ao ys.length c) (news:am) (Fy:aq) (hfy:Cz E w news ys Fy)
  (hsrc:(ao=none/\c=0/\ys=[])\/∃ad,ao=some ad/\∀j u,news[j]?=some u->w.cell? (ad.add j)=some u)
  (hdis:∀b∈Fy,v.ownBlock≠some b) (h63:xs.length+ys.length<=maxLen) (hbytes:(xs.length+ys.length) * bytes<=140737488355328)
  (h:∀v' w' F',Apd E e w v xs ys F Fy v' w' F'->wpList P ops Q rest (a.put o.dst v') w'):wpList P ops Q (o::rest) a w :=
 wpList_plain hgd fun _ hK=>Ara hone hsz s x t ho e z bytes ht hinfo hzs v xs F hs hown hd ao ys c hx news Fy hfy hsrc hdis h63 hbytes fun v' w' F' hA=>hK _ _ (h v' w' F' hA)
theorem Aop (hone:One E) (hsz:0 < E.sz) {ops:Array Oper} {o:Oper} {a:Act} {K:Act->World->Prop} {Q:Exit->Act->World->Prop} {Z:Prop} {w:World} (hgd:o.guard=none) (s x:Operand) (t:TypeId)
  (ho:o.op=.call { callee:=.builtin .append,args:=#[s,x],argTypes:=#[t,t] }) (e:TypeId) (z:Value) (bytes:Nat) (ht:P.underlying t=some (.slice e))
  (hinfo:(P.info? e).map (fun i=>(i.zero,i.size,i.bytes))=some (some z,E.sz,bytes)) (hzs:z.cells.size=E.sz)
  (v:Value) (xs:List α) (F:aq) (hs:a.eval s=v) (hown:Ow E e w v xs F) (hd:Hd F)
  (ao:aj) (ys:List α) (c:Nat) (hx:a.eval x=ab ao ys.length c) (news:am) (Fy:aq) (hfy:Cz E w news ys Fy)
  (hsrc:(ao=none/\c=0/\ys=[])\/∃ad,ao=some ad/\∀j u,news[j]?=some u->w.cell? (ad.add j)=some u)
  (hdis:∀b∈Fy,v.ownBlock≠some b) (h63:xs.length+ys.length<=maxLen) (hbytes:(xs.length+ys.length) * bytes<=140737488355328)
  (h:∀v' w' F',Apd E e w v xs ys F Fy v' w' F'->K (a.put o.dst v') w'):if Region.wanted o (yielded ops a.tmps)=true then Oper.wp P o a w K Q else Z:=by
 have hw:Region.wanted o (yielded ops a.tmps)=true:=by simp [Region.wanted,hgd]
 rw [aJ hw];exact Ara hone hsz s x t ho e z bytes ht hinfo hzs v xs F hs hown hd ao ys c hx news Fy hfy hsrc hdis h63 hbytes h
end
theorem Ow.own_mem {α:Type} {E:Bt α} {t w v} {xs:List α} {F} (h:Ow E t w v xs F):∀b,v.ownBlock=some b->b∈F:=fun b hb=>by
 obtain ⟨cs,G,_,_,rfl⟩:=h.owns;simp [hb]
def Bfz {α:Type} (E:Bt α) (x:α) (w:World) (e:Ending) (w':World):Prop :=
 ∃v F,e=.returned v/\Ro E w' v x F/\(∀b∈F,w.heap.size<=b)/\Below w.heap.size w w'
theorem Ro.weak {α:Type} {O R:Bt α} (h:Mq O R) {w v x F} (ho:Ro O w v x F):∃F',(∀b∈F',b∈F)/\Ro R w v x F':=by
 obtain ⟨cs,hv,hx⟩:=ho;obtain ⟨F',h1,h2⟩:=h.L8 hx;exact ⟨F',h1,cs,hv,h2⟩
theorem Ow.empty {α:Type} {E:Bt α} {t:TypeId} {w:World} {g:Nat} (h:Ib w g t []):Ow E t w (ab (some ⟨g,0,none⟩) 0 0) ([]:List α) [g] :=
 .inr ⟨g,0,[],[],[],rfl,FJ,FB,FB,FB,⟨rfl,rfl⟩,rfl⟩
theorem Hd.one (g:Nat):Hd [g]:=fun a G e=>by cases e;simp
theorem Hd.nil:Hd []:=fun a G e=>by cases e
theorem Sl.src {α:Type} {E:Bt α} {w:World} {v:Value} {xs:List α} {F} (h:Sl E w v xs F):∃ao c news Fy,v=ab ao xs.length c/\xs.length<=maxLen/\Cz E w news xs Fy/\(∀b∈Fy,b∈F) /\
  ((ao=none/\c=0/\xs=[])\/∃ad,ao=some ad/\∀j u,news[j]?=some u->w.cell? (ad.add j)=some u):=by
 obtain ⟨a,cap,rfl,hl,⟨rfl,rfl,h0⟩|⟨b,off,F',rfl,hne,rfl,hc⟩⟩:=h
 ·refine ⟨a,cap,[],[],rfl,FB,⟨rfl,rfl⟩,FB,?_⟩;cases a with
  | none=>exact .inl ⟨rfl,h0 rfl,rfl⟩
  | some ad=>exact .inr ⟨ad,rfl,fun j u hu=>by simp at hu⟩
 ·obtain ⟨cs,hf,hcs⟩:=hc.flat;refine ⟨_,cap,cs,F',rfl,EZ,hf,fun b hb=>by simp [hb],.inr ⟨_,rfl,fun j u hu=>?_⟩⟩;rw [<-hcs j u hu];unfold Addr.add;split <;> simp_all
theorem Sl.takeS {α:Type} {E:Bt α} {w:World} {a:aj} {n cap:Nat} {xs:List α} {F} (h:Sl E w (ab a n cap) xs F) (k:Nat) (hk:k<=xs.length):∃F',(∀b∈F',b∈F)/\Sl E w (ab a k cap) (xs.take k) F':=by
 obtain ⟨a',cap',hv,hl,h⟩:=h;cases hv;have hlen:(xs.take k).length=k:=FF
 rcases h with ⟨rfl,rfl,h0⟩|⟨b,off,F',rfl,hne,rfl,hc⟩
 ·simp at hk;subst hk;exact ⟨[],FB,a,cap,FB,⟨FB,hl.2⟩,.inl ⟨FB,rfl,h0⟩⟩
 ·by_cases hk0:k=0
  ·subst hk0;exact ⟨[],FB,some ⟨b,off,none⟩,cap,FB,⟨FB,hl.2⟩,.inl ⟨FB,rfl,fun e=>by cases e⟩⟩
  ·obtain ⟨cs,hf,hcs⟩:=hc.flat;have e:xs=xs.take k++xs.drop k:=FB
   rw [e] at hf;obtain ⟨c1,c2,G1,G2,rfl,rfl,h1,h2⟩:=hf.split;refine ⟨b::G1,by intro x hx;simp at hx ⊢;rcases hx with hx|hx <;> simp [hx],_,cap,by rw [hlen],by rw [hlen];omega,.inr ⟨b,off,G1,rfl,fun e=>by rw [e] at hlen;simp at hlen;omega,rfl,h1.cells fun j u hu=>hcs j u ?_⟩⟩;have hj:j < c1.length:=by
    rcases d9 j c1.length with h|h
    ·exact h
    ·rw [br h] at hu;cases hu
   rw [bB hj];exact hu
def Aao {α:Type} (E:Bt α):Prop:=∀{w cs x F},E.L8 w cs x F->F=[]
theorem Ek:Aao Bc:=fun h=>h.2
theorem Hv:Aao A8:=fun h=>h.2.2
theorem Cz.scal {α:Type} {E:Bt α} (hE:Aao E) {w:World}:∀{xs:List α} {cs:am} {G:aq},Cz E w cs xs G->G=[]
 | [],_,_,h=>h.2
 | x::r,_,_,h=>by
  obtain ⟨c1,c2,F1,F2,rfl,rfl,h1,h2⟩:=h;rw [hE h1,h2.scal hE];rfl
theorem Ow.scal {α:Type} {E:Bt α} (hE:Aao E) {t w v} {xs:List α} {F} (h:Ow E t w v xs F):F=v.ownBlock.toList:=by
 obtain ⟨cs,G,_,hf,rfl⟩:=h.owns;rw [hf.scal hE,bg]
def Mix {α:Type} (O R:Bt α) (t:TypeId) (B1 B0:Nat) (w:World) (v:Value) (xs:List α) (k:Nat):Prop :=
 (v=ab none 0 0/\xs=[])\/∃g cap c1 c2 rest F G,v=ab (some ⟨g,0,none⟩) xs.length cap/\Ib w g t (c1++c2++rest)/\xs.length<=cap/\cap<=maxLen/\c1.length+c2.length+rest.length=cap * O.sz /\
  Cz O w c1 (xs.take k) F/\Cz R w c2 (xs.drop k) G/\(g::F).Nodup/\(∀b∈g::F,B0<=b)/\∀b∈G,b < B1
section
variable {α:Type} {O R:Bt α} {t:TypeId} {B1 B0:Nat} {w:World} {v:Value} {xs:List α}
theorem Mix.start (hsz:R.sz=O.sz) {F:aq} (h:Ow R t w v xs F) (h1:∀b,v.ownBlock=some b->B0<=b) (h2:∀b∈F,v.ownBlock=some b\/b < B1) (hd:Hd F):Mix O R t B1 B0 w v xs 0:=by
 rcases h with ⟨rfl,rfl,_⟩|⟨g,cap,cs,rest,G,rfl,hr,h3,h4,h5,hf,rfl⟩
 ·exact .inl ⟨rfl,rfl⟩
 ·refine .inr ⟨g,cap,[],cs,rest,[],G,rfl,GK,h3,h4,by simpa [<-hsz] using h5,⟨rfl,FB⟩,by simpa using hf,FB,by simpa using h1 g rfl,fun b hb=>?_⟩;rcases h2 b FG with e|e
  ·cases e;exact absurd hb (hd g G rfl)
  ·exact e
theorem Mix.done (h:Mix O R t B1 B0 w v xs xs.length):∃F,Ow O t w v xs F/\F.Nodup/\∀b∈F,B0<=b:=by
 rcases h with ⟨rfl,rfl⟩|⟨g,cap,c1,c2,rest,F,G,rfl,hr,h3,h4,h5,hf,hf2,hn,hb,_⟩
 ·exact ⟨[],.inl ⟨rfl,rfl,rfl⟩,FB,FB⟩
 ·have:c2=[]:=by simp at hf2;exact hf2.1
  subst this;exact ⟨g::F,.inr ⟨g,cap,c1,rest,F,rfl,GK,h3,h4,by simpa using h5,by simpa using hf,rfl⟩,hn,hb⟩
theorem Mix.frame {w':World} {k:Nat} (h:Mix O R t B1 B0 w v xs k) (hb:∀b,b < w.heap.size->b < B1\/B0<=b->w'.heap[b]?=w.heap[b]?):Mix O R t B1 B0 w' v xs k:=by
 rcases h with h|⟨g,cap,c1,c2,rest,F,G,hv,hr,h3,h4,h5,hf,hf2,hn,hb1,hb2⟩
 ·exact .inl h
 ·exact .inr ⟨g,cap,c1,c2,rest,F,G,hv,hr.I0 (hb g hr.lt (.inr (hb1 g FB))),h3,h4,h5,hf.frame fun b h=>hb b (hf.lt b h) (.inr (hb1 b JR)),hf2.frame fun b h=>hb b (hf2.lt b h) (.inl (hb2 b h)),hn,hb1,hb2⟩
theorem Mix.setFar {k:Nat} (h:Mix O R t B1 B0 w v xs k) {p:Addr} (h1:B1<=p.block) (h2:p.block < B0) (u:Value):Mix O R t B1 B0 (w.setCell p u) v xs k :=
 h.frame fun b _ hb=>Below.heap_setCell _ _ _ _ EZ
theorem Mix.below {w':World} {k:Nat} (h:Mix O R t B1 B0 w v xs k) (hb:Below w.heap.size w w'):Mix O R t B1 B0 w' v xs k:=h.frame fun b h _=>hb.block b h
theorem Mix.slice {k:Nat} (h:Mix O R t B1 B0 w v xs k):∃a cap,v=ab a xs.length cap:=by
 rcases h with ⟨rfl,rfl⟩|⟨g,cap,c1,c2,rest,F,G,rfl,_⟩
 ·exact ⟨none,0,rfl⟩
 ·exact ⟨_,_,rfl⟩
theorem Mix.at {k:Nat} (h:Mix O R t B1 B0 w v xs k) (hsz:R.sz=O.sz) (hk:k < xs.length) (hB:B0<=w.heap.size) (h01:B1<=B0) :
  ∃g cap A c B Fk,v=ab (some ⟨g,0,none⟩) xs.length cap/\B0<=g/\Ib w g t (A++c++B)/\A.length=k * O.sz/\c.length=O.sz/\R.L8 w c xs[k] Fk/\(∀b∈Fk,b < B1) /\
   ∀w' c' F',Ib w' g t (A++c'++B)->O.L8 w' c' xs[k] F'->F'.Nodup->(∀b∈F',w.heap.size<=b)->(∀b,b < w.heap.size->b≠g->w'.heap[b]?=w.heap[b]?)->Mix O R t B1 B0 w' v xs (k+1):=by
 rcases h with ⟨_,rfl⟩|⟨g,cap,c1,c2,rest,F,G,rfl,hr,h3,h4,h5,hf,hf2,hn,hb1,hb2⟩
 ·simp at hk
 ·rw [bS hk] at hf2;obtain ⟨c,c3,G1,G2,rfl,rfl,h6,h7⟩:=hf2;have hc1:c1.length=k * O.sz:=by rw [hf.len,aP,cZ EZ]
  have hlc:=R.len h6;refine ⟨g,cap,c1,c,c3++rest,G1,rfl,hb1 g FB,GK,hc1,by rw [<-hsz];exact hlc,h6,fun b hb=>hb2 b FG,fun w' c' F' hr' h8 hn' hF' hk'=>?_⟩;have hlc':=O.len h8;have hne:∀b∈F++G2,b < w.heap.size/\b≠g:=fun b hb=>by
   rcases aK.1 hb with hb|hb
   ·refine ⟨hf.lt b hb,fun e=>?_⟩;subst e;simp at hn;exact hn.1 hb
   ·have:=hb2 b FG;have:=hb1 g FB;exact ⟨EZ,EZ⟩
  refine .inr ⟨g,cap,c1++c',c3,rest,F++F',G2,rfl,by simpa using hr',h3,h4,?_,?_,?_,?_,?_,fun b hb=>hb2 b FG⟩
  ·simp only [aA] at h5 ⊢;omega
  ·rw [aO hk];exact (hf.frame fun b hb=>hk' b (hne b FG).1 (hne b FG).2).append (Cz.one h8)
  ·exact h7.frame fun b hb=>hk' b (hne b FG).1 (hne b FG).2
  ·have hg:=hr.lt;simp only [dl,aK,not_or,bN] at hn ⊢;exact ⟨⟨hn.1,fun hm=>by have:=hF' g hm;omega⟩,hn.2,hn',fun a ha b hb e=>by have:=hf.lt a ha;have:=hF' b hb;omega⟩
  ·intro b hb;simp at hb;rcases hb with rfl|hb|hb
   ·exact hb1 b FB
   ·exact hb1 b FG
   ·have:=hF' b hb;omega
end
theorem Ro.I0 {α:Type} {E:Bt α} {w w':World} {v x F K} (h:Ro E w v x F) (hk:Ei K w w') (hd:∀b∈F,b ∉ K):Ro E w' v x F:=by
 obtain ⟨cs,hv,h⟩:=h;exact ⟨cs,hv,E.frame h fun b hb=>hk.block b (E.lt h b hb) (hd b hb)⟩
theorem Ro.lt {α:Type} {E:Bt α} {w:World} {v x F} (h:Ro E w v x F):∀b∈F,b < w.heap.size:=by
 obtain ⟨cs,hv,h⟩:=h;exact E.lt h
theorem Ro.drewN {α:Type} {E:Bt α} {w:World} {v x F} (h:Ro E w v x F) (n:Nat):Ro E (w.drewN n) v x F:=by
 obtain ⟨cs,hv,h⟩:=h;exact ⟨cs,hv,E.frame h fun _ _=>rfl⟩
theorem Sl.drewN {α:Type} {E:Bt α} {w:World} {v} {xs:List α} {F} (h:Sl E w v xs F) (n:Nat):Sl E (w.drewN n) v xs F:=h.frame fun _ _=>rfl
theorem Sl.I0 {α:Type} {E:Bt α} {w w':World} {v} {xs:List α} {F K} (h:Sl E w v xs F) (hk:Ei K w w') (hd:∀b∈F,b ∉ K) (hz:0 < E.sz:=by decide):Sl E w' v xs F :=
 h.frame fun b hb=>hk.block b (h.lt hz b hb) (hd b hb)
theorem Ow.drewN {α:Type} {E:Bt α} {t:TypeId} {w:World} {v} {xs:List α} {F} (h:Ow E t w v xs F) (n:Nat):Ow E t (w.drewN n) v xs F:=h.frame fun _ _=>rfl
theorem Ib.drewN {w g t cs} (h:Ib w g t cs) (n:Nat):Ib (w.drewN n) g t cs:=h
def E8 (lo x hi:Int):Bool:=decide (lo<=x) && decide (x<=hi)
theorem Cn {a b:Bool} (h:a=b):Ending.returned (.bool a)=.returned (.bool b):=by rw [h]
theorem Aj9 (s:au) (k:Nat) (h:k < s.size):s.data.toList.take (k+1)=s.data.toList.take k++[s[k]]:=by
 rw [aO FJ];rfl
theorem Aot (s:au) (k:Nat) (h:¬k < s.size):s.data.toList.take k=s.data.toList:=aV FF
theorem Aeu (s:au) (k:Nat) (h:k < s.size):s.data.toList.drop k=s[k]::s.data.toList.drop (k+1):=by
 rw [bS FJ];rfl
theorem Aat (s:au) (k:Nat) (h:¬k < s.size):s.data.toList.drop k=[]:=List.drop_of_length_le FF
theorem Az4 {a b:UInt8}:((a.toNat:Int) == (b.toNat:Int))=(a == b):=by
 rw [cG];simp [<-UInt8.toNat_inj];omega
theorem H1 (x lo hi:Int) (w:World) :
  Calls prog 106 #[aa x,aa lo,aa hi] w fun e w'=>e=.returned (.bool (E8 lo x hi))/\w=w':=by
 go_enter func106,ntmps106
 go_wp2
 all_goals go_ret
 all_goals exact ⟨Cn (by simp [E8, *] <;> omega),rfl⟩
theorem Ka (x lo hi:Int) (w:World) :
  Calls prog 130 #[aa x,aa lo,aa hi] w fun e w'=>e=.returned (.bool (E8 lo x hi))/\w=w':=by
 go_enter func130,ntmps130
 go_wp2
 all_goals go_ret
 all_goals exact ⟨Cn (by simp [E8, *] <;> omega),rfl⟩
def Jz (c:UInt8) (l:List UInt8):Bool:=l.any (· == c)
theorem Ap2 (s:au) (c:UInt8) (w:World) (hs:s.size<=maxLen) :
  Calls prog 68 #[af s,.int .u8 c.toNat] w fun e w'=>e=.returned (.bool (Jz c s.data.toList))/\w=w':=by
 unfold maxLen at hs
 go_enter func68,ntmps68
 go_wp2
 go_loop [5] (fun i=>∃k:Nat,k<=s.size/\i=aa k/\Hid (Jz c s.data.toList=Jz c (s.data.toList.drop k))) (fun i=>s.size - (intOf i).toNat)
 case atStart=>exact ⟨0,aG _,rfl,rfl⟩
 case round =>
  obtain ⟨k,hk,rfl,hz⟩:=hrel;by_cases hlt:k < s.size
  ·have hz:=Lib.hid (hz.out.trans (by rw [Aeu s k hlt];rfl:_=(s[k] == c || Jz c (s.data.toList.drop (k+1)))));by_cases he:((s[k].toNat:Int) == (c.toNat:Int))=true
   ·go_wp2
    go_ret
    rw [Az4] at he;exact ⟨Cn (by rw [hz.out,he];rfl),rfl⟩
   ·have he:=eq_false_of_ne_true he
    go_wp2
    go_round
    case rel=>rw [Az4] at he;exact ⟨k+1,EZ,HQ,by refine Lib.hid ?_;rw [hz.out,he];rfl⟩
    case measure=>simp [intOf];omega
  ·go_wp2
   go_ret
   exact ⟨Cn (by rw [hz.out,Aat s k hlt];rfl),rfl⟩
def Pn (b:UInt8):Bool:=E8 32 b.toNat 126 && !(b == 35)
def Ip (l:List UInt8):Bool:=l.all Pn
theorem Ae5 {a:UInt8}:((a.toNat:Int) == 35)=(a == 35):=Az4 (b:=35)
theorem Am6 (s:au) (w:World) (hs:s.size<=maxLen) :
  Calls prog 107 #[af s] w fun e w'=>e=.returned (.bool (Ip s.data.toList))/\w=w':=by
 unfold maxLen at hs
 go_enter func107,ntmps107
 go_wp2
 go_loop [6] (fun i=>∃k:Nat,k<=s.size/\i=aa k/\Hid (Ip s.data.toList=Ip (s.data.toList.drop k))) (fun i=>s.size - (intOf i).toNat)
 case atStart=>exact ⟨0,aG _,rfl,rfl⟩
 case round =>
  obtain ⟨k,hk,rfl,hz⟩:=hrel;by_cases hlt:k < s.size
  ·have hz:=Lib.hid (hz.out.trans (by rw [Aeu s k hlt];rfl:_=(Pn s[k] && Ip (s.data.toList.drop (k+1)))));have hb:(s[k].toNat:Int)<=255:=IB
   go_wp2_with (go_at_call 106;refine (H1 _ _ _ _).mono ?_;rintro e w' ⟨rfl,rfl⟩)
   ·have h1:E8 32 s[k].toNat 126=true:=FR
    have h2:((s[k].toNat:Int) == 35)=true:=FR
    go_ret
    exact ⟨Cn (by rw [hz.out];rw [Ae5] at h2;simp [Pn,h2]),rfl⟩
   ·have h1:E8 32 s[k].toNat 126=true:=FR
    have h2:((s[k].toNat:Int) == 35)=false:=FR
    exact EJ
   ·have h1:¬E8 32 s[k].toNat 126=true:=FR
    go_ret
    exact ⟨Cn (by rw [hz.out];simp [Pn,h1]),rfl⟩
  ·go_wp2
   go_ret
   exact ⟨Cn (by rw [hz.out,Aat s k hlt];rfl),rfl⟩
theorem Ap3 (s:au) (n:Int) (w:World) (hs:s.size<=maxLen) :
  Calls prog 67 #[af s,aa n] w fun e w'=>e=.returned (.bool (Ip s.data.toList && decide ((s.size:Int)<=n)))/\w=w':=by
 unfold maxLen at hs
 go_enter func67,ntmps67
 go_wp2
 go_loop [5] (fun i=>∃k:Nat,k<=s.size/\i=aa k/\Hid (Ip s.data.toList=Ip (s.data.toList.drop k))) (fun i=>s.size - (intOf i).toNat)
 case atStart=>exact ⟨0,aG _,rfl,rfl⟩
 case round =>
  obtain ⟨k,hk,rfl,hz⟩:=hrel;by_cases hlt:k < s.size
  ·have hz:=Lib.hid (hz.out.trans (by rw [Aeu s k hlt];rfl:_=(Pn s[k] && Ip (s.data.toList.drop (k+1)))));have hb:(s[k].toNat:Int)<=255:=IB
   go_wp2_with (go_at_call 130;refine (Ka _ _ _ _).mono ?_;rintro e w' ⟨rfl,rfl⟩)
   ·have h1:E8 32 s[k].toNat 126=true:=FR
    have h2:((s[k].toNat:Int) == 35)=true:=FR
    go_ret
    exact ⟨Cn (by rw [hz.out];rw [Ae5] at h2;simp [Pn,h2]),rfl⟩
   ·have h1:E8 32 s[k].toNat 126=true:=FR
    have h2:((s[k].toNat:Int) == 35)=false:=FR
    exact EJ
   ·have h1:¬E8 32 s[k].toNat 126=true:=FR
    go_ret
    exact ⟨Cn (by rw [hz.out];simp [Pn,h1]),rfl⟩
  ·go_wp2
   go_ret
   exact ⟨Cn (by rw [hz.out,Aat s k hlt];simp [Ip]),rfl⟩
theorem Lo {a b:Int} (h:a=b):Ending.returned (aa a)=.returned (aa b):=by rw [h]
theorem Af8:(prog.info? 3).map (fun i=>(i.zero,i.size,i.bytes))=some (some (aa 0),1,8):=by kernel_rfl
theorem Sl.int {w:World} {a:aj} {n cap:Nat} {xs:ar} {F} (h:Sl Bc w (ab a n cap) xs F):n=xs.length/\n<=maxLen /\
  ∀k (hk:k < xs.length),∃b off,a=some ⟨b,off,none⟩/\w.cell? ⟨b,off+k,none⟩=some (aa xs[k]):=by
 obtain ⟨a',cap',hv,hl,h⟩:=h;cases hv;refine ⟨rfl,EZ,fun k hk=>?_⟩;rcases h with ⟨rfl,_⟩|⟨b,off,F',rfl,_,_,hc⟩
 ·simp at hk
 ·obtain ⟨cs,F1,⟨rfl,_⟩,hj,_⟩:=hc.get k hk;exact ⟨b,off,rfl,by simpa [Bc] using hj 0 FA⟩
structure Bfw where
 Bgl:Int
 got:Int
 Bgm:Int
 Bh0:Int
abbrev Bs:=List UInt8
def Ea (b:UInt8) (l:Bs):Bs:=l.takeWhile (· != b)
def Ma (b:UInt8) (l:Bs):Bs:=(l.dropWhile (· != b)).drop 1
theorem Ae6 {b:UInt8} {x r:Bs} (h:∀c∈x,c≠b):Ea b (x++b::r)=x:=by
 unfold Ea;rw [fe FJ];simp
theorem Asl {b:UInt8} {x:Bs} (h:∀c∈x,c≠b):Ea b x=x:=by
 have:=fe (p:=(· != b)) (l₁:=x) (l₂:=[]) FJ;simpa [Ea] using this
theorem Aie {b:UInt8} {x r:Bs} (h:∀c∈x,c≠b):Ma b (x++b::r)=r:=by
 unfold Ma;rw [eY FJ];simp
theorem Aif {b:UInt8} {x:Bs} (h:∀c∈x,c≠b):Ma b x=[]:=by
 have:=eY (p:=(· != b)) (l₁:=x) (l₂:=[]) FJ;simp only [bg,List.dropWhile_nil] at this;simp [Ma,this]
theorem Xw {b:UInt8} {l:Bs}:∀c∈Ea b l,c≠b:=by
 unfold Ea
 induction l with
 | nil=>simp
 | cons d l ih =>
  intro c hc;rw [gv] at hc
  split at hc
  ·rename_i h;rcases aH.1 hc with rfl|hc
   ·simpa using h
   ·exact ih c hc
  ·simp at hc
theorem Oq (b:UInt8) (l:Bs):(b∈l/\l=Ea b l++b::Ma b l)\/(b ∉ l/\Ea b l=l/\Ma b l=[]):=by
 by_cases h:b∈l
 ·left;refine ⟨h,?_⟩;unfold Ea Ma
  induction l with
  | nil=>cases h
  | cons c l ih =>
   by_cases hc:c=b
   ·subst hc;simp
   ·have hm:b∈l:=by
     rcases aH.1 h with e|e
     ·exact absurd e.symm hc
     ·exact e
    simp only [gv,eV,bne_iff_ne,ne_eq,hc,not_false_eq_true,if_true,cj];rw [<-ih hm]
 ·right;exact ⟨h,Asl fun c hc e=>h (e▸hc),Aif fun c hc e=>h (e▸hc)⟩
def D9:Bs->List Bs
 | []=>[]
 | b::r=>if b == 10 then [10]::D9 r else match D9 r with
  | []=>[[b]]
  | x::xs=>(b::x)::xs
theorem Rv:∀l:Bs,(D9 l).flatten=l
 | []=>rfl
 | b::r=>by
  have ih:=Rv r;unfold D9
  split
  ·rename_i h;simp at h;subst h;simp [ih]
  ·cases h:D9 r with
   | nil=>rw [h] at ih;simp at ih;subst ih;simp
   | cons x xs=>rw [h] at ih;simp at ih;simp [ih]
theorem Tc:∀{x:Bs} (r:Bs),(∀c∈x,c≠10)->D9 (x++10::r)=(x++[10])::D9 r
 | [],r,_=>by simp [D9]
 | b::x,r,h=>by
  have ih:=Tc (x:=x) r fun c hc=>h c JG;have hb:(b == 10)=false:=by simpa using h b FB
  simp only [cj,D9,hb,ih];simp
theorem Vm:∀{x:Bs},x≠[]->(∀c∈x,c≠10)->D9 x=[x]
 | [b],_,h=>by
  have hb:(b == 10)=false:=by simpa using h b FB
  simp [D9,hb]
 | b::c::x,_,h=>by
  have ih:=Vm (x:=c::x) FB fun c hc=>h c JG;have hb:(b == 10)=false:=by simpa using h b FB
  rw [D9,hb,ih];simp
theorem Vn:∀{l:Bs} {x:Bs},x∈D9 l->x≠[]
 | b::r,x,h=>by
  unfold D9 at h
  split at h
  ·rcases aH.1 h with rfl|h
   ·simp
   ·exact Vn h
  ·cases h2:D9 r with
   | nil=>rw [h2] at h;simp at h;simp [h]
   | cons y ys =>
    rw [h2] at h;rcases aH.1 h with rfl|h
    ·simp
    ·exact Vn (l:=r) (by rw [h2];simp [h])
def Whole (x:Bs):Prop:=∃y,x=y++[10]/\∀c∈y,c≠10
theorem Xg:∀{xs:List Bs} (r:Bs),(∀x∈xs,Whole x)->D9 (xs.flatten++r)=xs++D9 r
 | [],_,_=>rfl
 | x::xs,r,h=>by
  obtain ⟨y,rfl,hy⟩:=h x FB;have ih:=Xg (xs:=xs) r fun z hz=>h z IW;simp only [cm,aN,cj,aZ];rw [Tc _ hy,ih]
theorem O2:∀(u:Nat) (c:UInt8),c∈Lib.decDigits u->48<=c.toNat/\c.toNat<=57:=by
 intro u
 induction u using Nat.strongRecOn with
 | ind u ih =>
  intro c hc;rw [Lib.decDigits] at hc;have hd:∀d:Nat,d < 10->48<=(UInt8.ofNat (48+d)).toNat/\(UInt8.ofNat (48+d)).toNat<=57:=fun d hd=>by
   rw [UInt8.toNat_ofNat'];omega
  split at hc
  ·simp only [aM] at hc;subst hc;exact hd _ EZ
  ·rcases aK.1 hc with h|h
   ·exact ih _ EZ c h
   ·simp only [aM] at h;subst h;exact hd _ EZ
theorem Amo {u:Nat} {b:UInt8} (hb:b.toNat < 48\/57 < b.toNat):∀c∈Lib.decDigits u,c≠b:=fun c hc e=>by
 have:=O2 u c hc;subst e;omega
theorem Dv:∀(n u:Nat),u < 10 ^ (n+1)->(Lib.decDigits u).length<=n+1
 | 0,u,h=>by rw [Lib.decDigits,ei FJ];simp
 | n+1,u,h=>by
  rw [Lib.decDigits]
  split
  ·simp
  ·have:=Dv n (u / 10) (by rw [dZ] at h;omega);simp;omega
theorem X3 (u:Nat):1<=(Lib.decDigits u).length:=by
 rw [Lib.decDigits];split <;> simp
def Abl (h:Nat) (c:UInt8):Nat:=(41 * h+c.toNat+1) % 999979
def Sa (l:Bs):Nat:=l.foldl Abl 7
theorem Abk (l:Bs):Sa l < 999979:=by
 have h:∀(l:Bs) (n:Nat),n < 999979->l.foldl Abl n < 999979:=by
  intro l
  induction l with
  | nil=>intro n hn;simpa using hn
  | cons c l ih=>intro n hn;rw [dS];exact ih _ (by unfold Abl;omega)
 exact h l 7 EZ
theorem Avf (l:Bs) (c:UInt8):Sa (l++[c])=Abl (Sa l) c:=by simp [Sa]
def N8 (l:Bs):Bs:=l++35::Lib.decDigits (Sa l)
theorem Ac3 (l:Bs):(N8 l).length<=l.length+7:=by
 have:=Dv 5 (Sa l) (by have:=Abk l;omega);simp [N8];omega
def Kw (k:Nat) (c r:Bs):Bs:=Lib.decDigits k++32::(c++64::r)
def Ke (k:Nat) (c r:Bs):Bs:=N8 (Kw k c r)++[10]
def Adn (c r:Bs):Bool:=E8 1 c.length 160 && decide ((r.length:Int)<=200) && Ip c && Ip r && !Jz 64 c
theorem Adw {b:UInt8}:Pn b=true↔(32<=b.toNat/\b.toNat<=126)/\b≠35:=by
 simp [Pn,E8];omega
theorem Adx {l:Bs} (h:Ip l=true):∀c∈l,(32<=c.toNat/\c.toNat<=126)/\c≠35:=fun c hc=>by
 unfold Ip at h;exact Adw.1 (aW.1 h c hc)
structure Yq (c r:Bs):Prop where
 c0:1<=c.length
 c1:c.length<=160
 r1:r.length<=200
 ct:∀b∈c,(32<=b.toNat/\b.toNat<=126)/\b≠35
 rt:∀b∈r,(32<=b.toNat/\b.toNat<=126)/\b≠35
 ca:∀b∈c,b≠64
theorem Ja {c r:Bs} (h:Adn c r=true):Yq c r:=by
 unfold Adn E8 at h;simp only [aw,aF,bA] at h;obtain ⟨⟨⟨⟨⟨h1,h2⟩,h3⟩,h4⟩,h5⟩,h6⟩:=h;refine ⟨EZ,EZ,EZ,Adx h4,Adx h5,fun b hb e=>?_⟩;unfold Jz at h6;have:=cD.1 h6 b hb;simp [e] at this
theorem Ady {a b:UInt8} (h:a.toNat≠b.toNat):a≠b:=fun e=>h (by rw [e])
theorem Sf {k:Nat} {c r:Bs} (h:Yq c r):∀b∈Kw k c r,(32<=b.toNat/\b.toNat<=126)/\b≠35:=by
 intro b hb;unfold Kw at hb;simp only [aK,aH] at hb;rcases hb with hb|rfl|hb|rfl|hb
 ·have:=O2 k b hb;exact ⟨EZ,Ady FF⟩
 ·decide
 ·exact h.ct b hb
 ·decide
 ·exact h.rt b hb
theorem Ann {k:Nat} {c r:Bs} (h:Yq c r):Whole (Ke k c r):=by
 refine ⟨N8 (Kw k c r),rfl,fun b hb=>?_⟩;unfold N8 at hb;simp only [aK,aH] at hb;rcases hb with hb|rfl|hb
 ·have:=Sf h b hb;exact Ady FF
 ·decide
 ·exact Amo FB b hb
theorem Ab2 {k:Nat} {c r:Bs} (hk:k<=59) (h:Yq c r):(Kw k c r).length<=364:=by
 have:=Dv 1 k EZ;have:=h.c1;have:=h.r1;simp [Kw];omega
theorem Acq {k:Nat} {c r:Bs} (hk:k<=59) (h:Yq c r):(Ke k c r).length<=372:=by
 have:=Ab2 hk h;have:=Ac3 (Kw k c r);simp [Ke];omega
def Aej (k:Int) (c r:Bs):Option Bs:=if E8 0 k 59 && Adn c r then some (Ke k.toNat c r) else none
theorem As8 {k:Int} {c r x:Bs} (h:Aej k c r=some x):(0<=k/\k<=59)/\Yq c r/\x=Ke k.toNat c r:=by
 unfold Aej at h
 split at h
 ·rename_i h2;simp only [aw,E8,aF] at h2;exact ⟨h2.1,Ja h2.2,by simpa using h.symm⟩
 ·cases h
def Ahj (x:Bs):Bs:=Ma 32 (Ea 35 x)
def Aeh (x:Bs):Bs:=Ea 64 (Ahj x)
def Aen (x:Bs):Bs:=Ma 64 (Ahj x)
theorem Aj8 {k:Nat} {c r s:Bs} (h:Yq c r):Ahj (Kw k c r++35::s)=c++64::r:=by
 unfold Ahj;rw [Ae6 fun b hb=>(Sf h b hb).2];exact Aie (Amo FB)
theorem Anm (k:Nat) (c r:Bs):Ke k c r=Kw k c r++35::(Lib.decDigits (Sa (Kw k c r))++[10]):=by simp [Ke,N8]
theorem Afm {k:Nat} {c r:Bs} (h:Yq c r):Aeh (Ke k c r)=c:=by
 unfold Aeh;rw [Anm,Aj8 h];exact Ae6 h.ca
theorem Agz {k:Nat} {c r:Bs} (h:Yq c r):Aen (Ke k c r)=r:=by
 unfold Aen;rw [Anm,Aj8 h];exact Aie h.ca
def Yt (k:Nat) (x:Bs):Bool:=Aej k (Aeh x) (Aen x) == some x
theorem Tt {k:Nat} {x:Bs}:Yt k x=true↔∃c r,k<=59/\Adn c r=true/\x=Ke k c r:=by
 unfold Yt;rw [eQ];constructor
 ·intro h;have h2:=As8 h;refine ⟨Aeh x,Aen x,EZ,?_,by simpa using h2.2.2⟩;unfold Aej at h
  split at h
  ·rename_i h3;simp only [aw] at h3;exact h3.2
  ·cases h
 ·rintro ⟨c,r,hk,hg,rfl⟩;have hG:=Ja hg;rw [Afm hG,Agz hG];unfold Aej;rw [aJ (by simp [hg,E8];omega)];simp
theorem Ajn {k:Nat} {x:Bs} (h:Yt k x=true):Whole x:=by
 obtain ⟨c,r,_,hg,rfl⟩:=Tt.1 h;exact Ann (Ja hg)
theorem Bb4 {k:Nat} {x:Bs} (h:Yt k x=true):x.length<=372:=by
 obtain ⟨c,r,hk,hg,rfl⟩:=Tt.1 h;exact Acq hk (Ja hg)
def acc:Nat->List Bs->List Bs
 | _,[]=>[]
 | k,x::r=>if Yt k x then x::acc (k+1) r else []
theorem Arf:∀(k:Nat) (xs:List Bs),acc k xs <+: xs
 | _,[]=>List.prefix_rfl
 | k,x::r=>by
  unfold acc
  split
  ·exact (List.cons_prefix_cons).2 ⟨rfl,Arf (k+1) r⟩
  ·exact List.nil_prefix
theorem Akl:∀(k:Nat) (xs:List Bs),∀x∈acc k xs,∃j,Yt j x=true
 | _,[],x,h=>by simp [acc] at h
 | k,y::r,x,h=>by
  unfold acc at h
  split at h
  ·rename_i hy;rcases aH.1 h with rfl|h
   ·exact ⟨k,hy⟩
   ·exact Akl (k+1) r x h
  ·cases h
theorem Are:∀(k:Nat) (xs:List Bs),k<=60->k+(acc k xs).length<=60
 | _,[],hk=>by simpa [acc] using hk
 | k,x::r,hk=>by
  unfold acc
  split
  ·rename_i h;obtain ⟨c,r',h2,_⟩:=Tt.1 h;have:=Are (k+1) r EZ;simp;omega
  ·simpa using hk
theorem Awc (k:Nat) (xs:List Bs):(acc k xs).flatten.length<=372 * (acc k xs).length:=by
 have h:=Akl k xs;revert h;generalize acc k xs=ys;intro h
 induction ys with
 | nil=>simp
 | cons y ys ih =>
  obtain ⟨j,hj⟩:=h y FB;have h1:=Bb4 hj;have h2:=ih fun x hx=>h x IE;simp only [cm,aA,aU];omega
theorem Ard:∀(k:Nat) (xs:List Bs) (m:Nat),acc k ((acc k xs).take m)=(acc k xs).take m
 | _,[],m=>by simp [acc]
 | k,x::r,m=>by
  by_cases h:Yt k x=true
  ·have e:acc k (x::r)=x::acc (k+1) r:=by simp [acc,h]
   rw [e];cases m with
   | zero=>simp [acc]
   | succ m=>simp [acc,h,Ard (k+1) r m]
  ·simp [acc,h]
theorem U9:∀(k:Nat) (xs ys:List Bs),acc k xs=xs->acc k (xs++ys)=xs++acc (k+xs.length) ys
 | _,[],_,_=>by simp
 | k,x::r,ys,h=>by
  unfold acc at h
  split at h
  ·rename_i hx;have h2:=U9 (k+1) r ys FJ;simp only [cj,acc,hx,if_true,h2,aU];rw [show k+1+r.length=k+(r.length+1) by omega]
  ·cases h
def Bn (s:Bs):List Bs:=acc 0 (D9 s)
theorem Xk {s:Bs} (h:(Bn s).flatten.length=s.length):Bn s=D9 s:=by
 obtain ⟨t,ht⟩:=Arf 0 (D9 s);have h2:=Rv s;rw [<-ht,dg] at h2;have h3:t.flatten=[]:=by
  have:=congrArg List.length h2;rw [aA] at this;have h4:(acc 0 (D9 s)).flatten.length=s.length:=h;exact bF EZ
 have h4:t=[]:=by
  cases t with
  | nil=>rfl
  | cons x t =>
   have:=Vn (l:=s) (x:=x) (by rw [<-ht];simp);simp at h3;exact absurd h3.1 this
 unfold Bn;rw [h4] at ht;simpa using ht
theorem Ux {s:Bs} (h:(Bn s).flatten.length=s.length):(Bn s).flatten=s:=by rw [Xk h,Rv]
theorem Lk (s:Bs):(Bn s).flatten.length<=22320/\(Bn s).length<=60:=by
 have h1:=Awc 0 (D9 s);have h2:=Are 0 (D9 s) EZ;unfold Bn;omega
theorem Rx {xs:List Bs} (h:acc 0 xs=xs) (r:Bs):Bn (xs.flatten++r)=xs++acc xs.length (D9 r):=by
 unfold Bn;rw [Xg r (fun x hx=>by rw [<-h] at hx;obtain ⟨j,hj⟩:=Akl 0 _ x hx;exact Ajn hj),U9 0 xs _ h];simp
def Kx:Nat->List Bs->aq
 | n,[]=>[n]
 | n,x::r=>n::Kx (n+x.length) r
theorem Aim {m:Nat}:∀{n:Nat} {xs:List Bs},m∈Kx n xs↔∃j,j<=xs.length/\m=n+(xs.take j).flatten.length
 | n,[]=>by simp [Kx]
 | n,x::r=>by
  unfold Kx;rw [aH,Aim];constructor
  ·rintro (rfl|⟨j,hj,rfl⟩)
   ·exact ⟨0,FB,FB⟩
   ·exact ⟨j+1,ID,FF⟩
  ·rintro ⟨j,hj,rfl⟩;cases j with
   | zero=>left;simp
   | succ j=>right;exact ⟨j,ID,FF⟩
theorem Zp:∀{n:Nat} {xs:List Bs},(Kx n xs).getLast?=some (n+xs.flatten.length)
 | n,[]=>by simp [Kx]
 | n,x::r=>by
  have ih:=Zp (n:=n+x.length) (xs:=r);unfold Kx;rw [List.getLast?_cons];rw [ih];simp;omega
theorem Sg:∀{n:Nat} {xs:List Bs},(Kx n xs).length=xs.length+1
 | n,[]=>rfl
 | n,x::r=>by simp [Kx,Sg]
theorem Afu:∀{n:Nat} {xs:List Bs} {x:Bs},Kx n (xs++[x])=Kx n xs++[n+xs.flatten.length+x.length]
 | n,[],x=>by simp [Kx]
 | n,y::r,x=>by
  have:=Afu (n:=n+y.length) (xs:=r) (x:=x);simp only [cj,Kx,this];simp;omega
def Aq5 (d p:Bs) (n:Int):Bool:=decide ((Bn (d++p)).flatten.length=d.length+p.length) && (Kx 0 (Bn (d++p))).contains d.length && decide (n=(Bn (d++p)).length)
def Gt (d p:Bs) (n:Int):Bool:=decide (d.length+p.length<=30000) && (decide ((Bn (d++p)).flatten.length=d.length+p.length) && decide ((Bn d).flatten.length=d.length) && decide (((Bn (d++p)).length:Int)=n))
theorem Ah8 {d p:Bs} (h:(Bn (d++p)).flatten.length=d.length+p.length):d.length∈Kx 0 (Bn (d++p))↔(Bn d).flatten.length=d.length:=by
 rw [Aim];have hA:(Bn (d++p)).flatten=d++p:=Ux (by rw [h];simp);constructor
 ·rintro ⟨j,hj,e⟩;rw [cO] at e;have hd:((Bn (d++p)).take j).flatten=d:=by
   have h1:((Bn (d++p)).take j).flatten++((Bn (d++p)).drop j).flatten=d++p:=by rw [<-dg,bo,hA]
   exact (eL h1 e.symm).1
  have h2:=Rx (xs:=(Bn (d++p)).take j) (Ard 0 _ j) [];rw [bg,hd] at h2;rw [h2];simp [D9,acc,hd]
 ·intro hd;have hf:=Xk hd;have hD:(Bn d).flatten=d:=Ux hd;have h2:=Rx (xs:=Bn d) (by rw [hf];exact hf) p;rw [hD] at h2;refine ⟨(Bn d).length,by rw [h2];simp,?_⟩;rw [h2];simp [hD]
theorem Az9 (d p:Bs) (n:Int):Aq5 d p n=Gt d p n:=by
 unfold Aq5 Gt;by_cases h:(Bn (d++p)).flatten.length=d.length+p.length
 ·have h1:=Lk (d++p);have h2:=Ah8 h;have h3:decide (d.length+p.length<=30000)=true:=FF
  have h4:(Kx 0 (Bn (d++p))).contains d.length=decide ((Bn d).flatten.length=d.length):=by
   rw [cG,fl,List.contains_iff_mem];exact h2
  rw [h3,h4];have h5:decide (n=((Bn (d++p)).length:Int))=decide (((Bn (d++p)).length:Int)=n):=by
   rw [cG];simp [eq_comm]
  rw [h5];cases decide ((Bn d).flatten.length=d.length) <;> simp [h]
 ·rw [ay h];simp
def Hk (k:Nat):Bs:=Lib.decDigits k++[32]
def Tf (s:Bs) (k:Nat):(Bs × Bs) × Bool :=
 let text:=Ea 35 s
 if text.length < (Hk k).length\/text.take (Hk k).length≠Hk k then (([],[]),false)
 else
  let rest:=text.drop (Hk k).length
  if (Ea 64 rest).length=rest.length then (([],[]),false)
  else ((Ea 64 rest,rest.drop ((Ea 64 rest).length+1)),Adn (Ea 64 rest) (rest.drop ((Ea 64 rest).length+1)) && (Ke k (Ea 64 rest) (rest.drop ((Ea 64 rest).length+1)) == s++[10]))
theorem Aod {k:Nat} {s:Bs} (hk:k<=59):(Tf s k).2=Yt k (s++[10]):=by
 rw [cG,Tt];constructor
 ·intro h;unfold Tf at h;dsimp only at h
  split at h
  ·cases h
  ·split at h
   ·cases h
   ·simp only [aw,eQ] at h;exact ⟨_,_,hk,h.1,h.2.symm⟩
 ·rintro ⟨c,r,_,hg,e⟩;have hG:=Ja hg;have e2:s=Kw k c r++35::Lib.decDigits (Sa (Kw k c r)):=by
   unfold Ke at e;exact (List.append_cancel_right e)
  have ht:Ea 35 s=Kw k c r:=by rw [e2];exact Ae6 fun b hb=>(Sf hG b hb).2
  have hb:Kw k c r=Hk k++(c++64::r):=by simp [Kw,Hk]
  unfold Tf;simp only [ht,hb,aA,bT,dC,ne_eq,not_true_eq_false,bm];rw [aC FB,Ae6 hG.ca,aC FB];have hd:(c++64::r).drop (c.length+1)=r:=by
   rw [<-cA];simp
  simp only [hd,hg,bV];rw [e];simp
theorem Auz {k:Nat} {s:Bs} (h:(Tf s k).2=true):(Tf s k).1=(Aeh (s++[10]),Aen (s++[10])):=by
 unfold Tf at h ⊢;dsimp only at h ⊢
 split at h
 ·cases h
 ·rename_i h1;rw [aC h1]
  split at h
  ·cases h
  ·rename_i h2;rw [aC h2];simp only [aw,eQ] at h;have hG:=Ja h.1;rw [<-h.2,Afm hG,Agz hG]
section
variable {P:Program} {ops:Array Oper} {Q:Exit->Act->World->Prop} {md:Region.Mode} {S:World->Prop} {X:Nat->Bool}
def Ez (P:Program) (md:Region.Mode) (ops:Array Oper) (Q:Exit->Act->World->Prop) (S:World->Prop) (X:Nat->Bool):Nat->Array Bool->Act->World->Prop
 | 0,listed,a,w=>Region.ready md ops listed=[]/\Q .normal a w
 | f+1,listed,a,w=>(Region.ready md ops listed=[]->Q .normal a w) /\
  ∀i∈Region.ready md ops listed,wpOp P ops Q i (fun a' w'=>(X i=false->S w')/\Ez P md ops Q S X f (listed.setIfInBounds i true) a' w') a w
theorem Ez.any:∀(f:Nat) (listed:Array Bool) (a:Act) (w:World),Ez P md ops Q S X f listed a w->wpAny P md ops Q f listed a w
 | 0,_,_,_,h=>h
 | f+1,_,_,_,h=>⟨h.1,fun i hi=>wpOp_mono (fun a' w' h'=>Ez.any f _ a' w' h'.2) (h.2 i hi)⟩
def Zc (md:Region.Mode) (ops:Array Oper) (listed:Array Bool):Prop:=∀j oj,ops[j]?=some oj->listed.getD j false=true->∀e∈oj.after,Region.binds md e=true->listed.getD e.on false=true
def Mr (md:Region.Mode) (ops:Array Oper) (listed:Array Bool):Bool :=
 (List.range ops.size).all fun j=>!listed.getD j false || ((ops[j]?).map fun o=>o.after.all fun e=>!Region.binds md e || listed.getD e.on false).getD true
theorem Aig {listed:Array Bool} (h:Mr md ops listed=true):Zc md ops listed:=fun j oj hj hl e he hb=>by
 have h1:=aW.1 h j (cP.2 (bK.1 hj).1);rw [hl,hj] at h1;simp only [Bool.not_true,fm,bY,fK] at h1;have h2:=Array.all_eq_true'.1 h1 e he;rw [hb] at h2;simpa using h2
theorem Zc.set {listed:Array Bool} {i:Nat} (h:Zc md ops listed) (hi:i∈Region.ready md ops listed):Zc md ops (listed.setIfInBounds i true):=fun j oj hj hl e he hb=>by
 obtain ⟨_,oi,hoi,hall⟩:=mem_ready.1 hi;by_cases hij:i=j
 ·subst hij;obtain rfl:=Option.some.inj (hj.symm.trans hoi);exact getD_set_true (hall e he hb)
 ·rw [getD_set_ne false hij] at hl;exact getD_set_true (h j oj hj hl e he hb)
def Sp (md:Region.Mode) (ops:Array Oper) (i:Nat):Nat->Nat->Bool
 | 0,_=>false
 | f+1,j=>((ops[j]?).map fun o=>o.after.any fun e=>Region.binds md e && (e.on == i || Sp md ops i f e.on)).getD false
theorem V3 {listed:Array Bool} {i:Nat} (hc:Zc md ops listed):∀(f j:Nat),(∀oj,ops[j]?=some oj->∀e∈oj.after,Region.binds md e=true->listed.getD e.on false=true)->Sp md ops i f j=true->listed.getD i false=true
 | 0,_,_,h=>by cases h
 | f+1,j,hd,h=>by
  unfold Sp at h;cases hj:ops[j]? with
  | none=>rw [hj] at h;cases h
  | some o =>
   rw [hj] at h;simp only [bY,fK] at h;obtain ⟨e,he,hb⟩:=Array.any_eq_true'.1 h;simp only [aw,bZ,eQ] at hb;have h1:=hd o hj e he hb.1;rcases hb.2 with h2|h2
   ·rw [<-h2];exact h1
   ·exact V3 hc f e.on (fun oe ho=>hc e.on oe ho h1) h2
def Lq (md:Region.Mode) (ops:Array Oper) (X:Nat->Bool) (i:Nat):Bool:=(List.range ops.size).all fun j=>!X j || Sp md ops i ops.size j
theorem Xv {listed:Array Bool} {i:Nat} (h:listed.getD i true=false):listed.getD i false=false:=by
 rcases d9 i listed.size with h'|h'
 ·simp [h'] at h ⊢;exact h
 ·simp [ex h'] at h
theorem Ez.first {i:Nat} {oi:Oper} {v:Value} (hi:ops[i]?=some oi) (hsel:∀(j:Nat) (o:Oper) cs b,ops[j]?=some o->o.op≠.select cs b)
  (hQ:∀c a w,Q (.panic c) (a.put oi.dst v) w->Q (.panic c) a w) (hX:Lq md ops X i=true) :
  ∀(f:Nat) (listed:Array Bool) (a:Act) (w:World),
   (∀j oj,ops[j]?=some oj->j≠i->listed.getD j true=false->(∀e∈oj.after,Region.binds md e=true->e.on≠i)->oi.apart ops oj=true) ->
   Zc md ops listed->i∈Region.ready md ops listed->YieldsIf P ops S oi v a->S w->Ez P md ops Q S X f (listed.setIfInBounds i true) (a.put oi.dst v) w->Ez P md ops Q S X (f+1) listed a w:=by
 intro f
 induction f with
 | zero =>
  intro listed a w _ _ hr hy hS H;refine ⟨fun h=>HL,fun j hj=>?_⟩;by_cases hji:j=i
  ·exact EL
  ·have:=ready_mono hj hji;rw [H.1] at this;cases this
 | succ f ih =>
  intro listed a w hfree hcl hr hy hS H;refine ⟨fun h=>HL,fun j hj=>?_⟩;by_cases hji:j=i
  ·exact EL
  ·obtain ⟨hju,oj,hoj,hall⟩:=mem_ready.1 hj;have hiu:=Xv (mem_ready.1 hr).1;have hnot:∀e∈oj.after,Region.binds md e=true->e.on≠i:=fun e he hb heq=>by
    have h1:=hall e he hb;rw [heq,hiu] at h1;cases h1
   have hXj:X j=false:=by
    cases hx:X j
    ·rfl
    ·have h1:=aW.1 hX j (cP.2 (bK.1 hoj).1);rw [hx] at h1;have h2:=V3 hcl ops.size j (fun o ho=>by obtain rfl:=Option.some.inj (ho.symm.trans hoj);exact hall) HV;rw [hiu] at h2;cases h2
   have h2:=wpOp_putIf hoj (hfree j oj hoj hji hju hnot) (fun cs b=>hsel i oi cs b hi) (fun cs b=>hsel j oj cs b hoj) hQ hy (H.2 j (ready_mono hj hji));refine wpOp_mono (fun a' w' h3=>⟨fun _=>h3.2.1 hXj,ih (listed.setIfInBounds j true) a' w' (fun k ok hk hki hun hno=>hfree k ok hk hki ?_ hno) (hcl.set hj) (ready_mono hr (Ne.symm hji)) h3.1 (h3.2.1 hXj) ?_⟩) h2
   ·by_cases hjk:j=k
    ·subst hjk;exact hju
    ·rw [getD_set_ne true hjk] at hun;exact hun
   ·rw [dY _ _ hji];exact h3.2.2
theorem Ez.take {i:Nat} {oi:Oper} {v:Value} {f:Nat} {listed:Array Bool} {a:Act} {w:World} (hi:ops[i]?=some oi)
  (hs:Region.noSelect ops=true) (hf:Region.free md ops listed i=true) (hr:(Region.ready md ops listed).contains i=true) (hX:Lq md ops X i=true) (hc:Mr md ops listed=true)
  (hQ:∀c a w,Q (.panic c) (a.put oi.dst v) w->Q (.panic c) a w) (hy:YieldsIf P ops S oi v a) (hS:S w)
  (h:Ez P md ops Q S X f (listed.setIfInBounds i true) (a.put oi.dst v) w):Ez P md ops Q S X (f+1) listed a w :=
 Ez.first hi (Region.noSelect_spec hs) hQ hX f listed a w (Region.free_spec hi hf) (Aig hc) GK hy hS h
theorem Ez.only {i:Nat} {o:Oper} {f:Nat} {listed:Array Bool} {a:Act} {w:World} (hr:Region.ready md ops listed=[i]) (ho:ops[i]?=some o)
  (h:∀K':Act->World->Prop,Shut (∀a w,(X i=false->S w)->Ez P md ops Q S X f (listed.setIfInBounds i true) a w->K' a w)->if Region.wanted o (yielded ops a.tmps)=true then Oper.wp P o a w K' Q else K' (a.put o.dst undef) w) :
  Ez P md ops Q S X (f+1) listed a w :=
 by
 refine ⟨fun h0=>(by rw [hr] at h0;cases h0),fun j hj=>?_⟩;rw [hr] at hj;obtain rfl:j=i:=ID
 exact wpOp_step ho (fun K' hK=>h K' (fun a w hS hW=>hK a w ⟨hS,hW⟩))
theorem Ez.two {i j:Nat} {oi oj:Oper} {f:Nat} {listed:Array Bool} {a:Act} {w:World} (hr:Region.ready md ops listed=[i,j]) (hoi:ops[i]?=some oi) (hoj:ops[j]?=some oj)
  (h:∀K':Act->World->Prop,Shut (∀a w,(X i=false->S w)->Ez P md ops Q S X f (listed.setIfInBounds i true) a w->K' a w)->if Region.wanted oi (yielded ops a.tmps)=true then Oper.wp P oi a w K' Q else K' (a.put oi.dst undef) w)
  (h2:∀K':Act->World->Prop,Shut (∀a w,(X j=false->S w)->Ez P md ops Q S X f (listed.setIfInBounds j true) a w->K' a w)->if Region.wanted oj (yielded ops a.tmps)=true then Oper.wp P oj a w K' Q else K' (a.put oj.dst undef) w) :
  Ez P md ops Q S X (f+1) listed a w:=by
 refine ⟨fun h0=>(by rw [hr] at h0;cases h0),fun k hk=>?_⟩;rw [hr] at hk;simp only [aH,aT,bm] at hk;rcases hk with rfl|rfl
 ·exact wpOp_step hoi (fun K' hK=>h K' (fun a w hS hW=>hK a w ⟨hS,hW⟩))
 ·exact wpOp_step hoj (fun K' hK=>h2 K' (fun a w hS hW=>hK a w ⟨hS,hW⟩))
theorem Ez.done {listed:Array Bool} {a:Act} {w:World} (hr:Region.ready md ops listed=[]) (h:Q .normal a w):∀f,Ez P md ops Q S X f listed a w
 | 0=>⟨hr,h⟩
 | _+1=>⟨fun _=>h,by rw [hr];simp⟩
theorem Ez.start {id:Nat} {a:Act} {w:World} (hm:P.follows .mixedOrders=true) (h:Ez P .any ops Q S X ops.size (Array.replicate ops.size false) a w.drew):(Code.region id ops true).wp P Q a w :=
 wp_region_any hm (Ez.any _ _ _ _ h)
end
theorem Pw {a b:am} (h:Value.agg a.toArray=.agg b.toArray):a=b:=by simpa using h
inductive Pc:Type 1
 | row (g:Nat) (t:TypeId) (o:Nat) (A cs B:List Value)
 | sl {α:Type} (E:Bt α) (v:Value) (xs:List α) (F:List Nat)
 | ow {α:Type} (E:Bt α) (t:TypeId) (v:Value) (xs:List α) (F:List Nat)
 | isv {α:Type} (E:Bt α) (v:Value) (x:α) (F:List Nat)
 | own {α:Type} (E:Bt α) (v:Value) (x:α) (F:List Nat)
 | cel (b o:Nat) (cs:List Value)
 | flat {α:Type} (E:Bt α) (cs:List Value) (xs:List α) (F:List Nat)
def Pc.P:Pc->World->Prop
 | .row g t o A cs B,w=>A.length=o/\Ib w g t (A++cs++B)
 | .sl E v xs F,w=>0 < E.sz/\Sl E w v xs F
 | .ow E t v xs F,w=>F.Nodup/\Ow E t w v xs F
 | .isv E v x F,w=>Ro E w v x F
 | .own E v x F,w=>F.Nodup/\Ro E w v x F
 | .cel b o cs,w=>cs≠[]/\w.rangeAt b o cs
 | .flat E cs xs F,w=>F.Nodup/\Cz E w cs xs F
def Pc.F:Pc->aq
 | .row g ..=>[g]
 | .sl _ _ _ F|.ow _ _ _ _ F|.isv _ _ _ F|.own _ _ _ F|.flat _ _ _ F=>F
 | .cel b ..=>[b]
def Pc.mu:Pc->Bool
 | .row .. | .ow .. | .own .. | .flat ..=>true
 | _=>false
theorem Pc.st (p:Pc) {w w':World} (h:p.P w) (hF:∀b∈p.F,w'.heap[b]?=w.heap[b]?):p.P w':=by
 cases p with
 | row g t o A cs B=>exact ⟨h.1,h.2.I0 (hF g JB)⟩
 | sl E v xs F=>exact ⟨h.1,h.2.frame hF⟩
 | ow E t v xs F=>exact ⟨h.1,h.2.frame hF⟩
 | isv E v x F=>obtain ⟨cs,hv,h⟩:=h;exact ⟨cs,hv,E.frame h hF⟩
 | own E v x F=>obtain ⟨hn,cs,hv,h⟩:=h;exact ⟨hn,cs,hv,E.frame h hF⟩
 | cel b o cs=>exact ⟨h.1,fun j v hv=>(World.cell?_of_block (w:=w) (hF b JB)).trans (h.2 j v hv)⟩
 | flat E cs xs F=>exact ⟨h.1,h.2.frame hF⟩
theorem Pc.lt (p:Pc) {w:World} (h:p.P w):∀b∈p.F,b < w.heap.size:=by
 cases p with
 | row g t o A cs B=>intro b hb;simp [Pc.F] at hb;subst hb;exact h.2.lt
 | sl E v xs F=>exact h.2.lt h.1
 | ow E t v xs F=>exact h.2.lt
 | isv E v x F=>obtain ⟨cs,hv,h⟩:=h;exact E.lt h
 | own E v x F=>obtain ⟨_,cs,hv,h⟩:=h;exact E.lt h
 | cel b o cs =>
  intro c hc;simp [Pc.F] at hc;subst hc;cases cs with
  | nil=>exact absurd rfl h.1
  | cons v r=>exact World.block_lt_of_cell? w _ (h.2 0 v rfl)
 | flat E cs xs F=>exact h.2.lt
def Adf (p q:Pc):Prop:=(p.mu || q.mu)=true->∀b∈p.F,b ∉ q.F
theorem Adf.symm {p q:Pc} (h:Adf p q):Adf q p:=fun hm b hb hp=>h (by rw [Bool.or_comm];exact hm) b hp hb
def Sc:List Pc->Prop
 | []=>True
 | p::R=>(∀q∈R,Adf p q)/\Sc R
def Ob (H:List Pc) (w:World):Prop:=∀p∈H,p.P w
theorem Iw {p:Pc} {w:World} (h:p.P w):Ob [p] w:=fun q hq=>by simp at hq;subst hq;exact h
def fp:List Pc->aq
 | []=>[]
 | p::R=>p.F++fp R
theorem Rh {b:Nat}:∀{H:List Pc},b∈fp H↔∃p∈H,b∈p.F
 | []=>by simp [fp]
 | p::R=>by simp [fp,Rh (H:=R)]
theorem Ob.st {H:List Pc} {w w':World} (h:Ob H w) (hF:∀p∈H,∀b∈p.F,w'.heap[b]?=w.heap[b]?):Ob H w':=fun p hp=>p.st (h p hp) (hF p hp)
theorem Ob.below {H:List Pc} {w w':World} (h:Ob H w) (hb:Below w.heap.size w w'):Ob H w':=h.st fun p hp b hm=>hb.block b (p.lt (h p hp) b hm)
structure St (G D:aq) (w0:World) (H:List Pc) (w:World):Prop where
 I0:Ei G w0 w
 on:Ob H w
 sep:Sc H
 Acu:∀p∈H,∀b∈p.F,b∈G\/w0.heap.size<=b\/(p.mu=false/\b∈D)
section
variable {G D:aq} {w0:World}
theorem Sc.perm2 {p q:Pc} {R:List Pc} (h:Sc (p::q::R)):Sc (q::p::R) :=
 ⟨fun x hx=>by
  rcases aH.1 hx with rfl|hx
  ·exact (h.1 q FB).symm
  ·exact h.2.1 x hx,fun x hx=>h.1 x IE,h.2.2⟩
inductive C2:List Pc->Pc->List Pc->Prop
 | here {p R}:C2 (p::R) p R
 | there {x p R R'}:C2 R p R'->C2 (x::R) p (x::R')
theorem C2.mem {H p R} (h:C2 H p R):p∈H:=by
 induction h with
 | here=>simp
 | there _ ih=>simp [ih]
theorem C2.sub {H p R} (h:C2 H p R):∀q∈R,q∈H:=by
 induction h with
 | here=>intro q hq;simp [hq]
 | there _ ih =>
  intro q hq;rcases aH.1 hq with rfl|hq
  ·simp
  ·simp [ih q hq]
theorem C2.sep {H p R} (h:C2 H p R) (hs:Sc H):Sc (p::R):=by
 induction h with
 | here=>exact hs
 | @there x p R R' h ih =>
  have h2:=ih hs.2;exact Sc.perm2 ⟨fun q hq=>by
   rcases aH.1 hq with rfl|hq
   ·exact hs.1 _ h.mem
   ·exact hs.1 _ (h.sub q hq),h2⟩
theorem St.pick {H p R w} (s:St G D w0 H w) (h:C2 H p R):St G D w0 (p::R) w :=
 ⟨s.I0,fun q hq=>by
  rcases aH.1 hq with rfl|hq
  ·exact s.on _ h.mem
  ·exact s.on _ (h.sub q hq),h.sep s.sep,fun q hq=>by
  rcases aH.1 hq with rfl|hq
  ·exact s.Acu _ h.mem
  ·exact s.Acu _ (h.sub q hq)⟩
theorem St.tail {p R w} (s:St G D w0 (p::R) w):St G D w0 R w:=⟨s.I0,fun q hq=>s.on q GB,s.sep.2,fun q hq=>s.Acu q GB⟩
theorem St.get {H p w} (s:St G D w0 H w) (h:p∈H):p.P w:=s.on p h
theorem St.turn {M R N:List Pc} {w w':World} (s:St G D w0 (M++R) w) (hk:Ei (fp (M.filter (·.mu))) w w') (hN:Ob N w') (hs:Sc N)
  (hF:∀p∈N,∀b∈p.F,w.heap.size<=b\/(∃q∈M,q.mu=true/\b∈q.F)\/(p.mu=false/\∃q∈M++R,q.mu=false/\b∈q.F)):St G D w0 (N++R) w':=by
 have hsep:∀(A B:List Pc),Sc (A++B)->Sc A/\Sc B/\∀p∈A,∀q∈B,Adf p q:=by
  intro A
  induction A with
  | nil=>intro B h;exact ⟨trivial,h,FB⟩
  | cons p A ih =>
   intro B h;obtain ⟨h1,h2,h3⟩:=ih B h.2;exact ⟨⟨fun q hq=>h.1 q GB,h1⟩,h2,fun x hx q hq=>by
    rcases aH.1 hx with rfl|hx
    ·exact h.1 q GB
    ·exact h3 x hx q hq⟩
 have hjoin:∀(A B:List Pc),Sc A->Sc B->(∀p∈A,∀q∈B,Adf p q)->Sc (A++B):=by
  intro A
  induction A with
  | nil=>intro B _ h _;exact h
  | cons p A ih =>
   intro B hA hB h;exact ⟨fun q hq=>by
    rcases aK.1 hq with hq|hq
    ·exact hA.1 q hq
    ·exact h p FB q hq,ih B hA.2 hB fun x hx q hq=>h x IE q hq⟩
 obtain ⟨sM,sR,sMR⟩:=hsep M R s.sep;have hRlt:∀q∈R,∀b∈q.F,b < w.heap.size:=fun q hq=>q.lt (s.on q GB);have hMR:∀q∈R,∀b∈q.F,b ∉ fp (M.filter (·.mu)):=fun q hq b hb hm=>by
  obtain ⟨p,hp,hpb⟩:=Rh.1 hm;obtain ⟨hp,hmu⟩:=bP.1 hp;exact sMR p hp q hq (by simp [hmu]) b hpb hb
 have hG:∀b∈fp (M.filter (·.mu)),b∈G\/w0.heap.size<=b:=fun b hb=>by
  obtain ⟨p,hp,hpb⟩:=Rh.1 hb;obtain ⟨hp,hmu⟩:=bP.1 hp;rcases s.Acu p HH b hpb with h|h|⟨h,_⟩
  ·exact .inl h
  ·exact .inr h
  ·rw [hmu] at h;cases h
 refine ⟨⟨hk.os.trans s.I0.os,hk.tape.trans s.I0.tape,hk.output.trans s.I0.output,bG s.I0.size hk.size,fun k hlt hn=>(hk.block k (eh hlt s.I0.size) fun hm=>?_).trans (s.I0.block k hlt hn)⟩,fun p hp=>?_,hjoin N R hs sR fun p hp q hq hmu b hb hqb=>?_,fun p hp b hb=>?_⟩
 ·rcases hG k hm with h|h
  ·exact hn h
  ·omega
 ·rcases aK.1 hp with hp|hp
  ·exact hN p hp
  ·exact p.st (s.on p HH) fun b hb=>hk.block b (hRlt p hp b hb) (hMR p hp b hb)
 ·rcases hF p hp b hb with h|⟨m,hm,hmm,hmb⟩|⟨hpm,m,hm,hmm,hmb⟩
  ·have:=hRlt q hq b hqb;omega
  ·exact sMR m hm q hq (by simp [hmm]) b hmb hqb
  ·have hqm:q.mu=true:=by simpa [hpm] using hmu
   rcases aK.1 hm with hm|hm
   ·exact sMR m hm q hq (by simp [hqm]) b hmb hqb
   ·-- two pieces of R
    have:∀(R:List Pc),Sc R->∀m∈R,∀q∈R,m.mu=false->q.mu=true->∀b∈m.F,b ∉ q.F:=by
     intro R
     induction R with
     | nil=>intro _ m hm;simp at hm
     | cons x R ih =>
      intro hs m hm q hq h1 h2 b hb hqb;rcases aH.1 hm with e|hm2
      ·subst e;rcases aH.1 hq with e|hq2
       ·subst e;rw [h1] at h2;cases h2
       ·exact hs.1 q hq2 (by simp [h2]) b hb hqb
      ·rcases aH.1 hq with e|hq2
       ·subst e;exact hs.1 m hm2 (by simp [h2]) b hqb hb
       ·exact ih hs.2 m hm2 q hq2 h1 h2 b hb hqb
    exact this R sR m hm q hq hmm hqm b hmb hqb
 ·rcases aK.1 hp with hp|hp
  ·rcases hF p hp b hb with h|⟨m,hm,hmm,hmb⟩|⟨hpm,m,hm,hmm,hmb⟩
   ·right;left;exact bG s.I0.size h
   ·rcases s.Acu m (by simp [hm]) b hmb with h|h|⟨h,_⟩
    ·exact .inl h
    ·exact .inr (.inl h)
    ·rw [hmm] at h;cases h
   ·rcases s.Acu m hm b hmb with h|h|⟨_,h⟩
    ·exact .inl h
    ·exact .inr (.inl h)
    ·exact .inr (.inr ⟨hpm,h⟩)
  ·exact s.Acu p HH b hb
end
abbrev Fr:=List (Nat × Value)
def Rg:Fr->Nat->Option Value
 | [],_=>none
 | (k,v)::r,t=>bif Nat.beq k t then some v else Rg r t
def ev (fr:Fr):Operand->Option Value
 | .tmp t=>Rg fr t
 | .const v=>some v
 | .global g=>some (.pointer (some ⟨g,0,none⟩))
 | .func f=>some (.func (.func f) #[] #[])
inductive Evs (fr:Fr):List Operand->am->Prop
 | nil:Evs fr [] []
 | cons {x v xs vs}:ev fr x=some v->Evs fr xs vs->Evs fr (x::xs) (v::vs)
structure Ag (n:Nat) (fr:Fr) (a:Act):Prop where
 df:a.defers=[]
 sz:a.tmps.size=n
 at_:∀t v,Rg fr t=some v->a.tmps[t]?=some v
theorem Ag.ev {n fr a x v} (h:Ag n fr a) (hx:ev fr x=some v):a.eval x=v:=by
 cases x with
 | tmp t=>have:=h.at_ t v hx;simp [Act.eval,fh,this]
 | const u=>simp [Go.Proofs.YtkoldibamfjghaaGreatDoor.ev] at hx;subst hx;rfl
 | global g=>simp [Go.Proofs.YtkoldibamfjghaaGreatDoor.ev] at hx;subst hx;rfl
 | func f=>simp [Go.Proofs.YtkoldibamfjghaaGreatDoor.ev] at hx;subst hx;rfl
theorem Ag.evs {n fr a xs vs} (h:Ag n fr a) (hx:Evs fr xs vs):xs.map a.eval=vs:=by
 induction hx with
 | nil=>rfl
 | cons hx _ ih=>simp [h.ev hx,ih]
theorem Ut (k:Nat) (v:Value) (r:Fr) (t:Nat):Rg ((k,v)::r) t=if k=t then some v else Rg r t:=by
 show (bif Nat.beq k t then some v else Rg r t)=_;by_cases h:k=t
 ·subst h;simp
 ·have:Nat.beq k t=false:=by
   cases hb:Nat.beq k t
   ·rfl
   ·exact absurd (Nat.eq_of_beq_eq_true hb) h
  rw [this,aC h];rfl
theorem Ag.put {n fr a d v} (h:Ag n fr a) (hd:Nat.blt d n=true):Ag n ((d,v)::fr) (a.put (some d) v):=by
 have hd':d < n:=by simpa using hd
 refine ⟨h.df,by simp [Act.put,h.sz],fun t u hu=>?_⟩;rw [Ut] at hu;show (a.tmps.setIfInBounds d v)[t]?=_;rw [Array.getElem?_setIfInBounds]
 split at hu
 ·rename_i e;subst e;simp at hu;subst hu;rw [aJ rfl,aJ (by rw [h.sz];exact hd')]
 ·rename_i e;rw [aC e];exact h.at_ t u hu
inductive Mi (fr:Fr):Fr->Prop
 | nil:Mi fr []
 | cons {t v r}:Rg fr t=some v->Mi fr r->Mi fr ((t,v)::r)
theorem Mi.Rg {fr fr':Fr} (h:Mi fr fr'):∀t v,Rg fr' t=some v->Rg fr t=some v:=by
 induction h with
 | nil=>intro t v hv;cases hv
 | cons h1 _ ih =>
  intro t v hv;rw [Ut] at hv
  split at hv
  ·rename_i e;subst e;rw [<-hv];exact h1
  ·exact ih t v hv
theorem Ag.sub {n fr fr' a} (h:Ag n fr a) (hs:Mi fr fr'):Ag n fr' a:=⟨h.df,h.sz,fun t v hv=>h.at_ t v (hs.Rg t v hv)⟩
structure Cx where
 P:Program
 G:aq
 D:aq
 w0:World
 n:Nat
 R:Exit->Act->World->Prop
inductive It
 | cd (c:Code)
 | blk (id:Nat)
 | lp (I:Act->World->Prop)
def run (c:Cx):List It->Exit->Act->World->Prop
 | []=>c.R
 | .cd y::k=>Exit.then (fun a w=>y.wp c.P (run c k) a w) (run c k)
 | .blk id::k=>Exit.inBlock id (run c k)
 | .lp I::k=>Exit.then I (run c k)
inductive Gl
 | By (k:List It) (x:Code)
 | list (k:List It) (ops:Array Oper) (l:List Oper)
 | norm (k:List It)
 | exit (k:List It) (id:Nat)
 | fin (e:Exit)
 | dx (k:List It) (H0:List Pc) (X:List Nat) (ops:Array Oper) (f:Nat) (listed:Array Bool)
 | dk (i:Nat) (k:List It) (H0:List Pc) (X:List Nat) (ops:Array Oper) (f:Nat) (listed:Array Bool)
def Gl.sem (c:Cx):Gl->Act->World->Prop
 | .By k x,a,w=>x.wp c.P (run c k) a w
 | .list k ops l,a,w=>wpList c.P ops (run c k) l a w
 | .norm k,a,w=>run c k .normal a w
 | .exit k id,a,w=>run c k (.exit id) a w
 | .fin e,a,w=>c.R e a w
 | .dx k H0 X ops f listed,a,w=>Ez c.P .any ops (run c k) (Ob H0) (fun i=>X.contains i) f listed a w
 | .dk i k H0 X ops f listed,a,w=>(X.contains i=false->Ob H0 w)/\Ez c.P .any ops (run c k) (Ob H0) (fun i=>X.contains i) f listed a w
structure T (c:Cx) (fr:Fr) (H:List Pc) (Φ:Gl):Prop where
 h:∀a w,St c.G c.D c.w0 H w->Ag c.n fr a->Φ.sem c a w
theorem Ae1 (c:Cx):∀(k:List It),run c k .ret=c.R .ret
 | []=>rfl
 | .cd _::k=>Ae1 c k
 | .blk _::k=>Ae1 c k
 | .lp _::k=>Ae1 c k
theorem Mg (c:Cx) (ch:List PanicEntry):∀(k:List It),run c k (.panic ch)=c.R (.panic ch)
 | []=>rfl
 | .cd _::k=>Mg c ch k
 | .blk _::k=>Mg c ch k
 | .lp _::k=>Mg c ch k
inductive Lc:List Pc->List Pc->Prop
 | nil {A}:Lc A []
 | cons {A p R B}:C2 A p R->Lc R B->Lc A (p::B)
section
variable {c:Cx} {fr:Fr} {H:List Pc} {k:List It} {Φ:Gl}
theorem Lc.st {G D w0 w} {H H':List Pc} (h:Lc H H'):∀{X:List Pc},St G D w0 H w->Sc X->(∀p∈X,∀q∈H,Adf p q)->(∀p∈X,p.P w/\∀b∈p.F,b∈G\/w0.heap.size<=b\/(p.mu=false/\b∈D)) ->
  (∀q∈H',q∈H)/\Sc H':=by
 induction h with
 | nil=>intro X _ _ _ _;exact ⟨FB,trivial⟩
 | @cons A p R B hp hs ih =>
  intro X s hX hXa hXp;have s1:=s.pick hp;have ⟨h1,h2⟩:=ih (X:=[]) s1.tail trivial FB FB;exact ⟨fun q hq=>by
   rcases aH.1 hq with rfl|hq
   ·exact hp.mem
   ·exact hp.sub q (h1 q hq),fun q hq=>s1.sep.1 q (h1 q hq),h2⟩
theorem St.sub {G D w0 w} {H H':List Pc} (s:St G D w0 H w) (h:Lc H H'):St G D w0 H' w :=
 have ⟨h1,h2⟩:=h.st (X:=[]) s trivial FB FB
 ⟨s.I0,fun p hp=>s.on p (h1 p hp),h2,fun p hp=>s.Acu p (h1 p hp)⟩
theorem Bgo (H':List Pc) (h:T c fr H' Φ) (hs:Lc H H':=by repeat (first|exact Lc.nil|refine Lc.cons HJ ?_)):T c fr H Φ:=.mk fun a w s g=>h.h a w (s.sub hs) g
theorem Vy {p:Pc} (h:T c fr H Φ):T c fr (p::H) Φ:=.mk fun a w s g=>h.h a w s.tail g
/-! the rules of control -/
theorem Og {x y:Code} (h:T c fr H (.By (.cd y::k) x)):T c fr H (.By k (Code.seq x y)):=.mk fun a w s g=>wp_seq (h.h a w s g)
theorem Ww (h:T c fr H (.norm k)):T c fr H (.By k Code.skip):=.mk fun a w s g=>wp_skip (h.h a w s g)
theorem Bde (h:T c fr H (.fin .ret)):T c fr H (.By k Code.ret):=.mk fun a w s g=>wp_ret (by rw [Ae1];exact h.h a w s g)
theorem Awn {id:Nat} (h:T c fr H (.exit k id)):T c fr H (.By k (Code.exit id)):=.mk fun a w s g=>wp_exit (h.h a w s g)
theorem Tq {id:Nat} {x:Code} (h:T c fr H (.By (.blk id::k) x)):T c fr H (.By k (Code.block id x)):=.mk fun a w s g=>wp_block (h.h a w s g)
theorem Amk {id:Nat} {l:List Oper} (h:T c fr H (.list k l.toArray l)):T c fr H (.By k (Code.region id l.toArray false)):=.mk fun a w s g=>wp_region_lit (h.h a w s g)
theorem c_t {x:Operand} {y z:Code} (hc:ev fr x=some (.bool true)) (h:T c fr H (.By k y)):T c fr H (.By k (Code.cond x y z)):=.mk fun a w s g=>wp_cond_true (g.ev hc) (h.h a w s g)
theorem c_f {x:Operand} {y z:Code} (hc:ev fr x=some (.bool false)) (h:T c fr H (.By k z)):T c fr H (.By k (Code.cond x y z)):=.mk fun a w s g=>wp_cond_false (g.ev hc) (h.h a w s g)
theorem A4 {x:Operand} {y z:Code} {p:Prop} {_:Decidable p} (hc:ev fr x=some (.bool (decide p))) (h1:p->T c fr H (.By k y)) (h2:¬p->T c fr H (.By k z)) :
  T c fr H (.By k (Code.cond x y z)):=.mk fun a w s g=>by
 by_cases hp:p
 ·exact wp_cond_true (by rw [g.ev hc,av hp]) ((h1 hp).h a w s g)
 ·exact wp_cond_false (by rw [g.ev hc,ay hp]) ((h2 hp).h a w s g)
theorem Ys {y:Code} (h:T c fr H (.By k y)):T c fr H (.norm (.cd y::k)):=⟨h.h⟩
theorem Agl {id:Nat} (h:T c fr H (.norm k)):T c fr H (.norm (.blk id::k)):=⟨h.h⟩
theorem Bgd (h:T c fr H (.fin .normal)):T c fr H (.norm []):=⟨h.h⟩
theorem Bf4 {y:Code} {id:Nat} (h:T c fr H (.exit k id)):T c fr H (.exit (.cd y::k) id):=⟨h.h⟩
theorem Bf5 {I:Act->World->Prop} {id:Nat} (h:T c fr H (.exit k id)):T c fr H (.exit (.lp I::k) id):=⟨h.h⟩
theorem Bdg {id:Nat} (h:T c fr H (.norm k)):T c fr H (.exit (.blk id::k) id):=.mk fun a w s g=>by
 show (if id=id then run c k .normal a w else run c k (.exit id) a w);rw [aJ rfl];exact h.h a w s g
theorem Awu {id id':Nat} (hne:Nat.beq id' id=false) (h:T c fr H (.exit k id')):T c fr H (.exit (.blk id::k) id'):=.mk fun a w s g=>by
 show (if id'=id then run c k .normal a w else run c k (.exit id') a w);rw [aC (fun e=>by rw [e] at hne;simp at hne)];exact h.h a w s g
theorem U5 {ops:Array Oper} (h:T c fr H (.norm k)):T c fr H (.list k ops []):=⟨h.h⟩
/-! loops -/
theorem Agg {p:Nat->Prop}:∀n,p n->∃m,p m/\∀j,p j->m<=j:=fun n=>by
 induction n using Nat.strongRecOn with
 | _ n ih =>
  intro hn;by_cases h:∃j,j < n/\p j
  ·obtain ⟨j,hj,hp⟩:=h;exact ih j hj hp
  ·exact ⟨n,hn,fun j hj=>Nat.le_of_not_lt fun hl=>h ⟨j,hl,hj⟩⟩
theorem Avn {P:Program} {Q:Exit->Act->World->Prop} {x:Code} {a:Act} {w:World} (I:Nat->Act->World->Prop) (m:Nat) (h0:I m a w)
  (round:∀m a w,I m a w->x.wp P (Exit.then (fun a' w'=>∃m',m' < m/\I m' a' w') Q) a w):(Code.loop x).wp P Q a w:=by
 classical
 refine wp_loop (fun a w=>∃m,I m a w) (fun a w=>if h:∃m,I m a w then Classical.choose (Agg (p:=fun m=>I m a w) h.choose h.choose_spec) else 0) ⟨m,h0⟩ fun a w hI=>?_;have hl:=Classical.choose_spec (Agg (p:=fun m=>I m a w) hI.choose hI.choose_spec);refine wp_mono (round _ a w hl.1) fun e a' w' he=>?_;cases e with
 | normal =>
  obtain ⟨m',hm,hi⟩:=he;have hex:∃m,I m a' w':=⟨m',hi⟩;refine ⟨hex,?_⟩;simp only [ei hI,ei hex];exact Nat.lt_of_le_of_lt ((Classical.choose_spec (Agg (p:=fun m=>I m a' w') hex.choose hex.choose_spec)).2 m' hi) hm
 | _=>exact he
def LpI {σ:Type} (c:Cx) (fr':σ->Fr) (H':σ->List Pc) (C:σ->Prop) (μ:σ->Nat) (m:Nat) (a:Act) (w:World):Prop:=∃s,C s/\μ s=m/\St c.G c.D c.w0 (H' s) w/\Ag c.n (fr' s) a
def LpN {σ:Type} (c:Cx) (fr':σ->Fr) (H':σ->List Pc) (C:σ->Prop) (μ:σ->Nat) (m:Nat) (a:Act) (w:World):Prop:=∃m',m' < m/\LpI c fr' H' C μ m' a w
theorem Awo {x:Code} {σ:Type} (fr':σ->Fr) (H':σ->List Pc) (C:σ->Prop) (μ:σ->Nat) (s0:σ) (h0:C s0)
  (round:∀s,C s->T c (fr' s) (H' s) (.By (.lp (LpN c fr' H' C μ (μ s))::k) x)) (hf:Mi fr (fr' s0):=by repeat (first|exact Mi.nil|refine Mi.cons FL ?_)) (hH:Lc H (H' s0):=by repeat (first|exact Lc.nil|refine Lc.cons HJ ?_)):T c fr H (.By k (Code.loop x)):=.mk fun a w st g=>by
 refine Avn (LpI c fr' H' C μ) (μ s0) ⟨s0,h0,rfl,st.sub hH,g.sub hf⟩ fun m a w hI=>?_;obtain ⟨s,hC,rfl,hst,hg⟩:=hI;exact (round s hC).h a w hst hg
theorem Ca {σ:Type} {fr':σ->Fr} {H':σ->List Pc} {C:σ->Prop} {μ:σ->Nat} {m:Nat} (s:σ) (hC:C s) (hm:μ s < m) (hf:Mi fr (fr' s):=by repeat (first|exact Mi.nil|refine Mi.cons FL ?_)) (hH:Lc H (H' s):=by repeat (first|exact Lc.nil|refine Lc.cons HJ ?_)) :
  T c fr H (.norm (.lp (LpN c fr' H' C μ m)::k)):=.mk fun _ _ st g=>⟨μ s,hm,s,hC,rfl,st.sub hH,g.sub hf⟩
end
class OneC (P:Program) (t:TypeId):Prop where
 d:∃d,P.underlying t=some d/\d.isRow=false
 s:(P.info? t).map (·.size)=some 1
class AggC (P:Program) (t:TypeId) (n:outParam Nat):Prop where
 d:∃d,P.underlying t=some d/\d.isRow=true
 s:(P.info? t).map (·.size)=some n
class FldC (P:Program) (t:TypeId) (i:Nat) (off:outParam Nat) (ft:outParam TypeId) (n:outParam Nat):Prop where
 f:∃fs f,P.underlying t=some (.struct fs)/\fs[i]?=some f/\f.offset=off/\f.type=ft
 s:(P.info? ft).map (·.size)=some n
 p:n≠0
class SlC (P:Program) (t:TypeId) (e:outParam TypeId) (n:outParam Nat):Prop where
 u:P.underlying t=some (.slice e)
 s:(P.info? e).map (·.size)=some n
class IntC (P:Program) (t:TypeId) (k:outParam IntKind):Prop where
 u:P.underlying t=some (.int k)
class StrC (P:Program) (t:TypeId):Prop where
 u:P.underlying t=some .string
class BoolC (P:Program) (t:TypeId):Prop where
 u:P.underlying t=some .bool
def Ga (g o j:Nat):Value:=.pointer (some ⟨g,o+j,none⟩)
structure Yd (P:Program) (n:Nat) (fr:Fr) (H:List Pc) (o:Op) (ty:TypeId) (v:Value):Prop where
 h:∀(a:Act) (w:World) (d:Option Tmp) (pos:String) (Cc:Array Edge) (g:Option (Nat × Bool)),Ag n fr a->Ob H w->(execOp a.eval ⟨d,o,ty,pos,Cc,g⟩).run P w=.ok (.value v) w
theorem Adv (a b:au):(a.toList == b.toList)=decide (a=b):=by
 rw [cG];simp only [eQ,aF,ByteArray.toList_eq];exact ⟨fun h=>dz (fG h),fun h=>by rw [h]⟩
section
variable {P:Program} {n:Nat} {fr:Fr} {H:List Pc} {ty:TypeId} {v u:Value} {x y z:Operand}
theorem Ms {t:TypeId} {n:Nat} (h:(P.info? t).map (·.size)=some n) (w:World):(sizeOf t).run P w=.ok n w:=by
 obtain ⟨i,hi,hn⟩:=cw.1 h;simp [sizeOf,typeInfo,hi,hn]
theorem Am5 {t:TypeId} (h:∃d,P.underlying t=some d/\d.isRow=false) (w:World):(isAgg t).run P w=.ok false w:=by
 obtain ⟨d,hu,hd⟩:=h;unfold isAgg;rw [Sem.run_bind,run_underlying hu w];cases d <;> simp_all
theorem Att {t:TypeId} (h:∃d,P.underlying t=some d/\d.isRow=true) (w:World):(isAgg t).run P w=.ok true w:=by
 obtain ⟨d,hu,hd⟩:=h;unfold isAgg;rw [Sem.run_bind,run_underlying hu w];cases d <;> simp_all
theorem Bc4 (hx:ev fr x=some v):Yd P n fr H (.move x) ty v:=.mk fun a w d pos Cc g hA _=>by
 simp [execOp,hA.ev hx]
theorem Avp (hx:ev fr x=some v):Yd P n fr H (.assign x) ty v:=.mk fun a w d pos Cc g hA _=>by
 simp [execOp,hA.ev hx]
theorem Avr (hc:ev fr x=some (.bool true)) (hy:ev fr y=some v):Yd P n fr H (.pick x y z) ty v:=.mk fun a w d pos Cc g hA _=>by
 simp [execOp,hA.ev hc,hA.ev hy,asBool]
theorem Avq (hc:ev fr x=some (.bool false)) (hz:ev fr z=some v):Yd P n fr H (.pick x y z) ty v:=.mk fun a w d pos Cc g hA _=>by
 simp [execOp,hA.ev hc,hA.ev hz,asBool]
theorem Abe {w:World} {g t o j:Nat} {A cs B:am} (h:(Pc.row g t o A cs B).P w) (hv:cs[j]?=some v):w.cell? ⟨g,o+j,none⟩=some v:=by
 obtain ⟨rfl,h⟩:=h;rw [h.cellMid rfl (co.1 hv).1];exact hv
theorem If {w:World} {g t o:Nat} {A cs B:am} (h:(Pc.row g t o A cs B).P w):w.rangeAt g o cs:=fun _ _ hv=>Abe h hv
theorem Au3 {w:World} {g t o:Nat} {A cs B:am} (h:(Pc.row g t o A cs B).P w):w.there g o cs.length:=fun j hj =>
 ⟨by rw [Abe h (aD hj)];rfl,h.2.frozen _⟩
theorem Agi {t:TypeId} [hT:OneC P t] {w:World} {a:Addr} (h:w.cell? a=some v):(Instr.loadAt t (.pointer (some a))).run P w=.ok v w:=by
 simp [Instr.loadAt,Instr.sureAddr,loadVar,Am5 hT.d,h]
theorem Bg0 {t g o j tt:Nat} {A cs B:am} [OneC P t] (hx:ev fr x=some (Ga g o j)) (hm:Pc.row g tt o A cs B∈H) (hv:cs[j]?=some v):Yd P n fr H (.load t x) ty v:=.mk fun a w d pos Cc gd hA hH=>by
 simp [execOp,hA.ev hx,Ga,Agi (Abe (hH _ hm) hv)]
theorem Bfg {t b o j:Nat} {cs:am} [OneC P t] (hx:ev fr x=some (Ga b o j)) (hm:Pc.cel b o cs∈H) (hv:cs[j]?=some v):Yd P n fr H (.load t x) ty v:=.mk fun a w d pos Cc gd hA hH=>by
 simp [execOp,hA.ev hx,Ga,Agi ((hH _ hm).2 j v hv)]
inductive Cut:am->Nat->Nat->am->Prop
 | zero {l}:Cut l 0 0 []
 | one {x l m r}:Cut l 0 m r->Cut (x::l) 0 (m+1) (x::r)
 | skip {x l j m r}:Cut l j m r->Cut (x::l) (j+1) m r
theorem Cut.get {l j m r} (h:Cut l j m r):r.length=m/\∀(i:Nat) u,r[i]?=some u->l[j+i]?=some u:=by
 induction h with
 | zero=>exact ⟨rfl,fun i u h=>by simp at h⟩
 | one _ ih =>
  refine ⟨by simp [ih.1],fun i u h=>?_⟩;cases i with
  | zero=>simpa using h
  | succ i=>have:=ih.2 i u FJ;simpa [fw] using this
 | skip _ ih =>
  refine ⟨ih.1,fun i u h=>?_⟩;have:=ih.2 i u h
  rwa [show ∀a b:Nat,a+1+b=a+b+1 by omega,bH]
theorem Agh {t m:Nat} [hT:AggC P t m] {w:World} {b o j:Nat} {cs r:am} (h:w.rangeAt b o cs) (hc:Cut cs j m r):(Instr.loadAt t (.pointer (some ⟨b,o+j,none⟩))).run P w=.ok (.agg r.toArray) w:=by
 obtain ⟨d,hu,hd⟩:=hT.d;exact run_loadAt_mid w b (o+j) t r d (fun i u hu=>by rw [fw];exact h _ _ (hc.get.2 i u hu)) hu hd (by rw [hT.s,hc.get.1])
theorem Bff {t g o j tt m:Nat} {A cs B r:am} [AggC P t m] (hx:ev fr x=some (Ga g o j)) (hm:Pc.row g tt o A cs B∈H) (hc:Cut cs j m r):Yd P n fr H (.load t x) ty (.agg r.toArray):=.mk fun a w d pos Cc gd hA hH=>by
 simp [execOp,hA.ev hx,Ga,Agh (If (hH _ hm)) hc]
theorem Bc2 {t b o j m:Nat} {cs r:am} [AggC P t m] (hx:ev fr x=some (Ga b o j)) (hm:Pc.cel b o cs∈H) (hc:Cut cs j m r):Yd P n fr H (.load t x) ty (.agg r.toArray):=.mk fun a w d pos Cc gd hA hH=>by
 simp [execOp,hA.ev hx,Ga,Agh (hH _ hm).2 hc]
theorem Bgv {t i g o j off ft m:Nat} [hF:FldC P t i off ft m] (hx:ev fr x=some (Ga g o j)):Yd P n fr H (.fieldAddr t x i) ty (Ga g o (j+off)):=.mk fun a w d pos Cc gd hA _=>by
 obtain ⟨fs,f,hu,hf,rfl,rfl⟩:=hF.f;simp [execOp,hA.ev hx,Ga,Instr.fieldAt,run_underlying hu,hf,Instr.sureAddr,fieldPlace,Ms hF.s,hF.p,Addr.add_lit,fw]
theorem Bfd {t i off ft m:Nat} {l:am} [hF:FldC P t i off ft m] [hT:OneC P ft] (hx:ev fr x=some (.agg l.toArray)) (hv:l[off]?=some v):Yd P n fr H (.field t x i) ty v:=.mk fun a w d pos Cc gd hA _=>by
 obtain ⟨fs,f,hu,hf,rfl,rfl⟩:=hF.f;simp [execOp,hA.ev hx,Instr.field,run_underlying hu,hf,asAgg,part,Am5 hT.d,hv]
theorem Bc1 {t i off ft m m':Nat} {l r:am} [hF:FldC P t i off ft m] [hT:AggC P ft m'] (hx:ev fr x=some (.agg l.toArray)) (hc:Cut l off m' r):Yd P n fr H (.field t x i) ty (.agg r.toArray):=.mk fun a w d pos Cc gd hA _=>by
 obtain ⟨fs,f,hu,hf,rfl,rfl⟩:=hF.f;have e:l.toArray.extract f.offset (f.offset+m')=r.toArray:=by
  obtain ⟨h1,h2⟩:=hc.get;apply fG;simp only [List.extract_toArray,List.extract_eq_take_drop,Nat.add_sub_cancel_left];apply dr;intro i;rw [List.getElem?_take]
  split
  ·rename_i hi;have hr:r[i]?=some (r[i]'EZ):=aD EZ;rw [dD,hr];exact h2 i _ hr
  ·rw [br EZ]
 simp [execOp,hA.ev hx,Instr.field,run_underlying hu,hf,asAgg,part,Att hT.d,Ms hT.s,<-e]
theorem Bfp {g o j:Nat} (hx:ev fr x=some (Ga g o j)):Yd P n fr H (.nilCheck x) ty (Ga g o j):=.mk fun a w d pos Cc gd hA _=>by
 simp [execOp,hA.ev hx,Ga]
theorem Bc5 {f:Nat} {l:Array Value} (hx:ev fr x=some (.func (.func f) #[] l)):Yd P n fr H (.nilCheck x) ty (.func (.func f) #[] l):=.mk fun a w d pos Cc gd hA _=>by
 simp [execOp,hA.ev hx]
theorem Bgz {t e m b o len cp:Nat} {kd:IntKind} {i:Int} [hS:SlC P t e m] (hx:ev fr x=some (ab (some ⟨b,o,none⟩) len cp)) (hy:ev fr y=some (.int kd i)) (h0:0<=i) (h1:i < len) :
  Yd P n fr H (.indexAddr t x y) ty (Ga b (o+i.toNat * m) 0):=.mk fun a w d pos Cc gd hA _=>by
 simp [execOp,hA.ev hx,hA.ev hy,Instr.indexAt,run_underlying hS.u,asIntOf,h0,h1,Ms hS.s,Addr.add_lit,Ga]
theorem Bai {t:Nat} {kd:IntKind} {i:Int} {s:au} [hS:StrC P t] (hx:ev fr x=some (af s)) (hy:ev fr y=some (.int kd i)) (h0:0<=i) (h1:i.toNat < s.size) :
  Yd P n fr H (.index t x y) ty (.int .u8 (s[i.toNat]'h1).toNat):=.mk fun a w d pos Cc gd hA _=>by
 simp [execOp,hA.ev hx,hA.ev hy,Instr.index,run_underlying hS.u,asIntOf,h0,h1]
theorem Bgu {i:Nat} {l:am} (hx:ev fr x=some (.tuple l.toArray)) (hv:l[i]?=some v):Yd P n fr H (.extract x i) ty v:=.mk fun a w d pos Cc gd hA _=>by
 simp [execOp,hA.ev hx,Instr.extract,hv]
theorem Bfq {b:Bool} {t:Nat} (hx:ev fr x=some (.bool b)):Yd P n fr H (.unOp .not t x) ty (.bool (!b)):=.mk fun a w d pos Cc gd hA _=>by
 simp [execOp,hA.ev hx,Op.unary]
theorem Bc6 {p:Prop} {_:Decidable p} {t:Nat} (hx:ev fr x=some (.bool (decide p))):Yd P n fr H (.unOp .not t x) ty (.bool (decide (¬p))):=.mk fun a w d pos Cc gd hA _=>by
 simp [execOp,hA.ev hx,Op.unary]
theorem Bfm {a:Int} {t:Nat} (hx:ev fr x=some (aa a)) (h0:-9223372036854775808<=-a) (h1:-a<=9223372036854775807):Yd P n fr H (.unOp .neg t x) ty (aa (-a)):=.mk fun a w d pos Cc gd hA _=>by
 simp [execOp,hA.ev hx,Op.unary,Op.intArith,IntWalk.i64_in _ ⟨h0,h1⟩]
section
variable {a b:Int} {t t':TypeId} (hx:ev fr x=some (aa a)) (hy:ev fr y=some (aa b))
include hx hy
theorem Be9 (h0:-9223372036854775808<=a+b) (h1:a+b<=9223372036854775807):Yd P n fr H (.binOp .add t x y t') ty (aa (a+b)):=.mk fun a w d pos Cc gd hA _=>by
 simp [execOp,hA.ev hx,hA.ev hy,eqGuard_add,binOp_add,Op.intArith,IntWalk.i64_in _ ⟨h0,h1⟩]
theorem Bfu (h0:-9223372036854775808<=a - b) (h1:a - b<=9223372036854775807):Yd P n fr H (.binOp .sub t x y t') ty (aa (a - b)):=.mk fun a w d pos Cc gd hA _=>by
 simp [execOp,hA.ev hx,hA.ev hy,eqGuard_sub,binOp_sub,Op.intArith,IntWalk.i64_in _ ⟨h0,h1⟩]
theorem Bfk (h0:-9223372036854775808<=a * b) (h1:a * b<=9223372036854775807):Yd P n fr H (.binOp .mul t x y t') ty (aa (a * b)):=.mk fun a w d pos Cc gd hA _=>by
 simp [execOp,hA.ev hx,hA.ev hy,eqGuard_mul,binOp_mul,Op.intArith,IntWalk.i64_in _ ⟨h0,h1⟩]
theorem Bfr (h0:0<=a) (h2:a<=9223372036854775807) (h1:0 < b):Yd P n fr H (.binOp .quo t x y t') ty (aa (a / b)):=.mk fun c w d pos Cc gd hA _=>by
 have hle:a / b<=a:=Int.ediv_le_self _ h0;have hge:0<=a / b:=Int.ediv_nonneg h0 EZ;have hb:b≠0:=EZ
 simp [execOp,hA.ev hx,hA.ev hy,eqGuard_quo,binOp_quo,Op.intDiv,hb,fq h0,IntWalk.i64_in _ ⟨(by omega:-9223372036854775808<=a / b),(by omega:a / b<=9223372036854775807)⟩]
theorem Bfs (h0:0<=a) (h1:0 < b):Yd P n fr H (.binOp .rem t x y t') ty (aa (a % b)):=.mk fun c w d pos Cc gd hA _=>by
 have hb:b≠0:=EZ
 simp [execOp,hA.ev hx,hA.ev hy,eqGuard_rem,binOp_rem,Op.intDiv,hb,fu h0]
end
section
variable {a b:Int} {k:IntKind} {t t':TypeId} (hx:ev fr x=some (.int k a)) (hy:ev fr y=some (.int k b))
include hx hy
theorem Bfj {ts:Array TypeId}:Yd P n fr H (.call { callee:=.builtin .min,args:=#[x,y],argTypes:=ts }) ty (.int k (min a b)):=.mk fun c w d pos Cc gd hA _=>by
 have e:(if b < a then b else a)=min a b:=by split <;> omega
 simp [execOp,hA.ev hx,hA.ev hy,resolve,invoke,builtin,run_min_int2,e]
theorem Bfi {ts:Array TypeId}:Yd P n fr H (.call { callee:=.builtin .max,args:=#[x,y],argTypes:=ts }) ty (.int k (max a b)):=.mk fun c w d pos Cc gd hA _=>by
 have e:(if a < b then b else a)=max a b:=by split <;> omega
 simp [execOp,hA.ev hx,hA.ev hy,resolve,invoke,builtin,run_max_int2,e]
theorem Bg3:Yd P n fr H (.binOp .lss t x y t') ty (.bool (decide (a < b))):=.mk fun a w d pos Cc gd hA _=>by
 simp [execOp,hA.ev hx,hA.ev hy,eqGuard_lss,binOp_lss]
theorem Bg1:Yd P n fr H (.binOp .leq t x y t') ty (.bool (decide (a<=b))):=.mk fun a w d pos Cc gd hA _=>by
 simp [execOp,hA.ev hx,hA.ev hy,eqGuard_leq,binOp_leq]
theorem Bgy:Yd P n fr H (.binOp .gtr t x y t') ty (.bool (decide (b < a))):=.mk fun a w d pos Cc gd hA _=>by
 simp [execOp,hA.ev hx,hA.ev hy,eqGuard_gtr,binOp_gtr]
theorem Bgx:Yd P n fr H (.binOp .geq t x y t') ty (.bool (decide (b<=a))):=.mk fun a w d pos Cc gd hA _=>by
 simp [execOp,hA.ev hx,hA.ev hy,eqGuard_geq,binOp_geq]
theorem Bgt:Yd P n fr H (.binOp .eql t x y t') ty (.bool (decide (a=b))):=.mk fun a w d pos Cc gd hA _=>by
 simp [execOp,hA.ev hx,hA.ev hy,eqGuard_at_int,binOp_eql];rfl
theorem Bg4:Yd P n fr H (.binOp .neq t x y t') ty (.bool (decide (¬a=b))):=.mk fun a w d pos Cc gd hA _=>by
 simp [execOp,hA.ev hx,hA.ev hy,eqGuard_at_int,binOp_neq,bne];rfl
end
section
variable {a b:au} {t t':TypeId} (hx:ev fr x=some (af a)) (hy:ev fr y=some (af b))
include hx hy
theorem Hi (h:a.size+b.size<=9223372036854775807):Yd P n fr H (.binOp .add t x y t') ty (af (a++b)):=.mk fun c w d pos Cc gd hA _=>by
 have:¬((a.size:Int)+b.size > 9223372036854775807):=EZ
 simp [execOp,hA.ev hx,hA.ev hy,eqGuard_add,binOp,Op.stringOp,this]
theorem Bfc:Yd P n fr H (.binOp .eql t x y t') ty (.bool (decide (a=b))):=.mk fun c w d pos Cc gd hA _=>by
 simp [execOp,hA.ev hx,hA.ev hy,eqGuard_at_string,binOp,Op.stringOp,Adv a b]
theorem Bfo:Yd P n fr H (.binOp .neq t x y t') ty (.bool (decide (¬a=b))):=.mk fun c w d pos Cc gd hA _=>by
 simp [execOp,hA.ev hx,hA.ev hy,eqGuard_at_string,binOp,Op.stringOp,Adv a b]
end
theorem Afw {t:TypeId} [hB:BoolC P t] (a b:Bool) (w:World):(Op.equal t (.bool a) (.bool b)).run P w=.ok (a == b) w:=by
 unfold Op.equal;rw [show Op.maxDepth=9999+1 from rfl];unfold Op.equalIn;rw [Sem.run_bind,run_underlying hB.u w];rfl
theorem Bfb {a b:Bool} {t t':TypeId} [hB:BoolC P t] (hx:ev fr x=some (.bool a)) (hy:ev fr y=some (.bool b)):Yd P n fr H (.binOp .eql t x y t') ty (.bool (decide (a=b))):=.mk fun c w d pos Cc gd hA _=>by
 have e:binOp .eql t (.bool a) (.bool b)=(do pure (.bool (<-Op.equal t (.bool a) (.bool b)))):=rfl;exact EB
theorem Bfl {a b:Bool} {t t':TypeId} [hB:BoolC P t] (hx:ev fr x=some (.bool a)) (hy:ev fr y=some (.bool b)):Yd P n fr H (.binOp .neq t x y t') ty (.bool (decide (¬a=b))):=.mk fun c w d pos Cc gd hA _=>by
 have e:binOp .neq t (.bool a) (.bool b)=(do pure (.bool (!(<-Op.equal t (.bool a) (.bool b))))):=rfl;exact EB
theorem Ao4 {k k':IntKind} {a:Int} {s t:TypeId} [hS:IntC P s k'] [hD:IntC P t .i64] (hx:ev fr x=some (.int k a)) (h0:-9223372036854775808<=a) (h1:a<=9223372036854775807):Yd P n fr H (.convert s t x) ty (aa a):=.mk fun c w d pos Cc gd hA _=>by
 simp [execOp,hA.ev hx,convert,run_underlying hS.u,run_underlying hD.u,Conv.intToInt,IntWalk.i64_in _ ⟨h0,h1⟩]
theorem Bfh {a:aj} {len cp t e m:Nat} [hS:SlC P t e m] (hx:ev fr x=some (ab a len cp)):Yd P n fr H (.call { callee:=.builtin .len,args:=#[x],argTypes:=#[t] }) ty (aa len):=.mk fun c w d pos Cc gd hA _=>by
 simp [execOp,hA.ev hx,resolve,invoke,builtin,Builtin.len_,run_underlying hS.u,goInt]
theorem Bc3 {s:au} {t:Nat} [hS:StrC P t] (hx:ev fr x=some (af s)):Yd P n fr H (.call { callee:=.builtin .len,args:=#[x],argTypes:=#[t] }) ty (aa s.size):=.mk fun c w d pos Cc gd hA _=>by
 simp [execOp,hA.ev hx,resolve,invoke,builtin,run_len_string (h:=hS.u),goInt]
theorem O0 {t e m i:Nat} {a:aj} {len cp:Nat} {z:Int} [hS:SlC P t e m] (hx:ev fr x=some (ab a len cp)) (hy:ev fr y=some (aa z)) (hz:z=(i:Int)) (hi:i<=cp) (hc:cp<=9223372036854775807):Yd P n fr H (.slice t x none (some y) none) ty (ab a i cp):=.mk fun ac w d pos Cc gd hA _=>by
 subst hz;have he2:P.elem t=e:=JS
 have h3:(Instr.sliceAt t (ab a len cp) none (some (aa (i:Int))) none).run P w=.ok (ab a i cp) w:=by
  rw [run_sliceAt_slice (h:=GF),run_slice_h (ht:=GF) (h0:=EZ) (h2:=EZ),he2,Ms hS.s];have h0:a.map (fun b=>b.add 0)=a:=by cases a <;> simp [Addr.add]
  simp [Result.andThen,sliced,h0]
 exact BJ
theorem Bgw {f:Nat} {caps:List Operand} {vs:am} (hc:Evs fr caps vs):Yd P n fr H (.makeFunc (.func f) #[] caps.toArray) ty (.func (.func f) #[] vs.toArray):=.mk fun c w d pos Cc gd hA _=>by
 simp [execOp,Instr.makeFunc,hA.evs hc]
end
theorem Ml (w:World) (g:Nat):∀(c:am) (w:World) (p:Nat),Nw w g p c=w.setCells g p c
 | [],_,_=>rfl
 | _::r,_,_=>Ml w g r _ _
theorem M7 (z:Array Value) (n:Nat):(Builtin.zeroCells z n).toList.length=n * z.size:=by simp [Builtin.zeroCells]
theorem Ah9 (z:Array Value) (h:∀u∈z,u.oneCell'=true) (n:Nat):∀u∈(Builtin.zeroCells z n).toList,u.oneCell'=true:=by
 intro u hu;simp only [Builtin.zeroCells,Array.toList_map,bL] at hu;obtain ⟨i,hi,rfl⟩:=hu;simp at hi;have hz:0 < z.size:=Nat.pos_of_ne_zero fun e=>by rw [e,Nat.mul_zero] at hi;omega
 have hm:i % z.size < z.size:=Nat.mod_lt _ hz;rw [getElem!_pos z _ hm];exact h _ (Array.getElem_mem _)
theorem Th {P:Program} (w:World) (t e ty:TypeId) (z:Value) (ht:P.underlying t=some (.slice e)) (hv:∀w,(zeroValue e).run P w=.ok z w) (h1:∀u∈z.cells,u.oneCell'=true) (b o n c:Nat) (hn:0 < n)
  (hc:∀j,j < n * z.cells.size->(w.cell? ⟨b,o+j,none⟩).isSome=true) (hf:∀j,j < n * z.cells.size->w.frozen? ⟨b,o+j,none⟩=false) :
  (Builtin.clear_ #[t] ty #[ab (some ⟨b,o,none⟩) n c]).run P w=.ok (.tuple #[]) (w.setCells b o (Builtin.zeroCells z.cells n).toList):=by
 have hst:=run_storeCells_cells (P:=P) b o (Builtin.zeroCells z.cells n).toList 0 w (by rw [M7];simpa using hc) (by rw [M7];simpa using hf) (Ah9 _ h1 _);simp only [bR] at hst;obtain ⟨m,rfl⟩:∃m,n=m+1:=⟨n - 1,EZ⟩;simp [Builtin.clear_,run_underlying ht,hv,hst]
theorem V9 {P:Program} {e:TypeId} {z:Value} {size bytes:Nat} (h:(P.info? e).map (fun i=>(i.zero,i.size,i.bytes))=some (some z,size,bytes)):∀w,(zeroValue e).run P w=.ok z w:=fun w=>by
 obtain ⟨i,hi,hzz⟩:=cw.1 h;simp only [Prod.mk.injEq] at hzz;obtain ⟨hz, -, -⟩:=hzz;simp [zeroValue,typeInfo,hi,hz]
theorem X7 {α:Type} {p:α->Bool} {xs:List α} (h:xs.any p=true):∃k,∃hk:k < xs.length,Re p xs=k/\p xs[k]=true/\(xs.take k).filter (fun x=>!p x)=xs.take k:=by
 have hk:xs.findIdx p < xs.length:=eD (by obtain ⟨x,hx,hp⟩:=cJ.1 h;exact ⟨x,hx,hp⟩);refine ⟨_,hk,by unfold Re;rw [aJ h],fZ (w:=hk),?_⟩;rw [dy];intro x hx;obtain ⟨i,hi,rfl⟩:=cM.1 hx;have:=List.not_of_lt_findIdx (p:=p) (xs:=xs) (show i < xs.findIdx p by omega);exact EX
theorem Aaw {α:Type} {p:α->Bool} {xs:List α} (h:¬xs.any p=true):Re p xs=-1/\xs.filter (fun x=>!p x)=xs:=by
 refine ⟨by unfold Re;rw [aC h],?_⟩;rw [dy];intro x hx;cases hp:p x
 ·rfl
 ·exact absurd (cJ.2 ⟨x,hx,hp⟩) h
theorem Gz {α:Type} {q:α->Bool} {xs:List α} {j:Nat} (h:j < xs.length) (hq:q xs[j]=true):(xs.take (j+1)).filter q=(xs.take j).filter q++[xs[j]]:=by
 rw [aO h,bW];simp [hq]
theorem Da {α:Type} {q:α->Bool} {xs:List α} {j:Nat} (h:j < xs.length) (hq:q xs[j]=false):(xs.take (j+1)).filter q=(xs.take j).filter q:=by
 rw [aO h,bW];simp [hq]
theorem Ag6 {w:World} {g off n:Nat} {c c':am} (h:c.length=n) (h':c'.length=n) (hc:∀j,j < n->w.cell? ⟨g,off+j,none⟩=c[j]?) (hc':∀j,j < n->w.cell? ⟨g,off+j,none⟩=c'[j]?):c=c':=by
 apply dr;intro j;by_cases hj:j < n
 ·rw [<-hc j hj,hc' j hj]
 ·rw [br EZ,br EZ]
def Gap {α:Type} (O:Bt α) (t:TypeId) (w:World) (g n cap:Nat) (ys:List α) (m:Nat) (zs:List α) (F:aq):Prop :=
 ∃c1 jk c3 rest G1 G3,n=ys.length+m+zs.length/\Ib w g t (c1++jk++c3++rest)/\n<=cap/\cap<=maxLen/\c1.length+jk.length+c3.length+rest.length=cap * O.sz/\jk.length=m * O.sz /\
  Cz O w c1 ys G1/\Cz O w c3 zs G3/\F=g::(G1++G3)/\F.Nodup
section
variable {α:Type} {O:Bt α} {t:TypeId} {w:World} {g n cap m:Nat} {ys zs:List α} {F:aq}
theorem Gap.start {a:aj} {n:Nat} {xs:List α} (h:Ow O t w (ab a n cap) xs F) (hn:F.Nodup) (e:xs=ys++zs) (h0:0 < xs.length):∃g,a=some ⟨g,0,none⟩/\n=xs.length/\Gap O t w g n cap ys 0 zs F:=by
 subst e;rcases h with ⟨_,h1,_⟩|⟨g,cap',cs,rest,G,hv,hr,h3,h4,h5,hf,rfl⟩
 ·rw [h1] at h0;simp at h0
 ·cases hv;obtain ⟨c1,c2,G1,G2,rfl,rfl,f1,f2⟩:=hf.split;refine ⟨g,rfl,rfl,c1,[],c2,rest,G1,G2,FB,GK,h3,h4,by simpa using h5,FB,f1,f2,rfl,hn⟩
theorem Gap.skip {x:α} (h:Gap O t w g n cap ys m (x::zs) F):∃F',Gap O t w g n cap ys (m+1) zs F'/\∀b∈F',b∈F:=by
 obtain ⟨c1,jk,c3,rest,G1,G3,hn,hr,h1,h2,h3,h4,f1,⟨c,c4,Fx,G4,rfl,rfl,hx,f3⟩,rfl,hnd⟩:=h;have hl:=O.len hx;refine ⟨g::(G1++G4),⟨c1,jk++c,c4,rest,G1,G4,by simp at hn ⊢;omega,GK,h1,h2,by simp at h3 ⊢;omega,by rw [aA,h4,hl,cH];simp,f1,f3,rfl,?_⟩,by intro b hb;simp at hb ⊢;rcases hb with hb|hb|hb <;> simp [hb]⟩;simp only [dl,bN,aK,not_or] at hnd ⊢;exact ⟨⟨hnd.1.1,hnd.1.2.2⟩,hnd.2.1,hnd.2.2.1.2.1,fun a ha b hb=>hnd.2.2.2 a ha b (.inr hb)⟩
theorem Gap.first {x:α} (h:Gap O t w g n cap ys m (x::zs) F):∃c Fx,O.L8 w c x Fx/\(∀b∈Fx,b∈F)/\∀j,j < O.sz->w.cell? ⟨g,(ys.length+m) * O.sz+j,none⟩=c[j]?:=by
 obtain ⟨c1,jk,c3,rest,G1,G3,hn,hr,h1,h2,h3,h4,f1,⟨c,c4,Fx,G4,rfl,rfl,hx,f3⟩,rfl,hnd⟩:=h;have hl:=O.len hx;refine ⟨c,Fx,hx,fun b hb=>by simp [hb],fun j hj=>?_⟩;have hr':Ib w g t ((c1++jk)++c++(c4++rest)):=GK
 exact hr'.cellMid (by rw [aA,f1.len,h4,cH]) EZ
theorem Gap.move {x:α} (hm:0 < m) (h:Gap O t w g n cap ys m (x::zs) F) :
  (∀j,j < O.sz->(∃u,w.cell? ⟨g,ys.length * O.sz+j,none⟩=some u)/\w.frozen? ⟨g,ys.length * O.sz+j,none⟩=false) /\
  ∃c Fx,O.L8 w c x Fx/\(∀b∈Fx,b∈F)/\(∀j,j < O.sz->w.cell? ⟨g,(ys.length+m) * O.sz+j,none⟩=c[j]?)/\∀w',Below w.heap.size w w'->∃F',Gap O t (Nw w' g (ys.length * O.sz) c) g n cap (ys++[x]) m zs F'/\∀b∈F',b∈F:=by
 obtain ⟨c,Fx,hx0,hxF,hcell⟩:=h.first
 obtain ⟨c1,jk,c3,rest,G1,G3,hn,hr,h1,h2,h3,h4,f1,⟨c',c4,Fx',G4,rfl,rfl,hx,f3⟩,rfl,hnd⟩:=h;have hl:=O.len hx;have hl0:=O.len hx0;obtain ⟨m',rfl⟩:∃m',m=m'+1:=⟨m - 1,EZ⟩;have hjk:jk=jk.take O.sz++jk.drop O.sz:=FB
 have hjl:(jk.take O.sz).length=O.sz:=by rw [aP,h4,cH];omega
 have hA:=f1.len;have hr':Ib w g t (c1++jk.take O.sz++(jk.drop O.sz++c'++c4++rest)):=by
  have e:c1++jk.take O.sz++(jk.drop O.sz++c'++c4++rest)=c1++jk++(c'++c4)++rest:=by
   simp only [aN];rw [<-aN (jk.take O.sz),bo]
  rw [e];exact hr
 have hcc:c=c':=by
  apply dr ;intro j;by_cases hj:j < O.sz
  ·have hr2:Ib w g t ((c1++jk)++c'++(c4++rest)):=GK
   rw [<-hcell j hj,hr2.cellMid (by rw [aA,hA,h4,<-cH]) EZ]
  ·rw [br EZ,br EZ]
 refine ⟨fun j hj=>⟨⟨_,by rw [hr'.cellMid (j:=j) EZ EZ,aD EZ]⟩,hr'.frozen _⟩,c,Fx',hcc▸hx,fun b hb=>by simp [hb],hcell,fun w' hb=>?_⟩;subst hcc;have hgl:=hr.lt;have hnd':=hnd;simp only [dl,bN,aK,not_or] at hnd';have hrow:=(hr'.below hb).put c (jk.take O.sz) (p:=ys.length * O.sz) hA.symm EZ;have hfr:∀b,b < w.heap.size->b≠g->(Nw w' g (ys.length * O.sz) c).heap[b]?=w.heap[b]?:=fun b hb1 hb2=>(Nx c w' _ b hb2).trans (hb.block b hb1);have n1:∀b∈G1,b≠g:=fun b hb e=>hnd'.1.1 (e▸hb)
 have n2:∀b∈Fx',b≠g:=fun b hb e=>hnd'.1.2.1 (e▸hb);have n3:∀b∈G4,b≠g:=fun b hb e=>hnd'.1.2.2 (e▸hb);refine ⟨g::((G1++Fx')++G4),⟨c1++c,jk.drop O.sz++c,c4,rest,G1++Fx',G4,by simp at hn ⊢;omega,?_,h1,h2,?_,?_,?_,f3.frame fun b hb=>hfr b (f3.lt b hb) (n3 b hb),rfl,?_⟩,by intro b hb;simpa [or_assoc] using hb⟩
 ·simpa using hrow
 ·simp [h4,cH] at h3 ⊢;omega
 ·simp [h4,cH];omega
 ·exact (f1.frame fun b hb=>hfr b (f1.lt b hb) (n1 b hb)).append (Cz.one (O.frame hx fun b hb=>hfr b (O.lt hx b hb) (n2 b hb)))
 ·simpa using hnd
theorem Gap.below {w':World} (h:Gap O t w g n cap ys m zs F) (hb:Below w.heap.size w w'):Gap O t w' g n cap ys m zs F:=by
 obtain ⟨c1,jk,c3,rest,G1,G3,hn,hr,h1,h2,h3,h4,f1,f3,hF,hnd⟩:=h;exact ⟨c1,jk,c3,rest,G1,G3,hn,hr.below hb,h1,h2,h3,h4,f1.frame fun b h=>hb.block b (f1.lt b h),f3.frame fun b h=>hb.block b (f3.lt b h),hF,hnd⟩
theorem Gap.caps (h:Gap O t w g n cap ys m zs F):n=ys.length+m+zs.length/\n<=cap/\cap<=maxLen/\g < w.heap.size/\g∈F/\F.Nodup:=by
 obtain ⟨c1,jk,c3,rest,G1,G3,hn,hr,h1,h2,h3,h4,f1,f3,rfl,hnd⟩:=h;exact ⟨hn,h1,h2,hr.lt,FB,hnd⟩
theorem Gap.done {z:Array Value} (hz:z.size=O.sz) (h:Gap O t w g n cap ys m [] F) :
  (∀j,j < m * O.sz->(w.cell? ⟨g,ys.length * O.sz+j,none⟩).isSome=true/\w.frozen? ⟨g,ys.length * O.sz+j,none⟩=false) /\
  ∃F',Ow O t (w.setCells g (ys.length * O.sz) (Builtin.zeroCells z m).toList) (ab (some ⟨g,0,none⟩) ys.length cap) ys F'/\F'.Nodup/\∀b∈F',b∈F:=by
 obtain ⟨c1,jk,c3,rest,G1,G3,hn,hr,h1,h2,h3,h4,f1,⟨rfl,rfl⟩,rfl,hnd⟩:=h;have hA:=f1.len;simp only [bg] at hr hnd;have hr':Ib w g t (c1++jk++rest):=hr;refine ⟨fun j hj=>⟨?_,hr'.frozen _⟩,g::G1,?_,hnd,FB⟩
 ·rw [hr'.cellMid (j:=j) EZ EZ,aD EZ];rfl
 ·rw [<-Ml w];have hrow:=hr'.put (Builtin.zeroCells z m).toList jk (p:=ys.length * O.sz) hA.symm (by rw [M7,h4,hz]);have hng:g ∉ G1:=by simp at hnd;exact hnd.1
  refine .inr ⟨g,cap,c1,(Builtin.zeroCells z m).toList++rest,G1,rfl,by simpa using hrow,by simp at hn;omega,h2,?_,f1.frame fun b hb=>Nx _ _ _ _ fun e=>hng (e▸hb),rfl⟩;rw [aA,M7,hz,<-h4];simp at h3;omega
end
class ZC (P:Program) (t:TypeId) (zs:outParam (am)):Prop where
 z:∃v,(P.info? t).map (·.zero)=some (some v)/\v.cells=zs.toArray
class ElT (P:Program) (e:TypeId) (z:outParam Value) (n:outParam Nat) (by_:outParam Nat):Prop where
 i:(P.info? e).map (fun i=>(i.zero,i.size,i.bytes))=some (some z,n,by_)
 s:z.cells.size=n
class BldC (P:Program) (t:TypeId) (pl:outParam (List (Nat × Nat))) (zs:outParam (am)):Prop where
 b:∀parts,P.built t parts=Instr.fill (pl.toArray[·]?) zs.toArray parts
def Qx (P:Program) (f:FuncId):Bool:=match P.funcs[f]? with
 | some fn=>!(fn.name == "runtime.NumGoroutine") && !fn.body.isNone
 | none=>false
theorem Vc {P:Program} {f:FuncId} (h:Qx P f=true):Yo P f:=by
 unfold Qx at h
 split at h
 ·rename_i fn hf;simp only [aw,bA] at h;exact .mk' hf h.1 h.2
 ·cases h
structure Ef (c:Cx) (fr:Fr) (H:List Pc) (o:Oper) (Φ:Gl):Prop where
 h:∀Q a w,St c.G c.D c.w0 H w->Ag c.n fr a->o.wp c.P a w (Φ.sem c) Q
structure Cl (c:Cx) (fr:Fr) (H:List Pc) (d:Nat) (f:FuncId) (vs:am) (Φ:Gl):Prop where
 h:∀w,St c.G c.D c.w0 H w->∃R:Ending->World->Prop,Calls c.P f vs.toArray w R/\∀e w',R e w'->∃v,e=.returned v/\∀a,Ag c.n ((d,v)::fr) a->Φ.sem c a w'
theorem O3 {c:Cx} {fr:Fr} {H:List Pc} {o:Oper} {Φ:Gl} (h:∀Q a w,St c.G c.D c.w0 H w->Ag c.n fr a->Oper.upon c.P o a (Φ.sem c) Q ((execOp a.eval o).run c.P w)):Ef c fr H o Φ:=⟨h⟩
inductive Rpl:List Pc->Pc->Pc->List Pc->Prop
 | here {p q R}:Rpl (p::R) p q (q::R)
 | there {x p q R S}:Rpl R p q S->Rpl (x::R) p q (x::S)
theorem Rpl.picks {H p q S} (h:Rpl H p q S):∃R,C2 H p R/\C2 S q R:=by
 induction h with
 | here=>exact ⟨_,.here,.here⟩
 | there _ ih=>obtain ⟨R,h1,h2⟩:=ih;exact ⟨_,.there h1,.there h2⟩
theorem C2.unsep {H p R} (h:C2 H p R) (hs:Sc (p::R)):Sc H:=by
 induction h with
 | here=>exact hs
 | @there x p R R' h ih =>
  have h2:=Sc.perm2 hs;have h3:=ih h2.2;refine ⟨fun q hq=>?_,h3⟩;have:∀{A:List Pc} {p B},C2 A p B->∀q∈A,q=p\/q∈B:=by
   intro A p B h
   induction h with
   | here=>intro q hq;simpa using hq
   | there _ ih =>
    intro q hq;rcases aH.1 hq with rfl|hq
    ·simp
    ·rcases ih q hq with h|h <;> simp [h]
  rcases this h q hq with rfl|hq
  ·exact h2.1 _ FB
  ·exact h2.1 _ GB
theorem C2.or {A:List Pc} {p B} (h:C2 A p B):∀q∈A,q=p\/q∈B:=by
 induction h with
 | here=>intro q hq;simpa using hq
 | there _ ih =>
  intro q hq;rcases aH.1 hq with rfl|hq
  ·simp
  ·rcases ih q hq with h|h <;> simp [h]
theorem St.unpick {G D w0 H p R w} (s:St G D w0 (p::R) w) (h:C2 H p R):St G D w0 H w :=
 ⟨s.I0,fun q hq=>by rcases h.or q hq with rfl|hq;exact s.on _ FB;exact s.on _ GB,h.unsep s.sep,fun q hq=>by rcases h.or q hq with rfl|hq;exact s.Acu _ FB;exact s.Acu _ GB⟩
theorem St.rpl {G D w0 H p q S} {w w':World} (s:St G D w0 H w) (h:Rpl H p q S) (hm:p.mu=true) (hF:∀b∈q.F,b∈p.F\/w.heap.size<=b) (hk:Ei p.F w w') (hq:q.P w'):St G D w0 S w':=by
 obtain ⟨R,h1,h2⟩:=h.picks;refine St.unpick (R:=R) ?_ h2;refine St.turn (M:=[p]) (R:=R) (N:=[q]) (s.pick h1) (by simpa [List.filter,hm,fp] using hk) (by intro x hx;simp at hx;subst hx;exact hq) ⟨FB,trivial⟩ fun x hx b hb=>?_;simp at hx;subst hx;rcases hF b hb with h|h
 ·exact .inr (.inl ⟨p,FB,hm,h⟩)
 ·exact .inl h
theorem St.add {G D w0 H} {w w':World} {N:List Pc} (s:St G D w0 H w) (hb:Below w.heap.size w w') (hN:Ob N w') (hs:Sc N) (hF:∀p∈N,∀b∈p.F,w.heap.size<=b\/(p.mu=false/\∃q∈H,q.mu=false/\b∈q.F)):St G D w0 (N++H) w' :=
 St.turn (M:=[]) (R:=H) (N:=N) s (by simpa [fp] using Ei.ofBelow hb) hN hs fun p hp b hb=>by
  rcases hF p hp b hb with h|h
  ·exact .inl h
  ·exact .inr (.inr FJ)
theorem St.below {G D w0 H} {w w':World} (s:St G D w0 H w) (hb:Below w.heap.size w w'):St G D w0 H w':=s.add (N:=[]) hb (by intro p hp;simp at hp) trivial FB
theorem Wu (w:World) (o:Obj):Below w.heap.size w (w.alloc o):=(Below.refl _ _).alloc (aL _) o
theorem St.new {G D w0 H} {w:World} (s:St G D w0 H w) (t:TypeId) (cs:am):St G D w0 (.row w.heap.size t 0 [] cs []::H) (w.alloc (.cells cs.toArray t)) :=
 s.add (N:=[.row w.heap.size t 0 [] cs []]) (Wu _ _) (by intro p hp;simp at hp;subst hp;exact ⟨rfl,by simpa using Ib.made w t cs⟩) ⟨FB,trivial⟩ (by intro p hp b hb;simp at hp;subst hp;simp [Pc.F] at hb;subst hb;exact .inl (aL _))
inductive Put:am->Nat->am->am->Prop
 | zero {cs}:Put cs 0 [] cs
 | one {x cs u l r}:Put cs 0 l r->Put (x::cs) 0 (u::l) (u::r)
 | skip {x cs j l r}:Put cs j l r->Put (x::cs) (j+1) l (x::r)
theorem Put.parts {cs j l r} (h:Put cs j l r):∃A o B,cs=A++o++B/\r=A++l++B/\A.length=j/\o.length=l.length:=by
 induction h with
 | @zero cs=>exact ⟨[],[],cs,FB,FB,rfl,rfl⟩
 | @one x cs u l r _ ih =>
  obtain ⟨A,o,B,rfl,rfl,hA,ho⟩:=ih;have:A=[]:=bF hA;subst this;exact ⟨[],x::o,B,FB,FB,rfl,by simp [ho]⟩
 | @skip x cs j l r _ ih =>
  obtain ⟨A,o,B,rfl,rfl,hA,ho⟩:=ih;exact ⟨x::A,o,B,FB,FB,by simp [hA],ho⟩
theorem Ah7 {P:Program} {t:TypeId} {n:Nat} (hs:(P.info? t).map (·.size)=some n) {w:World} {b o:Nat} {v:Value} {l:am} (hv:v.cells=l.toArray) (hl:l.length=n) (ht:w.there b o n) (h1:l.all (·.oneCell')=true) :
  (Instr.storeAt t (.pointer (some ⟨b,o,none⟩)) v).run P w=.ok () (w.setCells b o l):=by
 subst hl;have:=run_storeCells_cells (P:=P) b o l 0 w (fun j hj=>by simpa using (ht j hj).1) (fun j hj=>by simpa using (ht j hj).2) (fun v hv=>aW.1 h1 v hv);simp only [bR] at this;simp [Instr.storeAt,Instr.sureAddr,storeVar,Ms hs,hv,this]
theorem Bcm {w:World} {g t o j:Nat} {A cs B l r:am} (h:(Pc.row g t o A cs B).P w) (hp:Put cs j l r):(Pc.row g t o A r B).P (w.setCells g (o+j) l)/\Ei [g] w (w.setCells g (o+j) l):=by
 obtain ⟨rfl,h⟩:=h;obtain ⟨X,y,Y,rfl,rfl,rfl,hy⟩:=hp.parts;have h2:Ib w g t ((A++X)++y++(Y++B)):=FJ
 have h3:=Ib.put l y h2 (p:=A.length+X.length) FB hy.symm;have hk:=Lt (g:=g) l w (A.length+X.length);rw [Ml w g l w] at h3 hk;exact ⟨⟨rfl,HX⟩,hk⟩
def Fn (P:Program) (f:FuncId) (args:am) (A M:List Pc) {σ:Type} (C:σ->Prop) (v:σ->Value) (N:σ->List Pc):Prop :=
 ∀w,Ob (M++A) w->Sc (M++A)->Calls P f args.toArray w fun e w'=>∃s,C s/\e=.returned (v s)/\Ob (N s) w'/\Sc (N s)/\Ei (fp M) w w' /\
  ∀p∈N s,∀b∈p.F,w.heap.size<=b\/(∃q∈M,b∈q.F)\/(p.mu=false/\∃q∈A,b∈q.F)
inductive Kj:List Pc->List Pc->List Pc->Prop
 | nil {H}:Kj H [] H
 | cons {H p R M S}:C2 H p R->Kj R M S->Kj H (p::M) S
theorem Kj.st {G D w0 H M R w} (h:Kj H M R):∀{X:List Pc},St G D w0 (X++H) w->St G D w0 (X++(M++R)) w:=by
 induction h with
 | nil=>intro X s;simpa using s
 | @cons H p R M S hp _ ih =>
  intro X s;have h1:∀(X:List Pc),C2 (X++H) p (X++R):=by
   intro X;induction X with
   | nil=>exact hp
   | cons x X ih=>exact .there ih
  have h2:∀(X:List Pc),C2 (X++(p::(M++S))) p (X++(M++S)):=by
   intro X;induction X with
   | nil=>exact .here
   | cons x X ih=>exact .there ih
  have s1:=s.pick (h1 X);have s2:=ih (X:=p::X) (by simpa using s1);exact St.unpick (by simpa using s2) (h2 X)
inductive Mp:List Pc->List Pc->Prop
 | nil {H}:Mp [] H
 | cons {p A H}:p∈H->Mp A H->Mp (p::A) H
theorem Mp.all {A H} (h:Mp A H):∀p∈A,p∈H:=by
 induction h with
 | nil=>simp
 | cons h _ ih=>intro q hq;rcases aH.1 hq with rfl|hq;exact h;exact ih q hq
section
variable {c:Cx} {fr:Fr} {H:List Pc} {k:List It} {Φ:Gl} {ops:Array Oper} {rest:List Oper} {d:Nat} {o:Op} {ty:TypeId} {pos:String} {Cc:Array Edge} {v u:Value} {x y:Operand}
theorem Bhw {o:Oper} (h:Ef c fr H o (.list k ops rest)) (hg:o.guard=none:=by rfl):T c fr H (.list k ops (o::rest)):=.mk fun a w s g =>
 wpList_plain hg fun K hK=>Oper.wp_mono hK (h.h _ a w s g)
theorem Bdh {gd:Option (Nat × Bool)} (hy:Yd c.P c.n fr H o ty v) (hd:Nat.blt d c.n=true) (h:T c ((d,v)::fr) H Φ):Ef c fr H ⟨some d,o,ty,pos,Cc,gd⟩ Φ:=O3 fun Q a w s g=>by
 rw [hy.h a w (some d) pos Cc gd g s.on];exact h.h _ _ s (g.put hd)
structure On (c:Cx) (fr:Fr) (H:List Pc) (od:Option Tmp) (o:Op) (ty:TypeId) (Φ:Gl):Prop where
 h:∀pos Cc gd,Ef c fr H ⟨od,o,ty,pos,Cc,gd⟩ Φ
theorem wO {od:Option Tmp} (h:On c fr H od o ty (.list k ops rest)):T c fr H (.list k ops (⟨od,o,ty,pos,Cc,none⟩::rest)):=Bhw (h.h pos Cc none)
theorem oc (hd:Nat.blt d c.n=true) (hy:Yd c.P c.n fr H o ty v) (h:T c ((d,v)::fr) H Φ):On c fr H (some d) o ty Φ:=⟨fun _ _ _=>Bdh hy hd h⟩
/-! guards of a plain region -/
theorem U6 {a:Act} {j t:Nat} {b b':Bool} {od:Option Tmp} (ht:(ops[j]?).bind (·.dst)=some t) (hl:Rg fr t=some (.bool b')) (g:Ag c.n fr a):Region.wanted ⟨od,o,ty,pos,Cc,some (j,b)⟩ (yielded ops a.tmps)=(b' == b):=by
 simp only [Region.wanted,yielded,ht,dh,g.at_ t _ hl];cases b <;> cases b' <;> rfl
theorem Aq7 {j t:Nat} {b:Bool} {od:Option Tmp} (ht:(ops[j]?).bind (·.dst)=some t) (hl:Rg fr t=some (.bool b)) (h:T c fr H (.list k ops (⟨od,o,ty,pos,Cc,none⟩::rest))) :
  T c fr H (.list k ops (⟨od,o,ty,pos,Cc,some (j,b)⟩::rest)):=.mk fun a w s g=>by
 have h1:=h.h a w s g;simp only [Gl.sem] at h1 ⊢;unfold wpList at h1 ⊢;rw [U6 (c:=c) ht hl g];simp only [Region.wanted,if_true,beq_self_eq_true] at h1 ⊢;exact h1
theorem Aq6 {j t:Nat} {b b':Bool} (ht:(ops[j]?).bind (·.dst)=some t) (hl:Rg fr t=some (.bool b')) (hb:(b' == b)=false) (hd:Nat.blt d c.n=true) (h:T c ((d,undef)::fr) H (.list k ops rest)) :
  T c fr H (.list k ops (⟨some d,o,ty,pos,Cc,some (j,b)⟩::rest)):=.mk fun a w s g=>by
 simp only [Gl.sem];unfold wpList;rw [U6 (c:=c) ht hl g,hb];simp only [ef,if_false];exact h.h _ _ s (g.put hd)
theorem Aq8 {j t:Nat} {b:Bool} (ht:(ops[j]?).bind (·.dst)=some t) (hl:Rg fr t=some undef) (hd:Nat.blt d c.n=true) (h:T c ((d,undef)::fr) H (.list k ops rest)) :
  T c fr H (.list k ops (⟨some d,o,ty,pos,Cc,some (j,b)⟩::rest)):=.mk fun a w s g=>by
 have hw:Region.wanted ⟨some d,o,ty,pos,Cc,some (j,b)⟩ (yielded ops a.tmps)=false:=by
  simp only [Region.wanted,yielded,ht,dh,g.at_ t _ hl];rfl
 simp only [Gl.sem];unfold wpList;rw [hw];simp only [ef,if_false];exact h.h _ _ s (g.put hd)
theorem D6 {j t:Nat} {b:Bool} {od:Option Tmp} {p:Prop} {_:Decidable p} (ht:(ops[j]?).bind (·.dst)=some t) (hl:Rg fr t=some (.bool (decide p))) (h1:p->T c ((t,.bool true)::fr) H (.list k ops (⟨od,o,ty,pos,Cc,some (j,b)⟩::rest))) (h2:¬p->T c ((t,.bool false)::fr) H (.list k ops (⟨od,o,ty,pos,Cc,some (j,b)⟩::rest))) :
  T c fr H (.list k ops (⟨od,o,ty,pos,Cc,some (j,b)⟩::rest)):=.mk fun a w s g=>by
 by_cases hp:p
 ·rw [av hp] at hl;exact (h1 hp).h a w s ⟨g.df,g.sz,fun i z hz=>by rw [Ut] at hz;split at hz;(rename_i e;subst e;rw [<-hz,g.at_ _ _ hl]);exact g.at_ i z hz⟩
 ·rw [ay hp] at hl;exact (h2 hp).h a w s ⟨g.df,g.sz,fun i z hz=>by rw [Ut] at hz;split at hz;(rename_i e;subst e;rw [<-hz,g.at_ _ _ hl]);exact g.at_ i z hz⟩
/-! memory -/
theorem Awv {t:TypeId} {zs:am} {gd:Option (Nat × Bool)} [hZ:ZC c.P t zs] (h:∀g,T c ((d,Ga g 0 0)::fr) (.row g t 0 [] zs []::H) Φ) (hd:Nat.blt d c.n=true:=by rfl):Ef c fr H ⟨some d,.alloc t,ty,pos,Cc,gd⟩ Φ:=O3 fun Q a w s g=>by
 obtain ⟨z,hz,hzc⟩:=hZ.z;obtain ⟨i,hi,hiz⟩:=cw.1 hz;have e:(execOp a.eval ⟨some d,.alloc t,ty,pos,Cc,gd⟩).run c.P w=.ok (.value (Ga w.heap.size 0 0)) (w.alloc (.cells zs.toArray t)):=by
  simp [execOp,Instr.alloc,zeroValue,typeInfo,hi,hiz,newVar,newRow,hzc,Ga]
 rw [e];exact (h _).h _ _ (s.new t zs) (g.put hd)
theorem Bd8 {t:TypeId} {l:am} {gd:Option (Nat × Bool)} (hx:ev fr x=some v) (hv:v.cells=l.toArray) (h:∀g,T c ((d,Ga g 0 0)::fr) (.row g t 0 [] l []::H) Φ) (hd:Nat.blt d c.n=true:=by rfl):Ef c fr H ⟨some d,.box t x,ty,pos,Cc,gd⟩ Φ:=O3 fun Q a w s g=>by
 have e:(execOp a.eval ⟨some d,.box t x,ty,pos,Cc,gd⟩).run c.P w=.ok (.value (Ga w.heap.size 0 0)) (w.alloc (.cells l.toArray t)):=by
  simp [execOp,Instr.box,g.ev hx,newVar,newRow,hv,Ga]
 rw [e];exact (h _).h _ _ (s.new t l) (g.put hd)
theorem Amr {t g tt o' j m:Nat} {A cs B l r:am} {S:List Pc} {gd:Option (Nat × Bool)} (hs:(c.P.info? t).map (·.size)=some m) (hx:ev fr x=some (Ga g o' j)) (hy:ev fr y=some v) (hv:v.cells=l.toArray) (hl:l.length=m) (h1:l.all (·.oneCell')=true)
  (hp:Put cs j l r) (hr:Rpl H (.row g tt o' A cs B) (.row g tt o' A r B) S) (h:T c fr S Φ):Ef c fr H ⟨none,.store t x y,ty,pos,Cc,gd⟩ Φ:=O3 fun Q a w s ag=>by
 have hP:(Pc.row g tt o' A cs B).P w:=by obtain ⟨R,h1,_⟩:=hr.picks;exact s.on _ h1.mem
 have ht:w.there g (o'+j) m:=fun i hi=>by
  obtain ⟨X,z,Y,rfl, -,rfl,hz⟩:=hp.parts;have:=Au3 hP (X.length+i) FF
  rwa [<-fw] at this
 have e:(execOp a.eval ⟨none,.store t x y,ty,pos,Cc,gd⟩).run c.P w=.ok .skip (w.setCells g (o'+j) l):=by
  simp [execOp,ag.ev hx,ag.ev hy,Ga,Ah7 hs hv hl ht h1]
 rw [e];have ⟨h2,h3⟩:=Bcm hP hp;exact h.h _ _ (s.rpl hr rfl (fun b hb=>.inl hb) h3 h2) ag
theorem Cm {t:TypeId} {zs:am} [hZ:ZC c.P t zs] (hd:Nat.blt d c.n=true) (h:∀g,T c ((d,Ga g 0 0)::fr) (.row g t 0 [] zs []::H) Φ):On c fr H (some d) (.alloc t) ty Φ:=⟨fun _ _ _=>Awv h hd⟩
theorem Bgj {t:TypeId} {l:am} (hd:Nat.blt d c.n=true) (hx:ev fr x=some v) (hv:v.cells=l.toArray) (h:∀g,T c ((d,Ga g 0 0)::fr) (.row g t 0 [] l []::H) Φ):On c fr H (some d) (.box t x) ty Φ:=⟨fun _ _ _=>Bd8 hx hv h hd⟩
theorem Ayc {t g tt o' j m:Nat} {A cs B l r:am} {S:List Pc} (hx:ev fr x=some (Ga g o' j)) (hy:ev fr y=some v) (hv:v.cells=l.toArray) (hs:(c.P.info? t).map (·.size)=some m) (hl:l.length=m) (hr:Rpl H (.row g tt o' A cs B) (.row g tt o' A r B) S) (hp:Put cs j l r) (h1:l.all (·.oneCell')=true) (h:T c fr S Φ):On c fr H none (.store t x y) ty Φ :=
 ⟨fun _ _ _=>Amr hs hx hy hv hl h1 hp hr h⟩
/-! calls -/
theorem Bdf {f:Nat} {aS:List Operand} {ts:Array TypeId} {vs:am} {gd:Option (Nat × Bool)} (h:Cl c fr H d f vs Φ) (ha:Evs fr aS vs) (hb:Qx c.P f=true) (hd:Nat.blt d c.n=true):Ef c fr H ⟨some d,.call { callee:=.value (.func f),args:=aS.toArray,argTypes:=ts },ty,pos,Cc,gd⟩ Φ:=O3 fun Q a w s g=>by
 have e:(execOp a.eval ⟨some d,.call { callee:=.value (.func f),args:=aS.toArray,argTypes:=ts },ty,pos,Cc,gd⟩).run c.P w=(callFunc f vs.toArray).run c.P w:=by
  simp [execOp,resolve,Deferred.ofValue,Act.eval,invoke,g.evs ha]
 rw [e];obtain ⟨R,hc,hk⟩:=h.h w s;refine (Vc hb).upon hc fun e w' hR=>?_;obtain ⟨v,he,hv⟩:=hk e w' hR;exact ⟨v,he,hv _ (g.put hd)⟩
theorem Aaq {f:Nat} {vs:am} {R:World->Ending->World->Prop} (hc:∀w,St c.G c.D c.w0 H w->Calls c.P f vs.toArray w (R w))
  (hk:∀w e w',St c.G c.D c.w0 H w->R w e w'->∃v,e=.returned v/\∀a,Ag c.n ((d,v)::fr) a->Φ.sem c a w'):Cl c fr H d f vs Φ:=⟨fun w s=>⟨R w,hc w s,fun e w' hR=>hk w e w' s hR⟩⟩
theorem cb {f:Nat} {vs:am} (hc:∀w,St c.G c.D c.w0 H w->Calls c.P f vs.toArray w (RB v w)) (h:T c ((d,v)::fr) H Φ):Cl c fr H d f vs Φ :=
 Aaq hc fun w e w' s ⟨he,hB⟩=>⟨v,he,fun a g=>h.h a w' (s.below hB) g⟩
theorem ce {f:Nat} {vs:am} (hc:∀w,St c.G c.D c.w0 H w->Calls c.P f vs.toArray w fun e w'=>e=.returned v/\w=w') (h:T c ((d,v)::fr) H Φ):Cl c fr H d f vs Φ :=
 Aaq hc fun w e w' s ⟨he,hB⟩=>⟨v,he,fun a g=>h.h a w' (hB▸s) g⟩
theorem cf_ {f:Nat} {vs:am} {A M R:List Pc} {σ:Type} {C:σ->Prop} {vv:σ->Value} {N:σ->List Pc} (hf:Fn c.P f vs A M C vv N) (h:∀s,C s->T c ((d,vv s)::fr) (N s++R) Φ)
  (hM:Kj H M R) (hA:Mp A R) (hmM:M.all (·.mu)=true) (hmA:A.all (fun p=>!p.mu)=true):Cl c fr H d f vs Φ :=
 have hMR:∀w,St c.G c.D c.w0 H w->St c.G c.D c.w0 (M++R) w:=fun w s=>by simpa using hM.st (X:=[]) HT
 have hmu:∀p∈M,p.mu=true:=fun p hp=>aW.1 hmM p hp;have hro:∀p∈A,p.mu=false:=fun p hp=>by simpa using aW.1 hmA p hp
 have hpre:∀w,St c.G c.D c.w0 H w->Ob (M++A) w/\Sc (M++A):=fun w s=>by
  have s2:=hMR w s;have hAR:=hA.all;refine ⟨fun p hp=>?_,?_⟩
  ·rcases aK.1 hp with hp|hp
   ·exact s2.on p HH
   ·exact s2.on p (by simp [hAR p hp])
  ·have:∀(M:List Pc),Sc (M++R)->Sc (M++A):=by
    intro M
    induction M with
    | nil =>
     intro _;have:∀(A:List Pc),(∀p∈A,p.mu=false)->Sc A:=by
      intro A
      induction A with
      | nil=>intro _;trivial
      | cons p A ih=>intro h;exact ⟨fun q hq hm=>by rw [h p FB,h q GB] at hm;simp at hm,ih fun q hq=>h q GB⟩
     exact this A hro
    | cons p M ih =>
     intro hs;exact ⟨fun q hq=>hs.1 q (by rcases aK.1 hq with h|h;simp [h];simp [hAR q h]),ih hs.2⟩
   exact this M s2.sep
 Aaq (R:=fun w e w'=>∃s,C s/\e=.returned (vv s)/\Ob (N s) w'/\Sc (N s)/\Ei (fp M) w w'/\∀p∈N s,∀b∈p.F,w.heap.size<=b\/(∃q∈M,b∈q.F)\/(p.mu=false/\∃q∈A,b∈q.F))
  (fun w s=>hf w (hpre w s).1 (hpre w s).2)
  (fun w e w' s ⟨z,hz,he,hN,hS,hK,hF⟩=>⟨_,he,fun a g=>(h z hz).h a w' (St.turn (hMR w s) (by rwa [dy.2 hmu]) hN hS fun p hp b hb=>by
   rcases hF p hp b hb with h|⟨q,hq,hqb⟩|⟨hp,q,hq,hqb⟩
   ·exact .inl h
   ·exact .inr (.inl ⟨q,hq,hmu q hq,hqb⟩)
   ·exact .inr (.inr ⟨hp,q,by simp [hA.all q hq],hro q hq,hqb⟩)) g⟩)
theorem Ap9 {f:Nat} {aS:List Operand} {ts:Array TypeId} {vs:am} (hd:Nat.blt d c.n=true) (hb:Qx c.P f=true) (ha:Evs fr aS vs) (h:Cl c fr H d f vs Φ):On c fr H (some d) (.call { callee:=.value (.func f),args:=aS.toArray,argTypes:=ts }) ty Φ:=⟨fun _ _ _=>Bdf h ha hb hd⟩
/-! a function's beginning and end -/
end
def Akh (P:Program) (w:World) (A M:List Pc) {σ:Type} (C:σ->Prop) (v:σ->Value) (N:σ->List Pc) (e:Ending) (w':World):Prop:=∃s,C s/\e=.returned (v s)/\Ob (N s) w'/\Sc (N s)/\Ei (fp M) w w' /\
  ∀p∈N s,∀b∈p.F,w.heap.size<=b\/(∃q∈M,b∈q.F)\/(p.mu=false/\∃q∈A,b∈q.F)
def Ami:Nat->am->Fr
 | _,[]=>[]
 | i,v::r=>(i,v)::Ami (i+1) r
theorem Auj (vs:am):∀i t v,Rg (Ami i vs) t=some v->i<=t/\vs[t - i]?=some v:=by
 induction vs with
 | nil=>intro i t v h;cases h
 | cons x r ih =>
  intro i t v h;unfold Ami at h;rw [Ut] at h
  split at h
  ·rename_i e;subst e;exact ⟨aL _,FJ⟩
  ·have ⟨h1,h2⟩:=ih (i+1) t v h;refine ⟨EZ,?_⟩;rw [show t - i=(t - (i+1))+1 by omega,bH];exact h2
theorem Aw2 {P:Program} {f:FuncId} {fn:Func} {cd:Code} {args:am} {A M:List Pc} {σ:Type} {C:σ->Prop} {v:σ->Value} {N:σ->List Pc} (hf:P.funcs[f]?=some fn) (hb:fn.body=some cd)
  (h:∀w,T ⟨P,fp M,fp A,w,fn.ntmps,bodyPost P fn (Akh P w A M C v N)⟩ (Ami 0 args) (M++A) (.By [] cd))
  (hn:args.length<=fn.ntmps) (hmA:A.all (fun p=>!p.mu)=true):Fn P f args A M C v N:=fun w hH hS=>by
 refine calls_of_wp hf hb ?_;have hro:∀p∈A,p.mu=false:=fun p hp=>by simpa using aW.1 hmA p hp
 refine (h w).h _ _ ⟨Ei.refl _ _,hH,hS,fun p hp b hb=>?_⟩ ⟨rfl,FF,fun t u hu=>?_⟩
 ·rcases aK.1 hp with hp|hp
  ·exact .inl (Rh.2 ⟨p,hp,hb⟩)
  ·exact .inr (.inr ⟨hro p hp,Rh.2 ⟨p,hp,hb⟩⟩)
 ·obtain ⟨-,h2⟩:=Auj args 0 t u hu;simp only [gA] at h2;show (args.toArray++Array.replicate (fn.ntmps - args.toArray.size) undef)[t]?=_;have ht:t < args.length:=(co.1 h2).1;rw [dL (by simpa using ht)];simpa using h2
inductive Res (P:Program) (fr:Fr) (H:List Pc):List ResultVar->am->Prop
 | nil:Res P fr H [] []
 | tmp {t v r vs}:Rg fr t=some v->Res P fr H r vs->Res P fr H (.tmp t::r) (v::vs)
 | agg {t ty m g o tt A cs B r vs}:AggC P ty m->Rg fr t=some (Ga g o 0)->Pc.row g tt o A cs B∈H->cs.length=m->Res P fr H r vs->Res P fr H (.cell t ty::r) (.agg cs.toArray::vs)
 | one {t ty g o tt A v B r vs}:OneC P ty->Rg fr t=some (Ga g o 0)->Pc.row g tt o A [v] B∈H->Res P fr H r vs->Res P fr H (.cell t ty::r) (v::vs)
theorem Cut.whole:∀(l:am),Cut l 0 l.length l
 | []=>.zero
 | _::r=>.one (Cut.whole r)
theorem Afk (x:Addr):asAddr (.pointer (some x))=pure x:=rfl
theorem Bck {P:Program} {fr:Fr} {H:List Pc} {n:Nat} {rs vs} (f:ResultVar->Sem Value) {a:Act} (f1:∀t,f (.tmp t)=pure (a.tmps.getD t undef)) (f2:∀p t,f (.cell p t)=do loadVar t (<-asAddr (a.tmps.getD p undef)))
  (h:Res P fr H rs vs) {w:World} (g:Ag n fr a) (hH:Ob H w):(rs.mapM f).run P w=.ok vs w:=by
 simp only [fh] at f1 f2
 induction h with
 | nil=>simp
 | tmp hl _ ih=>simp [fT,f1,g.at_ _ _ hl,ih]
 | @agg t ty m gg o tt A cs B r vs hT hl hm hc _ ih =>
  have h1:=Agh (hT:=hT) (j:=0) (If (hH _ hm)) (by rw [<-hc];exact Cut.whole cs);exact DZ
 | @one t ty gg o tt A v B r vs hT hl hm _ ih =>
  have h1:=Agi (hT:=hT) (Abe (j:=0) (hH _ hm) rfl);exact DZ
def Tn:am->Value
 | [v]=>v
 | vs=>.tuple vs.toArray
theorem Aoj {P:Program} {fr:Fr} {H:List Pc} {n:Nat} {fn:Func} {rs vs} (hr:fn.results=rs.toArray) (h:Res P fr H rs vs) {a:Act} {w:World} (g:Ag n fr a) (hH:Ob H w):(results fn a.tmps).run P w=.ok (Tn vs) w:=by
 unfold results;rw [hr];simp only [Sem.run_bind,Array.mapM_eq_mapM_toList];have:∀(f:ResultVar->Sem Value),(rs.mapM f).run P w=.ok vs w->((List.toArray <$> rs.mapM f:Sem (Array Value))).run P w=.ok vs.toArray w:=fun f hf=>by
  simp [hf]
 refine (congrArg (fun x=>Result.andThen x _) (this _ (Bck _ ?_ ?_ h g hH))).trans ?_
 ·intro t;rfl
 ·intro p t;rfl
 simp only [Result.andThen_ok,Sem.run_pure]
 congr 1
 match vs with
 | []=>rfl
 | [v]=>rfl
 | v::u::r=>simp [Tn]
theorem Bec {P:Program} {fn:Func} {G D:aq} {w0:World} {n:Nat} {A M:List Pc} {σ:Type} {C:σ->Prop} {v:σ->Value} {N:σ->List Pc} {fr:Fr} {H:List Pc} {rs:List ResultVar} {vs:am} (s:σ) (hC:C s)
  (hr:fn.results=rs.toArray) (h:Res P fr H rs vs) (hv:Tn vs=v s) (hN:Lc H (N s)) (hG:G=fp M) (hD:D=fp A):T ⟨P,G,D,w0,n,bodyPost P fn (Akh P w0 A M C v N)⟩ fr H (.fin .ret):=.mk fun a w st g=>by
 subst hG hD;refine ⟨g.df,_,Aoj hr h g st.on,s,hC,by rw [hv],?_⟩;have s2:=st.sub hN;refine ⟨s2.on,s2.sep,s2.I0,fun p hp b hb=>?_⟩;rcases s2.Acu p hp b hb with h|h|⟨h1,h⟩
 ·exact .inr (.inl (Rh.1 h))
 ·exact .inl h
 ·exact .inr (.inr ⟨h1,Rh.1 h⟩)
theorem Sl.dropS {P:Program} {α:Type} {E:Bt α} {w:World} {a:aj} {n cap:Nat} {xs:List α} {F} (h:Sl E w (ab a n cap) xs F) (t:TypeId) (ht:P.underlying t=some (.slice (P.elem t))) (k:Nat) (hk:k<=xs.length)
  (hs:∀W,(sizeOf (P.elem t)).run P W=.ok E.sz W):∃a2 c2 F',(∀W,(Instr.sliceAt t (ab a n cap) (some (aa (k:Int))) none none).run P W=.ok (ab a2 (xs.length - k) c2) W)/\(∀b∈F',b∈F)/\Sl E w (ab a2 (xs.length - k) c2) (xs.drop k) F':=by
 obtain ⟨a',cap',hv,hl,h⟩:=h;cases hv;have hrun:∀W,(Instr.sliceAt t (ab a xs.length cap) (some (aa (k:Int))) none none).run P W=.ok (ab (if cap=k then a else a.map (·.add (k * E.sz))) (xs.length - k) (cap - k)) W:=fun W=>by
  rw [run_sliceAt_slice (h:=ht),run_slice_l (ht:=ht) (h0:=EZ) (h1:=EZ),hs];simp [Result.andThen,sliced]
 refine ⟨if cap=k then a else a.map (·.add (k * E.sz)),cap - k,?_⟩;rcases h with ⟨rfl,rfl,h0⟩|⟨b,off,F',rfl,hne,rfl,hc⟩
 ·refine ⟨[],hrun,FB,if cap=k then a else a.map (·.add (k * E.sz)),cap - k,FB,⟨FB,EZ⟩,.inl ⟨FB,rfl,fun e=>?_⟩⟩;cases a with
  | none=>rw [h0 rfl];simp
  | some ad=>split at e <;> simp at e
 ·by_cases hkn:k=xs.length
  ·subst hkn;refine ⟨[],hrun,FB,if cap=xs.length then some ⟨b,off,none⟩ else (some (⟨b,off,none⟩:Addr)).map (·.add (xs.length * E.sz)),cap - xs.length,FB,⟨FB,EZ⟩,.inl ⟨FB,rfl,fun e=>?_⟩⟩
   split at e <;> simp at e
  ·obtain ⟨cs,hf,hcs⟩:=hc.flat;have e:xs=xs.take k++xs.drop k:=FB
   rw [e] at hf;obtain ⟨c1,c2,G1,G2,rfl,rfl,h1,h2⟩:=hf.split;have hl1:=h1.len;have hck:¬cap=k:=EZ
   rw [aP,cZ EZ] at hl1;refine ⟨b::G2,hrun,by intro x hx;simp at hx ⊢;rcases hx with hx|hx <;> simp [hx],some ⟨b,off+k * E.sz,none⟩,cap - k,?_,⟨FF,EZ⟩,.inr ⟨b,off+k * E.sz,G2,rfl,fun e=>?_,rfl,h2.cells fun j u hu=>?_⟩⟩
   ·rw [aC hck];simp only [bY,Addr.add,aX,Value.slice.injEq,Option.some.injEq,cR,cQ];by_cases h0:k * E.sz=0 <;> simp [h0]
   ·have:=congrArg List.length e;simp at this;omega
   ·have:=hcs (c1.length+j) u KE;rw [<-this,hl1];congr 2;omega
theorem Bl {p:Pc} {H:List Pc} (h:p∈H:=by (repeat (first|exact .head _|apply List.Mem.tail));first|done|fail):p∈H:=h
theorem Bd5 {l:am} {j m:Nat} {r:am} (h:Cut l j m r:=by repeat constructor):Cut l j m r:=h
theorem Ayl {l r s:am} {j:Nat} (h:Put l j r s:=by first|exact .one .zero|repeat constructor):Put l j r s:=h
theorem Wk {fr:Fr} {aS:List Operand} {vs:am} (h:Evs fr aS vs:=by repeat (first|exact Evs.nil|apply Evs.cons FL)):Evs fr aS vs:=h
theorem Ale {H S:List Pc} {p q:Pc} (h:Rpl H p q S:=by (repeat (first|exact .here|apply Rpl.there));first|done|fail):Rpl H p q S:=h
theorem Dt {H R:List Pc} {p:Pc} (h:C2 H p R:=by (repeat (first|exact .here|apply C2.there));first|done|fail):C2 H p R:=h
theorem Agr {H M R:List Pc} (h:Kj H M R:=by repeat (first|exact Kj.nil|apply Kj.cons (by exact Dt))):Kj H M R:=h
theorem hsE {A H:List Pc} (h:Lc A H:=by repeat (first|exact Lc.nil|refine Lc.cons (by exact Dt) ?_)):Lc A H:=h
theorem frE {a b:Fr} (h:Mi a b:=by repeat (first|exact Mi.nil|refine Mi.cons FL ?_)):Mi a b:=h
theorem Ath (l:am):∀(k off:Nat) (A o B:am),A.length=off+k->o.length=l.length->(l.zipIdx k).foldl (fun (cs:Array Value) (x:Value × Nat)=>cs.setIfInBounds (off+x.2) x.1) (A++o++B).toArray=(A++l++B).toArray:=by
 induction l with
 | nil=>intro k off A o B _ ho;simp at ho;subst ho;simp
 | cons u r ih =>
  intro k off A o B hA ho;cases o with
  | nil=>simp at ho
  | cons z o =>
   rw [List.zipIdx_cons,dS];have h4:(A++(z::o)++B).toArray.setIfInBounds (off+k) u=((A++[u])++o++B).toArray:=by
    rw [<-hA];simp [List.set_append]
   show List.foldl _ ((A++(z::o)++B).toArray.setIfInBounds (off+k) u) _=_;rw [h4,ih (k+1) off (A++[u]) o B FF (by simpa using ho)];simp
inductive Fil (pl:Nat->Option (Nat × Nat)) (fr:Fr):am->List (Nat × Operand)->am->Prop
 | nil {cs}:Fil pl fr cs [] cs
 | cons {cs i x ps v l off r q}:ev fr x=some v->v.cells=l.toArray->pl i=some (off,l.length)->Put cs off l r->Fil pl fr r ps q->Fil pl fr cs ((i,x)::ps) q
theorem Fil.run {pl:Nat->Option (Nat × Nat)} {fr:Fr} {n:Nat} {cs q:am} {ps:List (Nat × Operand)} (h:Fil pl fr cs ps q) {a:Act} (g:Ag n fr a):Instr.fill pl cs.toArray (ps.map fun (i,x)=>(i,a.eval x))=some q.toArray:=by
 induction h with
 | nil=>rfl
 | @cons cs i x ps v l off r q hx hv hp hput _ ih =>
  obtain ⟨A,o,B,rfl,rfl,rfl,ho⟩:=hput.parts;rw [cB];unfold Instr.fill;simp only [hp,g.ev hx,hv];have h1:¬((l.toArray.size≠l.length)\/(A.length+l.toArray.size > (A++o++B).toArray.size)):=FF
  rw [aC HV];have h2:l.toArray.zipIdx.foldl (fun (cs:Array Value) (x:Value × Nat)=>cs.setIfInBounds (A.length+x.2) x.1) (A++o++B).toArray=(A++l++B).toArray:=by
   rw [<-Array.foldl_toList];have:=Ath l 0 A.length A o B rfl ho;exact EX
  rw [h2];exact ih
theorem Ih {pl:Nat->Option (Nat × Nat)} {fr:Fr} {cs q:am} {ps:List (Nat × Operand)} (h:Fil pl fr cs ps q:=by repeat (first|exact Fil.nil|apply Fil.cons FL FL FL (by repeat constructor))):Fil pl fr cs ps q:=h
theorem Bgs {P:Program} {n:Nat} {fr:Fr} {H:List Pc} {ty:TypeId} {t:Nat} {pl:List (Nat × Nat)} {zs q:am} {ps:List (Nat × Operand)} [hB:BldC P t pl zs] (hf:Fil (pl.toArray[·]?) fr zs ps q):Yd P n fr H (.build t ps.toArray) ty (.agg q.toArray):=.mk fun a w d pos Cc gd g _=>by
 have h3:=hf.run g;have h4:=run_build (P:=P) w t (ps.map fun (i,x)=>(i,a.eval x)).toArray q.toArray (by rw [hB.b];exact h3);simp only [cW] at h4;simp [execOp,h4]
theorem ydE {P:Program} {n:Nat} {fr:Fr} {H:List Pc} {o:Op} {ty:TypeId} {v:Value} (h:Yd P n fr H o ty v:=by first|(apply Bc4;rfl)|(apply Avp;rfl)|(apply Bfp;rfl)|(apply Bgv;rfl)|(apply Bg0;rfl;exact Bl;rfl)|(apply Bfg;rfl;exact Bl;rfl)|(apply Bff;rfl;exact Bl;exact Bd5)|(apply Bc2;rfl;exact Bl;exact Bd5)|(apply Avr;rfl;rfl)|(apply Avq;rfl;rfl)|(apply Bfh;rfl)|(apply Bc3;rfl)|(apply Bgu;rfl;rfl)|(apply Bfd;rfl;rfl)|(apply Bc1;rfl;exact Bd5)|(apply Bg3;rfl;rfl)|(apply Bg1;rfl;rfl)|(apply Bgy;rfl;rfl)|(apply Bgx;rfl;rfl)|(apply Bgt;rfl;rfl)|(apply Bg4;rfl;rfl)|(apply Be9;rfl;rfl;omega;omega)|(apply Bfu;rfl;rfl;omega;omega)|(apply Bfc;rfl;rfl)|(apply Bfo;rfl;rfl)|(apply Hi;rfl;rfl;omega)|(apply Bc6;rfl)|(apply Bfq;rfl)|(apply Bfm;rfl;omega;omega)|(apply Bgz;rfl;rfl;omega;omega)|(apply Bai;rfl;rfl;omega;omega)|(apply Bfr;rfl;rfl;omega;omega;omega)|(apply Bfs;rfl;rfl;omega;omega)|(apply Bfk;rfl;rfl;omega;omega)|(apply Ao4;rfl;omega;omega)|(apply Bfb;rfl;rfl)|(apply Bfl;rfl;rfl)|(apply Bgw;exact Wk)|(apply Bc5;rfl)|(apply Bfj;rfl;rfl)|(apply Bfi;rfl;rfl)|(apply Bgs;exact Ih)):Yd P n fr H o ty v:=h
section
variable {c:Cx} {fr:Fr} {H:List Pc} {k:List It} {Φ:Gl} {ops:Array Oper} {rest:List Oper} {d:Nat} {o:Op} {ty:TypeId} {pos:String} {Cc:Array Edge} {v u:Value} {x y:Operand}
theorem st {t g tt o' j m:Nat} {A cs B l r:am} {S:List Pc} {gd:Option (Nat × Bool)} (h:T c fr S Φ) (hx:ev fr x=some (Ga g o' j):=by rfl) (hy:ev fr y=some v:=by rfl) (hv:v.cells=l.toArray:=by rfl) (hs:(c.P.info? t).map (·.size)=some m:=by first|exact AggC.s|exact OneC.s) (hl:l.length=m:=by rfl)
  (hr:Rpl H (.row g tt o' A cs B) (.row g tt o' A r B) S:=by (repeat (first|exact .here|apply Rpl.there));first|done|fail) (hp:Put cs j l r:=by first|exact .one .zero|repeat constructor) (h1:l.all (·.oneCell')=true:=by rfl):Ef c fr H ⟨none,.store t x y,ty,pos,Cc,gd⟩ Φ:=Amr hs hx hy hv hl h1 hp hr h
theorem ca {f:Nat} {aS:List Operand} {ts:Array TypeId} {vs:am} {gd:Option (Nat × Bool)} (h:Cl c fr H d f vs Φ) (ha:Evs fr aS vs:=by repeat (first|exact Evs.nil|apply Evs.cons FL)) (hb:Qx c.P f=true:=by kernel_rfl) (hd:Nat.blt d c.n=true:=by rfl):Ef c fr H ⟨some d,.call { callee:=.value (.func f),args:=aS.toArray,argTypes:=ts },ty,pos,Cc,gd⟩ Φ:=Bdf h ha hb hd
theorem cf {f:Nat} {vs:am} {A M R:List Pc} {σ:Type} {C:σ->Prop} {vv:σ->Value} {N:σ->List Pc} (hf:Fn c.P f vs A M C vv N) (h:∀s,C s->T c ((d,vv s)::fr) (N s++R) Φ)
  (hM:Kj H M R:=by repeat (first|exact Kj.nil|apply Kj.cons (by exact Dt))) (hA:Mp A R:=by repeat (first|exact Mp.nil|refine Mp.cons FD ?_)) (hmM:M.all (·.mu)=true:=by rfl) (hmA:A.all (fun p=>!p.mu)=true:=by rfl):Cl c fr H d f vs Φ:=cf_ hf h hM hA hmM hmA
inductive Al0:List Pc->List Pc->List Pc->Prop
 | nil {R}:Al0 [] R R
 | cons {p N R X}:Al0 N R X->Al0 (p::N) R (p::X)
theorem Al0.eq {N R X} (h:Al0 N R X):N++R=X:=by
 induction h with
 | nil=>rfl
 | cons _ ih=>simp [ih]
theorem Ot {N R X:List Pc} (h:T c fr X Φ) (hX:Al0 N R X:=by repeat constructor):T c fr (N++R) Φ:=by rw [hX.eq];exact h
theorem St.ro {G D w0 w} {p q:Pc} (s:St G D w0 H w) (hq:q∈H) (hm:q.mu=false) (hpm:p.mu=false) (hp:p.P w) (hF:∀b∈p.F,b∈q.F):St G D w0 (p::H) w :=
 s.add (N:=[p]) (Below.refl _ _) (by intro x hx;simp at hx;subst hx;exact hp) ⟨FB,trivial⟩ (by intro x hx b hb;simp at hx;subst hx;exact .inr ⟨hpm,q,hq,hm,hF b hb⟩)
theorem St.conv {G D w0 w} {p q:Pc} {S:List Pc} (s:St G D w0 (p::S) w) (hm:p.mu=true) (hq:q.P w) (hF:∀b∈q.F,b∈p.F):St G D w0 (q::S) w :=
 St.turn (M:=[p]) (N:=[q]) s (Ei.refl _ w) (by intro x hx;simp at hx;subst hx;exact hq) ⟨FB,trivial⟩ (by intro x hx b hb;simp at hx;subst hx;exact .inr (.inl ⟨p,FB,hm,hF b hb⟩))
/-! elements, parts of slices that read -/
theorem Xq {α:Type} {E:Bt α} {w:World} {a:aj} {n cp:Nat} {xs:List α} {F:aq} (h:(Pc.sl E (ab a n cp) xs F).P w) (i:Nat) (hi:i < xs.length) :
  ∃b o cs G,a=some ⟨b,o,none⟩/\E.L8 w cs xs[i] G/\(∀x∈G,x∈F)/\b∈F/\cs≠[]/\w.rangeAt b (o+i * E.sz) cs:=by
 obtain ⟨hz,a',cap,hv,hl,h|⟨b,o,F',rfl,hne,rfl,hc⟩⟩:=h
 ·rw [h.1] at hi;simp at hi
 ·simp only [Value.slice.injEq] at hv;obtain ⟨rfl, -, -⟩:=hv;obtain ⟨cs,F1,h1,h2,h3⟩:=hc.get i hi;have hl:=E.len h1;refine ⟨b,o,cs,F1,rfl,h1,fun x hx=>by simp [h3 x hx],FB,fun e=>by subst e;simp at hl;omega,fun j u hu=>?_⟩;have hj:j < E.sz:=by have:=(co.1 hu).1;omega
  rw [h2 j hj];exact hu
theorem Hy {a:aj} {n cp:Nat} {xs:ar} {F:aq} (i:Nat) (h:∀(hi:i < xs.length) b o,a=some ⟨b,o,none⟩->T c fr (.cel b (o+i * 1) [aa xs[i]]::H) Φ) (hm:.sl Bc (ab a n cp) xs F∈H:=by exact Bl) (hi:i < xs.length:=by omega):T c fr H Φ:=.mk fun ac w s g=>by
 obtain ⟨b,o,cs,G,ha,⟨rfl,rfl⟩, -,hb,hne,hr⟩:=Xq (s.get hm) i hi;exact (h hi b o ha).h ac w (s.ro hm rfl rfl ⟨hne,hr⟩ GL) g
theorem Jv {a:aj} {n cp:Nat} {xs:ai} {F:aq} (i:Nat) (h:∀(hi:i < xs.length) b o,a=some ⟨b,o,none⟩->xs[i].size<=maxLen->T c fr (.cel b (o+i * 1) [af xs[i]]::H) Φ) (hm:.sl A8 (ab a n cp) xs F∈H:=by exact Bl) (hi:i < xs.length:=by omega):T c fr H Φ:=.mk fun ac w s g=>by
 obtain ⟨b,o,cs,G,ha,⟨rfl,hs,rfl⟩, -,hb,hne,hr⟩:=Xq (s.get hm) i hi;exact (h hi b o ha hs).h ac w (s.ro hm rfl rfl ⟨hne,hr⟩ GL) g
theorem Av {α:Type} {E:Bt α} {t:TypeId} {v:Value} {xs:List α} {F:aq} {S:List Pc} (h:∀F',T c fr (.sl E v xs F'::S) Φ) (hp:C2 H (.ow E t v xs F) S:=by exact Dt) (hz:0 < E.sz:=by decide):T c fr H Φ:=.mk fun a w s g=>by
 have s1:=s.pick hp;obtain ⟨-,ho⟩:=s1.on (.ow E t v xs F) FB;obtain ⟨F',hF,hs⟩:=ho.read;exact (h F').h a w (s1.conv rfl ⟨hz,hs⟩ hF) g
theorem Ow.takeO {α:Type} {E:Bt α} {t:TypeId} {w:World} {a:aj} {n cp:Nat} {xs:List α} {F:aq} (h:Ow E t w (ab a n cp) xs F) (k:Nat) (hk:k<=xs.length):∃F',F'.Sublist F/\Ow E t w (ab a k cp) (xs.take k) F':=by
 rcases h with ⟨h1,rfl,rfl⟩|⟨g,cap,cs,rest,G,h1,h2,h3,h4,h5,h6,rfl⟩
 ·cases h1;have:k=0:=by simpa using hk
  subst this;exact ⟨[],.slnil,.inl ⟨rfl,rfl,rfl⟩⟩
 ·cases h1;rw [<-bo k xs] at h6;obtain ⟨c1,c2,G1,G2,rfl,rfl,f1,f2⟩:=h6.split;have hl:(xs.take k).length=k:=by simp [cZ hk]
  refine ⟨g::G1,(List.sublist_append_left G1 G2).cons_cons g,.inr ⟨g,cp,c1,c2++rest,G1,by rw [hl],by rw [<-aN];exact h2,EZ,h4,by simp only [aA] at h5 ⊢;omega,f1,rfl⟩⟩
theorem Alt {α:Type} {E:Bt α} {t:TypeId} {a:aj} {n cp:Nat} {xs:List α} {F:aq} {S:List Pc} (k:Nat) (h:∀F',T c fr (.ow E t (ab a k cp) (xs.take k) F'::S) Φ) (hk:k<=xs.length:=by omega) (hp:C2 H (.ow E t (ab a n cp) xs F) S:=by exact Dt):T c fr H Φ:=.mk fun ac w s g=>by
 have s1:=s.pick hp;obtain ⟨hn,ho⟩:=s1.on (.ow E t (ab a n cp) xs F) FB;obtain ⟨F',hF,hs⟩:=ho.takeO k hk;exact (h F').h ac w (s1.conv rfl ⟨hn.sublist hF,hs⟩ hF.subset) g
theorem Azp {α:Type} {E:Bt α} {t:TypeId} {a:aj} {n cp:Nat} {xs:List α} {F:aq} (h:n<=cp->cp<=9223372036854775807->T c fr H Φ) (hm:.ow E t (ab a n cp) xs F∈H:=by exact Bl):T c fr H Φ:=.mk fun ac w s g=>by
 obtain ⟨-,h'|⟨g',cap,cs,rest,G,h1,h2,h3,h4, -⟩⟩:=s.get hm
 ·obtain ⟨h1,h2, -⟩:=h';cases h1;exact (h FB FA).h ac w s g
 ·cases h1;exact (h h3 (by unfold maxLen at h4;omega)).h ac w s g
theorem Cf {α:Type} (E:Bt α) (t:TypeId) (h:T c fr (.ow E t (ab none 0 0) [] []::H) Φ):T c fr H Φ:=.mk fun a w s g =>
 h.h a w (s.add (N:=[.ow E t (ab none 0 0) [] []]) (Below.refl _ _) (by intro p hp;simp at hp;subst hp;exact ⟨FB,.inl ⟨rfl,rfl,rfl⟩⟩) ⟨FB,trivial⟩ (by intro p hp b hb;simp at hp;subst hp;simp [Pc.F] at hb)) g
theorem Ci {α:Type} (E:Bt α) (hz:0 < E.sz) (h:T c fr (.sl E (ab none 0 0) [] []::H) Φ):T c fr H Φ:=.mk fun a w s g =>
 h.h a w (s.add (N:=[.sl E (ab none 0 0) [] []]) (Below.refl _ _) (by intro p hp;simp at hp;subst hp;exact ⟨hz,none,0,rfl,⟨aL _,FH⟩,.inl ⟨rfl,rfl,fun _=>rfl⟩⟩) ⟨FB,trivial⟩ (by intro p hp b hb;simp at hp;subst hp;simp [Pc.F] at hb)) g
theorem Cy {α:Type} (E:Bt α) {t g:Nat} {S:List Pc} (h:T c fr (.ow E t (ab (some ⟨g,0,none⟩) 0 0) [] [g]::S) Φ) (hp:C2 H (.row g t 0 [] [] []) S:=by exact Dt):T c fr H Φ:=.mk fun a w s ag=>by
 have s1:=s.pick hp;obtain ⟨-,hr⟩:=s1.on (.row g t 0 [] [] []) FB;exact h.h a w (s1.conv rfl ⟨FB,Ow.empty GK⟩ (fun b hb=>hb)) ag
theorem bs0 {t e m:Nat} {gd:Option (Nat × Bool)} [hS:SlC c.P t e m] (h:∀g,T c ((d,ab (some ⟨g,0,none⟩) 0 0)::fr) (.row g e 0 [] [] []::H) Φ) (hd:Nat.blt d c.n=true:=by rfl):Ef c fr H ⟨some d,.buildSlice t 0 #[],ty,pos,Cc,gd⟩ Φ:=O3 fun Q a w s g=>by
 have e1:(execOp a.eval ⟨some d,.buildSlice t 0 #[],ty,pos,Cc,gd⟩).run c.P w=.ok (.value (ab (some ⟨w.heap.size,0,none⟩) 0 0)) (w.alloc (.cells #[] e)):=by
  simp [execOp,Instr.buildSlice,run_underlying hS.u,Ms hS.s,Instr.fill,newRow,Array.range_zero']
 rw [e1];exact (h _).h _ _ (s.new e []) (g.put hd)
inductive Asq:am->am->am->Prop
 | nil {r}:Asq [] r r
 | cons {u l r q}:Asq l r q->Asq (u::l) r (u::q)
theorem Asq.eq {l r q} (h:Asq l r q):l++r=q:=by
 induction h with
 | nil=>rfl
 | cons _ ih=>simp [ih]
inductive Rpt (zs:am):Nat->am->Prop
 | zero:Rpt zs 0 []
 | succ {n r q}:Rpt zs n r->Asq zs r q->Rpt zs (n+1) q
theorem Rpt.eq {zs:am} {n q} (h:Rpt zs n q):q=(List.replicate n zs).flatten:=by
 induction h with
 | zero=>rfl
 | succ _ h2 ih=>rw [<-h2.eq,ih,cU,cm]
theorem bs {t e m b len:Nat} {z:Value} {zs cs q:am} {ps:List (Nat × Operand)} {gd:Option (Nat × Bool)} [hS:SlC c.P t e m] [hE:ElT c.P e z m b] [hZ:ZC c.P e zs] (h:∀g,T c ((d,ab (some ⟨g,0,none⟩) len len)::fr) (.row g e 0 [] q []::H) Φ)
  (hc:Rpt zs len cs:=by repeat constructor) (hf:Fil (fun i=>some (i * m,m)) fr cs ps q:=by repeat (first|exact Fil.nil|apply Fil.cons FL FL FL (by repeat constructor))) (hl:Nat.ble (len * m) 1000=true:=by rfl) (hm:Nat.blt 0 m=true:=by rfl) (hlen:Nat.blt 0 len=true:=by rfl) (hd:Nat.blt d c.n=true:=by rfl) :
  Ef c fr H ⟨some d,.buildSlice t len ps.toArray,ty,pos,Cc,gd⟩ Φ:=O3 fun Q a w s g=>by
 have hm0:m≠0:=by have:0 < m:=IT;omega
 have hlen0:len≠0:=by have:0 < len:=(by simpa using hlen);omega
 have hl2:len * m<=1000:=GY
 obtain ⟨i,hi,hz⟩:=cw.1 hE.i;simp only [Prod.mk.injEq] at hz;obtain ⟨hz,hs, -⟩:=hz;obtain ⟨z',hz',hzc⟩:=hZ.z;obtain rfl:z'=z:=by rw [hi] at hz';simp [hz] at hz';exact hz'.symm
 have hzl:zs.length=m:=by have:=hE.s;rw [hzc] at this;simpa using this
 have e2:((Array.range (len * m)).map (zs.toArray[· % zs.toArray.size]!))=cs.toArray:=by
  have:=Nu zs.toArray len;rw [hc.eq];apply fG;rw [show zs.toArray.size=m from by simp [hzl]] at this;simpa [madeCells] using this
 have e1:(execOp a.eval ⟨some d,.buildSlice t len ps.toArray,ty,pos,Cc,gd⟩).run c.P w=.ok (.value (ab (some ⟨w.heap.size,0,none⟩) len len)) (w.alloc (.cells q.toArray e)):=by
  have h3:=hf.run g;have hne:¬(len * m=0):=Nat.mul_ne_zero hlen0 hm0;have hns:¬(len * m > 2 ^ 24):=EZ
  have hzv:(zeroValue e).run c.P w=.ok z' w:=by simp [zeroValue,typeInfo,hi,hz]
  simp only [execOp,Instr.buildSlice,Sem.run_bind,run_underlying hS.u,Ms hS.s,Result.andThen_ok,aC hns,aC hne,hzv,hzc,Sem.run_pure,Sem.run_ite,e2];simp only [cW,h3,newRow,Sem.run_bind,run_newObj_alloc,Result.andThen_ok,Sem.run_pure]
 rw [e1];exact (h _).h _ _ (s.new e q) (g.put hd)
theorem Kg {t e m:Nat} [SlC c.P t e m] (hd:Nat.blt d c.n=true) (h:∀g,T c ((d,ab (some ⟨g,0,none⟩) 0 0)::fr) (.row g e 0 [] [] []::H) Φ):On c fr H (some d) (.buildSlice t 0 #[]) ty Φ:=⟨fun _ _ _=>bs0 h hd⟩
theorem Ik {zs:am} {n:Nat} {q:am} (h:Rpt zs n q:=by repeat constructor):Rpt zs n q:=h
theorem Iq {t e m b len:Nat} {z:Value} {zs cs q:am} {ps:List (Nat × Operand)} [SlC c.P t e m] [ElT c.P e z m b] [ZC c.P e zs] (hd:Nat.blt d c.n=true) (hlen:Nat.blt 0 len=true) (hm:Nat.blt 0 m=true) (hl:Nat.ble (len * m) 1000=true) (hc:Rpt zs len cs) (hf:Fil (fun i=>some (i * m,m)) fr cs ps q) (h:∀g,T c ((d,ab (some ⟨g,0,none⟩) len len)::fr) (.row g e 0 [] q []::H) Φ) :
  On c fr H (some d) (.buildSlice t len ps.toArray) ty Φ:=⟨fun _ _ _=>bs h hc hf hl hm hlen hd⟩
end
theorem Auq {A B:aq} (h:(A++B).Nodup) {b:Nat} (ha:b∈A) (hb:b∈B):False:=(bN.1 h).2.2 b ha b hb rfl
section
variable {c:Cx} {fr:Fr} {H:List Pc} {k:List It} {Φ:Gl} {ops:Array Oper} {rest:List Oper} {d:Nat} {o:Op} {ty:TypeId} {pos:String} {Cc:Array Edge} {v u:Value} {x y:Operand}
theorem ap {α:Type} {E:Bt α} {t e m b:Nat} {z:Value} [hS:SlC c.P t e m] [hE:ElT c.P e z m b] {xs ys:List α} {F Fy:aq} {ao:aj} {n cp:Nat} {gd:Option (Nat × Bool)} {R S:List Pc} (one:One E) (hz:0 < E.sz) (hm:E.sz=m)
  (hp:C2 H (.ow E e v xs F) R) (hx:ev fr x=some v) (hy:ev fr y=some (ab ao n cp)) (hn:n=ys.length)
  (hsrc:∀w,St c.G c.D c.w0 (.ow E e v xs F::R) w->∃news,Cz E w news ys Fy/\((ao=none/\cp=0/\ys=[])\/∃ad,ao=some ad/\∀j u,news[j]?=some u->w.cell? (ad.add j)=some u)/\(∀b∈Fy,b ∉ F)/\Fy.Nodup)
  (hFy:∀w v' F',St c.G c.D c.w0 (.ow E e v xs F::R) w->(∀b∈F',b∈F\/b∈Fy\/b=w.heap.size)->∀w',Ei F w w'->(Pc.ow E e v' (xs++ys) F').P w'->St c.G c.D c.w0 (.ow E e v' (xs++ys) F'::S) w')
  (h63:xs.length+ys.length<=maxLen) (hby:(xs.length+ys.length) * b<=140737488355328)
  (h:∀a' c' F',T c ((d,.slice a' (xs++ys).length c')::fr) (.ow E e (.slice a' (xs++ys).length c') (xs++ys) F'::S) Φ) (hd:Nat.blt d c.n=true) :
  Ef c fr H ⟨some d,.call { callee:=.builtin .append,args:=#[x,y],argTypes:=#[t,t] },ty,pos,Cc,gd⟩ Φ:=.mk fun Q a w s g=>by
 have s1:=s.pick hp;obtain ⟨hnd,how⟩:=s1.on (.ow E e v xs F) FB;obtain ⟨news,hfl,hsr,hdis,hny⟩:=hsrc w s1;subst hn;refine Ara (P:=c.P) one hz x y t rfl e z b hS.u (by rw [hE.i,hm]) (by rw [hE.s,hm]) v xs F (g.ev hx) how (Hd.of hnd) ao ys cp (g.ev hy) news Fy hfl hsr (fun b hb e=>hdis b hb (how.own_mem b e)) h63 hby fun v' w' F' hA=>?_;obtain ⟨a',c',rfl⟩:=hA.val;rw [<-aA] at hA ⊢;have hw:=hA.ow;exact (h a' c' F').h _ _ (hFy w _ F' s1 hA.mem w' hA.I0 ⟨hA.Ax4 hnd hny hdis,hw⟩) (g.put hd)
theorem Nb {α:Type} {E:Bt α} {t e m b:Nat} {z:Value} [hS:SlC c.P t e m] [hE:ElT c.P e z m b] {xs ys:List α} {F:aq} {g n cp tt:Nat} {cs:am} {R S:List Pc}
  (hfl:∀w,Cz E w cs ys []) (one:One E) (h:∀a' c' F',T c ((d,.slice a' (xs++ys).length c')::fr) (.ow E e (.slice a' (xs++ys).length c') (xs++ys) F'::S) Φ)
  (hx:ev fr x=some v:=by rfl) (hy:ev fr y=some (ab (some ⟨g,0,none⟩) n cp):=by rfl) (hp:C2 H (.ow E e v xs F) R:=by exact Dt) (hp2:C2 R (.row g tt 0 [] cs []) S:=by exact Dt) (hn:n=ys.length:=by rfl) (hz:0 < E.sz:=by decide) (hm:E.sz=m:=by rfl)
  (h63:xs.length+ys.length<=9223372036854775807:=by simp only [aU,aY];omega) (hby:(xs.length+ys.length) * b<=140737488355328:=by simp only [aU,aY];omega) (hd:Nat.blt d c.n=true:=by rfl) :
  On c fr H (some d) (.call { callee:=.builtin .append,args:=#[x,y],argTypes:=#[t,t] }) ty Φ :=
 ⟨fun _ _ _=>ap one hz hm hp hx hy hn (Fy:=[]) (fun w s=>⟨cs,hfl w,.inr ⟨_,rfl,fun j u hu=>by
   have hr:=(s.on (.row g tt 0 [] cs []) (by simp [hp2.mem])).2;have:=hr.cell j;simp only [aZ,bg] at this;rw [hu] at this;unfold Addr.add
   split
   ·rename_i e;subst e;exact this
   ·simpa using this⟩,FB,FB⟩)
  (fun w v' F' s hF w' hk hv=>by
   have s2:St c.G c.D c.w0 (.ow E e v xs F::S) w:=⟨s.I0,fun q hq=>s.on q (by rcases aH.1 hq with rfl|hq;simp;simp [hp2.sub q hq]),⟨fun q hq=>s.sep.1 q (hp2.sub q hq),(hp2.sep s.sep.2).2⟩,fun q hq=>s.Acu q (by rcases aH.1 hq with rfl|hq;simp;simp [hp2.sub q hq])⟩;exact St.turn (M:=[.ow E e v xs F]) (N:=[.ow E e v' (xs++ys) F']) s2 HD IX ⟨FB,trivial⟩ (by
    intro q hq b hb;simp at hq;subst hq;rcases hF b hb with h|h|h
    ·exact .inr (.inl ⟨.ow E e v xs F,FB,rfl,h⟩)
    ·simp at h
    ·exact .inl EZ))
  (by unfold maxLen;exact h63) hby h hd⟩
theorem Ni {α:Type} {E:Bt α} {t e m b:Nat} {z:Value} [hS:SlC c.P t e m] [hE:ElT c.P e z m b] {xs ys:List α} {F G:aq} {ao:aj} {n cp:Nat} {R:List Pc}
  (one:One E) (sc:∀{w cs x F},E.L8 w cs x F->F=[]) (h:∀a' c' F',T c ((d,.slice a' (xs++ys).length c')::fr) (.ow E e (.slice a' (xs++ys).length c') (xs++ys) F'::R) Φ)
  (hx:ev fr x=some v:=by rfl) (hy:ev fr y=some (ab ao n cp):=by rfl) (hp:C2 H (.ow E e v xs F) R:=by exact Dt) (hp2:.sl E (ab ao n cp) ys G∈R:=by exact Bl) (hn:n=ys.length:=by rfl) (hz:0 < E.sz:=by decide) (hm:E.sz=m:=by rfl)
  (h63:xs.length+ys.length<=9223372036854775807:=by first|omega|(simp only [aU,aY];omega)) (hby:(xs.length+ys.length) * b<=140737488355328:=by first|omega|(simp only [aU,aY];omega)) (hd:Nat.blt d c.n=true:=by rfl) :
  On c fr H (some d) (.call { callee:=.builtin .append,args:=#[x,y],argTypes:=#[t,t] }) ty Φ :=
 have flat0:∀{w cs zs G},Cz E w cs zs G->G=[]:=fun {w cs zs G}=>by
  induction zs generalizing cs G with
  | nil=>intro h;exact h.2
  | cons z r ih=>intro h;obtain ⟨c1,c2,F1,F2,_,rfl,h1,h2⟩:=h;rw [sc h1,ih h2];rfl
 ⟨fun _ _ _=>ap one hz hm hp hx hy hn (Fy:=[]) (fun w s=>by
   obtain ⟨-,hs⟩:=s.on (.sl E (ab ao n cp) ys G) (by simp [hp2]);obtain ⟨ao',cc,news,Fy,he, -,hfy, -,hsrc⟩:=hs.src;simp only [Value.slice.injEq] at he;obtain ⟨rfl, -,rfl⟩:=he;obtain rfl:=flat0 hfy;exact ⟨news,hfy,hsrc,FB,FB⟩)
  (fun w v' F' s hF w' hk hv=>St.turn (M:=[.ow E e v xs F]) (N:=[.ow E e v' (xs++ys) F']) s HD IX ⟨FB,trivial⟩ (by
    intro q hq b hb;simp at hq;subst hq;rcases hF b hb with h|h|h
    ·exact .inr (.inl ⟨.ow E e v xs F,FB,rfl,h⟩)
    ·simp at h
    ·exact .inl EZ))
  (by unfold maxLen;exact h63) hby h hd⟩
/-! parts of slices that read -/
theorem Aev {P:Program} {t e m:Nat} (hS:SlC P t e m):P.elem t=e:=by simp [Program.elem,hS.u]
theorem sld {α:Type} {E:Bt α} {t e m:Nat} [hS:SlC c.P t e m] {a:aj} {n cp:Nat} {xs:List α} {F:aq} {i:Int} (j:Nat) (h:∀a' c' F',T c ((d,.slice a' (xs.drop j).length c')::fr) (.sl E (.slice a' (xs.drop j).length c') (xs.drop j) F'::H) Φ)
  (hx:ev fr x=some (ab a n cp):=by rfl) (hy:ev fr y=some (aa i):=by rfl) (hm:.sl E (ab a n cp) xs F∈H:=by exact Bl) (hi:i=(j:Int):=by first|rfl|omega) (hj:j<=xs.length:=by omega) (he:E.sz=m:=by rfl) (hd:Nat.blt d c.n=true:=by rfl):On c fr H (some d) (.slice t x (some y) none none) ty Φ:=⟨fun pos Cc gd=>O3 fun Q ac w s g=>by
 subst hi;obtain ⟨hz,hs⟩:=s.get hm;have he2:=Aev hS;obtain ⟨a2,c2,F',hr,hF,h2⟩:=hs.dropS t GF j hj (fun W=>by rw [he2,he];exact Ms hS.s W);have e1:(execOp ac.eval ⟨some d,.slice t x (some y) none none,ty,pos,Cc,gd⟩).run c.P w=.ok (.value (.slice a2 (xs.drop j).length c2)) w:=by
  simp [execOp,g.ev hx,g.ev hy,hr]
 rw [e1];rw [<-aX] at h2;exact (h a2 c2 F').h _ w (s.ro hm rfl rfl ⟨hz,h2⟩ hF) (g.put hd)⟩
/-! one element of an owned slice, of elements without blocks of their own -/
def Avz {α:Type} (E:Bt α) (t:TypeId) (g:Nat) (v:Value) (xs:List α) (i:Nat) (A B:am):Prop:=∀w cs y,Ib w g t (A++cs++B)->E.L8 w cs y []->Ow E t w v (xs.set i y) [g]
theorem Rf {α:Type} {E:Bt α} {t:TypeId} {a:aj} {n cp m:Nat} {xs:List α} {F:aq} {S:List Pc} (sc:Aao E) (i:Nat) (h:∀(_:i < xs.length) g A cs B,a=some ⟨g,0,none⟩->F=[g]->(∀w,E.L8 w cs xs[i] [])->Avz E t g (ab (some ⟨g,0,none⟩) n cp) xs i A B->T c fr (.row g t (0+i * m) A cs B::S) Φ)
  (hp:C2 H (.ow E t (ab a n cp) xs F) S) (hm:E.sz=m) (hi:i < xs.length):T c fr H Φ:=.mk fun ac w s g=>by
 have z1:=s.pick hp;obtain ⟨-,ho⟩:=z1.on (.ow E t (ab a n cp) xs F) FB;obtain ⟨g0,cap,A,cs,B,G1,Fi,G2,hv,hr,hA, -,hx,rfl, -,hW⟩:=ho.focus i hi
 cases hv;obtain rfl:=sc hx;have hG:∀b,b ∉ G1++G2:=by
  intro b hb;have:=ho.scal sc;simp only [Value.ownBlock,Option.toList_some,bg,List.cons.injEq,cQ] at this;rw [this] at hb;simp at hb
 have hG0:G1++G2=[]:=eS.2 hG;subst hm;refine (h hi g0 A cs B rfl (by simpa using hG0) (fun w'=>E.frame hx FB) (fun w' c' y hr' hy=>?_)).h ac w (z1.conv rfl ⟨EZ,hr⟩ (by intro b hb;simp [Pc.F] at hb;subst hb;simp [Pc.F])) g;have:=hW w' c' y [] hr' hy (fun b hb=>absurd hb (hG b));simpa [hG0] using this
theorem Pz {α:Type} {E:Bt α} {t:TypeId} {g o:Nat} {v:Value} {xs:List α} {i:Nat} {A cs B:am} {S:List Pc} (y:α) (hh:Avz E t g v xs i A B) (hy:∀w,E.L8 w cs y []) (h:T c fr (.ow E t v (xs.set i y) [g]::S) Φ) (hp:C2 H (.row g t o A cs B) S:=by exact Dt):T c fr H Φ:=.mk fun ac w s ag=>by
 have z1:=s.pick hp;obtain ⟨-,hr⟩:=z1.on (.row g t o A cs B) FB;exact h.h ac w (z1.conv rfl ⟨FB,hh w cs y hr (hy w)⟩ (fun b hb=>hb)) ag
/-! calls by the elder contracts -/
theorem cn {α:Type} {E:Bt α} {t:TypeId} {xs:List α} {f:Nat} {vs:am} (hc:∀w,St c.G c.D c.w0 H w->Calls c.P f vs.toArray w (Wr E t xs w)) (h:∀a cp F,T c ((d,ab a xs.length cp)::fr) (.ow E t (ab a xs.length cp) xs F::H) Φ):Cl c fr H d f vs Φ :=
 Aaq hc (fun w e w' s hR=>by
  obtain ⟨v,F,he,ho,hn,hF,hB⟩:=hR;obtain ⟨a,cp,rfl⟩:=ho.slice;exact ⟨_,he,fun ac g=>(h a cp F).h ac w' (s.add (N:=[.ow E t (ab a xs.length cp) xs F]) hB (by intro q hq;simp at hq;subst hq;exact ⟨hn,ho⟩) ⟨FB,trivial⟩ HO) g⟩)
theorem cr {α:Type} {E:Bt α} {z:α} {f:Nat} {vs:am} (hc:∀w,St c.G c.D c.w0 H w->Calls c.P f vs.toArray w (Bfz E z w)) (h:∀v F,T c ((d,v)::fr) (.isv E v z F::H) Φ):Cl c fr H d f vs Φ :=
 Aaq hc (fun w e w' s hR=>by
  obtain ⟨v,F,he,ho,hF,hB⟩:=hR;exact ⟨_,he,fun ac g=>(h v F).h ac w' (s.add (N:=[.isv E v z F]) hB (by intro q hq;simp at hq;subst hq;exact ho) ⟨FB,trivial⟩ HO) g⟩)
theorem cv {α:Type} {E:Bt α} {z:α} {f:Nat} {vs:am} (hc:∀w,St c.G c.D c.w0 H w->Calls c.P f vs.toArray w (Awa E z w)) (h:∀v F,T c ((d,v)::fr) (.own E v z F::H) Φ):Cl c fr H d f vs Φ :=
 Aaq hc (fun w e w' s hR=>by
  obtain ⟨v,F,he,ho,hn,hF,hB⟩:=hR;exact ⟨_,he,fun ac g=>(h v F).h ac w' (s.add (N:=[.own E v z F]) hB (by intro q hq;simp at hq;subst hq;exact ⟨hn,ho⟩) ⟨FB,trivial⟩ HO) g⟩)
/-! regions that draw their order -/
inductive Nth:List Pc->Nat->Pc->Prop
 | zero {p R}:Nth (p::R) 0 p
 | succ {x p R i}:Nth R i p->Nth (x::R) (i+1) p
inductive Sel (H:List Pc):aq->List Pc->Prop
 | nil:Sel H [] []
 | cons {i is p R}:Nth H i p->Sel H is R->Sel H (i::is) (p::R)
theorem Nth.mem {H i p} (h:Nth H i p):p∈H:=by
 induction h with
 | zero=>simp
 | succ _ ih=>simp [ih]
variable {H0:List Pc} {X:aq} {f:Nat} {listed:Array Bool}
theorem Ar {id:Nat} {l:List Oper} (is X:aq) (h:T c fr H (.dx k H0 X l.toArray l.length (Array.replicate l.length false))) (_hsel:Sel H is H0:=by repeat constructor) (hm:c.P.follows .mixedOrders=true:=by kernel_rfl):T c fr H (.By k (Code.region id l.toArray true)):=.mk fun a w s g=>by
 exact DV
def Wq (c:Cx):Prop:=∀ch d v a w,c.R (.panic ch) (Act.put a d v) w->c.R (.panic ch) a w
theorem Y7 {P:Program} {D G:aq} {w0:World} {n:Nat} {fn:Func} {R:Ending->World->Prop}:Wq ⟨P,G,D,w0,n,bodyPost P fn R⟩:=fun ch d v a w h=>by
 cases d <;> exact h
theorem dt (i:Nat) (h:T c ((d,v)::fr) H (.dx k H0 X ops f (listed.setIfInBounds i true))) (ho:ops[i]?=some ⟨some d,o,ty,pos,Cc,none⟩:=by rw [aR];rfl) (hy:Yd c.P c.n fr H0 o ty v:=by exact ydE) (hs:Mp H0 H:=by repeat (first|exact Mp.nil|refine Mp.cons FD ?_))
  (h1:Region.noSelect ops=true:=by kernel_rfl) (h2:Region.free .any ops listed i=true:=by kernel_rfl) (h3:(Region.ready .any ops listed).contains i=true:=by kernel_rfl) (h4:Lq .any ops (fun i=>X.contains i) i=true:=by kernel_rfl) (h5:Mr .any ops listed=true:=by kernel_rfl) (hR:Wq c:=by exact Y7) (hd:Nat.blt d c.n=true:=by rfl) :
  T c fr H (.dx k H0 X ops (f+1) listed):=.mk fun a w s g =>
 Ez.take (v:=v) ho h1 h2 h3 h4 h5 (fun ch a w hp=>by rw [Mg] at hp ⊢;exact hR _ _ _ _ _ hp) (.inl ⟨rfl,fun w' hw'=>hy.h a w' _ _ _ _ g hw'⟩) (fun p hp=>s.on p (hs.all p hp)) (h.h _ _ s (g.put hd))
theorem Amp (i j:Nat) {α:Type} {E:Bt α} {t e m:Nat} [hS:SlC c.P t e m] {a:aj} {n cp:Nat} {xs:List α} {F:aq} {z:Int} (h:∀a' c' F',T c ((d,.slice a' (xs.drop j).length c')::fr) (.sl E (.slice a' (xs.drop j).length c') (xs.drop j) F'::H) (.dx k H0 X ops f (listed.setIfInBounds i true))) (ho:ops[i]?=some ⟨some d,.slice t x (some y) none none,ty,pos,Cc,none⟩:=by rw [aR];rfl)
  (hx:ev fr x=some (ab a n cp):=by rfl) (hy:ev fr y=some (aa z):=by rfl) (hm:.sl E (ab a n cp) xs F∈H:=by exact Bl) (hi:z=(j:Int):=by first|rfl|omega) (hj:j<=xs.length:=by omega) (he:E.sz=m:=by rfl) (hs:Mp H0 H:=by repeat (first|exact Mp.nil|refine Mp.cons FD ?_))
  (h1:Region.noSelect ops=true:=by kernel_rfl) (h2:Region.free .any ops listed i=true:=by kernel_rfl) (h3:(Region.ready .any ops listed).contains i=true:=by kernel_rfl) (h4:Lq .any ops (fun i=>X.contains i) i=true:=by kernel_rfl) (h5:Mr .any ops listed=true:=by kernel_rfl) (hR:Wq c:=by exact Y7) (hd:Nat.blt d c.n=true:=by rfl) :
  T c fr H (.dx k H0 X ops (f+1) listed):=.mk fun ac w s g=>by
 subst hi;obtain ⟨hz,hs'⟩:=s.get hm;have he2:=Aev hS;obtain ⟨a2,c2,F',hr,hF,h2'⟩:=hs'.dropS t GF j hj (fun W=>by rw [he2,he];exact Ms hS.s W);rw [<-aX] at h2' hr;refine Ez.take (v:=.slice a2 (xs.drop j).length c2) ho h1 h2 h3 h4 h5 (fun ch a w hp=>by rw [Mg] at hp ⊢;exact hR _ _ _ _ _ hp) (.inl ⟨rfl,fun w' _=>?_⟩) (fun p hp=>s.on p (hs.all p hp)) ((h a2 c2 F').h _ w (s.ro hm rfl rfl ⟨hz,h2'⟩ hF) (g.put hd));simp only [execOp,cN,bY,g.ev hx,g.ev hy,Sem.run_bind,hr,Result.andThen_ok,Sem.run_pure]
theorem C5 (i:Nat) {j t:Nat} {b:Bool} (h:T c ((d,v)::fr) H (.dx k H0 X ops f (listed.setIfInBounds i true))) (ho:ops[i]?=some ⟨some d,o,ty,pos,Cc,some (j,b)⟩:=by rw [aR];rfl) (ht:(ops[j]?).bind (·.dst)=some t:=by rfl) (hl:Rg fr t=some (.bool b):=by rfl) (hy:Yd c.P c.n fr H0 o ty v:=by exact ydE) (hs:Mp H0 H:=by repeat (first|exact Mp.nil|refine Mp.cons FD ?_))
  (h1:Region.noSelect ops=true:=by kernel_rfl) (h2:Region.free .any ops listed i=true:=by kernel_rfl) (h3:(Region.ready .any ops listed).contains i=true:=by kernel_rfl) (h4:Lq .any ops (fun i=>X.contains i) i=true:=by kernel_rfl) (h5:Mr .any ops listed=true:=by kernel_rfl) (hR:Wq c:=by exact Y7) (hd:Nat.blt d c.n=true:=by rfl) :
  T c fr H (.dx k H0 X ops (f+1) listed):=.mk fun a w s g =>
 Ez.take (v:=v) ho h1 h2 h3 h4 h5 (fun ch a w hp=>by rw [Mg] at hp ⊢;exact hR _ _ _ _ _ hp) (.inl ⟨by rw [U6 (c:=c) ht hl g];simp,fun w' hw'=>hy.h a w' _ _ _ _ g hw'⟩) (fun p hp=>s.on p (hs.all p hp)) (h.h _ _ s (g.put hd))
theorem ds (i:Nat) {j t:Nat} {b b':Bool} (h:T c ((d,undef)::fr) H (.dx k H0 X ops f (listed.setIfInBounds i true))) (ho:ops[i]?=some ⟨some d,o,ty,pos,Cc,some (j,b)⟩:=by rw [aR];rfl) (ht:(ops[j]?).bind (·.dst)=some t:=by rfl) (hl:Rg fr t=some (.bool b'):=by rfl) (hb:(b' == b)=false:=by rfl) (hs:Mp H0 H:=by repeat (first|exact Mp.nil|refine Mp.cons FD ?_))
  (h1:Region.noSelect ops=true:=by kernel_rfl) (h2:Region.free .any ops listed i=true:=by kernel_rfl) (h3:(Region.ready .any ops listed).contains i=true:=by kernel_rfl) (h4:Lq .any ops (fun i=>X.contains i) i=true:=by kernel_rfl) (h5:Mr .any ops listed=true:=by kernel_rfl) (hR:Wq c:=by exact Y7) (hd:Nat.blt d c.n=true:=by rfl) :
  T c fr H (.dx k H0 X ops (f+1) listed):=.mk fun a w s g =>
 Ez.take (v:=undef) ho h1 h2 h3 h4 h5 (fun ch a w hp=>by rw [Mg] at hp ⊢;exact hR _ _ _ _ _ hp) (.inr ⟨by rw [U6 (c:=c) ht hl g];exact hb,rfl⟩) (fun p hp=>s.on p (hs.all p hp)) (h.h _ _ s (g.put hd))
theorem dsu (i:Nat) {j t:Nat} {b:Bool} (h:T c ((d,undef)::fr) H (.dx k H0 X ops f (listed.setIfInBounds i true))) (ho:ops[i]?=some ⟨some d,o,ty,pos,Cc,some (j,b)⟩:=by rw [aR];rfl) (ht:(ops[j]?).bind (·.dst)=some t:=by rfl) (hl:Rg fr t=some undef:=by rfl) (hs:Mp H0 H:=by repeat (first|exact Mp.nil|refine Mp.cons FD ?_))
  (h1:Region.noSelect ops=true:=by kernel_rfl) (h2:Region.free .any ops listed i=true:=by kernel_rfl) (h3:(Region.ready .any ops listed).contains i=true:=by kernel_rfl) (h4:Lq .any ops (fun i=>X.contains i) i=true:=by kernel_rfl) (h5:Mr .any ops listed=true:=by kernel_rfl) (hR:Wq c:=by exact Y7) (hd:Nat.blt d c.n=true:=by rfl) :
  T c fr H (.dx k H0 X ops (f+1) listed):=.mk fun a w s g =>
 Ez.take (v:=undef) ho h1 h2 h3 h4 h5 (fun ch a w hp=>by rw [Mg] at hp ⊢;exact hR _ _ _ _ _ hp) (.inr ⟨by simp only [Region.wanted,yielded,ht,dh,g.at_ t _ hl];rfl,rfl⟩) (fun p hp=>s.on p (hs.all p hp)) (h.h _ _ s (g.put hd))
theorem dk {i:Nat} (h:T c fr H (.dx k H0 X ops f listed)) (hs:Mp H0 H:=by repeat (first|exact Mp.nil|refine Mp.cons FD ?_)):T c fr H (.dk i k H0 X ops f listed):=.mk fun a w s g=>⟨fun _ p hp=>s.on p (hs.all p hp),h.h a w s g⟩
theorem Nm {i:Nat} (h:T c fr H (.dx k H0 X ops f listed)) (hi:X.contains i=true:=by rfl):T c fr H (.dk i k H0 X ops f listed):=.mk fun a w s g=>⟨fun h0=>(by rw [hi] at h0;cases h0),h.h a w s g⟩
theorem d1 (i:Nat) {o:Oper} (h:Ef c fr H o (.dk i k H0 X ops f (listed.setIfInBounds i true))) (hr:Region.ready .any ops listed=[i]:=by kernel_rfl) (ho:ops[i]?=some o:=by rw [aR];rfl) (hg:o.guard=none:=by rfl):T c fr H (.dx k H0 X ops (f+1) listed):=.mk fun a w s g =>
 Ez.only hr ho fun K hK=>by
  rw [aJ (by simp [Region.wanted,hg])];exact Oper.wp_mono (fun a' w' h'=>hK a' w' h'.1 h'.2) (h.h _ a w s g)
theorem d1g (i:Nat) {od:Option Tmp} {j t:Nat} {b:Bool} (h:Ef c fr H ⟨od,o,ty,pos,Cc,some (j,b)⟩ (.dk i k H0 X ops f (listed.setIfInBounds i true))) (hr:Region.ready .any ops listed=[i]:=by kernel_rfl) (ho:ops[i]?=some ⟨od,o,ty,pos,Cc,some (j,b)⟩:=by rw [aR];rfl) (ht:(ops[j]?).bind (·.dst)=some t:=by rfl) (hl:Rg fr t=some (.bool b):=by rfl):T c fr H (.dx k H0 X ops (f+1) listed):=.mk fun a w s g =>
 Ez.only hr ho fun K hK=>by
  rw [aJ (by rw [U6 (c:=c) ht hl g];simp)];exact Oper.wp_mono (fun a' w' h'=>hK a' w' h'.1 h'.2) (h.h _ a w s g)
theorem d2 (i j:Nat) {o o2:Oper} (h:Ef c fr H o (.dk i k H0 X ops f (listed.setIfInBounds i true))) (h':Ef c fr H o2 (.dk j k H0 X ops f (listed.setIfInBounds j true)))
  (hr:Region.ready .any ops listed=[i,j]:=by kernel_rfl) (ho:ops[i]?=some o:=by rw [aR];rfl) (ho2:ops[j]?=some o2:=by rw [aR];rfl) (hg:o.guard=none:=by rfl) (hg2:o2.guard=none:=by rfl):T c fr H (.dx k H0 X ops (f+1) listed):=.mk fun a w s g =>
 Ez.two hr ho ho2 (fun K hK=>by
  rw [aJ (by simp [Region.wanted,hg])];exact Oper.wp_mono (fun a' w' h'=>hK a' w' h'.1 h'.2) (h.h _ a w s g)) (fun K hK=>by
  rw [aJ (by simp [Region.wanted,hg2])];exact Oper.wp_mono (fun a' w' h''=>hK a' w' h''.1 h''.2) (h'.h _ a w s g))
theorem dO (i:Nat) {od:Option Tmp} (hr:Region.ready .any ops listed=[i]) (ho:ops[i]?=some ⟨od,o,ty,pos,Cc,none⟩) (h:On c fr H od o ty (.dk i k H0 X ops f (listed.setIfInBounds i true))):T c fr H (.dx k H0 X ops (f+1) listed):=d1 i (h.h pos Cc none) hr ho rfl
theorem dO2 (i j:Nat) {od od2:Option Tmp} {o2:Op} {ty2:TypeId} {pos2:String} {aft2:Array Edge} (hr:Region.ready .any ops listed=[i,j]) (ho:ops[i]?=some ⟨od,o,ty,pos,Cc,none⟩) (ho2:ops[j]?=some ⟨od2,o2,ty2,pos2,aft2,none⟩) (h:On c fr H od o ty (.dk i k H0 X ops f (listed.setIfInBounds i true))) (h':On c fr H od2 o2 ty2 (.dk j k H0 X ops f (listed.setIfInBounds j true))):T c fr H (.dx k H0 X ops (f+1) listed):=d2 i j (h.h pos Cc none) (h'.h pos2 aft2 none) hr ho ho2 rfl rfl
theorem dd (h:T c fr H (.norm k)) (hr:Region.ready .any ops listed=[]:=by kernel_rfl):T c fr H (.dx k H0 X ops f listed):=.mk fun a w s g=>Ez.done hr (h.h a w s g) f
theorem ey {gd:Option (Nat × Bool)} (h:T c ((d,v)::fr) H Φ) (hy:Yd c.P c.n fr H o ty v:=by exact ydE) (hd:Nat.blt d c.n=true:=by rfl):Ef c fr H ⟨some d,o,ty,pos,Cc,gd⟩ Φ:=Bdh hy hd h
end
inductive Kf (fr:Fr):aq->Fr->Prop
 | nil:Kf fr [] []
 | cons {t v ts r}:Rg fr t=some v->Kf fr ts r->Kf fr (t::ts) ((t,v)::r)
theorem Kf.sub {fr ts r} (h:Kf fr ts r):Mi fr r:=by
 induction h with
 | nil=>exact .nil
 | cons h _ ih=>exact .cons h ih
theorem Mi.app {fr a b:Fr} (h:Mi fr a) (h2:Mi fr b):Mi fr (a++b):=by
 induction h with
 | nil=>exact h2
 | cons h _ ih=>exact .cons h ih
theorem Kj.hsub {H M R:List Pc} (h:Kj H M R):Lc H (M++R):=by
 have all:∀(H:List Pc),Lc H H:=by
  intro H
  induction H with
  | nil=>exact .nil
  | cons p H ih=>exact .cons .here ih
 induction h with
 | nil=>exact all _
 | cons hp _ ih=>exact .cons hp ih
theorem Bx {c:Cx} {fr:Fr} {H:List Pc} {k:List It} {x:Code} {σ:Type} {cst:Fr} {rest:List Pc} (ks:aq) (upd:σ->Fr) (chg:σ->List Pc) (C:σ->Prop) (μ:σ->Nat) (s0:σ) (h0:C s0)
  (round:∀s,C s->T c (upd s++cst) (chg s++rest) (.By (.lp (LpN c (fun s=>upd s++cst) (fun s=>chg s++rest) C μ (μ s))::k) x)) (hk:Kf fr ks cst:=by repeat (first|exact Kf.nil|apply Kf.cons FL)) (hf:Mi fr (upd s0):=by exact frE) (hH:Kj H (chg s0) rest:=by exact Agr):T c fr H (.By k (Code.loop x)) :=
 Awo (fun s=>upd s++cst) (fun s=>chg s++rest) C μ s0 h0 round (hf.app hk.sub) hH.hsub
theorem Em {c:Cx} {fr:Fr} {H:List Pc} {k:List It} {x:Code} {σ:Type} {cst:Fr} (ks:aq) (upd:σ->Fr) (C:σ->Prop) (μ:σ->Nat) (s0:σ) (h0:C s0)
  (round:∀s,C s->T c (upd s++cst) H (.By (.lp (LpN c (fun s=>upd s++cst) (fun _=>H) C μ (μ s))::k) x)) (hk:Kf fr ks cst:=by repeat (first|exact Kf.nil|apply Kf.cons FL)) (hf:Mi fr (upd s0):=by exact frE):T c fr H (.By k (Code.loop x)) :=
 Awo (fun s=>upd s++cst) (fun _=>H) C μ s0 h0 round (hf.app hk.sub) (by
  have all:∀(H:List Pc),Lc H H:=by
   intro H
   induction H with
   | nil=>exact .nil
   | cons p H ih=>exact .cons .here ih
  exact all _)
def Jn {σ:Type} (c:Cx) (fr':σ->Fr) (H':σ->List Pc) (C:σ->Prop) (a:Act) (w:World):Prop:=∃s,C s/\St c.G c.D c.w0 (H' s) w/\Ag c.n (fr' s) a
theorem Bd3 {c:Cx} {fr:Fr} {H:List Pc} {k:List It} {x:Code} {σ:Type} (fr':σ->Fr) (H':σ->List Pc) (C:σ->Prop) (h:T c fr H (.By (.lp (Jn c fr' H' C)::k) x)) (h2:∀s,C s->T c (fr' s) (H' s) (.norm k)):T c fr H (.By k x):=.mk fun a w s g =>
 wp_mono (h.h a w s g) fun e a' w' he=>by
  cases e with
  | normal=>obtain ⟨z,hz,hs,hg⟩:=he;exact (h2 z hz).h a' w' hs hg
  | _=>exact he
theorem Bk {c:Cx} {fr:Fr} {H:List Pc} {k:List It} {σ:Type} {fr':σ->Fr} {H':σ->List Pc} {C:σ->Prop} (s:σ) (hC:C s) (hf:Mi fr (fr' s):=by repeat (first|exact Mi.nil|refine Mi.cons FL ?_)) (hH:Lc H (H' s):=by repeat (first|exact Lc.nil|refine Lc.cons (by exact Dt) ?_)):T c fr H (.norm (.lp (Jn c fr' H' C)::k)) :=
 .mk fun _ _ st g=>⟨s,hC,st.sub hH,g.sub hf⟩
theorem D0 {c:Cx} {fr:Fr} {H:List Pc} {k:List It} {x:Code} {σ:Type} {cst:Fr} {rest:List Pc} (ks rs:aq) (upd:σ->Fr) (chg:σ->List Pc) (C:σ->Prop) (h:T c fr H (.By (.lp (Jn c (fun s=>upd s++cst) (fun s=>chg s++rest) C)::k) x)) (h2:∀s,C s->T c (upd s++cst) (chg s++rest) (.norm k)) (_hk:Kf fr ks cst:=by repeat (first|exact Kf.nil|apply Kf.cons FL)) (_hr:Sel H rs rest:=by repeat constructor):T c fr H (.By k x) :=
 Bd3 _ _ C h h2
theorem enter {P:Program} {f:FuncId} {fn:Func} {cd:Code} {args:am} {A M H:List Pc} {σ:Type} {C:σ->Prop} {v:σ->Value} {N:σ->List Pc} {n:Nat} (hf:P.funcs[f]?=some fn) (hb:fn.body=some cd) (hn:fn.ntmps=n)
  (h:∀w,T ⟨P,fp M,fp A,w,n,bodyPost P fn (Akh P w A M C v N)⟩ (Ami 0 args) H (.By [] cd))
  (hl:Nat.ble args.length n=true:=by rfl) (hmA:A.all (fun p=>!p.mu)=true:=by rfl) (hH:Al0 M A H:=by repeat constructor):Fn P f args A M C v N:=by
 subst hn;exact Aw2 hf hb (fun w=>by rw [hH.eq];exact h w) GY hmA
theorem ret {P:Program} {fn:Func} {G D:aq} {w0:World} {n:Nat} {A M:List Pc} {σ:Type} {C:σ->Prop} {v:σ->Value} {N:σ->List Pc} {fr:Fr} {H:List Pc} {rs:List ResultVar} {vs:am} (s:σ) (hC:C s) (hv:Tn vs=v s)
  (hr:fn.results=rs.toArray:=by rfl) (h:Res P fr H rs vs:=by repeat (first|exact Res.nil|apply Res.tmp FL|apply Res.agg inferInstance FL FD FL|apply Res.one inferInstance FL FD)) (hN:Lc H (N s):=by repeat (first|exact Lc.nil|refine Lc.cons (by exact Dt) ?_)) (hG:G=fp M:=by rfl) (hD:D=fp A:=by rfl):T ⟨P,G,D,w0,n,bodyPost P fn (Akh P w0 A M C v N)⟩ fr H (.fin .ret):=Bec s hC hr h hv hN hG hD
theorem Fn.val {P:Program} {f:FuncId} {args:am} {A:List Pc} {C:Unit->Prop} {v:Value} (h:Fn P f args A [] C (fun _=>v) (fun _=>[])) (w:World) (hA:Ob A w) (hm:A.all (fun p=>!p.mu)=true:=by rfl):Calls P f args.toArray w (RB v w) :=
 have hs:∀(A:List Pc),A.all (fun p=>!p.mu)=true->Sc A:=by
  intro A
  induction A with
  | nil=>intro _;trivial
  | cons p A ih =>
   intro h;simp only [dQ,aw,bA] at h;exact ⟨fun q hq hm=>by have:=aW.1 h.2 q hq;simp [h.1] at hm;simp [hm] at this,ih h.2⟩
 (h w IZ (by simpa using hs A hm)).mono fun e w' ⟨_,_,he,_,_,hk,_⟩=>⟨he,hk.below (aL _) (by simp [fp])⟩
theorem Aqq:∀(A:List Pc),A.all (fun p=>!p.mu)=true->Sc A
 | [],_=>trivial
 | p::A,h=>by
  simp only [dQ,aw,bA] at h;exact ⟨fun q hq hm=>by have:=aW.1 h.2 q hq;simp [h.1] at hm;simp [hm] at this,Aqq A h.2⟩
theorem Pc.nd {p:Pc} (hm:p.mu=true) {w:World} (h:p.P w):p.F.Nodup:=by
 cases p with
 | row g t o A cs B=>simp [Pc.F]
 | ow E t v xs F=>exact h.1
 | own E v x F=>exact h.1
 | flat E cs xs F=>exact h.1
 | _=>cases hm
theorem Amz {w:World}:∀{N:List Pc},N.all (·.mu)=true->Ob N w->Sc N->(fp N).Nodup
 | [],_,_,_=>by simp [fp]
 | p::N,hm,hH,hs=>by
  simp only [dQ,aw] at hm;refine bN.2 ⟨Pc.nd hm.1 (hH p FB),Amz hm.2 (fun q hq=>hH q GB) hs.2,fun b hb b' hb' e=>?_⟩;subst e;obtain ⟨q,hq,hqb⟩:=Rh.1 hb';exact hs.1 q hq (by simp [hm.1]) b hb hqb
theorem Fn.made {P:Program} {f:FuncId} {args:am} {A:List Pc} {σ:Type} {C:σ->Prop} {v:σ->Value} {N:σ->List Pc} (h:Fn P f args A [] C v N) (w:World) (hA:Ob A w) (hN:∀s,(N s).all (·.mu)=true) (hm:A.all (fun p=>!p.mu)=true:=by rfl) :
  Calls P f args.toArray w fun e w'=>∃s,C s/\e=.returned (v s)/\Ob (N s) w'/\(fp (N s)).Nodup/\(∀b∈fp (N s),w.heap.size<=b)/\Below w.heap.size w w' :=
 (h w IZ (by simpa using Aqq A hm)).mono fun e w' ⟨s,hC,he,hH,hS,hk,hF⟩=>⟨s,hC,he,hH,Amz (hN s) hH hS,(fun b hb=>by
  obtain ⟨p,hp,hpb⟩:=Rh.1 hb;rcases hF p hp b hpb with h|⟨q,hq,_⟩|⟨h,_⟩
  ·exact h
  ·simp at hq
  ·have:=aW.1 (hN s) p hp;rw [h] at this;cases this),hk.below (aL _) (by simp [fp])⟩
theorem Fn.read {P:Program} {f:FuncId} {args:am} {A:List Pc} {σ:Type} {C:σ->Prop} {v:σ->Value} {N:σ->List Pc} (h:Fn P f args A [] C v N) (w:World) (hA:Ob A w) (hm:A.all (fun p=>!p.mu)=true:=by rfl) :
  Calls P f args.toArray w fun e w'=>∃s,C s/\e=.returned (v s)/\Ob (N s) w'/\Below w.heap.size w w' :=
 (h w IZ (by simpa using Aqq A hm)).mono fun e w' ⟨s,hC,he,hH,hS,hk,hF⟩=>⟨s,hC,he,hH,hk.below (aL _) (by simp [fp])⟩
theorem Sz {p q:Pc} {w:World} (h:p.P w) (h2:q.P w):Ob [p,q] w:=fun r hr=>by
 simp only [aH,aT,bm] at hr;rcases hr with rfl|rfl <;> assumption
structure Kp (X:Prop):Prop where
 h:X
section
variable {c:Cx} {fr:Fr} {H:List Pc} {d:Nat} {ty:TypeId} {v:Value} {x:Operand} {Φ:Gl}
theorem Ax9 {Y:Nat->Prop} {t:TypeId} {l:am} (hd:Nat.blt d c.n=true) (hx:ev fr x=some v) (hv:v.cells=l.toArray) (hX:Kp (∀g,Y g)) (h:∀g,Kp (Y g)->T c ((d,Ga g 0 0)::fr) (.row g t 0 [] l []::H) Φ):On c fr H (some d) (.box t x) ty Φ:=Bgj hd hx hv fun g=>h g ⟨hX.h g⟩
theorem Anz {Y:Nat->Prop} {t:TypeId} {zs:am} [ZC c.P t zs] (hd:Nat.blt d c.n=true) (hX:Kp (∀g,Y g)) (h:∀g,Kp (Y g)->T c ((d,Ga g 0 0)::fr) (.row g t 0 [] zs []::H) Φ):On c fr H (some d) (.alloc t) ty Φ:=Cm hd fun g=>h g ⟨hX.h g⟩
theorem Aya {Y:Nat->Prop} {t e m:Nat} [SlC c.P t e m] (hd:Nat.blt d c.n=true) (hX:Kp (∀g,Y g)) (h:∀g,Kp (Y g)->T c ((d,ab (some ⟨g,0,none⟩) 0 0)::fr) (.row g e 0 [] [] []::H) Φ):On c fr H (some d) (.buildSlice t 0 #[]) ty Φ:=Kg hd fun g=>h g ⟨hX.h g⟩
theorem Bdk {Y:Nat->Prop} {t e m b len:Nat} {z:Value} {zs cs q:am} {ps:List (Nat × Operand)} [SlC c.P t e m] [ElT c.P e z m b] [ZC c.P e zs] (hd:Nat.blt d c.n=true) (hlen:Nat.blt 0 len=true) (hm:Nat.blt 0 m=true) (hl:Nat.ble (len * m) 1000=true) (hc:Rpt zs len cs) (hf:Fil (fun i=>some (i * m,m)) fr cs ps q) (hX:Kp (∀g,Y g)) (h:∀g,Kp (Y g)->T c ((d,ab (some ⟨g,0,none⟩) len len)::fr) (.row g e 0 [] q []::H) Φ) :
  On c fr H (some d) (.buildSlice t len ps.toArray) ty Φ:=Iq hd hlen hm hl hc hf fun g=>h g ⟨hX.h g⟩
end
theorem go {X:Prop} {c:Cx} {fr:Fr} {H:List Pc} {Φ:Gl} (h:X) (hs:Kp X->T c fr H Φ:=by intro hX;(repeat (first|apply Og|apply Amk|(apply wO;apply oc;rfl;exact ydE)|apply U5|apply Ys|(apply Aq7;rfl;rfl)|(apply Aq6;rfl;rfl;rfl;rfl)|(apply Aq8;rfl;rfl;rfl)|(apply c_t;rfl)|(apply c_f;rfl)|apply Ww|apply Tq|apply Agl|apply Awn|apply Bdg|apply Bf4|apply Bf5|(apply Awu;rfl)|apply Bde|(apply wO;apply Ax9;rfl;rfl;rfl;exact hX;clear hX;intro _ hX)|(apply wO;apply Anz;rfl;exact hX;clear hX;intro _ hX)|(apply wO;apply Ayc;rfl;rfl;rfl;(first|exact AggC.s|exact OneC.s);rfl;exact Ale;exact Ayl;rfl)|(apply wO;apply Aya;rfl;exact hX;clear hX;intro _ hX)|(apply wO;apply Bdk;rfl;rfl;rfl;rfl;exact Ik;exact Ih;exact hX;clear hX;intro _ hX)|(apply wO;apply Ap9;rfl;kernel_rfl;exact Wk)));exact hX.h):T c fr H Φ:=hs ⟨h⟩
theorem Io {X:Prop} {c:Cx} {fr:Fr} {H:List Pc} {Φ:Gl} (h:X) (hs:Kp X->T c fr H Φ:=by intro hX;(repeat (first|apply Og|apply Amk|(apply wO;apply oc;rfl;exact ydE)|apply U5|apply Ys|(apply Aq7;rfl;rfl)|(apply Aq6;rfl;rfl;rfl;rfl)|(apply Aq8;rfl;rfl;rfl)|(apply c_t;rfl)|(apply c_f;rfl)|apply Ww|apply Tq|apply Agl|apply Awn|apply Bdg|apply Bf4|apply Bf5|(apply Awu;rfl)|apply Bde|(apply wO;apply Ax9;rfl;rfl;rfl;exact hX;clear hX;intro _ hX)|(apply wO;apply Anz;rfl;exact hX;clear hX;intro _ hX)|(apply wO;apply Ayc;rfl;rfl;rfl;(first|exact AggC.s|exact OneC.s);rfl;exact Ale;exact Ayl;rfl)|(apply wO;apply Aya;rfl;exact hX;clear hX;intro _ hX)|(apply wO;apply Bdk;rfl;rfl;rfl;rfl;exact Ik;exact Ih;exact hX;clear hX;intro _ hX)));exact hX.h):T c fr H Φ:=hs ⟨h⟩
section
variable {c:Cx} {fr:Fr} {H:List Pc} {k:List It} {Φ:Gl} {ops:Array Oper} {rest:List Oper} {d:Nat} {o:Op} {ty:TypeId} {pos:String} {Cc:Array Edge} {v u:Value} {x y:Operand} {H0:List Pc} {X:aq} {f:Nat} {listed:Array Bool}
theorem oC {f:Nat} {aS:List Operand} {ts:Array TypeId} {vs:am} (h:Cl c fr H d f vs Φ) (hd:Nat.blt d c.n=true:=by rfl) (hb:Qx c.P f=true:=by kernel_rfl) (ha:Evs fr aS vs:=by exact Wk):On c fr H (some d) (.call { callee:=.value (.func f),args:=aS.toArray,argTypes:=ts }) ty Φ:=Ap9 hd hb ha h
theorem oS {t g tt o' j m:Nat} {A cs B l r:am} {S:List Pc} (h:T c fr S Φ) (hx:ev fr x=some (Ga g o' j):=by rfl) (hy:ev fr y=some v:=by rfl) (hv:v.cells=l.toArray:=by rfl) (hs:(c.P.info? t).map (·.size)=some m:=by first|exact AggC.s|exact OneC.s) (hl:l.length=m:=by rfl) (hr:Rpl H (.row g tt o' A cs B) (.row g tt o' A r B) S:=by exact Ale) (hp:Put cs j l r:=by exact Ayl) (h1:l.all (·.oneCell')=true:=by rfl):On c fr H none (.store t x y) ty Φ:=Ayc hx hy hv hs hl hr hp h1 h
theorem dN (i:Nat) {od:Option Tmp} (h:On c fr H od o ty (.dk i k H0 X ops f (listed.setIfInBounds i true))) (hr:Region.ready .any ops listed=[i]:=by kernel_rfl) (ho:ops[i]?=some ⟨od,o,ty,pos,Cc,none⟩:=by rw [aR];rfl):T c fr H (.dx k H0 X ops (f+1) listed):=dO i hr ho h
theorem dM (i j:Nat) {od od2:Option Tmp} {o2:Op} {ty2:TypeId} {pos2:String} {aft2:Array Edge} (h:On c fr H od o ty (.dk i k H0 X ops f (listed.setIfInBounds i true))) (h':On c fr H od2 o2 ty2 (.dk j k H0 X ops f (listed.setIfInBounds j true))) (hr:Region.ready .any ops listed=[i,j]:=by kernel_rfl) (ho:ops[i]?=some ⟨od,o,ty,pos,Cc,none⟩:=by rw [aR];rfl) (ho2:ops[j]?=some ⟨od2,o2,ty2,pos2,aft2,none⟩:=by rw [aR];rfl):T c fr H (.dx k H0 X ops (f+1) listed):=dO2 i j hr ho ho2 h h'
theorem Dh (i0 i1:Nat) {d0:Nat} {o0:Op} {t0:TypeId} {p0:String} {a0:Array Edge} {v0:Value} {d1:Nat} {o1:Op} {t1:TypeId} {p1:String} {a1:Array Edge} {v1:Value} (h:T c ((d1,v1)::((d0,v0)::fr)) H (.dx k H0 X ops f ((listed.setIfInBounds i0 true).setIfInBounds i1 true))) (hs:Mp H0 H:=by repeat (first|exact Mp.nil|refine Mp.cons FD ?_)) (h1:Region.noSelect ops=true:=by kernel_rfl) (hR:Wq c:=by exact Y7) (ho0:ops[i0]?=some ⟨some d0,o0,t0,p0,a0,none⟩:=by rw [aR];rfl) (hy0:Yd c.P c.n fr H0 o0 t0 v0:=by exact ydE) (w0:Region.free .any ops listed i0=true:=by kernel_rfl) (x0:(Region.ready .any ops listed).contains i0=true:=by kernel_rfl) (y0:Lq .any ops (fun i=>X.contains i) i0=true:=by kernel_rfl) (z0:Mr .any ops listed=true:=by kernel_rfl) (e0:Nat.blt d0 c.n=true:=by rfl) (ho1:ops[i1]?=some ⟨some d1,o1,t1,p1,a1,none⟩:=by rw [aR];rfl) (hy1:Yd c.P c.n ((d0,v0)::fr) H0 o1 t1 v1:=by exact ydE) (w1:Region.free .any ops (listed.setIfInBounds i0 true) i1=true:=by kernel_rfl) (x1:(Region.ready .any ops (listed.setIfInBounds i0 true)).contains i1=true:=by kernel_rfl) (y1:Lq .any ops (fun i=>X.contains i) i1=true:=by kernel_rfl) (z1:Mr .any ops (listed.setIfInBounds i0 true)=true:=by kernel_rfl) (e1:Nat.blt d1 c.n=true:=by rfl):T c fr H (.dx k H0 X ops (f+1+1) listed):=dt i0 (dt i1 h ho1 hy1 hs h1 w1 x1 y1 z1 hR e1) ho0 hy0 hs h1 w0 x0 y0 z0 hR e0
theorem Df (i0 i1 i2 i3:Nat) {d0:Nat} {o0:Op} {t0:TypeId} {p0:String} {a0:Array Edge} {v0:Value} {d1:Nat} {o1:Op} {t1:TypeId} {p1:String} {a1:Array Edge} {v1:Value} {d2:Nat} {o2:Op} {t2:TypeId} {p2:String} {a2:Array Edge} {v2:Value} {d3:Nat} {o3:Op} {t3:TypeId} {p3:String} {a3:Array Edge} {v3:Value} (h:T c ((d3,v3)::((d2,v2)::((d1,v1)::((d0,v0)::fr)))) H (.dx k H0 X ops f ((((listed.setIfInBounds i0 true).setIfInBounds i1 true).setIfInBounds i2 true).setIfInBounds i3 true))) (hs:Mp H0 H:=by repeat (first|exact Mp.nil|refine Mp.cons FD ?_)) (h1:Region.noSelect ops=true:=by kernel_rfl) (hR:Wq c:=by exact Y7) (ho0:ops[i0]?=some ⟨some d0,o0,t0,p0,a0,none⟩:=by rw [aR];rfl) (hy0:Yd c.P c.n fr H0 o0 t0 v0:=by exact ydE) (w0:Region.free .any ops listed i0=true:=by kernel_rfl) (x0:(Region.ready .any ops listed).contains i0=true:=by kernel_rfl) (y0:Lq .any ops (fun i=>X.contains i) i0=true:=by kernel_rfl) (z0:Mr .any ops listed=true:=by kernel_rfl) (e0:Nat.blt d0 c.n=true:=by rfl) (ho1:ops[i1]?=some ⟨some d1,o1,t1,p1,a1,none⟩:=by rw [aR];rfl) (hy1:Yd c.P c.n ((d0,v0)::fr) H0 o1 t1 v1:=by exact ydE) (w1:Region.free .any ops (listed.setIfInBounds i0 true) i1=true:=by kernel_rfl) (x1:(Region.ready .any ops (listed.setIfInBounds i0 true)).contains i1=true:=by kernel_rfl) (y1:Lq .any ops (fun i=>X.contains i) i1=true:=by kernel_rfl) (z1:Mr .any ops (listed.setIfInBounds i0 true)=true:=by kernel_rfl) (e1:Nat.blt d1 c.n=true:=by rfl) (ho2:ops[i2]?=some ⟨some d2,o2,t2,p2,a2,none⟩:=by rw [aR];rfl) (hy2:Yd c.P c.n ((d1,v1)::((d0,v0)::fr)) H0 o2 t2 v2:=by exact ydE) (w2:Region.free .any ops ((listed.setIfInBounds i0 true).setIfInBounds i1 true) i2=true:=by kernel_rfl) (x2:(Region.ready .any ops ((listed.setIfInBounds i0 true).setIfInBounds i1 true)).contains i2=true:=by kernel_rfl) (y2:Lq .any ops (fun i=>X.contains i) i2=true:=by kernel_rfl) (z2:Mr .any ops ((listed.setIfInBounds i0 true).setIfInBounds i1 true)=true:=by kernel_rfl) (e2:Nat.blt d2 c.n=true:=by rfl) (ho3:ops[i3]?=some ⟨some d3,o3,t3,p3,a3,none⟩:=by rw [aR];rfl) (hy3:Yd c.P c.n ((d2,v2)::((d1,v1)::((d0,v0)::fr))) H0 o3 t3 v3:=by exact ydE) (w3:Region.free .any ops (((listed.setIfInBounds i0 true).setIfInBounds i1 true).setIfInBounds i2 true) i3=true:=by kernel_rfl) (x3:(Region.ready .any ops (((listed.setIfInBounds i0 true).setIfInBounds i1 true).setIfInBounds i2 true)).contains i3=true:=by kernel_rfl) (y3:Lq .any ops (fun i=>X.contains i) i3=true:=by kernel_rfl) (z3:Mr .any ops (((listed.setIfInBounds i0 true).setIfInBounds i1 true).setIfInBounds i2 true)=true:=by kernel_rfl) (e3:Nat.blt d3 c.n=true:=by rfl):T c fr H (.dx k H0 X ops (f+1+1+1+1) listed):=dt i0 (dt i1 (dt i2 (dt i3 h ho3 hy3 hs h1 w3 x3 y3 z3 hR e3) ho2 hy2 hs h1 w2 x2 y2 z2 hR e2) ho1 hy1 hs h1 w1 x1 y1 z1 hR e1) ho0 hy0 hs h1 w0 x0 y0 z0 hR e0
theorem Bf {f:Nat} {vs:am} {A M R:List Pc} {σ:Type} {C:σ->Prop} {vv:σ->Value} {N K:σ->List Pc} (hf:Fn c.P f vs A M C vv N) (h:∀s,C s->T c ((d,vv s)::fr) (K s) Φ) (hM:Kj H M R:=by repeat (first|exact Kj.nil|apply Kj.cons (by exact Dt))) (hA:Mp A R:=by repeat (first|exact Mp.nil|refine Mp.cons FD ?_)) (hmM:M.all (·.mu)=true:=by rfl) (hmA:A.all (fun p=>!p.mu)=true:=by rfl) (hK:∀s,Al0 (N s) R (K s):=by intro _;repeat constructor):Cl c fr H d f vs Φ:=cf_ hf (fun s hs=>Ot (h s hs) (hK s)) hM hA hmM hmA
end
theorem Am4:(prog.info? 9).map (fun i=>(i.zero,i.size,i.bytes))=some (some (af ⟨#[]⟩),1,16):=by kernel_rfl
theorem Sl.str {w:World} {a:aj} {n cap:Nat} {xs:ai} {F} (h:Sl A8 w (ab a n cap) xs F):n=xs.length/\n<=maxLen /\
  ∀k (hk:k < xs.length),xs[k].size<=maxLen/\∃b off,a=some ⟨b,off,none⟩/\w.cell? ⟨b,off+k,none⟩=some (af xs[k]):=by
 obtain ⟨a',cap',hv,hl,h⟩:=h;cases hv;refine ⟨rfl,EZ,fun k hk=>?_⟩;rcases h with ⟨rfl,_⟩|⟨b,off,F',rfl,_,_,hc⟩
 ·simp at hk
 ·obtain ⟨cs,F1,⟨rfl,hs,_⟩,hj,_⟩:=hc.get k hk;exact ⟨hs,b,off,rfl,by simpa [A8] using hj 0 FA⟩
theorem Abc {s:au} (h:s.size<=maxLen) (w:World):Cz A8 w [af s] [s] []:=⟨_,[],[],[],FB,FB,⟨rfl,h,rfl⟩,rfl,rfl⟩
theorem Abn {c:Cx} {fr:Fr} {H:List Pc} {Φ:Gl} {α:Type} {E:Bt α} {v:Value} {xs:List α} {F:aq} (h:∀a cp,v=ab a xs.length cp->xs.length<=cp->cp<=9223372036854775807->T c fr H Φ) (hm:.sl E v xs F∈H:=by exact Bl):T c fr H Φ:=.mk fun ac w s g=>by
 obtain ⟨-,hs⟩:=s.get hm;obtain ⟨a,cp,rfl⟩:=hs.slice;obtain ⟨-,h2,h3⟩:=hs.caps;exact (h a cp rfl h2 (by unfold maxLen at h3;omega)).h ac w s g
theorem Eh {c:Cx} {fr:Fr} {H:List Pc} {Φ:Gl} {α:Type} {E:Bt α} {t g:Nat} {cs:am} {xs:List α} {S:List Pc} (hfl:∀w,Cz E w cs xs []) (h:T c fr (.ow E t (ab (some ⟨g,0,none⟩) xs.length xs.length) xs [g]::S) Φ) (hl:xs.length<=1048576) (hp:C2 H (.row g t 0 [] cs []) S:=by exact Dt):T c fr H Φ:=.mk fun a w s g'=>by
 have s1:=s.pick hp;have hr:=(s1.on (.row g t 0 [] cs []) FB).2;have hlen:=(hfl w).len;refine h.h a w (s1.conv rfl ⟨FB,.inr ⟨g,xs.length,cs,[],[],rfl,GK,aL _,FH,by simpa using hlen,hfl w,rfl⟩⟩ JB) g'
theorem Bbf {P:Program} {f:FuncId} {args:am} {A:List Pc} {σ:Type} {C:σ->Prop} {v:σ->Value} {N:σ->Pc}
  (h:∀w,Ob A w->Calls P f args.toArray w fun e w'=>∃s,C s/\e=.returned (v s)/\(N s).P w'/\(∀b∈(N s).F,w.heap.size<=b)/\Below w.heap.size w w'):Fn P f args A [] C v (fun s=>[N s]):=fun w hA _=>by
 refine (h w IZ).mono ?_;rintro e w' ⟨s,hC,he,hN,hF,hB⟩;refine ⟨s,hC,he,Iw hN,⟨FB,trivial⟩,Ei.ofBelow hB,fun p hp b hb=>?_⟩;simp at hp;subst hp;exact .inl (hF b hb)
section
variable {P:Program} {n:Nat} {fr:Fr} {H:List Pc} {ty:TypeId} {x y z:Operand}
theorem V8 {t:TypeId} {s:au} {kd:IntKind} {i:Int} [hS:StrC P t] (hx:ev fr x=some (af s)) (hy:ev fr y=some (.int kd i)) (h0:0<=i) (h1:i<=s.size):Yd P n fr H (.slice t x (some y) none none) ty (af (s.extract i.toNat s.size)):=.mk fun a w d pos Cc g hA _=>by
 have h3:(Instr.sliceAt t (af s) (some (.int kd i)) none none).run P w=.ok (af (s.extract i.toNat s.size)) w:=by
  rw [run_sliceAt_string (h:=hS.u),run_slice_string_l (ht:=hS.u) (h0:=h0) (h1:=h1)]
 exact BJ
theorem Ade {t:TypeId} {s:au} {kd:IntKind} {i:Int} [hS:StrC P t] (hx:ev fr x=some (af s)) (hy:ev fr y=some (.int kd i)) (h0:0<=i) (h1:i<=s.size):Yd P n fr H (.slice t x none (some y) none) ty (af (s.extract 0 i.toNat)):=.mk fun a w d pos Cc g hA _=>by
 have h3:(Instr.sliceAt t (af s) none (some (.int kd i)) none).run P w=.ok (af (s.extract 0 i.toNat)) w:=by
  rw [run_sliceAt_string (h:=hS.u),run_slice_string_h (ht:=hS.u) (h0:=h0) (h2:=h1)]
 exact BJ
theorem Bft {t:TypeId} {s:au} {kd kd2:IntKind} {i j:Int} [hS:StrC P t] (hx:ev fr x=some (af s)) (hy:ev fr y=some (.int kd i)) (hz:ev fr z=some (.int kd2 j)) (h0:0<=i) (h1:i<=j) (h2:j<=s.size):Yd P n fr H (.slice t x (some y) (some z) none) ty (af (s.extract i.toNat j.toNat)):=.mk fun a w d pos Cc g hA _=>by
 have h3:(Instr.sliceAt t (af s) (some (.int kd i)) (some (.int kd2 j)) none).run P w=.ok (af (s.extract i.toNat j.toNat)) w:=by
  rw [run_sliceAt_string (h:=hS.u),run_slice_string (h:=hS.u) (h0:=h0) (h1:=h1) (h2:=h2)]
 simp only [execOp,cN,bY,hA.ev hx,hA.ev hy,hA.ev hz,Sem.run_bind,h3,Result.andThen_ok,Sem.run_pure]
end
section
variable {c:Cx} {fr:Fr} {H:List Pc} {k:List It} {Φ:Gl} {ops:Array Oper} {rest:List Oper} {d:Nat} {o:Op} {ty:TypeId} {v u:Value} {x y:Operand}
theorem Aqa {t e m b:Nat} {z:Value} [hS:SlC c.P t e m] [hE:ElT c.P e z m b] (k:Nat) {kl kc:IntKind} {cs:am} (hd:Nat.blt d c.n=true) (hx:ev fr x=some (.int kl (k:Nat))) (hy:ev fr y=some (.int kc (k:Nat))) (hcs:madeCells z.cells (k * m)=cs.toArray) (hb:b * k<=281474976710656) (h63:k<=9223372036854775807)
  (h:∀g,T c ((d,ab (some ⟨g,0,none⟩) k k)::fr) (.row g e 0 [] cs []::H) Φ):On c fr H (some d) (.makeSlice t x y) ty Φ:=⟨fun _ _ _=>O3 fun Q a w s g=>by
 obtain ⟨i,hi,hiz⟩:=cw.1 hE.i;simp only [Prod.mk.injEq] at hiz;obtain ⟨i1,i2,i3⟩:=hiz;have hb':(i.bytes:Int) * ((k:Nat):Int)<=281474976710656:=by rw [i3];have:((b * k:Nat):Int)<=281474976710656:=EZ;rwa [Int.natCast_mul] at this
 have hr:=run_make (P:=c.P) w t e i z hS.u hi i1 kl kc (k:Nat) (k:Nat) EZ EZ hb' EZ;simp only [ba,i2,hcs] at hr;have e1:∀pos Cc gd,(execOp a.eval ⟨some d,.makeSlice t x y,ty,pos,Cc,gd⟩).run c.P w=.ok (.value (ab (some ⟨w.heap.size,0,none⟩) k k)) (w.alloc (.cells cs.toArray e)):=by
  intro pos Cc gd;simp [execOp,g.ev hx,g.ev hy,hr]
 rw [e1];exact (h _).h _ _ (s.new e cs) (g.put hd)⟩
theorem Ae0 {fo:Operand} {f:Nat} {caps:am} {aS:List Operand} {ts:Array TypeId} {vs:am} (hd:Nat.blt d c.n=true) (hf:ev fr fo=some (.func (.func f) #[] caps.toArray)) (hb:Qx c.P f=true) (ha:Evs fr aS vs) (h:Cl c fr H d f (vs++caps) Φ):On c fr H (some d) (.call { callee:=.value fo,args:=aS.toArray,argTypes:=ts }) ty Φ:=⟨fun _ _ _=>O3 fun Q a w s g=>by
 have e:∀pos Cc gd,(execOp a.eval ⟨some d,.call { callee:=.value fo,args:=aS.toArray,argTypes:=ts },ty,pos,Cc,gd⟩).run c.P w=(callFunc f (vs++caps).toArray).run c.P w:=by
  intro pos Cc gd;simp [execOp,resolve,Deferred.ofValue,g.ev hf,invoke,g.evs ha]
 rw [e];obtain ⟨R,hc,hk⟩:=h.h w s;refine (Vc hb).upon hc fun e w' hR=>?_;obtain ⟨v,he,hv⟩:=hk e w' hR;exact ⟨v,he,hv _ (g.put hd)⟩⟩
theorem Asi {α:Type} {E:Bt α} {a:aj} {n cp:Nat} {xs:List α} {F:aq} (k:Nat) (h:∀F',T c fr (.sl E (.slice a (xs.take k).length cp) (xs.take k) F'::H) Φ) (hk:k<=xs.length) (hm:.sl E (ab a n cp) xs F∈H:=by exact Bl):T c fr H Φ:=.mk fun ac w s g=>by
 obtain ⟨hz,hs⟩:=s.get hm;obtain ⟨F',hF,h2⟩:=hs.takeS k hk;have hl:(xs.take k).length=k:=by simp [cZ hk]
 have h':=h F';rw [hl] at h';exact h'.h _ w (s.ro hm rfl rfl ⟨hz,h2⟩ hF) g
end
end Go.Proofs.YtkoldibamfjghaaGreatDoor
