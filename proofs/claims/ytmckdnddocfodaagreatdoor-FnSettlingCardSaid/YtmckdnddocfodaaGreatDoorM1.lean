/- Part 1 of the proof: 33 texts, one behind the other. -/
import Derived.WalkKit
import Derived.Lib.Hide
import Derived.ProofKit
import Derived.OpenShut
import Derived.Deep.Draws
import Derived.Deep.AppendLies
import Derived.OwnWalk
import Derived.Test.YtmckdnddocfodaaGreatDoorRows
import Derived.WalkSpells
import Derived.WalkLawsBesides
import Derived.Deep.QuietTactic
import Derived.BigQuiet
import Derived.Deep.RegionHeld3
import Derived.Deep.OwnRows
import Derived.Lib.SliceRun
import Derived.Deep.RegionHeld
import Derived.Deep.MidRow
import Derived.IntWalk
import Derived.Laws.Strings
open _root_.Go.Proofs.Tryz
set_option maxRecDepth 100000
set_option maxHeartbeats 8000000
set_option linter.all false
set_option linter.unusedVariables false
set_option linter.unusedSimpArgs false
namespace Go.Proofs.YtmckdnddocfodaaGreatDoor
theorem AS{p:Prop}(h:p:=by exact ⟨⟨k+1,by omega,by go_num,fun j hj hl=>by rcases aY (cM hj) with h|h;exact hz0.out j h hl;subst h;exact hpk.out,hB⟩,by simp [intOf];omega⟩):p:=h
theorem BI{p:Prop}(h:p:=by exact ⟨⟨q+1,m+1,F2,by omega,by omega,by rw [Df hlt (by simp [hpq.out]),hys.out];have:=hlen.out;omega,by rw [Df hlt (by simp [hpq.out]),hys.out],by go_num,by rw [Df hlt (by simp [hpq.out]),hys.out];exact hg2.out.below hbb,fun b hb=>hF1 b (hF2 b hb),hK.trans (Gc.ofBelow hbb)⟩,by simp [intOf];omega⟩):p:=h
theorem CO{p:Prop}(h:p:=by refine ⟨_,F2,rfl,by rw [hys.out];exact hO.out,hn2,fun b hb=>hF1 b (hF2 b hb),hK.trans ?_⟩;rw [<-L7 wr];exact (K8 _ _ _).mono (fun b hb _=>by simp at hb;subst hb;exact hgF)):p:=h
theorem CS{p:Prop}(h:p:=by simp only [execOp,dj,cj,hA.ev hx,hA.ev hy,Sem.run_bind,h3,Result.andThen_ok,Sem.run_pure]):p:=h
theorem CT{p:Prop}(h:p:=by exact ⟨Nk (Mp (fun j hj=>hz.out j (by omega) hj)).symm,hB⟩):p:=h
theorem DG{p:Prop}(h:p:=by refine I4.start (S:=Nh H0) (X:=fun i=>X.contains i) hm ?_;have:=h.h a w.drew (s.below (Iv (Below.refl _ _) 1)) g;simpa [Gl.sem] using this):p:=h
theorem DL{p:Prop}(h:p:=by simp only [Instr.loadAt,Instr.sureAddr,Sem.run_bind,Sem.run_pure,Result.andThen_ok,bO] at h1;simp [fE,f2,g.at_ _ _ hl,Fv,Ac8,h1,ih]):p:=h
theorem DM{p:Prop}(h:p:=by simp only [execOp,hA.ev hx,hA.ev hy,eqGuard_at_bool,e,Sem.run_bind,Sem.run_pure,Result.andThen_ok,Adc];cases a <;> cases b <;> rfl):p:=h
theorem DS{p:Prop}(h:p:=by exact .inl h):p:=h
theorem DV{p:Prop}(h:p:=by subst hji;exact hy.wpOp hi hS ⟨fun _=>hS,H⟩):p:=h
theorem DY{p:Prop}(h:p:=by exact ⟨Nk (N1 hlt hz0.out hpk.out).symm,hB⟩):p:=h
theorem EM{p:Prop}(h:p:=by omega):p:=h
theorem EN{p:Prop}(h:p:=by decide):p:=h
theorem EO{p:Prop}(h:p:=by simp):p:=h
theorem EP{p:Prop}(h:p:=by repeat (first|exact .here|apply De.there)):p:=h
theorem EQ{p:Prop}(h:p:=by exact Cb):p:=h
theorem ER{p:Prop}(h:p:=by kernel_rfl):p:=h
theorem ES{p:Prop}(h:p:=by simp [hb]):p:=h
theorem ET{p:Prop}(h:p:=by simp;omega):p:=h
theorem EU{p:Prop}(h:p:=by simpa using h):p:=h
theorem EV{p:Prop}(h:p:=by obtain ⟨v1,v2,F1,F2,rfl,h1,h2,rfl⟩:=h;exact ⟨v1,v2,F1,F2,rfl,h1.frame fun b hb=>hF b (by simp [hb]),h2.frame fun b hb=>hF b (by simp [hb]),rfl⟩):p:=h
theorem EX{p:Prop}(h:p:=by obtain ⟨v1,v2,v3,v4,v5,v6,v7,F1,F2,F3,F4,F5,F6,F7,rfl,h1,h2,h3,h4,h5,h6,h7,rfl⟩:=h;exact ⟨v1,v2,v3,v4,v5,v6,v7,F1,F2,F3,F4,F5,F6,F7,rfl,h1.frame fun b hb=>hF b (by simp [hb]),h2.frame fun b hb=>hF b (by simp [hb]),h3.frame fun b hb=>hF b (by simp [hb]),h4.frame fun b hb=>hF b (by simp [hb]),h5.frame fun b hb=>hF b (by simp [hb]),h6.frame fun b hb=>hF b (by simp [hb]),h7.frame fun b hb=>hF b (by simp [hb]),rfl⟩):p:=h
theorem EZ{p:Prop}(h:p:=by obtain ⟨v1,rfl,h1⟩:=h;exact ⟨v1,rfl,h1.frame hF⟩):p:=h
theorem FB{p:Prop}(h:p:=by simp [hq]):p:=h
theorem FC{p:Prop}(h:p:=by rfl):p:=h
theorem FF{p:Prop}(h:p:=by rw [he2];exact hS.u):p:=h
theorem FG{p:Prop}(h:p:=by unfold maxLen;omega):p:=h
theorem FH{p:Prop}(h:p:=by rw [e];simp):p:=h
theorem FL{p:Prop}(h:p:=by simpa using hr):p:=h
theorem FM{p:Prop}(h:p:=by intro x hx;simp [Pc.F] at hx;subst hx;exact hb):p:=h
theorem FP{p:Prop}(h:p:=by simp [intOf];omega):p:=h
theorem FQ{p:Prop}(h:p:=by simpa using hl):p:=h
theorem FX{p:Prop}(h:p:=by obtain ⟨v1,rfl,h1⟩:=h;exact h1.lt (by decide)):p:=h
theorem FY{p:Prop}(h:p:=by obtain ⟨v1,rfl,h1⟩:=h;rfl):p:=h
theorem GA{p:Prop}(h:p:=by unfold maxLen at hl;simp;omega):p:=h
theorem GD{p:Prop}(h:p:=by simpa using h2):p:=h
theorem GG{p:Prop}(h:p:=by simpa using hi):p:=h
theorem GJ{p:Prop}(h:p:=by assumption):p:=h
theorem GM{p:Prop}(h:p:=by simpa [List.filter,Pc.mu,fp,Pc.F] using hk):p:=h
theorem GT{p:Prop}(h:p:=by rw [Df hk0 (by simp [hpk]),hfl];simp;omega):p:=h
theorem GU{p:Prop}(h:p:=by simpa using h1):p:=h
theorem GV{p:Prop}(h:p:=by rw [aW];rfl):p:=h
theorem GX{p:Prop}(h:p:=by (repeat (first|exact .here|apply De.there));first|done|fail):p:=h
theorem GY{p:Prop}(h:p:=by rw [h] at hr;cases hr):p:=h
theorem GZ{p:Prop}(h:p:=by obtain ⟨v1,v2,F1,F2,rfl,h1,h2,rfl⟩:=h;rfl):p:=h
theorem HC{p:Prop}(h:p:=by rw [aw];omega):p:=h
theorem HD{p:Prop}(h:p:=by intro q hq b hb;simp at hq;subst hq;exact .inl (hF b hb)):p:=h
theorem HF{p:Prop}(h:p:=by simp [hp]):p:=h
theorem HI{p:Prop}(h:p:=by simpa using s):p:=h
theorem HL{p:Prop}(h:p:=by simpa using h3):p:=h
theorem HO{p:Prop}(h:p:=by simpa using hj):p:=h
theorem HP{p:Prop}(h:p:=by simp [hz]):p:=h
theorem HX{p:Prop}(h:p:=by go_num):p:=h
theorem HY{p:Prop}(h:p:=by simpa using hA.ow):p:=h
theorem IE{p:Prop}(h:p:=by simp [hpq.out]):p:=h
theorem IH{p:Prop}(h:p:=by simp [hx]):p:=h
theorem II{p:Prop}(h:p:=by intro q hq;simp at hq;subst hq;exact hv):p:=h
theorem IK{p:Prop}(h:p:=by simpa using hA):p:=h
theorem IL{p:Prop}(h:p:=by simp [Pc.F]):p:=h
theorem IP{p:Prop}(h:p:=by obtain ⟨v1,v2,v3,v4,v5,v6,v7,F1,F2,F3,F4,F5,F6,F7,rfl,h1,h2,h3,h4,h5,h6,h7,rfl⟩:=h;rfl):p:=h
theorem IW{p:Prop}(h:p:=by simp [Program.elem,hS.u]):p:=h
theorem IZ{p:Prop}(h:p:=by simpa using e):p:=h
theorem JC{p:Prop}(h:p:=by rw [br (by omega),show c1.length+j - c1.length=j by omega];exact hu):p:=h
theorem JF{p:Prop}(h:p:=by (repeat (refine Gc.setCell ?_ hgF _));exact hK.trans (Gc.ofBelow hbb)):p:=h
theorem JJ{p:Prop}(h:p:=by simp [hpk]):p:=h
theorem JK{p:Prop}(h:p:=by rw [Gj hlt (by simp [hpq.out]),hys.out];have:=hlen.out;simp;omega):p:=h
theorem JN{p:Prop}(h:p:=by obtain ⟨v1,rfl,h1⟩:=h;exact h1.lt):p:=h
end Go.Proofs.YtmckdnddocfodaaGreatDoor
namespace Go.Proofs.YtmckdnddocfodaaGreatDoor
open Go.RowKit
abbrev aa(n:Int):Value:=.int .i64 n
abbrev ab(a:Option Addr)(n c:Nat):Value:=.slice a n c
abbrev af(s:ByteArray):Value:=.string s
abbrev ah:=List ByteArray
abbrev ai:=Option Addr
abbrev aj:=List Value
abbrev ak:=List Nat
abbrev al:=List Int
abbrev am:=ByteArray
def aq:=@if_neg
def ar:=@if_pos
def au:=@decide_eq_true
def av:=@Bool.and_eq_true
def aw:=@List.length_append
def ay:=@decide_eq_false
def aA:=@Nat.le_refl
def aB:=@List.getElem?_eq_getElem
def aC:=@decide_eq_true_eq
def aD:=@Nat.zero_le
def aE:=@List.getElem_mem
def aF:=@List.mem_cons
def aG:=@List.mem_append
def aH:=@List.mem_singleton
def aJ:=@List.append_assoc
def aK:=@List.length_cons
def aL:=@List.length_take
def aM:=@List.not_mem_nil
def aN:=@List.mem_cons_of_mem
def aO:=@List.mem_filter
def aP:=@List.append_nil
def aQ:=@List.all_eq_true
def aR:=@List.getElem_of_mem
def aT:=@List.getD_eq_getElem?_getD
def aU:=@List.length_drop
def aV:=@List.length_nil
def aW:=@List.getElem?_toArray
def aX:=@List.pairwise_iff_getElem
def aY:=@Nat.lt_or_eq_of_le
def aZ:=@List.take_succ_eq_append_getElem
def ba:=@Int.toNat_natCast
def bb:=@List.nil_append
def bc:=@List.take_of_length_le
def be:=@List.length_replicate
def bf:=@List.getElem?_eq_none
def bg:=@List.mem_of_mem_take
def bh:=@List.getElem?_eq_some_iff
def bi:=@Nat.le_trans
def bj:=@List.mem_of_mem_drop
def bm:=@List.take_append_drop
def bn:=@or_false
def bo:=@List.getElem?_append_left
def bp:=@List.filter_append
def bq:=@List.mem_or_eq_of_mem_set
def br:=@List.getElem?_append_right
def bt:=@Nat.lt_succ_iff
def bu:=@List.set_getElem_self
def bv:=@Bool.not_eq_true'
def bw:=@List.length_set
def bx:=@List.length_eq_zero_iff
def bA:=@List.length_filter_le
def bB:=@List.mem_filterMap
def bC:=@List.mem_append_left
def bD:=@decide_eq_false_iff_not
def bE:=@List.getElem?_cons_succ
def bF:=@List.nodup_append
def bG:=@List.take_length
def bH:=@List.getElem?_cons_zero
def bJ:=@Bool.or_eq_true
def bK:=@List.eq_nil_of_length_eq_zero
def bL:=@List.map_cons
def bM:=@List.mem_of_getElem?
def bN:=@List.drop_eq_getElem_cons
def bO:=@Nat.add_zero
def bP:=@of_decide_eq_true
def bQ:=@Nat.eq_zero_or_pos
def bR:=@List.take_left'
def bS:=@List.any_eq_true
def bT:=@List.filter_cons
def bU:=@List.mem_map
def bV:=@Bool.and_false
def bW:=@Bool.true_and
def bX:=@List.mem_range
def bY:=@List.length_singleton
def bZ:=@List.map_append
def cg:=@List.length_map
def ci:=@List.pairwise_cons
def cj:=@Option.map_some
def co:=@Option.map_eq_some_iff
def cu:=@List.mem_take_iff_getElem
def cw:=@Nat.lt_or_ge
def cy:=@List.nodup_cons
def cA:=@Nat.add_mul
def cB:=@List.length_modify
def cC:=@Nat.mul_le_mul_right
def cD:=@List.drop_drop
def cF:=@List.take_add_one
def cG:=@List.getLastD_eq_getLast?
def cH:=@ByteArray.size_append
def cI:=@List.mem_append_right
def cJ:=@List.getLast?_eq_some_getLast
def cK:=@List.length_filterMap_le
def cL:=@List.flatten_cons
def cM:=@Nat.le_of_lt_succ
def cN:=@List.any_eq_false
def cO:=@List.map_toArray
def cP:=@true_and
def cQ:=@Int.le_refl
def cR:=@Nat.mul_one
def cS:=@Bool.or_eq_false_iff
def cT:=@Nat.min_eq_left
def cU:=@List.all_eq_false
def cV:=@List.sum_cons
def cW:=@List.replicate_succ
def cX:=@List.getElem_set_ne
def cY:=@List.length_pos_iff
def cZ:=@List.filter_sublist
def de:=@and_true
def dh:=@List.length_pos_of_mem
def di:=@List.getElem?_drop
def dj:=@Option.map_none
def dm:=@Array.getElem?_eq_some_iff
def dp:=@List.ext_getElem?
def du:=@Bool.false_and
def dv:=@List.getElem_set
def dw:=@List.filter_eq_self
def dy:=@List.not_any_eq_all_not
def dz:=@Bool.false_eq_true
def dA:=@List.mem_replicate
def dB:=@List.range_succ
def dC:=@List.take_sublist
def dD:=@List.getElem_drop
def dF:=@Nat.zero_add
def dG:=@List.replicate_succ'
def dH:=@decide_eq_decide
def dI:=@List.getLast_mem
def dJ:=@List.pairwise_append
def dK:=@List.all_cons
def dL:=@List.getElem_modify
def dQ:=@List.mem_drop_iff_getElem
def dR:=@List.getElem_append_left
def dS:=@Nat.succ_mul
def dU:=@List.map_nil
def dV:=@Array.setIfInBounds_comm
def dW:=@List.drop_zero
def dX:=@List.not_all_eq_any_not
def dY:=@List.getElem?_set
def dZ:=@List.filter_congr
def d8:=@Nat.lt_trichotomy
def d9:=@Decidable.not_not
def ed:=@Array.getElem?_eq_none
def ef:=@List.filter_eq_nil_iff
def eh:=@List.getElem?_set_self
def eu:=@Bool.false_or
def ew:=@Int.tmod_eq_emod
def eC:=@List.findIdx_lt_length_of_exists
def eD:=@Option.bind_some
def eG:=@ByteArray.data_append
def eH:=@List.getElem_set_self
def eJ:=@List.singleton_append
def eK:=@List.all_append
def eL:=@Nat.pow_le_pow_right
def eM:=@List.getElem?_modify
def eN:=@List.eq_nil_iff_forall_not_mem
def eO:=@Bool.eq_iff_iff
def eP:=@List.drop_left'
def eQ:=@List.replicate_zero
def eS:=@Nat.lt_of_lt_of_le
def eT:=@Nat.add_sub_cancel
def eU:=@Array.getD_eq_getD_getElem?
def eV:=@Bool.or_false
def eX:=@Nat.add_assoc
def eY:=@List.takeWhile_cons_of_pos
def eZ:=@Int.tmod_eq_emod_of_nonneg
def fe:=@Array.getElem?_append_left
def ff:=@Int.tdiv_eq_ediv_of_nonneg
def fg:=@Bool.and_true
def fh:=@List.drop_sublist
def fl:=@List.getElem_take
def fm:=@List.mem_of_find?_eq_some
def fq:=@List.exists_mem_of_ne_nil
def fv:=@Nat.sub_self
def fw:=@List.drop_length
def fy:=@Option.bind_eq_some_iff
def fz:=@List.append_inj
def fA:=@List.getElem_replicate
def fB:=@List.getElem_modify_eq
def fC:=@dif_pos
def fD:=@List.perm_append_comm
def fE:=@List.mapM_cons
def fF:=@List.set_append_right
def fG:=@Bool.and_assoc
def fH:=@List.nodup_nil
def fK:=@Array.ext'
def fL:=@List.findIdx_getElem
def fM:=@List.mem_iff_getElem
def fN:=@List.drop_nil
def fO:=@List.drop_set_of_lt
def fP:=@List.take_succ_cons
def fQ:=@List.flatten_append
def fS:=@List.dropWhile_cons
def fT:=@List.take_set_of_le
def fU:=@Nat.pow_succ
def fV:=@Int.lt_trans
def fW:=@Bool.or_true
def fZ:=@Nat.one_mul
abbrev RB (b:Value) (w:World):Ending->World->Prop:=fun e w2=>e=.returned b/\Below w.heap.size w w2
end Go.Proofs.YtmckdnddocfodaaGreatDoor
namespace Go.Proofs.YtmckdnddocfodaaGreatDoor
open Go.RowKit
theorem kc {w w':World} {a:Addr} {v:Value} (hb:Below w.heap.size w w') (h:w.cell? a=some v):w'.cell? a=some v :=
 (hb.cell (World.block_lt_of_cell? w a h)).trans h
theorem kf {w w':World} {a:Addr} {v:Value} (hb:Below w.heap.size w w') (h:w.cell? a=some v):w'.frozen? a=w.frozen? a :=
 hb.frozen (World.block_lt_of_cell? w a h)
theorem tr {B:Nat} {w w1 w2:World} (h:Below B w w1) (h':Below w1.heap.size w1 w2) (hB:B<=w.heap.size):Below B w w2:=h.trans (h'.mono (bi hB h.size))
structure B8 (α:Type) where
 sz:Nat
 L5:World->aj->α->ak->Prop
 len:∀{w cs x F},L5 w cs x F->cs.length=sz
 lt:∀{w cs x F},L5 w cs x F->∀b∈F,b < w.heap.size
 frame:∀{w w':World} {cs x F},L5 w cs x F->(∀b∈F,w'.heap[b]?=w.heap[b]?)->L5 w' cs x F
def Nn {α:Type} (E:B8 α) (w:World) (b:Nat):Nat->List α->ak->Prop
 | _,[],F=>F=[]
 | off,x::r,F=>∃cs F1 F2,F=F1++F2/\E.L5 w cs x F1/\(∀j,j < E.sz->w.cell? ⟨b,off+j,none⟩=cs[j]?)/\Nn E w b (off+E.sz) r F2
def Sl {α:Type} (E:B8 α) (w:World) (v:Value) (xs:List α) (F:ak):Prop :=
 ∃a cap,v=ab a xs.length cap/\(xs.length<=cap/\cap<=maxLen) /\
  ((xs=[]/\F=[]/\(a=none->cap=0))\/∃b off F',a=some ⟨b,off,none⟩/\xs≠[]/\F=b::F'/\Nn E w b off xs F')
theorem Nn.lt {α:Type} {E:B8 α} {w:World} {b:Nat}:∀{xs:List α} {off:Nat} {F:ak},Nn E w b off xs F->∀c∈F,c < w.heap.size
 | [],_,_,h=>by simp [Nn] at h;simp [h]
 | _::r,_,_,h=>by
  obtain ⟨cs,F1,F2,rfl,h1,_,h2⟩:=h;intro c hc;rcases aG.1 hc with hc|hc
  ·exact E.lt h1 c hc
  ·exact Nn.lt h2 c hc
theorem Nn.frame {α:Type} {E:B8 α} {w w':World} {b:Nat} (hb:w'.heap[b]?=w.heap[b]?):∀{xs:List α} {off:Nat} {F:ak},Nn E w b off xs F ->
  (∀c∈F,w'.heap[c]?=w.heap[c]?)->Nn E w' b off xs F
 | [],_,_,h,_=>h
 | _::r,_,_,h,hF=>by
  obtain ⟨cs,F1,F2,rfl,h1,hc,h2⟩:=h;refine ⟨cs,F1,F2,rfl,E.frame h1 fun c hc=>hF c (by simp [hc]),fun j hj=>?_,Nn.frame hb h2 fun c hc=>hF c (by simp [hc])⟩;rw [World.cell?_of_block (w:=w) hb];exact hc j hj
theorem Nn.get {α:Type} {E:B8 α} {w:World} {b:Nat}:∀{xs:List α} {off:Nat} {F:ak},Nn E w b off xs F->∀(i:Nat) (hi:i < xs.length),
  ∃cs F1,E.L5 w cs xs[i] F1/\(∀j,j < E.sz->w.cell? ⟨b,off+i * E.sz+j,none⟩=cs[j]?)/\∀c∈F1,c∈F
 | [],_,_,_,i,hi=>by simp at hi
 | x::r,off,_,h,0,_=>by
  obtain ⟨cs,F1,F2,rfl,h1,hc,h2⟩:=h;exact ⟨cs,F1,h1,by simpa using hc,fun c hc=>by simp [hc]⟩
 | x::r,off,_,h,i+1,hi=>by
  obtain ⟨cs,F1,F2,rfl,h1,hc,h2⟩:=h;obtain ⟨cs',F3,h3,hc3,hm⟩:=Nn.get h2 i GG;refine ⟨cs',F3,HL,fun j hj=>?_,fun c hc=>by simp [hm c hc]⟩;rw [<-hc3 j hj,show off+(i+1) * E.sz+j=off+E.sz+i * E.sz+j by rw [cA];omega]
theorem Nn.block {α:Type} {E:B8 α} {w:World} {b off:Nat} {xs:List α} {F:ak} (h:Nn E w b off xs F) (hne:xs≠[]) (hz:0 < E.sz):b < w.heap.size:=by
 cases xs with
 | nil=>exact absurd rfl hne
 | cons x r =>
  obtain ⟨cs,F1,F2,rfl,h1,hc,h2⟩:=h;have h0:=hc 0 hz;have hl:=E.len h1;rw [aB EM] at h0;exact World.block_lt_of_cell? w _ h0
theorem Sl.lt {α:Type} {E:B8 α} (hz:0 < E.sz) {w v xs F} (h:Sl E w v xs F):∀c∈F,c < w.heap.size:=by
 obtain ⟨a,cap,_,_,⟨_,rfl,_⟩|⟨b,off,F',_,hne,rfl,hc⟩⟩:=h
 ·simp
 ·intro c hm;rcases aF.1 hm with rfl|hm
  ·exact hc.block hne hz
  ·exact hc.lt c hm
theorem Sl.frame {α:Type} {E:B8 α} {w w':World} {v xs F} (h:Sl E w v xs F) (hF:∀b∈F,w'.heap[b]?=w.heap[b]?):Sl E w' v xs F:=by
 obtain ⟨a,cap,hv,hl,⟨h1,h2⟩|⟨b,off,F',h1,hne,rfl,hc⟩⟩:=h
 ·exact ⟨a,cap,hv,hl,.inl ⟨h1,h2⟩⟩
 ·exact ⟨a,cap,hv,hl,.inr ⟨b,off,F',h1,hne,rfl,hc.frame (hF b EO) fun c hc=>hF c (by simp [hc])⟩⟩
theorem Sl.below {α:Type} {E:B8 α} (hz:0 < E.sz) {w w':World} {v xs F} (h:Sl E w v xs F) (hb:Below w.heap.size w w'):Sl E w' v xs F :=
 h.frame fun c hc=>hb.block c (h.lt hz c hc)
def Bi:B8 Int where
 sz:=1
 L5 _ cs z F:=cs=[aa z]/\F=[]
 len h:=by simp [h.1]
 lt h:=by simp [h.2]
 frame h _:=h
def Bc:B8 am where
 sz:=1
 L5 _ cs s F:=cs=[af s]/\s.size<=maxLen/\F=[]
 len h:=by simp [h.1]
 lt h:=by simp [h.2.2]
 frame h _:=h
def Nr {α:Type} (E:B8 α) (hz:0 < E.sz):B8 (List α) where
 sz:=1
 L5 w cs xs F:=∃v,cs=[v]/\Sl E w v xs F
 len h:=by obtain ⟨v,rfl,_⟩:=h;rfl
 lt h:=by obtain ⟨v,rfl,h⟩:=h;exact h.lt hz
 frame h hF:=by obtain ⟨v,rfl,h⟩:=h;exact ⟨v,rfl,h.frame hF⟩
def Axq:B8 Unit where
 sz:=0
 L5 _ cs _ F:=cs=[]/\F=[]
 len h:=by simp [h.1]
 lt h:=by simp [h.2]
 frame h _:=h
def Aq0 {α β:Type} (A:B8 α) (B:B8 β):B8 (α × β) where
 sz:=A.sz+B.sz
 L5 w cs x F:=∃c1 c2 F1 F2,cs=c1++c2/\F=F1++F2/\A.L5 w c1 x.1 F1/\B.L5 w c2 x.2 F2
 len h:=by obtain ⟨c1,c2,F1,F2,rfl,rfl,h1,h2⟩:=h;simp [A.len h1,B.len h2]
 lt h:=by
  obtain ⟨c1,c2,F1,F2,rfl,rfl,h1,h2⟩:=h;intro b hb;rcases aG.1 hb with hb|hb
  ·exact A.lt h1 b hb
  ·exact B.lt h2 b hb
 frame h hF:=by
  obtain ⟨c1,c2,F1,F2,rfl,rfl,h1,h2⟩:=h;exact ⟨c1,c2,F1,F2,rfl,rfl,A.frame h1 fun b hb=>hF b ES,B.frame h2 fun b hb=>hF b ES⟩
def B8.comap {α β:Type} (B:B8 β) (f:α->β):B8 α where
 sz:=B.sz
 L5 w cs x F:=B.L5 w cs (f x) F
 len h:=B.len h
 lt h:=B.lt h
 frame h hF:=B.frame h hF
theorem B8.below {α:Type} (E:B8 α) {w w':World} {cs x F} (h:E.L5 w cs x F) (hb:Below w.heap.size w w'):E.L5 w' cs x F :=
 E.frame h fun c hc=>hb.block c (E.lt h c hc)
structure Ayj where
 Ag7:am
 Atk:am
def Bas:B8 Ayj:=(Aq0 Bc (Aq0 Bc Axq)).comap fun x=>(x.Ag7,x.Atk,())
theorem Bas.open {w cs x F} (h:Bas.L5 w cs x F):cs=[af x.Ag7,af x.Atk]/\x.Ag7.size<=maxLen/\x.Atk.size<=maxLen:=by
 obtain ⟨c1,c2,F1,F2,rfl,rfl,⟨rfl,h1,_⟩,c3,c4,F3,F4,rfl,rfl,⟨rfl,h2,_⟩,rfl,_⟩:=h;exact ⟨rfl,h1,h2⟩
end Go.Proofs.YtmckdnddocfodaaGreatDoor
namespace Go.Proofs.YtmckdnddocfodaaGreatDoor
open Go.ChangeShapes Go.WideShapes Go.ChangeAt Go.RowKit
theorem Xc {H:Type} {enc:TypeId × Value->H} {P:Program} (hl:laidOutB P=true) {W W':World} (hb:Below W.heap.size W W') :
  ∀(ts:List TypeId) (vs:aj) (ds:List (DataW H)) (ps:List MemPlace),(∀t∈ts,P.readableRec t=true/\t < P.types.size) ->
   DataW.TrodAll enc P W 0 (fun _=>true) true ts vs ds ps->(∀x∈ps,x.block < W.heap.size)->DataW.TrodAll enc P W' 0 (fun b=>decide (b < W.heap.size)) true ts vs ds ps
 | [],vs,ds,ps,_,h,_=>by obtain ⟨rfl,rfl,rfl⟩:=trodAll_nil h;exact rfl
 | t::ts,vs,ds,ps,ht,h,hlt=>by
  obtain ⟨v,vs',d,ds',p,q,rfl,rfl,rfl,h1,h2⟩:=trodAll_cons h;have ⟨a,b⟩:=ht t EO;exact ⟨p,q,Below.trod hl a b h1 hb fun x hx=>hlt x IH,Xc hl hb ts vs' ds' q (fun t h=>ht t (by simp [h])) h2 fun x hx=>hlt x IH,rfl⟩
theorem Ask {H:Type} {enc:TypeId × Value->H} {P:Program} {f:Func} {s:ChangeSpec} {tb:TypeId} (hl:laidOutB P=true) (hr:∀t∈f.params.toList,P.readableRec t=true/\t < P.types.size)
  (hb:P.underlying tb=some .bool) (hres:f.resultTypes = #[tb]) (hv:s.vars=[]) {W W':World} {args:Array Value} {ds gs:List (DataW H)} {before:List MemPlace}
  (hs:s.fn H ds={ results:=[.lit (.bool true)],args:=ds }) (hW:DataW.Whole enc P f.params.toList s.vars false W args.toList ds gs before) (hB:Below W.heap.size W W') :
  s.post enc P f false true false false W args (.bool true) W':=by
 have hlt:=hW.lt;have hW0:=hW;obtain ⟨p,q,hA,hV,rfl,_,_⟩:=hW0;rw [hv] at hV;obtain ⟨rfl,rfl⟩:=trodVars_none hV;refine ⟨ds,[],p++[],[],p,[],hW,?_,?_,?_,hB.frame _,fun h=>by cases h⟩
 ·rw [aP,hs,hres];exact trodAll_mk1 (shut_bool hb true)
 ·rw [aP,hs];exact Xc hl hB _ _ _ _ hr hA fun x hx=>hlt x (by simpa using hx)
 ·rw [hv,aP,hs];exact rfl
def Aip (P:Program) {α:Type} (E:B8 α) (t:TypeId):Prop :=
 ∀{H:Type} {enc:TypeId × Value->H} {w:World} {fuel:Nat} {cs:aj} {x:DataW H × List MemPlace},DataW.trod enc P w 0 (fun _=>true) true fuel t cs=some x->∃y F,E.L5 w cs y F
section
variable {P:Program}
theorem Abu {α:Type} {E:B8 α} {e:TypeId} (hsz:P.cellsOf e=E.sz) (he:Aip P E e) {H:Type} {enc:TypeId × Value->H} {w:World} {n b off:Nat} :
  ∀(els:List (DataW H × List MemPlace)) (k:Nat),(∀i,i < els.length->(w.cells? 0 ((⟨b,off,none⟩:Addr).add ((k+i) * P.cellsOf e)) (P.cellsOf e)).bind (DataW.trod enc P w 0 (fun _=>true) true n e)=els[i]?) ->
   ∃ys F,ys.length=els.length/\Nn E w b (off+k * E.sz) ys F
 | [],_,_=>⟨[],[],rfl,rfl⟩
 | x::r,k,h=>by
  have h0:=h 0 EO;simp only [bO,bH,fy] at h0;obtain ⟨cs,hc,hx⟩:=h0;obtain ⟨y,F1,hy⟩:=he hx;obtain ⟨ys,F2,hl,hys⟩:=Abu hsz he r (k+1) fun i hi=>by
   have:=h (i+1) GG;rw [show k+1+i=k+(i+1) by omega];simpa using this
  refine ⟨y::ys,F1++F2,by simp [hl],cs,F1,F2,rfl,hy,fun j hj=>?_,by rwa [show off+k * E.sz+E.sz=off+(k+1) * E.sz by rw [cA];omega]⟩;obtain ⟨_,hlen,hcell⟩:=World.cells?_some hc;rw [<-hcell j (by rw [hsz];exact hj)]
  congr 1
  simp only [Addr.add,hsz]
  split <;> split <;> simp_all <;> omega
theorem Aj5 {α:Type} {E:B8 α} {t e:TypeId} (ht:P.underlying t=some (.slice e)) (hsz:P.cellsOf e=E.sz) (hz:0 < E.sz) (he:Aip P E e):Aip P (Nr E hz) t:=fun h=>by
 rcases DataW.trod_slice ht h with ⟨rfl,_⟩|⟨a,len,cap,elems,rest,n,rfl,rfl,_,_,hlc,hcm,hlen,hel,_,_⟩
 ·exact ⟨[],[],_,rfl,none,0,rfl,⟨EO,EO⟩,.inl ⟨rfl,rfl,fun _=>rfl⟩⟩
 ·by_cases h0:len=0
  ·subst h0;exact ⟨[],[],_,rfl,some a,cap,rfl,⟨EO,EM⟩,.inl ⟨rfl,rfl,fun e=>by cases e⟩⟩
  ·have hs:a=⟨a.block,a.off,none⟩:=by
    have:=hel 0 EM;rw [aB EM] at this;simp only [fy] at this;obtain ⟨cs,hc,_⟩:=this;obtain ⟨_,hl2,hcell⟩:=World.cells?_some hc;have h1:=hcell 0 EM;rw [aB EM] at h1;simp [Addr.add,World.cell?] at h1
    split at h1 <;> simp_all
    cases a;simp_all
   obtain ⟨ys,F,hyl,hys⟩:=Abu hsz he elems 0 (n:=n) (b:=a.block) (off:=a.off) (enc:=_) (w:=_) (by
    rw [<-hs];intro i hi;rw [dF];exact hel i EM)
   refine ⟨ys,a.block::F,_,rfl,some a,cap,by rw [hyl,hlen],⟨EM,EM⟩,.inr ⟨a.block,a.off,F,by rw [<-hs],?_,rfl,by simpa using hys⟩⟩;intro e;rw [e] at hyl;simp at hyl;omega
end
inductive Acy (P:Program):List Field->Nat->(α:Type)->B8 α->Prop
 | nil (off:Nat):Acy P [] off Unit Axq
 | cons {f:Field} {r:List Field} {off:Nat} {α β:Type} {A:B8 α} {B:B8 β} (ho:f.offset=off) (hc:P.cellsOf f.type=A.sz) (hA:Aip P A f.type) (h:Acy P r (off+A.sz) β B):Acy P (f::r) off (α × β) (Aq0 A B)
end Go.Proofs.YtmckdnddocfodaaGreatDoor
namespace Go.Proofs.YtmckdnddocfodaaGreatDoor
open Go.RowKit
structure Gc (F:ak) (w w':World):Prop where
 os:w'.os=w.os
 tape:w'.tape=w.tape
 output:w'.output=w.output
 size:w.heap.size<=w'.heap.size
 block:∀k,k < w.heap.size->k ∉ F->w'.heap[k]?=w.heap[k]?
theorem Gc.refl (F:ak) (w:World):Gc F w w:=⟨rfl,rfl,rfl,aA _,fun _ _ _=>rfl⟩
theorem Gc.trans {F:ak} {a b c:World} (h:Gc F a b) (k:Gc F b c):Gc F a c :=
 ⟨k.os.trans h.os,k.tape.trans h.tape,k.output.trans h.output,bi h.size k.size,fun i hi hf=>(k.block i (eS hi h.size) hf).trans (h.block i hi hf)⟩
theorem Gc.mono {F G:ak} {a b:World} (h:Gc F a b) (hs:∀x∈F,x < a.heap.size->x∈G):Gc G a b :=
 ⟨h.os,h.tape,h.output,h.size,fun k hk hg=>h.block k hk fun hf=>hg (hs k hf hk)⟩
theorem Gc.ofBelow {F:ak} {w w':World} (h:Below w.heap.size w w'):Gc F w w':=⟨h.os,h.tape,h.output,h.size,fun k hk _=>h.block k hk⟩
theorem Gc.below {F:ak} {w w':World} {B:Nat} (h:Gc F w w') (hB:B<=w.heap.size) (hF:∀b∈F,B<=b):Below B w w' :=
 ⟨h.os,h.tape,h.output,h.size,fun k hk=>h.block k EM fun hf=>by have:=hF k hf;omega⟩
theorem Gc.setCell {F:ak} {w w':World} (h:Gc F w w') {p:Addr} (hp:p.block∈F) (u:Value):Gc F w (w'.setCell p u) :=
 h.trans ⟨rfl,rfl,rfl,by simp [World.setCell],fun k _ hf=>Below.heap_setCell _ _ _ _ (fun e=>hf (e▸hp))⟩
theorem Gc.alloc {F:ak} {w w':World} (h:Gc F w w') (o:Obj):Gc F w (w'.alloc o) :=
 h.trans ⟨rfl,rfl,rfl,EO,fun k hk _=>Below.heap_alloc _ _ _ hk⟩
theorem Gc.drewN {F:ak} {w w':World} (h:Gc F w w') (n:Nat):Gc F w (w'.drewN n):=⟨h.os,h.tape,h.output,h.size,h.block⟩
theorem Gc.cell {F:ak} {w w':World} (h:Gc F w w') {a:Addr} {v:Value} (ha:a.block ∉ F) (hc:w.cell? a=some v):w'.cell? a=some v :=
 (World.cell?_of_block (w:=w) (h.block a.block (World.block_lt_of_cell? w a hc) ha)).trans hc
theorem Iv {B:Nat} {a w:World} (h:Below B a w) (n:Nat):Below B a (w.drewN n):=⟨h.os,h.tape,h.output,h.size,h.block⟩
def Jd (w:World) (g:Nat) (t:TypeId) (cs:aj):Prop:=w.heap[g]?=some (.cells cs.toArray t (0,0))
theorem Jd.lt {w g t cs} (h:Jd w g t cs):g < w.heap.size:=by
 rcases cw g w.heap.size with h1|h1
 ·exact h1
 ·rw [Jd,ed h1] at h;simp at h
theorem Jd.cell {w g t cs} (h:Jd w g t cs) (j:Nat):w.cell? ⟨g,j,none⟩=cs[j]?:=by
 simp [World.cell?,show w.heap[g]?=_ from h]
theorem Jd.frozen {w g t cs} (h:Jd w g t cs) (j:Nat):w.frozen? ⟨g,j,none⟩=false:=by
 simp [World.frozen?,show w.heap[g]?=_ from h]
theorem Jd.Nu {w w' g t cs} (h:Jd w g t cs) (e:w'.heap[g]?=w.heap[g]?):Jd w' g t cs:=e.trans h
theorem Jd.below {w w' g t cs} (h:Jd w g t cs) (hb:Below w.heap.size w w'):Jd w' g t cs:=h.Nu (hb.block g h.lt)
theorem Jd.set {w g t cs} (h:Jd w g t cs) (j:Nat) (u:Value):Jd (w.setCell ⟨g,j,none⟩ u) g t (cs.set j u):=by
 have h':w.heap[g]?=_:=h;simp [Jd,World.setCell,Array.getElem?_modify,h']
theorem Jd.setOther {w g t cs} (h:Jd w g t cs) {p:Addr} (hp:p.block≠g) (u:Value):Jd (w.setCell p u) g t cs :=
 h.Nu (Below.heap_setCell _ _ _ _ (fun e=>hp e.symm))
theorem Jd.cells {w g t cs} (h:Jd w g t cs):∀j,w.cell? ⟨g,j,none⟩=cs[j]?:=h.cell
theorem Jd.frozens {w g t cs} (h:Jd w g t cs):∀j,w.frozen? ⟨g,j,none⟩=false:=h.frozen
theorem Jd.made (w:World) (t:TypeId) (cs:aj):Jd (w.alloc (.cells cs.toArray t)) w.heap.size t cs:=heap_alloc_new w _
theorem Jd.alloc {w g t cs} (h:Jd w g t cs) (o:Obj):Jd (w.alloc o) g t cs:=h.Nu (Below.heap_alloc _ _ _ h.lt)
theorem Lx (w:World) (o:Obj) (g:Nat) (t:TypeId) (cs:aj):Jd (w.alloc o) g t cs↔if g=w.heap.size then o=.cells cs.toArray t (0,0) else Jd w g t cs:=by
 unfold Jd;show (w.heap.push o)[g]?=_↔_;rw [Array.getElem?_push]
 split <;> simp
def C6 {α:Type} (E:B8 α) (w:World):aj->List α->ak->Prop
 | cs,[],G=>cs=[]/\G=[]
 | cs,x::r,G=>∃c1 c2 F1 F2,cs=c1++c2/\G=F1++F2/\E.L5 w c1 x F1/\C6 E w c2 r F2
section
variable {α:Type} {E:B8 α}
theorem C6.len {w:World}:∀{xs:List α} {cs:aj} {G:ak},C6 E w cs xs G->cs.length=xs.length * E.sz
 | [],_,_,h=>by simp [h.1]
 | x::r,_,_,h=>by
  obtain ⟨c1,c2,F1,F2,rfl,rfl,h1,h2⟩:=h;rw [aw,E.len h1,h2.len,aK,cA];omega
theorem C6.lt {w:World}:∀{xs:List α} {cs:aj} {G:ak},C6 E w cs xs G->∀b∈G,b < w.heap.size
 | [],_,_,h=>by simp [h.2]
 | x::r,_,_,h=>by
  obtain ⟨c1,c2,F1,F2,rfl,rfl,h1,h2⟩:=h;intro b hb;rcases aG.1 hb with hb|hb
  ·exact E.lt h1 b hb
  ·exact h2.lt b hb
theorem C6.frame {w w':World}:∀{xs:List α} {cs:aj} {G:ak},C6 E w cs xs G->(∀b∈G,w'.heap[b]?=w.heap[b]?)->C6 E w' cs xs G
 | [],_,_,h,_=>h
 | x::r,_,_,h,hG=>by
  obtain ⟨c1,c2,F1,F2,rfl,rfl,h1,h2⟩:=h;exact ⟨c1,c2,F1,F2,rfl,rfl,E.frame h1 fun b hb=>hG b ES,h2.frame fun b hb=>hG b ES⟩
theorem C6.append {w:World}:∀{xs ys:List α} {cs ds:aj} {G H:ak},C6 E w cs xs G->C6 E w ds ys H->C6 E w (cs++ds) (xs++ys) (G++H)
 | [],_,_,_,_,_,h,k=>by obtain ⟨rfl,rfl⟩:=h;simpa using k
 | x::r,_,_,_,_,_,h,k=>by
  obtain ⟨c1,c2,F1,F2,rfl,rfl,h1,h2⟩:=h;exact ⟨c1,_,F1,_,by rw [aJ],by rw [aJ],h1,h2.append k⟩
theorem C6.one {w:World} {x:α} {cs:aj} {G:ak} (h:E.L5 w cs x G):C6 E w cs [x] G:=⟨cs,[],G,[],EO,EO,h,rfl,rfl⟩
theorem C6.split {w:World}:∀{xs ys:List α} {cs:aj} {G:ak},C6 E w cs (xs++ys) G->∃c1 c2 G1 G2,cs=c1++c2/\G=G1++G2/\C6 E w c1 xs G1/\C6 E w c2 ys G2
 | [],_,cs,G,h=>⟨[],cs,[],G,rfl,rfl,⟨rfl,rfl⟩,h⟩
 | x::r,_,_,_,h=>by
  obtain ⟨c1,c2,F1,F2,rfl,rfl,h1,h2⟩:=h;obtain ⟨d1,d2,G1,G2,rfl,rfl,h3,h4⟩:=h2.split;exact ⟨c1++d1,d2,F1++G1,G2,EO,EO,⟨c1,d1,F1,G1,rfl,rfl,h1,h3⟩,h4⟩
theorem C6.focus {w:World} {xs:List α} {cs:aj} {G:ak} (h:C6 E w cs xs G) (i:Nat) (hi:i < xs.length) :
  ∃A c B G1 Fi G2,cs=A++c++B/\G=G1++Fi++G2/\A.length=i * E.sz/\c.length=E.sz/\C6 E w A (xs.take i) G1/\E.L5 w c xs[i] Fi/\C6 E w B (xs.drop (i+1)) G2:=by
 have e:xs=xs.take i++xs[i]::xs.drop (i+1):=EO
 rw [e] at h;obtain ⟨A,c2,G1,G2,rfl,rfl,h1,c,B,F1,F2,rfl,rfl,h2,h3⟩:=h.split;exact ⟨A,c,B,G1,F1,F2,EO,EO,by rw [h1.len,aL,cT EM],E.len h2,h1,h2,h3⟩
theorem C6.build {w:World} {xs:List α} {A c B:aj} {G1 Fi G2:ak} {i:Nat} (hi:i < xs.length) {x:α} (h1:C6 E w A (xs.take i) G1) (h2:E.L5 w c x Fi) (h3:C6 E w B (xs.drop (i+1)) G2) :
  C6 E w (A++c++B) (xs.set i x) (G1++Fi++G2):=by
 have e:xs.set i x=xs.take i++[x]++xs.drop (i+1):=by
  rw [List.set_eq_take_append_cons_drop];simp [hi]
 rw [e];exact (h1.append (C6.one h2)).append h3
def Ow (E:B8 α) (t:TypeId) (w:World) (v:Value) (xs:List α) (F:ak):Prop :=
 (v=ab none 0 0/\xs=[]/\F=[]) \/
 ∃g cap cs rest G,v=ab (some ⟨g,0,none⟩) xs.length cap/\Jd w g t (cs++rest)/\xs.length<=cap/\cap<=maxLen/\cs.length+rest.length=cap * E.sz/\C6 E w cs xs G/\F=g::G
theorem Ow.lt {t:TypeId} {w v} {xs:List α} {F} (h:Ow E t w v xs F):∀b∈F,b < w.heap.size:=by
 rcases h with ⟨_,_,rfl⟩|⟨g,cap,cs,rest,G,_,hr,_,_,_,hf,rfl⟩
 ·simp
 ·intro b hb;rcases aF.1 hb with rfl|hb
  ·exact hr.lt
  ·exact hf.lt b hb
theorem Ow.frame {t:TypeId} {w w':World} {v} {xs:List α} {F} (h:Ow E t w v xs F) (hF:∀b∈F,w'.heap[b]?=w.heap[b]?):Ow E t w' v xs F:=by
 rcases h with h|⟨g,cap,cs,rest,G,hv,hr,h1,h2,h3,hf,rfl⟩
 ·exact DS
 ·exact .inr ⟨g,cap,cs,rest,G,hv,hr.Nu (hF g EO),h1,h2,h3,hf.frame fun b hb=>hF b ES,rfl⟩
theorem Ow.below {t:TypeId} {w w':World} {v} {xs:List α} {F} (h:Ow E t w v xs F) (hb:Below w.heap.size w w'):Ow E t w' v xs F :=
 h.frame fun b h'=>hb.block b (h.lt b h')
theorem Ow.Nu {t:TypeId} {w w':World} {v} {xs:List α} {F K} (h:Ow E t w v xs F) (hk:Gc K w w') (hd:∀b∈F,b ∉ K):Ow E t w' v xs F :=
 h.frame fun b h'=>hk.block b (h.lt b h') (hd b h')
theorem Ow.setFar {t:TypeId} {w:World} {v} {xs:List α} {F} (h:Ow E t w v xs F) {p:Addr} (hp:p.block ∉ F) (u:Value):Ow E t (w.setCell p u) v xs F :=
 h.frame fun b hb=>Below.heap_setCell _ _ _ _ fun e=>hp (e▸hb)
theorem Ow.len {t:TypeId} {w v} {xs:List α} {F} (h:Ow E t w v xs F):xs.length<=maxLen:=by
 rcases h with ⟨_,rfl,_⟩|⟨g,cap,cs,rest,G,_,_,h1,h2,_⟩
 ·simp
 ·omega
theorem Ow.slice {t:TypeId} {w v} {xs:List α} {F} (h:Ow E t w v xs F):∃a cap,v=ab a xs.length cap:=by
 rcases h with ⟨rfl,rfl,_⟩|⟨g,cap,cs,rest,G,rfl,_⟩
 ·exact ⟨none,0,rfl⟩
 ·exact ⟨_,_,rfl⟩
theorem Ow.focus {t:TypeId} {w v} {xs:List α} {F} (h:Ow E t w v xs F) (i:Nat) (hi:i < xs.length) :
  ∃g cap A c B G1 Fi G2,v=ab (some ⟨g,0,none⟩) xs.length cap/\Jd w g t (A++c++B)/\A.length=i * E.sz/\c.length=E.sz/\E.L5 w c xs[i] Fi/\F=g::(G1++Fi++G2) /\
   (∀b∈G1++G2,b < w.heap.size) /\
   ∀w' c' x' Fi',Jd w' g t (A++c'++B)->E.L5 w' c' x' Fi'->(∀b∈G1++G2,w'.heap[b]?=w.heap[b]?)->Ow E t w' v (xs.set i x') (g::(G1++Fi'++G2)):=by
 rcases h with ⟨_,rfl,_⟩|⟨g,cap,cs,rest,G,rfl,hr,h1,h2,h3,hf,rfl⟩
 ·simp at hi
 ·obtain ⟨A,c,B,G1,Fi,G2,rfl,rfl,hA,hc,hfA,hx,hfB⟩:=hf.focus i hi
  refine ⟨g,cap,A,c,B++rest,G1,Fi,G2,rfl,FL,hA,hc,hx,rfl,?_,?_⟩
  ·intro b hb;rcases aG.1 hb with hb|hb
   ·exact hfA.lt b hb
   ·exact hfB.lt b hb
  ·intro w' c' x' Fi' hr' hx' hG;refine .inr ⟨g,cap,A++c'++B,rest,G1++Fi'++G2,EO,by simpa using hr',GU,h2,?_,?_,rfl⟩
   ·have:=E.len hx';simp only [aw] at h3 ⊢;omega
   ·exact C6.build hi (hfA.frame fun b hb=>hG b ES) hx' (hfB.frame fun b hb=>hG b ES)
structure Ny {α:Type} (O R:B8 α):Prop where
 sz:O.sz=R.sz
 L5:∀{w cs x F},O.L5 w cs x F->∃F',(∀b∈F',b∈F)/\R.L5 w cs x F'
theorem Ny.refl {α:Type} (E:B8 α):Ny E E:=⟨rfl,fun h=>⟨_,fun _ h=>h,h⟩⟩
theorem Ow.sl {O R:B8 α} (hW:Ny O R) {t:TypeId} {w v} {xs:List α} {F} (h:Ow O t w v xs F):∃F',(∀b∈F',b∈F)/\Sl R w v xs F':=by
 have key:∀(xs:List α) (cs:aj) (G:ak) (g off:Nat),C6 O w cs xs G->(∀j,j < cs.length->w.cell? ⟨g,off+j,none⟩=cs[j]?)->∃G',(∀b∈G',b∈G)/\Nn R w g off xs G':=by
  intro xs
  induction xs with
  | nil=>intro cs G g off h _;exact ⟨[],EO,rfl⟩
  | cons x r ih =>
   intro cs G g off h hc;obtain ⟨c1,c2,F1,F2,rfl,rfl,h1,h2⟩:=h;have hl:=O.len h1;have hs:=hW.sz;obtain ⟨F1',hs1,hr1⟩:=hW.L5 h1;obtain ⟨F2',hs2,hr2⟩:=ih c2 F2 g (off+R.sz) h2 fun j hj=>by
    have:=hc (c1.length+j) ET;rw [br EM,show c1.length+j - c1.length=j by omega] at this;rw [<-this,show off+R.sz+j=off+(c1.length+j) by omega]
   refine ⟨F1'++F2',fun b hb=>?_,c1,F1',F2',rfl,hr1,fun j hj=>?_,hr2⟩
   ·rcases aG.1 hb with hb|hb
    ·simp [hs1 b hb]
    ·simp [hs2 b hb]
   ·rw [hc j ET,bo EM]
 have hl:=h.len;rcases h with ⟨rfl,rfl,rfl⟩|⟨g,cap,cs,rest,G,rfl,hrow,h1,h2,h3,hf,rfl⟩
 ·exact ⟨[],EO,none,0,rfl,EO,.inl ⟨rfl,rfl,fun _=>rfl⟩⟩
 ·by_cases h0:xs=[]
  ·subst h0;exact ⟨[],EO,some ⟨g,0,none⟩,cap,rfl,⟨EO,h2⟩,.inl ⟨rfl,rfl,fun e=>by cases e⟩⟩
  ·obtain ⟨G',hG,hc⟩:=key xs cs G g 0 hf fun j hj=>by rw [dF,hrow.cell,bo hj]
   exact ⟨g::G',fun b hb=>by rcases aF.1 hb with rfl|hb;simp;simp [hG b hb],_,cap,rfl,⟨h1,h2⟩,.inr ⟨g,0,G',rfl,h0,rfl,hc⟩⟩
theorem Ow.read {t:TypeId} {w v} {xs:List α} {F} (h:Ow E t w v xs F):∃F',(∀b∈F',b∈F)/\Sl E w v xs F':=by
 exact h.sl (Ny.refl E)
end
theorem Ny.slice {α:Type} {O R:B8 α} (h:Ny O R) (hz:0 < R.sz) (t:TypeId) {w v} {xs:List α} {F} (ho:Ow O t w v xs F):∃F',(∀b∈F',b∈F)/\(Nr R hz).L5 w [v] xs F':=by
 obtain ⟨F',h1,h2⟩:=ho.sl h;exact ⟨F',h1,v,rfl,h2⟩
def Jo {α:Type} (E:B8 α) (t:TypeId):B8 (List α) where
 sz:=1
 L5 w cs xs F:=∃v,cs=[v]/\Ow E t w v xs F
 len h:=by obtain ⟨v,rfl,_⟩:=h;rfl
 lt h:=by obtain ⟨v,rfl,h⟩:=h;exact h.lt
 frame h hF:=by obtain ⟨v,rfl,h⟩:=h;exact ⟨v,rfl,h.frame hF⟩
theorem Aw0 (A c B:aj) (j:Nat) (hj:j < c.length) (u:Value):(A++c++B).set (A.length+j) u=A++c.set j u++B:=by
 rw [aJ,fF _ _ EM,show A.length+j - A.length=j by omega,List.set_append_left _ _ hj,aJ]
theorem Jd.setMid {w g t} {A c B:aj} (h:Jd w g t (A++c++B)) {p j:Nat} (hp:p=A.length+j) (hj:j < c.length) (u:Value):Jd (w.setCell ⟨g,p,none⟩ u) g t (A++c.set j u++B):=by
 subst hp;rw [<-Aw0 _ _ _ _ hj];exact h.set _ u
theorem Jd.cellMid {w g t} {A c B:aj} (h:Jd w g t (A++c++B)) {p j:Nat} (hp:p=A.length+j) (hj:j < c.length):w.cell? ⟨g,p,none⟩=c[j]?:=by
 subst hp;rw [h.cell,aJ,br EM,show A.length+j - A.length=j by omega,bo hj]
def Nc (w:World) (g:Nat):Nat->aj->World
 | _,[]=>w
 | p,u::r=>Nc (w.setCell ⟨g,p,none⟩ u) g (p+1) r
theorem Jd.put {g t}:∀(c' c:aj) {w:World} {A B:aj} {p:Nat},Jd w g t (A++c++B)->p=A.length->c'.length=c.length->Jd (Nc w g p c') g t (A++c'++B)
 | [],[],_,_,_,_,h,_,_=>h
 | u::r,d::c,w,A,B,p,h,hp,hl=>by
  have h1:=h.setMid (p:=p) (j:=0) EM EO u;simp only [List.set_cons_zero] at h1;have h2:=Jd.put r c (w:=w.setCell ⟨g,p,none⟩ u) (A:=A++[u]) (B:=B) (p:=p+1) GU ET FQ;simpa [Nc] using h2
 | [],_::_,_,_,_,_,_,_,hl=>by simp at hl
 | _::_,[],_,_,_,_,_,_,hl=>by simp at hl
theorem Nd {g:Nat}:∀(c:aj) (w:World) (p:Nat) (b:Nat),b≠g->(Nc w g p c).heap[b]?=w.heap[b]?
 | [],_,_,_,_=>rfl
 | _::r,_,_,b,hb=>(Nd r _ _ b hb).trans (Below.heap_setCell _ _ _ _ hb)
theorem K8 {g:Nat}:∀(c:aj) (w:World) (p:Nat),Gc [g] w (Nc w g p c)
 | [],w,_=>Gc.refl _ w
 | u::r,w,p=>((Gc.refl [g] w).setCell (p:=⟨g,p,none⟩) EO u).trans (K8 r _ _)
theorem Ow.put {α:Type} {E:B8 α} {t:TypeId} {w:World} {g n cap:Nat} {xs:List α} {F:ak} (h:Ow E t w (ab (some ⟨g,0,none⟩) n cap) xs F) (hn:F.Nodup) (i:Nat) (hi:i < xs.length) :
  g∈F/\(∀j,j < E.sz->(∃u,w.cell? ⟨g,i * E.sz+j,none⟩=some u)/\w.frozen? ⟨g,i * E.sz+j,none⟩=false) /\
  ∀c' x' F',E.L5 w c' x' F'->F'.Nodup->(∀b∈F',b ∉ F)->∃F2,Ow E t (Nc w g (i * E.sz) c') (ab (some ⟨g,0,none⟩) n cap) (xs.set i x') F2/\F2.Nodup/\∀b∈F2,b∈F\/b∈F':=by
 obtain ⟨g',cp,A,c,B,G1,Fi,G2,hv,hrow,hA,hcl,hx,rfl,hlt,back⟩:=h.focus i hi
 simp only [Value.slice.injEq,Option.some.injEq,Addr.mk.injEq] at hv;obtain ⟨⟨rfl,_⟩,rfl,rfl⟩:=hv;have hnd:g ∉ G1++G2:=fun hm=>by simp at hn hm;rcases hm with hm|hm <;> simp [hm] at hn
 refine ⟨EO,fun j hj=>⟨⟨c[j]'EM,by rw [hrow.cellMid (j:=j) EM EM,aB]⟩,hrow.frozen _⟩,fun c' x' F' hx' hn' hd=>⟨g::(G1++F'++G2),?_,?_,?_⟩⟩
 ·have hl:=E.len hx';have hg:g ∉ F':=fun e=>hd g e EO;exact back _ c' x' F' (hrow.put c' c EM EM) (E.frame hx' fun b hb=>Nd _ _ _ _ fun e=>hg (e▸hb)) fun b hb=>Nd _ _ _ _ fun e=>hnd (e▸hb)
 ·have hd1:∀b∈F',b≠g/\b ∉ G1/\b ∉ G2:=fun b hb=>by have:=hd b hb;simp at this;exact ⟨this.1,this.2.1,this.2.2.2⟩
  simp only [cy,bF,aG,not_or] at hn ⊢;obtain ⟨⟨⟨h1,h2⟩,h3⟩,⟨h4,h5,h6⟩,h7,h8⟩:=hn;refine ⟨⟨⟨h1,fun e=>(hd1 g e).1 rfl⟩,h3⟩,⟨h4,hn',fun a ha b hb e=>(hd1 b hb).2.1 (e▸ha)⟩,h7,fun a ha b hb=>?_⟩;rcases ha with ha|ha
  ·exact h8 a (.inl ha) b hb
  ·exact fun e=>(hd1 a ha).2.2 (e▸hb)
 ·intro b hb;simp at hb ⊢;rcases hb with hb|hb|hb|hb <;> simp [hb]
theorem Ow.head {α:Type} {E:B8 α} {t:TypeId} {w:World} {a:ai} {n cap:Nat} {xs:List α} {F:ak} (h:Ow E t w (ab a n cap) xs F) (i:Nat) (hi:i < xs.length):∃g,a=some ⟨g,0,none⟩:=by
 obtain ⟨g,cp,A,c,B,G1,Fi,G2,hv, -⟩:=h.focus i hi
 simp only [Value.slice.injEq] at hv;exact ⟨g,hv.1⟩
theorem M9 (z:Array Value) (n:Nat):(madeCells z (n * z.size)).toList=(List.replicate n z.toList).flatten:=by
 apply dp;intro p;by_cases hz:z.size=0
 ·have:z = #[]:=Array.eq_empty_of_size_eq_zero hz;subst this;simp [madeCells]
 ·have hlen:∀m,((List.replicate m z.toList).flatten).length=m * z.size:=fun m=>by simp
  by_cases hp:p < n * z.size
  ·have h1:(madeCells z (n * z.size)).toList[p]?=some z[p % z.size]!:=by simp [madeCells,hp]
   rw [h1];have hq:p / z.size < n:=Nat.div_lt_of_lt_mul (by rwa [Nat.mul_comm]);have e:List.replicate n z.toList=List.replicate (p / z.size) z.toList++z.toList::List.replicate (n - p / z.size - 1) z.toList:=by
    rw [<-cW,List.replicate_append_replicate];congr 1;omega
   have hd:=Nat.div_add_mod p z.size;have hm:=Nat.mod_lt p (Nat.pos_of_ne_zero hz);rw [Nat.mul_comm] at hd;rw [e,fQ,cL,br (by rw [hlen];omega),hlen,show p - p / z.size * z.size=p % z.size by omega,bo (by simpa using hm)];simp [hm]
  ·rw [bf (by simp [madeCells];omega),bf (by rw [hlen];omega)]
theorem Ow.made {α:Type} {E:B8 α} {t:TypeId} (w:World) (z:Array Value) (n:Nat) (x:α) (hsz:z.size=E.sz) (hz:∀w,E.L5 w z.toList x []) (hn:n<=maxLen) :
  Ow E t (w.alloc (.cells (madeCells z (n * E.sz)) t)) (ab (some ⟨w.heap.size,0,none⟩) n n) (List.replicate n x) [w.heap.size]:=by
 have hf:∀(w:World) (m:Nat),C6 E w (List.replicate m z.toList).flatten (List.replicate m x) []:=by
  intro w m
  induction m with
  | zero=>exact ⟨rfl,rfl⟩
  | succ m ih=>exact ⟨z.toList,_,[],[],by rw [cW,cL],rfl,hz w,ih⟩
 refine .inr ⟨w.heap.size,n,(madeCells z (n * E.sz)).toList,[],[],EO,?_,EO,hn,?_,?_,rfl⟩
 ·simp only [aP,Jd];exact heap_alloc_new w _
 ·rw [<-hsz,M9];simp
 ·rw [<-hsz,M9];exact hf _ _
theorem So {α:Type} {O R:B8 α} (h:Ny O R) (hz:0 < R.sz) (t:TypeId):Ny (Jo O t) (Nr R hz):=⟨rfl,fun hh=>by
 obtain ⟨v,rfl,ho⟩:=hh;exact h.slice hz t ho⟩
theorem Sl.at {α:Type} {E:B8 α} {w:World} {a:ai} {n cap:Nat} {xs:List α} {F} (h:Sl E w (ab a n cap) xs F) (k:Nat) (hk:k < xs.length) :
  ∃b off cs F1,a=some ⟨b,off,none⟩/\E.L5 w cs xs[k] F1/\(∀c∈F1,c∈F)/\∀j,j < E.sz->w.cell? ⟨b,off+k * E.sz+j,none⟩=cs[j]?:=by
 obtain ⟨a',cap',hv,hl,h⟩:=h;cases hv;rcases h with ⟨rfl,_⟩|⟨b,off,F',rfl,_,rfl,hc⟩
 ·simp at hk
 ·obtain ⟨cs,F1,h1,hj,hm⟩:=hc.get k hk;exact ⟨b,off,cs,F1,rfl,h1,fun c hc=>by simp [hm c hc],hj⟩
theorem Sl.slice {α:Type} {E:B8 α} {w v} {xs:List α} {F} (h:Sl E w v xs F):∃a cap,v=ab a xs.length cap:=by
 obtain ⟨a,cap,h,_⟩:=h;exact ⟨a,cap,h⟩
theorem Sl.len {α:Type} {E:B8 α} {w v} {xs:List α} {F} (h:Sl E w v xs F):xs.length<=maxLen:=by
 obtain ⟨a,cap,_,h,_⟩:=h;omega
theorem Sl.caps {α:Type} {E:B8 α} {w} {a:ai} {n cap:Nat} {xs:List α} {F} (h:Sl E w (ab a n cap) xs F):n=xs.length/\n<=cap/\cap<=maxLen:=by
 obtain ⟨a',cap',hv,h,_⟩:=h;cases hv;exact ⟨rfl,h⟩
def Vf {α:Type} (E:B8 α) (w:World) (v:Value) (x:α) (F:ak):Prop:=∃cs:aj,v=.agg cs.toArray/\E.L5 w cs x F
theorem Vf.below {α:Type} {E:B8 α} {w w':World} {v x F} (h:Vf E w v x F) (hb:Below w.heap.size w w'):Vf E w' v x F:=by
 obtain ⟨cs,hv,h⟩:=h;exact ⟨cs,hv,E.below h hb⟩
def Arc {α:Type} (E:B8 α) (x:α) (w:World) (e:Ending) (w':World):Prop :=
 ∃v F,e=.returned v/\Vf E w' v x F/\F.Nodup/\(∀b∈F,w.heap.size<=b)/\Below w.heap.size w w'
def Z9 {α:Type} (E:B8 α) (t:TypeId) (xs:List α) (w:World) (e:Ending) (w':World):Prop :=
 ∃v F,e=.returned v/\Ow E t w' v xs F/\F.Nodup/\(∀b∈F,w.heap.size<=b)/\Below w.heap.size w w'
theorem Jd.keepK {w w' g t cs F} (h:Jd w g t cs) (hk:Gc F w w') (hg:g ∉ F):Jd w' g t cs:=h.Nu (hk.block g h.lt hg)
structure Wu (P:Program) (f:FuncId):Prop where
 ok:∃fn,P.funcs[f]?=some fn/\(fn.name == "runtime.NumGoroutine")=false/\fn.body.isNone=false
theorem Wu.mk' {P:Program} {f:FuncId} {fn:Func} (h:P.funcs[f]?=some fn) (h1:(fn.name == "runtime.NumGoroutine")=false) (h2:fn.body.isNone=false):Wu P f:=⟨fn,h,h1,h2⟩
theorem Wu.run {P:Program} {f:FuncId} (h:Wu P f) (args:Array Value) (w:World):(callFunc f args).run P w=.ok (.enter f args) w:=by
 obtain ⟨fn,h0,h1,h2⟩:=h.ok;have h1':¬fn.name = "runtime.NumGoroutine" := by simpa using h1
 have h2':¬fn.body=none:=fun e=>by rw [e] at h2;simp at h2
 simp [callFunc,program,Sem.run,h0,h1',h2',bind,Sem.bind,pure]
theorem Wu.upon {P:Program} {f:FuncId} (h:Wu P f) {o:Oper} {a:Act} {K:Act->World->Prop} {Q:Exit->Act->World->Prop} {args:Array Value} {w:World} {R:Ending->World->Prop}
  (hc:Calls P f args w R) (hr:∀e w',R e w'->∃v,e=.returned v/\K (a.put o.dst v) w'):Oper.upon P o a K Q ((callFunc f args).run P w):=by
 rw [h.run,Oper.upon_enter];exact hc.mono fun e w' hR=>by obtain ⟨v,rfl,hk⟩:=hr e w' hR;exact hk
def IsC {α:Type} (E:B8 α) (w:World) (v:Value) (x:α) (F:ak):Prop:=∃u,v=u/\E.L5 w [u] x F
def Qz {α:Type} (p:α->Bool) (xs:List α):Int:=if xs.any p then (xs.findIdx p:Int) else -1
theorem N1 {α:Type} {p:α->Bool} {xs:List α} {k:Nat} (hk:k < xs.length) (h0:∀j,j < k->∀hj:j < xs.length,p xs[j]=false) (h1:p xs[k]=true):Qz p xs=k:=by
 have h:xs.findIdx p=k:=by
  rw [List.findIdx_eq hk];exact ⟨h1,fun j hj=>h0 j hj EM⟩
 have ha:xs.any p=true:=bS.2 ⟨xs[k],aE _,h1⟩;unfold Qz;rw [ar ha,h]
theorem Mp {α:Type} {p:α->Bool} {xs:List α} (h0:∀j,∀hj:j < xs.length,p xs[j]=false):Qz p xs=-1:=by
 unfold Qz;rw [aq];intro ha;obtain ⟨x,hx,hp⟩:=bS.1 ha;obtain ⟨i,hi,rfl⟩:=aR hx;rw [h0 i hi] at hp;simp at hp
theorem R8 {α:Type} (p:α->Bool) (xs:List α):decide (0<=Qz p xs)=xs.any p:=by
 unfold Qz;cases h:xs.any p <;> simp
def N9 (p:Nat->Bool) (n:Nat):Bool:=(List.range n).all p
theorem Jr {p:Nat->Bool} {n:Nat} (h:∀i,i < n->p i=true):N9 p n=true:=by simp [N9];exact h
theorem Kx {p:Nat->Bool} {n k:Nat} (hk:k < n) (h:p k=false):N9 p n=false:=by
 rw [Bool.eq_false_iff];intro ha;simp [N9] at ha;rw [ha k hk] at h;simp at h
theorem I5 {p:Nat->Bool} {n:Nat} (h:N9 p n=true) (i:Nat) (hi:i < n):p i=true:=by simp [N9] at h;exact h i hi
theorem Ue {p:Nat->Bool} {k:Nat} (h:∀i,i < k->p i=true) (hk:p k=true):∀i,i < k+1->p i=true:=fun i hi=>by
 rcases aY (cM hi) with h'|rfl
 ·exact h i h'
 ·exact hk
theorem V9 {P:Program} {f:FuncId} {args:Array Value} {w:World} {n:Nat} {v:Value}
  (h:Calls P f args (w.drewN n) fun e w'=>e=.returned v/\w.drewN n=w'):Calls P f args (w.drewN n) fun e w''=>e=.returned v/\∃m,w''=w.drewN m :=
 h.mono fun _ _ ⟨he,hm⟩=>⟨he,n,hm.symm⟩
def Zz {α:Type} (E:B8 α):Prop:=∀{w cs x F},E.L5 w cs x F->∀u∈cs,u.oneCell'=true
theorem Dw:Zz Bi:=fun h u hu=>by obtain ⟨rfl,_⟩:=h;simp at hu;subst hu;rfl
theorem Ej:Zz Bc:=fun h u hu=>by obtain ⟨rfl,_⟩:=h;simp at hu;subst hu;rfl
theorem Sl.one {α:Type} {E:B8 α} {w v} {xs:List α} {F} (h:Sl E w v xs F):v.oneCell'=true:=by obtain ⟨a,c,rfl,_⟩:=h;rfl
theorem Ow.one {α:Type} {E:B8 α} {t w v} {xs:List α} {F} (h:Ow E t w v xs F):v.oneCell'=true:=by obtain ⟨a,c,rfl⟩:=h.slice;rfl
theorem Awk {α:Type} (E:B8 α) (hz:0 < E.sz):Zz (Nr E hz):=fun h u hu=>by obtain ⟨v,rfl,h⟩:=h;simp at hu;subst hu;exact h.one
theorem C6.one' {α:Type} {E:B8 α} (hE:Zz E) {w:World}:∀{xs:List α} {cs:aj} {G:ak},C6 E w cs xs G->∀u∈cs,u.oneCell'=true
 | [],_,_,h=>by simp [h.1]
 | x::r,_,_,h=>by
  obtain ⟨c1,c2,F1,F2,rfl,rfl,h1,h2⟩:=h;intro u hu;rcases aG.1 hu with hu|hu
  ·exact hE h1 u hu
  ·exact h2.one' hE u hu
theorem Nn.flat {α:Type} {E:B8 α} {w:World} {b:Nat}:∀{xs:List α} {off:Nat} {F:ak},Nn E w b off xs F->∃cs,C6 E w cs xs F/\∀j u,cs[j]?=some u->w.cell? ⟨b,off+j,none⟩=some u
 | [],off,_,h=>⟨[],⟨rfl,h⟩,fun j u hu=>by simp at hu⟩
 | x::r,off,_,h=>by
  obtain ⟨c1,F1,F2,rfl,h1,hc,h2⟩:=h;obtain ⟨c2,hf,hc2⟩:=h2.flat;have hl:=E.len h1;refine ⟨c1++c2,⟨c1,c2,F1,F2,rfl,rfl,h1,hf⟩,fun j u hu=>?_⟩;rcases cw j c1.length with hj|hj
  ·rw [bo hj] at hu;rw [hc j EM];exact hu
  ·rw [br hj] at hu;have:=hc2 _ _ hu;rw [<-this];congr 2;omega
theorem C6.cells {α:Type} {E:B8 α} {w:World} {b:Nat}:∀{xs:List α} {cs:aj} {off:Nat} {F:ak},C6 E w cs xs F->(∀j u,cs[j]?=some u->w.cell? ⟨b,off+j,none⟩=some u)->Nn E w b off xs F
 | [],_,off,_,h,_=>h.2
 | x::r,_,off,_,h,hc=>by
  obtain ⟨c1,c2,F1,F2,rfl,rfl,h1,h2⟩:=h;have hl:=E.len h1;refine ⟨c1,F1,F2,rfl,h1,fun j hj=>?_,h2.cells fun j u hu=>?_⟩
  ·have:j < c1.length:=EM
   rw [aB this];exact hc j _ (by rw [bo this,aB this])
  ·have:=hc (c1.length+j) u JC;rw [<-this];congr 2;omega
def Hd (F:ak):Prop:=∀g G,F=g::G->g ∉ G
theorem Hd.of {F:ak} (h:F.Nodup):Hd F:=fun g G e=>by subst e;simp at h;exact h.1
theorem Ow.owns {α:Type} {E:B8 α} {t w v} {xs:List α} {F} (h:Ow E t w v xs F):∃cs G,w.ownsRow 0 t E.sz v xs.length cs/\C6 E w cs xs G/\F=v.ownBlock.toList++G:=by
 rcases h with ⟨rfl,rfl,rfl⟩|⟨g,cap,cs,rest,G,rfl,hr,h1,h2,h3,hf,rfl⟩
 ·exact ⟨[],[],⟨EO,.inl ⟨rfl,rfl⟩⟩,⟨rfl,rfl⟩,rfl⟩
 ·refine ⟨cs,G,⟨hf.len,.inr ⟨g,cap,(cs++rest).toArray,rfl,aD _,hr,h1,h2,by simp [h3],?_⟩⟩,hf,rfl⟩;rw [<-hf.len];simp
theorem Ow.ofOwns {α:Type} {E:B8 α} {t w v n} {cs:aj} {xs:List α} {G} (h:w.ownsRow 0 t E.sz v n cs) (hf:C6 E w cs xs G) (hn:n=xs.length):Ow E t w v xs (v.ownBlock.toList++G):=by
 subst hn;obtain ⟨hl,h⟩:=h;rcases h with ⟨rfl,h0⟩|⟨g,cap,cur,rfl,_,hg,h1,h2,h3,h4⟩
 ·have:xs=[]:=bK h0;subst this;exact .inl ⟨rfl,rfl,by rw [hf.2];rfl⟩
 ·refine .inr ⟨g,cap,cs,cur.toList.drop cs.length,G,rfl,?_,h1,h2,?_,hf,rfl⟩
  ·have:cs++cur.toList.drop cs.length=cur.toList:=by
    rw [hl,<-h4];simp
   rw [this];exact hg
  ·rw [<-h3];simp;rw [hl];have:=cC E.sz h1;omega
theorem Ajy {w:World} {t v n sz} {cs:aj} (h:w.ownsRow 0 t sz v n cs):∀b,v.ownBlock=some b->b < w.heap.size:=by
 intro b hb;rcases h.2 with ⟨rfl,_⟩|⟨g,cap,cur,rfl,_,hg,_⟩
 ·cases hb
 ·cases hb;rcases cw g w.heap.size with hlt|hge
  ·exact hlt
  ·rw [ed hge] at hg;cases hg
section
variable {P:Program} {α:Type} {E:B8 α}
structure Apd (E:B8 α) (e:TypeId) (w:World) (v:Value) (xs ys:List α) (F Fy:ak) (v':Value) (w':World) (F':ak):Prop where
 ow:Ow E e w' v' (xs++ys) F'
 hd:Hd F'
 Ba6:F.Nodup->Fy.Nodup->(∀b∈Fy,b ∉ F)->F'.Nodup
 mem:∀b∈F',b∈F\/b∈Fy\/b=w.heap.size
 Nu:Gc F w w'
 Amz:Gc v.ownBlock.toList w w'
 val:∃a cap,v'=ab a (xs.length+ys.length) cap
 Al3:v'.ownBlock=v.ownBlock\/v'.ownBlock=some w.heap.size
 Bb5:∀Gx,F=v.ownBlock.toList++Gx->F'=v'.ownBlock.toList++(Gx++Fy)
theorem Arh {e:TypeId} {w:World} {v:Value} {xs ys:List α} {F Fy:ak} {v' w'} {cs news G} (hown:w.ownsRow 0 e E.sz v xs.length cs) (hf:C6 E w cs xs G) (hF:F=v.ownBlock.toList++G) (hd:Hd F)
  (hfy:C6 E w news ys Fy) (hdis:∀b∈Fy,v.ownBlock≠some b) (h':w'.ownsRow 0 e E.sz v' (xs.length+ys.length) (cs++news)) (hg:w.grownBy w' v.ownBlock)
  (hb:v'.ownBlock=v.ownBlock\/v'.ownBlock=some w.heap.size) (hs:∃a cap,v'=ab a (xs.length+ys.length) cap):∃F',Apd E e w v xs ys F Fy v' w' F':=by
 have hGn:∀b∈G,v.ownBlock≠some b:=fun b hb e=>by
  rw [e] at hF;exact hd b G hF hb
 have hfr:∀b,b < w.heap.size->v.ownBlock≠some b->w'.heap[b]?=w.heap[b]?:=fun b hb hn=>hg.block b hb (fun e=>hn e.symm);have hfl:C6 E w' (cs++news) (xs++ys) (G++Fy):=(hf.frame fun b hb=>hfr b (hf.lt b hb) (hGn b hb)).append (hfy.frame fun b hb=>hfr b (hfy.lt b hb) (hdis b hb));have hvl:=Ajy hown;have hhead:∀g,v'.ownBlock=some g->g ∉ G/\g ∉ Fy:=fun g e=>by
  rcases hb with hb|hb
  ·rw [hb] at e;exact ⟨fun hm=>hGn g hm e,fun hm=>hdis g hm e⟩
  ·rw [hb] at e;cases e;exact ⟨fun hm=>Nat.lt_irrefl _ (hf.lt _ hm),fun hm=>Nat.lt_irrefl _ (hfy.lt _ hm)⟩
 refine ⟨v'.ownBlock.toList++(G++Fy),Ow.ofOwns h' hfl EO,?_,?_,?_,?_,⟨hg.os,hg.tape,hg.output,hg.size,fun k hk hm=>hfr k hk fun e=>hm FH⟩,hs,hb,fun Gx e=>by rw [hF] at e;rw [List.append_cancel_left e]⟩
 ·intro g G' e;cases hv:v'.ownBlock with
  | none =>
   have hxy:xs++ys=[]:=by
    rcases h'.2 with ⟨rfl,h0⟩|⟨g,cap,cur,rfl,_⟩
    ·exact bK HC
    ·simp [Value.ownBlock] at hv
   rw [hxy] at hfl;rw [hfl.2,hv] at e;simp at e
  | some g2 =>
   rw [hv] at e;simp at e;obtain ⟨rfl,rfl⟩:=e;have:=hhead g2 hv;simp [this]
 ·intro h1 h2 h3;subst hF;have hn:(G++Fy).Nodup:=by
   rw [bF] at h1 ⊢;exact ⟨h1.2.1,h2,fun a ha b hb e=>h3 b hb (by rw [<-e];simp [ha])⟩
  cases hv:v'.ownBlock with
  | none=>simpa using hn
  | some g2=>have:=hhead g2 hv;simp only [Option.toList_some,eJ,cy,aG];exact ⟨by simp [this],hn⟩
 ·intro b hm;simp at hm;rcases hm with hm|hm|hm
  ·rcases hb with hb|hb
   ·rw [hb] at hm;left;rw [hF];simp [hm]
   ·rw [hb] at hm;cases hm;simp
  ·left;rw [hF];simp [hm]
  ·simp [hm]
 ·exact ⟨hg.os,hg.tape,hg.output,hg.size,fun k hk hm=>hfr k hk fun e=>hm (by rw [hF,e];simp)⟩
theorem Ami (hone:Zz E) (hsz:0 < E.sz) {o:Oper} {a:Act} {K:Act->World->Prop} {Q:Exit->Act->World->Prop} {w:World} (s x:Operand) (t:TypeId)
  (ho:o.op=.call { callee:=.builtin .append,args:=#[s,x],argTypes:=#[t,t] }) (e:TypeId) (z:Value) (bytes:Nat) (ht:P.underlying t=some (.slice e))
  (hinfo:(P.info? e).map (fun i=>(i.zero,i.size,i.bytes))=some (some z,E.sz,bytes)) (hzs:z.cells.size=E.sz)
  (v:Value) (xs:List α) (F:ak) (hs:a.eval s=v) (hown:Ow E e w v xs F) (hd:Hd F)
  (ao:ai) (ys:List α) (c:Nat) (hx:a.eval x=ab ao ys.length c) (news:aj) (Fy:ak) (hfy:C6 E w news ys Fy)
  (hsrc:(ao=none/\c=0/\ys=[])\/∃ad,ao=some ad/\∀j u,news[j]?=some u->w.cell? (ad.add j)=some u)
  (hdis:∀b∈Fy,v.ownBlock≠some b) (h63:xs.length+ys.length<=maxLen) (hbytes:(xs.length+ys.length) * bytes<=140737488355328)
  (h:∀v' w' F',Apd E e w v xs ys F Fy v' w' F'->K (a.put o.dst v') w'):o.wp P a w K Q:=by
 obtain ⟨i,hi,hzz⟩:=co.1 hinfo;simp only [Prod.mk.injEq] at hzz;obtain ⟨hz,hsize,hby⟩:=hzz;obtain ⟨cs,G,hrow,hf,hF⟩:=hown.owns;rcases hsrc with ⟨rfl,rfl,rfl⟩|⟨ad,rfl,hnews⟩
 ·have hn0:news=[]:=hfy.1;subst hn0;unfold Oper.wp execOp;simp only [ho,resolve,invoke,builtin,Sem.run_bind,Sem.run_pure,Result.andThen_ok,cO,bL,dU,hs,hx];have hrun:=run_append_owned_none (P:=P) w 0 t o.type e i E.sz ht hi _ xs.length cs hrow;rw [show ([]:List α).length=0 from rfl,hrun];obtain ⟨F',hA⟩:=Arh (ys:=[]) hrow hf hF hd hfy hdis (by simpa using hrow) (World.grownBy.refl _ _) (.inl rfl) (by obtain ⟨a,c,rfl⟩:=hown.slice;exact ⟨a,c,EO⟩);exact h _ _ _ hA
 ·obtain ⟨v',w',hr,h2,h3,h4,h5⟩:=run_append_own_at (P:=P) w 0 t o.type e i z E.sz bytes ht hi hz hsize hby hzs hsz v xs.length cs hrow ad ys.length c news hfy.len hnews (hfy.one' hone) h63 hbytes (aD _);unfold Oper.wp execOp;simp only [ho,resolve,invoke,builtin,Sem.run_bind,Sem.run_pure,Result.andThen_ok,cO,bL,dU,hs,hx,hr];have hs2:∃a cap,v'=ab a (xs.length+ys.length) cap:=by
   rcases h2.2 with ⟨rfl,h0⟩|⟨g,cap,cur,rfl,_⟩
   ·exact ⟨none,0,by rw [h0]⟩
   ·exact ⟨_,_,rfl⟩
  obtain ⟨F',hA⟩:=Arh (ys:=ys) hrow hf hF hd hfy hdis h2 h3 h5 hs2;exact h _ _ _ hA
theorem P8 (hone:Zz E) (hsz:0 < E.sz) {ops:Array Oper} {rest:List Oper} {o:Oper} {a:Act} {Q:Exit->Act->World->Prop} {w:World} (hgd:o.guard=none) (s x:Operand) (t:TypeId)
  (ho:o.op=.call { callee:=.builtin .append,args:=#[s,x],argTypes:=#[t,t] }) (e:TypeId) (z:Value) (bytes:Nat) (ht:P.underlying t=some (.slice e))
  (hinfo:(P.info? e).map (fun i=>(i.zero,i.size,i.bytes))=some (some z,E.sz,bytes)) (hzs:z.cells.size=E.sz)
  (v:Value) (xs:List α) (F:ak) (hs:a.eval s=v) (hown:Ow E e w v xs F) (hd:Hd F)
  (ao:ai) (ys:List α) (c:Nat) (hx:a.eval x=ab ao ys.length c) (news:aj) (Fy:ak) (hfy:C6 E w news ys Fy)
  (hsrc:(ao=none/\c=0/\ys=[])\/∃ad,ao=some ad/\∀j u,news[j]?=some u->w.cell? (ad.add j)=some u)
  (hdis:∀b∈Fy,v.ownBlock≠some b) (h63:xs.length+ys.length<=maxLen) (hbytes:(xs.length+ys.length) * bytes<=140737488355328)
  (h:∀v' w' F',Apd E e w v xs ys F Fy v' w' F'->wpList P ops Q rest (a.put o.dst v') w'):wpList P ops Q (o::rest) a w :=
 wpList_plain hgd fun _ hK=>Ami hone hsz s x t ho e z bytes ht hinfo hzs v xs F hs hown hd ao ys c hx news Fy hfy hsrc hdis h63 hbytes fun v' w' F' hA=>hK _ _ (h v' w' F' hA)
theorem At5 (hone:Zz E) (hsz:0 < E.sz) {ops:Array Oper} {o:Oper} {a:Act} {K:Act->World->Prop} {Q:Exit->Act->World->Prop} {Z:Prop} {w:World} (hgd:o.guard=none) (s x:Operand) (t:TypeId)
  (ho:o.op=.call { callee:=.builtin .append,args:=#[s,x],argTypes:=#[t,t] }) (e:TypeId) (z:Value) (bytes:Nat) (ht:P.underlying t=some (.slice e))
  (hinfo:(P.info? e).map (fun i=>(i.zero,i.size,i.bytes))=some (some z,E.sz,bytes)) (hzs:z.cells.size=E.sz)
  (v:Value) (xs:List α) (F:ak) (hs:a.eval s=v) (hown:Ow E e w v xs F) (hd:Hd F)
  (ao:ai) (ys:List α) (c:Nat) (hx:a.eval x=ab ao ys.length c) (news:aj) (Fy:ak) (hfy:C6 E w news ys Fy)
  (hsrc:(ao=none/\c=0/\ys=[])\/∃ad,ao=some ad/\∀j u,news[j]?=some u->w.cell? (ad.add j)=some u)
  (hdis:∀b∈Fy,v.ownBlock≠some b) (h63:xs.length+ys.length<=maxLen) (hbytes:(xs.length+ys.length) * bytes<=140737488355328)
  (h:∀v' w' F',Apd E e w v xs ys F Fy v' w' F'->K (a.put o.dst v') w'):if Region.wanted o (yielded ops a.tmps)=true then Oper.wp P o a w K Q else Z:=by
 have hw:Region.wanted o (yielded ops a.tmps)=true:=by simp [Region.wanted,hgd]
 rw [ar hw];exact Ami hone hsz s x t ho e z bytes ht hinfo hzs v xs F hs hown hd ao ys c hx news Fy hfy hsrc hdis h63 hbytes h
end
theorem Ow.own_mem {α:Type} {E:B8 α} {t w v} {xs:List α} {F} (h:Ow E t w v xs F):∀b,v.ownBlock=some b->b∈F:=fun b hb=>by
 obtain ⟨cs,G,_,_,rfl⟩:=h.owns;simp [hb]
def Bau {α:Type} (E:B8 α) (x:α) (w:World) (e:Ending) (w':World):Prop :=
 ∃v F,e=.returned v/\Vf E w' v x F/\(∀b∈F,w.heap.size<=b)/\Below w.heap.size w w'
theorem Vf.Ov {α:Type} {O R:B8 α} (h:Ny O R) {w v x F} (ho:Vf O w v x F):∃F',(∀b∈F',b∈F)/\Vf R w v x F':=by
 obtain ⟨cs,hv,hx⟩:=ho;obtain ⟨F',h1,h2⟩:=h.L5 hx;exact ⟨F',h1,cs,hv,h2⟩
theorem Ow.empty {α:Type} {E:B8 α} {t:TypeId} {w:World} {g:Nat} (h:Jd w g t []):Ow E t w (ab (some ⟨g,0,none⟩) 0 0) ([]:List α) [g] :=
 .inr ⟨g,0,[],[],[],rfl,EU,EO,EO,EO,⟨rfl,rfl⟩,rfl⟩
theorem Hd.one (g:Nat):Hd [g]:=fun a G e=>by cases e;simp
theorem Hd.nil:Hd []:=fun a G e=>by cases e
theorem Sl.src {α:Type} {E:B8 α} {w:World} {v:Value} {xs:List α} {F} (h:Sl E w v xs F):∃ao c news Fy,v=ab ao xs.length c/\xs.length<=maxLen/\C6 E w news xs Fy/\(∀b∈Fy,b∈F) /\
  ((ao=none/\c=0/\xs=[])\/∃ad,ao=some ad/\∀j u,news[j]?=some u->w.cell? (ad.add j)=some u):=by
 obtain ⟨a,cap,rfl,hl,⟨rfl,rfl,h0⟩|⟨b,off,F',rfl,hne,rfl,hc⟩⟩:=h
 ·refine ⟨a,cap,[],[],rfl,EO,⟨rfl,rfl⟩,EO,?_⟩;cases a with
  | none=>exact .inl ⟨rfl,h0 rfl,rfl⟩
  | some ad=>exact .inr ⟨ad,rfl,fun j u hu=>by simp at hu⟩
 ·obtain ⟨cs,hf,hcs⟩:=hc.flat;refine ⟨_,cap,cs,F',rfl,EM,hf,fun b hb=>by simp [hb],.inr ⟨_,rfl,fun j u hu=>?_⟩⟩;rw [<-hcs j u hu];unfold Addr.add;split <;> simp_all
theorem Sl.takeS {α:Type} {E:B8 α} {w:World} {a:ai} {n cap:Nat} {xs:List α} {F} (h:Sl E w (ab a n cap) xs F) (k:Nat) (hk:k<=xs.length):∃F',(∀b∈F',b∈F)/\Sl E w (ab a k cap) (xs.take k) F':=by
 obtain ⟨a',cap',hv,hl,h⟩:=h;cases hv;have hlen:(xs.take k).length=k:=ET
 rcases h with ⟨rfl,rfl,h0⟩|⟨b,off,F',rfl,hne,rfl,hc⟩
 ·simp at hk;subst hk;exact ⟨[],EO,a,cap,EO,⟨EO,hl.2⟩,.inl ⟨EO,rfl,h0⟩⟩
 ·by_cases hk0:k=0
  ·subst hk0;exact ⟨[],EO,some ⟨b,off,none⟩,cap,EO,⟨EO,hl.2⟩,.inl ⟨EO,rfl,fun e=>by cases e⟩⟩
  ·obtain ⟨cs,hf,hcs⟩:=hc.flat;have e:xs=xs.take k++xs.drop k:=EO
   rw [e] at hf;obtain ⟨c1,c2,G1,G2,rfl,rfl,h1,h2⟩:=hf.split;refine ⟨b::G1,by intro x hx;simp at hx ⊢;rcases hx with hx|hx <;> simp [hx],_,cap,by rw [hlen],by rw [hlen];omega,.inr ⟨b,off,G1,rfl,fun e=>by rw [e] at hlen;simp at hlen;omega,rfl,h1.cells fun j u hu=>hcs j u ?_⟩⟩;have hj:j < c1.length:=by
    rcases cw j c1.length with h|h
    ·exact h
    ·rw [bf h] at hu;cases hu
   rw [bo hj];exact hu
def Ym {α:Type} (E:B8 α):Prop:=∀{w cs x F},E.L5 w cs x F->F=[]
theorem Eh:Ym Bi:=fun h=>h.2
theorem Gp:Ym Bc:=fun h=>h.2.2
theorem C6.scal {α:Type} {E:B8 α} (hE:Ym E) {w:World}:∀{xs:List α} {cs:aj} {G:ak},C6 E w cs xs G->G=[]
 | [],_,_,h=>h.2
 | x::r,_,_,h=>by
  obtain ⟨c1,c2,F1,F2,rfl,rfl,h1,h2⟩:=h;rw [hE h1,h2.scal hE];rfl
theorem Ow.scal {α:Type} {E:B8 α} (hE:Ym E) {t w v} {xs:List α} {F} (h:Ow E t w v xs F):F=v.ownBlock.toList:=by
 obtain ⟨cs,G,_,hf,rfl⟩:=h.owns;rw [hf.scal hE,aP]
def Mix {α:Type} (O R:B8 α) (t:TypeId) (B1 B0:Nat) (w:World) (v:Value) (xs:List α) (k:Nat):Prop :=
 (v=ab none 0 0/\xs=[])\/∃g cap c1 c2 rest F G,v=ab (some ⟨g,0,none⟩) xs.length cap/\Jd w g t (c1++c2++rest)/\xs.length<=cap/\cap<=maxLen/\c1.length+c2.length+rest.length=cap * O.sz /\
  C6 O w c1 (xs.take k) F/\C6 R w c2 (xs.drop k) G/\(g::F).Nodup/\(∀b∈g::F,B0<=b)/\∀b∈G,b < B1
section
variable {α:Type} {O R:B8 α} {t:TypeId} {B1 B0:Nat} {w:World} {v:Value} {xs:List α}
theorem Mix.start (hsz:R.sz=O.sz) {F:ak} (h:Ow R t w v xs F) (h1:∀b,v.ownBlock=some b->B0<=b) (h2:∀b∈F,v.ownBlock=some b\/b < B1) (hd:Hd F):Mix O R t B1 B0 w v xs 0:=by
 rcases h with ⟨rfl,rfl,_⟩|⟨g,cap,cs,rest,G,rfl,hr,h3,h4,h5,hf,rfl⟩
 ·exact .inl ⟨rfl,rfl⟩
 ·refine .inr ⟨g,cap,[],cs,rest,[],G,rfl,FL,h3,h4,by simpa [<-hsz] using h5,⟨rfl,EO⟩,by simpa using hf,EO,by simpa using h1 g rfl,fun b hb=>?_⟩;rcases h2 b ES with e|e
  ·cases e;exact absurd hb (hd g G rfl)
  ·exact e
theorem Mix.done (h:Mix O R t B1 B0 w v xs xs.length):∃F,Ow O t w v xs F/\F.Nodup/\∀b∈F,B0<=b:=by
 rcases h with ⟨rfl,rfl⟩|⟨g,cap,c1,c2,rest,F,G,rfl,hr,h3,h4,h5,hf,hf2,hn,hb,_⟩
 ·exact ⟨[],.inl ⟨rfl,rfl,rfl⟩,EO,EO⟩
 ·have:c2=[]:=by simp at hf2;exact hf2.1
  subst this;exact ⟨g::F,.inr ⟨g,cap,c1,rest,F,rfl,FL,h3,h4,by simpa using h5,by simpa using hf,rfl⟩,hn,hb⟩
theorem Mix.frame {w':World} {k:Nat} (h:Mix O R t B1 B0 w v xs k) (hb:∀b,b < w.heap.size->b < B1\/B0<=b->w'.heap[b]?=w.heap[b]?):Mix O R t B1 B0 w' v xs k:=by
 rcases h with h|⟨g,cap,c1,c2,rest,F,G,hv,hr,h3,h4,h5,hf,hf2,hn,hb1,hb2⟩
 ·exact DS
 ·exact .inr ⟨g,cap,c1,c2,rest,F,G,hv,hr.Nu (hb g hr.lt (.inr (hb1 g EO))),h3,h4,h5,hf.frame fun b h=>hb b (hf.lt b h) (.inr (hb1 b (by simp [h]))),hf2.frame fun b h=>hb b (hf2.lt b h) (.inl (hb2 b h)),hn,hb1,hb2⟩
theorem Mix.setFar {k:Nat} (h:Mix O R t B1 B0 w v xs k) {p:Addr} (h1:B1<=p.block) (h2:p.block < B0) (u:Value):Mix O R t B1 B0 (w.setCell p u) v xs k :=
 h.frame fun b _ hb=>Below.heap_setCell _ _ _ _ EM
theorem Mix.below {w':World} {k:Nat} (h:Mix O R t B1 B0 w v xs k) (hb:Below w.heap.size w w'):Mix O R t B1 B0 w' v xs k:=h.frame fun b h _=>hb.block b h
theorem Mix.slice {k:Nat} (h:Mix O R t B1 B0 w v xs k):∃a cap,v=ab a xs.length cap:=by
 rcases h with ⟨rfl,rfl⟩|⟨g,cap,c1,c2,rest,F,G,rfl,_⟩
 ·exact ⟨none,0,rfl⟩
 ·exact ⟨_,_,rfl⟩
theorem Mix.at {k:Nat} (h:Mix O R t B1 B0 w v xs k) (hsz:R.sz=O.sz) (hk:k < xs.length) (hB:B0<=w.heap.size) (h01:B1<=B0) :
  ∃g cap A c B Fk,v=ab (some ⟨g,0,none⟩) xs.length cap/\B0<=g/\Jd w g t (A++c++B)/\A.length=k * O.sz/\c.length=O.sz/\R.L5 w c xs[k] Fk/\(∀b∈Fk,b < B1) /\
   ∀w' c' F',Jd w' g t (A++c'++B)->O.L5 w' c' xs[k] F'->F'.Nodup->(∀b∈F',w.heap.size<=b)->(∀b,b < w.heap.size->b≠g->w'.heap[b]?=w.heap[b]?)->Mix O R t B1 B0 w' v xs (k+1):=by
 rcases h with ⟨_,rfl⟩|⟨g,cap,c1,c2,rest,F,G,rfl,hr,h3,h4,h5,hf,hf2,hn,hb1,hb2⟩
 ·simp at hk
 ·rw [bN hk] at hf2;obtain ⟨c,c3,G1,G2,rfl,rfl,h6,h7⟩:=hf2;have hc1:c1.length=k * O.sz:=by rw [hf.len,aL,cT EM]
  have hlc:=R.len h6;refine ⟨g,cap,c1,c,c3++rest,G1,rfl,hb1 g EO,FL,hc1,by rw [<-hsz];exact hlc,h6,fun b hb=>hb2 b ES,fun w' c' F' hr' h8 hn' hF' hk'=>?_⟩;have hlc':=O.len h8;have hne:∀b∈F++G2,b < w.heap.size/\b≠g:=fun b hb=>by
   rcases aG.1 hb with hb|hb
   ·refine ⟨hf.lt b hb,fun e=>?_⟩;subst e;simp at hn;exact hn.1 hb
   ·have:=hb2 b ES;have:=hb1 g EO;exact ⟨EM,EM⟩
  refine .inr ⟨g,cap,c1++c',c3,rest,F++F',G2,rfl,by simpa using hr',h3,h4,?_,?_,?_,?_,?_,fun b hb=>hb2 b ES⟩
  ·simp only [aw] at h5 ⊢;omega
  ·rw [aZ hk];exact (hf.frame fun b hb=>hk' b (hne b ES).1 (hne b ES).2).append (C6.one h8)
  ·exact h7.frame fun b hb=>hk' b (hne b ES).1 (hne b ES).2
  ·have hg:=hr.lt;simp only [cy,aG,not_or,bF] at hn ⊢;exact ⟨⟨hn.1,fun hm=>by have:=hF' g hm;omega⟩,hn.2,hn',fun a ha b hb e=>by have:=hf.lt a ha;have:=hF' b hb;omega⟩
  ·intro b hb;simp at hb;rcases hb with rfl|hb|hb
   ·exact hb1 b EO
   ·exact hb1 b ES
   ·have:=hF' b hb;omega
end
theorem Vf.Nu {α:Type} {E:B8 α} {w w':World} {v x F K} (h:Vf E w v x F) (hk:Gc K w w') (hd:∀b∈F,b ∉ K):Vf E w' v x F:=by
 obtain ⟨cs,hv,h⟩:=h;exact ⟨cs,hv,E.frame h fun b hb=>hk.block b (E.lt h b hb) (hd b hb)⟩
theorem Vf.lt {α:Type} {E:B8 α} {w:World} {v x F} (h:Vf E w v x F):∀b∈F,b < w.heap.size:=by
 obtain ⟨cs,hv,h⟩:=h;exact E.lt h
theorem Vf.drewN {α:Type} {E:B8 α} {w:World} {v x F} (h:Vf E w v x F) (n:Nat):Vf E (w.drewN n) v x F:=by
 obtain ⟨cs,hv,h⟩:=h;exact ⟨cs,hv,E.frame h fun _ _=>rfl⟩
theorem Sl.drewN {α:Type} {E:B8 α} {w:World} {v} {xs:List α} {F} (h:Sl E w v xs F) (n:Nat):Sl E (w.drewN n) v xs F:=h.frame fun _ _=>rfl
theorem Sl.Nu {α:Type} {E:B8 α} {w w':World} {v} {xs:List α} {F K} (h:Sl E w v xs F) (hk:Gc K w w') (hd:∀b∈F,b ∉ K) (hz:0 < E.sz:=by decide):Sl E w' v xs F :=
 h.frame fun b hb=>hk.block b (h.lt hz b hb) (hd b hb)
theorem Ow.drewN {α:Type} {E:B8 α} {t:TypeId} {w:World} {v} {xs:List α} {F} (h:Ow E t w v xs F) (n:Nat):Ow E t (w.drewN n) v xs F:=h.frame fun _ _=>rfl
theorem Jd.drewN {w g t cs} (h:Jd w g t cs) (n:Nat):Jd (w.drewN n) g t cs:=h
def Ht (lo x hi:Int):Bool:=decide (lo<=x) && decide (x<=hi)
theorem Ds {a b:Bool} (h:a=b):Ending.returned (.bool a)=.returned (.bool b):=by rw [h]
theorem Avo (s:am) (k:Nat) (h:k < s.size):s.data.toList.drop k=s[k]::s.data.toList.drop (k+1):=by
 rw [bN EU];rfl
theorem Aru (s:am) (k:Nat) (h:¬k < s.size):s.data.toList.drop k=[]:=List.drop_of_length_le ET
theorem Jc (x lo hi:Int) (w:World) :
  Calls prog 19 #[aa x,aa lo,aa hi] w fun e w'=>e=.returned (.bool (Ht lo x hi))/\w=w':=by
 go_enter func19,ntmps19
 go_wp2
 all_goals go_ret
 all_goals exact ⟨Ds (by simp [Ht, *] <;> omega),rfl⟩
theorem Mf (x lo hi:Int) (w:World) :
  Calls prog 24 #[aa x,aa lo,aa hi] w fun e w'=>e=.returned (.bool (Ht lo x hi))/\w=w':=by
 go_enter func24,ntmps24
 go_wp2
 all_goals go_ret
 all_goals exact ⟨Ds (by simp [Ht, *] <;> omega),rfl⟩
def Bcc (c:UInt8) (l:List UInt8):Bool:=l.any (· == c)
theorem Nk {a b:Int} (h:a=b):Ending.returned (aa a)=.returned (aa b):=by rw [h]
theorem Ajc:(prog.info? 3).map (fun i=>(i.zero,i.size,i.bytes))=some (some (aa 0),1,8):=by kernel_rfl
theorem Sl.int {w:World} {a:ai} {n cap:Nat} {xs:al} {F} (h:Sl Bi w (ab a n cap) xs F):n=xs.length/\n<=maxLen /\
  ∀k (hk:k < xs.length),∃b off,a=some ⟨b,off,none⟩/\w.cell? ⟨b,off+k,none⟩=some (aa xs[k]):=by
 obtain ⟨a',cap',hv,hl,h⟩:=h;cases hv;refine ⟨rfl,EM,fun k hk=>?_⟩;rcases h with ⟨rfl,_⟩|⟨b,off,F',rfl,_,_,hc⟩
 ·simp at hk
 ·obtain ⟨cs,F1,⟨rfl,_⟩,hj,_⟩:=hc.get k hk;exact ⟨b,off,rfl,by simpa [Bi] using hj 0 EN⟩
structure Oc where
 Ad:al
def Tn:B8 Oc where
 sz:=1
 L5 w cs x F:=∃v1,cs=[v1]/\Sl Bi w v1 x.Ad F
 len h:=FY
 lt h:=FX
 frame h hF:=EZ
theorem Ajd:(prog.info? 9).map (fun i=>(i.zero,i.size,i.bytes))=some (some (af ⟨#[]⟩),1,16):=by kernel_rfl
theorem Sl.str {w:World} {a:ai} {n cap:Nat} {xs:ah} {F} (h:Sl Bc w (ab a n cap) xs F):n=xs.length/\n<=maxLen /\
  ∀k (hk:k < xs.length),xs[k].size<=maxLen/\∃b off,a=some ⟨b,off,none⟩/\w.cell? ⟨b,off+k,none⟩=some (af xs[k]):=by
 obtain ⟨a',cap',hv,hl,h⟩:=h;cases hv;refine ⟨rfl,EM,fun k hk=>?_⟩;rcases h with ⟨rfl,_⟩|⟨b,off,F',rfl,_,_,hc⟩
 ·simp at hk
 ·obtain ⟨cs,F1,⟨rfl,hs,_⟩,hj,_⟩:=hc.get k hk;exact ⟨hs,b,off,rfl,by simpa [Bc] using hj 0 EN⟩
structure Ax where
 Al:Int
 size:Int
 An:ah
def Ci:B8 Ax where
 sz:=3
 L5 w cs x F:=∃v1,cs=[aa x.Al,aa x.size,v1]/\Sl Bc w v1 x.An F
 len h:=FY
 lt h:=FX
 frame h hF:=EZ
def Qj:B8 Ax where
 sz:=3
 L5 w cs x F:=∃v1,cs=[aa x.Al,aa x.size,v1]/\Ow Bc 9 w v1 x.An F
 len h:=FY
 lt h:=JN
 frame h hF:=EZ
structure Hm where
 Ab:Int
 Bl:Int
def Bx:B8 Hm where
 sz:=2
 L5 _ cs x F:=cs=[aa x.Ab,aa x.Bl]/\F=[]
 len h:=by obtain ⟨rfl,rfl⟩:=h;rfl
 lt h:=by obtain ⟨rfl,rfl⟩:=h;simp
 frame h _:=h
theorem Iw:Zz Bx:=fun h u hu=>by
 obtain ⟨rfl,rfl⟩:=h;simp only [aF,aM,bn] at hu;rcases hu with rfl|rfl
 ·rfl
 ·rfl
theorem Lc:Ym Bx:=fun h=>by obtain ⟨rfl,rfl⟩:=h;rfl
theorem Afz:(prog.info? 130).map (fun i=>(i.zero,i.size,i.bytes))=some (some (.agg #[aa 0,aa 0]),2,16):=by kernel_rfl
structure Cc where
 Aa:Ax
 Ae:Int
 quiet:Int
 holds:List Hm
def El:B8 Cc where
 sz:=6
 L5 w cs x F:=∃v1 v2 F1 F2,cs=[aa x.Aa.Al,aa x.Aa.size,v1,aa x.Ae,aa x.quiet,v2]/\Sl Bc w v1 x.Aa.An F1/\Sl Bx w v2 x.holds F2/\F=F1++F2
 len h:=GZ
 lt h:=by
  obtain ⟨v1,v2,F1,F2,rfl,h1,h2,rfl⟩:=h;intro b hb;simp only [aG] at hb;rcases hb with hb|hb
  ·exact h1.lt EN b hb
  ·exact h2.lt EN b hb
 frame h hF:=EV
def Wf:B8 Cc where
 sz:=6
 L5 w cs x F:=∃v1 v2 F1 F2,cs=[aa x.Aa.Al,aa x.Aa.size,v1,aa x.Ae,aa x.quiet,v2]/\Ow Bc 9 w v1 x.Aa.An F1/\Ow Bx 130 w v2 x.holds F2/\F=F1++F2
 len h:=GZ
 lt h:=by
  obtain ⟨v1,v2,F1,F2,rfl,h1,h2,rfl⟩:=h;intro b hb;simp only [aG] at hb;rcases hb with hb|hb
  ·exact h1.lt b hb
  ·exact h2.lt b hb
 frame h hF:=EV
structure Et where
 Ab:Int
 Bp:al
 Bl:Int
def Eg:B8 Et where
 sz:=3
 L5 w cs x F:=∃v1,cs=[aa x.Ab,v1,aa x.Bl]/\Sl Bi w v1 x.Bp F
 len h:=FY
 lt h:=FX
 frame h hF:=EZ
theorem U3:Zz Eg:=fun h u hu=>by
 obtain ⟨v1,rfl,h1⟩:=h;simp only [aF,aM,bn] at hu;rcases hu with rfl|rfl|rfl
 ·rfl
 ·exact h1.one
 ·rfl
theorem Xp:(prog.info? 132).map (fun i=>(i.zero,i.size,i.bytes))=some (some (.agg #[aa 0,ab none 0 0,aa 0]),3,40):=by kernel_rfl
def Ew:B8 Et where
 sz:=3
 L5 w cs x F:=∃v1,cs=[aa x.Ab,v1,aa x.Bl]/\Ow Bi 3 w v1 x.Bp F
 len h:=FY
 lt h:=JN
 frame h hF:=EZ
theorem Sf:Zz Ew:=fun h u hu=>by
 obtain ⟨v1,rfl,h1⟩:=h;simp only [aF,aM,bn] at hu;rcases hu with rfl|rfl|rfl
 ·rfl
 ·exact h1.one
 ·rfl
theorem P7:Ny Ew Eg:=⟨rfl,fun h=>by
 obtain ⟨v1,rfl,h1⟩:=h;obtain ⟨G1,g1,k1⟩:=h1.sl (Ny.refl _);exact ⟨G1,g1,v1,rfl,k1⟩⟩
structure Bg where
 Ae:Int
 Af:List Et
def B9:B8 Bg where
 sz:=2
 L5 w cs x F:=∃v1,cs=[aa x.Ae,v1]/\Sl Eg w v1 x.Af F
 len h:=FY
 lt h:=FX
 frame h hF:=EZ
theorem Ahs:Zz B9:=fun h u hu=>by
 obtain ⟨v1,rfl,h1⟩:=h;simp only [aF,aM,bn] at hu;rcases hu with rfl|rfl
 ·rfl
 ·exact h1.one
def Ck:B8 Bg where
 sz:=2
 L5 w cs x F:=∃v1,cs=[aa x.Ae,v1]/\Ow Ew 132 w v1 x.Af F
 len h:=FY
 lt h:=JN
 frame h hF:=EZ
theorem U4:Zz Ck:=fun h u hu=>by
 obtain ⟨v1,rfl,h1⟩:=h;simp only [aF,aM,bn] at hu;rcases hu with rfl|rfl
 ·rfl
 ·exact h1.one
theorem Kw:Ny Ck B9:=⟨rfl,fun h=>by
 obtain ⟨v1,rfl,h1⟩:=h;obtain ⟨G1,g1,k1⟩:=h1.sl P7;exact ⟨G1,g1,v1,rfl,k1⟩⟩
structure Hn where
 Vi:Bool
 Ea:am
def C5:B8 Hn where
 sz:=2
 L5 _ cs x F:=cs=[.bool x.Vi,af x.Ea]/\x.Ea.size<=maxLen/\F=[]
 len h:=by obtain ⟨rfl,s1,rfl⟩:=h;rfl
 lt h:=by obtain ⟨rfl,s1,rfl⟩:=h;simp
 frame h _:=h
theorem Id:Zz C5:=fun h u hu=>by
 obtain ⟨rfl,s1,rfl⟩:=h;simp only [aF,aM,bn] at hu;rcases hu with rfl|rfl
 ·rfl
 ·rfl
theorem Hl:Ym C5:=fun h=>by obtain ⟨rfl,s1,rfl⟩:=h;rfl
theorem Ao1:(prog.info? 190).map (fun i=>(i.zero,i.size,i.bytes))=some (some (.agg #[.bool false,af ⟨#[]⟩]),2,24):=by kernel_rfl
structure Ak where
 next:Int
 Am:List Hn
def Bz:B8 Ak where
 sz:=2
 L5 w cs x F:=∃v1,cs=[aa x.next,v1]/\Sl C5 w v1 x.Am F
 len h:=FY
 lt h:=FX
 frame h hF:=EZ
structure Aw where
 Ab:Int
 Dh:Int
 Bl:Int
 Ch:Int
def A9:B8 Aw where
 sz:=4
 L5 _ cs x F:=cs=[aa x.Ab,aa x.Dh,aa x.Bl,aa x.Ch]/\F=[]
 len h:=by obtain ⟨rfl,rfl⟩:=h;rfl
 lt h:=by obtain ⟨rfl,rfl⟩:=h;simp
 frame h _:=h
theorem Dg:Zz A9:=fun h u hu=>by
 obtain ⟨rfl,rfl⟩:=h;simp only [aF,aM,bn] at hu;rcases hu with rfl|rfl|rfl|rfl
 ·rfl
 ·rfl
 ·rfl
 ·rfl
theorem Ee:Ym A9:=fun h=>by obtain ⟨rfl,rfl⟩:=h;rfl
structure Ay where
 A1:Bool
 Ae:Int
 Aa:Ak
 Aj:List Aw
def Cg:B8 Ay where
 sz:=5
 L5 w cs x F:=∃v1 v2 F1 F2,cs=[.bool x.A1,aa x.Ae,aa x.Aa.next,v1,v2]/\Sl C5 w v1 x.Aa.Am F1/\Sl A9 w v2 x.Aj F2/\F=F1++F2
 len h:=GZ
 lt h:=by
  obtain ⟨v1,v2,F1,F2,rfl,h1,h2,rfl⟩:=h;intro b hb;simp only [aG] at hb;rcases hb with hb|hb
  ·exact h1.lt EN b hb
  ·exact h2.lt EN b hb
 frame h hF:=EV
def Ca:B8 Ay where
 sz:=5
 L5 w cs x F:=∃v1 v2 F1 F2,cs=[.bool x.A1,aa x.Ae,aa x.Aa.next,v1,v2]/\Ow C5 190 w v1 x.Aa.Am F1/\Ow A9 161 w v2 x.Aj F2/\F=F1++F2
 len h:=GZ
 lt h:=by
  obtain ⟨v1,v2,F1,F2,rfl,h1,h2,rfl⟩:=h;intro b hb;simp only [aG] at hb;rcases hb with hb|hb
  ·exact h1.lt b hb
  ·exact h2.lt b hb
 frame h hF:=EV
theorem Td:Zz Ca:=fun h u hu=>by
 obtain ⟨v1,v2,F1,F2,rfl,h1,h2,rfl⟩:=h;simp only [aF,aM,bn] at hu;rcases hu with rfl|rfl|rfl|rfl|rfl
 ·rfl
 ·rfl
 ·rfl
 ·exact h1.one
 ·exact h2.one
theorem Tj:Ny Ca Cg:=⟨rfl,fun h=>by
 obtain ⟨v1,v2,F1,F2,rfl,h1,h2,rfl⟩:=h;obtain ⟨G1,g1,k1⟩:=h1.sl (Ny.refl _);obtain ⟨G2,g2,k2⟩:=h2.sl (Ny.refl _);refine ⟨G1++G2,?_,v1,v2,G1,G2,rfl,k1,k2,rfl⟩;intro b hb;simp only [aG] at hb ⊢;rcases hb with hb|hb
 ·simp [g1 b hb]
 ·simp [g2 b hb]⟩
structure Ar where
 Bd:Int
 Ab:Int
 Al:Int
 Cy:Int
 data:am
def Ap:B8 Ar where
 sz:=5
 L5 _ cs x F:=cs=[aa x.Bd,aa x.Ab,aa x.Al,aa x.Cy,af x.data]/\x.data.size<=maxLen/\F=[]
 len h:=by obtain ⟨rfl,s1,rfl⟩:=h;rfl
 lt h:=by obtain ⟨rfl,s1,rfl⟩:=h;simp
 frame h _:=h
theorem Ig:Zz Ap:=fun h u hu=>by
 obtain ⟨rfl,s1,rfl⟩:=h;simp only [aF,aM,bn] at hu;rcases hu with rfl|rfl|rfl|rfl|rfl
 ·rfl
 ·rfl
 ·rfl
 ·rfl
 ·rfl
theorem Kt:Ym Ap:=fun h=>by obtain ⟨rfl,s1,rfl⟩:=h;rfl
end Go.Proofs.YtmckdnddocfodaaGreatDoor
namespace Go.Proofs.YtmckdnddocfodaaGreatDoor

open Go.RowKit
end Go.Proofs.YtmckdnddocfodaaGreatDoor
namespace Go.Proofs.YtmckdnddocfodaaGreatDoor
open Go.RowKit
structure Du where
 Ao:Oc
 Ac:Cc
 Ai:List Bg
 Ah:List Ay
 down:List (List Ar)
 up:List (List Ar)
def Nw:B8 Du where
 sz:=11
 L5 w cs x F:=∃v1 v2 v3 v4 v5 v6 v7 F1 F2 F3 F4 F5 F6 F7,cs=[v1,aa x.Ac.Aa.Al,aa x.Ac.Aa.size,v2,aa x.Ac.Ae,aa x.Ac.quiet,v3,v4,v5,v6,v7]/\Sl Bi w v1 x.Ao.Ad F1/\Sl Bc w v2 x.Ac.Aa.An F2/\Sl Bx w v3 x.Ac.holds F3/\Sl B9 w v4 x.Ai F4/\Sl Cg w v5 x.Ah F5/\Sl (Nr Ap EN) w v6 x.down F6/\Sl (Nr Ap EN) w v7 x.up F7/\F=F1++F2++F3++F4++F5++F6++F7
 len h:=IP
 lt h:=by
  obtain ⟨v1,v2,v3,v4,v5,v6,v7,F1,F2,F3,F4,F5,F6,F7,rfl,h1,h2,h3,h4,h5,h6,h7,rfl⟩:=h;intro b hb;simp only [aG] at hb;rcases hb with (((((hb|hb)|hb)|hb)|hb)|hb)|hb
  ·exact h1.lt EN b hb
  ·exact h2.lt EN b hb
  ·exact h3.lt EN b hb
  ·exact h4.lt EN b hb
  ·exact h5.lt EN b hb
  ·exact h6.lt EN b hb
  ·exact h7.lt EN b hb
 frame h hF:=EX
def Akz:B8 Du where
 sz:=11
 L5 w cs x F:=∃v1 v2 v3 v4 v5 v6 v7 F1 F2 F3 F4 F5 F6 F7,cs=[v1,aa x.Ac.Aa.Al,aa x.Ac.Aa.size,v2,aa x.Ac.Ae,aa x.Ac.quiet,v3,v4,v5,v6,v7]/\Ow Bi 3 w v1 x.Ao.Ad F1/\Ow Bc 9 w v2 x.Ac.Aa.An F2/\Ow Bx 130 w v3 x.Ac.holds F3/\Ow Ck 76 w v4 x.Ai F4/\Ow Ca 83 w v5 x.Ah F5/\Ow (Jo Ap 103) 85 w v6 x.down F6/\Ow (Jo Ap 103) 85 w v7 x.up F7/\F=F1++F2++F3++F4++F5++F6++F7
 len h:=IP
 lt h:=by
  obtain ⟨v1,v2,v3,v4,v5,v6,v7,F1,F2,F3,F4,F5,F6,F7,rfl,h1,h2,h3,h4,h5,h6,h7,rfl⟩:=h;intro b hb;simp only [aG] at hb;rcases hb with (((((hb|hb)|hb)|hb)|hb)|hb)|hb
  ·exact h1.lt b hb
  ·exact h2.lt b hb
  ·exact h3.lt b hb
  ·exact h4.lt b hb
  ·exact h5.lt b hb
  ·exact h6.lt b hb
  ·exact h7.lt b hb
 frame h hF:=EX
theorem Wd:Ny Akz Nw:=⟨rfl,fun h=>by
 obtain ⟨v1,v2,v3,v4,v5,v6,v7,F1,F2,F3,F4,F5,F6,F7,rfl,h1,h2,h3,h4,h5,h6,h7,rfl⟩:=h;obtain ⟨G1,g1,k1⟩:=h1.sl (Ny.refl _);obtain ⟨G2,g2,k2⟩:=h2.sl (Ny.refl _);obtain ⟨G3,g3,k3⟩:=h3.sl (Ny.refl _);obtain ⟨G4,g4,k4⟩:=h4.sl Kw;obtain ⟨G5,g5,k5⟩:=h5.sl Tj;obtain ⟨G6,g6,k6⟩:=h6.sl (So (Ny.refl _) EN _);obtain ⟨G7,g7,k7⟩:=h7.sl (So (Ny.refl _) EN _);refine ⟨G1++G2++G3++G4++G5++G6++G7,?_,v1,v2,v3,v4,v5,v6,v7,G1,G2,G3,G4,G5,G6,G7,rfl,k1,k2,k3,k4,k5,k6,k7,rfl⟩;intro b hb;simp only [aG] at hb ⊢;rcases hb with (((((hb|hb)|hb)|hb)|hb)|hb)|hb
 ·simp [g1 b hb]
 ·simp [g2 b hb]
 ·simp [g3 b hb]
 ·simp [g4 b hb]
 ·simp [g5 b hb]
 ·simp [g6 b hb]
 ·simp [g7 b hb]⟩
-- markNet: a nested struct with several slices is not written here
def Abt (l:al) (i:Nat):Bool:=match l[i]? with
 | some p=>if i=0 then decide (p=-1) else Ht 0 p ((i:Int) - 1)
 | none=>true
def Fc (t:Oc):Bool:=Ht 2 (t.Ad.length:Int) 8 && N9 (Abt t.Ad) t.Ad.length
theorem Pw {l:al} (h:0 < l.length):Abt l 0=decide (l[0]=-1):=by unfold Abt;rw [aB h];rfl
theorem Rt {l:al} {i:Nat} (h:i < l.length) (h0:0 < i):Abt l i=Ht 0 l[i] ((i:Int) - 1):=by
 unfold Abt;rw [aB h];show (if i=0 then _ else _)=_;rw [aq EM]
structure Hf (l:al):Prop where
 n0:2<=l.length
 n1:l.length<=8
 z:∀h:0 < l.length,l[0]=-1
 p:∀i (h:i < l.length),0 < i->0<=l[i]/\l[i] < i
theorem Ev {t:Oc} (h:Fc t=true):Hf t.Ad:=by
 unfold Fc at h;rw [av] at h;obtain ⟨h1,h2⟩:=h;unfold Ht at h1;simp only [av,aC] at h1;refine ⟨EM,EM,fun h=>?_,fun i h h0=>?_⟩
 ·have:=I5 h2 0 h;rw [Pw h] at this;exact bP this
 ·have:=I5 h2 i h;rw [Rt h h0] at this;unfold Ht at this;simp only [av,aC] at this;omega
theorem Aor {t:Oc} (h:Ht 2 (t.Ad.length:Int) 8=false):Fc t=false:=by unfold Fc;rw [h];rfl
theorem Y0 {t:Oc} {i:Nat} (hi:i < t.Ad.length) (h:Abt t.Ad i=false):Fc t=false:=by unfold Fc;rw [Kx hi h,bV]
def I8 (l:al) (node:Int) (k:Nat):al:=((List.range k).filter fun i=>decide (l[i]?=some node)).map fun (i:Nat)=>((i:Nat):Int)
def E7 (l:al) (node:Int):al:=I8 l node l.length
theorem Aln {l:al} {node:Int} {k:Nat} (h:k < l.length) (e:l[k]=node):I8 l node (k+1)=I8 l node k++[(k:Int)]:=by
 unfold I8;rw [dB,bp,bZ];simp [aB h,e]
theorem Ao5 {l:al} {node:Int} {k:Nat} (h:k < l.length) (e:¬l[k]=node):I8 l node (k+1)=I8 l node k:=by
 unfold I8;rw [dB,bp,bZ];simp [aB h,e]
theorem Adn (l:al) (node:Int) (k:Nat):(I8 l node k).length<=k:=by
 unfold I8;rw [cg];exact bi (bA _ _) EO
theorem Ajh {l:al} {node x:Int} (h:x∈E7 l node):∃i,∃hi:i < l.length,x=(i:Int)/\l[i]=node:=by
 unfold E7 I8 at h;obtain ⟨i,hi,rfl⟩:=bU.1 h;obtain ⟨h1,h2⟩:=aO.1 hi;have h3:=bX.1 h1;have h4:=bP h2;rw [aB h3] at h4;exact ⟨i,h3,rfl,Option.some.inj h4⟩
def Br (l:al) (node:Int):Bool:=!decide (node∈l)
theorem Apm (l:al) (node:Int):Br l node=decide (E7 l node=[]):=by
 unfold Br;by_cases h:node∈l
 ·obtain ⟨i,hi,rfl⟩:=aR h;have:(i:Int)∈E7 l l[i]:=by
   unfold E7 I8;exact bU.2 ⟨i,aO.2 ⟨bX.2 hi,by simp [aB hi]⟩,rfl⟩
  rw [au h,ay fun e=>by rw [e] at this;cases this];rfl
 ·have:E7 l node=[]:=eN.2 fun x hx=>by
   obtain ⟨i,hi, -,e⟩:=Ajh hx;exact h (e▸aE hi)
  rw [ay h,au this];rfl
def Sw (l:al) (node:Int) (k:Nat):al:=((List.range k).filter fun i=>decide (l[i+1]?=some node)).map fun (i:Nat)=>((i+1:Nat):Int)
theorem Abl (l:al) (node:Int) (k:Nat):I8 l node (k+1)=I8 l node k++if l[k]?=some node then [(k:Int)] else []:=by
 unfold I8;rw [dB,bp,bZ]
 split <;> simp_all
theorem Xr (l:al) (node:Int) (k:Nat):Sw l node (k+1)=Sw l node k++if l[k+1]?=some node then [((k+1:Nat):Int)] else []:=by
 unfold Sw;rw [dB,bp,bZ]
 split <;> simp_all
theorem Ajg {l:al} {node:Int} (hz:I8 l node 1=[]):∀k,I8 l node (k+1)=Sw l node k
 | 0=>by rw [hz];rfl
 | k+1=>by rw [Abl,Ajg hz k,Xr]
theorem Af2 {l:al} {node:Int} (hz:I8 l node 1=[]) {k:Nat} (hk:k+1=l.length):Sw l node k=E7 l node:=by
 rw [<-Ajg hz];unfold E7;rw [hk]
theorem Ao4 {l:al} {node:Int} {k:Nat} (h:k+1 < l.length) (e:l[k+1]=node):Sw l node (k+1)=Sw l node k++[((k+1:Nat):Int)]:=by
 rw [Xr,aB h,e,ar rfl]
theorem Asg {l:al} {node:Int} {k:Nat} (h:k+1 < l.length) (e:¬l[k+1]=node):Sw l node (k+1)=Sw l node k:=by
 rw [Xr,aB h,aq IZ,aP]
theorem Af3 (l:al) (node:Int) (k:Nat):(Sw l node k).length<=k:=by
 unfold Sw;rw [cg];exact bi (bA _ _) EO
theorem Rq {l:al} {node:Int} (hz:∀h:0 < l.length,l[0]=-1) (h:0<=node):I8 l node 1=[]:=by
 rw [Abl];by_cases h0:0 < l.length
 ·have:=hz h0;rw [aB h0,aq ET];rfl
 ·rw [bf EM];rfl
def Cm (x:Int):Bool:=Ht 0 x 65535
def J9 (x:Int):Bool:=Ht 0 x 9999
def M7 (x:Int):Bool:=Ht 1 x 7
theorem Jf (x:Int) (w:World):Calls prog 92 #[aa x] w fun e w'=>e=.returned (.bool (Cm x))/\w=w':=by
 go_enter func92,ntmps92
 go_wp2_with (go_at_call 19;refine (Jc _ _ _ _).mono ?_;rintro e w' ⟨rfl,rfl⟩)
 go_ret
 exact ⟨rfl,rfl⟩
theorem N3 (x:Int) (w:World):Calls prog 132 #[aa x] w fun e w'=>e=.returned (.bool (Cm x))/\w=w':=by
 go_enter func132,ntmps132
 go_wp2_with (go_at_call 24;refine (Mf _ _ _ _).mono ?_;rintro e w' ⟨rfl,rfl⟩)
 go_ret
 exact ⟨rfl,rfl⟩
theorem Ro (x:Int) (w:World):Calls prog 104 #[aa x] w fun e w'=>e=.returned (.bool (J9 x))/\w=w':=by
 go_enter func104,ntmps104
 go_wp2_with (go_at_call 19;refine (Jc _ _ _ _).mono ?_;rintro e w' ⟨rfl,rfl⟩)
 go_ret
 exact ⟨rfl,rfl⟩
theorem Xt (x:Int) (w:World):Calls prog 131 #[aa x] w fun e w'=>e=.returned (.bool (J9 x))/\w=w':=by
 go_enter func131,ntmps131
 go_wp2_with (go_at_call 24;refine (Mf _ _ _ _).mono ?_;rintro e w' ⟨rfl,rfl⟩)
 go_ret
 exact ⟨rfl,rfl⟩
theorem Tw (x:Int) (w:World):Calls prog 152 #[aa x] w fun e w'=>e=.returned (.bool (M7 x))/\w=w':=by
 go_enter func152,ntmps152
 go_wp2_with (go_at_call 19;refine (Jc _ _ _ _).mono ?_;rintro e w' ⟨rfl,rfl⟩)
 go_ret
 exact ⟨rfl,rfl⟩
def Abv (lo hi:Int) (zs:al) (i:Nat):Bool:=Ht lo (zs.getD i 0) hi && (i == 0 || decide (zs.getD (i - 1) 0 < zs.getD i 0))
def Pz (lo hi:Int) (zs:al):Bool:=N9 (Abv lo hi zs) zs.length
theorem U7 {lo hi:Int} {zs:al} (h:0 < zs.length):Abv lo hi zs 0=Ht lo zs[0] hi:=by simp [Abv,h]
theorem Si {lo hi:Int} {zs:al} {m:Nat} (h:m+1 < zs.length):Abv lo hi zs (m+1)=(Ht lo zs[m+1] hi && decide (zs[m]'EM < zs[m+1])):=by
 simp [Abv,h,show m < zs.length by omega]
theorem Ac7 (v:Value) (zs:al) (F:ak) (w:World) (h:Sl Bi w v zs F) :
  Calls prog 175 #[v] w fun e w'=>e=.returned (.bool (Pz 1 7 zs))/\w=w':=by
 obtain ⟨a,cap,rfl⟩:=h.slice;obtain ⟨-,hl,hc⟩:=h.int;unfold maxLen at hl
 go_enter func175,ntmps175
 go_wp2
 go_loop [3,4,7] (fun _ _ i=>∃k:Nat,k<=zs.length/\i=aa k/\Hid (∀j,j < k->Abv 1 7 zs j=true)) (fun _ _ i=>zs.length - (intOf i).toNat)
 case atStart=>exact ⟨0,aD _,rfl,fun j hj=>by omega⟩
 case round =>
  obtain ⟨k,hk,rfl,hz⟩:=hrel;by_cases hlt:k < zs.length
  ·obtain ⟨b,off,rfl,c0⟩:=hc k hlt;rcases k with _|m
   ·have hr:=Lib.hid (U7 (lo:=1) (hi:=7) hlt);clear hc;simp only [bO] at c0;go_wp2_with (go_at_call 152;refine (Tw _ _).mono ?_;rintro e w' ⟨rfl,rfl⟩)
    ·have t:Ht 1 zs[0] 7=true:=GJ
     exact ⟨⟨1,EM,HX,Ue hz.out (by rw [hr.out,t])⟩,FP⟩
    ·have t:¬Ht 1 zs[0] 7=true:=GJ
     go_ret
     exact ⟨Ds (Kx hlt (by rw [hr.out];simpa using t)).symm,rfl⟩
   ·obtain ⟨b',off',hb',c1⟩:=hc m EM;cases hb';have hr:=Lib.hid (Si (lo:=1) (hi:=7) hlt);clear hc;go_wp2_with (go_at_call 152;refine (Tw _ _).mono ?_;rintro e w' ⟨rfl,rfl⟩)
    ·have t:zs[m+1]<=zs[m]:=GJ
     go_ret
     exact ⟨Ds (Kx hlt (by rw [hr.out];simp;omega)).symm,rfl⟩
    ·have t:Ht 1 zs[m+1] 7=true:=GJ
     have t2:zs[m] < zs[m+1]:=GJ
     exact ⟨⟨m+2,EM,HX,Ue hz.out (by rw [hr.out,t];simp;omega)⟩,FP⟩
    ·have t:¬Ht 1 zs[m+1] 7=true:=GJ
     go_ret
     exact ⟨Ds (Kx hlt (by rw [hr.out];simp [t])).symm,rfl⟩
  ·go_wp2
   go_ret
   exact ⟨Ds (Jr (fun i hi=>hz.out i EM)).symm,rfl⟩
theorem Alq (v:Value) (zs:al) (F:ak) (lo hi:Int) (w:World) (h:Sl Bi w v zs F) :
  Calls prog 216 #[v,aa lo,aa hi] w (RB (.bool (Pz lo hi zs)) w):=by
 obtain ⟨a,cap,rfl⟩:=h.slice;obtain ⟨-,hl, -⟩:=h.int;unfold maxLen at hl
 go_enter func216,ntmps216
 go_wp2
 go_loopw [7] (fun i wr=>∃k:Nat,k<=zs.length/\i=aa k/\Hid (∀j,j < k->Abv lo hi zs j=true)/\Below w.heap.size w wr) (fun i _=>zs.length - (intOf i).toNat)
 case atStart=>exact ⟨0,aD _,rfl,fun j hj=>by omega,Below.refl _ _⟩
 case round =>
  obtain ⟨k,hk,rfl,hz,hB⟩:=hrel;have hc:=(h.below EN hB).int.2.2;by_cases hlt:k < zs.length
  ·obtain ⟨b,off,rfl,c0⟩:=hc k hlt;rcases k with _|m
   ·have hr:=Lib.hid (U7 (lo:=lo) (hi:=hi) hlt);clear hc;simp only [bO] at c0;cases t:Ht lo zs[0] hi
    ·go_wp2_with fail
     go_quiet ((go_at_call 24;exact V9 (Mf _ _ _ _)))
     go_wp2_with fail
     go_ret
     exact ⟨Ds (Kx hlt (by rw [hr.out,t])).symm,Iv hB _⟩
    ·go_wp2_with fail
     go_quiet ((go_at_call 24;exact V9 (Mf _ _ _ _)))
     go_wp2_with fail;exact ⟨⟨1,EM,HX,Ue hz.out (by rw [hr.out,t]),Iv hB _⟩,FP⟩
   ·obtain ⟨b',off',hb',c1⟩:=hc m EM;cases hb';have hr:=Lib.hid (Si (lo:=lo) (hi:=hi) hlt);clear hc;cases t:Ht lo zs[m+1] hi
    ·go_wp2_with fail
     go_quiet ((go_at_call 24;exact V9 (Mf _ _ _ _)))
     go_wp2_with fail
     go_ret
     exact ⟨Ds (Kx hlt (by rw [hr.out,t];rfl)).symm,Iv hB _⟩
    ·by_cases t2:zs[m] < zs[m+1]
     ·go_wp2_with fail
      go_quiet ((go_at_call 24;exact V9 (Mf _ _ _ _)))
      go_wp2_with fail;exact ⟨⟨m+2,EM,HX,Ue hz.out (by rw [hr.out,t];simpa using t2),Iv hB _⟩,FP⟩
     ·have t3:zs[m+1]<=zs[m]:=EM
      go_wp2_with fail
      go_quiet ((go_at_call 24;exact V9 (Mf _ _ _ _)))
      go_wp2_with fail
      go_ret
      exact ⟨Ds (Kx hlt (by rw [hr.out];simp;omega)).symm,Iv hB _⟩
  ·go_wp2
   go_ret
   exact ⟨Ds (Jr (fun i hi=>hz.out i EM)).symm,hB⟩
theorem Alp (v:Value) (zs:al) (F:ak) (w:World) (h:Sl Bi w v zs F) :
  Calls prog 190 #[v] w (RB (.bool (Pz 1 7 zs)) w):=by
 go_enter func190,ntmps190
 go_wp2_with (go_at_call 216;refine (Alq _ zs F _ _ _ h).mono ?_;rintro e w' ⟨rfl,hb1⟩)
 go_ret
 exact ⟨rfl,hb1⟩
theorem L7 (w:World) (g:Nat):∀(c:aj) (w:World) (p:Nat),Nc w g p c=w.setCells g p c
 | [],_,_=>rfl
 | _::r,_,_=>L7 w g r _ _
theorem Mr (z:Array Value) (n:Nat):(Builtin.zeroCells z n).toList.length=n * z.size:=by simp [Builtin.zeroCells]
theorem Afc (z:Array Value) (h:∀u∈z,u.oneCell'=true) (n:Nat):∀u∈(Builtin.zeroCells z n).toList,u.oneCell'=true:=by
 intro u hu;simp only [Builtin.zeroCells,Array.toList_map,bU] at hu;obtain ⟨i,hi,rfl⟩:=hu;simp at hi;have hz:0 < z.size:=Nat.pos_of_ne_zero fun e=>by rw [e,Nat.mul_zero] at hi;omega
 have hm:i % z.size < z.size:=Nat.mod_lt _ hz;rw [getElem!_pos z _ hm];exact h _ (Array.getElem_mem _)
theorem Sj {P:Program} (w:World) (t e ty:TypeId) (z:Value) (ht:P.underlying t=some (.slice e)) (hv:∀w,(zeroValue e).run P w=.ok z w) (h1:∀u∈z.cells,u.oneCell'=true) (b o n c:Nat) (hn:0 < n)
  (hc:∀j,j < n * z.cells.size->(w.cell? ⟨b,o+j,none⟩).isSome=true) (hf:∀j,j < n * z.cells.size->w.frozen? ⟨b,o+j,none⟩=false) :
  (Builtin.clear_ #[t] ty #[ab (some ⟨b,o,none⟩) n c]).run P w=.ok (.tuple #[]) (w.setCells b o (Builtin.zeroCells z.cells n).toList):=by
 have hst:=run_storeCells_cells (P:=P) b o (Builtin.zeroCells z.cells n).toList 0 w (by rw [Mr];simpa using hc) (by rw [Mr];simpa using hf) (Afc _ h1 _);simp only [bO] at hst;obtain ⟨m,rfl⟩:∃m,n=m+1:=⟨n - 1,EM⟩;simp [Builtin.clear_,run_underlying ht,hv,hst]
theorem Vd {P:Program} {e:TypeId} {z:Value} {size bytes:Nat} (h:(P.info? e).map (fun i=>(i.zero,i.size,i.bytes))=some (some z,size,bytes)):∀w,(zeroValue e).run P w=.ok z w:=fun w=>by
 obtain ⟨i,hi,hzz⟩:=co.1 h;simp only [Prod.mk.injEq] at hzz;obtain ⟨hz, -, -⟩:=hzz;simp [zeroValue,typeInfo,hi,hz]
theorem Wi {α:Type} {p:α->Bool} {xs:List α} (h:xs.any p=true):∃k,∃hk:k < xs.length,Qz p xs=k/\p xs[k]=true/\(xs.take k).filter (fun x=>!p x)=xs.take k:=by
 have hk:xs.findIdx p < xs.length:=eC (by obtain ⟨x,hx,hp⟩:=bS.1 h;exact ⟨x,hx,hp⟩);refine ⟨_,hk,by unfold Qz;rw [ar h],fL (w:=hk),?_⟩;rw [dw];intro x hx;obtain ⟨i,hi,rfl⟩:=cu.1 hx;have:=List.not_of_lt_findIdx (p:=p) (xs:=xs) (show i < xs.findIdx p by omega);simpa using this
theorem Yx {α:Type} {p:α->Bool} {xs:List α} (h:¬xs.any p=true):Qz p xs=-1/\xs.filter (fun x=>!p x)=xs:=by
 refine ⟨by unfold Qz;rw [aq h],?_⟩;rw [dw];intro x hx;cases hp:p x
 ·rfl
 ·exact absurd (bS.2 ⟨x,hx,hp⟩) h
theorem Gj {α:Type} {q:α->Bool} {xs:List α} {j:Nat} (h:j < xs.length) (hq:q xs[j]=true):(xs.take (j+1)).filter q=(xs.take j).filter q++[xs[j]]:=by
 rw [aZ h,bp];simp [hq]
theorem Df {α:Type} {q:α->Bool} {xs:List α} {j:Nat} (h:j < xs.length) (hq:q xs[j]=false):(xs.take (j+1)).filter q=(xs.take j).filter q:=by
 rw [aZ h,bp];simp [hq]
theorem Aee {w:World} {g off n:Nat} {c c':aj} (h:c.length=n) (h':c'.length=n) (hc:∀j,j < n->w.cell? ⟨g,off+j,none⟩=c[j]?) (hc':∀j,j < n->w.cell? ⟨g,off+j,none⟩=c'[j]?):c=c':=by
 apply dp;intro j;by_cases hj:j < n
 ·rw [<-hc j hj,hc' j hj]
 ·rw [bf EM,bf EM]
def Gap {α:Type} (O:B8 α) (t:TypeId) (w:World) (g n cap:Nat) (ys:List α) (m:Nat) (zs:List α) (F:ak):Prop :=
 ∃c1 jk c3 rest G1 G3,n=ys.length+m+zs.length/\Jd w g t (c1++jk++c3++rest)/\n<=cap/\cap<=maxLen/\c1.length+jk.length+c3.length+rest.length=cap * O.sz/\jk.length=m * O.sz /\
  C6 O w c1 ys G1/\C6 O w c3 zs G3/\F=g::(G1++G3)/\F.Nodup
section
variable {α:Type} {O:B8 α} {t:TypeId} {w:World} {g n cap m:Nat} {ys zs:List α} {F:ak}
theorem Gap.start {a:ai} {n:Nat} {xs:List α} (h:Ow O t w (ab a n cap) xs F) (hn:F.Nodup) (e:xs=ys++zs) (h0:0 < xs.length):∃g,a=some ⟨g,0,none⟩/\n=xs.length/\Gap O t w g n cap ys 0 zs F:=by
 subst e;rcases h with ⟨_,h1,_⟩|⟨g,cap',cs,rest,G,hv,hr,h3,h4,h5,hf,rfl⟩
 ·rw [h1] at h0;simp at h0
 ·cases hv;obtain ⟨c1,c2,G1,G2,rfl,rfl,f1,f2⟩:=hf.split;refine ⟨g,rfl,rfl,c1,[],c2,rest,G1,G2,EO,FL,h3,h4,by simpa using h5,EO,f1,f2,rfl,hn⟩
theorem Gap.skip {x:α} (h:Gap O t w g n cap ys m (x::zs) F):∃F',Gap O t w g n cap ys (m+1) zs F'/\∀b∈F',b∈F:=by
 obtain ⟨c1,jk,c3,rest,G1,G3,hn,hr,h1,h2,h3,h4,f1,⟨c,c4,Fx,G4,rfl,rfl,hx,f3⟩,rfl,hnd⟩:=h;have hl:=O.len hx;refine ⟨g::(G1++G4),⟨c1,jk++c,c4,rest,G1,G4,by simp at hn ⊢;omega,FL,h1,h2,by simp at h3 ⊢;omega,by rw [aw,h4,hl,cA];simp,f1,f3,rfl,?_⟩,by intro b hb;simp at hb ⊢;rcases hb with hb|hb|hb <;> simp [hb]⟩;simp only [cy,bF,aG,not_or] at hnd ⊢;exact ⟨⟨hnd.1.1,hnd.1.2.2⟩,hnd.2.1,hnd.2.2.1.2.1,fun a ha b hb=>hnd.2.2.2 a ha b (.inr hb)⟩
theorem Gap.first {x:α} (h:Gap O t w g n cap ys m (x::zs) F):∃c Fx,O.L5 w c x Fx/\(∀b∈Fx,b∈F)/\∀j,j < O.sz->w.cell? ⟨g,(ys.length+m) * O.sz+j,none⟩=c[j]?:=by
 obtain ⟨c1,jk,c3,rest,G1,G3,hn,hr,h1,h2,h3,h4,f1,⟨c,c4,Fx,G4,rfl,rfl,hx,f3⟩,rfl,hnd⟩:=h;have hl:=O.len hx;refine ⟨c,Fx,hx,fun b hb=>by simp [hb],fun j hj=>?_⟩;have hr':Jd w g t ((c1++jk)++c++(c4++rest)):=FL
 exact hr'.cellMid (by rw [aw,f1.len,h4,cA]) EM
theorem Gap.move {x:α} (hm:0 < m) (h:Gap O t w g n cap ys m (x::zs) F) :
  (∀j,j < O.sz->(∃u,w.cell? ⟨g,ys.length * O.sz+j,none⟩=some u)/\w.frozen? ⟨g,ys.length * O.sz+j,none⟩=false) /\
  ∃c Fx,O.L5 w c x Fx/\(∀b∈Fx,b∈F)/\(∀j,j < O.sz->w.cell? ⟨g,(ys.length+m) * O.sz+j,none⟩=c[j]?)/\∀w',Below w.heap.size w w'->∃F',Gap O t (Nc w' g (ys.length * O.sz) c) g n cap (ys++[x]) m zs F'/\∀b∈F',b∈F:=by
 obtain ⟨c,Fx,hx0,hxF,hcell⟩:=h.first
 obtain ⟨c1,jk,c3,rest,G1,G3,hn,hr,h1,h2,h3,h4,f1,⟨c',c4,Fx',G4,rfl,rfl,hx,f3⟩,rfl,hnd⟩:=h;have hl:=O.len hx;have hl0:=O.len hx0;obtain ⟨m',rfl⟩:∃m',m=m'+1:=⟨m - 1,EM⟩;have hjk:jk=jk.take O.sz++jk.drop O.sz:=EO
 have hjl:(jk.take O.sz).length=O.sz:=by rw [aL,h4,cA];omega
 have hA:=f1.len;have hr':Jd w g t (c1++jk.take O.sz++(jk.drop O.sz++c'++c4++rest)):=by
  have e:c1++jk.take O.sz++(jk.drop O.sz++c'++c4++rest)=c1++jk++(c'++c4)++rest:=by
   simp only [aJ];rw [<-aJ (jk.take O.sz),bm]
  rw [e];exact hr
 have hcc:c=c':=by
  apply dp ;intro j;by_cases hj:j < O.sz
  ·have hr2:Jd w g t ((c1++jk)++c'++(c4++rest)):=FL
   rw [<-hcell j hj,hr2.cellMid (by rw [aw,hA,h4,<-cA]) EM]
  ·rw [bf EM,bf EM]
 refine ⟨fun j hj=>⟨⟨_,by rw [hr'.cellMid (j:=j) EM EM,aB EM]⟩,hr'.frozen _⟩,c,Fx',hcc▸hx,fun b hb=>by simp [hb],hcell,fun w' hb=>?_⟩;subst hcc;have hgl:=hr.lt;have hnd':=hnd;simp only [cy,bF,aG,not_or] at hnd';have hrow:=(hr'.below hb).put c (jk.take O.sz) (p:=ys.length * O.sz) hA.symm EM;have hfr:∀b,b < w.heap.size->b≠g->(Nc w' g (ys.length * O.sz) c).heap[b]?=w.heap[b]?:=fun b hb1 hb2=>(Nd c w' _ b hb2).trans (hb.block b hb1);have n1:∀b∈G1,b≠g:=fun b hb e=>hnd'.1.1 (e▸hb)
 have n2:∀b∈Fx',b≠g:=fun b hb e=>hnd'.1.2.1 (e▸hb);have n3:∀b∈G4,b≠g:=fun b hb e=>hnd'.1.2.2 (e▸hb);refine ⟨g::((G1++Fx')++G4),⟨c1++c,jk.drop O.sz++c,c4,rest,G1++Fx',G4,by simp at hn ⊢;omega,?_,h1,h2,?_,?_,?_,f3.frame fun b hb=>hfr b (f3.lt b hb) (n3 b hb),rfl,?_⟩,by intro b hb;simpa [or_assoc] using hb⟩
 ·simpa using hrow
 ·simp [h4,cA] at h3 ⊢;omega
 ·simp [h4,cA];omega
 ·exact (f1.frame fun b hb=>hfr b (f1.lt b hb) (n1 b hb)).append (C6.one (O.frame hx fun b hb=>hfr b (O.lt hx b hb) (n2 b hb)))
 ·simpa using hnd
theorem Gap.below {w':World} (h:Gap O t w g n cap ys m zs F) (hb:Below w.heap.size w w'):Gap O t w' g n cap ys m zs F:=by
 obtain ⟨c1,jk,c3,rest,G1,G3,hn,hr,h1,h2,h3,h4,f1,f3,hF,hnd⟩:=h;exact ⟨c1,jk,c3,rest,G1,G3,hn,hr.below hb,h1,h2,h3,h4,f1.frame fun b h=>hb.block b (f1.lt b h),f3.frame fun b h=>hb.block b (f3.lt b h),hF,hnd⟩
theorem Gap.caps (h:Gap O t w g n cap ys m zs F):n=ys.length+m+zs.length/\n<=cap/\cap<=maxLen/\g < w.heap.size/\g∈F/\F.Nodup:=by
 obtain ⟨c1,jk,c3,rest,G1,G3,hn,hr,h1,h2,h3,h4,f1,f3,rfl,hnd⟩:=h;exact ⟨hn,h1,h2,hr.lt,EO,hnd⟩
theorem Gap.done {z:Array Value} (hz:z.size=O.sz) (h:Gap O t w g n cap ys m [] F) :
  (∀j,j < m * O.sz->(w.cell? ⟨g,ys.length * O.sz+j,none⟩).isSome=true/\w.frozen? ⟨g,ys.length * O.sz+j,none⟩=false) /\
  ∃F',Ow O t (w.setCells g (ys.length * O.sz) (Builtin.zeroCells z m).toList) (ab (some ⟨g,0,none⟩) ys.length cap) ys F'/\F'.Nodup/\∀b∈F',b∈F:=by
 obtain ⟨c1,jk,c3,rest,G1,G3,hn,hr,h1,h2,h3,h4,f1,⟨rfl,rfl⟩,rfl,hnd⟩:=h;have hA:=f1.len;simp only [aP] at hr hnd;have hr':Jd w g t (c1++jk++rest):=hr;refine ⟨fun j hj=>⟨?_,hr'.frozen _⟩,g::G1,?_,hnd,EO⟩
 ·rw [hr'.cellMid (j:=j) EM EM,aB EM];rfl
 ·rw [<-L7 w];have hrow:=hr'.put (Builtin.zeroCells z m).toList jk (p:=ys.length * O.sz) hA.symm (by rw [Mr,h4,hz]);have hng:g ∉ G1:=by simp at hnd;exact hnd.1
  refine .inr ⟨g,cap,c1,(Builtin.zeroCells z m).toList++rest,G1,rfl,by simpa using hrow,by simp at hn;omega,h2,?_,f1.frame fun b hb=>Nd _ _ _ _ fun e=>hng (e▸hb),rfl⟩;rw [aw,Mr,hz,<-h4];simp at h3;omega
end
theorem Qy (fid:FuncId) (hbd:Wu prog fid) (caps:Array Value) (v:Value) (xs:List Et) (F:ak) (p:Et->Bool) (w:World) (h:Sl Eg w v xs F)
  (hp:∀(k:Nat) (hk:k < xs.length) (wr:World) (u:Value) (G:ak),Below w.heap.size w wr->Vf Eg wr u xs[k] G->Calls prog fid (#[u]++caps) wr fun e w'=>e=.returned (.bool (p xs[k]))/\Below wr.heap.size wr w') :
  Calls prog 182 #[v,.func (.func fid) #[] caps] w (RB (aa (Qz p xs)) w):=by
 obtain ⟨a,cap,rfl⟩:=h.slice;have hl:=h.len;unfold maxLen at hl
 go_enter func182,ntmps182
 go_wp2
 go_loopw [5,8] (fun _ i wr=>∃k:Nat,k<=xs.length/\i=aa k/\Hid (∀j,j < k->∀hj:j < xs.length,p xs[j]=false)/\Below w.heap.size w wr) (fun _ i _=>xs.length - (intOf i).toNat)
 case atStart=>exact ⟨0,aD _,rfl,fun j hj=>by omega,Below.refl _ _⟩
 case round =>
  obtain ⟨k,hk,rfl,hz,hB⟩:=hrel;by_cases hlt:k < xs.length
  ·have hz0:=hz;clear hz;obtain ⟨b,off,_,F1,rfl,hx, -,ja⟩:=(h.below EN hB).at k hlt;obtain ⟨v1,rfl,h1⟩:=id hx;have a0:=ja 0 EN;have a1:=ja 1 EN;have a2:=ja 2 EN;simp only [show Eg.sz=3 from rfl,cR,bO,bH,bE] at a0 a1 a2;clear ja;have hr:=hp k hlt wr _ F1 hB ⟨_,rfl,hx⟩;have hp:=Lib.hid hp;cases hpk:p xs[k]
   all_goals
    rw [hpk] at hr;have hpk:=Lib.hid hpk;have hr:=Lib.hid hr;go_wp2_with fail;refine hbd.upon hr.out ?_;rintro e w1 ⟨rfl,hb1⟩;refine ⟨_,rfl,?_⟩;have hB:=tr hB hb1 (aA _);clear hb1;go_wp2_with fail
   ·exact AS
   ·go_ret
    exact DY
  ·go_wp2
   go_ret
   exact CT
theorem Xh (fid:FuncId) (hbd:Wu prog fid) (caps:Array Value) (v:Value) (xs:List Et) (F:ak) (p:Et->Bool) (w:World) (h:Sl Eg w v xs F)
  (hp:∀(k:Nat) (hk:k < xs.length) (wr:World) (u:Value) (G:ak),Below w.heap.size w wr->Vf Eg wr u xs[k] G->Calls prog fid (#[u]++caps) wr fun e w'=>e=.returned (.bool (p xs[k]))/\Below wr.heap.size wr w') :
  Calls prog 176 #[v,.func (.func fid) #[] caps] w (RB (.bool (xs.any p)) w):=by
 have hp:=Lib.hid hp
 go_enter func176,ntmps176
 go_wp2_with fail;refine (Qy fid hbd caps v xs F p _ h hp.out).mono ?_;rintro e w1 ⟨rfl,hb1⟩;go_wp2_with fail
 go_ret
 exact ⟨Ds (R8 p xs),hb1⟩
theorem Aif (v:Value) (xs:List Et) (F:ak) (w:World) (h:Sl Eg w v xs F) (hm:xs.length<=4294967296) :
  Calls prog 117 #[v] w fun e w'=>∃v' F',e=.returned v'/\Ow Eg 132 w' v' xs F'/\Hd F'/\(∀b,v'.ownBlock=some b->w.heap.size<=b)/\(∀b∈F',v'.ownBlock=some b\/b∈F)/\Below w.heap.size w w':=by
 obtain ⟨ao,c,news,Fy,rfl,hl,hfy,hFy,hsrc⟩:=h.src;have hFl:=hfy.lt;have he:=fun w (a:ai) (n c:Nat)=>Lib.run_eql_slice_nil (P:=prog) w 74 _ a n c 0 0 underlying74
 go_enter func117,ntmps117
 rcases hsrc with ⟨rfl,rfl,rfl⟩|⟨ad,rfl,hn⟩
 ·go_wp2
  go_ret
  exact ⟨ab none 0 0,[],rfl,.inl ⟨rfl,rfl,rfl⟩,Hd.nil,(fun b e=>by simp [Value.ownBlock] at e),EO,Below.refl _ _⟩
 ·go_wp2_with (at_builtin;refine P8 U3 EN FC _ _ _ FC 132 (.agg #[aa 0,ab none 0 0,aa 0]) 40 underlying74 Xp rfl (ab (some ⟨w.heap.size,0,none⟩) 0 0) [] [w.heap.size] FC (Ow.empty (Jd.made _ _ _)) (Hd.one _) (some ad) xs c FC news Fy (hfy.frame fun b hb=>Below.heap_alloc _ _ _ (hFl b hb)) (.inr ⟨ad,rfl,fun j u hu=>kc ((Below.refl _ _).alloc (aA _) _) (hn j u hu)⟩) (fun b hb e=>by have:=hFl b hb;simp [Value.ownBlock] at e;omega) FQ GA ?_);intro v2 w2 F2 hA;go_wp2_with fail
  go_ret
  have hB:Below w.heap.size w w2:=((Below.refl _ _).alloc (aA _) _).trans (hA.Nu.below EO EO);have hs:∀b,v2.ownBlock=some b->w.heap.size<=b:=fun b hb=>by rcases hA.Al3 with e|e <;> rw [e] at hb <;> simp [Value.ownBlock] at hb <;> omega
  refine ⟨v2,F2,rfl,HY,hA.hd,hs,fun b hb=>?_,hB⟩;rw [hA.Bb5 [] (by simp [Value.ownBlock])] at hb;simp at hb;rcases hb with hb|hb
  ·exact .inl hb
  ·exact .inr (hFy b hb)
theorem Zw (fid:FuncId) (hbd:Wu prog fid) (caps:Array Value) (v:Value) (xs:List Et) (F:ak) (p:Et->Bool) (w:World) (h:Ow Ew 132 w v xs F) (hn:F.Nodup)
  (hp:∀(k:Nat) (hk:k < xs.length) (wr:World) (u:Value) (G:ak),Gc F w wr->Vf Eg wr u xs[k] G->Calls prog fid (#[u]++caps) wr fun e w'=>e=.returned (.bool (p xs[k]))/\Below wr.heap.size wr w') :
  Calls prog 124 #[v,.func (.func fid) #[] caps] w fun e w'=>∃v' F',e=.returned v'/\Ow Ew 132 w' v' (xs.filter fun x=>!p x) F'/\F'.Nodup/\(∀b∈F',b∈F)/\Gc F w w':=by
 obtain ⟨F1,hF1,hs⟩:=h.sl P7;obtain ⟨a,cap,rfl⟩:=h.slice;have hl:=h.len;unfold maxLen at hl;have hp:=Lib.hid hp
 go_enter func124,ntmps124
 go_wp2_with fail;refine (Qy fid hbd caps _ xs F1 p _ hs (fun k hk wr u G hb hu=>hp.out k hk wr u G (Gc.ofBelow hb) hu)).mono ?_;rintro e w1 ⟨rfl,hb1⟩;have hK1:=Gc.ofBelow (F:=F) hb1;by_cases hany:xs.any p=true
 ·obtain ⟨k0,hk0,hfx,hpk,hfl⟩:=Wi hany;rw [hfx];obtain ⟨g,rfl, -,hg0⟩:=Gap.start (h.below hb1) hn (ys:=xs.take k0) (zs:=xs[k0]::xs.drop (k0+1)) EO EM;obtain ⟨F0,hg0,hF0⟩:=hg0.skip;have hG0:=Lib.hid hg0;clear hg0;have hk1:((k0:Int) == -1)=false:=EO
  go_wp2_with fail
  go_loopw [5,6,7] (fun i j _ wr=>∃(q m:Nat) (F1:ak),q<=xs.length/\0 < m/\((xs.take q).filter fun x=>!p x).length+m=q/\i=aa ((xs.take q).filter fun x=>!p x).length/\j=aa q/\Hid (Gap Ew 132 wr g xs.length cap ((xs.take q).filter fun x=>!p x) m (xs.drop q) F1)/\(∀b∈F1,b∈F)/\Gc F w wr) (fun _ j _ _=>xs.length - (intOf j).toNat)
  case atStart=>exact ⟨k0+1,1,F0,hk0,EM,GT,GT,HX,by rw [Df hk0 JJ,hfl];exact hG0,hF0,hK1⟩
  case round =>
   obtain ⟨q,m,F1,hq,hm,hlen,rfl,rfl,hG,hF1,hK⟩:=hrel;obtain ⟨-,hcap, -⟩:=hG.out.caps;generalize hys:((xs.take q).filter fun x=>!p x)=ys at *;by_cases hlt:q < xs.length
   ·rw [bN hlt] at hG;obtain ⟨c,Fx,hx,hFx,hcell⟩:=hG.out.first
    obtain ⟨Fx2, -,hxe⟩:=P7.L5 hx;obtain ⟨v1,rfl,h1⟩:=id hx;obtain ⟨d1,p1,rfl⟩:=h1.slice;have a0:=hcell 0 EN;have a1:=hcell 1 EN;have a2:=hcell 2 EN;simp only [hlen,show Ew.sz=3 from rfl,cR,bO,bH,bE] at a0 a1 a2;have hr:=fun A=>hp.out q hlt (wr.alloc A) _ Fx2 (hK.alloc A) ⟨_,rfl,Eg.below hxe ((Below.refl wr.heap.size wr).alloc (aA _) A)⟩;cases hpq:p xs[q]
    ·obtain ⟨st,c2,Fx3,hx3, -,hcell2,back⟩:=hG.out.move hm;simp only [hpq] at hr;obtain rfl:=Aee (Ew.len hx) (Ew.len hx3) hcell hcell2;have st:=st;obtain ⟨⟨x0,z0⟩,g0⟩:=st 0 EN;obtain ⟨⟨x1,z1⟩,g1⟩:=st 1 EN;obtain ⟨⟨x2,z2⟩,g2⟩:=st 2 EN;simp only [show Ew.sz=3 from rfl,cR,bO] at z0 g0 z1 g1 z2 g2;have hr:=Lib.hid hr;have hbk:=Lib.hid back;have hpq:=Lib.hid hpq;have hys:=Lib.hid hys;have hlen:=Lib.hid hlen;have hyl:ys.length < xs.length:=by have:=hlen.out;omega
     clear hx hxe hcell hcell2 hx3 back st hfx hpk hfl;go_wp2_with fail;refine hbd.upon (hr.out _) ?_;rintro e w2 ⟨rfl,hb2⟩;refine ⟨_,rfl,?_⟩;have b2:=(Jd.below (g:=wr.heap.size) (t:=132) (cs:=[aa xs[q].Ab,.slice d1 xs[q].Bp.length p1,aa xs[q].Bl]) (by simp [Lx]) hb2).cells;have hbb:=tr ((Below.refl wr.heap.size wr).alloc (aA _) _) hb2 (aA _);clear hb2;have g0:=(kf hbb z0).trans g0;have z0:=kc hbb z0;have g1:=(kf hbb z1).trans g1;have z1:=kc hbb z1;have g2:=(kf hbb z2).trans g2;have z2:=kc hbb z2;obtain ⟨F2,hg2,hF2⟩:=hbk.out w2 hbb
     simp only [Nc,show Ew.sz=3 from rfl,cR] at hg2;have hg2:=Lib.hid hg2;have hgF:g∈F:=hF1 g hG.out.caps.2.2.2.2.1;go_wp2_with fail;exact ⟨⟨q+1,m,F2,EM,hm,JK,by rw [Gj hlt IE,hys.out,aw];go_num,HX,by rw [Gj hlt IE,hys.out];exact hg2.out,fun b hb=>hF1 b (hF2 b hb),JF⟩,FP⟩
    ·obtain ⟨F2,hg2,hF2⟩:=hG.out.skip;simp only [hpq] at hr;have hr:=Lib.hid hr;have hg2:=Lib.hid hg2;have hpq:=Lib.hid hpq;have hys:=Lib.hid hys;have hlen:=Lib.hid hlen;clear hx hxe hcell hfx hpk hfl;go_wp2_with fail;refine hbd.upon (hr.out _) ?_;rintro e w2 ⟨rfl,hb2⟩;refine ⟨_,rfl,?_⟩;have hbb:=tr ((Below.refl wr.heap.size wr).alloc (aA _) _) hb2 (aA _);clear hb2;go_wp2_with fail
     exact BI
   ·have hqe:q=xs.length:=EM
    subst hqe;simp only [fw,bG] at hG hys;obtain ⟨hc,F2,ho2,hn2,hF2⟩:=hG.out.done (z:=#[aa 0,ab none 0 0,aa 0]) rfl;have hmm:xs.length - ys.length=m:=EM
    have hcl:=fun ty=>Sj (P:=prog) wr 74 132 ty (.agg #[aa 0,ab none 0 0,aa 0]) underlying74 (Vd Xp) (by simp [Value.cells,Value.oneCell']) g (ys.length * 3) m (cap - ys.length) hm (fun j hj=>(hc j hj).1) (fun j hj=>(hc j hj).2);have hyl:ys.length < xs.length:=EM
    have hgF:g∈F:=hF1 g hG.out.caps.2.2.2.2.1;have hO:=Lib.hid ho2;have hlen:=Lib.hid hlen;have hys:=Lib.hid hys;clear ho2 hc hfx hpk hfl;go_wp2_with fail
    go_ret
    exact CO
 ·obtain ⟨hfx,hfl⟩:=Yx hany;rw [hfx];go_wp2_with fail
  go_ret
  exact ⟨_,F,rfl,by rw [hfl];exact h.below hb1,hn,fun b hb=>hb,hK1⟩
section
variable {P:Program} {ops:Array Oper} {Q:Exit->Act->World->Prop} {md:Region.Mode} {S:World->Prop} {X:Nat->Bool}
def I4 (P:Program) (md:Region.Mode) (ops:Array Oper) (Q:Exit->Act->World->Prop) (S:World->Prop) (X:Nat->Bool):Nat->Array Bool->Act->World->Prop
 | 0,listed,a,w=>Region.ready md ops listed=[]/\Q .normal a w
 | f+1,listed,a,w=>(Region.ready md ops listed=[]->Q .normal a w) /\
  ∀i∈Region.ready md ops listed,wpOp P ops Q i (fun a' w'=>(X i=false->S w')/\I4 P md ops Q S X f (listed.setIfInBounds i true) a' w') a w
theorem I4.any:∀(f:Nat) (listed:Array Bool) (a:Act) (w:World),I4 P md ops Q S X f listed a w->wpAny P md ops Q f listed a w
 | 0,_,_,_,h=>h
 | f+1,_,_,_,h=>⟨h.1,fun i hi=>wpOp_mono (fun a' w' h'=>I4.any f _ a' w' h'.2) (h.2 i hi)⟩
def Xg (md:Region.Mode) (ops:Array Oper) (listed:Array Bool):Prop:=∀j oj,ops[j]?=some oj->listed.getD j false=true->∀e∈oj.after,Region.binds md e=true->listed.getD e.on false=true
def Me (md:Region.Mode) (ops:Array Oper) (listed:Array Bool):Bool :=
 (List.range ops.size).all fun j=>!listed.getD j false || ((ops[j]?).map fun o=>o.after.all fun e=>!Region.binds md e || listed.getD e.on false).getD true
theorem Aff {listed:Array Bool} (h:Me md ops listed=true):Xg md ops listed:=fun j oj hj hl e he hb=>by
 have h1:=aQ.1 h j (bX.2 (dm.1 hj).1);rw [hl,hj] at h1;simp only [Bool.not_true,eu,cj,Option.getD_some] at h1;have h2:=Array.all_eq_true'.1 h1 e he;rw [hb] at h2;simpa using h2
theorem Xg.set {listed:Array Bool} {i:Nat} (h:Xg md ops listed) (hi:i∈Region.ready md ops listed):Xg md ops (listed.setIfInBounds i true):=fun j oj hj hl e he hb=>by
 obtain ⟨_,oi,hoi,hall⟩:=mem_ready.1 hi;by_cases hij:i=j
 ·subst hij;obtain rfl:=Option.some.inj (hj.symm.trans hoi);exact getD_set_true (hall e he hb)
 ·rw [getD_set_ne false hij] at hl;exact getD_set_true (h j oj hj hl e he hb)
def Ru (md:Region.Mode) (ops:Array Oper) (i:Nat):Nat->Nat->Bool
 | 0,_=>false
 | f+1,j=>((ops[j]?).map fun o=>o.after.any fun e=>Region.binds md e && (e.on == i || Ru md ops i f e.on)).getD false
theorem Vc {listed:Array Bool} {i:Nat} (hc:Xg md ops listed):∀(f j:Nat),(∀oj,ops[j]?=some oj->∀e∈oj.after,Region.binds md e=true->listed.getD e.on false=true)->Ru md ops i f j=true->listed.getD i false=true
 | 0,_,_,h=>by cases h
 | f+1,j,hd,h=>by
  unfold Ru at h;cases hj:ops[j]? with
  | none=>rw [hj] at h;cases h
  | some o =>
   rw [hj] at h;simp only [cj,Option.getD_some] at h;obtain ⟨e,he,hb⟩:=Array.any_eq_true'.1 h;simp only [av,bJ,beq_iff_eq] at hb;have h1:=hd o hj e he hb.1;rcases hb.2 with h2|h2
   ·rw [<-h2];exact h1
   ·exact Vc hc f e.on (fun oe ho=>hc e.on oe ho h1) h2
def Ku (md:Region.Mode) (ops:Array Oper) (X:Nat->Bool) (i:Nat):Bool:=(List.range ops.size).all fun j=>!X j || Ru md ops i ops.size j
theorem Wc {listed:Array Bool} {i:Nat} (h:listed.getD i true=false):listed.getD i false=false:=by
 rcases cw i listed.size with h'|h'
 ·simp [h'] at h ⊢;exact h
 ·simp [ed h'] at h
theorem I4.first {i:Nat} {oi:Oper} {v:Value} (hi:ops[i]?=some oi) (hsel:∀(j:Nat) (o:Oper) cs b,ops[j]?=some o->o.op≠.select cs b)
  (hQ:∀c a w,Q (.panic c) (a.put oi.dst v) w->Q (.panic c) a w) (hX:Ku md ops X i=true) :
  ∀(f:Nat) (listed:Array Bool) (a:Act) (w:World),
   (∀j oj,ops[j]?=some oj->j≠i->listed.getD j true=false->(∀e∈oj.after,Region.binds md e=true->e.on≠i)->oi.apart ops oj=true) ->
   Xg md ops listed->i∈Region.ready md ops listed->YieldsIf P ops S oi v a->S w->I4 P md ops Q S X f (listed.setIfInBounds i true) (a.put oi.dst v) w->I4 P md ops Q S X (f+1) listed a w:=by
 intro f
 induction f with
 | zero =>
  intro listed a w _ _ hr hy hS H;refine ⟨fun h=>GY,fun j hj=>?_⟩;by_cases hji:j=i
  ·exact DV
  ·have:=ready_mono hj hji;rw [H.1] at this;cases this
 | succ f ih =>
  intro listed a w hfree hcl hr hy hS H;refine ⟨fun h=>GY,fun j hj=>?_⟩;by_cases hji:j=i
  ·exact DV
  ·obtain ⟨hju,oj,hoj,hall⟩:=mem_ready.1 hj;have hiu:=Wc (mem_ready.1 hr).1;have hnot:∀e∈oj.after,Region.binds md e=true->e.on≠i:=fun e he hb heq=>by
    have h1:=hall e he hb;rw [heq,hiu] at h1;cases h1
   have hXj:X j=false:=by
    cases hx:X j
    ·rfl
    ·have h1:=aQ.1 hX j (bX.2 (dm.1 hoj).1);rw [hx] at h1;have h2:=Vc hcl ops.size j (fun o ho=>by obtain rfl:=Option.some.inj (ho.symm.trans hoj);exact hall) GU;rw [hiu] at h2;cases h2
   have h2:=wpOp_putIf hoj (hfree j oj hoj hji hju hnot) (fun cs b=>hsel i oi cs b hi) (fun cs b=>hsel j oj cs b hoj) hQ hy (H.2 j (ready_mono hj hji));refine wpOp_mono (fun a' w' h3=>⟨fun _=>h3.2.1 hXj,ih (listed.setIfInBounds j true) a' w' (fun k ok hk hki hun hno=>hfree k ok hk hki ?_ hno) (hcl.set hj) (ready_mono hr (Ne.symm hji)) h3.1 (h3.2.1 hXj) ?_⟩) h2
   ·by_cases hjk:j=k
    ·subst hjk;exact hju
    ·rw [getD_set_ne true hjk] at hun;exact hun
   ·rw [dV _ _ hji];exact h3.2.2
theorem I4.take {i:Nat} {oi:Oper} {v:Value} {f:Nat} {listed:Array Bool} {a:Act} {w:World} (hi:ops[i]?=some oi)
  (hs:Region.noSelect ops=true) (hf:Region.free md ops listed i=true) (hr:(Region.ready md ops listed).contains i=true) (hX:Ku md ops X i=true) (hc:Me md ops listed=true)
  (hQ:∀c a w,Q (.panic c) (a.put oi.dst v) w->Q (.panic c) a w) (hy:YieldsIf P ops S oi v a) (hS:S w)
  (h:I4 P md ops Q S X f (listed.setIfInBounds i true) (a.put oi.dst v) w):I4 P md ops Q S X (f+1) listed a w :=
 I4.first hi (Region.noSelect_spec hs) hQ hX f listed a w (Region.free_spec hi hf) (Aff hc) FL hy hS h
theorem I4.only {i:Nat} {o:Oper} {f:Nat} {listed:Array Bool} {a:Act} {w:World} (hr:Region.ready md ops listed=[i]) (ho:ops[i]?=some o)
  (h:∀K':Act->World->Prop,Shut (∀a w,(X i=false->S w)->I4 P md ops Q S X f (listed.setIfInBounds i true) a w->K' a w)->if Region.wanted o (yielded ops a.tmps)=true then Oper.wp P o a w K' Q else K' (a.put o.dst undef) w) :
  I4 P md ops Q S X (f+1) listed a w :=
 by
 refine ⟨fun h0=>(by rw [hr] at h0;cases h0),fun j hj=>?_⟩;rw [hr] at hj;obtain rfl:j=i:=HO
 exact wpOp_step ho (fun K' hK=>h K' (fun a w hS hW=>hK a w ⟨hS,hW⟩))
theorem I4.two {i j:Nat} {oi oj:Oper} {f:Nat} {listed:Array Bool} {a:Act} {w:World} (hr:Region.ready md ops listed=[i,j]) (hoi:ops[i]?=some oi) (hoj:ops[j]?=some oj)
  (h:∀K':Act->World->Prop,Shut (∀a w,(X i=false->S w)->I4 P md ops Q S X f (listed.setIfInBounds i true) a w->K' a w)->if Region.wanted oi (yielded ops a.tmps)=true then Oper.wp P oi a w K' Q else K' (a.put oi.dst undef) w)
  (h2:∀K':Act->World->Prop,Shut (∀a w,(X j=false->S w)->I4 P md ops Q S X f (listed.setIfInBounds j true) a w->K' a w)->if Region.wanted oj (yielded ops a.tmps)=true then Oper.wp P oj a w K' Q else K' (a.put oj.dst undef) w) :
  I4 P md ops Q S X (f+1) listed a w:=by
 refine ⟨fun h0=>(by rw [hr] at h0;cases h0),fun k hk=>?_⟩;rw [hr] at hk;simp only [aF,aM,bn] at hk;rcases hk with rfl|rfl
 ·exact wpOp_step hoi (fun K' hK=>h K' (fun a w hS hW=>hK a w ⟨hS,hW⟩))
 ·exact wpOp_step hoj (fun K' hK=>h2 K' (fun a w hS hW=>hK a w ⟨hS,hW⟩))
theorem I4.done {listed:Array Bool} {a:Act} {w:World} (hr:Region.ready md ops listed=[]) (h:Q .normal a w):∀f,I4 P md ops Q S X f listed a w
 | 0=>⟨hr,h⟩
 | _+1=>⟨fun _=>h,by rw [hr];simp⟩
theorem I4.start {id:Nat} {a:Act} {w:World} (hm:P.follows .mixedOrders=true) (h:I4 P .any ops Q S X ops.size (Array.replicate ops.size false) a w.drew):(Code.region id ops true).wp P Q a w :=
 wp_region_any hm (I4.any _ _ _ _ h)
end
theorem Oe {a b:aj} (h:Value.agg a.toArray=.agg b.toArray):a=b:=by simpa using h
inductive Pc:Type 1
 | row (g:Nat) (t:TypeId) (o:Nat) (A cs B:List Value)
 | sl {α:Type} (E:B8 α) (v:Value) (xs:List α) (F:List Nat)
 | ow {α:Type} (E:B8 α) (t:TypeId) (v:Value) (xs:List α) (F:List Nat)
 | isv {α:Type} (E:B8 α) (v:Value) (x:α) (F:List Nat)
 | Mw {α:Type} (E:B8 α) (v:Value) (x:α) (F:List Nat)
 | cel (b o:Nat) (cs:List Value)
 | flat {α:Type} (E:B8 α) (cs:List Value) (xs:List α) (F:List Nat)
def Pc.P:Pc->World->Prop
 | .row g t o A cs B,w=>A.length=o/\Jd w g t (A++cs++B)
 | .sl E v xs F,w=>0 < E.sz/\Sl E w v xs F
 | .ow E t v xs F,w=>F.Nodup/\Ow E t w v xs F
 | .isv E v x F,w=>Vf E w v x F
 | .Mw E v x F,w=>F.Nodup/\Vf E w v x F
 | .cel b o cs,w=>cs≠[]/\w.rangeAt b o cs
 | .flat E cs xs F,w=>F.Nodup/\C6 E w cs xs F
def Pc.F:Pc->ak
 | .row g ..=>[g]
 | .sl _ _ _ F|.ow _ _ _ _ F|.isv _ _ _ F|.Mw _ _ _ F|.flat _ _ _ F=>F
 | .cel b ..=>[b]
def Pc.mu:Pc->Bool
 | .row .. | .ow .. | .Mw .. | .flat ..=>true
 | _=>false
theorem Pc.st (p:Pc) {w w':World} (h:p.P w) (hF:∀b∈p.F,w'.heap[b]?=w.heap[b]?):p.P w':=by
 cases p with
 | row g t o A cs B=>exact ⟨h.1,h.2.Nu (hF g IL)⟩
 | sl E v xs F=>exact ⟨h.1,h.2.frame hF⟩
 | ow E t v xs F=>exact ⟨h.1,h.2.frame hF⟩
 | isv E v x F=>obtain ⟨cs,hv,h⟩:=h;exact ⟨cs,hv,E.frame h hF⟩
 | Mw E v x F=>obtain ⟨hn,cs,hv,h⟩:=h;exact ⟨hn,cs,hv,E.frame h hF⟩
 | cel b o cs=>exact ⟨h.1,fun j v hv=>(World.cell?_of_block (w:=w) (hF b IL)).trans (h.2 j v hv)⟩
 | flat E cs xs F=>exact ⟨h.1,h.2.frame hF⟩
theorem Pc.lt (p:Pc) {w:World} (h:p.P w):∀b∈p.F,b < w.heap.size:=by
 cases p with
 | row g t o A cs B=>intro b hb;simp [Pc.F] at hb;subst hb;exact h.2.lt
 | sl E v xs F=>exact h.2.lt h.1
 | ow E t v xs F=>exact h.2.lt
 | isv E v x F=>obtain ⟨cs,hv,h⟩:=h;exact E.lt h
 | Mw E v x F=>obtain ⟨_,cs,hv,h⟩:=h;exact E.lt h
 | cel b o cs =>
  intro c hc;simp [Pc.F] at hc;subst hc;cases cs with
  | nil=>exact absurd rfl h.1
  | cons v r=>exact World.block_lt_of_cell? w _ (h.2 0 v rfl)
 | flat E cs xs F=>exact h.2.lt
def Acx (p q:Pc):Prop:=(p.mu || q.mu)=true->∀b∈p.F,b ∉ q.F
theorem Acx.symm {p q:Pc} (h:Acx p q):Acx q p:=fun hm b hb hp=>h (by rw [Bool.or_comm];exact hm) b hp hb
def Rj:List Pc->Prop
 | []=>True
 | p::R=>(∀q∈R,Acx p q)/\Rj R
def Nh (H:List Pc) (w:World):Prop:=∀p∈H,p.P w
theorem I0 {p:Pc} {w:World} (h:p.P w):Nh [p] w:=fun q hq=>by simp at hq;subst hq;exact h
def fp:List Pc->ak
 | []=>[]
 | p::R=>p.F++fp R
theorem O8 {b:Nat}:∀{H:List Pc},b∈fp H↔∃p∈H,b∈p.F
 | []=>by simp [fp]
 | p::R=>by simp [fp,O8 (H:=R)]
theorem Nh.st {H:List Pc} {w w':World} (h:Nh H w) (hF:∀p∈H,∀b∈p.F,w'.heap[b]?=w.heap[b]?):Nh H w':=fun p hp=>p.st (h p hp) (hF p hp)
theorem Nh.below {H:List Pc} {w w':World} (h:Nh H w) (hb:Below w.heap.size w w'):Nh H w':=h.st fun p hp b hm=>hb.block b (p.lt (h p hp) b hm)
structure St (G D:ak) (w0:World) (H:List Pc) (w:World):Prop where
 Nu:Gc G w0 w
 on:Nh H w
 sep:Rj H
 Aas:∀p∈H,∀b∈p.F,b∈G\/w0.heap.size<=b\/(p.mu=false/\b∈D)
section
variable {G D:ak} {w0:World}
theorem Rj.perm2 {p q:Pc} {R:List Pc} (h:Rj (p::q::R)):Rj (q::p::R) :=
 ⟨fun x hx=>by
  rcases aF.1 hx with rfl|hx
  ·exact (h.1 q EO).symm
  ·exact h.2.1 x hx,fun x hx=>h.1 x IH,h.2.2⟩
inductive De:List Pc->Pc->List Pc->Prop
 | here {p R}:De (p::R) p R
 | there {x p R R'}:De R p R'->De (x::R) p (x::R')
theorem De.mem {H p R} (h:De H p R):p∈H:=by
 induction h with
 | here=>simp
 | there _ ih=>simp [ih]
theorem De.sub {H p R} (h:De H p R):∀q∈R,q∈H:=by
 induction h with
 | here=>intro q hq;simp [hq]
 | there _ ih =>
  intro q hq;rcases aF.1 hq with rfl|hq
  ·simp
  ·simp [ih q hq]
theorem De.sep {H p R} (h:De H p R) (hs:Rj H):Rj (p::R):=by
 induction h with
 | here=>exact hs
 | @there x p R R' h ih =>
  have h2:=ih hs.2;exact Rj.perm2 ⟨fun q hq=>by
   rcases aF.1 hq with rfl|hq
   ·exact hs.1 _ h.mem
   ·exact hs.1 _ (h.sub q hq),h2⟩
theorem St.pick {H p R w} (s:St G D w0 H w) (h:De H p R):St G D w0 (p::R) w :=
 ⟨s.Nu,fun q hq=>by
  rcases aF.1 hq with rfl|hq
  ·exact s.on _ h.mem
  ·exact s.on _ (h.sub q hq),h.sep s.sep,fun q hq=>by
  rcases aF.1 hq with rfl|hq
  ·exact s.Aas _ h.mem
  ·exact s.Aas _ (h.sub q hq)⟩
theorem St.tail {p R w} (s:St G D w0 (p::R) w):St G D w0 R w:=⟨s.Nu,fun q hq=>s.on q FB,s.sep.2,fun q hq=>s.Aas q FB⟩
theorem St.get {H p w} (s:St G D w0 H w) (h:p∈H):p.P w:=s.on p h
theorem St.turn {M R N:List Pc} {w w':World} (s:St G D w0 (M++R) w) (hk:Gc (fp (M.filter (·.mu))) w w') (hN:Nh N w') (hs:Rj N)
  (hF:∀p∈N,∀b∈p.F,w.heap.size<=b\/(∃q∈M,q.mu=true/\b∈q.F)\/(p.mu=false/\∃q∈M++R,q.mu=false/\b∈q.F)):St G D w0 (N++R) w':=by
 have hsep:∀(A B:List Pc),Rj (A++B)->Rj A/\Rj B/\∀p∈A,∀q∈B,Acx p q:=by
  intro A
  induction A with
  | nil=>intro B h;exact ⟨trivial,h,EO⟩
  | cons p A ih =>
   intro B h;obtain ⟨h1,h2,h3⟩:=ih B h.2;exact ⟨⟨fun q hq=>h.1 q FB,h1⟩,h2,fun x hx q hq=>by
    rcases aF.1 hx with rfl|hx
    ·exact h.1 q FB
    ·exact h3 x hx q hq⟩
 have hjoin:∀(A B:List Pc),Rj A->Rj B->(∀p∈A,∀q∈B,Acx p q)->Rj (A++B):=by
  intro A
  induction A with
  | nil=>intro B _ h _;exact h
  | cons p A ih =>
   intro B hA hB h;exact ⟨fun q hq=>by
    rcases aG.1 hq with hq|hq
    ·exact hA.1 q hq
    ·exact h p EO q hq,ih B hA.2 hB fun x hx q hq=>h x IH q hq⟩
 obtain ⟨sM,sR,sMR⟩:=hsep M R s.sep;have hRlt:∀q∈R,∀b∈q.F,b < w.heap.size:=fun q hq=>q.lt (s.on q FB);have hMR:∀q∈R,∀b∈q.F,b ∉ fp (M.filter (·.mu)):=fun q hq b hb hm=>by
  obtain ⟨p,hp,hpb⟩:=O8.1 hm;obtain ⟨hp,hmu⟩:=aO.1 hp;exact sMR p hp q hq (by simp [hmu]) b hpb hb
 have hG:∀b∈fp (M.filter (·.mu)),b∈G\/w0.heap.size<=b:=fun b hb=>by
  obtain ⟨p,hp,hpb⟩:=O8.1 hb;obtain ⟨hp,hmu⟩:=aO.1 hp;rcases s.Aas p HF b hpb with h|h|⟨h,_⟩
  ·exact DS
  ·exact .inr h
  ·rw [hmu] at h;cases h
 refine ⟨⟨hk.os.trans s.Nu.os,hk.tape.trans s.Nu.tape,hk.output.trans s.Nu.output,bi s.Nu.size hk.size,fun k hlt hn=>(hk.block k (eS hlt s.Nu.size) fun hm=>?_).trans (s.Nu.block k hlt hn)⟩,fun p hp=>?_,hjoin N R hs sR fun p hp q hq hmu b hb hqb=>?_,fun p hp b hb=>?_⟩
 ·rcases hG k hm with h|h
  ·exact hn h
  ·omega
 ·rcases aG.1 hp with hp|hp
  ·exact hN p hp
  ·exact p.st (s.on p HF) fun b hb=>hk.block b (hRlt p hp b hb) (hMR p hp b hb)
 ·rcases hF p hp b hb with h|⟨m,hm,hmm,hmb⟩|⟨hpm,m,hm,hmm,hmb⟩
  ·have:=hRlt q hq b hqb;omega
  ·exact sMR m hm q hq (by simp [hmm]) b hmb hqb
  ·have hqm:q.mu=true:=by simpa [hpm] using hmu
   rcases aG.1 hm with hm|hm
   ·exact sMR m hm q hq (by simp [hqm]) b hmb hqb
   ·-- two pieces of R
    have:∀(R:List Pc),Rj R->∀m∈R,∀q∈R,m.mu=false->q.mu=true->∀b∈m.F,b ∉ q.F:=by
     intro R
     induction R with
     | nil=>intro _ m hm;simp at hm
     | cons x R ih =>
      intro hs m hm q hq h1 h2 b hb hqb;rcases aF.1 hm with e|hm2
      ·subst e;rcases aF.1 hq with e|hq2
       ·subst e;rw [h1] at h2;cases h2
       ·exact hs.1 q hq2 (by simp [h2]) b hb hqb
      ·rcases aF.1 hq with e|hq2
       ·subst e;exact hs.1 m hm2 (by simp [h2]) b hqb hb
       ·exact ih hs.2 m hm2 q hq2 h1 h2 b hb hqb
    exact this R sR m hm q hq hmm hqm b hmb hqb
 ·rcases aG.1 hp with hp|hp
  ·rcases hF p hp b hb with h|⟨m,hm,hmm,hmb⟩|⟨hpm,m,hm,hmm,hmb⟩
   ·right;left;exact bi s.Nu.size h
   ·rcases s.Aas m (by simp [hm]) b hmb with h|h|⟨h,_⟩
    ·exact DS
    ·exact .inr (.inl h)
    ·rw [hmm] at h;cases h
   ·rcases s.Aas m hm b hmb with h|h|⟨_,h⟩
    ·exact DS
    ·exact .inr (.inl h)
    ·exact .inr (.inr ⟨hpm,h⟩)
  ·exact s.Aas p HF b hb
end
abbrev Fr:=List (Nat × Value)
def Q0:Fr->Nat->Option Value
 | [],_=>none
 | (k,v)::r,t=>bif Nat.beq k t then some v else Q0 r t
def ev (fr:Fr):Operand->Option Value
 | .tmp t=>Q0 fr t
 | .const v=>some v
 | .global g=>some (.pointer (some ⟨g,0,none⟩))
 | .func f=>some (.func (.func f) #[] #[])
inductive Evs (fr:Fr):List Operand->aj->Prop
 | nil:Evs fr [] []
 | cons {x v xs vs}:ev fr x=some v->Evs fr xs vs->Evs fr (x::xs) (v::vs)
structure Ag (n:Nat) (fr:Fr) (a:Act):Prop where
 df:a.defers=[]
 sz:a.tmps.size=n
 at_:∀t v,Q0 fr t=some v->a.tmps[t]?=some v
theorem Ag.ev {n fr a x v} (h:Ag n fr a) (hx:ev fr x=some v):a.eval x=v:=by
 cases x with
 | tmp t=>have:=h.at_ t v hx;simp [Act.eval,eU,this]
 | const u=>simp [Go.Proofs.YtmckdnddocfodaaGreatDoor.ev] at hx;subst hx;rfl
 | global g=>simp [Go.Proofs.YtmckdnddocfodaaGreatDoor.ev] at hx;subst hx;rfl
 | func f=>simp [Go.Proofs.YtmckdnddocfodaaGreatDoor.ev] at hx;subst hx;rfl
theorem Ag.evs {n fr a xs vs} (h:Ag n fr a) (hx:Evs fr xs vs):xs.map a.eval=vs:=by
 induction hx with
 | nil=>rfl
 | cons hx _ ih=>simp [h.ev hx,ih]
theorem T4 (k:Nat) (v:Value) (r:Fr) (t:Nat):Q0 ((k,v)::r) t=if k=t then some v else Q0 r t:=by
 show (bif Nat.beq k t then some v else Q0 r t)=_;by_cases h:k=t
 ·subst h;simp
 ·have:Nat.beq k t=false:=by
   cases hb:Nat.beq k t
   ·rfl
   ·exact absurd (Nat.eq_of_beq_eq_true hb) h
  rw [this,aq h];rfl
theorem Ag.put {n fr a d v} (h:Ag n fr a) (hd:Nat.blt d n=true):Ag n ((d,v)::fr) (a.put (some d) v):=by
 have hd':d < n:=by simpa using hd
 refine ⟨h.df,by simp [Act.put,h.sz],fun t u hu=>?_⟩;rw [T4] at hu;show (a.tmps.setIfInBounds d v)[t]?=_;rw [Array.getElem?_setIfInBounds]
 split at hu
 ·rename_i e;subst e;simp at hu;subst hu;rw [ar rfl,ar (by rw [h.sz];exact hd')]
 ·rename_i e;rw [aq e];exact h.at_ t u hu
inductive L6 (fr:Fr):Fr->Prop
 | nil:L6 fr []
 | cons {t v r}:Q0 fr t=some v->L6 fr r->L6 fr ((t,v)::r)
theorem L6.Q0 {fr fr':Fr} (h:L6 fr fr'):∀t v,Q0 fr' t=some v->Q0 fr t=some v:=by
 induction h with
 | nil=>intro t v hv;cases hv
 | cons h1 _ ih =>
  intro t v hv;rw [T4] at hv
  split at hv
  ·rename_i e;subst e;rw [<-hv];exact h1
  ·exact ih t v hv
theorem Ag.sub {n fr fr' a} (h:Ag n fr a) (hs:L6 fr fr'):Ag n fr' a:=⟨h.df,h.sz,fun t v hv=>h.at_ t v (hs.Q0 t v hv)⟩
structure Cx where
 P:Program
 G:ak
 D:ak
 w0:World
 n:Nat
 R:Exit->Act->World->Prop
inductive It
 | cd (c:Code)
 | blk (id:Nat)
 | lp (I:Act->World->Prop)
def run (c:Cx):List It->Exit->Act->World->Prop
 | []=>c.R
 | .cd y::k=>Exit.then (fun a w=>y.wp c.P (run c k) a w) (run c k)
 | .blk id::k=>Exit.inBlock id (run c k)
 | .lp I::k=>Exit.then I (run c k)
inductive Gl
 | Cd (k:List It) (x:Code)
 | list (k:List It) (ops:Array Oper) (l:List Oper)
 | norm (k:List It)
 | exit (k:List It) (id:Nat)
 | fin (e:Exit)
 | dx (k:List It) (H0:List Pc) (X:List Nat) (ops:Array Oper) (f:Nat) (listed:Array Bool)
 | dk (i:Nat) (k:List It) (H0:List Pc) (X:List Nat) (ops:Array Oper) (f:Nat) (listed:Array Bool)
def Gl.sem (c:Cx):Gl->Act->World->Prop
 | .Cd k x,a,w=>x.wp c.P (run c k) a w
 | .list k ops l,a,w=>wpList c.P ops (run c k) l a w
 | .norm k,a,w=>run c k .normal a w
 | .exit k id,a,w=>run c k (.exit id) a w
 | .fin e,a,w=>c.R e a w
 | .dx k H0 X ops f listed,a,w=>I4 c.P .any ops (run c k) (Nh H0) (fun i=>X.contains i) f listed a w
 | .dk i k H0 X ops f listed,a,w=>(X.contains i=false->Nh H0 w)/\I4 c.P .any ops (run c k) (Nh H0) (fun i=>X.contains i) f listed a w
structure T (c:Cx) (fr:Fr) (H:List Pc) (Φ:Gl):Prop where
 h:∀a w,St c.G c.D c.w0 H w->Ag c.n fr a->Φ.sem c a w
theorem Acm (c:Cx):∀(k:List It),run c k .ret=c.R .ret
 | []=>rfl
 | .cd _::k=>Acm c k
 | .blk _::k=>Acm c k
 | .lp _::k=>Acm c k
theorem Ly (c:Cx) (ch:List PanicEntry):∀(k:List It),run c k (.panic ch)=c.R (.panic ch)
 | []=>rfl
 | .cd _::k=>Ly c ch k
 | .blk _::k=>Ly c ch k
 | .lp _::k=>Ly c ch k
inductive Kl:List Pc->List Pc->Prop
 | nil {A}:Kl A []
 | cons {A p R B}:De A p R->Kl R B->Kl A (p::B)
section
variable {c:Cx} {fr:Fr} {H:List Pc} {k:List It} {Φ:Gl}
theorem Kl.st {G D w0 w} {H H':List Pc} (h:Kl H H'):∀{X:List Pc},St G D w0 H w->Rj X->(∀p∈X,∀q∈H,Acx p q)->(∀p∈X,p.P w/\∀b∈p.F,b∈G\/w0.heap.size<=b\/(p.mu=false/\b∈D)) ->
  (∀q∈H',q∈H)/\Rj H':=by
 induction h with
 | nil=>intro X _ _ _ _;exact ⟨EO,trivial⟩
 | @cons A p R B hp hs ih =>
  intro X s hX hXa hXp;have s1:=s.pick hp;have ⟨h1,h2⟩:=ih (X:=[]) s1.tail trivial EO EO;exact ⟨fun q hq=>by
   rcases aF.1 hq with rfl|hq
   ·exact hp.mem
   ·exact hp.sub q (h1 q hq),fun q hq=>s1.sep.1 q (h1 q hq),h2⟩
theorem St.sub {G D w0 w} {H H':List Pc} (s:St G D w0 H w) (h:Kl H H'):St G D w0 H' w :=
 have ⟨h1,h2⟩:=h.st (X:=[]) s trivial EO EO
 ⟨s.Nu,fun p hp=>s.on p (h1 p hp),h2,fun p hp=>s.Aas p (h1 p hp)⟩
theorem Bbd (H':List Pc) (h:T c fr H' Φ) (hs:Kl H H':=by repeat (first|exact Kl.nil|refine Kl.cons GX ?_)):T c fr H Φ:=.mk fun a w s g=>h.h a w (s.sub hs) g
theorem Tg {p:Pc} (h:T c fr H Φ):T c fr (p::H) Φ:=.mk fun a w s g=>h.h a w s.tail g
/-! the rules of control -/
theorem Yp {x y:Code} (h:T c fr H (.Cd (.cd y::k) x)):T c fr H (.Cd k (Code.seq x y)):=.mk fun a w s g=>wp_seq (h.h a w s g)
theorem Aaa (h:T c fr H (.norm k)):T c fr H (.Cd k Code.skip):=.mk fun a w s g=>wp_skip (h.h a w s g)
theorem Axv (h:T c fr H (.fin .ret)):T c fr H (.Cd k Code.ret):=.mk fun a w s g=>wp_ret (by rw [Acm];exact h.h a w s g)
theorem Ark {id:Nat} (h:T c fr H (.exit k id)):T c fr H (.Cd k (Code.exit id)):=.mk fun a w s g=>wp_exit (h.h a w s g)
theorem Yo {id:Nat} {x:Code} (h:T c fr H (.Cd (.blk id::k) x)):T c fr H (.Cd k (Code.block id x)):=.mk fun a w s g=>wp_block (h.h a w s g)
theorem Axu {id:Nat} {l:List Oper} (h:T c fr H (.list k l.toArray l)):T c fr H (.Cd k (Code.region id l.toArray false)):=.mk fun a w s g=>wp_region_lit (h.h a w s g)
theorem c_t {x:Operand} {y z:Code} (hc:ev fr x=some (.bool true)) (h:T c fr H (.Cd k y)):T c fr H (.Cd k (Code.cond x y z)):=.mk fun a w s g=>wp_cond_true (g.ev hc) (h.h a w s g)
theorem c_f {x:Operand} {y z:Code} (hc:ev fr x=some (.bool false)) (h:T c fr H (.Cd k z)):T c fr H (.Cd k (Code.cond x y z)):=.mk fun a w s g=>wp_cond_false (g.ev hc) (h.h a w s g)
theorem Bf {x:Operand} {y z:Code} {p:Prop} {_:Decidable p} (hc:ev fr x=some (.bool (decide p))) (h1:p->T c fr H (.Cd k y)) (h2:¬p->T c fr H (.Cd k z)) :
  T c fr H (.Cd k (Code.cond x y z)):=.mk fun a w s g=>by
 by_cases hp:p
 ·exact wp_cond_true (by rw [g.ev hc,au hp]) ((h1 hp).h a w s g)
 ·exact wp_cond_false (by rw [g.ev hc,ay hp]) ((h2 hp).h a w s g)
theorem Ajs {y:Code} (h:T c fr H (.Cd k y)):T c fr H (.norm (.cd y::k)):=⟨h.h⟩
theorem Ajr {id:Nat} (h:T c fr H (.norm k)):T c fr H (.norm (.blk id::k)):=⟨h.h⟩
theorem Ba1 (h:T c fr H (.fin .normal)):T c fr H (.norm []):=⟨h.h⟩
theorem Baw {y:Code} {id:Nat} (h:T c fr H (.exit k id)):T c fr H (.exit (.cd y::k) id):=⟨h.h⟩
theorem Bax {I:Act->World->Prop} {id:Nat} (h:T c fr H (.exit k id)):T c fr H (.exit (.lp I::k) id):=⟨h.h⟩
theorem Axz {id:Nat} (h:T c fr H (.norm k)):T c fr H (.exit (.blk id::k) id):=.mk fun a w s g=>by
 show (if id=id then run c k .normal a w else run c k (.exit id) a w);rw [ar rfl];exact h.h a w s g
theorem Arv {id id':Nat} (hne:Nat.beq id' id=false) (h:T c fr H (.exit k id')):T c fr H (.exit (.blk id::k) id'):=.mk fun a w s g=>by
 show (if id'=id then run c k .normal a w else run c k (.exit id') a w);rw [aq (fun e=>by rw [e] at hne;simp at hne)];exact h.h a w s g
theorem Aey {ops:Array Oper} (h:T c fr H (.norm k)):T c fr H (.list k ops []):=⟨h.h⟩
/-! loops -/
theorem Adv {p:Nat->Prop}:∀n,p n->∃m,p m/\∀j,p j->m<=j:=fun n=>by
 induction n using Nat.strongRecOn with
 | _ n ih =>
  intro hn;by_cases h:∃j,j < n/\p j
  ·obtain ⟨j,hj,hp⟩:=h;exact ih j hj hp
  ·exact ⟨n,hn,fun j hj=>Nat.le_of_not_lt fun hl=>h ⟨j,hl,hj⟩⟩
theorem Aqp {P:Program} {Q:Exit->Act->World->Prop} {x:Code} {a:Act} {w:World} (I:Nat->Act->World->Prop) (m:Nat) (h0:I m a w)
  (round:∀m a w,I m a w->x.wp P (Exit.then (fun a' w'=>∃m',m' < m/\I m' a' w') Q) a w):(Code.loop x).wp P Q a w:=by
 classical
 refine wp_loop (fun a w=>∃m,I m a w) (fun a w=>if h:∃m,I m a w then Classical.choose (Adv (p:=fun m=>I m a w) h.choose h.choose_spec) else 0) ⟨m,h0⟩ fun a w hI=>?_;have hl:=Classical.choose_spec (Adv (p:=fun m=>I m a w) hI.choose hI.choose_spec);refine wp_mono (round _ a w hl.1) fun e a' w' he=>?_;cases e with
 | normal =>
  obtain ⟨m',hm,hi⟩:=he;have hex:∃m,I m a' w':=⟨m',hi⟩;refine ⟨hex,?_⟩;simp only [fC hI,fC hex];exact Nat.lt_of_le_of_lt ((Classical.choose_spec (Adv (p:=fun m=>I m a' w') hex.choose hex.choose_spec)).2 m' hi) hm
 | _=>exact he
def LpI {σ:Type} (c:Cx) (fr':σ->Fr) (H':σ->List Pc) (C:σ->Prop) (μ:σ->Nat) (m:Nat) (a:Act) (w:World):Prop:=∃s,C s/\μ s=m/\St c.G c.D c.w0 (H' s) w/\Ag c.n (fr' s) a
def LpN {σ:Type} (c:Cx) (fr':σ->Fr) (H':σ->List Pc) (C:σ->Prop) (μ:σ->Nat) (m:Nat) (a:Act) (w:World):Prop:=∃m',m' < m/\LpI c fr' H' C μ m' a w
theorem Arl {x:Code} {σ:Type} (fr':σ->Fr) (H':σ->List Pc) (C:σ->Prop) (μ:σ->Nat) (s0:σ) (h0:C s0)
  (round:∀s,C s->T c (fr' s) (H' s) (.Cd (.lp (LpN c fr' H' C μ (μ s))::k) x)) (hf:L6 fr (fr' s0):=by repeat (first|exact L6.nil|refine L6.cons FC ?_)) (hH:Kl H (H' s0):=by repeat (first|exact Kl.nil|refine Kl.cons GX ?_)):T c fr H (.Cd k (Code.loop x)):=.mk fun a w st g=>by
 refine Aqp (LpI c fr' H' C μ) (μ s0) ⟨s0,h0,rfl,st.sub hH,g.sub hf⟩ fun m a w hI=>?_;obtain ⟨s,hC,rfl,hst,hg⟩:=hI;exact (round s hC).h a w hst hg
theorem Cv {σ:Type} {fr':σ->Fr} {H':σ->List Pc} {C:σ->Prop} {μ:σ->Nat} {m:Nat} (s:σ) (hC:C s) (hm:μ s < m) (hf:L6 fr (fr' s):=by repeat (first|exact L6.nil|refine L6.cons FC ?_)) (hH:Kl H (H' s):=by repeat (first|exact Kl.nil|refine Kl.cons GX ?_)) :
  T c fr H (.norm (.lp (LpN c fr' H' C μ m)::k)):=.mk fun _ _ st g=>⟨μ s,hm,s,hC,rfl,st.sub hH,g.sub hf⟩
end
class OneC (P:Program) (t:TypeId):Prop where
 d:∃d,P.underlying t=some d/\d.isRow=false
 s:(P.info? t).map (·.size)=some 1
class AggC (P:Program) (t:TypeId) (n:outParam Nat):Prop where
 d:∃d,P.underlying t=some d/\d.isRow=true
 s:(P.info? t).map (·.size)=some n
class FldC (P:Program) (t:TypeId) (i:Nat) (off:outParam Nat) (ft:outParam TypeId) (n:outParam Nat):Prop where
 f:∃fs f,P.underlying t=some (.struct fs)/\fs[i]?=some f/\f.offset=off/\f.type=ft
 s:(P.info? ft).map (·.size)=some n
 p:n≠0
class SlC (P:Program) (t:TypeId) (e:outParam TypeId) (n:outParam Nat):Prop where
 u:P.underlying t=some (.slice e)
 s:(P.info? e).map (·.size)=some n
class IntC (P:Program) (t:TypeId) (k:outParam IntKind):Prop where
 u:P.underlying t=some (.int k)
class StrC (P:Program) (t:TypeId):Prop where
 u:P.underlying t=some .string
class BoolC (P:Program) (t:TypeId):Prop where
 u:P.underlying t=some .bool
def Fv (g o j:Nat):Value:=.pointer (some ⟨g,o+j,none⟩)
structure Yd (P:Program) (n:Nat) (fr:Fr) (H:List Pc) (o:Op) (ty:TypeId) (v:Value):Prop where
 h:∀(a:Act) (w:World) (d:Option Tmp) (pos:String) (A8:Array Edge) (g:Option (Nat × Bool)),Ag n fr a->Nh H w->(execOp a.eval ⟨d,o,ty,pos,A8,g⟩).run P w=.ok (.value v) w
theorem Abp (a b:am):(a.toList == b.toList)=decide (a=b):=by
 rw [eO];simp only [beq_iff_eq,aC,ByteArray.toList_eq];exact ⟨fun h=>ByteArray.ext (fK h),fun h=>by rw [h]⟩
section
variable {P:Program} {n:Nat} {fr:Fr} {H:List Pc} {ty:TypeId} {v u:Value} {x y z:Operand}
theorem Mi {t:TypeId} {n:Nat} (h:(P.info? t).map (·.size)=some n) (w:World):(sizeOf t).run P w=.ok n w:=by
 obtain ⟨i,hi,hn⟩:=co.1 h;simp [sizeOf,typeInfo,hi,hn]
theorem Aje {t:TypeId} (h:∃d,P.underlying t=some d/\d.isRow=false) (w:World):(isAgg t).run P w=.ok false w:=by
 obtain ⟨d,hu,hd⟩:=h;unfold isAgg;rw [Sem.run_bind,run_underlying hu w];cases d <;> simp_all
theorem Ao2 {t:TypeId} (h:∃d,P.underlying t=some d/\d.isRow=true) (w:World):(isAgg t).run P w=.ok true w:=by
 obtain ⟨d,hu,hd⟩:=h;unfold isAgg;rw [Sem.run_bind,run_underlying hu w];cases d <;> simp_all
theorem Axn (hx:ev fr x=some v):Yd P n fr H (.move x) ty v:=.mk fun a w d pos A8 g hA _=>by
 simp [execOp,hA.ev hx]
theorem Aqr (hx:ev fr x=some v):Yd P n fr H (.assign x) ty v:=.mk fun a w d pos A8 g hA _=>by
 simp [execOp,hA.ev hx]
theorem Aqv (hc:ev fr x=some (.bool true)) (hy:ev fr y=some v):Yd P n fr H (.pick x y z) ty v:=.mk fun a w d pos A8 g hA _=>by
 simp [execOp,hA.ev hc,hA.ev hy,asBool]
theorem Aqu (hc:ev fr x=some (.bool false)) (hz:ev fr z=some v):Yd P n fr H (.pick x y z) ty v:=.mk fun a w d pos A8 g hA _=>by
 simp [execOp,hA.ev hc,hA.ev hz,asBool]
theorem Zn {w:World} {g t o j:Nat} {A cs B:aj} (h:(Pc.row g t o A cs B).P w) (hv:cs[j]?=some v):w.cell? ⟨g,o+j,none⟩=some v:=by
 obtain ⟨rfl,h⟩:=h;rw [h.cellMid rfl (bh.1 hv).1];exact hv
theorem Hq {w:World} {g t o:Nat} {A cs B:aj} (h:(Pc.row g t o A cs B).P w):w.rangeAt g o cs:=fun _ _ hv=>Zn h hv
theorem Aqb {w:World} {g t o:Nat} {A cs B:aj} (h:(Pc.row g t o A cs B).P w):w.there g o cs.length:=fun j hj =>
 ⟨by rw [Zn h (aB hj)];rfl,h.2.frozen _⟩
theorem Adx {t:TypeId} [hT:OneC P t] {w:World} {a:Addr} (h:w.cell? a=some v):(Instr.loadAt t (.pointer (some a))).run P w=.ok v w:=by
 simp [Instr.loadAt,Instr.sureAddr,loadVar,Aje hT.d,h]
theorem Bbp {t g o j tt:Nat} {A cs B:aj} [OneC P t] (hx:ev fr x=some (Fv g o j)) (hm:Pc.row g tt o A cs B∈H) (hv:cs[j]?=some v):Yd P n fr H (.load t x) ty v:=.mk fun a w d pos A8 gd hA hH=>by
 simp [execOp,hA.ev hx,Fv,Adx (Zn (hH _ hm) hv)]
theorem Bad {t b o j:Nat} {cs:aj} [OneC P t] (hx:ev fr x=some (Fv b o j)) (hm:Pc.cel b o cs∈H) (hv:cs[j]?=some v):Yd P n fr H (.load t x) ty v:=.mk fun a w d pos A8 gd hA hH=>by
 simp [execOp,hA.ev hx,Fv,Adx ((hH _ hm).2 j v hv)]
inductive Cut:aj->Nat->Nat->aj->Prop
 | zero {l}:Cut l 0 0 []
 | one {x l m r}:Cut l 0 m r->Cut (x::l) 0 (m+1) (x::r)
 | skip {x l j m r}:Cut l j m r->Cut (x::l) (j+1) m r
theorem Cut.get {l j m r} (h:Cut l j m r):r.length=m/\∀(i:Nat) u,r[i]?=some u->l[j+i]?=some u:=by
 induction h with
 | zero=>exact ⟨rfl,fun i u h=>by simp at h⟩
 | one _ ih =>
  refine ⟨by simp [ih.1],fun i u h=>?_⟩;cases i with
  | zero=>simpa using h
  | succ i=>have:=ih.2 i u EU;simpa [eX] using this
 | skip _ ih =>
  refine ⟨ih.1,fun i u h=>?_⟩;have:=ih.2 i u h
  rwa [show ∀a b:Nat,a+1+b=a+b+1 by omega,bE]
theorem Adw {t m:Nat} [hT:AggC P t m] {w:World} {b o j:Nat} {cs r:aj} (h:w.rangeAt b o cs) (hc:Cut cs j m r):(Instr.loadAt t (.pointer (some ⟨b,o+j,none⟩))).run P w=.ok (.agg r.toArray) w:=by
 obtain ⟨d,hu,hd⟩:=hT.d;exact run_loadAt_mid w b (o+j) t r d (fun i u hu=>by rw [eX];exact h _ _ (hc.get.2 i u hu)) hu hd (by rw [hT.s,hc.get.1])
theorem Bac {t g o j tt m:Nat} {A cs B r:aj} [AggC P t m] (hx:ev fr x=some (Fv g o j)) (hm:Pc.row g tt o A cs B∈H) (hc:Cut cs j m r):Yd P n fr H (.load t x) ty (.agg r.toArray):=.mk fun a w d pos A8 gd hA hH=>by
 simp [execOp,hA.ev hx,Fv,Adw (Hq (hH _ hm)) hc]
theorem Axl {t b o j m:Nat} {cs r:aj} [AggC P t m] (hx:ev fr x=some (Fv b o j)) (hm:Pc.cel b o cs∈H) (hc:Cut cs j m r):Yd P n fr H (.load t x) ty (.agg r.toArray):=.mk fun a w d pos A8 gd hA hH=>by
 simp [execOp,hA.ev hx,Fv,Adw (hH _ hm).2 hc]
theorem Bbk {t i g o j off ft m:Nat} [hF:FldC P t i off ft m] (hx:ev fr x=some (Fv g o j)):Yd P n fr H (.fieldAddr t x i) ty (Fv g o (j+off)):=.mk fun a w d pos A8 gd hA _=>by
 obtain ⟨fs,f,hu,hf,rfl,rfl⟩:=hF.f;simp [execOp,hA.ev hx,Fv,Instr.fieldAt,run_underlying hu,hf,Instr.sureAddr,fieldPlace,Mi hF.s,hF.p,Addr.add_lit,eX]
theorem Az9 {t i off ft m:Nat} {l:aj} [hF:FldC P t i off ft m] [hT:OneC P ft] (hx:ev fr x=some (.agg l.toArray)) (hv:l[off]?=some v):Yd P n fr H (.field t x i) ty v:=.mk fun a w d pos A8 gd hA _=>by
 obtain ⟨fs,f,hu,hf,rfl,rfl⟩:=hF.f;simp [execOp,hA.ev hx,Instr.field,run_underlying hu,hf,asAgg,part,Aje hT.d,hv]
theorem Axk {t i off ft m m':Nat} {l r:aj} [hF:FldC P t i off ft m] [hT:AggC P ft m'] (hx:ev fr x=some (.agg l.toArray)) (hc:Cut l off m' r):Yd P n fr H (.field t x i) ty (.agg r.toArray):=.mk fun a w d pos A8 gd hA _=>by
 obtain ⟨fs,f,hu,hf,rfl,rfl⟩:=hF.f;have e:l.toArray.extract f.offset (f.offset+m')=r.toArray:=by
  obtain ⟨h1,h2⟩:=hc.get;apply fK;simp only [List.extract_toArray,List.extract_eq_take_drop,Nat.add_sub_cancel_left];apply dp;intro i;rw [List.getElem?_take]
  split
  ·rename_i hi;have hr:r[i]?=some (r[i]'EM):=aB EM;rw [di,hr];exact h2 i _ hr
  ·rw [bf EM]
 simp [execOp,hA.ev hx,Instr.field,run_underlying hu,hf,asAgg,part,Ao2 hT.d,Mi hT.s,<-e]
theorem Bal {g o j:Nat} (hx:ev fr x=some (Fv g o j)):Yd P n fr H (.nilCheck x) ty (Fv g o j):=.mk fun a w d pos A8 gd hA _=>by
 simp [execOp,hA.ev hx,Fv]
theorem Axo {f:Nat} {l:Array Value} (hx:ev fr x=some (.func (.func f) #[] l)):Yd P n fr H (.nilCheck x) ty (.func (.func f) #[] l):=.mk fun a w d pos A8 gd hA _=>by
 simp [execOp,hA.ev hx]
theorem Bbo {t e m b o len cp:Nat} {kd:IntKind} {i:Int} [hS:SlC P t e m] (hx:ev fr x=some (ab (some ⟨b,o,none⟩) len cp)) (hy:ev fr y=some (.int kd i)) (h0:0<=i) (h1:i < len) :
  Yd P n fr H (.indexAddr t x y) ty (Fv b (o+i.toNat * m) 0):=.mk fun a w d pos A8 gd hA _=>by
 simp [execOp,hA.ev hx,hA.ev hy,Instr.indexAt,run_underlying hS.u,asIntOf,h0,h1,Mi hS.s,Addr.add_lit,Fv]
theorem Bab {t:Nat} {kd:IntKind} {i:Int} {s:am} [hS:StrC P t] (hx:ev fr x=some (af s)) (hy:ev fr y=some (.int kd i)) (h0:0<=i) (h1:i.toNat < s.size) :
  Yd P n fr H (.index t x y) ty (.int .u8 (s[i.toNat]'h1).toNat):=.mk fun a w d pos A8 gd hA _=>by
 simp [execOp,hA.ev hx,hA.ev hy,Instr.index,run_underlying hS.u,asIntOf,h0,h1]
theorem Bbj {i:Nat} {l:aj} (hx:ev fr x=some (.tuple l.toArray)) (hv:l[i]?=some v):Yd P n fr H (.extract x i) ty v:=.mk fun a w d pos A8 gd hA _=>by
 simp [execOp,hA.ev hx,Instr.extract,hv]
theorem Bam {b:Bool} {t:Nat} (hx:ev fr x=some (.bool b)):Yd P n fr H (.unOp .not t x) ty (.bool (!b)):=.mk fun a w d pos A8 gd hA _=>by
 simp [execOp,hA.ev hx,Op.unary]
theorem Axp {p:Prop} {_:Decidable p} {t:Nat} (hx:ev fr x=some (.bool (decide p))):Yd P n fr H (.unOp .not t x) ty (.bool (decide (¬p))):=.mk fun a w d pos A8 gd hA _=>by
 simp [execOp,hA.ev hx,Op.unary]
theorem Baj {a:Int} {t:Nat} (hx:ev fr x=some (aa a)) (h0:-9223372036854775808<=-a) (h1:-a<=9223372036854775807):Yd P n fr H (.unOp .neg t x) ty (aa (-a)):=.mk fun a w d pos A8 gd hA _=>by
 simp [execOp,hA.ev hx,Op.unary,Op.intArith,IntWalk.i64_in _ ⟨h0,h1⟩]
section
variable {a b:Int} {t t':TypeId} (hx:ev fr x=some (aa a)) (hy:ev fr y=some (aa b))
include hx hy
theorem Az5 (h0:-9223372036854775808<=a+b) (h1:a+b<=9223372036854775807):Yd P n fr H (.binOp .add t x y t') ty (aa (a+b)):=.mk fun a w d pos A8 gd hA _=>by
 simp [execOp,hA.ev hx,hA.ev hy,eqGuard_add,binOp_add,Op.intArith,IntWalk.i64_in _ ⟨h0,h1⟩]
theorem Bap (h0:-9223372036854775808<=a - b) (h1:a - b<=9223372036854775807):Yd P n fr H (.binOp .sub t x y t') ty (aa (a - b)):=.mk fun a w d pos A8 gd hA _=>by
 simp [execOp,hA.ev hx,hA.ev hy,eqGuard_sub,binOp_sub,Op.intArith,IntWalk.i64_in _ ⟨h0,h1⟩]
theorem Bah (h0:-9223372036854775808<=a * b) (h1:a * b<=9223372036854775807):Yd P n fr H (.binOp .mul t x y t') ty (aa (a * b)):=.mk fun a w d pos A8 gd hA _=>by
 simp [execOp,hA.ev hx,hA.ev hy,eqGuard_mul,binOp_mul,Op.intArith,IntWalk.i64_in _ ⟨h0,h1⟩]
theorem Ban (h0:0<=a) (h2:a<=9223372036854775807) (h1:0 < b):Yd P n fr H (.binOp .quo t x y t') ty (aa (a / b)):=.mk fun c w d pos A8 gd hA _=>by
 have hle:a / b<=a:=Int.ediv_le_self _ h0;have hge:0<=a / b:=Int.ediv_nonneg h0 EM;have hb:b≠0:=EM
 simp [execOp,hA.ev hx,hA.ev hy,eqGuard_quo,binOp_quo,Op.intDiv,hb,ff h0,IntWalk.i64_in _ ⟨(by omega:-9223372036854775808<=a / b),(by omega:a / b<=9223372036854775807)⟩]
theorem Bao (h0:0<=a) (h1:0 < b):Yd P n fr H (.binOp .rem t x y t') ty (aa (a % b)):=.mk fun c w d pos A8 gd hA _=>by
 have hb:b≠0:=EM
 simp [execOp,hA.ev hx,hA.ev hy,eqGuard_rem,binOp_rem,Op.intDiv,hb,eZ h0]
end
section
variable {a b:Int} {k:IntKind} {t t':TypeId} (hx:ev fr x=some (.int k a)) (hy:ev fr y=some (.int k b))
include hx hy
theorem Bag {ts:Array TypeId}:Yd P n fr H (.call { callee:=.builtin .min,args:=#[x,y],argTypes:=ts }) ty (.int k (min a b)):=.mk fun c w d pos A8 gd hA _=>by
 have e:(if b < a then b else a)=min a b:=by split <;> omega
 simp [execOp,hA.ev hx,hA.ev hy,resolve,invoke,builtin,run_min_int2,e]
theorem Baf {ts:Array TypeId}:Yd P n fr H (.call { callee:=.builtin .max,args:=#[x,y],argTypes:=ts }) ty (.int k (max a b)):=.mk fun c w d pos A8 gd hA _=>by
 have e:(if a < b then b else a)=max a b:=by split <;> omega
 simp [execOp,hA.ev hx,hA.ev hy,resolve,invoke,builtin,run_max_int2,e]
theorem Bbr:Yd P n fr H (.binOp .lss t x y t') ty (.bool (decide (a < b))):=.mk fun a w d pos A8 gd hA _=>by
 simp [execOp,hA.ev hx,hA.ev hy,eqGuard_lss,binOp_lss]
theorem Bbq:Yd P n fr H (.binOp .leq t x y t') ty (.bool (decide (a<=b))):=.mk fun a w d pos A8 gd hA _=>by
 simp [execOp,hA.ev hx,hA.ev hy,eqGuard_leq,binOp_leq]
theorem Bbn:Yd P n fr H (.binOp .gtr t x y t') ty (.bool (decide (b < a))):=.mk fun a w d pos A8 gd hA _=>by
 simp [execOp,hA.ev hx,hA.ev hy,eqGuard_gtr,binOp_gtr]
theorem Bbm:Yd P n fr H (.binOp .geq t x y t') ty (.bool (decide (b<=a))):=.mk fun a w d pos A8 gd hA _=>by
 simp [execOp,hA.ev hx,hA.ev hy,eqGuard_geq,binOp_geq]
theorem Bbi:Yd P n fr H (.binOp .eql t x y t') ty (.bool (decide (a=b))):=.mk fun a w d pos A8 gd hA _=>by
 simp [execOp,hA.ev hx,hA.ev hy,eqGuard_at_int,binOp_eql];rfl
theorem Bbs:Yd P n fr H (.binOp .neq t x y t') ty (.bool (decide (¬a=b))):=.mk fun a w d pos A8 gd hA _=>by
 simp [execOp,hA.ev hx,hA.ev hy,eqGuard_at_int,binOp_neq,bne];rfl
end
section
variable {a b:am} {t t':TypeId} (hx:ev fr x=some (af a)) (hy:ev fr y=some (af b))
include hx hy
theorem Az6 (h:a.size+b.size<=9223372036854775807):Yd P n fr H (.binOp .add t x y t') ty (af (a++b)):=.mk fun c w d pos A8 gd hA _=>by
 have:¬((a.size:Int)+b.size > 9223372036854775807):=EM
 simp [execOp,hA.ev hx,hA.ev hy,eqGuard_add,binOp,Op.stringOp,this]
theorem Az8:Yd P n fr H (.binOp .eql t x y t') ty (.bool (decide (a=b))):=.mk fun c w d pos A8 gd hA _=>by
 simp [execOp,hA.ev hx,hA.ev hy,eqGuard_at_string,binOp,Op.stringOp,Abp a b]
theorem Bak:Yd P n fr H (.binOp .neq t x y t') ty (.bool (decide (¬a=b))):=.mk fun c w d pos A8 gd hA _=>by
 simp [execOp,hA.ev hx,hA.ev hy,eqGuard_at_string,binOp,Op.stringOp,Abp a b]
end
theorem Adc {t:TypeId} [hB:BoolC P t] (a b:Bool) (w:World):(Op.equal t (.bool a) (.bool b)).run P w=.ok (a == b) w:=by
 unfold Op.equal;rw [show Op.maxDepth=9999+1 from rfl];unfold Op.equalIn;rw [Sem.run_bind,run_underlying hB.u w];rfl
theorem Az7 {a b:Bool} {t t':TypeId} [hB:BoolC P t] (hx:ev fr x=some (.bool a)) (hy:ev fr y=some (.bool b)):Yd P n fr H (.binOp .eql t x y t') ty (.bool (decide (a=b))):=.mk fun c w d pos A8 gd hA _=>by
 have e:binOp .eql t (.bool a) (.bool b)=(do pure (.bool (<-Op.equal t (.bool a) (.bool b)))):=rfl;exact DM
theorem Bai {a b:Bool} {t t':TypeId} [hB:BoolC P t] (hx:ev fr x=some (.bool a)) (hy:ev fr y=some (.bool b)):Yd P n fr H (.binOp .neq t x y t') ty (.bool (decide (¬a=b))):=.mk fun c w d pos A8 gd hA _=>by
 have e:binOp .neq t (.bool a) (.bool b)=(do pure (.bool (!(<-Op.equal t (.bool a) (.bool b))))):=rfl;exact DM
theorem An3 {k k':IntKind} {a:Int} {s t:TypeId} [hS:IntC P s k'] [hD:IntC P t .i64] (hx:ev fr x=some (.int k a)) (h0:-9223372036854775808<=a) (h1:a<=9223372036854775807):Yd P n fr H (.convert s t x) ty (aa a):=.mk fun c w d pos A8 gd hA _=>by
 simp [execOp,hA.ev hx,convert,run_underlying hS.u,run_underlying hD.u,Conv.intToInt,IntWalk.i64_in _ ⟨h0,h1⟩]
theorem Bae {a:ai} {len cp t e m:Nat} [hS:SlC P t e m] (hx:ev fr x=some (ab a len cp)):Yd P n fr H (.call { callee:=.builtin .len,args:=#[x],argTypes:=#[t] }) ty (aa len):=.mk fun c w d pos A8 gd hA _=>by
 simp [execOp,hA.ev hx,resolve,invoke,builtin,Builtin.len_,run_underlying hS.u,goInt]
theorem Axm {s:am} {t:Nat} [hS:StrC P t] (hx:ev fr x=some (af s)):Yd P n fr H (.call { callee:=.builtin .len,args:=#[x],argTypes:=#[t] }) ty (aa s.size):=.mk fun c w d pos A8 gd hA _=>by
 simp [execOp,hA.ev hx,resolve,invoke,builtin,run_len_string (h:=hS.u),goInt]
theorem Nv {t e m i:Nat} {a:ai} {len cp:Nat} {z:Int} [hS:SlC P t e m] (hx:ev fr x=some (ab a len cp)) (hy:ev fr y=some (aa z)) (hz:z=(i:Int)) (hi:i<=cp) (hc:cp<=9223372036854775807):Yd P n fr H (.slice t x none (some y) none) ty (ab a i cp):=.mk fun ac w d pos A8 gd hA _=>by
 subst hz;have he2:P.elem t=e:=IW
 have h3:(Instr.sliceAt t (ab a len cp) none (some (aa (i:Int))) none).run P w=.ok (ab a i cp) w:=by
  rw [run_sliceAt_slice (h:=FF),run_slice_h (ht:=FF) (h0:=EM) (h2:=EM),he2,Mi hS.s];have h0:a.map (fun b=>b.add 0)=a:=by cases a <;> simp [Addr.add]
  simp [Result.andThen,sliced,h0]
 exact CS
theorem Bbl {f:Nat} {caps:List Operand} {vs:aj} (hc:Evs fr caps vs):Yd P n fr H (.makeFunc (.func f) #[] caps.toArray) ty (.func (.func f) #[] vs.toArray):=.mk fun c w d pos A8 gd hA _=>by
 simp [execOp,Instr.makeFunc,hA.evs hc]
end
class ZC (P:Program) (t:TypeId) (zs:outParam (aj)):Prop where
 z:∃v,(P.info? t).map (·.zero)=some (some v)/\v.cells=zs.toArray
class ElT (P:Program) (e:TypeId) (z:outParam Value) (n:outParam Nat) (by_:outParam Nat):Prop where
 i:(P.info? e).map (fun i=>(i.zero,i.size,i.bytes))=some (some z,n,by_)
 s:z.cells.size=n
class BldC (P:Program) (t:TypeId) (pl:outParam (List (Nat × Nat))) (zs:outParam (aj)):Prop where
 b:∀parts,P.built t parts=Instr.fill (pl.toArray[·]?) zs.toArray parts
def O2 (P:Program) (f:FuncId):Bool:=match P.funcs[f]? with
 | some fn=>!(fn.name == "runtime.NumGoroutine") && !fn.body.isNone
 | none=>false
theorem Uo {P:Program} {f:FuncId} (h:O2 P f=true):Wu P f:=by
 unfold O2 at h
 split at h
 ·rename_i fn hf;simp only [av,bv] at h;exact .mk' hf h.1 h.2
 ·cases h
structure Ef (c:Cx) (fr:Fr) (H:List Pc) (o:Oper) (Φ:Gl):Prop where
 h:∀Q a w,St c.G c.D c.w0 H w->Ag c.n fr a->o.wp c.P a w (Φ.sem c) Q
structure Cl (c:Cx) (fr:Fr) (H:List Pc) (d:Nat) (f:FuncId) (vs:aj) (Φ:Gl):Prop where
 h:∀w,St c.G c.D c.w0 H w->∃R:Ending->World->Prop,Calls c.P f vs.toArray w R/\∀e w',R e w'->∃v,e=.returned v/\∀a,Ag c.n ((d,v)::fr) a->Φ.sem c a w'
theorem Pl {c:Cx} {fr:Fr} {H:List Pc} {o:Oper} {Φ:Gl} (h:∀Q a w,St c.G c.D c.w0 H w->Ag c.n fr a->Oper.upon c.P o a (Φ.sem c) Q ((execOp a.eval o).run c.P w)):Ef c fr H o Φ:=⟨h⟩
inductive Rpl:List Pc->Pc->Pc->List Pc->Prop
 | here {p q R}:Rpl (p::R) p q (q::R)
 | there {x p q R S}:Rpl R p q S->Rpl (x::R) p q (x::S)
theorem Rpl.picks {H p q S} (h:Rpl H p q S):∃R,De H p R/\De S q R:=by
 induction h with
 | here=>exact ⟨_,.here,.here⟩
 | there _ ih=>obtain ⟨R,h1,h2⟩:=ih;exact ⟨_,.there h1,.there h2⟩
theorem De.unsep {H p R} (h:De H p R) (hs:Rj (p::R)):Rj H:=by
 induction h with
 | here=>exact hs
 | @there x p R R' h ih =>
  have h2:=Rj.perm2 hs;have h3:=ih h2.2;refine ⟨fun q hq=>?_,h3⟩;have:∀{A:List Pc} {p B},De A p B->∀q∈A,q=p\/q∈B:=by
   intro A p B h
   induction h with
   | here=>intro q hq;simpa using hq
   | there _ ih =>
    intro q hq;rcases aF.1 hq with rfl|hq
    ·simp
    ·rcases ih q hq with h|h <;> simp [h]
  rcases this h q hq with rfl|hq
  ·exact h2.1 _ EO
  ·exact h2.1 _ FB
theorem De.or {A:List Pc} {p B} (h:De A p B):∀q∈A,q=p\/q∈B:=by
 induction h with
 | here=>intro q hq;simpa using hq
 | there _ ih =>
  intro q hq;rcases aF.1 hq with rfl|hq
  ·simp
  ·rcases ih q hq with h|h <;> simp [h]
theorem St.unpick {G D w0 H p R w} (s:St G D w0 (p::R) w) (h:De H p R):St G D w0 H w :=
 ⟨s.Nu,fun q hq=>by rcases h.or q hq with rfl|hq;exact s.on _ EO;exact s.on _ FB,h.unsep s.sep,fun q hq=>by rcases h.or q hq with rfl|hq;exact s.Aas _ EO;exact s.Aas _ FB⟩
theorem St.rpl {G D w0 H p q S} {w w':World} (s:St G D w0 H w) (h:Rpl H p q S) (hm:p.mu=true) (hF:∀b∈q.F,b∈p.F\/w.heap.size<=b) (hk:Gc p.F w w') (hq:q.P w'):St G D w0 S w':=by
 obtain ⟨R,h1,h2⟩:=h.picks;refine St.unpick (R:=R) ?_ h2;refine St.turn (M:=[p]) (R:=R) (N:=[q]) (s.pick h1) (by simpa [List.filter,hm,fp] using hk) (by intro x hx;simp at hx;subst hx;exact hq) ⟨EO,trivial⟩ fun x hx b hb=>?_;simp at hx;subst hx;rcases hF b hb with h|h
 ·exact .inr (.inl ⟨p,EO,hm,h⟩)
 ·exact DS
theorem St.add {G D w0 H} {w w':World} {N:List Pc} (s:St G D w0 H w) (hb:Below w.heap.size w w') (hN:Nh N w') (hs:Rj N) (hF:∀p∈N,∀b∈p.F,w.heap.size<=b\/(p.mu=false/\∃q∈H,q.mu=false/\b∈q.F)):St G D w0 (N++H) w' :=
 St.turn (M:=[]) (R:=H) (N:=N) s (by simpa [fp] using Gc.ofBelow hb) hN hs fun p hp b hb=>by
  rcases hF p hp b hb with h|h
  ·exact DS
  ·exact .inr (.inr EU)
theorem St.below {G D w0 H} {w w':World} (s:St G D w0 H w) (hb:Below w.heap.size w w'):St G D w0 H w':=s.add (N:=[]) hb (by intro p hp;simp at hp) trivial EO
theorem Aiw (w:World) (o:Obj):Below w.heap.size w (w.alloc o):=(Below.refl _ _).alloc (aA _) o
theorem St.new {G D w0 H} {w:World} (s:St G D w0 H w) (t:TypeId) (cs:aj):St G D w0 (.row w.heap.size t 0 [] cs []::H) (w.alloc (.cells cs.toArray t)) :=
 s.add (N:=[.row w.heap.size t 0 [] cs []]) (Aiw _ _) (by intro p hp;simp at hp;subst hp;exact ⟨rfl,by simpa using Jd.made w t cs⟩) ⟨EO,trivial⟩ (by intro p hp b hb;simp at hp;subst hp;simp [Pc.F] at hb;subst hb;exact .inl (aA _))
inductive Put:aj->Nat->aj->aj->Prop
 | zero {cs}:Put cs 0 [] cs
 | one {x cs u l r}:Put cs 0 l r->Put (x::cs) 0 (u::l) (u::r)
 | skip {x cs j l r}:Put cs j l r->Put (x::cs) (j+1) l (x::r)
theorem Put.parts {cs j l r} (h:Put cs j l r):∃A o B,cs=A++o++B/\r=A++l++B/\A.length=j/\o.length=l.length:=by
 induction h with
 | @zero cs=>exact ⟨[],[],cs,EO,EO,rfl,rfl⟩
 | @one x cs u l r _ ih =>
  obtain ⟨A,o,B,rfl,rfl,hA,ho⟩:=ih;have:A=[]:=bK hA;subst this;exact ⟨[],x::o,B,EO,EO,rfl,by simp [ho]⟩
 | @skip x cs j l r _ ih =>
  obtain ⟨A,o,B,rfl,rfl,hA,ho⟩:=ih;exact ⟨x::A,o,B,EO,EO,by simp [hA],ho⟩
theorem Afb {P:Program} {t:TypeId} {n:Nat} (hs:(P.info? t).map (·.size)=some n) {w:World} {b o:Nat} {v:Value} {l:aj} (hv:v.cells=l.toArray) (hl:l.length=n) (ht:w.there b o n) (h1:l.all (·.oneCell')=true) :
  (Instr.storeAt t (.pointer (some ⟨b,o,none⟩)) v).run P w=.ok () (w.setCells b o l):=by
 subst hl;have:=run_storeCells_cells (P:=P) b o l 0 w (fun j hj=>by simpa using (ht j hj).1) (fun j hj=>by simpa using (ht j hj).2) (fun v hv=>aQ.1 h1 v hv);simp only [bO] at this;simp [Instr.storeAt,Instr.sureAddr,storeVar,Mi hs,hv,this]
theorem Awz {w:World} {g t o j:Nat} {A cs B l r:aj} (h:(Pc.row g t o A cs B).P w) (hp:Put cs j l r):(Pc.row g t o A r B).P (w.setCells g (o+j) l)/\Gc [g] w (w.setCells g (o+j) l):=by
 obtain ⟨rfl,h⟩:=h;obtain ⟨X,y,Y,rfl,rfl,rfl,hy⟩:=hp.parts;have h2:Jd w g t ((A++X)++y++(Y++B)):=EU
 have h3:=Jd.put l y h2 (p:=A.length+X.length) EO hy.symm;have hk:=K8 (g:=g) l w (A.length+X.length);rw [L7 w g l w] at h3 hk;exact ⟨⟨rfl,HL⟩,hk⟩
def Fn (P:Program) (f:FuncId) (args:aj) (A M:List Pc) {σ:Type} (C:σ->Prop) (v:σ->Value) (N:σ->List Pc):Prop :=
 ∀w,Nh (M++A) w->Rj (M++A)->Calls P f args.toArray w fun e w'=>∃s,C s/\e=.returned (v s)/\Nh (N s) w'/\Rj (N s)/\Gc (fp M) w w' /\
  ∀p∈N s,∀b∈p.F,w.heap.size<=b\/(∃q∈M,b∈q.F)\/(p.mu=false/\∃q∈A,b∈q.F)
inductive J3:List Pc->List Pc->List Pc->Prop
 | nil {H}:J3 H [] H
 | cons {H p R M S}:De H p R->J3 R M S->J3 H (p::M) S
theorem J3.st {G D w0 H M R w} (h:J3 H M R):∀{X:List Pc},St G D w0 (X++H) w->St G D w0 (X++(M++R)) w:=by
 induction h with
 | nil=>intro X s;simpa using s
 | @cons H p R M S hp _ ih =>
  intro X s;have h1:∀(X:List Pc),De (X++H) p (X++R):=by
   intro X;induction X with
   | nil=>exact hp
   | cons x X ih=>exact .there ih
  have h2:∀(X:List Pc),De (X++(p::(M++S))) p (X++(M++S)):=by
   intro X;induction X with
   | nil=>exact .here
   | cons x X ih=>exact .there ih
  have s1:=s.pick (h1 X);have s2:=ih (X:=p::X) (by simpa using s1);exact St.unpick (by simpa using s2) (h2 X)
inductive Md:List Pc->List Pc->Prop
 | nil {H}:Md [] H
 | cons {p A H}:p∈H->Md A H->Md (p::A) H
theorem Md.all {A H} (h:Md A H):∀p∈A,p∈H:=by
 induction h with
 | nil=>simp
 | cons h _ ih=>intro q hq;rcases aF.1 hq with rfl|hq;exact h;exact ih q hq
section
variable {c:Cx} {fr:Fr} {H:List Pc} {k:List It} {Φ:Gl} {ops:Array Oper} {rest:List Oper} {d:Nat} {o:Op} {ty:TypeId} {pos:String} {A8:Array Edge} {v u:Value} {x y:Operand}
theorem Bcf {o:Oper} (h:Ef c fr H o (.list k ops rest)) (hg:o.guard=none:=by rfl):T c fr H (.list k ops (o::rest)):=.mk fun a w s g =>
 wpList_plain hg fun K hK=>Oper.wp_mono hK (h.h _ a w s g)
theorem Ax0 {gd:Option (Nat × Bool)} (hy:Yd c.P c.n fr H o ty v) (hd:Nat.blt d c.n=true) (h:T c ((d,v)::fr) H Φ):Ef c fr H ⟨some d,o,ty,pos,A8,gd⟩ Φ:=Pl fun Q a w s g=>by
 rw [hy.h a w (some d) pos A8 gd g s.on];exact h.h _ _ s (g.put hd)
structure On (c:Cx) (fr:Fr) (H:List Pc) (od:Option Tmp) (o:Op) (ty:TypeId) (Φ:Gl):Prop where
 h:∀pos A8 gd,Ef c fr H ⟨od,o,ty,pos,A8,gd⟩ Φ
theorem wO {od:Option Tmp} (h:On c fr H od o ty (.list k ops rest)):T c fr H (.list k ops (⟨od,o,ty,pos,A8,none⟩::rest)):=Bcf (h.h pos A8 none)
theorem oc (hd:Nat.blt d c.n=true) (hy:Yd c.P c.n fr H o ty v) (h:T c ((d,v)::fr) H Φ):On c fr H (some d) o ty Φ:=⟨fun _ _ _=>Ax0 hy hd h⟩
/-! guards of a plain region -/
theorem Uf {a:Act} {j t:Nat} {b b':Bool} {od:Option Tmp} (ht:(ops[j]?).bind (·.dst)=some t) (hl:Q0 fr t=some (.bool b')) (g:Ag c.n fr a):Region.wanted ⟨od,o,ty,pos,A8,some (j,b)⟩ (yielded ops a.tmps)=(b' == b):=by
 simp only [Region.wanted,yielded,ht,eD,g.at_ t _ hl];cases b <;> cases b' <;> rfl
theorem Aut {j t:Nat} {b:Bool} {od:Option Tmp} (ht:(ops[j]?).bind (·.dst)=some t) (hl:Q0 fr t=some (.bool b)) (h:T c fr H (.list k ops (⟨od,o,ty,pos,A8,none⟩::rest))) :
  T c fr H (.list k ops (⟨od,o,ty,pos,A8,some (j,b)⟩::rest)):=.mk fun a w s g=>by
 have h1:=h.h a w s g;simp only [Gl.sem] at h1 ⊢;unfold wpList at h1 ⊢;rw [Uf (c:=c) ht hl g];simp only [Region.wanted,if_true,beq_self_eq_true] at h1 ⊢;exact h1
theorem Aus {j t:Nat} {b b':Bool} (ht:(ops[j]?).bind (·.dst)=some t) (hl:Q0 fr t=some (.bool b')) (hb:(b' == b)=false) (hd:Nat.blt d c.n=true) (h:T c ((d,undef)::fr) H (.list k ops rest)) :
  T c fr H (.list k ops (⟨some d,o,ty,pos,A8,some (j,b)⟩::rest)):=.mk fun a w s g=>by
 simp only [Gl.sem];unfold wpList;rw [Uf (c:=c) ht hl g,hb];simp only [dz,if_false];exact h.h _ _ s (g.put hd)
theorem Auu {j t:Nat} {b:Bool} (ht:(ops[j]?).bind (·.dst)=some t) (hl:Q0 fr t=some undef) (hd:Nat.blt d c.n=true) (h:T c ((d,undef)::fr) H (.list k ops rest)) :
  T c fr H (.list k ops (⟨some d,o,ty,pos,A8,some (j,b)⟩::rest)):=.mk fun a w s g=>by
 have hw:Region.wanted ⟨some d,o,ty,pos,A8,some (j,b)⟩ (yielded ops a.tmps)=false:=by
  simp only [Region.wanted,yielded,ht,eD,g.at_ t _ hl];rfl
 simp only [Gl.sem];unfold wpList;rw [hw];simp only [dz,if_false];exact h.h _ _ s (g.put hd)
theorem Dm {j t:Nat} {b:Bool} {od:Option Tmp} {p:Prop} {_:Decidable p} (ht:(ops[j]?).bind (·.dst)=some t) (hl:Q0 fr t=some (.bool (decide p))) (h1:p->T c ((t,.bool true)::fr) H (.list k ops (⟨od,o,ty,pos,A8,some (j,b)⟩::rest))) (h2:¬p->T c ((t,.bool false)::fr) H (.list k ops (⟨od,o,ty,pos,A8,some (j,b)⟩::rest))) :
  T c fr H (.list k ops (⟨od,o,ty,pos,A8,some (j,b)⟩::rest)):=.mk fun a w s g=>by
 by_cases hp:p
 ·rw [au hp] at hl;exact (h1 hp).h a w s ⟨g.df,g.sz,fun i z hz=>by rw [T4] at hz;split at hz;(rename_i e;subst e;rw [<-hz,g.at_ _ _ hl]);exact g.at_ i z hz⟩
 ·rw [ay hp] at hl;exact (h2 hp).h a w s ⟨g.df,g.sz,fun i z hz=>by rw [T4] at hz;split at hz;(rename_i e;subst e;rw [<-hz,g.at_ _ _ hl]);exact g.at_ i z hz⟩
/-! memory -/
theorem Arw {t:TypeId} {zs:aj} {gd:Option (Nat × Bool)} [hZ:ZC c.P t zs] (h:∀g,T c ((d,Fv g 0 0)::fr) (.row g t 0 [] zs []::H) Φ) (hd:Nat.blt d c.n=true:=by rfl):Ef c fr H ⟨some d,.alloc t,ty,pos,A8,gd⟩ Φ:=Pl fun Q a w s g=>by
 obtain ⟨z,hz,hzc⟩:=hZ.z;obtain ⟨i,hi,hiz⟩:=co.1 hz;have e:(execOp a.eval ⟨some d,.alloc t,ty,pos,A8,gd⟩).run c.P w=.ok (.value (Fv w.heap.size 0 0)) (w.alloc (.cells zs.toArray t)):=by
  simp [execOp,Instr.alloc,zeroValue,typeInfo,hi,hiz,newVar,newRow,hzc,Fv]
 rw [e];exact (h _).h _ _ (s.new t zs) (g.put hd)
theorem Ays {t:TypeId} {l:aj} {gd:Option (Nat × Bool)} (hx:ev fr x=some v) (hv:v.cells=l.toArray) (h:∀g,T c ((d,Fv g 0 0)::fr) (.row g t 0 [] l []::H) Φ) (hd:Nat.blt d c.n=true:=by rfl):Ef c fr H ⟨some d,.box t x,ty,pos,A8,gd⟩ Φ:=Pl fun Q a w s g=>by
 have e:(execOp a.eval ⟨some d,.box t x,ty,pos,A8,gd⟩).run c.P w=.ok (.value (Fv w.heap.size 0 0)) (w.alloc (.cells l.toArray t)):=by
  simp [execOp,Instr.box,g.ev hx,newVar,newRow,hv,Fv]
 rw [e];exact (h _).h _ _ (s.new t l) (g.put hd)
theorem Aiz {t g tt o' j m:Nat} {A cs B l r:aj} {S:List Pc} {gd:Option (Nat × Bool)} (hs:(c.P.info? t).map (·.size)=some m) (hx:ev fr x=some (Fv g o' j)) (hy:ev fr y=some v) (hv:v.cells=l.toArray) (hl:l.length=m) (h1:l.all (·.oneCell')=true)
  (hp:Put cs j l r) (hr:Rpl H (.row g tt o' A cs B) (.row g tt o' A r B) S) (h:T c fr S Φ):Ef c fr H ⟨none,.store t x y,ty,pos,A8,gd⟩ Φ:=Pl fun Q a w s ag=>by
 have hP:(Pc.row g tt o' A cs B).P w:=by obtain ⟨R,h1,_⟩:=hr.picks;exact s.on _ h1.mem
 have ht:w.there g (o'+j) m:=fun i hi=>by
  obtain ⟨X,z,Y,rfl, -,rfl,hz⟩:=hp.parts;have:=Aqb hP (X.length+i) ET
  rwa [<-eX] at this
 have e:(execOp a.eval ⟨none,.store t x y,ty,pos,A8,gd⟩).run c.P w=.ok .skip (w.setCells g (o'+j) l):=by
  simp [execOp,ag.ev hx,ag.ev hy,Fv,Afb hs hv hl ht h1]
 rw [e];have ⟨h2,h3⟩:=Awz hP hp;exact h.h _ _ (s.rpl hr rfl (fun b hb=>.inl hb) h3 h2) ag
theorem Cq {t:TypeId} {zs:aj} [hZ:ZC c.P t zs] (hd:Nat.blt d c.n=true) (h:∀g,T c ((d,Fv g 0 0)::fr) (.row g t 0 [] zs []::H) Φ):On c fr H (some d) (.alloc t) ty Φ:=⟨fun _ _ _=>Arw h hd⟩
theorem Ba8 {t:TypeId} {l:aj} (hd:Nat.blt d c.n=true) (hx:ev fr x=some v) (hv:v.cells=l.toArray) (h:∀g,T c ((d,Fv g 0 0)::fr) (.row g t 0 [] l []::H) Φ):On c fr H (some d) (.box t x) ty Φ:=⟨fun _ _ _=>Ays hx hv h hd⟩
theorem Asz {t g tt o' j m:Nat} {A cs B l r:aj} {S:List Pc} (hx:ev fr x=some (Fv g o' j)) (hy:ev fr y=some v) (hv:v.cells=l.toArray) (hs:(c.P.info? t).map (·.size)=some m) (hl:l.length=m) (hr:Rpl H (.row g tt o' A cs B) (.row g tt o' A r B) S) (hp:Put cs j l r) (h1:l.all (·.oneCell')=true) (h:T c fr S Φ):On c fr H none (.store t x y) ty Φ :=
 ⟨fun _ _ _=>Aiz hs hx hy hv hl h1 hp hr h⟩
/-! calls -/
theorem Axw {f:Nat} {aS:List Operand} {ts:Array TypeId} {vs:aj} {gd:Option (Nat × Bool)} (h:Cl c fr H d f vs Φ) (ha:Evs fr aS vs) (hb:O2 c.P f=true) (hd:Nat.blt d c.n=true):Ef c fr H ⟨some d,.call { callee:=.value (.func f),args:=aS.toArray,argTypes:=ts },ty,pos,A8,gd⟩ Φ:=Pl fun Q a w s g=>by
 have e:(execOp a.eval ⟨some d,.call { callee:=.value (.func f),args:=aS.toArray,argTypes:=ts },ty,pos,A8,gd⟩).run c.P w=(callFunc f vs.toArray).run c.P w:=by
  simp [execOp,resolve,Deferred.ofValue,Act.eval,invoke,g.evs ha]
 rw [e];obtain ⟨R,hc,hk⟩:=h.h w s;refine (Uo hb).upon hc fun e w' hR=>?_;obtain ⟨v,he,hv⟩:=hk e w' hR;exact ⟨v,he,hv _ (g.put hd)⟩
theorem Yq {f:Nat} {vs:aj} {R:World->Ending->World->Prop} (hc:∀w,St c.G c.D c.w0 H w->Calls c.P f vs.toArray w (R w))
  (hk:∀w e w',St c.G c.D c.w0 H w->R w e w'->∃v,e=.returned v/\∀a,Ag c.n ((d,v)::fr) a->Φ.sem c a w'):Cl c fr H d f vs Φ:=⟨fun w s=>⟨R w,hc w s,fun e w' hR=>hk w e w' s hR⟩⟩
theorem cb {f:Nat} {vs:aj} (hc:∀w,St c.G c.D c.w0 H w->Calls c.P f vs.toArray w (RB v w)) (h:T c ((d,v)::fr) H Φ):Cl c fr H d f vs Φ :=
 Yq hc fun w e w' s ⟨he,hB⟩=>⟨v,he,fun a g=>h.h a w' (s.below hB) g⟩
theorem ce {f:Nat} {vs:aj} (hc:∀w,St c.G c.D c.w0 H w->Calls c.P f vs.toArray w fun e w'=>e=.returned v/\w=w') (h:T c ((d,v)::fr) H Φ):Cl c fr H d f vs Φ :=
 Yq hc fun w e w' s ⟨he,hB⟩=>⟨v,he,fun a g=>h.h a w' (hB▸s) g⟩
theorem cf_ {f:Nat} {vs:aj} {A M R:List Pc} {σ:Type} {C:σ->Prop} {vv:σ->Value} {N:σ->List Pc} (hf:Fn c.P f vs A M C vv N) (h:∀s,C s->T c ((d,vv s)::fr) (N s++R) Φ)
  (hM:J3 H M R) (hA:Md A R) (hmM:M.all (·.mu)=true) (hmA:A.all (fun p=>!p.mu)=true):Cl c fr H d f vs Φ :=
 have hMR:∀w,St c.G c.D c.w0 H w->St c.G c.D c.w0 (M++R) w:=fun w s=>by simpa using hM.st (X:=[]) HI
 have hmu:∀p∈M,p.mu=true:=fun p hp=>aQ.1 hmM p hp;have hro:∀p∈A,p.mu=false:=fun p hp=>by simpa using aQ.1 hmA p hp
 have hpre:∀w,St c.G c.D c.w0 H w->Nh (M++A) w/\Rj (M++A):=fun w s=>by
  have s2:=hMR w s;have hAR:=hA.all;refine ⟨fun p hp=>?_,?_⟩
  ·rcases aG.1 hp with hp|hp
   ·exact s2.on p HF
   ·exact s2.on p (by simp [hAR p hp])
  ·have:∀(M:List Pc),Rj (M++R)->Rj (M++A):=by
    intro M
    induction M with
    | nil =>
     intro _;have:∀(A:List Pc),(∀p∈A,p.mu=false)->Rj A:=by
      intro A
      induction A with
      | nil=>intro _;trivial
      | cons p A ih=>intro h;exact ⟨fun q hq hm=>by rw [h p EO,h q FB] at hm;simp at hm,ih fun q hq=>h q FB⟩
     exact this A hro
    | cons p M ih =>
     intro hs;exact ⟨fun q hq=>hs.1 q (by rcases aG.1 hq with h|h;simp [h];simp [hAR q h]),ih hs.2⟩
   exact this M s2.sep
 Yq (R:=fun w e w'=>∃s,C s/\e=.returned (vv s)/\Nh (N s) w'/\Rj (N s)/\Gc (fp M) w w'/\∀p∈N s,∀b∈p.F,w.heap.size<=b\/(∃q∈M,b∈q.F)\/(p.mu=false/\∃q∈A,b∈q.F))
  (fun w s=>hf w (hpre w s).1 (hpre w s).2)
  (fun w e w' s ⟨z,hz,he,hN,hS,hK,hF⟩=>⟨_,he,fun a g=>(h z hz).h a w' (St.turn (hMR w s) (by rwa [dw.2 hmu]) hN hS fun p hp b hb=>by
   rcases hF p hp b hb with h|⟨q,hq,hqb⟩|⟨hp,q,hq,hqb⟩
   ·exact DS
   ·exact .inr (.inl ⟨q,hq,hmu q hq,hqb⟩)
   ·exact .inr (.inr ⟨hp,q,by simp [hA.all q hq],hro q hq,hqb⟩)) g⟩)
theorem Ahp {f:Nat} {aS:List Operand} {ts:Array TypeId} {vs:aj} (hd:Nat.blt d c.n=true) (hb:O2 c.P f=true) (ha:Evs fr aS vs) (h:Cl c fr H d f vs Φ):On c fr H (some d) (.call { callee:=.value (.func f),args:=aS.toArray,argTypes:=ts }) ty Φ:=⟨fun _ _ _=>Axw h ha hb hd⟩
/-! a function's beginning and end -/
end
def Agy (P:Program) (w:World) (A M:List Pc) {σ:Type} (C:σ->Prop) (v:σ->Value) (N:σ->List Pc) (e:Ending) (w':World):Prop:=∃s,C s/\e=.returned (v s)/\Nh (N s) w'/\Rj (N s)/\Gc (fp M) w w' /\
  ∀p∈N s,∀b∈p.F,w.heap.size<=b\/(∃q∈M,b∈q.F)\/(p.mu=false/\∃q∈A,b∈q.F)
def Aiv:Nat->aj->Fr
 | _,[]=>[]
 | i,v::r=>(i,v)::Aiv (i+1) r
theorem Apn (vs:aj):∀i t v,Q0 (Aiv i vs) t=some v->i<=t/\vs[t - i]?=some v:=by
 induction vs with
 | nil=>intro i t v h;cases h
 | cons x r ih =>
  intro i t v h;unfold Aiv at h;rw [T4] at h
  split at h
  ·rename_i e;subst e;exact ⟨aA _,EU⟩
  ·have ⟨h1,h2⟩:=ih (i+1) t v h;refine ⟨EM,?_⟩;rw [show t - i=(t - (i+1))+1 by omega,bE];exact h2
theorem Ar1 {P:Program} {f:FuncId} {fn:Func} {cd:Code} {args:aj} {A M:List Pc} {σ:Type} {C:σ->Prop} {v:σ->Value} {N:σ->List Pc} (hf:P.funcs[f]?=some fn) (hb:fn.body=some cd)
  (h:∀w,T ⟨P,fp M,fp A,w,fn.ntmps,bodyPost P fn (Agy P w A M C v N)⟩ (Aiv 0 args) (M++A) (.Cd [] cd))
  (hn:args.length<=fn.ntmps) (hmA:A.all (fun p=>!p.mu)=true):Fn P f args A M C v N:=fun w hH hS=>by
 refine calls_of_wp hf hb ?_;have hro:∀p∈A,p.mu=false:=fun p hp=>by simpa using aQ.1 hmA p hp
 refine (h w).h _ _ ⟨Gc.refl _ _,hH,hS,fun p hp b hb=>?_⟩ ⟨rfl,ET,fun t u hu=>?_⟩
 ·rcases aG.1 hp with hp|hp
  ·exact .inl (O8.2 ⟨p,hp,hb⟩)
  ·exact .inr (.inr ⟨hro p hp,O8.2 ⟨p,hp,hb⟩⟩)
 ·obtain ⟨-,h2⟩:=Apn args 0 t u hu;simp only [Nat.sub_zero] at h2;show (args.toArray++Array.replicate (fn.ntmps - args.toArray.size) undef)[t]?=_;have ht:t < args.length:=(bh.1 h2).1;rw [fe (by simpa using ht)];simpa using h2
inductive Res (P:Program) (fr:Fr) (H:List Pc):List ResultVar->aj->Prop
 | nil:Res P fr H [] []
 | tmp {t v r vs}:Q0 fr t=some v->Res P fr H r vs->Res P fr H (.tmp t::r) (v::vs)
 | agg {t ty m g o tt A cs B r vs}:AggC P ty m->Q0 fr t=some (Fv g o 0)->Pc.row g tt o A cs B∈H->cs.length=m->Res P fr H r vs->Res P fr H (.cell t ty::r) (.agg cs.toArray::vs)
 | one {t ty g o tt A v B r vs}:OneC P ty->Q0 fr t=some (Fv g o 0)->Pc.row g tt o A [v] B∈H->Res P fr H r vs->Res P fr H (.cell t ty::r) (v::vs)
theorem Cut.whole:∀(l:aj),Cut l 0 l.length l
 | []=>.zero
 | _::r=>.one (Cut.whole r)
theorem Ac8 (x:Addr):asAddr (.pointer (some x))=pure x:=rfl
theorem Awv {P:Program} {fr:Fr} {H:List Pc} {n:Nat} {rs vs} (f:ResultVar->Sem Value) {a:Act} (f1:∀t,f (.tmp t)=pure (a.tmps.getD t undef)) (f2:∀p t,f (.cell p t)=do loadVar t (<-asAddr (a.tmps.getD p undef)))
  (h:Res P fr H rs vs) {w:World} (g:Ag n fr a) (hH:Nh H w):(rs.mapM f).run P w=.ok vs w:=by
 simp only [eU] at f1 f2
 induction h with
 | nil=>simp
 | tmp hl _ ih=>simp [fE,f1,g.at_ _ _ hl,ih]
 | @agg t ty m gg o tt A cs B r vs hT hl hm hc _ ih =>
  have h1:=Adw (hT:=hT) (j:=0) (Hq (hH _ hm)) (by rw [<-hc];exact Cut.whole cs);exact DL
 | @one t ty gg o tt A v B r vs hT hl hm _ ih =>
  have h1:=Adx (hT:=hT) (Zn (j:=0) (hH _ hm) rfl);exact DL
def Sr:aj->Value
 | [v]=>v
 | vs=>.tuple vs.toArray
theorem Aj8 {P:Program} {fr:Fr} {H:List Pc} {n:Nat} {fn:Func} {rs vs} (hr:fn.results=rs.toArray) (h:Res P fr H rs vs) {a:Act} {w:World} (g:Ag n fr a) (hH:Nh H w):(results fn a.tmps).run P w=.ok (Sr vs) w:=by
 unfold results;rw [hr];simp only [Sem.run_bind,Array.mapM_eq_mapM_toList];have:∀(f:ResultVar->Sem Value),(rs.mapM f).run P w=.ok vs w->((List.toArray <$> rs.mapM f:Sem (Array Value))).run P w=.ok vs.toArray w:=fun f hf=>by
  simp [hf]
 refine (congrArg (fun x=>Result.andThen x _) (this _ (Awv _ ?_ ?_ h g hH))).trans ?_
 ·intro t;rfl
 ·intro p t;rfl
 simp only [Result.andThen_ok,Sem.run_pure]
 congr 1
 match vs with
 | []=>rfl
 | [v]=>rfl
 | v::u::r=>simp [Sr]
theorem Ayv {P:Program} {fn:Func} {G D:ak} {w0:World} {n:Nat} {A M:List Pc} {σ:Type} {C:σ->Prop} {v:σ->Value} {N:σ->List Pc} {fr:Fr} {H:List Pc} {rs:List ResultVar} {vs:aj} (s:σ) (hC:C s)
  (hr:fn.results=rs.toArray) (h:Res P fr H rs vs) (hv:Sr vs=v s) (hN:Kl H (N s)) (hG:G=fp M) (hD:D=fp A):T ⟨P,G,D,w0,n,bodyPost P fn (Agy P w0 A M C v N)⟩ fr H (.fin .ret):=.mk fun a w st g=>by
 subst hG hD;refine ⟨g.df,_,Aj8 hr h g st.on,s,hC,by rw [hv],?_⟩;have s2:=st.sub hN;refine ⟨s2.on,s2.sep,s2.Nu,fun p hp b hb=>?_⟩;rcases s2.Aas p hp b hb with h|h|⟨h1,h⟩
 ·exact .inr (.inl (O8.1 h))
 ·exact DS
 ·exact .inr (.inr ⟨h1,O8.1 h⟩)
theorem Sl.dropS {P:Program} {α:Type} {E:B8 α} {w:World} {a:ai} {n cap:Nat} {xs:List α} {F} (h:Sl E w (ab a n cap) xs F) (t:TypeId) (ht:P.underlying t=some (.slice (P.elem t))) (k:Nat) (hk:k<=xs.length)
  (hs:∀W,(sizeOf (P.elem t)).run P W=.ok E.sz W):∃a2 c2 F',(∀W,(Instr.sliceAt t (ab a n cap) (some (aa (k:Int))) none none).run P W=.ok (ab a2 (xs.length - k) c2) W)/\(∀b∈F',b∈F)/\Sl E w (ab a2 (xs.length - k) c2) (xs.drop k) F':=by
 obtain ⟨a',cap',hv,hl,h⟩:=h;cases hv;have hrun:∀W,(Instr.sliceAt t (ab a xs.length cap) (some (aa (k:Int))) none none).run P W=.ok (ab (if cap=k then a else a.map (·.add (k * E.sz))) (xs.length - k) (cap - k)) W:=fun W=>by
  rw [run_sliceAt_slice (h:=ht),run_slice_l (ht:=ht) (h0:=EM) (h1:=EM),hs];simp [Result.andThen,sliced]
 refine ⟨if cap=k then a else a.map (·.add (k * E.sz)),cap - k,?_⟩;rcases h with ⟨rfl,rfl,h0⟩|⟨b,off,F',rfl,hne,rfl,hc⟩
 ·refine ⟨[],hrun,EO,if cap=k then a else a.map (·.add (k * E.sz)),cap - k,EO,⟨EO,EM⟩,.inl ⟨EO,rfl,fun e=>?_⟩⟩;cases a with
  | none=>rw [h0 rfl];simp
  | some ad=>split at e <;> simp at e
 ·by_cases hkn:k=xs.length
  ·subst hkn;refine ⟨[],hrun,EO,if cap=xs.length then some ⟨b,off,none⟩ else (some (⟨b,off,none⟩:Addr)).map (·.add (xs.length * E.sz)),cap - xs.length,EO,⟨EO,EM⟩,.inl ⟨EO,rfl,fun e=>?_⟩⟩
   split at e <;> simp at e
  ·obtain ⟨cs,hf,hcs⟩:=hc.flat;have e:xs=xs.take k++xs.drop k:=EO
   rw [e] at hf;obtain ⟨c1,c2,G1,G2,rfl,rfl,h1,h2⟩:=hf.split;have hl1:=h1.len;have hck:¬cap=k:=EM
   rw [aL,cT EM] at hl1;refine ⟨b::G2,hrun,by intro x hx;simp at hx ⊢;rcases hx with hx|hx <;> simp [hx],some ⟨b,off+k * E.sz,none⟩,cap - k,?_,⟨ET,EM⟩,.inr ⟨b,off+k * E.sz,G2,rfl,fun e=>?_,rfl,h2.cells fun j u hu=>?_⟩⟩
   ·rw [aq hck];simp only [cj,Addr.add,aU,Value.slice.injEq,Option.some.injEq,de,cP];by_cases h0:k * E.sz=0 <;> simp [h0]
   ·have:=congrArg List.length e;simp at this;omega
   ·have:=hcs (c1.length+j) u JC;rw [<-this,hl1];congr 2;omega
theorem Cb {p:Pc} {H:List Pc} (h:p∈H:=by (repeat (first|exact .head _|apply List.Mem.tail));first|done|fail):p∈H:=h
theorem Ayr {l:aj} {j m:Nat} {r:aj} (h:Cut l j m r:=by repeat constructor):Cut l j m r:=h
theorem As9 {l r s:aj} {j:Nat} (h:Put l j r s:=by first|exact .one .zero|repeat constructor):Put l j r s:=h
theorem Tt {fr:Fr} {aS:List Operand} {vs:aj} (h:Evs fr aS vs:=by repeat (first|exact Evs.nil|apply Evs.cons FC)):Evs fr aS vs:=h
theorem Ats {H S:List Pc} {p q:Pc} (h:Rpl H p q S:=by (repeat (first|exact .here|apply Rpl.there));first|done|fail):Rpl H p q S:=h
theorem En {H R:List Pc} {p:Pc} (h:De H p R:=by (repeat (first|exact .here|apply De.there));first|done|fail):De H p R:=h
theorem Ad3 {H M R:List Pc} (h:J3 H M R:=by repeat (first|exact J3.nil|apply J3.cons (by exact En))):J3 H M R:=h
theorem hsE {A H:List Pc} (h:Kl A H:=by repeat (first|exact Kl.nil|refine Kl.cons (by exact En) ?_)):Kl A H:=h
theorem frE {a b:Fr} (h:L6 a b:=by repeat (first|exact L6.nil|refine L6.cons FC ?_)):L6 a b:=h
theorem Aop (l:aj):∀(k off:Nat) (A o B:aj),A.length=off+k->o.length=l.length->(l.zipIdx k).foldl (fun (cs:Array Value) (x:Value × Nat)=>cs.setIfInBounds (off+x.2) x.1) (A++o++B).toArray=(A++l++B).toArray:=by
 induction l with
 | nil=>intro k off A o B _ ho;simp at ho;subst ho;simp
 | cons u r ih =>
  intro k off A o B hA ho;cases o with
  | nil=>simp at ho
  | cons z o =>
   rw [List.zipIdx_cons,List.foldl_cons];have h4:(A++(z::o)++B).toArray.setIfInBounds (off+k) u=((A++[u])++o++B).toArray:=by
    rw [<-hA];simp [List.set_append]
   show List.foldl _ ((A++(z::o)++B).toArray.setIfInBounds (off+k) u) _=_;rw [h4,ih (k+1) off (A++[u]) o B ET (by simpa using ho)];simp
inductive Fil (pl:Nat->Option (Nat × Nat)) (fr:Fr):aj->List (Nat × Operand)->aj->Prop
 | nil {cs}:Fil pl fr cs [] cs
 | cons {cs i x ps v l off r q}:ev fr x=some v->v.cells=l.toArray->pl i=some (off,l.length)->Put cs off l r->Fil pl fr r ps q->Fil pl fr cs ((i,x)::ps) q
theorem Fil.run {pl:Nat->Option (Nat × Nat)} {fr:Fr} {n:Nat} {cs q:aj} {ps:List (Nat × Operand)} (h:Fil pl fr cs ps q) {a:Act} (g:Ag n fr a):Instr.fill pl cs.toArray (ps.map fun (i,x)=>(i,a.eval x))=some q.toArray:=by
 induction h with
 | nil=>rfl
 | @cons cs i x ps v l off r q hx hv hp hput _ ih =>
  obtain ⟨A,o,B,rfl,rfl,rfl,ho⟩:=hput.parts;rw [bL];unfold Instr.fill;simp only [hp,g.ev hx,hv];have h1:¬((l.toArray.size≠l.length)\/(A.length+l.toArray.size > (A++o++B).toArray.size)):=ET
  rw [aq GU];have h2:l.toArray.zipIdx.foldl (fun (cs:Array Value) (x:Value × Nat)=>cs.setIfInBounds (A.length+x.2) x.1) (A++o++B).toArray=(A++l++B).toArray:=by
   rw [<-Array.foldl_toList];have:=Aop l 0 A.length A o B rfl ho;simpa using this
  rw [h2];exact ih
theorem Ie {pl:Nat->Option (Nat × Nat)} {fr:Fr} {cs q:aj} {ps:List (Nat × Operand)} (h:Fil pl fr cs ps q:=by repeat (first|exact Fil.nil|apply Fil.cons FC FC FC (by repeat constructor))):Fil pl fr cs ps q:=h
theorem Bbh {P:Program} {n:Nat} {fr:Fr} {H:List Pc} {ty:TypeId} {t:Nat} {pl:List (Nat × Nat)} {zs q:aj} {ps:List (Nat × Operand)} [hB:BldC P t pl zs] (hf:Fil (pl.toArray[·]?) fr zs ps q):Yd P n fr H (.build t ps.toArray) ty (.agg q.toArray):=.mk fun a w d pos A8 gd g _=>by
 have h3:=hf.run g;have h4:=run_build (P:=P) w t (ps.map fun (i,x)=>(i,a.eval x)).toArray q.toArray (by rw [hB.b];exact h3);simp only [cO] at h4;simp [execOp,h4]
theorem ydE {P:Program} {n:Nat} {fr:Fr} {H:List Pc} {o:Op} {ty:TypeId} {v:Value} (h:Yd P n fr H o ty v:=by first|(apply Axn;rfl)|(apply Aqr;rfl)|(apply Bal;rfl)|(apply Bbk;rfl)|(apply Bbp;rfl;exact Cb;rfl)|(apply Bad;rfl;exact Cb;rfl)|(apply Bac;rfl;exact Cb;exact Ayr)|(apply Axl;rfl;exact Cb;exact Ayr)|(apply Aqv;rfl;rfl)|(apply Aqu;rfl;rfl)|(apply Bae;rfl)|(apply Axm;rfl)|(apply Bbj;rfl;rfl)|(apply Az9;rfl;rfl)|(apply Axk;rfl;exact Ayr)|(apply Bbr;rfl;rfl)|(apply Bbq;rfl;rfl)|(apply Bbn;rfl;rfl)|(apply Bbm;rfl;rfl)|(apply Bbi;rfl;rfl)|(apply Bbs;rfl;rfl)|(apply Az5;rfl;rfl;omega;omega)|(apply Bap;rfl;rfl;omega;omega)|(apply Az8;rfl;rfl)|(apply Bak;rfl;rfl)|(apply Az6;rfl;rfl;omega)|(apply Axp;rfl)|(apply Bam;rfl)|(apply Baj;rfl;omega;omega)|(apply Bbo;rfl;rfl;omega;omega)|(apply Bab;rfl;rfl;omega;omega)|(apply Ban;rfl;rfl;omega;omega;omega)|(apply Bao;rfl;rfl;omega;omega)|(apply Bah;rfl;rfl;omega;omega)|(apply An3;rfl;omega;omega)|(apply Az7;rfl;rfl)|(apply Bai;rfl;rfl)|(apply Bbl;exact Tt)|(apply Axo;rfl)|(apply Bag;rfl;rfl)|(apply Baf;rfl;rfl)|(apply Bbh;exact Ie)):Yd P n fr H o ty v:=h
section
variable {c:Cx} {fr:Fr} {H:List Pc} {k:List It} {Φ:Gl} {ops:Array Oper} {rest:List Oper} {d:Nat} {o:Op} {ty:TypeId} {pos:String} {A8:Array Edge} {v u:Value} {x y:Operand}
theorem st {t g tt o' j m:Nat} {A cs B l r:aj} {S:List Pc} {gd:Option (Nat × Bool)} (h:T c fr S Φ) (hx:ev fr x=some (Fv g o' j):=by rfl) (hy:ev fr y=some v:=by rfl) (hv:v.cells=l.toArray:=by rfl) (hs:(c.P.info? t).map (·.size)=some m:=by first|exact AggC.s|exact OneC.s) (hl:l.length=m:=by rfl)
  (hr:Rpl H (.row g tt o' A cs B) (.row g tt o' A r B) S:=by (repeat (first|exact .here|apply Rpl.there));first|done|fail) (hp:Put cs j l r:=by first|exact .one .zero|repeat constructor) (h1:l.all (·.oneCell')=true:=by rfl):Ef c fr H ⟨none,.store t x y,ty,pos,A8,gd⟩ Φ:=Aiz hs hx hy hv hl h1 hp hr h
theorem ca {f:Nat} {aS:List Operand} {ts:Array TypeId} {vs:aj} {gd:Option (Nat × Bool)} (h:Cl c fr H d f vs Φ) (ha:Evs fr aS vs:=by repeat (first|exact Evs.nil|apply Evs.cons FC)) (hb:O2 c.P f=true:=by kernel_rfl) (hd:Nat.blt d c.n=true:=by rfl):Ef c fr H ⟨some d,.call { callee:=.value (.func f),args:=aS.toArray,argTypes:=ts },ty,pos,A8,gd⟩ Φ:=Axw h ha hb hd
theorem cf {f:Nat} {vs:aj} {A M R:List Pc} {σ:Type} {C:σ->Prop} {vv:σ->Value} {N:σ->List Pc} (hf:Fn c.P f vs A M C vv N) (h:∀s,C s->T c ((d,vv s)::fr) (N s++R) Φ)
  (hM:J3 H M R:=by repeat (first|exact J3.nil|apply J3.cons (by exact En))) (hA:Md A R:=by repeat (first|exact Md.nil|refine Md.cons EQ ?_)) (hmM:M.all (·.mu)=true:=by rfl) (hmA:A.all (fun p=>!p.mu)=true:=by rfl):Cl c fr H d f vs Φ:=cf_ hf h hM hA hmM hmA
inductive Aie:List Pc->List Pc->List Pc->Prop
 | nil {R}:Aie [] R R
 | cons {p N R X}:Aie N R X->Aie (p::N) R (p::X)
theorem Aie.eq {N R X} (h:Aie N R X):N++R=X:=by
 induction h with
 | nil=>rfl
 | cons _ ih=>simp [ih]
theorem Q3 {N R X:List Pc} (h:T c fr X Φ) (hX:Aie N R X:=by repeat constructor):T c fr (N++R) Φ:=by rw [hX.eq];exact h
theorem St.ro {G D w0 w} {p q:Pc} (s:St G D w0 H w) (hq:q∈H) (hm:q.mu=false) (hpm:p.mu=false) (hp:p.P w) (hF:∀b∈p.F,b∈q.F):St G D w0 (p::H) w :=
 s.add (N:=[p]) (Below.refl _ _) (by intro x hx;simp at hx;subst hx;exact hp) ⟨EO,trivial⟩ (by intro x hx b hb;simp at hx;subst hx;exact .inr ⟨hpm,q,hq,hm,hF b hb⟩)
theorem St.conv {G D w0 w} {p q:Pc} {S:List Pc} (s:St G D w0 (p::S) w) (hm:p.mu=true) (hq:q.P w) (hF:∀b∈q.F,b∈p.F):St G D w0 (q::S) w :=
 St.turn (M:=[p]) (N:=[q]) s (Gc.refl _ w) (by intro x hx;simp at hx;subst hx;exact hq) ⟨EO,trivial⟩ (by intro x hx b hb;simp at hx;subst hx;exact .inr (.inl ⟨p,EO,hm,hF b hb⟩))
/-! elements, parts of slices that read -/
theorem Vm {α:Type} {E:B8 α} {w:World} {a:ai} {n cp:Nat} {xs:List α} {F:ak} (h:(Pc.sl E (ab a n cp) xs F).P w) (i:Nat) (hi:i < xs.length) :
  ∃b o cs G,a=some ⟨b,o,none⟩/\E.L5 w cs xs[i] G/\(∀x∈G,x∈F)/\b∈F/\cs≠[]/\w.rangeAt b (o+i * E.sz) cs:=by
 obtain ⟨hz,a',cap,hv,hl,h|⟨b,o,F',rfl,hne,rfl,hc⟩⟩:=h
 ·rw [h.1] at hi;simp at hi
 ·simp only [Value.slice.injEq] at hv;obtain ⟨rfl, -, -⟩:=hv;obtain ⟨cs,F1,h1,h2,h3⟩:=hc.get i hi;have hl:=E.len h1;refine ⟨b,o,cs,F1,rfl,h1,fun x hx=>by simp [h3 x hx],EO,fun e=>by subst e;simp at hl;omega,fun j u hu=>?_⟩;have hj:j < E.sz:=by have:=(bh.1 hu).1;omega
  rw [h2 j hj];exact hu
theorem Jg {a:ai} {n cp:Nat} {xs:al} {F:ak} (i:Nat) (h:∀(hi:i < xs.length) b o,a=some ⟨b,o,none⟩->T c fr (.cel b (o+i * 1) [aa xs[i]]::H) Φ) (hm:.sl Bi (ab a n cp) xs F∈H:=by exact Cb) (hi:i < xs.length:=by omega):T c fr H Φ:=.mk fun ac w s g=>by
 obtain ⟨b,o,cs,G,ha,⟨rfl,rfl⟩, -,hb,hne,hr⟩:=Vm (s.get hm) i hi;exact (h hi b o ha).h ac w (s.ro hm rfl rfl ⟨hne,hr⟩ FM) g
theorem Xk {a:ai} {n cp:Nat} {xs:ah} {F:ak} (i:Nat) (h:∀(hi:i < xs.length) b o,a=some ⟨b,o,none⟩->xs[i].size<=maxLen->T c fr (.cel b (o+i * 1) [af xs[i]]::H) Φ) (hm:.sl Bc (ab a n cp) xs F∈H:=by exact Cb) (hi:i < xs.length:=by omega):T c fr H Φ:=.mk fun ac w s g=>by
 obtain ⟨b,o,cs,G,ha,⟨rfl,hs,rfl⟩, -,hb,hne,hr⟩:=Vm (s.get hm) i hi;exact (h hi b o ha hs).h ac w (s.ro hm rfl rfl ⟨hne,hr⟩ FM) g
theorem Az {α:Type} {E:B8 α} {t:TypeId} {v:Value} {xs:List α} {F:ak} {S:List Pc} (h:∀F',T c fr (.sl E v xs F'::S) Φ) (hp:De H (.ow E t v xs F) S:=by exact En) (hz:0 < E.sz:=by decide):T c fr H Φ:=.mk fun a w s g=>by
 have s1:=s.pick hp;obtain ⟨-,ho⟩:=s1.on (.ow E t v xs F) EO;obtain ⟨F',hF,hs⟩:=ho.read;exact (h F').h a w (s1.conv rfl ⟨hz,hs⟩ hF) g
theorem Ow.takeO {α:Type} {E:B8 α} {t:TypeId} {w:World} {a:ai} {n cp:Nat} {xs:List α} {F:ak} (h:Ow E t w (ab a n cp) xs F) (k:Nat) (hk:k<=xs.length):∃F',F'.Sublist F/\Ow E t w (ab a k cp) (xs.take k) F':=by
 rcases h with ⟨h1,rfl,rfl⟩|⟨g,cap,cs,rest,G,h1,h2,h3,h4,h5,h6,rfl⟩
 ·cases h1;have:k=0:=by simpa using hk
  subst this;exact ⟨[],.slnil,.inl ⟨rfl,rfl,rfl⟩⟩
 ·cases h1;rw [<-bm k xs] at h6;obtain ⟨c1,c2,G1,G2,rfl,rfl,f1,f2⟩:=h6.split;have hl:(xs.take k).length=k:=by simp [cT hk]
  refine ⟨g::G1,(List.sublist_append_left G1 G2).cons_cons g,.inr ⟨g,cp,c1,c2++rest,G1,by rw [hl],by rw [<-aJ];exact h2,EM,h4,by simp only [aw] at h5 ⊢;omega,f1,rfl⟩⟩
theorem Aem {α:Type} {E:B8 α} {t:TypeId} {a:ai} {n cp:Nat} {xs:List α} {F:ak} {S:List Pc} (k:Nat) (h:∀F',T c fr (.ow E t (ab a k cp) (xs.take k) F'::S) Φ) (hk:k<=xs.length:=by omega) (hp:De H (.ow E t (ab a n cp) xs F) S:=by exact En):T c fr H Φ:=.mk fun ac w s g=>by
 have s1:=s.pick hp;obtain ⟨hn,ho⟩:=s1.on (.ow E t (ab a n cp) xs F) EO;obtain ⟨F',hF,hs⟩:=ho.takeO k hk;exact (h F').h ac w (s1.conv rfl ⟨hn.sublist hF,hs⟩ hF.subset) g
theorem Anq {α:Type} {E:B8 α} {t:TypeId} {a:ai} {n cp:Nat} {xs:List α} {F:ak} (h:n<=cp->cp<=9223372036854775807->T c fr H Φ) (hm:.ow E t (ab a n cp) xs F∈H:=by exact Cb):T c fr H Φ:=.mk fun ac w s g=>by
 obtain ⟨-,h'|⟨g',cap,cs,rest,G,h1,h2,h3,h4, -⟩⟩:=s.get hm
 ·obtain ⟨h1,h2, -⟩:=h';cases h1;exact (h EO EN).h ac w s g
 ·cases h1;exact (h h3 (by unfold maxLen at h4;omega)).h ac w s g
theorem B4 {α:Type} (E:B8 α) (t:TypeId) (h:T c fr (.ow E t (ab none 0 0) [] []::H) Φ):T c fr H Φ:=.mk fun a w s g =>
 h.h a w (s.add (N:=[.ow E t (ab none 0 0) [] []]) (Below.refl _ _) (by intro p hp;simp at hp;subst hp;exact ⟨EO,.inl ⟨rfl,rfl,rfl⟩⟩) ⟨EO,trivial⟩ (by intro p hp b hb;simp at hp;subst hp;simp [Pc.F] at hb)) g
theorem Bn {α:Type} (E:B8 α) (hz:0 < E.sz) (h:T c fr (.sl E (ab none 0 0) [] []::H) Φ):T c fr H Φ:=.mk fun a w s g =>
 h.h a w (s.add (N:=[.sl E (ab none 0 0) [] []]) (Below.refl _ _) (by intro p hp;simp at hp;subst hp;exact ⟨hz,none,0,rfl,⟨aA _,FG⟩,.inl ⟨rfl,rfl,fun _=>rfl⟩⟩) ⟨EO,trivial⟩ (by intro p hp b hb;simp at hp;subst hp;simp [Pc.F] at hb)) g
theorem Dk {α:Type} (E:B8 α) {t g:Nat} {S:List Pc} (h:T c fr (.ow E t (ab (some ⟨g,0,none⟩) 0 0) [] [g]::S) Φ) (hp:De H (.row g t 0 [] [] []) S:=by exact En):T c fr H Φ:=.mk fun a w s ag=>by
 have s1:=s.pick hp;obtain ⟨-,hr⟩:=s1.on (.row g t 0 [] [] []) EO;exact h.h a w (s1.conv rfl ⟨EO,Ow.empty FL⟩ (fun b hb=>hb)) ag
theorem bs0 {t e m:Nat} {gd:Option (Nat × Bool)} [hS:SlC c.P t e m] (h:∀g,T c ((d,ab (some ⟨g,0,none⟩) 0 0)::fr) (.row g e 0 [] [] []::H) Φ) (hd:Nat.blt d c.n=true:=by rfl):Ef c fr H ⟨some d,.buildSlice t 0 #[],ty,pos,A8,gd⟩ Φ:=Pl fun Q a w s g=>by
 have e1:(execOp a.eval ⟨some d,.buildSlice t 0 #[],ty,pos,A8,gd⟩).run c.P w=.ok (.value (ab (some ⟨w.heap.size,0,none⟩) 0 0)) (w.alloc (.cells #[] e)):=by
  simp [execOp,Instr.buildSlice,run_underlying hS.u,Mi hS.s,Instr.fill,newRow,Array.range_zero']
 rw [e1];exact (h _).h _ _ (s.new e []) (g.put hd)
inductive An6:aj->aj->aj->Prop
 | nil {r}:An6 [] r r
 | cons {u l r q}:An6 l r q->An6 (u::l) r (u::q)
theorem An6.eq {l r q} (h:An6 l r q):l++r=q:=by
 induction h with
 | nil=>rfl
 | cons _ ih=>simp [ih]
inductive Rpt (zs:aj):Nat->aj->Prop
 | zero:Rpt zs 0 []
 | succ {n r q}:Rpt zs n r->An6 zs r q->Rpt zs (n+1) q
theorem Rpt.eq {zs:aj} {n q} (h:Rpt zs n q):q=(List.replicate n zs).flatten:=by
 induction h with
 | zero=>rfl
 | succ _ h2 ih=>rw [<-h2.eq,ih,cW,cL]
theorem bs {t e m b len:Nat} {z:Value} {zs cs q:aj} {ps:List (Nat × Operand)} {gd:Option (Nat × Bool)} [hS:SlC c.P t e m] [hE:ElT c.P e z m b] [hZ:ZC c.P e zs] (h:∀g,T c ((d,ab (some ⟨g,0,none⟩) len len)::fr) (.row g e 0 [] q []::H) Φ)
  (hc:Rpt zs len cs:=by repeat constructor) (hf:Fil (fun i=>some (i * m,m)) fr cs ps q:=by repeat (first|exact Fil.nil|apply Fil.cons FC FC FC (by repeat constructor))) (hl:Nat.ble (len * m) 1000=true:=by rfl) (hm:Nat.blt 0 m=true:=by rfl) (hlen:Nat.blt 0 len=true:=by rfl) (hd:Nat.blt d c.n=true:=by rfl) :
  Ef c fr H ⟨some d,.buildSlice t len ps.toArray,ty,pos,A8,gd⟩ Φ:=Pl fun Q a w s g=>by
 have hm0:m≠0:=by have:0 < m:=(by simpa using hm);omega
 have hlen0:len≠0:=by have:0 < len:=(by simpa using hlen);omega
 have hl2:len * m<=1000:=FQ
 obtain ⟨i,hi,hz⟩:=co.1 hE.i;simp only [Prod.mk.injEq] at hz;obtain ⟨hz,hs, -⟩:=hz;obtain ⟨z',hz',hzc⟩:=hZ.z;obtain rfl:z'=z:=by rw [hi] at hz';simp [hz] at hz';exact hz'.symm
 have hzl:zs.length=m:=by have:=hE.s;rw [hzc] at this;simpa using this
 have e2:((Array.range (len * m)).map (zs.toArray[· % zs.toArray.size]!))=cs.toArray:=by
  have:=M9 zs.toArray len;rw [hc.eq];apply fK;rw [show zs.toArray.size=m from by simp [hzl]] at this;simpa [madeCells] using this
 have e1:(execOp a.eval ⟨some d,.buildSlice t len ps.toArray,ty,pos,A8,gd⟩).run c.P w=.ok (.value (ab (some ⟨w.heap.size,0,none⟩) len len)) (w.alloc (.cells q.toArray e)):=by
  have h3:=hf.run g;have hne:¬(len * m=0):=Nat.mul_ne_zero hlen0 hm0;have hns:¬(len * m > 2 ^ 24):=EM
  have hzv:(zeroValue e).run c.P w=.ok z' w:=by simp [zeroValue,typeInfo,hi,hz]
  simp only [execOp,Instr.buildSlice,Sem.run_bind,run_underlying hS.u,Mi hS.s,Result.andThen_ok,aq hns,aq hne,hzv,hzc,Sem.run_pure,Sem.run_ite,e2];simp only [cO,h3,newRow,Sem.run_bind,run_newObj_alloc,Result.andThen_ok,Sem.run_pure]
 rw [e1];exact (h _).h _ _ (s.new e q) (g.put hd)
theorem Lt {t e m:Nat} [SlC c.P t e m] (hd:Nat.blt d c.n=true) (h:∀g,T c ((d,ab (some ⟨g,0,none⟩) 0 0)::fr) (.row g e 0 [] [] []::H) Φ):On c fr H (some d) (.buildSlice t 0 #[]) ty Φ:=⟨fun _ _ _=>bs0 h hd⟩
theorem Ik {zs:aj} {n:Nat} {q:aj} (h:Rpt zs n q:=by repeat constructor):Rpt zs n q:=h
theorem In {t e m b len:Nat} {z:Value} {zs cs q:aj} {ps:List (Nat × Operand)} [SlC c.P t e m] [ElT c.P e z m b] [ZC c.P e zs] (hd:Nat.blt d c.n=true) (hlen:Nat.blt 0 len=true) (hm:Nat.blt 0 m=true) (hl:Nat.ble (len * m) 1000=true) (hc:Rpt zs len cs) (hf:Fil (fun i=>some (i * m,m)) fr cs ps q) (h:∀g,T c ((d,ab (some ⟨g,0,none⟩) len len)::fr) (.row g e 0 [] q []::H) Φ) :
  On c fr H (some d) (.buildSlice t len ps.toArray) ty Φ:=⟨fun _ _ _=>bs h hc hf hl hm hlen hd⟩
end
theorem Apv {A B:ak} (h:(A++B).Nodup) {b:Nat} (ha:b∈A) (hb:b∈B):False:=(bF.1 h).2.2 b ha b hb rfl
section
variable {c:Cx} {fr:Fr} {H:List Pc} {k:List It} {Φ:Gl} {ops:Array Oper} {rest:List Oper} {d:Nat} {o:Op} {ty:TypeId} {pos:String} {A8:Array Edge} {v u:Value} {x y:Operand}
theorem ap {α:Type} {E:B8 α} {t e m b:Nat} {z:Value} [hS:SlC c.P t e m] [hE:ElT c.P e z m b] {xs ys:List α} {F Fy:ak} {ao:ai} {n cp:Nat} {gd:Option (Nat × Bool)} {R S:List Pc} (one:Zz E) (hz:0 < E.sz) (hm:E.sz=m)
  (hp:De H (.ow E e v xs F) R) (hx:ev fr x=some v) (hy:ev fr y=some (ab ao n cp)) (hn:n=ys.length)
  (hsrc:∀w,St c.G c.D c.w0 (.ow E e v xs F::R) w->∃news,C6 E w news ys Fy/\((ao=none/\cp=0/\ys=[])\/∃ad,ao=some ad/\∀j u,news[j]?=some u->w.cell? (ad.add j)=some u)/\(∀b∈Fy,b ∉ F)/\Fy.Nodup)
  (hFy:∀w v' F',St c.G c.D c.w0 (.ow E e v xs F::R) w->(∀b∈F',b∈F\/b∈Fy\/b=w.heap.size)->∀w',Gc F w w'->(Pc.ow E e v' (xs++ys) F').P w'->St c.G c.D c.w0 (.ow E e v' (xs++ys) F'::S) w')
  (h63:xs.length+ys.length<=maxLen) (hby:(xs.length+ys.length) * b<=140737488355328)
  (h:∀a' c' F',T c ((d,.slice a' (xs++ys).length c')::fr) (.ow E e (.slice a' (xs++ys).length c') (xs++ys) F'::S) Φ) (hd:Nat.blt d c.n=true) :
  Ef c fr H ⟨some d,.call { callee:=.builtin .append,args:=#[x,y],argTypes:=#[t,t] },ty,pos,A8,gd⟩ Φ:=.mk fun Q a w s g=>by
 have s1:=s.pick hp;obtain ⟨hnd,how⟩:=s1.on (.ow E e v xs F) EO;obtain ⟨news,hfl,hsr,hdis,hny⟩:=hsrc w s1;subst hn;refine Ami (P:=c.P) one hz x y t rfl e z b hS.u (by rw [hE.i,hm]) (by rw [hE.s,hm]) v xs F (g.ev hx) how (Hd.of hnd) ao ys cp (g.ev hy) news Fy hfl hsr (fun b hb e=>hdis b hb (how.own_mem b e)) h63 hby fun v' w' F' hA=>?_;obtain ⟨a',c',rfl⟩:=hA.val;rw [<-aw] at hA ⊢;have hw:=hA.ow;exact (h a' c' F').h _ _ (hFy w _ F' s1 hA.mem w' hA.Nu ⟨hA.Ba6 hnd hny hdis,hw⟩) (g.put hd)
theorem No {α:Type} {E:B8 α} {t e m b:Nat} {z:Value} [hS:SlC c.P t e m] [hE:ElT c.P e z m b] {xs ys:List α} {F:ak} {g n cp tt:Nat} {cs:aj} {R S:List Pc}
  (hfl:∀w,C6 E w cs ys []) (one:Zz E) (h:∀a' c' F',T c ((d,.slice a' (xs++ys).length c')::fr) (.ow E e (.slice a' (xs++ys).length c') (xs++ys) F'::S) Φ)
  (hx:ev fr x=some v:=by rfl) (hy:ev fr y=some (ab (some ⟨g,0,none⟩) n cp):=by rfl) (hp:De H (.ow E e v xs F) R:=by exact En) (hp2:De R (.row g tt 0 [] cs []) S:=by exact En) (hn:n=ys.length:=by rfl) (hz:0 < E.sz:=by decide) (hm:E.sz=m:=by rfl)
  (h63:xs.length+ys.length<=9223372036854775807:=by simp only [aK,aV];omega) (hby:(xs.length+ys.length) * b<=140737488355328:=by simp only [aK,aV];omega) (hd:Nat.blt d c.n=true:=by rfl) :
  On c fr H (some d) (.call { callee:=.builtin .append,args:=#[x,y],argTypes:=#[t,t] }) ty Φ :=
 ⟨fun _ _ _=>ap one hz hm hp hx hy hn (Fy:=[]) (fun w s=>⟨cs,hfl w,.inr ⟨_,rfl,fun j u hu=>by
   have hr:=(s.on (.row g tt 0 [] cs []) (by simp [hp2.mem])).2;have:=hr.cell j;simp only [bb,aP] at this;rw [hu] at this;unfold Addr.add
   split
   ·rename_i e;subst e;exact this
   ·simpa using this⟩,EO,EO⟩)
  (fun w v' F' s hF w' hk hv=>by
   have s2:St c.G c.D c.w0 (.ow E e v xs F::S) w:=⟨s.Nu,fun q hq=>s.on q (by rcases aF.1 hq with rfl|hq;simp;simp [hp2.sub q hq]),⟨fun q hq=>s.sep.1 q (hp2.sub q hq),(hp2.sep s.sep.2).2⟩,fun q hq=>s.Aas q (by rcases aF.1 hq with rfl|hq;simp;simp [hp2.sub q hq])⟩;exact St.turn (M:=[.ow E e v xs F]) (N:=[.ow E e v' (xs++ys) F']) s2 GM II ⟨EO,trivial⟩ (by
    intro q hq b hb;simp at hq;subst hq;rcases hF b hb with h|h|h
    ·exact .inr (.inl ⟨.ow E e v xs F,EO,rfl,h⟩)
    ·simp at h
    ·exact .inl EM))
  (by unfold maxLen;exact h63) hby h hd⟩
theorem M0 {α:Type} {E:B8 α} {t e m b:Nat} {z:Value} [hS:SlC c.P t e m] [hE:ElT c.P e z m b] {xs ys:List α} {F G:ak} {ao:ai} {n cp:Nat} {R:List Pc}
  (one:Zz E) (sc:∀{w cs x F},E.L5 w cs x F->F=[]) (h:∀a' c' F',T c ((d,.slice a' (xs++ys).length c')::fr) (.ow E e (.slice a' (xs++ys).length c') (xs++ys) F'::R) Φ)
  (hx:ev fr x=some v:=by rfl) (hy:ev fr y=some (ab ao n cp):=by rfl) (hp:De H (.ow E e v xs F) R:=by exact En) (hp2:.sl E (ab ao n cp) ys G∈R:=by exact Cb) (hn:n=ys.length:=by rfl) (hz:0 < E.sz:=by decide) (hm:E.sz=m:=by rfl)
  (h63:xs.length+ys.length<=9223372036854775807:=by first|omega|(simp only [aK,aV];omega)) (hby:(xs.length+ys.length) * b<=140737488355328:=by first|omega|(simp only [aK,aV];omega)) (hd:Nat.blt d c.n=true:=by rfl) :
  On c fr H (some d) (.call { callee:=.builtin .append,args:=#[x,y],argTypes:=#[t,t] }) ty Φ :=
 have flat0:∀{w cs zs G},C6 E w cs zs G->G=[]:=fun {w cs zs G}=>by
  induction zs generalizing cs G with
  | nil=>intro h;exact h.2
  | cons z r ih=>intro h;obtain ⟨c1,c2,F1,F2,_,rfl,h1,h2⟩:=h;rw [sc h1,ih h2];rfl
 ⟨fun _ _ _=>ap one hz hm hp hx hy hn (Fy:=[]) (fun w s=>by
   obtain ⟨-,hs⟩:=s.on (.sl E (ab ao n cp) ys G) (by simp [hp2]);obtain ⟨ao',cc,news,Fy,he, -,hfy, -,hsrc⟩:=hs.src;simp only [Value.slice.injEq] at he;obtain ⟨rfl, -,rfl⟩:=he;obtain rfl:=flat0 hfy;exact ⟨news,hfy,hsrc,EO,EO⟩)
  (fun w v' F' s hF w' hk hv=>St.turn (M:=[.ow E e v xs F]) (N:=[.ow E e v' (xs++ys) F']) s GM II ⟨EO,trivial⟩ (by
    intro q hq b hb;simp at hq;subst hq;rcases hF b hb with h|h|h
    ·exact .inr (.inl ⟨.ow E e v xs F,EO,rfl,h⟩)
    ·simp at h
    ·exact .inl EM))
  (by unfold maxLen;exact h63) hby h hd⟩
/-! parts of slices that read -/
theorem Aca {P:Program} {t e m:Nat} (hS:SlC P t e m):P.elem t=e:=by simp [Program.elem,hS.u]
theorem sld {α:Type} {E:B8 α} {t e m:Nat} [hS:SlC c.P t e m] {a:ai} {n cp:Nat} {xs:List α} {F:ak} {i:Int} (j:Nat) (h:∀a' c' F',T c ((d,.slice a' (xs.drop j).length c')::fr) (.sl E (.slice a' (xs.drop j).length c') (xs.drop j) F'::H) Φ)
  (hx:ev fr x=some (ab a n cp):=by rfl) (hy:ev fr y=some (aa i):=by rfl) (hm:.sl E (ab a n cp) xs F∈H:=by exact Cb) (hi:i=(j:Int):=by first|rfl|omega) (hj:j<=xs.length:=by omega) (he:E.sz=m:=by rfl) (hd:Nat.blt d c.n=true:=by rfl):On c fr H (some d) (.slice t x (some y) none none) ty Φ:=⟨fun pos A8 gd=>Pl fun Q ac w s g=>by
 subst hi;obtain ⟨hz,hs⟩:=s.get hm;have he2:=Aca hS;obtain ⟨a2,c2,F',hr,hF,h2⟩:=hs.dropS t FF j hj (fun W=>by rw [he2,he];exact Mi hS.s W);have e1:(execOp ac.eval ⟨some d,.slice t x (some y) none none,ty,pos,A8,gd⟩).run c.P w=.ok (.value (.slice a2 (xs.drop j).length c2)) w:=by
  simp [execOp,g.ev hx,g.ev hy,hr]
 rw [e1];rw [<-aU] at h2;exact (h a2 c2 F').h _ w (s.ro hm rfl rfl ⟨hz,h2⟩ hF) (g.put hd)⟩
/-! one element of an owned slice, of elements without blocks of their own -/
def Aq2 {α:Type} (E:B8 α) (t:TypeId) (g:Nat) (v:Value) (xs:List α) (i:Nat) (A B:aj):Prop:=∀w cs y,Jd w g t (A++cs++B)->E.L5 w cs y []->Ow E t w v (xs.set i y) [g]
theorem Qq {α:Type} {E:B8 α} {t:TypeId} {a:ai} {n cp m:Nat} {xs:List α} {F:ak} {S:List Pc} (sc:Ym E) (i:Nat) (h:∀(_:i < xs.length) g A cs B,a=some ⟨g,0,none⟩->F=[g]->(∀w,E.L5 w cs xs[i] [])->Aq2 E t g (ab (some ⟨g,0,none⟩) n cp) xs i A B->T c fr (.row g t (0+i * m) A cs B::S) Φ)
  (hp:De H (.ow E t (ab a n cp) xs F) S) (hm:E.sz=m) (hi:i < xs.length):T c fr H Φ:=.mk fun ac w s g=>by
 have z1:=s.pick hp;obtain ⟨-,ho⟩:=z1.on (.ow E t (ab a n cp) xs F) EO;obtain ⟨g0,cap,A,cs,B,G1,Fi,G2,hv,hr,hA, -,hx,rfl, -,hW⟩:=ho.focus i hi
 cases hv;obtain rfl:=sc hx;have hG:∀b,b ∉ G1++G2:=by
  intro b hb;have:=ho.scal sc;simp only [Value.ownBlock,Option.toList_some,aP,List.cons.injEq,cP] at this;rw [this] at hb;simp at hb
 have hG0:G1++G2=[]:=eN.2 hG;subst hm;refine (h hi g0 A cs B rfl (by simpa using hG0) (fun w'=>E.frame hx EO) (fun w' c' y hr' hy=>?_)).h ac w (z1.conv rfl ⟨EM,hr⟩ (by intro b hb;simp [Pc.F] at hb;subst hb;simp [Pc.F])) g;have:=hW w' c' y [] hr' hy (fun b hb=>absurd hb (hG b));simpa [hG0] using this
theorem Pf {α:Type} {E:B8 α} {t:TypeId} {g o:Nat} {v:Value} {xs:List α} {i:Nat} {A cs B:aj} {S:List Pc} (y:α) (hh:Aq2 E t g v xs i A B) (hy:∀w,E.L5 w cs y []) (h:T c fr (.ow E t v (xs.set i y) [g]::S) Φ) (hp:De H (.row g t o A cs B) S:=by exact En):T c fr H Φ:=.mk fun ac w s ag=>by
 have z1:=s.pick hp;obtain ⟨-,hr⟩:=z1.on (.row g t o A cs B) EO;exact h.h ac w (z1.conv rfl ⟨EO,hh w cs y hr (hy w)⟩ (fun b hb=>hb)) ag
/-! calls by the elder contracts -/
theorem cn {α:Type} {E:B8 α} {t:TypeId} {xs:List α} {f:Nat} {vs:aj} (hc:∀w,St c.G c.D c.w0 H w->Calls c.P f vs.toArray w (Z9 E t xs w)) (h:∀a cp F,T c ((d,ab a xs.length cp)::fr) (.ow E t (ab a xs.length cp) xs F::H) Φ):Cl c fr H d f vs Φ :=
 Yq hc (fun w e w' s hR=>by
  obtain ⟨v,F,he,ho,hn,hF,hB⟩:=hR;obtain ⟨a,cp,rfl⟩:=ho.slice;exact ⟨_,he,fun ac g=>(h a cp F).h ac w' (s.add (N:=[.ow E t (ab a xs.length cp) xs F]) hB (by intro q hq;simp at hq;subst hq;exact ⟨hn,ho⟩) ⟨EO,trivial⟩ HD) g⟩)
theorem cr {α:Type} {E:B8 α} {z:α} {f:Nat} {vs:aj} (hc:∀w,St c.G c.D c.w0 H w->Calls c.P f vs.toArray w (Bau E z w)) (h:∀v F,T c ((d,v)::fr) (.isv E v z F::H) Φ):Cl c fr H d f vs Φ :=
 Yq hc (fun w e w' s hR=>by
  obtain ⟨v,F,he,ho,hF,hB⟩:=hR;exact ⟨_,he,fun ac g=>(h v F).h ac w' (s.add (N:=[.isv E v z F]) hB (by intro q hq;simp at hq;subst hq;exact ho) ⟨EO,trivial⟩ HD) g⟩)
theorem cv {α:Type} {E:B8 α} {z:α} {f:Nat} {vs:aj} (hc:∀w,St c.G c.D c.w0 H w->Calls c.P f vs.toArray w (Arc E z w)) (h:∀v F,T c ((d,v)::fr) (.Mw E v z F::H) Φ):Cl c fr H d f vs Φ :=
 Yq hc (fun w e w' s hR=>by
  obtain ⟨v,F,he,ho,hn,hF,hB⟩:=hR;exact ⟨_,he,fun ac g=>(h v F).h ac w' (s.add (N:=[.Mw E v z F]) hB (by intro q hq;simp at hq;subst hq;exact ⟨hn,ho⟩) ⟨EO,trivial⟩ HD) g⟩)
/-! regions that draw their order -/
inductive Nth:List Pc->Nat->Pc->Prop
 | zero {p R}:Nth (p::R) 0 p
 | succ {x p R i}:Nth R i p->Nth (x::R) (i+1) p
inductive Sel (H:List Pc):ak->List Pc->Prop
 | nil:Sel H [] []
 | cons {i is p R}:Nth H i p->Sel H is R->Sel H (i::is) (p::R)
theorem Nth.mem {H i p} (h:Nth H i p):p∈H:=by
 induction h with
 | zero=>simp
 | succ _ ih=>simp [ih]
variable {H0:List Pc} {X:ak} {f:Nat} {listed:Array Bool}
theorem As {id:Nat} {l:List Oper} (is X:ak) (h:T c fr H (.dx k H0 X l.toArray l.length (Array.replicate l.length false))) (_hsel:Sel H is H0:=by repeat constructor) (hm:c.P.follows .mixedOrders=true:=by kernel_rfl):T c fr H (.Cd k (Code.region id l.toArray true)):=.mk fun a w s g=>by
 exact DG
def Vq (c:Cx):Prop:=∀ch d v a w,c.R (.panic ch) (Act.put a d v) w->c.R (.panic ch) a w
theorem W9 {P:Program} {D G:ak} {w0:World} {n:Nat} {fn:Func} {R:Ending->World->Prop}:Vq ⟨P,G,D,w0,n,bodyPost P fn R⟩:=fun ch d v a w h=>by
 cases d <;> exact h
theorem dt (i:Nat) (h:T c ((d,v)::fr) H (.dx k H0 X ops f (listed.setIfInBounds i true))) (ho:ops[i]?=some ⟨some d,o,ty,pos,A8,none⟩:=by rw [aW];rfl) (hy:Yd c.P c.n fr H0 o ty v:=by exact ydE) (hs:Md H0 H:=by repeat (first|exact Md.nil|refine Md.cons EQ ?_))
  (h1:Region.noSelect ops=true:=by kernel_rfl) (h2:Region.free .any ops listed i=true:=by kernel_rfl) (h3:(Region.ready .any ops listed).contains i=true:=by kernel_rfl) (h4:Ku .any ops (fun i=>X.contains i) i=true:=by kernel_rfl) (h5:Me .any ops listed=true:=by kernel_rfl) (hR:Vq c:=by exact W9) (hd:Nat.blt d c.n=true:=by rfl) :
  T c fr H (.dx k H0 X ops (f+1) listed):=.mk fun a w s g =>
 I4.take (v:=v) ho h1 h2 h3 h4 h5 (fun ch a w hp=>by rw [Ly] at hp ⊢;exact hR _ _ _ _ _ hp) (.inl ⟨rfl,fun w' hw'=>hy.h a w' _ _ _ _ g hw'⟩) (fun p hp=>s.on p (hs.all p hp)) (h.h _ _ s (g.put hd))
theorem Ala (i j:Nat) {α:Type} {E:B8 α} {t e m:Nat} [hS:SlC c.P t e m] {a:ai} {n cp:Nat} {xs:List α} {F:ak} {z:Int} (h:∀a' c' F',T c ((d,.slice a' (xs.drop j).length c')::fr) (.sl E (.slice a' (xs.drop j).length c') (xs.drop j) F'::H) (.dx k H0 X ops f (listed.setIfInBounds i true))) (ho:ops[i]?=some ⟨some d,.slice t x (some y) none none,ty,pos,A8,none⟩:=by rw [aW];rfl)
  (hx:ev fr x=some (ab a n cp):=by rfl) (hy:ev fr y=some (aa z):=by rfl) (hm:.sl E (ab a n cp) xs F∈H:=by exact Cb) (hi:z=(j:Int):=by first|rfl|omega) (hj:j<=xs.length:=by omega) (he:E.sz=m:=by rfl) (hs:Md H0 H:=by repeat (first|exact Md.nil|refine Md.cons EQ ?_))
  (h1:Region.noSelect ops=true:=by kernel_rfl) (h2:Region.free .any ops listed i=true:=by kernel_rfl) (h3:(Region.ready .any ops listed).contains i=true:=by kernel_rfl) (h4:Ku .any ops (fun i=>X.contains i) i=true:=by kernel_rfl) (h5:Me .any ops listed=true:=by kernel_rfl) (hR:Vq c:=by exact W9) (hd:Nat.blt d c.n=true:=by rfl) :
  T c fr H (.dx k H0 X ops (f+1) listed):=.mk fun ac w s g=>by
 subst hi;obtain ⟨hz,hs'⟩:=s.get hm;have he2:=Aca hS;obtain ⟨a2,c2,F',hr,hF,h2'⟩:=hs'.dropS t FF j hj (fun W=>by rw [he2,he];exact Mi hS.s W);rw [<-aU] at h2' hr;refine I4.take (v:=.slice a2 (xs.drop j).length c2) ho h1 h2 h3 h4 h5 (fun ch a w hp=>by rw [Ly] at hp ⊢;exact hR _ _ _ _ _ hp) (.inl ⟨rfl,fun w' _=>?_⟩) (fun p hp=>s.on p (hs.all p hp)) ((h a2 c2 F').h _ w (s.ro hm rfl rfl ⟨hz,h2'⟩ hF) (g.put hd));simp only [execOp,dj,cj,g.ev hx,g.ev hy,Sem.run_bind,hr,Result.andThen_ok,Sem.run_pure]
theorem E6 (i:Nat) {j t:Nat} {b:Bool} (h:T c ((d,v)::fr) H (.dx k H0 X ops f (listed.setIfInBounds i true))) (ho:ops[i]?=some ⟨some d,o,ty,pos,A8,some (j,b)⟩:=by rw [aW];rfl) (ht:(ops[j]?).bind (·.dst)=some t:=by rfl) (hl:Q0 fr t=some (.bool b):=by rfl) (hy:Yd c.P c.n fr H0 o ty v:=by exact ydE) (hs:Md H0 H:=by repeat (first|exact Md.nil|refine Md.cons EQ ?_))
  (h1:Region.noSelect ops=true:=by kernel_rfl) (h2:Region.free .any ops listed i=true:=by kernel_rfl) (h3:(Region.ready .any ops listed).contains i=true:=by kernel_rfl) (h4:Ku .any ops (fun i=>X.contains i) i=true:=by kernel_rfl) (h5:Me .any ops listed=true:=by kernel_rfl) (hR:Vq c:=by exact W9) (hd:Nat.blt d c.n=true:=by rfl) :
  T c fr H (.dx k H0 X ops (f+1) listed):=.mk fun a w s g =>
 I4.take (v:=v) ho h1 h2 h3 h4 h5 (fun ch a w hp=>by rw [Ly] at hp ⊢;exact hR _ _ _ _ _ hp) (.inl ⟨by rw [Uf (c:=c) ht hl g];simp,fun w' hw'=>hy.h a w' _ _ _ _ g hw'⟩) (fun p hp=>s.on p (hs.all p hp)) (h.h _ _ s (g.put hd))
theorem ds (i:Nat) {j t:Nat} {b b':Bool} (h:T c ((d,undef)::fr) H (.dx k H0 X ops f (listed.setIfInBounds i true))) (ho:ops[i]?=some ⟨some d,o,ty,pos,A8,some (j,b)⟩:=by rw [aW];rfl) (ht:(ops[j]?).bind (·.dst)=some t:=by rfl) (hl:Q0 fr t=some (.bool b'):=by rfl) (hb:(b' == b)=false:=by rfl) (hs:Md H0 H:=by repeat (first|exact Md.nil|refine Md.cons EQ ?_))
  (h1:Region.noSelect ops=true:=by kernel_rfl) (h2:Region.free .any ops listed i=true:=by kernel_rfl) (h3:(Region.ready .any ops listed).contains i=true:=by kernel_rfl) (h4:Ku .any ops (fun i=>X.contains i) i=true:=by kernel_rfl) (h5:Me .any ops listed=true:=by kernel_rfl) (hR:Vq c:=by exact W9) (hd:Nat.blt d c.n=true:=by rfl) :
  T c fr H (.dx k H0 X ops (f+1) listed):=.mk fun a w s g =>
 I4.take (v:=undef) ho h1 h2 h3 h4 h5 (fun ch a w hp=>by rw [Ly] at hp ⊢;exact hR _ _ _ _ _ hp) (.inr ⟨by rw [Uf (c:=c) ht hl g];exact hb,rfl⟩) (fun p hp=>s.on p (hs.all p hp)) (h.h _ _ s (g.put hd))
theorem dsu (i:Nat) {j t:Nat} {b:Bool} (h:T c ((d,undef)::fr) H (.dx k H0 X ops f (listed.setIfInBounds i true))) (ho:ops[i]?=some ⟨some d,o,ty,pos,A8,some (j,b)⟩:=by rw [aW];rfl) (ht:(ops[j]?).bind (·.dst)=some t:=by rfl) (hl:Q0 fr t=some undef:=by rfl) (hs:Md H0 H:=by repeat (first|exact Md.nil|refine Md.cons EQ ?_))
  (h1:Region.noSelect ops=true:=by kernel_rfl) (h2:Region.free .any ops listed i=true:=by kernel_rfl) (h3:(Region.ready .any ops listed).contains i=true:=by kernel_rfl) (h4:Ku .any ops (fun i=>X.contains i) i=true:=by kernel_rfl) (h5:Me .any ops listed=true:=by kernel_rfl) (hR:Vq c:=by exact W9) (hd:Nat.blt d c.n=true:=by rfl) :
  T c fr H (.dx k H0 X ops (f+1) listed):=.mk fun a w s g =>
 I4.take (v:=undef) ho h1 h2 h3 h4 h5 (fun ch a w hp=>by rw [Ly] at hp ⊢;exact hR _ _ _ _ _ hp) (.inr ⟨by simp only [Region.wanted,yielded,ht,eD,g.at_ t _ hl];rfl,rfl⟩) (fun p hp=>s.on p (hs.all p hp)) (h.h _ _ s (g.put hd))
theorem dk {i:Nat} (h:T c fr H (.dx k H0 X ops f listed)) (hs:Md H0 H:=by repeat (first|exact Md.nil|refine Md.cons EQ ?_)):T c fr H (.dk i k H0 X ops f listed):=.mk fun a w s g=>⟨fun _ p hp=>s.on p (hs.all p hp),h.h a w s g⟩
theorem Pg {i:Nat} (h:T c fr H (.dx k H0 X ops f listed)) (hi:X.contains i=true:=by rfl):T c fr H (.dk i k H0 X ops f listed):=.mk fun a w s g=>⟨fun h0=>(by rw [hi] at h0;cases h0),h.h a w s g⟩
theorem d1 (i:Nat) {o:Oper} (h:Ef c fr H o (.dk i k H0 X ops f (listed.setIfInBounds i true))) (hr:Region.ready .any ops listed=[i]:=by kernel_rfl) (ho:ops[i]?=some o:=by rw [aW];rfl) (hg:o.guard=none:=by rfl):T c fr H (.dx k H0 X ops (f+1) listed):=.mk fun a w s g =>
 I4.only hr ho fun K hK=>by
  rw [ar (by simp [Region.wanted,hg])];exact Oper.wp_mono (fun a' w' h'=>hK a' w' h'.1 h'.2) (h.h _ a w s g)
theorem d1g (i:Nat) {od:Option Tmp} {j t:Nat} {b:Bool} (h:Ef c fr H ⟨od,o,ty,pos,A8,some (j,b)⟩ (.dk i k H0 X ops f (listed.setIfInBounds i true))) (hr:Region.ready .any ops listed=[i]:=by kernel_rfl) (ho:ops[i]?=some ⟨od,o,ty,pos,A8,some (j,b)⟩:=by rw [aW];rfl) (ht:(ops[j]?).bind (·.dst)=some t:=by rfl) (hl:Q0 fr t=some (.bool b):=by rfl):T c fr H (.dx k H0 X ops (f+1) listed):=.mk fun a w s g =>
 I4.only hr ho fun K hK=>by
  rw [ar (by rw [Uf (c:=c) ht hl g];simp)];exact Oper.wp_mono (fun a' w' h'=>hK a' w' h'.1 h'.2) (h.h _ a w s g)
theorem d2 (i j:Nat) {o o2:Oper} (h:Ef c fr H o (.dk i k H0 X ops f (listed.setIfInBounds i true))) (h':Ef c fr H o2 (.dk j k H0 X ops f (listed.setIfInBounds j true)))
  (hr:Region.ready .any ops listed=[i,j]:=by kernel_rfl) (ho:ops[i]?=some o:=by rw [aW];rfl) (ho2:ops[j]?=some o2:=by rw [aW];rfl) (hg:o.guard=none:=by rfl) (hg2:o2.guard=none:=by rfl):T c fr H (.dx k H0 X ops (f+1) listed):=.mk fun a w s g =>
 I4.two hr ho ho2 (fun K hK=>by
  rw [ar (by simp [Region.wanted,hg])];exact Oper.wp_mono (fun a' w' h'=>hK a' w' h'.1 h'.2) (h.h _ a w s g)) (fun K hK=>by
  rw [ar (by simp [Region.wanted,hg2])];exact Oper.wp_mono (fun a' w' h''=>hK a' w' h''.1 h''.2) (h'.h _ a w s g))
theorem dO (i:Nat) {od:Option Tmp} (hr:Region.ready .any ops listed=[i]) (ho:ops[i]?=some ⟨od,o,ty,pos,A8,none⟩) (h:On c fr H od o ty (.dk i k H0 X ops f (listed.setIfInBounds i true))):T c fr H (.dx k H0 X ops (f+1) listed):=d1 i (h.h pos A8 none) hr ho rfl
theorem dO2 (i j:Nat) {od od2:Option Tmp} {o2:Op} {ty2:TypeId} {pos2:String} {aft2:Array Edge} (hr:Region.ready .any ops listed=[i,j]) (ho:ops[i]?=some ⟨od,o,ty,pos,A8,none⟩) (ho2:ops[j]?=some ⟨od2,o2,ty2,pos2,aft2,none⟩) (h:On c fr H od o ty (.dk i k H0 X ops f (listed.setIfInBounds i true))) (h':On c fr H od2 o2 ty2 (.dk j k H0 X ops f (listed.setIfInBounds j true))):T c fr H (.dx k H0 X ops (f+1) listed):=d2 i j (h.h pos A8 none) (h'.h pos2 aft2 none) hr ho ho2 rfl rfl
theorem dd (h:T c fr H (.norm k)) (hr:Region.ready .any ops listed=[]:=by kernel_rfl):T c fr H (.dx k H0 X ops f listed):=.mk fun a w s g=>I4.done hr (h.h a w s g) f
theorem ey {gd:Option (Nat × Bool)} (h:T c ((d,v)::fr) H Φ) (hy:Yd c.P c.n fr H o ty v:=by exact ydE) (hd:Nat.blt d c.n=true:=by rfl):Ef c fr H ⟨some d,o,ty,pos,A8,gd⟩ Φ:=Ax0 hy hd h
end
inductive Kf (fr:Fr):ak->Fr->Prop
 | nil:Kf fr [] []
 | cons {t v ts r}:Q0 fr t=some v->Kf fr ts r->Kf fr (t::ts) ((t,v)::r)
theorem Kf.sub {fr ts r} (h:Kf fr ts r):L6 fr r:=by
 induction h with
 | nil=>exact .nil
 | cons h _ ih=>exact .cons h ih
theorem L6.app {fr a b:Fr} (h:L6 fr a) (h2:L6 fr b):L6 fr (a++b):=by
 induction h with
 | nil=>exact h2
 | cons h _ ih=>exact .cons h ih
theorem J3.hsub {H M R:List Pc} (h:J3 H M R):Kl H (M++R):=by
 have all:∀(H:List Pc),Kl H H:=by
  intro H
  induction H with
  | nil=>exact .nil
  | cons p H ih=>exact .cons .here ih
 induction h with
 | nil=>exact all _
 | cons hp _ ih=>exact .cons hp ih
theorem Cu {c:Cx} {fr:Fr} {H:List Pc} {k:List It} {x:Code} {σ:Type} {cst:Fr} {rest:List Pc} (ks:ak) (Ui:σ->Fr) (chg:σ->List Pc) (C:σ->Prop) (μ:σ->Nat) (s0:σ) (h0:C s0)
  (round:∀s,C s->T c (Ui s++cst) (chg s++rest) (.Cd (.lp (LpN c (fun s=>Ui s++cst) (fun s=>chg s++rest) C μ (μ s))::k) x)) (hk:Kf fr ks cst:=by repeat (first|exact Kf.nil|apply Kf.cons FC)) (hf:L6 fr (Ui s0):=by exact frE) (hH:J3 H (chg s0) rest:=by exact Ad3):T c fr H (.Cd k (Code.loop x)) :=
 Arl (fun s=>Ui s++cst) (fun s=>chg s++rest) C μ s0 h0 round (hf.app hk.sub) hH.hsub
theorem Ei {c:Cx} {fr:Fr} {H:List Pc} {k:List It} {x:Code} {σ:Type} {cst:Fr} (ks:ak) (Ui:σ->Fr) (C:σ->Prop) (μ:σ->Nat) (s0:σ) (h0:C s0)
  (round:∀s,C s->T c (Ui s++cst) H (.Cd (.lp (LpN c (fun s=>Ui s++cst) (fun _=>H) C μ (μ s))::k) x)) (hk:Kf fr ks cst:=by repeat (first|exact Kf.nil|apply Kf.cons FC)) (hf:L6 fr (Ui s0):=by exact frE):T c fr H (.Cd k (Code.loop x)) :=
 Arl (fun s=>Ui s++cst) (fun _=>H) C μ s0 h0 round (hf.app hk.sub) (by
  have all:∀(H:List Pc),Kl H H:=by
   intro H
   induction H with
   | nil=>exact .nil
   | cons p H ih=>exact .cons .here ih
  exact all _)
def Jn {σ:Type} (c:Cx) (fr':σ->Fr) (H':σ->List Pc) (C:σ->Prop) (a:Act) (w:World):Prop:=∃s,C s/\St c.G c.D c.w0 (H' s) w/\Ag c.n (fr' s) a
theorem Ayq {c:Cx} {fr:Fr} {H:List Pc} {k:List It} {x:Code} {σ:Type} (fr':σ->Fr) (H':σ->List Pc) (C:σ->Prop) (h:T c fr H (.Cd (.lp (Jn c fr' H' C)::k) x)) (h2:∀s,C s->T c (fr' s) (H' s) (.norm k)):T c fr H (.Cd k x):=.mk fun a w s g =>
 wp_mono (h.h a w s g) fun e a' w' he=>by
  cases e with
  | normal=>obtain ⟨z,hz,hs,hg⟩:=he;exact (h2 z hz).h a' w' hs hg
  | _=>exact he
theorem Cs {c:Cx} {fr:Fr} {H:List Pc} {k:List It} {σ:Type} {fr':σ->Fr} {H':σ->List Pc} {C:σ->Prop} (s:σ) (hC:C s) (hf:L6 fr (fr' s):=by repeat (first|exact L6.nil|refine L6.cons FC ?_)) (hH:Kl H (H' s):=by repeat (first|exact Kl.nil|refine Kl.cons (by exact En) ?_)):T c fr H (.norm (.lp (Jn c fr' H' C)::k)) :=
 .mk fun _ _ st g=>⟨s,hC,st.sub hH,g.sub hf⟩
theorem Gw {c:Cx} {fr:Fr} {H:List Pc} {k:List It} {x:Code} {σ:Type} {cst:Fr} {rest:List Pc} (ks rs:ak) (Ui:σ->Fr) (chg:σ->List Pc) (C:σ->Prop) (h:T c fr H (.Cd (.lp (Jn c (fun s=>Ui s++cst) (fun s=>chg s++rest) C)::k) x)) (h2:∀s,C s->T c (Ui s++cst) (chg s++rest) (.norm k)) (_hk:Kf fr ks cst:=by repeat (first|exact Kf.nil|apply Kf.cons FC)) (_hr:Sel H rs rest:=by repeat constructor):T c fr H (.Cd k x) :=
 Ayq _ _ C h h2
theorem enter {P:Program} {f:FuncId} {fn:Func} {cd:Code} {args:aj} {A M H:List Pc} {σ:Type} {C:σ->Prop} {v:σ->Value} {N:σ->List Pc} {n:Nat} (hf:P.funcs[f]?=some fn) (hb:fn.body=some cd) (hn:fn.ntmps=n)
  (h:∀w,T ⟨P,fp M,fp A,w,n,bodyPost P fn (Agy P w A M C v N)⟩ (Aiv 0 args) H (.Cd [] cd))
  (hl:Nat.ble args.length n=true:=by rfl) (hmA:A.all (fun p=>!p.mu)=true:=by rfl) (hH:Aie M A H:=by repeat constructor):Fn P f args A M C v N:=by
 subst hn;exact Ar1 hf hb (fun w=>by rw [hH.eq];exact h w) FQ hmA
theorem ret {P:Program} {fn:Func} {G D:ak} {w0:World} {n:Nat} {A M:List Pc} {σ:Type} {C:σ->Prop} {v:σ->Value} {N:σ->List Pc} {fr:Fr} {H:List Pc} {rs:List ResultVar} {vs:aj} (s:σ) (hC:C s) (hv:Sr vs=v s)
  (hr:fn.results=rs.toArray:=by rfl) (h:Res P fr H rs vs:=by repeat (first|exact Res.nil|apply Res.tmp FC|apply Res.agg inferInstance FC EQ FC|apply Res.one inferInstance FC EQ)) (hN:Kl H (N s):=by repeat (first|exact Kl.nil|refine Kl.cons (by exact En) ?_)) (hG:G=fp M:=by rfl) (hD:D=fp A:=by rfl):T ⟨P,G,D,w0,n,bodyPost P fn (Agy P w0 A M C v N)⟩ fr H (.fin .ret):=Ayv s hC hr h hv hN hG hD
theorem Fn.val {P:Program} {f:FuncId} {args:aj} {A:List Pc} {C:Unit->Prop} {v:Value} (h:Fn P f args A [] C (fun _=>v) (fun _=>[])) (w:World) (hA:Nh A w) (hm:A.all (fun p=>!p.mu)=true:=by rfl):Calls P f args.toArray w (RB v w) :=
 have hs:∀(A:List Pc),A.all (fun p=>!p.mu)=true->Rj A:=by
  intro A
  induction A with
  | nil=>intro _;trivial
  | cons p A ih =>
   intro h;simp only [dK,av,bv] at h;exact ⟨fun q hq hm=>by have:=aQ.1 h.2 q hq;simp [h.1] at hm;simp [hm] at this,ih h.2⟩
 (h w IK (by simpa using hs A hm)).mono fun e w' ⟨_,_,he,_,_,hk,_⟩=>⟨he,hk.below (aA _) (by simp [fp])⟩
theorem Al4:∀(A:List Pc),A.all (fun p=>!p.mu)=true->Rj A
 | [],_=>trivial
 | p::A,h=>by
  simp only [dK,av,bv] at h;exact ⟨fun q hq hm=>by have:=aQ.1 h.2 q hq;simp [h.1] at hm;simp [hm] at this,Al4 A h.2⟩
theorem Pc.nd {p:Pc} (hm:p.mu=true) {w:World} (h:p.P w):p.F.Nodup:=by
 cases p with
 | row g t o A cs B=>simp [Pc.F]
 | ow E t v xs F=>exact h.1
 | Mw E v x F=>exact h.1
 | flat E cs xs F=>exact h.1
 | _=>cases hm
theorem Ai7 {w:World}:∀{N:List Pc},N.all (·.mu)=true->Nh N w->Rj N->(fp N).Nodup
 | [],_,_,_=>by simp [fp]
 | p::N,hm,hH,hs=>by
  simp only [dK,av] at hm;refine bF.2 ⟨Pc.nd hm.1 (hH p EO),Ai7 hm.2 (fun q hq=>hH q FB) hs.2,fun b hb b' hb' e=>?_⟩;subst e;obtain ⟨q,hq,hqb⟩:=O8.1 hb';exact hs.1 q hq (by simp [hm.1]) b hb hqb
theorem Fn.made {P:Program} {f:FuncId} {args:aj} {A:List Pc} {σ:Type} {C:σ->Prop} {v:σ->Value} {N:σ->List Pc} (h:Fn P f args A [] C v N) (w:World) (hA:Nh A w) (hN:∀s,(N s).all (·.mu)=true) (hm:A.all (fun p=>!p.mu)=true:=by rfl) :
  Calls P f args.toArray w fun e w'=>∃s,C s/\e=.returned (v s)/\Nh (N s) w'/\(fp (N s)).Nodup/\(∀b∈fp (N s),w.heap.size<=b)/\Below w.heap.size w w' :=
 (h w IK (by simpa using Al4 A hm)).mono fun e w' ⟨s,hC,he,hH,hS,hk,hF⟩=>⟨s,hC,he,hH,Ai7 (hN s) hH hS,(fun b hb=>by
  obtain ⟨p,hp,hpb⟩:=O8.1 hb;rcases hF p hp b hpb with h|⟨q,hq,_⟩|⟨h,_⟩
  ·exact h
  ·simp at hq
  ·have:=aQ.1 (hN s) p hp;rw [h] at this;cases this),hk.below (aA _) (by simp [fp])⟩
theorem Fn.read {P:Program} {f:FuncId} {args:aj} {A:List Pc} {σ:Type} {C:σ->Prop} {v:σ->Value} {N:σ->List Pc} (h:Fn P f args A [] C v N) (w:World) (hA:Nh A w) (hm:A.all (fun p=>!p.mu)=true:=by rfl) :
  Calls P f args.toArray w fun e w'=>∃s,C s/\e=.returned (v s)/\Nh (N s) w'/\Below w.heap.size w w' :=
 (h w IK (by simpa using Al4 A hm)).mono fun e w' ⟨s,hC,he,hH,hS,hk,hF⟩=>⟨s,hC,he,hH,hk.below (aA _) (by simp [fp])⟩
theorem Vp {p q:Pc} {w:World} (h:p.P w) (h2:q.P w):Nh [p,q] w:=fun r hr=>by
 simp only [aF,aM,bn] at hr;rcases hr with rfl|rfl <;> assumption
structure Kp (X:Prop):Prop where
 h:X
section
variable {c:Cx} {fr:Fr} {H:List Pc} {d:Nat} {ty:TypeId} {v:Value} {x:Operand} {Φ:Gl}
theorem Asw {Y:Nat->Prop} {t:TypeId} {l:aj} (hd:Nat.blt d c.n=true) (hx:ev fr x=some v) (hv:v.cells=l.toArray) (hX:Kp (∀g,Y g)) (h:∀g,Kp (Y g)->T c ((d,Fv g 0 0)::fr) (.row g t 0 [] l []::H) Φ):On c fr H (some d) (.box t x) ty Φ:=Ba8 hd hx hv fun g=>h g ⟨hX.h g⟩
theorem Aju {Y:Nat->Prop} {t:TypeId} {zs:aj} [ZC c.P t zs] (hd:Nat.blt d c.n=true) (hX:Kp (∀g,Y g)) (h:∀g,Kp (Y g)->T c ((d,Fv g 0 0)::fr) (.row g t 0 [] zs []::H) Φ):On c fr H (some d) (.alloc t) ty Φ:=Cq hd fun g=>h g ⟨hX.h g⟩
theorem Asx {Y:Nat->Prop} {t e m:Nat} [SlC c.P t e m] (hd:Nat.blt d c.n=true) (hX:Kp (∀g,Y g)) (h:∀g,Kp (Y g)->T c ((d,ab (some ⟨g,0,none⟩) 0 0)::fr) (.row g e 0 [] [] []::H) Φ):On c fr H (some d) (.buildSlice t 0 #[]) ty Φ:=Lt hd fun g=>h g ⟨hX.h g⟩
theorem Ax6 {Y:Nat->Prop} {t e m b len:Nat} {z:Value} {zs cs q:aj} {ps:List (Nat × Operand)} [SlC c.P t e m] [ElT c.P e z m b] [ZC c.P e zs] (hd:Nat.blt d c.n=true) (hlen:Nat.blt 0 len=true) (hm:Nat.blt 0 m=true) (hl:Nat.ble (len * m) 1000=true) (hc:Rpt zs len cs) (hf:Fil (fun i=>some (i * m,m)) fr cs ps q) (hX:Kp (∀g,Y g)) (h:∀g,Kp (Y g)->T c ((d,ab (some ⟨g,0,none⟩) len len)::fr) (.row g e 0 [] q []::H) Φ) :
  On c fr H (some d) (.buildSlice t len ps.toArray) ty Φ:=In hd hlen hm hl hc hf fun g=>h g ⟨hX.h g⟩
end
theorem go {X:Prop} {c:Cx} {fr:Fr} {H:List Pc} {Φ:Gl} (h:X) (hs:Kp X->T c fr H Φ:=by intro hX;(repeat (first|apply Yp|apply Axu|(apply wO;apply oc;rfl;exact ydE)|apply Aey|apply Ajs|(apply Aut;rfl;rfl)|(apply Aus;rfl;rfl;rfl;rfl)|(apply Auu;rfl;rfl;rfl)|(apply c_t;rfl)|(apply c_f;rfl)|apply Aaa|apply Yo|apply Ajr|apply Ark|apply Axz|apply Baw|apply Bax|(apply Arv;rfl)|apply Axv|(apply wO;apply Asw;rfl;rfl;rfl;exact hX;clear hX;intro _ hX)|(apply wO;apply Aju;rfl;exact hX;clear hX;intro _ hX)|(apply wO;apply Asz;rfl;rfl;rfl;(first|exact AggC.s|exact OneC.s);rfl;exact Ats;exact As9;rfl)|(apply wO;apply Asx;rfl;exact hX;clear hX;intro _ hX)|(apply wO;apply Ax6;rfl;rfl;rfl;rfl;exact Ik;exact Ie;exact hX;clear hX;intro _ hX)|(apply wO;apply Ahp;rfl;kernel_rfl;exact Tt)));exact hX.h):T c fr H Φ:=hs ⟨h⟩
theorem Ke {X:Prop} {c:Cx} {fr:Fr} {H:List Pc} {Φ:Gl} (h:X) (hs:Kp X->T c fr H Φ:=by intro hX;(repeat (first|apply Yp|apply Axu|(apply wO;apply oc;rfl;exact ydE)|apply Aey|apply Ajs|(apply Aut;rfl;rfl)|(apply Aus;rfl;rfl;rfl;rfl)|(apply Auu;rfl;rfl;rfl)|(apply c_t;rfl)|(apply c_f;rfl)|apply Aaa|apply Yo|apply Ajr|apply Ark|apply Axz|apply Baw|apply Bax|(apply Arv;rfl)|apply Axv|(apply wO;apply Asw;rfl;rfl;rfl;exact hX;clear hX;intro _ hX)|(apply wO;apply Aju;rfl;exact hX;clear hX;intro _ hX)|(apply wO;apply Asz;rfl;rfl;rfl;(first|exact AggC.s|exact OneC.s);rfl;exact Ats;exact As9;rfl)|(apply wO;apply Asx;rfl;exact hX;clear hX;intro _ hX)|(apply wO;apply Ax6;rfl;rfl;rfl;rfl;exact Ik;exact Ie;exact hX;clear hX;intro _ hX)));exact hX.h):T c fr H Φ:=hs ⟨h⟩
end Go.Proofs.YtmckdnddocfodaaGreatDoor
