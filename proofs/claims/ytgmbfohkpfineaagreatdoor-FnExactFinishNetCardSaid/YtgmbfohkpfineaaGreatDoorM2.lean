/- Part 2 of the proof: 32 texts, one behind the other. -/
import Derived.Deep.MidRow
import Derived.IntWalk
import Derived.Laws.Strings
import Derived.Test.YtgmbfohkpfineaaGreatDoorProg
import Derived.Test.YtgmbfohkpfineaaGreatDoorShelf
import Derived.Test.YtgmbfohkpfineaaGreatDoorM1
set_option maxRecDepth 100000
set_option maxHeartbeats 8000000
set_option linter.all false
set_option linter.unusedVariables false
set_option linter.unusedSimpArgs false
namespace Go.Proofs.YtgmbfohkpfineaaGreatDoor
open Go.RowKit
inductive Pc:Type 1
 | row (g:Nat) (t:TypeId) (o:Nat) (A cs B:List Value)
 | sl {α:Type} (E:Elem α) (v:Value) (xs:List α) (F:List Nat)
 | ow {α:Type} (E:Elem α) (t:TypeId) (v:Value) (xs:List α) (F:List Nat)
 | isv {α:Type} (E:Elem α) (v:Value) (x:α) (F:List Nat)
 | own {α:Type} (E:Elem α) (v:Value) (x:α) (F:List Nat)
 | cel (b o:Nat) (cs:List Value)
 | flat {α:Type} (E:Elem α) (cs:List Value) (xs:List α) (F:List Nat)
def Pc.P:Pc→World→Prop
 | .row g t o A cs B,w=>A.length=o∧Row w g t (A++cs++B)
 | .sl E v xs F,w=>0 < E.sz∧Sl E w v xs F
 | .ow E t v xs F,w=>F.Nodup∧Ow E t w v xs F
 | .isv E v x F,w=>IsV E w v x F
 | .own E v x F,w=>F.Nodup∧IsV E w v x F
 | .cel b o cs,w=>cs≠[]∧w.rangeAt b o cs
 | .flat E cs xs F,w=>F.Nodup∧Flat E w cs xs F
def Pc.F:Pc→List Nat
 | .row g ..=>[g]
 | .sl _ _ _ F|.ow _ _ _ _ F|.isv _ _ _ F|.own _ _ _ F|.flat _ _ _ F=>F
 | .cel b ..=>[b]
def Pc.mu:Pc→Bool
 | .row .. | .ow .. | .own .. | .flat ..=>true
 | _=>false
theorem Pc.st (p:Pc) {w w':World} (h:p.P w) (hF:∀b∈p.F,w'.heap[b]?=w.heap[b]?):p.P w':=by
 cases p with
 | row g t o A cs B=>exact ⟨h.1,h.2.keep (hF g (by simp [Pc.F]))⟩
 | sl E v xs F=>exact ⟨h.1,h.2.frame hF⟩
 | ow E t v xs F=>exact ⟨h.1,h.2.frame hF⟩
 | isv E v x F=>obtain ⟨cs,hv,h⟩:=h;exact ⟨cs,hv,E.frame h hF⟩
 | own E v x F=>obtain ⟨hn,cs,hv,h⟩:=h;exact ⟨hn,cs,hv,E.frame h hF⟩
 | cel b o cs=>exact ⟨h.1,fun j v hv=>(World.cell?_of_block (w:=w) (hF b (by simp [Pc.F]))).trans (h.2 j v hv)⟩
 | flat E cs xs F=>exact ⟨h.1,h.2.frame hF⟩
theorem Pc.lt (p:Pc) {w:World} (h:p.P w):∀b∈p.F,b < w.heap.size:=by
 cases p with
 | row g t o A cs B=>intro b hb;simp [Pc.F] at hb;subst hb;exact h.2.lt
 | sl E v xs F=>exact h.2.lt h.1
 | ow E t v xs F=>exact h.2.lt
 | isv E v x F=>obtain ⟨cs,hv,h⟩:=h;exact E.lt h
 | own E v x F=>obtain ⟨_,cs,hv,h⟩:=h;exact E.lt h
 | cel b o cs =>
  intro c hc
  simp [Pc.F] at hc;subst hc
  cases cs with
  | nil=>exact absurd rfl h.1
  | cons v r=>exact World.block_lt_of_cell? w _ (h.2 0 v rfl)
 | flat E cs xs F=>exact h.2.lt
def Apart (p q:Pc):Prop:=(p.mu || q.mu)=true→∀b∈p.F,b ∉ q.F
theorem Apart.symm {p q:Pc} (h:Apart p q):Apart q p:=fun hm b hb hp=>h (by rw [Bool.or_comm];exact hm) b hp hb
def Sep:List Pc→Prop
 | []=>True
 | p::R=>(∀q∈R,Apart p q)∧Sep R
def Hol (H:List Pc) (w:World):Prop:=∀p∈H,p.P w
theorem hol1 {p:Pc} {w:World} (h:p.P w):Hol [p] w:=fun q hq=>by simp at hq;subst hq;exact h
def fp:List Pc→List Nat
 | []=>[]
 | p::R=>p.F++fp R
theorem mem_fp {b:Nat}:∀{H:List Pc},b∈fp H↔∃p∈H,b∈p.F
 | []=>by simp [fp]
 | p::R=>by simp [fp,mem_fp (H:=R)]
theorem Hol.st {H:List Pc} {w w':World} (h:Hol H w) (hF:∀p∈H,∀b∈p.F,w'.heap[b]?=w.heap[b]?):Hol H w':=fun p hp=>p.st (h p hp) (hF p hp)
theorem Hol.below {H:List Pc} {w w':World} (h:Hol H w) (hb:Below w.heap.size w w'):Hol H w':=h.st fun p hp b hm=>hb.block b (p.lt (h p hp) b hm)
structure St (G D:List Nat) (w0:World) (H:List Pc) (w:World):Prop where
 keep:Keep G w0 w
 on:Hol H w
 sep:Sep H
 mine:∀p∈H,∀b∈p.F,b∈G∨w0.heap.size≤b∨(p.mu=false∧b∈D)
section
variable {G D:List Nat} {w0:World}
theorem Sep.perm2 {p q:Pc} {R:List Pc} (h:Sep (p::q::R)):Sep (q::p::R) :=
 ⟨fun x hx=>by
  rcases List.mem_cons.1 hx with rfl|hx
  ·exact (h.1 q (by simp)).symm
  ·exact h.2.1 x hx,fun x hx=>h.1 x (by simp [hx]),h.2.2⟩
inductive Pick:List Pc→Pc→List Pc→Prop
 | here {p R}:Pick (p::R) p R
 | there {x p R R'}:Pick R p R'→Pick (x::R) p (x::R')
theorem Pick.mem {H p R} (h:Pick H p R):p∈H:=by
 induction h with
 | here=>simp
 | there _ ih=>simp [ih]
theorem Pick.sub {H p R} (h:Pick H p R):∀q∈R,q∈H:=by
 induction h with
 | here=>intro q hq;simp [hq]
 | there _ ih =>
  intro q hq
  rcases List.mem_cons.1 hq with rfl|hq
  ·simp
  ·simp [ih q hq]
theorem Pick.sep {H p R} (h:Pick H p R) (hs:Sep H):Sep (p::R):=by
 induction h with
 | here=>exact hs
 | @there x p R R' h ih =>
  have h2:=ih hs.2
  exact Sep.perm2 ⟨fun q hq=>by
   rcases List.mem_cons.1 hq with rfl|hq
   ·exact hs.1 _ h.mem
   ·exact hs.1 _ (h.sub q hq),h2⟩
theorem St.pick {H p R w} (s:St G D w0 H w) (h:Pick H p R):St G D w0 (p::R) w :=
 ⟨s.keep,fun q hq=>by
  rcases List.mem_cons.1 hq with rfl|hq
  ·exact s.on _ h.mem
  ·exact s.on _ (h.sub q hq),h.sep s.sep,fun q hq=>by
  rcases List.mem_cons.1 hq with rfl|hq
  ·exact s.mine _ h.mem
  ·exact s.mine _ (h.sub q hq)⟩
theorem St.tail {p R w} (s:St G D w0 (p::R) w):St G D w0 R w:=⟨s.keep,fun q hq=>s.on q (by simp [hq]),s.sep.2,fun q hq=>s.mine q (by simp [hq])⟩
theorem St.get {H p w} (s:St G D w0 H w) (h:p∈H):p.P w:=s.on p h
theorem St.turn {M R N:List Pc} {w w':World} (s:St G D w0 (M++R) w) (hk:Keep (fp (M.filter (·.mu))) w w') (hN:Hol N w') (hs:Sep N)
  (hF:∀p∈N,∀b∈p.F,w.heap.size≤b∨(∃q∈M,q.mu=true∧b∈q.F)∨(p.mu=false∧∃q∈M++R,q.mu=false∧b∈q.F)):St G D w0 (N++R) w':=by
 have hsep:∀(A B:List Pc),Sep (A++B)→Sep A∧Sep B∧∀p∈A,∀q∈B,Apart p q:=by
  intro A
  induction A with
  | nil=>intro B h;exact ⟨trivial,h,by simp⟩
  | cons p A ih =>
   intro B h
   obtain ⟨h1,h2,h3⟩:=ih B h.2
   exact ⟨⟨fun q hq=>h.1 q (by simp [hq]),h1⟩,h2,fun x hx q hq=>by
    rcases List.mem_cons.1 hx with rfl|hx
    ·exact h.1 q (by simp [hq])
    ·exact h3 x hx q hq⟩
 have hjoin:∀(A B:List Pc),Sep A→Sep B→(∀p∈A,∀q∈B,Apart p q)→Sep (A++B):=by
  intro A
  induction A with
  | nil=>intro B _ h _;exact h
  | cons p A ih =>
   intro B hA hB h
   exact ⟨fun q hq=>by
    rcases List.mem_append.1 hq with hq|hq
    ·exact hA.1 q hq
    ·exact h p (by simp) q hq,ih B hA.2 hB fun x hx q hq=>h x (by simp [hx]) q hq⟩
 obtain ⟨sM,sR,sMR⟩:=hsep M R s.sep
 have hRlt:∀q∈R,∀b∈q.F,b < w.heap.size:=fun q hq=>q.lt (s.on q (by simp [hq]))
 have hMR:∀q∈R,∀b∈q.F,b ∉ fp (M.filter (·.mu)):=fun q hq b hb hm=>by
  obtain ⟨p,hp,hpb⟩:=mem_fp.1 hm
  obtain ⟨hp,hmu⟩:=List.mem_filter.1 hp
  exact sMR p hp q hq (by simp [hmu]) b hpb hb
 have hG:∀b∈fp (M.filter (·.mu)),b∈G∨w0.heap.size≤b:=fun b hb=>by
  obtain ⟨p,hp,hpb⟩:=mem_fp.1 hb
  obtain ⟨hp,hmu⟩:=List.mem_filter.1 hp
  rcases s.mine p (by simp [hp]) b hpb with h|h|⟨h,_⟩
  ·exact .inl h
  ·exact .inr h
  ·rw [hmu] at h;cases h
 refine ⟨⟨hk.os.trans s.keep.os,hk.tape.trans s.keep.tape,hk.output.trans s.keep.output,Nat.le_trans s.keep.size hk.size,fun k hlt hn=>(hk.block k (Nat.lt_of_lt_of_le hlt s.keep.size) fun hm=>?_).trans (s.keep.block k hlt hn)⟩,fun p hp=>?_,hjoin N R hs sR fun p hp q hq hmu b hb hqb=>?_,fun p hp b hb=>?_⟩
 ·rcases hG k hm with h|h
  ·exact hn h
  ·omega
 ·rcases List.mem_append.1 hp with hp|hp
  ·exact hN p hp
  ·exact p.st (s.on p (by simp [hp])) fun b hb=>hk.block b (hRlt p hp b hb) (hMR p hp b hb)
 ·rcases hF p hp b hb with h|⟨m,hm,hmm,hmb⟩|⟨hpm,m,hm,hmm,hmb⟩
  ·have:=hRlt q hq b hqb;omega
  ·exact sMR m hm q hq (by simp [hmm]) b hmb hqb
  ·have hqm:q.mu=true:=by simpa [hpm] using hmu
   rcases List.mem_append.1 hm with hm|hm
   ·exact sMR m hm q hq (by simp [hqm]) b hmb hqb
   ·-- two pieces of R
    have:∀(R:List Pc),Sep R→∀m∈R,∀q∈R,m.mu=false→q.mu=true→∀b∈m.F,b ∉ q.F:=by
     intro R
     induction R with
     | nil=>intro _ m hm;simp at hm
     | cons x R ih =>
      intro hs m hm q hq h1 h2 b hb hqb
      rcases List.mem_cons.1 hm with e|hm2
      ·subst e
       rcases List.mem_cons.1 hq with e|hq2
       ·subst e;rw [h1] at h2;cases h2
       ·exact hs.1 q hq2 (by simp [h2]) b hb hqb
      ·rcases List.mem_cons.1 hq with e|hq2
       ·subst e;exact hs.1 m hm2 (by simp [h2]) b hqb hb
       ·exact ih hs.2 m hm2 q hq2 h1 h2 b hb hqb
    exact this R sR m hm q hq hmm hqm b hmb hqb
 ·rcases List.mem_append.1 hp with hp|hp
  ·rcases hF p hp b hb with h|⟨m,hm,hmm,hmb⟩|⟨hpm,m,hm,hmm,hmb⟩
   ·right;left;exact Nat.le_trans s.keep.size h
   ·rcases s.mine m (by simp [hm]) b hmb with h|h|⟨h,_⟩
    ·exact .inl h
    ·exact .inr (.inl h)
    ·rw [hmm] at h;cases h
   ·rcases s.mine m hm b hmb with h|h|⟨_,h⟩
    ·exact .inl h
    ·exact .inr (.inl h)
    ·exact .inr (.inr ⟨hpm,h⟩)
  ·exact s.mine p (by simp [hp]) b hb
end
abbrev Fr:=List (Nat × Value)
def look:Fr→Nat→Option Value
 | [],_=>none
 | (k,v)::r,t=>bif Nat.beq k t then some v else look r t
def ev (fr:Fr):Operand→Option Value
 | .tmp t=>look fr t
 | .const v=>some v
 | .global g=>some (.pointer (some ⟨g,0,none⟩))
 | .func f=>some (.func (.func f) #[] #[])
inductive Evs (fr:Fr):List Operand→List Value→Prop
 | nil:Evs fr [] []
 | cons {x v xs vs}:ev fr x=some v→Evs fr xs vs→Evs fr (x::xs) (v::vs)
structure Ag (n:Nat) (fr:Fr) (a:Act):Prop where
 df:a.defers=[]
 sz:a.tmps.size=n
 at_:∀t v,look fr t=some v→a.tmps[t]?=some v
theorem Ag.ev {n fr a x v} (h:Ag n fr a) (hx:ev fr x=some v):a.eval x=v:=by
 cases x with
 | tmp t=>have:=h.at_ t v hx;simp [Act.eval,Array.getD_eq_getD_getElem?,this]
 | const u=>simp [Go.Proofs.YtgmbfohkpfineaaGreatDoor.ev] at hx;subst hx;rfl
 | global g=>simp [Go.Proofs.YtgmbfohkpfineaaGreatDoor.ev] at hx;subst hx;rfl
 | func f=>simp [Go.Proofs.YtgmbfohkpfineaaGreatDoor.ev] at hx;subst hx;rfl
theorem Ag.evs {n fr a xs vs} (h:Ag n fr a) (hx:Evs fr xs vs):xs.map a.eval=vs:=by
 induction hx with
 | nil=>rfl
 | cons hx _ ih=>simp [h.ev hx,ih]
theorem look_cons (k:Nat) (v:Value) (r:Fr) (t:Nat):look ((k,v)::r) t=if k=t then some v else look r t:=by
 show (bif Nat.beq k t then some v else look r t)=_
 by_cases h:k=t
 ·subst h;simp
 ·have:Nat.beq k t=false:=by
   cases hb:Nat.beq k t
   ·rfl
   ·exact absurd (Nat.eq_of_beq_eq_true hb) h
  rw [this,if_neg h];rfl
theorem Ag.put {n fr a d v} (h:Ag n fr a) (hd:Nat.blt d n=true):Ag n ((d,v)::fr) (a.put (some d) v):=by
 have hd':d < n:=by simpa using hd
 refine ⟨h.df,by simp [Act.put,h.sz],fun t u hu=>?_⟩
 rw [look_cons] at hu
 show (a.tmps.setIfInBounds d v)[t]?=_
 rw [Array.getElem?_setIfInBounds]
 split at hu
 ·rename_i e;subst e;simp at hu;subst hu;rw [if_pos rfl,if_pos (by rw [h.sz];exact hd')]
 ·rename_i e;rw [if_neg e];exact h.at_ t u hu
inductive FrSub (fr:Fr):Fr→Prop
 | nil:FrSub fr []
 | cons {t v r}:look fr t=some v→FrSub fr r→FrSub fr ((t,v)::r)
theorem FrSub.look {fr fr':Fr} (h:FrSub fr fr'):∀t v,look fr' t=some v→look fr t=some v:=by
 induction h with
 | nil=>intro t v hv;cases hv
 | cons h1 _ ih =>
  intro t v hv
  rw [look_cons] at hv
  split at hv
  ·rename_i e;subst e;rw [←hv];exact h1
  ·exact ih t v hv
theorem Ag.sub {n fr fr' a} (h:Ag n fr a) (hs:FrSub fr fr'):Ag n fr' a:=⟨h.df,h.sz,fun t v hv=>h.at_ t v (hs.look t v hv)⟩
structure Cx where
 P:Program
 G:List Nat
 D:List Nat
 w0:World
 n:Nat
 R:Exit→Act→World→Prop
inductive It
 | cd (c:Code)
 | blk (id:Nat)
 | lp (I:Act→World→Prop)
def run (c:Cx):List It→Exit→Act→World→Prop
 | []=>c.R
 | .cd y::k=>Exit.then (fun a w=>y.wp c.P (run c k) a w) (run c k)
 | .blk id::k=>Exit.inBlock id (run c k)
 | .lp I::k=>Exit.then I (run c k)
inductive Gl
 | code (k:List It) (x:Code)
 | list (k:List It) (ops:Array Oper) (l:List Oper)
 | norm (k:List It)
 | exit (k:List It) (id:Nat)
 | fin (e:Exit)
 | dx (k:List It) (H0:List Pc) (X:List Nat) (ops:Array Oper) (f:Nat) (listed:Array Bool)
 | dk (i:Nat) (k:List It) (H0:List Pc) (X:List Nat) (ops:Array Oper) (f:Nat) (listed:Array Bool)
def Gl.sem (c:Cx):Gl→Act→World→Prop
 | .code k x,a,w=>x.wp c.P (run c k) a w
 | .list k ops l,a,w=>wpList c.P ops (run c k) l a w
 | .norm k,a,w=>run c k .normal a w
 | .exit k id,a,w=>run c k (.exit id) a w
 | .fin e,a,w=>c.R e a w
 | .dx k H0 X ops f listed,a,w=>AnyX c.P .any ops (run c k) (Hol H0) (fun i=>X.contains i) f listed a w
 | .dk i k H0 X ops f listed,a,w=>(X.contains i=false→Hol H0 w)∧AnyX c.P .any ops (run c k) (Hol H0) (fun i=>X.contains i) f listed a w
structure T (c:Cx) (fr:Fr) (H:List Pc) (Φ:Gl):Prop where
 h:∀a w,St c.G c.D c.w0 H w→Ag c.n fr a→Φ.sem c a w
theorem run_ret (c:Cx):∀(k:List It),run c k .ret=c.R .ret
 | []=>rfl
 | .cd _::k=>run_ret c k
 | .blk _::k=>run_ret c k
 | .lp _::k=>run_ret c k
theorem run_panic (c:Cx) (ch:List PanicEntry):∀(k:List It),run c k (.panic ch)=c.R (.panic ch)
 | []=>rfl
 | .cd _::k=>run_panic c ch k
 | .blk _::k=>run_panic c ch k
 | .lp _::k=>run_panic c ch k
inductive HSub:List Pc→List Pc→Prop
 | nil {A}:HSub A []
 | cons {A p R B}:Pick A p R→HSub R B→HSub A (p::B)
section
variable {c:Cx} {fr:Fr} {H:List Pc} {k:List It} {Φ:Gl}
theorem HSub.st {G D w0 w} {H H':List Pc} (h:HSub H H'):∀{X:List Pc},St G D w0 H w→Sep X→(∀p∈X,∀q∈H,Apart p q)→(∀p∈X,p.P w∧∀b∈p.F,b∈G∨w0.heap.size≤b∨(p.mu=false∧b∈D)) →
  (∀q∈H',q∈H)∧Sep H':=by
 induction h with
 | nil=>intro X _ _ _ _;exact ⟨by simp,trivial⟩
 | @cons A p R B hp hs ih =>
  intro X s hX hXa hXp
  have s1:=s.pick hp
  have ⟨h1,h2⟩:=ih (X:=[]) s1.tail trivial (by simp) (by simp)
  exact ⟨fun q hq=>by
   rcases List.mem_cons.1 hq with rfl|hq
   ·exact hp.mem
   ·exact hp.sub q (h1 q hq),fun q hq=>s1.sep.1 q (h1 q hq),h2⟩
theorem St.sub {G D w0 w} {H H':List Pc} (s:St G D w0 H w) (h:HSub H H'):St G D w0 H' w :=
 have ⟨h1,h2⟩:=h.st (X:=[]) s trivial (by simp) (by simp)
 ⟨s.keep,fun p hp=>s.on p (h1 p hp),h2,fun p hp=>s.mine p (h1 p hp)⟩
theorem t_sub (H':List Pc) (h:T c fr H' Φ) (hs:HSub H H':=by repeat (first|exact HSub.nil|refine HSub.cons (by (repeat (first|exact .here|apply Pick.there));first|done|fail) ?_)):T c fr H Φ:=.mk fun a w s g=>h.h a w (s.sub hs) g
theorem t_drop {p:Pc} (h:T c fr H Φ):T c fr (p::H) Φ:=.mk fun a w s g=>h.h a w s.tail g
/-! the rules of control -/
theorem c_seq {x y:Code} (h:T c fr H (.code (.cd y::k) x)):T c fr H (.code k (Code.seq x y)):=.mk fun a w s g=>wp_seq (h.h a w s g)
theorem c_skip (h:T c fr H (.norm k)):T c fr H (.code k Code.skip):=.mk fun a w s g=>wp_skip (h.h a w s g)
theorem c_ret (h:T c fr H (.fin .ret)):T c fr H (.code k Code.ret):=.mk fun a w s g=>wp_ret (by rw [run_ret];exact h.h a w s g)
theorem c_exit {id:Nat} (h:T c fr H (.exit k id)):T c fr H (.code k (Code.exit id)):=.mk fun a w s g=>wp_exit (h.h a w s g)
theorem c_block {id:Nat} {x:Code} (h:T c fr H (.code (.blk id::k) x)):T c fr H (.code k (Code.block id x)):=.mk fun a w s g=>wp_block (h.h a w s g)
theorem c_reg {id:Nat} {l:List Oper} (h:T c fr H (.list k l.toArray l)):T c fr H (.code k (Code.region id l.toArray false)):=.mk fun a w s g=>wp_region_lit (h.h a w s g)
theorem c_t {x:Operand} {y z:Code} (hc:ev fr x=some (.bool true)) (h:T c fr H (.code k y)):T c fr H (.code k (Code.cond x y z)):=.mk fun a w s g=>wp_cond_true (g.ev hc) (h.h a w s g)
theorem c_f {x:Operand} {y z:Code} (hc:ev fr x=some (.bool false)) (h:T c fr H (.code k z)):T c fr H (.code k (Code.cond x y z)):=.mk fun a w s g=>wp_cond_false (g.ev hc) (h.h a w s g)
theorem c_if {x:Operand} {y z:Code} {p:Prop} {_:Decidable p} (hc:ev fr x=some (.bool (decide p))) (h1:p→T c fr H (.code k y)) (h2:¬p→T c fr H (.code k z)) :
  T c fr H (.code k (Code.cond x y z)):=.mk fun a w s g=>by
 by_cases hp:p
 ·exact wp_cond_true (by rw [g.ev hc,decide_eq_true hp]) ((h1 hp).h a w s g)
 ·exact wp_cond_false (by rw [g.ev hc,decide_eq_false hp]) ((h2 hp).h a w s g)
theorem n_cd {y:Code} (h:T c fr H (.code k y)):T c fr H (.norm (.cd y::k)):=⟨h.h⟩
theorem n_blk {id:Nat} (h:T c fr H (.norm k)):T c fr H (.norm (.blk id::k)):=⟨h.h⟩
theorem n_end (h:T c fr H (.fin .normal)):T c fr H (.norm []):=⟨h.h⟩
theorem e_cd {y:Code} {id:Nat} (h:T c fr H (.exit k id)):T c fr H (.exit (.cd y::k) id):=⟨h.h⟩
theorem e_lp {I:Act→World→Prop} {id:Nat} (h:T c fr H (.exit k id)):T c fr H (.exit (.lp I::k) id):=⟨h.h⟩
theorem e_hit {id:Nat} (h:T c fr H (.norm k)):T c fr H (.exit (.blk id::k) id):=.mk fun a w s g=>by
 show (if id=id then run c k .normal a w else run c k (.exit id) a w)
 rw [if_pos rfl];exact h.h a w s g
theorem e_miss {id id':Nat} (hne:Nat.beq id' id=false) (h:T c fr H (.exit k id')):T c fr H (.exit (.blk id::k) id'):=.mk fun a w s g=>by
 show (if id'=id then run c k .normal a w else run c k (.exit id') a w)
 rw [if_neg (fun e=>by rw [e] at hne;simp at hne)];exact h.h a w s g
theorem w_nil {ops:Array Oper} (h:T c fr H (.norm k)):T c fr H (.list k ops []):=⟨h.h⟩
/-! loops -/
theorem least_ex {p:Nat→Prop}:∀n,p n→∃m,p m∧∀j,p j→m≤j:=fun n=>by
 induction n using Nat.strongRecOn with
 | _ n ih =>
  intro hn
  by_cases h:∃j,j < n∧p j
  ·obtain ⟨j,hj,hp⟩:=h;exact ih j hj hp
  ·exact ⟨n,hn,fun j hj=>Nat.le_of_not_lt fun hl=>h ⟨j,hl,hj⟩⟩
theorem wp_loop_m {P:Program} {Q:Exit→Act→World→Prop} {x:Code} {a:Act} {w:World} (I:Nat→Act→World→Prop) (m:Nat) (h0:I m a w)
  (round:∀m a w,I m a w→x.wp P (Exit.then (fun a' w'=>∃m',m' < m∧I m' a' w') Q) a w):(Code.loop x).wp P Q a w:=by
 classical
 refine wp_loop (fun a w=>∃m,I m a w) (fun a w=>if h:∃m,I m a w then Classical.choose (least_ex (p:=fun m=>I m a w) h.choose h.choose_spec) else 0) ⟨m,h0⟩ fun a w hI=>?_
 have hl:=Classical.choose_spec (least_ex (p:=fun m=>I m a w) hI.choose hI.choose_spec)
 refine wp_mono (round _ a w hl.1) fun e a' w' he=>?_
 cases e with
 | normal =>
  obtain ⟨m',hm,hi⟩:=he
  have hex:∃m,I m a' w':=⟨m',hi⟩
  refine ⟨hex,?_⟩
  simp only [dif_pos hI,dif_pos hex]
  exact Nat.lt_of_le_of_lt ((Classical.choose_spec (least_ex (p:=fun m=>I m a' w') hex.choose hex.choose_spec)).2 m' hi) hm
 | _=>exact he
def LpI {σ:Type} (c:Cx) (fr':σ→Fr) (H':σ→List Pc) (C:σ→Prop) (μ:σ→Nat) (m:Nat) (a:Act) (w:World):Prop:=∃s,C s∧μ s=m∧St c.G c.D c.w0 (H' s) w∧Ag c.n (fr' s) a
def LpN {σ:Type} (c:Cx) (fr':σ→Fr) (H':σ→List Pc) (C:σ→Prop) (μ:σ→Nat) (m:Nat) (a:Act) (w:World):Prop:=∃m',m' < m∧LpI c fr' H' C μ m' a w
theorem c_loop {x:Code} {σ:Type} (fr':σ→Fr) (H':σ→List Pc) (C:σ→Prop) (μ:σ→Nat) (s0:σ) (h0:C s0)
  (round:∀s,C s→T c (fr' s) (H' s) (.code (.lp (LpN c fr' H' C μ (μ s))::k) x)) (hf:FrSub fr (fr' s0):=by repeat (first|exact FrSub.nil|refine FrSub.cons (by rfl) ?_)) (hH:HSub H (H' s0):=by repeat (first|exact HSub.nil|refine HSub.cons (by (repeat (first|exact .here|apply Pick.there));first|done|fail) ?_)):T c fr H (.code k (Code.loop x)):=.mk fun a w st g=>by
 refine wp_loop_m (LpI c fr' H' C μ) (μ s0) ⟨s0,h0,rfl,st.sub hH,g.sub hf⟩ fun m a w hI=>?_
 obtain ⟨s,hC,rfl,hst,hg⟩:=hI
 exact (round s hC).h a w hst hg
theorem n_lp {σ:Type} {fr':σ→Fr} {H':σ→List Pc} {C:σ→Prop} {μ:σ→Nat} {m:Nat} (s:σ) (hC:C s) (hm:μ s < m) (hf:FrSub fr (fr' s):=by repeat (first|exact FrSub.nil|refine FrSub.cons (by rfl) ?_)) (hH:HSub H (H' s):=by repeat (first|exact HSub.nil|refine HSub.cons (by (repeat (first|exact .here|apply Pick.there));first|done|fail) ?_)) :
  T c fr H (.norm (.lp (LpN c fr' H' C μ m)::k)):=.mk fun _ _ st g=>⟨μ s,hm,s,hC,rfl,st.sub hH,g.sub hf⟩
end
class OneC (P:Program) (t:TypeId):Prop where
 d:∃d,P.underlying t=some d∧d.isRow=false
 s:(P.info? t).map (·.size)=some 1
class AggC (P:Program) (t:TypeId) (n:outParam Nat):Prop where
 d:∃d,P.underlying t=some d∧d.isRow=true
 s:(P.info? t).map (·.size)=some n
class FldC (P:Program) (t:TypeId) (i:Nat) (off:outParam Nat) (ft:outParam TypeId) (n:outParam Nat):Prop where
 f:∃fs f,P.underlying t=some (.struct fs)∧fs[i]?=some f∧f.offset=off∧f.type=ft
 s:(P.info? ft).map (·.size)=some n
 p:n≠0
class SlC (P:Program) (t:TypeId) (e:outParam TypeId) (n:outParam Nat):Prop where
 u:P.underlying t=some (.slice e)
 s:(P.info? e).map (·.size)=some n
class IntC (P:Program) (t:TypeId) (k:outParam IntKind):Prop where
 u:P.underlying t=some (.int k)
class StrC (P:Program) (t:TypeId):Prop where
 u:P.underlying t=some .string
class BoolC (P:Program) (t:TypeId):Prop where
 u:P.underlying t=some .bool
def ptr (g o j:Nat):Value:=.pointer (some ⟨g,o+j,none⟩)
structure Yd (P:Program) (n:Nat) (fr:Fr) (H:List Pc) (o:Op) (ty:TypeId) (v:Value):Prop where
 h:∀(a:Act) (w:World) (d:Option Tmp) (pos:String) (aft:Array Edge) (g:Option (Nat × Bool)),Ag n fr a→Hol H w→(execOp a.eval ⟨d,o,ty,pos,aft,g⟩).run P w=.ok (.value v) w
theorem list_eq_iff (a b:ByteArray):(a.toList == b.toList)=decide (a=b):=by
 rw [Bool.eq_iff_iff]
 simp only [beq_iff_eq,decide_eq_true_eq,ByteArray.toList_eq]
 exact ⟨fun h=>ByteArray.ext (Array.ext' h),fun h=>by rw [h]⟩
section
variable {P:Program} {n:Nat} {fr:Fr} {H:List Pc} {ty:TypeId} {v u:Value} {x y z:Operand}
theorem size_of {t:TypeId} {n:Nat} (h:(P.info? t).map (·.size)=some n) (w:World):(sizeOf t).run P w=.ok n w:=by
 obtain ⟨i,hi,hn⟩:=Option.map_eq_some_iff.1 h
 simp [sizeOf,typeInfo,hi,hn]
theorem isAgg_no {t:TypeId} (h:∃d,P.underlying t=some d∧d.isRow=false) (w:World):(isAgg t).run P w=.ok false w:=by
 obtain ⟨d,hu,hd⟩:=h
 unfold isAgg
 rw [Sem.run_bind,run_underlying hu w]
 cases d <;> simp_all
theorem isAgg_yes {t:TypeId} (h:∃d,P.underlying t=some d∧d.isRow=true) (w:World):(isAgg t).run P w=.ok true w:=by
 obtain ⟨d,hu,hd⟩:=h
 unfold isAgg
 rw [Sem.run_bind,run_underlying hu w]
 cases d <;> simp_all
theorem yd_move (hx:ev fr x=some v):Yd P n fr H (.move x) ty v:=.mk fun a w d pos aft g hA _=>by
 simp [execOp,hA.ev hx]
theorem yd_assign (hx:ev fr x=some v):Yd P n fr H (.assign x) ty v:=.mk fun a w d pos aft g hA _=>by
 simp [execOp,hA.ev hx]
theorem yd_pick_t (hc:ev fr x=some (.bool true)) (hy:ev fr y=some v):Yd P n fr H (.pick x y z) ty v:=.mk fun a w d pos aft g hA _=>by
 simp [execOp,hA.ev hc,hA.ev hy,asBool]
theorem yd_pick_f (hc:ev fr x=some (.bool false)) (hz:ev fr z=some v):Yd P n fr H (.pick x y z) ty v:=.mk fun a w d pos aft g hA _=>by
 simp [execOp,hA.ev hc,hA.ev hz,asBool]
theorem row_cell {w:World} {g t o j:Nat} {A cs B:List Value} (h:(Pc.row g t o A cs B).P w) (hv:cs[j]?=some v):w.cell? ⟨g,o+j,none⟩=some v:=by
 obtain ⟨rfl,h⟩:=h
 rw [h.cellMid rfl (List.getElem?_eq_some_iff.1 hv).1];exact hv
theorem row_range {w:World} {g t o:Nat} {A cs B:List Value} (h:(Pc.row g t o A cs B).P w):w.rangeAt g o cs:=fun _ _ hv=>row_cell h hv
theorem row_there {w:World} {g t o:Nat} {A cs B:List Value} (h:(Pc.row g t o A cs B).P w):w.there g o cs.length:=fun j hj =>
 ⟨by rw [row_cell h (List.getElem?_eq_getElem hj)];rfl,h.2.frozen _⟩
theorem load_one {t:TypeId} [hT:OneC P t] {w:World} {a:Addr} (h:w.cell? a=some v):(Instr.loadAt t (.pointer (some a))).run P w=.ok v w:=by
 simp [Instr.loadAt,Instr.sureAddr,loadVar,isAgg_no hT.d,h]
theorem yd_ld {t g o j tt:Nat} {A cs B:List Value} [OneC P t] (hx:ev fr x=some (ptr g o j)) (hm:Pc.row g tt o A cs B∈H) (hv:cs[j]?=some v):Yd P n fr H (.load t x) ty v:=.mk fun a w d pos aft gd hA hH=>by
 simp [execOp,hA.ev hx,ptr,load_one (row_cell (hH _ hm) hv)]
theorem yd_ldc {t b o j:Nat} {cs:List Value} [OneC P t] (hx:ev fr x=some (ptr b o j)) (hm:Pc.cel b o cs∈H) (hv:cs[j]?=some v):Yd P n fr H (.load t x) ty v:=.mk fun a w d pos aft gd hA hH=>by
 simp [execOp,hA.ev hx,ptr,load_one ((hH _ hm).2 j v hv)]
inductive Cut:List Value→Nat→Nat→List Value→Prop
 | zero {l}:Cut l 0 0 []
 | one {x l m r}:Cut l 0 m r→Cut (x::l) 0 (m+1) (x::r)
 | skip {x l j m r}:Cut l j m r→Cut (x::l) (j+1) m r
theorem Cut.get {l j m r} (h:Cut l j m r):r.length=m∧∀(i:Nat) u,r[i]?=some u→l[j+i]?=some u:=by
 induction h with
 | zero=>exact ⟨rfl,fun i u h=>by simp at h⟩
 | one _ ih =>
  refine ⟨by simp [ih.1],fun i u h=>?_⟩
  cases i with
  | zero=>simpa using h
  | succ i=>have:=ih.2 i u (by simpa using h);simpa [Nat.add_assoc] using this
 | skip _ ih =>
  refine ⟨ih.1,fun i u h=>?_⟩
  have:=ih.2 i u h
  rwa [show ∀a b:Nat,a+1+b=a+b+1 by omega,List.getElem?_cons_succ]
theorem load_agg {t m:Nat} [hT:AggC P t m] {w:World} {b o j:Nat} {cs r:List Value} (h:w.rangeAt b o cs) (hc:Cut cs j m r):(Instr.loadAt t (.pointer (some ⟨b,o+j,none⟩))).run P w=.ok (.agg r.toArray) w:=by
 obtain ⟨d,hu,hd⟩:=hT.d
 exact run_loadAt_mid w b (o+j) t r d (fun i u hu=>by rw [Nat.add_assoc];exact h _ _ (hc.get.2 i u hu)) hu hd (by rw [hT.s,hc.get.1])
theorem yd_lda {t g o j tt m:Nat} {A cs B r:List Value} [AggC P t m] (hx:ev fr x=some (ptr g o j)) (hm:Pc.row g tt o A cs B∈H) (hc:Cut cs j m r):Yd P n fr H (.load t x) ty (.agg r.toArray):=.mk fun a w d pos aft gd hA hH=>by
 simp [execOp,hA.ev hx,ptr,load_agg (row_range (hH _ hm)) hc]
theorem yd_ldac {t b o j m:Nat} {cs r:List Value} [AggC P t m] (hx:ev fr x=some (ptr b o j)) (hm:Pc.cel b o cs∈H) (hc:Cut cs j m r):Yd P n fr H (.load t x) ty (.agg r.toArray):=.mk fun a w d pos aft gd hA hH=>by
 simp [execOp,hA.ev hx,ptr,load_agg (hH _ hm).2 hc]
theorem yd_fa {t i g o j off ft m:Nat} [hF:FldC P t i off ft m] (hx:ev fr x=some (ptr g o j)):Yd P n fr H (.fieldAddr t x i) ty (ptr g o (j+off)):=.mk fun a w d pos aft gd hA _=>by
 obtain ⟨fs,f,hu,hf,rfl,rfl⟩:=hF.f
 simp [execOp,hA.ev hx,ptr,Instr.fieldAt,run_underlying hu,hf,Instr.sureAddr,fieldPlace,size_of hF.s,hF.p,Addr.add_lit,Nat.add_assoc]
theorem yd_fld {t i off ft m:Nat} {l:List Value} [hF:FldC P t i off ft m] [hT:OneC P ft] (hx:ev fr x=some (.agg l.toArray)) (hv:l[off]?=some v):Yd P n fr H (.field t x i) ty v:=.mk fun a w d pos aft gd hA _=>by
 obtain ⟨fs,f,hu,hf,rfl,rfl⟩:=hF.f
 simp [execOp,hA.ev hx,Instr.field,run_underlying hu,hf,asAgg,part,isAgg_no hT.d,hv]
theorem yd_flda {t i off ft m m':Nat} {l r:List Value} [hF:FldC P t i off ft m] [hT:AggC P ft m'] (hx:ev fr x=some (.agg l.toArray)) (hc:Cut l off m' r):Yd P n fr H (.field t x i) ty (.agg r.toArray):=.mk fun a w d pos aft gd hA _=>by
 obtain ⟨fs,f,hu,hf,rfl,rfl⟩:=hF.f
 have e:l.toArray.extract f.offset (f.offset+m')=r.toArray:=by
  obtain ⟨h1,h2⟩:=hc.get
  apply Array.ext'
  simp only [List.extract_toArray,List.extract_eq_take_drop,Nat.add_sub_cancel_left]
  apply List.ext_getElem?
  intro i
  rw [List.getElem?_take]
  split
  ·rename_i hi
   have hr:r[i]?=some (r[i]'(by omega)):=List.getElem?_eq_getElem (by omega)
   rw [List.getElem?_drop,hr];exact h2 i _ hr
  ·rw [List.getElem?_eq_none (by omega)]
 simp [execOp,hA.ev hx,Instr.field,run_underlying hu,hf,asAgg,part,isAgg_yes hT.d,size_of hT.s,←e]
theorem yd_nil {g o j:Nat} (hx:ev fr x=some (ptr g o j)):Yd P n fr H (.nilCheck x) ty (ptr g o j):=.mk fun a w d pos aft gd hA _=>by
 simp [execOp,hA.ev hx,ptr]
theorem yd_nilf {f:Nat} {l:Array Value} (hx:ev fr x=some (.func (.func f) #[] l)):Yd P n fr H (.nilCheck x) ty (.func (.func f) #[] l):=.mk fun a w d pos aft gd hA _=>by
 simp [execOp,hA.ev hx]
theorem yd_ix {t e m b o len cp:Nat} {kd:IntKind} {i:Int} [hS:SlC P t e m] (hx:ev fr x=some (.slice (some ⟨b,o,none⟩) len cp)) (hy:ev fr y=some (.int kd i)) (h0:0≤i) (h1:i < len) :
  Yd P n fr H (.indexAddr t x y) ty (ptr b (o+i.toNat * m) 0):=.mk fun a w d pos aft gd hA _=>by
 simp [execOp,hA.ev hx,hA.ev hy,Instr.indexAt,run_underlying hS.u,asIntOf,h0,h1,size_of hS.s,Addr.add_lit,ptr]
theorem yd_ixs {t:Nat} {kd:IntKind} {i:Int} {s:ByteArray} [hS:StrC P t] (hx:ev fr x=some (.string s)) (hy:ev fr y=some (.int kd i)) (h0:0≤i) (h1:i.toNat < s.size) :
  Yd P n fr H (.index t x y) ty (.int .u8 (s[i.toNat]'h1).toNat):=.mk fun a w d pos aft gd hA _=>by
 simp [execOp,hA.ev hx,hA.ev hy,Instr.index,run_underlying hS.u,asIntOf,h0,h1]
theorem yd_ex {i:Nat} {l:List Value} (hx:ev fr x=some (.tuple l.toArray)) (hv:l[i]?=some v):Yd P n fr H (.extract x i) ty v:=.mk fun a w d pos aft gd hA _=>by
 simp [execOp,hA.ev hx,Instr.extract,hv]
theorem yd_not {b:Bool} {t:Nat} (hx:ev fr x=some (.bool b)):Yd P n fr H (.unOp .not t x) ty (.bool (!b)):=.mk fun a w d pos aft gd hA _=>by
 simp [execOp,hA.ev hx,Op.unary]
theorem yd_notd {p:Prop} {_:Decidable p} {t:Nat} (hx:ev fr x=some (.bool (decide p))):Yd P n fr H (.unOp .not t x) ty (.bool (decide (¬p))):=.mk fun a w d pos aft gd hA _=>by
 simp [execOp,hA.ev hx,Op.unary]
theorem yd_neg {a:Int} {t:Nat} (hx:ev fr x=some (.int .i64 a)) (h0:-9223372036854775808≤-a) (h1:-a≤9223372036854775807):Yd P n fr H (.unOp .neg t x) ty (.int .i64 (-a)):=.mk fun a w d pos aft gd hA _=>by
 simp [execOp,hA.ev hx,Op.unary,Op.intArith,IntWalk.i64_in _ ⟨h0,h1⟩]
section
variable {a b:Int} {t t':TypeId} (hx:ev fr x=some (.int .i64 a)) (hy:ev fr y=some (.int .i64 b))
include hx hy
theorem yd_add (h0:-9223372036854775808≤a+b) (h1:a+b≤9223372036854775807):Yd P n fr H (.binOp .add t x y t') ty (.int .i64 (a+b)):=.mk fun a w d pos aft gd hA _=>by
 simp [execOp,hA.ev hx,hA.ev hy,eqGuard_add,binOp_add,Op.intArith,IntWalk.i64_in _ ⟨h0,h1⟩]
theorem yd_sub (h0:-9223372036854775808≤a - b) (h1:a - b≤9223372036854775807):Yd P n fr H (.binOp .sub t x y t') ty (.int .i64 (a - b)):=.mk fun a w d pos aft gd hA _=>by
 simp [execOp,hA.ev hx,hA.ev hy,eqGuard_sub,binOp_sub,Op.intArith,IntWalk.i64_in _ ⟨h0,h1⟩]
theorem yd_mul (h0:-9223372036854775808≤a * b) (h1:a * b≤9223372036854775807):Yd P n fr H (.binOp .mul t x y t') ty (.int .i64 (a * b)):=.mk fun a w d pos aft gd hA _=>by
 simp [execOp,hA.ev hx,hA.ev hy,eqGuard_mul,binOp_mul,Op.intArith,IntWalk.i64_in _ ⟨h0,h1⟩]
theorem yd_quo (h0:0≤a) (h2:a≤9223372036854775807) (h1:0 < b):Yd P n fr H (.binOp .quo t x y t') ty (.int .i64 (a / b)):=.mk fun c w d pos aft gd hA _=>by
 have hle:a / b≤a:=Int.ediv_le_self _ h0
 have hge:0≤a / b:=Int.ediv_nonneg h0 (by omega)
 have hb:b≠0:=by omega
 simp [execOp,hA.ev hx,hA.ev hy,eqGuard_quo,binOp_quo,Op.intDiv,hb,Int.tdiv_eq_ediv_of_nonneg h0,IntWalk.i64_in _ ⟨(by omega:-9223372036854775808≤a / b),(by omega:a / b≤9223372036854775807)⟩]
theorem yd_rem (h0:0≤a) (h1:0 < b):Yd P n fr H (.binOp .rem t x y t') ty (.int .i64 (a % b)):=.mk fun c w d pos aft gd hA _=>by
 have hb:b≠0:=by omega
 simp [execOp,hA.ev hx,hA.ev hy,eqGuard_rem,binOp_rem,Op.intDiv,hb,Int.tmod_eq_emod_of_nonneg h0]
end
section
variable {a b:Int} {k:IntKind} {t t':TypeId} (hx:ev fr x=some (.int k a)) (hy:ev fr y=some (.int k b))
include hx hy
theorem yd_min {ts:Array TypeId}:Yd P n fr H (.call { callee:=.builtin .min,args:=#[x,y],argTypes:=ts }) ty (.int k (min a b)):=.mk fun c w d pos aft gd hA _=>by
 have e:(if b < a then b else a)=min a b:=by split <;> omega
 simp [execOp,hA.ev hx,hA.ev hy,resolve,invoke,builtin,run_min_int2,e]
theorem yd_max {ts:Array TypeId}:Yd P n fr H (.call { callee:=.builtin .max,args:=#[x,y],argTypes:=ts }) ty (.int k (max a b)):=.mk fun c w d pos aft gd hA _=>by
 have e:(if a < b then b else a)=max a b:=by split <;> omega
 simp [execOp,hA.ev hx,hA.ev hy,resolve,invoke,builtin,run_max_int2,e]
theorem yd_lt:Yd P n fr H (.binOp .lss t x y t') ty (.bool (decide (a < b))):=.mk fun a w d pos aft gd hA _=>by
 simp [execOp,hA.ev hx,hA.ev hy,eqGuard_lss,binOp_lss]
theorem yd_le:Yd P n fr H (.binOp .leq t x y t') ty (.bool (decide (a≤b))):=.mk fun a w d pos aft gd hA _=>by
 simp [execOp,hA.ev hx,hA.ev hy,eqGuard_leq,binOp_leq]
theorem yd_gt:Yd P n fr H (.binOp .gtr t x y t') ty (.bool (decide (b < a))):=.mk fun a w d pos aft gd hA _=>by
 simp [execOp,hA.ev hx,hA.ev hy,eqGuard_gtr,binOp_gtr]
theorem yd_ge:Yd P n fr H (.binOp .geq t x y t') ty (.bool (decide (b≤a))):=.mk fun a w d pos aft gd hA _=>by
 simp [execOp,hA.ev hx,hA.ev hy,eqGuard_geq,binOp_geq]
theorem yd_eq:Yd P n fr H (.binOp .eql t x y t') ty (.bool (decide (a=b))):=.mk fun a w d pos aft gd hA _=>by
 simp [execOp,hA.ev hx,hA.ev hy,eqGuard_at_int,binOp_eql];rfl
theorem yd_ne:Yd P n fr H (.binOp .neq t x y t') ty (.bool (decide (¬a=b))):=.mk fun a w d pos aft gd hA _=>by
 simp [execOp,hA.ev hx,hA.ev hy,eqGuard_at_int,binOp_neq,bne];rfl
end
section
variable {a b:ByteArray} {t t':TypeId} (hx:ev fr x=some (.string a)) (hy:ev fr y=some (.string b))
include hx hy
theorem yd_cat (h:a.size+b.size≤9223372036854775807):Yd P n fr H (.binOp .add t x y t') ty (.string (a++b)):=.mk fun c w d pos aft gd hA _=>by
 have:¬((a.size:Int)+b.size > 9223372036854775807):=by omega
 simp [execOp,hA.ev hx,hA.ev hy,eqGuard_add,binOp,Op.stringOp,this]
theorem yd_eqs:Yd P n fr H (.binOp .eql t x y t') ty (.bool (decide (a=b))):=.mk fun c w d pos aft gd hA _=>by
 simp [execOp,hA.ev hx,hA.ev hy,eqGuard_at_string,binOp,Op.stringOp,list_eq_iff a b]
theorem yd_nes:Yd P n fr H (.binOp .neq t x y t') ty (.bool (decide (¬a=b))):=.mk fun c w d pos aft gd hA _=>by
 simp [execOp,hA.ev hx,hA.ev hy,eqGuard_at_string,binOp,Op.stringOp,list_eq_iff a b]
end
theorem equal_bool {t:TypeId} [hB:BoolC P t] (a b:Bool) (w:World):(Op.equal t (.bool a) (.bool b)).run P w=.ok (a == b) w:=by
 unfold Op.equal
 rw [show Op.maxDepth=9999+1 from rfl]
 unfold Op.equalIn
 rw [Sem.run_bind,run_underlying hB.u w]
 rfl
theorem yd_eqb {a b:Bool} {t t':TypeId} [hB:BoolC P t] (hx:ev fr x=some (.bool a)) (hy:ev fr y=some (.bool b)):Yd P n fr H (.binOp .eql t x y t') ty (.bool (decide (a=b))):=.mk fun c w d pos aft gd hA _=>by
 have e:binOp .eql t (.bool a) (.bool b)=(do pure (.bool (←Op.equal t (.bool a) (.bool b)))):=rfl
 simp only [execOp,hA.ev hx,hA.ev hy,eqGuard_at_bool,e,Sem.run_bind,Sem.run_pure,Result.andThen_ok,equal_bool];cases a <;> cases b <;> rfl
theorem yd_neb {a b:Bool} {t t':TypeId} [hB:BoolC P t] (hx:ev fr x=some (.bool a)) (hy:ev fr y=some (.bool b)):Yd P n fr H (.binOp .neq t x y t') ty (.bool (decide (¬a=b))):=.mk fun c w d pos aft gd hA _=>by
 have e:binOp .neq t (.bool a) (.bool b)=(do pure (.bool (!(←Op.equal t (.bool a) (.bool b))))):=rfl
 simp only [execOp,hA.ev hx,hA.ev hy,eqGuard_at_bool,e,Sem.run_bind,Sem.run_pure,Result.andThen_ok,equal_bool];cases a <;> cases b <;> rfl
theorem yd_cv {k k':IntKind} {a:Int} {s t:TypeId} [hS:IntC P s k'] [hD:IntC P t .i64] (hx:ev fr x=some (.int k a)) (h0:-9223372036854775808≤a) (h1:a≤9223372036854775807):Yd P n fr H (.convert s t x) ty (.int .i64 a):=.mk fun c w d pos aft gd hA _=>by
 simp [execOp,hA.ev hx,convert,run_underlying hS.u,run_underlying hD.u,Conv.intToInt,IntWalk.i64_in _ ⟨h0,h1⟩]
theorem yd_len {a:Option Addr} {len cp t e m:Nat} [hS:SlC P t e m] (hx:ev fr x=some (.slice a len cp)):Yd P n fr H (.call { callee:=.builtin .len,args:=#[x],argTypes:=#[t] }) ty (.int .i64 len):=.mk fun c w d pos aft gd hA _=>by
 simp [execOp,hA.ev hx,resolve,invoke,builtin,Builtin.len_,run_underlying hS.u,goInt]
theorem yd_lens {s:ByteArray} {t:Nat} [hS:StrC P t] (hx:ev fr x=some (.string s)):Yd P n fr H (.call { callee:=.builtin .len,args:=#[x],argTypes:=#[t] }) ty (.int .i64 s.size):=.mk fun c w d pos aft gd hA _=>by
 simp [execOp,hA.ev hx,resolve,invoke,builtin,run_len_string (h:=hS.u),goInt]
theorem yd_slt {t e m i:Nat} {a:Option Addr} {len cp:Nat} {z:Int} [hS:SlC P t e m] (hx:ev fr x=some (.slice a len cp)) (hy:ev fr y=some (.int .i64 z)) (hz:z=(i:Int)) (hi:i≤cp) (hc:cp≤9223372036854775807):Yd P n fr H (.slice t x none (some y) none) ty (.slice a i cp):=.mk fun ac w d pos aft gd hA _=>by
 subst hz
 have he2:P.elem t=e:=by simp [Program.elem,hS.u]
 have h3:(Instr.sliceAt t (.slice a len cp) none (some (.int .i64 (i:Int))) none).run P w=.ok (.slice a i cp) w:=by
  rw [run_sliceAt_slice (h:=by rw [he2];exact hS.u),run_slice_h (ht:=by rw [he2];exact hS.u) (h0:=by omega) (h2:=by omega),he2,size_of hS.s]
  have h0:a.map (fun b=>b.add 0)=a:=by cases a <;> simp [Addr.add]
  simp [Result.andThen,sliced,h0]
 simp only [execOp,Option.map_none,Option.map_some,hA.ev hx,hA.ev hy,Sem.run_bind,h3,Result.andThen_ok,Sem.run_pure]
theorem yd_fn {f:Nat} {caps:List Operand} {vs:List Value} (hc:Evs fr caps vs):Yd P n fr H (.makeFunc (.func f) #[] caps.toArray) ty (.func (.func f) #[] vs.toArray):=.mk fun c w d pos aft gd hA _=>by
 simp [execOp,Instr.makeFunc,hA.evs hc]
end
class ZC (P:Program) (t:TypeId) (zs:outParam (List Value)):Prop where
 z:∃v,(P.info? t).map (·.zero)=some (some v)∧v.cells=zs.toArray
class ElT (P:Program) (e:TypeId) (z:outParam Value) (n:outParam Nat) (by_:outParam Nat):Prop where
 i:(P.info? e).map (fun i=>(i.zero,i.size,i.bytes))=some (some z,n,by_)
 s:z.cells.size=n
class BldC (P:Program) (t:TypeId) (pl:outParam (List (Nat × Nat))) (zs:outParam (List Value)):Prop where
 b:∀parts,P.built t parts=Instr.fill (pl.toArray[·]?) zs.toArray parts
def bodyB (P:Program) (f:FuncId):Bool:=match P.funcs[f]? with
 | some fn=>!(fn.name == "runtime.NumGoroutine") && !fn.body.isNone
 | none=>false
theorem body_of {P:Program} {f:FuncId} (h:bodyB P f=true):Body P f:=by
 unfold bodyB at h
 split at h
 ·rename_i fn hf
  simp only [Bool.and_eq_true,Bool.not_eq_true'] at h
  exact .mk' hf h.1 h.2
 ·cases h
structure Ef (c:Cx) (fr:Fr) (H:List Pc) (o:Oper) (Φ:Gl):Prop where
 h:∀Q a w,St c.G c.D c.w0 H w→Ag c.n fr a→o.wp c.P a w (Φ.sem c) Q
structure Cl (c:Cx) (fr:Fr) (H:List Pc) (d:Nat) (f:FuncId) (vs:List Value) (Φ:Gl):Prop where
 h:∀w,St c.G c.D c.w0 H w→∃R:Ending→World→Prop,Calls c.P f vs.toArray w R∧∀e w',R e w'→∃v,e=.returned v∧∀a,Ag c.n ((d,v)::fr) a→Φ.sem c a w'
theorem ef_of {c:Cx} {fr:Fr} {H:List Pc} {o:Oper} {Φ:Gl} (h:∀Q a w,St c.G c.D c.w0 H w→Ag c.n fr a→Oper.upon c.P o a (Φ.sem c) Q ((execOp a.eval o).run c.P w)):Ef c fr H o Φ:=⟨h⟩
inductive Rpl:List Pc→Pc→Pc→List Pc→Prop
 | here {p q R}:Rpl (p::R) p q (q::R)
 | there {x p q R S}:Rpl R p q S→Rpl (x::R) p q (x::S)
theorem Rpl.picks {H p q S} (h:Rpl H p q S):∃R,Pick H p R∧Pick S q R:=by
 induction h with
 | here=>exact ⟨_,.here,.here⟩
 | there _ ih=>obtain ⟨R,h1,h2⟩:=ih;exact ⟨_,.there h1,.there h2⟩
theorem Pick.unsep {H p R} (h:Pick H p R) (hs:Sep (p::R)):Sep H:=by
 induction h with
 | here=>exact hs
 | @there x p R R' h ih =>
  have h2:=Sep.perm2 hs
  have h3:=ih h2.2
  refine ⟨fun q hq=>?_,h3⟩
  have:∀{A:List Pc} {p B},Pick A p B→∀q∈A,q=p∨q∈B:=by
   intro A p B h
   induction h with
   | here=>intro q hq;simpa using hq
   | there _ ih =>
    intro q hq
    rcases List.mem_cons.1 hq with rfl|hq
    ·simp
    ·rcases ih q hq with h|h <;> simp [h]
  rcases this h q hq with rfl|hq
  ·exact h2.1 _ (by simp)
  ·exact h2.1 _ (by simp [hq])
theorem Pick.or {A:List Pc} {p B} (h:Pick A p B):∀q∈A,q=p∨q∈B:=by
 induction h with
 | here=>intro q hq;simpa using hq
 | there _ ih =>
  intro q hq
  rcases List.mem_cons.1 hq with rfl|hq
  ·simp
  ·rcases ih q hq with h|h <;> simp [h]
theorem St.unpick {G D w0 H p R w} (s:St G D w0 (p::R) w) (h:Pick H p R):St G D w0 H w :=
 ⟨s.keep,fun q hq=>by rcases h.or q hq with rfl|hq;exact s.on _ (by simp);exact s.on _ (by simp [hq]),h.unsep s.sep,fun q hq=>by rcases h.or q hq with rfl|hq;exact s.mine _ (by simp);exact s.mine _ (by simp [hq])⟩
theorem St.rpl {G D w0 H p q S} {w w':World} (s:St G D w0 H w) (h:Rpl H p q S) (hm:p.mu=true) (hF:∀b∈q.F,b∈p.F∨w.heap.size≤b) (hk:Keep p.F w w') (hq:q.P w'):St G D w0 S w':=by
 obtain ⟨R,h1,h2⟩:=h.picks
 refine St.unpick (R:=R) ?_ h2
 refine St.turn (M:=[p]) (R:=R) (N:=[q]) (s.pick h1) (by simpa [List.filter,hm,fp] using hk) (by intro x hx;simp at hx;subst hx;exact hq) ⟨by simp,trivial⟩ fun x hx b hb=>?_
 simp at hx;subst hx
 rcases hF b hb with h|h
 ·exact .inr (.inl ⟨p,by simp,hm,h⟩)
 ·exact .inl h
theorem St.add {G D w0 H} {w w':World} {N:List Pc} (s:St G D w0 H w) (hb:Below w.heap.size w w') (hN:Hol N w') (hs:Sep N) (hF:∀p∈N,∀b∈p.F,w.heap.size≤b∨(p.mu=false∧∃q∈H,q.mu=false∧b∈q.F)):St G D w0 (N++H) w' :=
 St.turn (M:=[]) (R:=H) (N:=N) s (by simpa [fp] using Keep.ofBelow hb) hN hs fun p hp b hb=>by
  rcases hF p hp b hb with h|h
  ·exact .inl h
  ·exact .inr (.inr (by simpa using h))
theorem St.below {G D w0 H} {w w':World} (s:St G D w0 H w) (hb:Below w.heap.size w w'):St G D w0 H w':=s.add (N:=[]) hb (by intro p hp;simp at hp) trivial (by simp)
theorem below_alloc (w:World) (o:Obj):Below w.heap.size w (w.alloc o):=(Below.refl _ _).alloc (Nat.le_refl _) o
theorem St.new {G D w0 H} {w:World} (s:St G D w0 H w) (t:TypeId) (cs:List Value):St G D w0 (.row w.heap.size t 0 [] cs []::H) (w.alloc (.cells cs.toArray t)) :=
 s.add (N:=[.row w.heap.size t 0 [] cs []]) (below_alloc _ _) (by intro p hp;simp at hp;subst hp;exact ⟨rfl,by simpa using Row.made w t cs⟩) ⟨by simp,trivial⟩ (by intro p hp b hb;simp at hp;subst hp;simp [Pc.F] at hb;subst hb;exact .inl (Nat.le_refl _))
inductive Put:List Value→Nat→List Value→List Value→Prop
 | zero {cs}:Put cs 0 [] cs
 | one {x cs u l r}:Put cs 0 l r→Put (x::cs) 0 (u::l) (u::r)
 | skip {x cs j l r}:Put cs j l r→Put (x::cs) (j+1) l (x::r)
theorem Put.parts {cs j l r} (h:Put cs j l r):∃A o B,cs=A++o++B∧r=A++l++B∧A.length=j∧o.length=l.length:=by
 induction h with
 | @zero cs=>exact ⟨[],[],cs,by simp,by simp,rfl,rfl⟩
 | @one x cs u l r _ ih =>
  obtain ⟨A,o,B,rfl,rfl,hA,ho⟩:=ih
  have:A=[]:=List.eq_nil_of_length_eq_zero hA
  subst this
  exact ⟨[],x::o,B,by simp,by simp,rfl,by simp [ho]⟩
 | @skip x cs j l r _ ih =>
  obtain ⟨A,o,B,rfl,rfl,hA,ho⟩:=ih
  exact ⟨x::A,o,B,by simp,by simp,by simp [hA],ho⟩
theorem storeAt_cells {P:Program} {t:TypeId} {n:Nat} (hs:(P.info? t).map (·.size)=some n) {w:World} {b o:Nat} {v:Value} {l:List Value} (hv:v.cells=l.toArray) (hl:l.length=n) (ht:w.there b o n) (h1:l.all (·.oneCell')=true) :
  (Instr.storeAt t (.pointer (some ⟨b,o,none⟩)) v).run P w=.ok () (w.setCells b o l):=by
 subst hl
 have:=run_storeCells_cells (P:=P) b o l 0 w (fun j hj=>by simpa using (ht j hj).1) (fun j hj=>by simpa using (ht j hj).2) (fun v hv=>List.all_eq_true.1 h1 v hv)
 simp only [Nat.add_zero] at this
 simp [Instr.storeAt,Instr.sureAddr,storeVar,size_of hs,hv,this]
theorem row_set {w:World} {g t o j:Nat} {A cs B l r:List Value} (h:(Pc.row g t o A cs B).P w) (hp:Put cs j l r):(Pc.row g t o A r B).P (w.setCells g (o+j) l)∧Keep [g] w (w.setCells g (o+j) l):=by
 obtain ⟨rfl,h⟩:=h
 obtain ⟨X,y,Y,rfl,rfl,rfl,hy⟩:=hp.parts
 have h2:Row w g t ((A++X)++y++(Y++B)):=by simpa using h
 have h3:=Row.put l y h2 (p:=A.length+X.length) (by simp) hy.symm
 have hk:=putCells_keep (g:=g) l w (A.length+X.length)
 rw [putCells_eq w g l w] at h3 hk
 exact ⟨⟨rfl,by simpa using h3⟩,hk⟩
def Fn (P:Program) (f:FuncId) (args:List Value) (A M:List Pc) {σ:Type} (C:σ→Prop) (v:σ→Value) (N:σ→List Pc):Prop :=
 ∀w,Hol (M++A) w→Sep (M++A)→Calls P f args.toArray w fun e w'=>∃s,C s∧e=.returned (v s)∧Hol (N s) w'∧Sep (N s)∧Keep (fp M) w w' ∧
  ∀p∈N s,∀b∈p.F,w.heap.size≤b∨(∃q∈M,b∈q.F)∨(p.mu=false∧∃q∈A,b∈q.F)
inductive Picks:List Pc→List Pc→List Pc→Prop
 | nil {H}:Picks H [] H
 | cons {H p R M S}:Pick H p R→Picks R M S→Picks H (p::M) S
theorem Picks.st {G D w0 H M R w} (h:Picks H M R):∀{X:List Pc},St G D w0 (X++H) w→St G D w0 (X++(M++R)) w:=by
 induction h with
 | nil=>intro X s;simpa using s
 | @cons H p R M S hp _ ih =>
  intro X s
  have h1:∀(X:List Pc),Pick (X++H) p (X++R):=by
   intro X;induction X with
   | nil=>exact hp
   | cons x X ih=>exact .there ih
  have h2:∀(X:List Pc),Pick (X++(p::(M++S))) p (X++(M++S)):=by
   intro X;induction X with
   | nil=>exact .here
   | cons x X ih=>exact .there ih
  have s1:=s.pick (h1 X)
  have s2:=ih (X:=p::X) (by simpa using s1)
  exact St.unpick (by simpa using s2) (h2 X)
inductive Mems:List Pc→List Pc→Prop
 | nil {H}:Mems [] H
 | cons {p A H}:p∈H→Mems A H→Mems (p::A) H
theorem Mems.all {A H} (h:Mems A H):∀p∈A,p∈H:=by
 induction h with
 | nil=>simp
 | cons h _ ih=>intro q hq;rcases List.mem_cons.1 hq with rfl|hq;exact h;exact ih q hq
section
variable {c:Cx} {fr:Fr} {H:List Pc} {k:List It} {Φ:Gl} {ops:Array Oper} {rest:List Oper} {d:Nat} {o:Op} {ty:TypeId} {pos:String} {aft:Array Edge} {v u:Value} {x y:Operand}
theorem w_ef {o:Oper} (h:Ef c fr H o (.list k ops rest)) (hg:o.guard=none:=by rfl):T c fr H (.list k ops (o::rest)):=.mk fun a w s g =>
 wpList_plain hg fun K hK=>Oper.wp_mono hK (h.h _ a w s g)
theorem ef_yd {gd:Option (Nat × Bool)} (hy:Yd c.P c.n fr H o ty v) (hd:Nat.blt d c.n=true) (h:T c ((d,v)::fr) H Φ):Ef c fr H ⟨some d,o,ty,pos,aft,gd⟩ Φ:=ef_of fun Q a w s g=>by
 rw [hy.h a w (some d) pos aft gd g s.on]
 exact h.h _ _ s (g.put hd)
structure On (c:Cx) (fr:Fr) (H:List Pc) (od:Option Tmp) (o:Op) (ty:TypeId) (Φ:Gl):Prop where
 h:∀pos aft gd,Ef c fr H ⟨od,o,ty,pos,aft,gd⟩ Φ
theorem wO {od:Option Tmp} (h:On c fr H od o ty (.list k ops rest)):T c fr H (.list k ops (⟨od,o,ty,pos,aft,none⟩::rest)):=w_ef (h.h pos aft none)
theorem oc (hd:Nat.blt d c.n=true) (hy:Yd c.P c.n fr H o ty v) (h:T c ((d,v)::fr) H Φ):On c fr H (some d) o ty Φ:=⟨fun _ _ _=>ef_yd hy hd h⟩
/-! guards of a plain region -/
theorem wanted_eq {a:Act} {j t:Nat} {b b':Bool} {od:Option Tmp} (ht:(ops[j]?).bind (·.dst)=some t) (hl:look fr t=some (.bool b')) (g:Ag c.n fr a):Region.wanted ⟨od,o,ty,pos,aft,some (j,b)⟩ (yielded ops a.tmps)=(b' == b):=by
 simp only [Region.wanted,yielded,ht,Option.bind_some,g.at_ t _ hl]
 cases b <;> cases b' <;> rfl
theorem wg_t {j t:Nat} {b:Bool} {od:Option Tmp} (ht:(ops[j]?).bind (·.dst)=some t) (hl:look fr t=some (.bool b)) (h:T c fr H (.list k ops (⟨od,o,ty,pos,aft,none⟩::rest))) :
  T c fr H (.list k ops (⟨od,o,ty,pos,aft,some (j,b)⟩::rest)):=.mk fun a w s g=>by
 have h1:=h.h a w s g
 simp only [Gl.sem] at h1 ⊢
 unfold wpList at h1 ⊢
 rw [wanted_eq (c:=c) ht hl g]
 simp only [Region.wanted,if_true,beq_self_eq_true] at h1 ⊢
 exact h1
theorem wg_f {j t:Nat} {b b':Bool} (ht:(ops[j]?).bind (·.dst)=some t) (hl:look fr t=some (.bool b')) (hb:(b' == b)=false) (hd:Nat.blt d c.n=true) (h:T c ((d,undef)::fr) H (.list k ops rest)) :
  T c fr H (.list k ops (⟨some d,o,ty,pos,aft,some (j,b)⟩::rest)):=.mk fun a w s g=>by
 simp only [Gl.sem]
 unfold wpList
 rw [wanted_eq (c:=c) ht hl g,hb]
 simp only [Bool.false_eq_true,if_false]
 exact h.h _ _ s (g.put hd)
theorem wg_u {j t:Nat} {b:Bool} (ht:(ops[j]?).bind (·.dst)=some t) (hl:look fr t=some undef) (hd:Nat.blt d c.n=true) (h:T c ((d,undef)::fr) H (.list k ops rest)) :
  T c fr H (.list k ops (⟨some d,o,ty,pos,aft,some (j,b)⟩::rest)):=.mk fun a w s g=>by
 have hw:Region.wanted ⟨some d,o,ty,pos,aft,some (j,b)⟩ (yielded ops a.tmps)=false:=by
  simp only [Region.wanted,yielded,ht,Option.bind_some,g.at_ t _ hl];rfl
 simp only [Gl.sem]
 unfold wpList
 rw [hw]
 simp only [Bool.false_eq_true,if_false]
 exact h.h _ _ s (g.put hd)
theorem wg_if {j t:Nat} {b:Bool} {od:Option Tmp} {p:Prop} {_:Decidable p} (ht:(ops[j]?).bind (·.dst)=some t) (hl:look fr t=some (.bool (decide p))) (h1:p→T c ((t,.bool true)::fr) H (.list k ops (⟨od,o,ty,pos,aft,some (j,b)⟩::rest))) (h2:¬p→T c ((t,.bool false)::fr) H (.list k ops (⟨od,o,ty,pos,aft,some (j,b)⟩::rest))) :
  T c fr H (.list k ops (⟨od,o,ty,pos,aft,some (j,b)⟩::rest)):=.mk fun a w s g=>by
 by_cases hp:p
 ·rw [decide_eq_true hp] at hl
  exact (h1 hp).h a w s ⟨g.df,g.sz,fun i z hz=>by rw [look_cons] at hz;split at hz;(rename_i e;subst e;rw [←hz,g.at_ _ _ hl]);exact g.at_ i z hz⟩
 ·rw [decide_eq_false hp] at hl
  exact (h2 hp).h a w s ⟨g.df,g.sz,fun i z hz=>by rw [look_cons] at hz;split at hz;(rename_i e;subst e;rw [←hz,g.at_ _ _ hl]);exact g.at_ i z hz⟩
/-! memory -/
theorem ef_alloc {t:TypeId} {zs:List Value} {gd:Option (Nat × Bool)} [hZ:ZC c.P t zs] (h:∀g,T c ((d,ptr g 0 0)::fr) (.row g t 0 [] zs []::H) Φ) (hd:Nat.blt d c.n=true:=by rfl):Ef c fr H ⟨some d,.alloc t,ty,pos,aft,gd⟩ Φ:=ef_of fun Q a w s g=>by
 obtain ⟨z,hz,hzc⟩:=hZ.z
 obtain ⟨i,hi,hiz⟩:=Option.map_eq_some_iff.1 hz
 have e:(execOp a.eval ⟨some d,.alloc t,ty,pos,aft,gd⟩).run c.P w=.ok (.value (ptr w.heap.size 0 0)) (w.alloc (.cells zs.toArray t)):=by
  simp [execOp,Instr.alloc,zeroValue,typeInfo,hi,hiz,newVar,newRow,hzc,ptr]
 rw [e]
 exact (h _).h _ _ (s.new t zs) (g.put hd)
theorem ef_box {t:TypeId} {l:List Value} {gd:Option (Nat × Bool)} (hx:ev fr x=some v) (hv:v.cells=l.toArray) (h:∀g,T c ((d,ptr g 0 0)::fr) (.row g t 0 [] l []::H) Φ) (hd:Nat.blt d c.n=true:=by rfl):Ef c fr H ⟨some d,.box t x,ty,pos,aft,gd⟩ Φ:=ef_of fun Q a w s g=>by
 have e:(execOp a.eval ⟨some d,.box t x,ty,pos,aft,gd⟩).run c.P w=.ok (.value (ptr w.heap.size 0 0)) (w.alloc (.cells l.toArray t)):=by
  simp [execOp,Instr.box,g.ev hx,newVar,newRow,hv,ptr]
 rw [e]
 exact (h _).h _ _ (s.new t l) (g.put hd)
theorem ef_store {t g tt o' j m:Nat} {A cs B l r:List Value} {S:List Pc} {gd:Option (Nat × Bool)} (hs:(c.P.info? t).map (·.size)=some m) (hx:ev fr x=some (ptr g o' j)) (hy:ev fr y=some v) (hv:v.cells=l.toArray) (hl:l.length=m) (h1:l.all (·.oneCell')=true)
  (hp:Put cs j l r) (hr:Rpl H (.row g tt o' A cs B) (.row g tt o' A r B) S) (h:T c fr S Φ):Ef c fr H ⟨none,.store t x y,ty,pos,aft,gd⟩ Φ:=ef_of fun Q a w s ag=>by
 have hP:(Pc.row g tt o' A cs B).P w:=by obtain ⟨R,h1,_⟩:=hr.picks;exact s.on _ h1.mem
 have ht:w.there g (o'+j) m:=fun i hi=>by
  obtain ⟨X,z,Y,rfl, -,rfl,hz⟩:=hp.parts
  have:=row_there hP (X.length+i) (by simp;omega)
  rwa [←Nat.add_assoc] at this
 have e:(execOp a.eval ⟨none,.store t x y,ty,pos,aft,gd⟩).run c.P w=.ok .skip (w.setCells g (o'+j) l):=by
  simp [execOp,ag.ev hx,ag.ev hy,ptr,storeAt_cells hs hv hl ht h1]
 rw [e]
 have ⟨h2,h3⟩:=row_set hP hp
 exact h.h _ _ (s.rpl hr rfl (fun b hb=>.inl hb) h3 h2) ag
theorem o_alloc {t:TypeId} {zs:List Value} [hZ:ZC c.P t zs] (hd:Nat.blt d c.n=true) (h:∀g,T c ((d,ptr g 0 0)::fr) (.row g t 0 [] zs []::H) Φ):On c fr H (some d) (.alloc t) ty Φ:=⟨fun _ _ _=>ef_alloc h hd⟩
theorem o_box {t:TypeId} {l:List Value} (hd:Nat.blt d c.n=true) (hx:ev fr x=some v) (hv:v.cells=l.toArray) (h:∀g,T c ((d,ptr g 0 0)::fr) (.row g t 0 [] l []::H) Φ):On c fr H (some d) (.box t x) ty Φ:=⟨fun _ _ _=>ef_box hx hv h hd⟩
theorem o_st {t g tt o' j m:Nat} {A cs B l r:List Value} {S:List Pc} (hx:ev fr x=some (ptr g o' j)) (hy:ev fr y=some v) (hv:v.cells=l.toArray) (hs:(c.P.info? t).map (·.size)=some m) (hl:l.length=m) (hr:Rpl H (.row g tt o' A cs B) (.row g tt o' A r B) S) (hp:Put cs j l r) (h1:l.all (·.oneCell')=true) (h:T c fr S Φ):On c fr H none (.store t x y) ty Φ :=
 ⟨fun _ _ _=>ef_store hs hx hy hv hl h1 hp hr h⟩
/-! calls -/
theorem cl_ef {f:Nat} {aS:List Operand} {ts:Array TypeId} {vs:List Value} {gd:Option (Nat × Bool)} (h:Cl c fr H d f vs Φ) (ha:Evs fr aS vs) (hb:bodyB c.P f=true) (hd:Nat.blt d c.n=true):Ef c fr H ⟨some d,.call { callee:=.value (.func f),args:=aS.toArray,argTypes:=ts },ty,pos,aft,gd⟩ Φ:=ef_of fun Q a w s g=>by
 have e:(execOp a.eval ⟨some d,.call { callee:=.value (.func f),args:=aS.toArray,argTypes:=ts },ty,pos,aft,gd⟩).run c.P w=(callFunc f vs.toArray).run c.P w:=by
  simp [execOp,resolve,Deferred.ofValue,Act.eval,invoke,g.evs ha]
 rw [e]
 obtain ⟨R,hc,hk⟩:=h.h w s
 refine (body_of hb).upon hc fun e w' hR=>?_
 obtain ⟨v,he,hv⟩:=hk e w' hR
 exact ⟨v,he,hv _ (g.put hd)⟩
theorem cl_of {f:Nat} {vs:List Value} {R:World→Ending→World→Prop} (hc:∀w,St c.G c.D c.w0 H w→Calls c.P f vs.toArray w (R w))
  (hk:∀w e w',St c.G c.D c.w0 H w→R w e w'→∃v,e=.returned v∧∀a,Ag c.n ((d,v)::fr) a→Φ.sem c a w'):Cl c fr H d f vs Φ:=⟨fun w s=>⟨R w,hc w s,fun e w' hR=>hk w e w' s hR⟩⟩
theorem cb {f:Nat} {vs:List Value} (hc:∀w,St c.G c.D c.w0 H w→Calls c.P f vs.toArray w fun e w'=>e=.returned v∧Below w.heap.size w w') (h:T c ((d,v)::fr) H Φ):Cl c fr H d f vs Φ :=
 cl_of hc fun w e w' s ⟨he,hB⟩=>⟨v,he,fun a g=>h.h a w' (s.below hB) g⟩
theorem ce {f:Nat} {vs:List Value} (hc:∀w,St c.G c.D c.w0 H w→Calls c.P f vs.toArray w fun e w'=>e=.returned v∧w=w') (h:T c ((d,v)::fr) H Φ):Cl c fr H d f vs Φ :=
 cl_of hc fun w e w' s ⟨he,hB⟩=>⟨v,he,fun a g=>h.h a w' (hB▸s) g⟩
theorem cf_ {f:Nat} {vs:List Value} {A M R:List Pc} {σ:Type} {C:σ→Prop} {vv:σ→Value} {N:σ→List Pc} (hf:Fn c.P f vs A M C vv N) (h:∀s,C s→T c ((d,vv s)::fr) (N s++R) Φ)
  (hM:Picks H M R) (hA:Mems A R) (hmM:M.all (·.mu)=true) (hmA:A.all (fun p=>!p.mu)=true):Cl c fr H d f vs Φ :=
 have hMR:∀w,St c.G c.D c.w0 H w→St c.G c.D c.w0 (M++R) w:=fun w s=>by simpa using hM.st (X:=[]) (by simpa using s)
 have hmu:∀p∈M,p.mu=true:=fun p hp=>List.all_eq_true.1 hmM p hp
 have hro:∀p∈A,p.mu=false:=fun p hp=>by simpa using List.all_eq_true.1 hmA p hp
 have hpre:∀w,St c.G c.D c.w0 H w→Hol (M++A) w∧Sep (M++A):=fun w s=>by
  have s2:=hMR w s
  have hAR:=hA.all
  refine ⟨fun p hp=>?_,?_⟩
  ·rcases List.mem_append.1 hp with hp|hp
   ·exact s2.on p (by simp [hp])
   ·exact s2.on p (by simp [hAR p hp])
  ·have:∀(M:List Pc),Sep (M++R)→Sep (M++A):=by
    intro M
    induction M with
    | nil =>
     intro _
     have:∀(A:List Pc),(∀p∈A,p.mu=false)→Sep A:=by
      intro A
      induction A with
      | nil=>intro _;trivial
      | cons p A ih=>intro h;exact ⟨fun q hq hm=>by rw [h p (by simp),h q (by simp [hq])] at hm;simp at hm,ih fun q hq=>h q (by simp [hq])⟩
     exact this A hro
    | cons p M ih =>
     intro hs
     exact ⟨fun q hq=>hs.1 q (by rcases List.mem_append.1 hq with h|h;simp [h];simp [hAR q h]),ih hs.2⟩
   exact this M s2.sep
 cl_of (R:=fun w e w'=>∃s,C s∧e=.returned (vv s)∧Hol (N s) w'∧Sep (N s)∧Keep (fp M) w w'∧∀p∈N s,∀b∈p.F,w.heap.size≤b∨(∃q∈M,b∈q.F)∨(p.mu=false∧∃q∈A,b∈q.F))
  (fun w s=>hf w (hpre w s).1 (hpre w s).2)
  (fun w e w' s ⟨z,hz,he,hN,hS,hK,hF⟩=>⟨_,he,fun a g=>(h z hz).h a w' (St.turn (hMR w s) (by rwa [List.filter_eq_self.2 hmu]) hN hS fun p hp b hb=>by
   rcases hF p hp b hb with h|⟨q,hq,hqb⟩|⟨hp,q,hq,hqb⟩
   ·exact .inl h
   ·exact .inr (.inl ⟨q,hq,hmu q hq,hqb⟩)
   ·exact .inr (.inr ⟨hp,q,by simp [hA.all q hq],hro q hq,hqb⟩)) g⟩)
theorem o_call {f:Nat} {aS:List Operand} {ts:Array TypeId} {vs:List Value} (hd:Nat.blt d c.n=true) (hb:bodyB c.P f=true) (ha:Evs fr aS vs) (h:Cl c fr H d f vs Φ):On c fr H (some d) (.call { callee:=.value (.func f),args:=aS.toArray,argTypes:=ts }) ty Φ:=⟨fun _ _ _=>cl_ef h ha hb hd⟩
/-! a function's beginning and end -/
end
def FnPost (P:Program) (w:World) (A M:List Pc) {σ:Type} (C:σ→Prop) (v:σ→Value) (N:σ→List Pc) (e:Ending) (w':World):Prop:=∃s,C s∧e=.returned (v s)∧Hol (N s) w'∧Sep (N s)∧Keep (fp M) w w' ∧
  ∀p∈N s,∀b∈p.F,w.heap.size≤b∨(∃q∈M,b∈q.F)∨(p.mu=false∧∃q∈A,b∈q.F)
def args0:Nat→List Value→Fr
 | _,[]=>[]
 | i,v::r=>(i,v)::args0 (i+1) r
theorem look_args (vs:List Value):∀i t v,look (args0 i vs) t=some v→i≤t∧vs[t - i]?=some v:=by
 induction vs with
 | nil=>intro i t v h;cases h
 | cons x r ih =>
  intro i t v h
  unfold args0 at h
  rw [look_cons] at h
  split at h
  ·rename_i e;subst e;exact ⟨Nat.le_refl _,by simpa using h⟩
  ·have ⟨h1,h2⟩:=ih (i+1) t v h
   refine ⟨by omega,?_⟩
   rw [show t - i=(t - (i+1))+1 by omega,List.getElem?_cons_succ];exact h2
theorem fn_enter {P:Program} {f:FuncId} {fn:Func} {cd:Code} {args:List Value} {A M:List Pc} {σ:Type} {C:σ→Prop} {v:σ→Value} {N:σ→List Pc} (hf:P.funcs[f]?=some fn) (hb:fn.body=some cd)
  (h:∀w,T ⟨P,fp M,fp A,w,fn.ntmps,bodyPost P fn (FnPost P w A M C v N)⟩ (args0 0 args) (M++A) (.code [] cd))
  (hn:args.length≤fn.ntmps) (hmA:A.all (fun p=>!p.mu)=true):Fn P f args A M C v N:=fun w hH hS=>by
 refine calls_of_wp hf hb ?_
 have hro:∀p∈A,p.mu=false:=fun p hp=>by simpa using List.all_eq_true.1 hmA p hp
 refine (h w).h _ _ ⟨Keep.refl _ _,hH,hS,fun p hp b hb=>?_⟩ ⟨rfl,by simp;omega,fun t u hu=>?_⟩
 ·rcases List.mem_append.1 hp with hp|hp
  ·exact .inl (mem_fp.2 ⟨p,hp,hb⟩)
  ·exact .inr (.inr ⟨hro p hp,mem_fp.2 ⟨p,hp,hb⟩⟩)
 ·obtain ⟨-,h2⟩:=look_args args 0 t u hu
  simp only [Nat.sub_zero] at h2
  show (args.toArray++Array.replicate (fn.ntmps - args.toArray.size) undef)[t]?=_
  have ht:t < args.length:=(List.getElem?_eq_some_iff.1 h2).1
  rw [Array.getElem?_append_left (by simpa using ht)]
  simpa using h2
inductive Res (P:Program) (fr:Fr) (H:List Pc):List ResultVar→List Value→Prop
 | nil:Res P fr H [] []
 | tmp {t v r vs}:look fr t=some v→Res P fr H r vs→Res P fr H (.tmp t::r) (v::vs)
 | agg {t ty m g o tt A cs B r vs}:AggC P ty m→look fr t=some (ptr g o 0)→Pc.row g tt o A cs B∈H→cs.length=m→Res P fr H r vs→Res P fr H (.cell t ty::r) (.agg cs.toArray::vs)
 | one {t ty g o tt A v B r vs}:OneC P ty→look fr t=some (ptr g o 0)→Pc.row g tt o A [v] B∈H→Res P fr H r vs→Res P fr H (.cell t ty::r) (v::vs)
theorem Cut.whole:∀(l:List Value),Cut l 0 l.length l
 | []=>.zero
 | _::r=>.one (Cut.whole r)
theorem asAddr_ptr (x:Addr):asAddr (.pointer (some x))=pure x:=rfl
theorem res_run {P:Program} {fr:Fr} {H:List Pc} {n:Nat} {rs vs} (f:ResultVar→Sem Value) {a:Act} (f1:∀t,f (.tmp t)=pure (a.tmps.getD t undef)) (f2:∀p t,f (.cell p t)=do loadVar t (←asAddr (a.tmps.getD p undef)))
  (h:Res P fr H rs vs) {w:World} (g:Ag n fr a) (hH:Hol H w):(rs.mapM f).run P w=.ok vs w:=by
 simp only [Array.getD_eq_getD_getElem?] at f1 f2
 induction h with
 | nil=>simp
 | tmp hl _ ih=>simp [List.mapM_cons,f1,g.at_ _ _ hl,ih]
 | @agg t ty m gg o tt A cs B r vs hT hl hm hc _ ih =>
  have h1:=load_agg (hT:=hT) (j:=0) (row_range (hH _ hm)) (by rw [←hc];exact Cut.whole cs)
  simp only [Instr.loadAt,Instr.sureAddr,Sem.run_bind,Sem.run_pure,Result.andThen_ok,Nat.add_zero] at h1
  simp [List.mapM_cons,f2,g.at_ _ _ hl,ptr,asAddr_ptr,h1,ih]
 | @one t ty gg o tt A v B r vs hT hl hm _ ih =>
  have h1:=load_one (hT:=hT) (row_cell (j:=0) (hH _ hm) rfl)
  simp only [Instr.loadAt,Instr.sureAddr,Sem.run_bind,Sem.run_pure,Result.andThen_ok,Nat.add_zero] at h1
  simp [List.mapM_cons,f2,g.at_ _ _ hl,ptr,asAddr_ptr,h1,ih]
def tup:List Value→Value
 | [v]=>v
 | vs=>.tuple vs.toArray
theorem results_run {P:Program} {fr:Fr} {H:List Pc} {n:Nat} {fn:Func} {rs vs} (hr:fn.results=rs.toArray) (h:Res P fr H rs vs) {a:Act} {w:World} (g:Ag n fr a) (hH:Hol H w):(results fn a.tmps).run P w=.ok (tup vs) w:=by
 unfold results
 rw [hr]
 simp only [Sem.run_bind,Array.mapM_eq_mapM_toList]
 have:∀(f:ResultVar→Sem Value),(rs.mapM f).run P w=.ok vs w→((List.toArray <$> rs.mapM f:Sem (Array Value))).run P w=.ok vs.toArray w:=fun f hf=>by
  simp [hf]
 refine (congrArg (fun x=>Result.andThen x _) (this _ (res_run _ ?_ ?_ h g hH))).trans ?_
 ·intro t;rfl
 ·intro p t;rfl
 simp only [Result.andThen_ok,Sem.run_pure]
 congr 1
 match vs with
 | []=>rfl
 | [v]=>rfl
 | v::u::r=>simp [tup]
theorem fn_ret {P:Program} {fn:Func} {G D:List Nat} {w0:World} {n:Nat} {A M:List Pc} {σ:Type} {C:σ→Prop} {v:σ→Value} {N:σ→List Pc} {fr:Fr} {H:List Pc} {rs:List ResultVar} {vs:List Value} (s:σ) (hC:C s)
  (hr:fn.results=rs.toArray) (h:Res P fr H rs vs) (hv:tup vs=v s) (hN:HSub H (N s)) (hG:G=fp M) (hD:D=fp A):T ⟨P,G,D,w0,n,bodyPost P fn (FnPost P w0 A M C v N)⟩ fr H (.fin .ret):=.mk fun a w st g=>by
 subst hG hD
 refine ⟨g.df,_,results_run hr h g st.on,s,hC,by rw [hv],?_⟩
 have s2:=st.sub hN
 refine ⟨s2.on,s2.sep,s2.keep,fun p hp b hb=>?_⟩
 rcases s2.mine p hp b hb with h|h|⟨h1,h⟩
 ·exact .inr (.inl (mem_fp.1 h))
 ·exact .inl h
 ·exact .inr (.inr ⟨h1,mem_fp.1 h⟩)
instance:OneC Tryz.prog 3:=⟨⟨_,Tryz.underlying3,rfl⟩,by kernel_rfl⟩
instance:IntC Tryz.prog 3 .i64:=⟨Tryz.underlying3⟩
instance:ZC Tryz.prog 3 [.int .i64 0]:=⟨⟨.int .i64 0,by kernel_rfl,rfl⟩⟩
instance:ElT Tryz.prog 3 (.int .i64 0) 1 8:=⟨by kernel_rfl,rfl⟩
instance:IntC Tryz.prog 351 .u64:=⟨Tryz.underlying351⟩
instance:OneC Tryz.prog 4:=⟨⟨_,Tryz.underlying4,rfl⟩,by kernel_rfl⟩
instance:BoolC Tryz.prog 4:=⟨Tryz.underlying4⟩
instance:OneC Tryz.prog 9:=⟨⟨_,Tryz.underlying9,rfl⟩,by kernel_rfl⟩
instance:ZC Tryz.prog 9 [.string ⟨#[]⟩]:=⟨⟨.string ⟨#[]⟩,by kernel_rfl,rfl⟩⟩
instance:ElT Tryz.prog 9 (.string ⟨#[]⟩) 1 16:=⟨by kernel_rfl,rfl⟩
instance:AggC Tryz.prog 24 1:=⟨⟨_,Tryz.underlying24,rfl⟩,by kernel_rfl⟩
instance:FldC Tryz.prog 24 0 0 22 1:=⟨⟨_,_,Tryz.underlying24,rfl,rfl,rfl⟩,by kernel_rfl,by decide⟩
instance:AggC Tryz.prog 27 3:=⟨⟨_,Tryz.underlying27,rfl⟩,by kernel_rfl⟩
instance:FldC Tryz.prog 27 0 0 3 1:=⟨⟨_,_,Tryz.underlying27,rfl,rfl,rfl⟩,by kernel_rfl,by decide⟩
instance:FldC Tryz.prog 27 1 1 3 1:=⟨⟨_,_,Tryz.underlying27,rfl,rfl,rfl⟩,by kernel_rfl,by decide⟩
instance:FldC Tryz.prog 27 2 2 25 1:=⟨⟨_,_,Tryz.underlying27,rfl,rfl,rfl⟩,by kernel_rfl,by decide⟩
instance:AggC Tryz.prog 30 6:=⟨⟨_,Tryz.underlying30,rfl⟩,by kernel_rfl⟩
instance:FldC Tryz.prog 30 0 0 27 3:=⟨⟨_,_,Tryz.underlying30,rfl,rfl,rfl⟩,by kernel_rfl,by decide⟩
instance:FldC Tryz.prog 30 1 3 3 1:=⟨⟨_,_,Tryz.underlying30,rfl,rfl,rfl⟩,by kernel_rfl,by decide⟩
instance:FldC Tryz.prog 30 2 4 3 1:=⟨⟨_,_,Tryz.underlying30,rfl,rfl,rfl⟩,by kernel_rfl,by decide⟩
instance:FldC Tryz.prog 30 3 5 28 1:=⟨⟨_,_,Tryz.underlying30,rfl,rfl,rfl⟩,by kernel_rfl,by decide⟩
instance:AggC Tryz.prog 35 11:=⟨⟨_,Tryz.underlying35,rfl⟩,by kernel_rfl⟩
instance:FldC Tryz.prog 35 0 0 24 1:=⟨⟨_,_,Tryz.underlying35,rfl,rfl,rfl⟩,by kernel_rfl,by decide⟩
instance:FldC Tryz.prog 35 1 1 30 6:=⟨⟨_,_,Tryz.underlying35,rfl,rfl,rfl⟩,by kernel_rfl,by decide⟩
instance:FldC Tryz.prog 35 2 7 31 1:=⟨⟨_,_,Tryz.underlying35,rfl,rfl,rfl⟩,by kernel_rfl,by decide⟩
instance:FldC Tryz.prog 35 3 8 32 1:=⟨⟨_,_,Tryz.underlying35,rfl,rfl,rfl⟩,by kernel_rfl,by decide⟩
instance:FldC Tryz.prog 35 4 9 33 1:=⟨⟨_,_,Tryz.underlying35,rfl,rfl,rfl⟩,by kernel_rfl,by decide⟩
instance:FldC Tryz.prog 35 5 10 33 1:=⟨⟨_,_,Tryz.underlying35,rfl,rfl,rfl⟩,by kernel_rfl,by decide⟩
instance:AggC Tryz.prog 40 1:=⟨⟨_,Tryz.underlying40,rfl⟩,by kernel_rfl⟩
instance:FldC Tryz.prog 40 0 0 22 1:=⟨⟨_,_,Tryz.underlying40,rfl,rfl,rfl⟩,by kernel_rfl,by decide⟩
instance:ZC Tryz.prog 40 [.slice none 0 0]:=⟨⟨.agg #[.slice none 0 0],by kernel_rfl,rfl⟩⟩
instance:BldC Tryz.prog 40 [(0,1)] [.slice none 0 0]:=⟨fun parts=>by kernel_rfl⟩
instance:AggC Tryz.prog 41 3:=⟨⟨_,Tryz.underlying41,rfl⟩,by kernel_rfl⟩
instance:FldC Tryz.prog 41 0 0 3 1:=⟨⟨_,_,Tryz.underlying41,rfl,rfl,rfl⟩,by kernel_rfl,by decide⟩
instance:FldC Tryz.prog 41 1 1 3 1:=⟨⟨_,_,Tryz.underlying41,rfl,rfl,rfl⟩,by kernel_rfl,by decide⟩
instance:FldC Tryz.prog 41 2 2 25 1:=⟨⟨_,_,Tryz.underlying41,rfl,rfl,rfl⟩,by kernel_rfl,by decide⟩
instance:ZC Tryz.prog 41 [.int .i64 0,.int .i64 0,.slice none 0 0]:=⟨⟨.agg #[.int .i64 0,.int .i64 0,.slice none 0 0],by kernel_rfl,rfl⟩⟩
instance:BldC Tryz.prog 41 [(0,1),(1,1),(2,1)] [.int .i64 0,.int .i64 0,.slice none 0 0]:=⟨fun parts=>by kernel_rfl⟩
instance:AggC Tryz.prog 44 6:=⟨⟨_,Tryz.underlying44,rfl⟩,by kernel_rfl⟩
instance:FldC Tryz.prog 44 0 0 41 3:=⟨⟨_,_,Tryz.underlying44,rfl,rfl,rfl⟩,by kernel_rfl,by decide⟩
instance:FldC Tryz.prog 44 1 3 3 1:=⟨⟨_,_,Tryz.underlying44,rfl,rfl,rfl⟩,by kernel_rfl,by decide⟩
instance:FldC Tryz.prog 44 2 4 3 1:=⟨⟨_,_,Tryz.underlying44,rfl,rfl,rfl⟩,by kernel_rfl,by decide⟩
instance:FldC Tryz.prog 44 3 5 42 1:=⟨⟨_,_,Tryz.underlying44,rfl,rfl,rfl⟩,by kernel_rfl,by decide⟩
instance:ZC Tryz.prog 44 [.int .i64 0,.int .i64 0,.slice none 0 0,.int .i64 0,.int .i64 0,.slice none 0 0]:=⟨⟨.agg #[.int .i64 0,.int .i64 0,.slice none 0 0,.int .i64 0,.int .i64 0,.slice none 0 0],by kernel_rfl,rfl⟩⟩
instance:BldC Tryz.prog 44 [(0,3),(3,1),(4,1),(5,1)] [.int .i64 0,.int .i64 0,.slice none 0 0,.int .i64 0,.int .i64 0,.slice none 0 0]:=⟨fun parts=>by kernel_rfl⟩
instance:AggC Tryz.prog 49 11:=⟨⟨_,Tryz.underlying49,rfl⟩,by kernel_rfl⟩
instance:FldC Tryz.prog 49 0 0 40 1:=⟨⟨_,_,Tryz.underlying49,rfl,rfl,rfl⟩,by kernel_rfl,by decide⟩
instance:FldC Tryz.prog 49 1 1 44 6:=⟨⟨_,_,Tryz.underlying49,rfl,rfl,rfl⟩,by kernel_rfl,by decide⟩
instance:FldC Tryz.prog 49 2 7 45 1:=⟨⟨_,_,Tryz.underlying49,rfl,rfl,rfl⟩,by kernel_rfl,by decide⟩
instance:FldC Tryz.prog 49 3 8 46 1:=⟨⟨_,_,Tryz.underlying49,rfl,rfl,rfl⟩,by kernel_rfl,by decide⟩
instance:FldC Tryz.prog 49 4 9 47 1:=⟨⟨_,_,Tryz.underlying49,rfl,rfl,rfl⟩,by kernel_rfl,by decide⟩
instance:FldC Tryz.prog 49 5 10 47 1:=⟨⟨_,_,Tryz.underlying49,rfl,rfl,rfl⟩,by kernel_rfl,by decide⟩
instance:ZC Tryz.prog 49 [.slice none 0 0,.int .i64 0,.int .i64 0,.slice none 0 0,.int .i64 0,.int .i64 0,.slice none 0 0,.slice none 0 0,.slice none 0 0,.slice none 0 0,.slice none 0 0]:=⟨⟨.agg #[.slice none 0 0,.int .i64 0,.int .i64 0,.slice none 0 0,.int .i64 0,.int .i64 0,.slice none 0 0,.slice none 0 0,.slice none 0 0,.slice none 0 0,.slice none 0 0],by kernel_rfl,rfl⟩⟩
instance:BldC Tryz.prog 49 [(0,1),(1,6),(7,1),(8,1),(9,1),(10,1)] [.slice none 0 0,.int .i64 0,.int .i64 0,.slice none 0 0,.int .i64 0,.int .i64 0,.slice none 0 0,.slice none 0 0,.slice none 0 0,.slice none 0 0,.slice none 0 0]:=⟨fun parts=>by kernel_rfl⟩
instance:AggC Tryz.prog 53 3:=⟨⟨_,Tryz.underlying53,rfl⟩,by kernel_rfl⟩
instance:FldC Tryz.prog 53 0 0 3 1:=⟨⟨_,_,Tryz.underlying53,rfl,rfl,rfl⟩,by kernel_rfl,by decide⟩
instance:FldC Tryz.prog 53 1 1 3 1:=⟨⟨_,_,Tryz.underlying53,rfl,rfl,rfl⟩,by kernel_rfl,by decide⟩
instance:FldC Tryz.prog 53 2 2 9 1:=⟨⟨_,_,Tryz.underlying53,rfl,rfl,rfl⟩,by kernel_rfl,by decide⟩
instance:BldC Tryz.prog 53 [(0,1),(1,1),(2,1)] [.int .i64 0,.int .i64 0,.string ⟨#[]⟩]:=⟨fun parts=>by kernel_rfl⟩
instance:AggC Tryz.prog 112 2:=⟨⟨_,Tryz.underlying112,rfl⟩,by kernel_rfl⟩
instance:FldC Tryz.prog 112 0 0 3 1:=⟨⟨_,_,Tryz.underlying112,rfl,rfl,rfl⟩,by kernel_rfl,by decide⟩
instance:FldC Tryz.prog 112 1 1 110 1:=⟨⟨_,_,Tryz.underlying112,rfl,rfl,rfl⟩,by kernel_rfl,by decide⟩
instance:AggC Tryz.prog 116 2:=⟨⟨_,Tryz.underlying116,rfl⟩,by kernel_rfl⟩
instance:FldC Tryz.prog 116 0 0 3 1:=⟨⟨_,_,Tryz.underlying116,rfl,rfl,rfl⟩,by kernel_rfl,by decide⟩
instance:FldC Tryz.prog 116 1 1 114 1:=⟨⟨_,_,Tryz.underlying116,rfl,rfl,rfl⟩,by kernel_rfl,by decide⟩
instance:AggC Tryz.prog 119 5:=⟨⟨_,Tryz.underlying119,rfl⟩,by kernel_rfl⟩
instance:FldC Tryz.prog 119 0 0 4 1:=⟨⟨_,_,Tryz.underlying119,rfl,rfl,rfl⟩,by kernel_rfl,by decide⟩
instance:FldC Tryz.prog 119 1 1 3 1:=⟨⟨_,_,Tryz.underlying119,rfl,rfl,rfl⟩,by kernel_rfl,by decide⟩
instance:FldC Tryz.prog 119 2 2 116 2:=⟨⟨_,_,Tryz.underlying119,rfl,rfl,rfl⟩,by kernel_rfl,by decide⟩
instance:FldC Tryz.prog 119 3 4 117 1:=⟨⟨_,_,Tryz.underlying119,rfl,rfl,rfl⟩,by kernel_rfl,by decide⟩
instance:AggC Tryz.prog 127 5:=⟨⟨_,Tryz.underlying127,rfl⟩,by kernel_rfl⟩
instance:FldC Tryz.prog 127 0 0 3 1:=⟨⟨_,_,Tryz.underlying127,rfl,rfl,rfl⟩,by kernel_rfl,by decide⟩
instance:FldC Tryz.prog 127 1 1 3 1:=⟨⟨_,_,Tryz.underlying127,rfl,rfl,rfl⟩,by kernel_rfl,by decide⟩
instance:FldC Tryz.prog 127 2 2 3 1:=⟨⟨_,_,Tryz.underlying127,rfl,rfl,rfl⟩,by kernel_rfl,by decide⟩
instance:FldC Tryz.prog 127 3 3 3 1:=⟨⟨_,_,Tryz.underlying127,rfl,rfl,rfl⟩,by kernel_rfl,by decide⟩
instance:FldC Tryz.prog 127 4 4 9 1:=⟨⟨_,_,Tryz.underlying127,rfl,rfl,rfl⟩,by kernel_rfl,by decide⟩
instance:ZC Tryz.prog 127 [.int .i64 0,.int .i64 0,.int .i64 0,.int .i64 0,.string ⟨#[]⟩]:=⟨⟨.agg #[.int .i64 0,.int .i64 0,.int .i64 0,.int .i64 0,.string ⟨#[]⟩],by kernel_rfl,rfl⟩⟩
instance:ElT Tryz.prog 127 (.agg #[.int .i64 0,.int .i64 0,.int .i64 0,.int .i64 0,.string ⟨#[]⟩]) 5 48:=⟨by kernel_rfl,rfl⟩
instance:BldC Tryz.prog 127 [(0,1),(1,1),(2,1),(3,1),(4,1)] [.int .i64 0,.int .i64 0,.int .i64 0,.int .i64 0,.string ⟨#[]⟩]:=⟨fun parts=>by kernel_rfl⟩
instance:AggC Tryz.prog 142 2:=⟨⟨_,Tryz.underlying142,rfl⟩,by kernel_rfl⟩
instance:FldC Tryz.prog 142 0 0 3 1:=⟨⟨_,_,Tryz.underlying142,rfl,rfl,rfl⟩,by kernel_rfl,by decide⟩
instance:FldC Tryz.prog 142 1 1 140 1:=⟨⟨_,_,Tryz.underlying142,rfl,rfl,rfl⟩,by kernel_rfl,by decide⟩
instance:ZC Tryz.prog 142 [.int .i64 0,.slice none 0 0]:=⟨⟨.agg #[.int .i64 0,.slice none 0 0],by kernel_rfl,rfl⟩⟩
instance:ElT Tryz.prog 142 (.agg #[.int .i64 0,.slice none 0 0]) 2 32:=⟨by kernel_rfl,rfl⟩
instance:BldC Tryz.prog 142 [(0,1),(1,1)] [.int .i64 0,.slice none 0 0]:=⟨fun parts=>by kernel_rfl⟩
instance:AggC Tryz.prog 146 2:=⟨⟨_,Tryz.underlying146,rfl⟩,by kernel_rfl⟩
instance:FldC Tryz.prog 146 0 0 3 1:=⟨⟨_,_,Tryz.underlying146,rfl,rfl,rfl⟩,by kernel_rfl,by decide⟩
instance:FldC Tryz.prog 146 1 1 144 1:=⟨⟨_,_,Tryz.underlying146,rfl,rfl,rfl⟩,by kernel_rfl,by decide⟩
instance:ZC Tryz.prog 146 [.int .i64 0,.slice none 0 0]:=⟨⟨.agg #[.int .i64 0,.slice none 0 0],by kernel_rfl,rfl⟩⟩
instance:BldC Tryz.prog 146 [(0,1),(1,1)] [.int .i64 0,.slice none 0 0]:=⟨fun parts=>by kernel_rfl⟩
instance:AggC Tryz.prog 149 5:=⟨⟨_,Tryz.underlying149,rfl⟩,by kernel_rfl⟩
instance:FldC Tryz.prog 149 0 0 4 1:=⟨⟨_,_,Tryz.underlying149,rfl,rfl,rfl⟩,by kernel_rfl,by decide⟩
instance:FldC Tryz.prog 149 1 1 3 1:=⟨⟨_,_,Tryz.underlying149,rfl,rfl,rfl⟩,by kernel_rfl,by decide⟩
instance:FldC Tryz.prog 149 2 2 146 2:=⟨⟨_,_,Tryz.underlying149,rfl,rfl,rfl⟩,by kernel_rfl,by decide⟩
instance:FldC Tryz.prog 149 3 4 147 1:=⟨⟨_,_,Tryz.underlying149,rfl,rfl,rfl⟩,by kernel_rfl,by decide⟩
instance:ZC Tryz.prog 149 [.bool false,.int .i64 0,.int .i64 0,.slice none 0 0,.slice none 0 0]:=⟨⟨.agg #[.bool false,.int .i64 0,.int .i64 0,.slice none 0 0,.slice none 0 0],by kernel_rfl,rfl⟩⟩
instance:ElT Tryz.prog 149 (.agg #[.bool false,.int .i64 0,.int .i64 0,.slice none 0 0,.slice none 0 0]) 5 72:=⟨by kernel_rfl,rfl⟩
instance:BldC Tryz.prog 149 [(0,1),(1,1),(2,2),(4,1)] [.bool false,.int .i64 0,.int .i64 0,.slice none 0 0,.slice none 0 0]:=⟨fun parts=>by kernel_rfl⟩
instance:AggC Tryz.prog 191 5:=⟨⟨_,Tryz.underlying191,rfl⟩,by kernel_rfl⟩
instance:AggC Tryz.prog 194 2:=⟨⟨_,Tryz.underlying194,rfl⟩,by kernel_rfl⟩
instance:FldC Tryz.prog 194 0 0 3 1:=⟨⟨_,_,Tryz.underlying194,rfl,rfl,rfl⟩,by kernel_rfl,by decide⟩
instance:FldC Tryz.prog 194 1 1 3 1:=⟨⟨_,_,Tryz.underlying194,rfl,rfl,rfl⟩,by kernel_rfl,by decide⟩
instance:ZC Tryz.prog 194 [.int .i64 0,.int .i64 0]:=⟨⟨.agg #[.int .i64 0,.int .i64 0],by kernel_rfl,rfl⟩⟩
instance:ElT Tryz.prog 194 (.agg #[.int .i64 0,.int .i64 0]) 2 16:=⟨by kernel_rfl,rfl⟩
instance:BldC Tryz.prog 194 [(0,1),(1,1)] [.int .i64 0,.int .i64 0]:=⟨fun parts=>by kernel_rfl⟩
instance:AggC Tryz.prog 217 2:=⟨⟨_,Tryz.underlying217,rfl⟩,by kernel_rfl⟩
instance:AggC Tryz.prog 231 3:=⟨⟨_,Tryz.underlying231,rfl⟩,by kernel_rfl⟩
instance:FldC Tryz.prog 231 0 0 3 1:=⟨⟨_,_,Tryz.underlying231,rfl,rfl,rfl⟩,by kernel_rfl,by decide⟩
instance:FldC Tryz.prog 231 1 1 22 1:=⟨⟨_,_,Tryz.underlying231,rfl,rfl,rfl⟩,by kernel_rfl,by decide⟩
instance:FldC Tryz.prog 231 2 2 3 1:=⟨⟨_,_,Tryz.underlying231,rfl,rfl,rfl⟩,by kernel_rfl,by decide⟩
instance:ZC Tryz.prog 231 [.int .i64 0,.slice none 0 0,.int .i64 0]:=⟨⟨.agg #[.int .i64 0,.slice none 0 0,.int .i64 0],by kernel_rfl,rfl⟩⟩
instance:ElT Tryz.prog 231 (.agg #[.int .i64 0,.slice none 0 0,.int .i64 0]) 3 40:=⟨by kernel_rfl,rfl⟩
instance:BldC Tryz.prog 231 [(0,1),(1,1),(2,1)] [.int .i64 0,.slice none 0 0,.int .i64 0]:=⟨fun parts=>by kernel_rfl⟩
instance:AggC Tryz.prog 235 4:=⟨⟨_,Tryz.underlying235,rfl⟩,by kernel_rfl⟩
instance:FldC Tryz.prog 235 0 0 3 1:=⟨⟨_,_,Tryz.underlying235,rfl,rfl,rfl⟩,by kernel_rfl,by decide⟩
instance:FldC Tryz.prog 235 1 1 3 1:=⟨⟨_,_,Tryz.underlying235,rfl,rfl,rfl⟩,by kernel_rfl,by decide⟩
instance:FldC Tryz.prog 235 2 2 3 1:=⟨⟨_,_,Tryz.underlying235,rfl,rfl,rfl⟩,by kernel_rfl,by decide⟩
instance:FldC Tryz.prog 235 3 3 3 1:=⟨⟨_,_,Tryz.underlying235,rfl,rfl,rfl⟩,by kernel_rfl,by decide⟩
instance:ZC Tryz.prog 235 [.int .i64 0,.int .i64 0,.int .i64 0,.int .i64 0]:=⟨⟨.agg #[.int .i64 0,.int .i64 0,.int .i64 0,.int .i64 0],by kernel_rfl,rfl⟩⟩
instance:ElT Tryz.prog 235 (.agg #[.int .i64 0,.int .i64 0,.int .i64 0,.int .i64 0]) 4 32:=⟨by kernel_rfl,rfl⟩
instance:BldC Tryz.prog 235 [(0,1),(1,1),(2,1),(3,1)] [.int .i64 0,.int .i64 0,.int .i64 0,.int .i64 0]:=⟨fun parts=>by kernel_rfl⟩
instance:AggC Tryz.prog 247 2:=⟨⟨_,Tryz.underlying247,rfl⟩,by kernel_rfl⟩
instance:FldC Tryz.prog 247 0 0 4 1:=⟨⟨_,_,Tryz.underlying247,rfl,rfl,rfl⟩,by kernel_rfl,by decide⟩
instance:FldC Tryz.prog 247 1 1 9 1:=⟨⟨_,_,Tryz.underlying247,rfl,rfl,rfl⟩,by kernel_rfl,by decide⟩
instance:ZC Tryz.prog 247 [.bool false,.string ⟨#[]⟩]:=⟨⟨.agg #[.bool false,.string ⟨#[]⟩],by kernel_rfl,rfl⟩⟩
instance:ElT Tryz.prog 247 (.agg #[.bool false,.string ⟨#[]⟩]) 2 24:=⟨by kernel_rfl,rfl⟩
instance:BldC Tryz.prog 247 [(0,1),(1,1)] [.bool false,.string ⟨#[]⟩]:=⟨fun parts=>by kernel_rfl⟩
instance:AggC Tryz.prog 263 3:=⟨⟨_,Tryz.underlying263,rfl⟩,by kernel_rfl⟩
instance:FldC Tryz.prog 263 0 0 3 1:=⟨⟨_,_,Tryz.underlying263,rfl,rfl,rfl⟩,by kernel_rfl,by decide⟩
instance:FldC Tryz.prog 263 1 1 22 1:=⟨⟨_,_,Tryz.underlying263,rfl,rfl,rfl⟩,by kernel_rfl,by decide⟩
instance:FldC Tryz.prog 263 2 2 3 1:=⟨⟨_,_,Tryz.underlying263,rfl,rfl,rfl⟩,by kernel_rfl,by decide⟩
instance:AggC Tryz.prog 283 4:=⟨⟨_,Tryz.underlying283,rfl⟩,by kernel_rfl⟩
instance:AggC Tryz.prog 314 2:=⟨⟨_,Tryz.underlying314,rfl⟩,by kernel_rfl⟩
instance:OneC Tryz.prog 22:=⟨⟨_,Tryz.underlying22,rfl⟩,by kernel_rfl⟩
instance:SlC Tryz.prog 22 3 1:=⟨Tryz.underlying22,by kernel_rfl⟩
instance:OneC Tryz.prog 25:=⟨⟨_,Tryz.underlying25,rfl⟩,by kernel_rfl⟩
instance:SlC Tryz.prog 25 9 1:=⟨Tryz.underlying25,by kernel_rfl⟩
instance:OneC Tryz.prog 28:=⟨⟨_,Tryz.underlying28,rfl⟩,by kernel_rfl⟩
instance:SlC Tryz.prog 28 217 2:=⟨Tryz.underlying28,by kernel_rfl⟩
instance:OneC Tryz.prog 31:=⟨⟨_,Tryz.underlying31,rfl⟩,by kernel_rfl⟩
instance:SlC Tryz.prog 31 112 2:=⟨Tryz.underlying31,by kernel_rfl⟩
instance:OneC Tryz.prog 32:=⟨⟨_,Tryz.underlying32,rfl⟩,by kernel_rfl⟩
instance:SlC Tryz.prog 32 119 5:=⟨Tryz.underlying32,by kernel_rfl⟩
instance:OneC Tryz.prog 33:=⟨⟨_,Tryz.underlying33,rfl⟩,by kernel_rfl⟩
instance:SlC Tryz.prog 33 121 1:=⟨Tryz.underlying33,by kernel_rfl⟩
instance:OneC Tryz.prog 42:=⟨⟨_,Tryz.underlying42,rfl⟩,by kernel_rfl⟩
instance:SlC Tryz.prog 42 194 2:=⟨Tryz.underlying42,by kernel_rfl⟩
instance:OneC Tryz.prog 45:=⟨⟨_,Tryz.underlying45,rfl⟩,by kernel_rfl⟩
instance:SlC Tryz.prog 45 142 2:=⟨Tryz.underlying45,by kernel_rfl⟩
instance:OneC Tryz.prog 46:=⟨⟨_,Tryz.underlying46,rfl⟩,by kernel_rfl⟩
instance:SlC Tryz.prog 46 149 5:=⟨Tryz.underlying46,by kernel_rfl⟩
instance:OneC Tryz.prog 47:=⟨⟨_,Tryz.underlying47,rfl⟩,by kernel_rfl⟩
instance:SlC Tryz.prog 47 132 1:=⟨Tryz.underlying47,by kernel_rfl⟩
instance:OneC Tryz.prog 110:=⟨⟨_,Tryz.underlying110,rfl⟩,by kernel_rfl⟩
instance:SlC Tryz.prog 110 263 3:=⟨Tryz.underlying110,by kernel_rfl⟩
instance:OneC Tryz.prog 114:=⟨⟨_,Tryz.underlying114,rfl⟩,by kernel_rfl⟩
instance:SlC Tryz.prog 114 314 2:=⟨Tryz.underlying114,by kernel_rfl⟩
instance:OneC Tryz.prog 117:=⟨⟨_,Tryz.underlying117,rfl⟩,by kernel_rfl⟩
instance:SlC Tryz.prog 117 283 4:=⟨Tryz.underlying117,by kernel_rfl⟩
instance:OneC Tryz.prog 121:=⟨⟨_,Tryz.underlying121,rfl⟩,by kernel_rfl⟩
instance:SlC Tryz.prog 121 191 5:=⟨Tryz.underlying121,by kernel_rfl⟩
instance:OneC Tryz.prog 132:=⟨⟨_,Tryz.underlying132,rfl⟩,by kernel_rfl⟩
instance:SlC Tryz.prog 132 127 5:=⟨Tryz.underlying132,by kernel_rfl⟩
instance:ZC Tryz.prog 132 [.slice none 0 0]:=⟨⟨.slice none 0 0,by kernel_rfl,rfl⟩⟩
instance:ElT Tryz.prog 132 (.slice none 0 0) 1 24:=⟨by kernel_rfl,rfl⟩
instance:OneC Tryz.prog 140:=⟨⟨_,Tryz.underlying140,rfl⟩,by kernel_rfl⟩
instance:SlC Tryz.prog 140 231 3:=⟨Tryz.underlying140,by kernel_rfl⟩
instance:OneC Tryz.prog 144:=⟨⟨_,Tryz.underlying144,rfl⟩,by kernel_rfl⟩
instance:SlC Tryz.prog 144 247 2:=⟨Tryz.underlying144,by kernel_rfl⟩
instance:OneC Tryz.prog 147:=⟨⟨_,Tryz.underlying147,rfl⟩,by kernel_rfl⟩
instance:SlC Tryz.prog 147 235 4:=⟨Tryz.underlying147,by kernel_rfl⟩
instance:OneC Tryz.prog 236:=⟨⟨_,Tryz.underlying236,rfl⟩,by kernel_rfl⟩
instance:OneC Tryz.prog 252:=⟨⟨_,Tryz.underlying252,rfl⟩,by kernel_rfl⟩
instance:OneC Tryz.prog 255:=⟨⟨_,Tryz.underlying255,rfl⟩,by kernel_rfl⟩
theorem Sl.dropS {P:Program} {α:Type} {E:Elem α} {w:World} {a:Option Addr} {n cap:Nat} {xs:List α} {F} (h:Sl E w (.slice a n cap) xs F) (t:TypeId) (ht:P.underlying t=some (.slice (P.elem t))) (k:Nat) (hk:k≤xs.length)
  (hs:∀W,(sizeOf (P.elem t)).run P W=.ok E.sz W):∃a2 c2 F',(∀W,(Instr.sliceAt t (.slice a n cap) (some (.int .i64 (k:Int))) none none).run P W=.ok (.slice a2 (xs.length - k) c2) W)∧(∀b∈F',b∈F)∧Sl E w (.slice a2 (xs.length - k) c2) (xs.drop k) F':=by
 obtain ⟨a',cap',hv,hl,h⟩:=h
 cases hv
 have hrun:∀W,(Instr.sliceAt t (.slice a xs.length cap) (some (.int .i64 (k:Int))) none none).run P W=.ok (.slice (if cap=k then a else a.map (·.add (k * E.sz))) (xs.length - k) (cap - k)) W:=fun W=>by
  rw [run_sliceAt_slice (h:=ht),run_slice_l (ht:=ht) (h0:=by omega) (h1:=by omega),hs];simp [Result.andThen,sliced]
 refine ⟨if cap=k then a else a.map (·.add (k * E.sz)),cap - k,?_⟩
 rcases h with ⟨rfl,rfl,h0⟩|⟨b,off,F',rfl,hne,rfl,hc⟩
 ·refine ⟨[],hrun,by simp,if cap=k then a else a.map (·.add (k * E.sz)),cap - k,by simp,⟨by simp,by omega⟩,.inl ⟨by simp,rfl,fun e=>?_⟩⟩
  cases a with
  | none=>rw [h0 rfl];simp
  | some ad=>split at e <;> simp at e
 ·by_cases hkn:k=xs.length
  ·subst hkn
   refine ⟨[],hrun,by simp,if cap=xs.length then some ⟨b,off,none⟩ else (some (⟨b,off,none⟩:Addr)).map (·.add (xs.length * E.sz)),cap - xs.length,by simp,⟨by simp,by omega⟩,.inl ⟨by simp,rfl,fun e=>?_⟩⟩
   split at e <;> simp at e
  ·obtain ⟨cs,hf,hcs⟩:=hc.flat
   have e:xs=xs.take k++xs.drop k:=by simp
   rw [e] at hf
   obtain ⟨c1,c2,G1,G2,rfl,rfl,h1,h2⟩:=hf.split
   have hl1:=h1.len
   have hck:¬cap=k:=by omega
   rw [List.length_take,Nat.min_eq_left (by omega)] at hl1
   refine ⟨b::G2,hrun,by intro x hx;simp at hx ⊢;rcases hx with hx|hx <;> simp [hx],some ⟨b,off+k * E.sz,none⟩,cap - k,?_,⟨by simp;omega,by omega⟩,.inr ⟨b,off+k * E.sz,G2,rfl,fun e=>?_,rfl,h2.cells fun j u hu=>?_⟩⟩
   ·rw [if_neg hck];simp only [Option.map_some,Addr.add,List.length_drop,Value.slice.injEq,Option.some.injEq,and_true,true_and]
    by_cases h0:k * E.sz=0 <;> simp [h0]
   ·have:=congrArg List.length e;simp at this;omega
   ·have:=hcs (c1.length+j) u (by rw [List.getElem?_append_right (by omega),show c1.length+j - c1.length=j by omega];exact hu)
    rw [←this,hl1];congr 2;omega
theorem memE {p:Pc} {H:List Pc} (h:p∈H:=by (repeat (first|exact .head _|apply List.Mem.tail));first|done|fail):p∈H:=h
theorem cutE {l:List Value} {j m:Nat} {r:List Value} (h:Cut l j m r:=by repeat constructor):Cut l j m r:=h
theorem putE {l r s:List Value} {j:Nat} (h:Put l j r s:=by first|exact .one .zero|repeat constructor):Put l j r s:=h
theorem evsE {fr:Fr} {aS:List Operand} {vs:List Value} (h:Evs fr aS vs:=by repeat (first|exact Evs.nil|apply Evs.cons (by rfl))):Evs fr aS vs:=h
theorem rplE {H S:List Pc} {p q:Pc} (h:Rpl H p q S:=by (repeat (first|exact .here|apply Rpl.there));first|done|fail):Rpl H p q S:=h
theorem picksE {H M R:List Pc} (h:Picks H M R:=by repeat (first|exact Picks.nil|apply Picks.cons (by (repeat (first|exact .here|apply Pick.there));first|done|fail))):Picks H M R:=h
theorem hsE {A H:List Pc} (h:HSub A H:=by repeat (first|exact HSub.nil|refine HSub.cons (by (repeat (first|exact .here|apply Pick.there));first|done|fail) ?_)):HSub A H:=h
theorem frE {a b:Fr} (h:FrSub a b:=by repeat (first|exact FrSub.nil|refine FrSub.cons (by rfl) ?_)):FrSub a b:=h
theorem foldl_put (l:List Value):∀(k off:Nat) (A o B:List Value),A.length=off+k→o.length=l.length→(l.zipIdx k).foldl (fun (cs:Array Value) (x:Value × Nat)=>cs.setIfInBounds (off+x.2) x.1) (A++o++B).toArray=(A++l++B).toArray:=by
 induction l with
 | nil=>intro k off A o B _ ho;simp at ho;subst ho;simp
 | cons u r ih =>
  intro k off A o B hA ho
  cases o with
  | nil=>simp at ho
  | cons z o =>
   rw [List.zipIdx_cons,List.foldl_cons]
   have h4:(A++(z::o)++B).toArray.setIfInBounds (off+k) u=((A++[u])++o++B).toArray:=by
    rw [←hA];simp [List.set_append]
   show List.foldl _ ((A++(z::o)++B).toArray.setIfInBounds (off+k) u) _=_
   rw [h4,ih (k+1) off (A++[u]) o B (by simp;omega) (by simpa using ho)];simp
inductive Fil (pl:Nat→Option (Nat × Nat)) (fr:Fr):List Value→List (Nat × Operand)→List Value→Prop
 | nil {cs}:Fil pl fr cs [] cs
 | cons {cs i x ps v l off r q}:ev fr x=some v→v.cells=l.toArray→pl i=some (off,l.length)→Put cs off l r→Fil pl fr r ps q→Fil pl fr cs ((i,x)::ps) q
theorem Fil.run {pl:Nat→Option (Nat × Nat)} {fr:Fr} {n:Nat} {cs q:List Value} {ps:List (Nat × Operand)} (h:Fil pl fr cs ps q) {a:Act} (g:Ag n fr a):Instr.fill pl cs.toArray (ps.map fun (i,x)=>(i,a.eval x))=some q.toArray:=by
 induction h with
 | nil=>rfl
 | @cons cs i x ps v l off r q hx hv hp hput _ ih =>
  obtain ⟨A,o,B,rfl,rfl,rfl,ho⟩:=hput.parts
  rw [List.map_cons]
  unfold Instr.fill
  simp only [hp,g.ev hx,hv]
  have h1:¬((l.toArray.size≠l.length)∨(A.length+l.toArray.size > (A++o++B).toArray.size)):=by simp;omega
  rw [if_neg (by simpa using h1)]
  have h2:l.toArray.zipIdx.foldl (fun (cs:Array Value) (x:Value × Nat)=>cs.setIfInBounds (A.length+x.2) x.1) (A++o++B).toArray=(A++l++B).toArray:=by
   rw [←Array.foldl_toList]
   have:=foldl_put l 0 A.length A o B rfl ho
   simpa using this
  rw [h2];exact ih
theorem filE {pl:Nat→Option (Nat × Nat)} {fr:Fr} {cs q:List Value} {ps:List (Nat × Operand)} (h:Fil pl fr cs ps q:=by repeat (first|exact Fil.nil|apply Fil.cons (by rfl) (by rfl) (by rfl) (by repeat constructor))):Fil pl fr cs ps q:=h
theorem yd_bd {P:Program} {n:Nat} {fr:Fr} {H:List Pc} {ty:TypeId} {t:Nat} {pl:List (Nat × Nat)} {zs q:List Value} {ps:List (Nat × Operand)} [hB:BldC P t pl zs] (hf:Fil (pl.toArray[·]?) fr zs ps q):Yd P n fr H (.build t ps.toArray) ty (.agg q.toArray):=.mk fun a w d pos aft gd g _=>by
 have h3:=hf.run g
 have h4:=run_build (P:=P) w t (ps.map fun (i,x)=>(i,a.eval x)).toArray q.toArray (by rw [hB.b];exact h3)
 simp only [List.map_toArray] at h4
 simp [execOp,h4]
theorem ydE {P:Program} {n:Nat} {fr:Fr} {H:List Pc} {o:Op} {ty:TypeId} {v:Value} (h:Yd P n fr H o ty v:=by first|(apply yd_move;rfl)|(apply yd_assign;rfl)|(apply yd_nil;rfl)|(apply yd_fa;rfl)|(apply yd_ld;rfl;exact memE;rfl)|(apply yd_ldc;rfl;exact memE;rfl)|(apply yd_lda;rfl;exact memE;exact cutE)|(apply yd_ldac;rfl;exact memE;exact cutE)|(apply yd_pick_t;rfl;rfl)|(apply yd_pick_f;rfl;rfl)|(apply yd_len;rfl)|(apply yd_lens;rfl)|(apply yd_ex;rfl;rfl)|(apply yd_fld;rfl;rfl)|(apply yd_flda;rfl;exact cutE)|(apply yd_lt;rfl;rfl)|(apply yd_le;rfl;rfl)|(apply yd_gt;rfl;rfl)|(apply yd_ge;rfl;rfl)|(apply yd_eq;rfl;rfl)|(apply yd_ne;rfl;rfl)|(apply yd_add;rfl;rfl;omega;omega)|(apply yd_sub;rfl;rfl;omega;omega)|(apply yd_eqs;rfl;rfl)|(apply yd_nes;rfl;rfl)|(apply yd_cat;rfl;rfl;omega)|(apply yd_notd;rfl)|(apply yd_not;rfl)|(apply yd_neg;rfl;omega;omega)|(apply yd_ix;rfl;rfl;omega;omega)|(apply yd_ixs;rfl;rfl;omega;omega)|(apply yd_quo;rfl;rfl;omega;omega;omega)|(apply yd_rem;rfl;rfl;omega;omega)|(apply yd_mul;rfl;rfl;omega;omega)|(apply yd_cv;rfl;omega;omega)|(apply yd_eqb;rfl;rfl)|(apply yd_neb;rfl;rfl)|(apply yd_fn;exact evsE)|(apply yd_nilf;rfl)|(apply yd_min;rfl;rfl)|(apply yd_max;rfl;rfl)|(apply yd_bd;exact filE)):Yd P n fr H o ty v:=h
section
variable {c:Cx} {fr:Fr} {H:List Pc} {k:List It} {Φ:Gl} {ops:Array Oper} {rest:List Oper} {d:Nat} {o:Op} {ty:TypeId} {pos:String} {aft:Array Edge} {v u:Value} {x y:Operand}
theorem st {t g tt o' j m:Nat} {A cs B l r:List Value} {S:List Pc} {gd:Option (Nat × Bool)} (h:T c fr S Φ) (hx:ev fr x=some (ptr g o' j):=by rfl) (hy:ev fr y=some v:=by rfl) (hv:v.cells=l.toArray:=by rfl) (hs:(c.P.info? t).map (·.size)=some m:=by first|exact AggC.s|exact OneC.s) (hl:l.length=m:=by rfl)
  (hr:Rpl H (.row g tt o' A cs B) (.row g tt o' A r B) S:=by (repeat (first|exact .here|apply Rpl.there));first|done|fail) (hp:Put cs j l r:=by first|exact .one .zero|repeat constructor) (h1:l.all (·.oneCell')=true:=by rfl):Ef c fr H ⟨none,.store t x y,ty,pos,aft,gd⟩ Φ:=ef_store hs hx hy hv hl h1 hp hr h
theorem ca {f:Nat} {aS:List Operand} {ts:Array TypeId} {vs:List Value} {gd:Option (Nat × Bool)} (h:Cl c fr H d f vs Φ) (ha:Evs fr aS vs:=by repeat (first|exact Evs.nil|apply Evs.cons (by rfl))) (hb:bodyB c.P f=true:=by kernel_rfl) (hd:Nat.blt d c.n=true:=by rfl):Ef c fr H ⟨some d,.call { callee:=.value (.func f),args:=aS.toArray,argTypes:=ts },ty,pos,aft,gd⟩ Φ:=cl_ef h ha hb hd
theorem cf {f:Nat} {vs:List Value} {A M R:List Pc} {σ:Type} {C:σ→Prop} {vv:σ→Value} {N:σ→List Pc} (hf:Fn c.P f vs A M C vv N) (h:∀s,C s→T c ((d,vv s)::fr) (N s++R) Φ)
  (hM:Picks H M R:=by repeat (first|exact Picks.nil|apply Picks.cons (by (repeat (first|exact .here|apply Pick.there));first|done|fail))) (hA:Mems A R:=by repeat (first|exact Mems.nil|refine Mems.cons (by (repeat (first|exact .head _|apply List.Mem.tail));first|done|fail) ?_)) (hmM:M.all (·.mu)=true:=by rfl) (hmA:A.all (fun p=>!p.mu)=true:=by rfl):Cl c fr H d f vs Φ:=cf_ hf h hM hA hmM hmA
inductive AppL:List Pc→List Pc→List Pc→Prop
 | nil {R}:AppL [] R R
 | cons {p N R X}:AppL N R X→AppL (p::N) R (p::X)
theorem AppL.eq {N R X} (h:AppL N R X):N++R=X:=by
 induction h with
 | nil=>rfl
 | cons _ ih=>simp [ih]
theorem t_app {N R X:List Pc} (h:T c fr X Φ) (hX:AppL N R X:=by repeat constructor):T c fr (N++R) Φ:=by rw [hX.eq];exact h
theorem St.ro {G D w0 w} {p q:Pc} (s:St G D w0 H w) (hq:q∈H) (hm:q.mu=false) (hpm:p.mu=false) (hp:p.P w) (hF:∀b∈p.F,b∈q.F):St G D w0 (p::H) w :=
 s.add (N:=[p]) (Below.refl _ _) (by intro x hx;simp at hx;subst hx;exact hp) ⟨by simp,trivial⟩ (by intro x hx b hb;simp at hx;subst hx;exact .inr ⟨hpm,q,hq,hm,hF b hb⟩)
theorem St.conv {G D w0 w} {p q:Pc} {S:List Pc} (s:St G D w0 (p::S) w) (hm:p.mu=true) (hq:q.P w) (hF:∀b∈q.F,b∈p.F):St G D w0 (q::S) w :=
 St.turn (M:=[p]) (N:=[q]) s (Keep.refl _ w) (by intro x hx;simp at hx;subst hx;exact hq) ⟨by simp,trivial⟩ (by intro x hx b hb;simp at hx;subst hx;exact .inr (.inl ⟨p,by simp,hm,hF b hb⟩))
/-! elements, parts of slices that read -/
theorem sl_at {α:Type} {E:Elem α} {w:World} {a:Option Addr} {n cp:Nat} {xs:List α} {F:List Nat} (h:(Pc.sl E (.slice a n cp) xs F).P w) (i:Nat) (hi:i < xs.length) :
  ∃b o cs G,a=some ⟨b,o,none⟩∧E.rep w cs xs[i] G∧(∀x∈G,x∈F)∧b∈F∧cs≠[]∧w.rangeAt b (o+i * E.sz) cs:=by
 obtain ⟨hz,a',cap,hv,hl,h|⟨b,o,F',rfl,hne,rfl,hc⟩⟩:=h
 ·rw [h.1] at hi;simp at hi
 ·simp only [Value.slice.injEq] at hv
  obtain ⟨rfl, -, -⟩:=hv
  obtain ⟨cs,F1,h1,h2,h3⟩:=hc.get i hi
  have hl:=E.len h1
  refine ⟨b,o,cs,F1,rfl,h1,fun x hx=>by simp [h3 x hx],by simp,fun e=>by subst e;simp at hl;omega,fun j u hu=>?_⟩
  have hj:j < E.sz:=by have:=(List.getElem?_eq_some_iff.1 hu).1;omega
  rw [h2 j hj];exact hu
theorem at_int {a:Option Addr} {n cp:Nat} {xs:List Int} {F:List Nat} (i:Nat) (h:∀(hi:i < xs.length) b o,a=some ⟨b,o,none⟩→T c fr (.cel b (o+i * 1) [.int .i64 xs[i]]::H) Φ) (hm:.sl EInt (.slice a n cp) xs F∈H:=by (repeat (first|exact .head _|apply List.Mem.tail));first|done|fail) (hi:i < xs.length:=by omega):T c fr H Φ:=.mk fun ac w s g=>by
 obtain ⟨b,o,cs,G,ha,⟨rfl,rfl⟩, -,hb,hne,hr⟩:=sl_at (s.get hm) i hi
 exact (h hi b o ha).h ac w (s.ro hm rfl rfl ⟨hne,hr⟩ (by intro x hx;simp [Pc.F] at hx;subst hx;exact hb)) g
theorem at_str {a:Option Addr} {n cp:Nat} {xs:List ByteArray} {F:List Nat} (i:Nat) (h:∀(hi:i < xs.length) b o,a=some ⟨b,o,none⟩→xs[i].size≤maxLen→T c fr (.cel b (o+i * 1) [.string xs[i]]::H) Φ) (hm:.sl EStr (.slice a n cp) xs F∈H:=by (repeat (first|exact .head _|apply List.Mem.tail));first|done|fail) (hi:i < xs.length:=by omega):T c fr H Φ:=.mk fun ac w s g=>by
 obtain ⟨b,o,cs,G,ha,⟨rfl,hs,rfl⟩, -,hb,hne,hr⟩:=sl_at (s.get hm) i hi
 exact (h hi b o ha hs).h ac w (s.ro hm rfl rfl ⟨hne,hr⟩ (by intro x hx;simp [Pc.F] at hx;subst hx;exact hb)) g
theorem t_read {α:Type} {E:Elem α} {t:TypeId} {v:Value} {xs:List α} {F:List Nat} {S:List Pc} (h:∀F',T c fr (.sl E v xs F'::S) Φ) (hp:Pick H (.ow E t v xs F) S:=by (repeat (first|exact .here|apply Pick.there));first|done|fail) (hz:0 < E.sz:=by decide):T c fr H Φ:=.mk fun a w s g=>by
 have s1:=s.pick hp
 obtain ⟨-,ho⟩:=s1.on (.ow E t v xs F) (by simp)
 obtain ⟨F',hF,hs⟩:=ho.read
 exact (h F').h a w (s1.conv rfl ⟨hz,hs⟩ hF) g
theorem Ow.takeO {α:Type} {E:Elem α} {t:TypeId} {w:World} {a:Option Addr} {n cp:Nat} {xs:List α} {F:List Nat} (h:Ow E t w (.slice a n cp) xs F) (k:Nat) (hk:k≤xs.length):∃F',F'.Sublist F∧Ow E t w (.slice a k cp) (xs.take k) F':=by
 rcases h with ⟨h1,rfl,rfl⟩|⟨g,cap,cs,rest,G,h1,h2,h3,h4,h5,h6,rfl⟩
 ·cases h1
  have:k=0:=by simpa using hk
  subst this
  exact ⟨[],.slnil,.inl ⟨rfl,rfl,rfl⟩⟩
 ·cases h1
  rw [←List.take_append_drop k xs] at h6
  obtain ⟨c1,c2,G1,G2,rfl,rfl,f1,f2⟩:=h6.split
  have hl:(xs.take k).length=k:=by simp [Nat.min_eq_left hk]
  refine ⟨g::G1,(List.sublist_append_left G1 G2).cons_cons g,.inr ⟨g,cp,c1,c2++rest,G1,by rw [hl],by rw [←List.append_assoc];exact h2,by omega,h4,by simp only [List.length_append] at h5 ⊢;omega,f1,rfl⟩⟩
theorem t_take {α:Type} {E:Elem α} {t:TypeId} {a:Option Addr} {n cp:Nat} {xs:List α} {F:List Nat} {S:List Pc} (k:Nat) (h:∀F',T c fr (.ow E t (.slice a k cp) (xs.take k) F'::S) Φ) (hk:k≤xs.length:=by omega) (hp:Pick H (.ow E t (.slice a n cp) xs F) S:=by (repeat (first|exact .here|apply Pick.there));first|done|fail):T c fr H Φ:=.mk fun ac w s g=>by
 have s1:=s.pick hp
 obtain ⟨hn,ho⟩:=s1.on (.ow E t (.slice a n cp) xs F) (by simp)
 obtain ⟨F',hF,hs⟩:=ho.takeO k hk
 exact (h F').h ac w (s1.conv rfl ⟨hn.sublist hF,hs⟩ hF.subset) g
theorem t_cap {α:Type} {E:Elem α} {t:TypeId} {a:Option Addr} {n cp:Nat} {xs:List α} {F:List Nat} (h:n≤cp→cp≤9223372036854775807→T c fr H Φ) (hm:.ow E t (.slice a n cp) xs F∈H:=by (repeat (first|exact .head _|apply List.Mem.tail));first|done|fail):T c fr H Φ:=.mk fun ac w s g=>by
 obtain ⟨-,h'|⟨g',cap,cs,rest,G,h1,h2,h3,h4, -⟩⟩:=s.get hm
 ·obtain ⟨h1,h2, -⟩:=h'
  cases h1
  exact (h (by simp) (by decide)).h ac w s g
 ·cases h1
  exact (h h3 (by unfold maxLen at h4;omega)).h ac w s g
theorem t_nilow {α:Type} (E:Elem α) (t:TypeId) (h:T c fr (.ow E t (.slice none 0 0) [] []::H) Φ):T c fr H Φ:=.mk fun a w s g =>
 h.h a w (s.add (N:=[.ow E t (.slice none 0 0) [] []]) (Below.refl _ _) (by intro p hp;simp at hp;subst hp;exact ⟨by simp,.inl ⟨rfl,rfl,rfl⟩⟩) ⟨by simp,trivial⟩ (by intro p hp b hb;simp at hp;subst hp;simp [Pc.F] at hb)) g
theorem t_nilsl {α:Type} (E:Elem α) (hz:0 < E.sz) (h:T c fr (.sl E (.slice none 0 0) [] []::H) Φ):T c fr H Φ:=.mk fun a w s g =>
 h.h a w (s.add (N:=[.sl E (.slice none 0 0) [] []]) (Below.refl _ _) (by intro p hp;simp at hp;subst hp;exact ⟨hz,none,0,rfl,⟨Nat.le_refl _,by unfold maxLen;omega⟩,.inl ⟨rfl,rfl,fun _=>rfl⟩⟩) ⟨by simp,trivial⟩ (by intro p hp b hb;simp at hp;subst hp;simp [Pc.F] at hb)) g
theorem t_emp {α:Type} (E:Elem α) {t g:Nat} {S:List Pc} (h:T c fr (.ow E t (.slice (some ⟨g,0,none⟩) 0 0) [] [g]::S) Φ) (hp:Pick H (.row g t 0 [] [] []) S:=by (repeat (first|exact .here|apply Pick.there));first|done|fail):T c fr H Φ:=.mk fun a w s ag=>by
 have s1:=s.pick hp
 obtain ⟨-,hr⟩:=s1.on (.row g t 0 [] [] []) (by simp)
 exact h.h a w (s1.conv rfl ⟨by simp,Ow.empty (by simpa using hr)⟩ (fun b hb=>hb)) ag
theorem bs0 {t e m:Nat} {gd:Option (Nat × Bool)} [hS:SlC c.P t e m] (h:∀g,T c ((d,.slice (some ⟨g,0,none⟩) 0 0)::fr) (.row g e 0 [] [] []::H) Φ) (hd:Nat.blt d c.n=true:=by rfl):Ef c fr H ⟨some d,.buildSlice t 0 #[],ty,pos,aft,gd⟩ Φ:=ef_of fun Q a w s g=>by
 have e1:(execOp a.eval ⟨some d,.buildSlice t 0 #[],ty,pos,aft,gd⟩).run c.P w=.ok (.value (.slice (some ⟨w.heap.size,0,none⟩) 0 0)) (w.alloc (.cells #[] e)):=by
  simp [execOp,Instr.buildSlice,run_underlying hS.u,size_of hS.s,Instr.fill,newRow,Array.range_zero']
 rw [e1]
 exact (h _).h _ _ (s.new e []) (g.put hd)
inductive AppV:List Value→List Value→List Value→Prop
 | nil {r}:AppV [] r r
 | cons {u l r q}:AppV l r q→AppV (u::l) r (u::q)
theorem AppV.eq {l r q} (h:AppV l r q):l++r=q:=by
 induction h with
 | nil=>rfl
 | cons _ ih=>simp [ih]
inductive Rpt (zs:List Value):Nat→List Value→Prop
 | zero:Rpt zs 0 []
 | succ {n r q}:Rpt zs n r→AppV zs r q→Rpt zs (n+1) q
theorem Rpt.eq {zs:List Value} {n q} (h:Rpt zs n q):q=(List.replicate n zs).flatten:=by
 induction h with
 | zero=>rfl
 | succ _ h2 ih=>rw [←h2.eq,ih,List.replicate_succ,List.flatten_cons]
theorem bs {t e m b len:Nat} {z:Value} {zs cs q:List Value} {ps:List (Nat × Operand)} {gd:Option (Nat × Bool)} [hS:SlC c.P t e m] [hE:ElT c.P e z m b] [hZ:ZC c.P e zs] (h:∀g,T c ((d,.slice (some ⟨g,0,none⟩) len len)::fr) (.row g e 0 [] q []::H) Φ)
  (hc:Rpt zs len cs:=by repeat constructor) (hf:Fil (fun i=>some (i * m,m)) fr cs ps q:=by repeat (first|exact Fil.nil|apply Fil.cons (by rfl) (by rfl) (by rfl) (by repeat constructor))) (hl:Nat.ble (len * m) 1000=true:=by rfl) (hm:Nat.blt 0 m=true:=by rfl) (hlen:Nat.blt 0 len=true:=by rfl) (hd:Nat.blt d c.n=true:=by rfl) :
  Ef c fr H ⟨some d,.buildSlice t len ps.toArray,ty,pos,aft,gd⟩ Φ:=ef_of fun Q a w s g=>by
 have hm0:m≠0:=by have:0 < m:=by simpa using hm
                  omega
 have hlen0:len≠0:=by have:0 < len:=by simpa using hlen
                      omega
 have hl2:len * m≤1000:=by simpa using hl
 obtain ⟨i,hi,hz⟩:=Option.map_eq_some_iff.1 hE.i
 simp only [Prod.mk.injEq] at hz
 obtain ⟨hz,hs, -⟩:=hz
 obtain ⟨z',hz',hzc⟩:=hZ.z
 obtain rfl:z'=z:=by rw [hi] at hz';simp [hz] at hz';exact hz'.symm
 have hzl:zs.length=m:=by have:=hE.s;rw [hzc] at this;simpa using this
 have e2:((Array.range (len * m)).map (zs.toArray[· % zs.toArray.size]!))=cs.toArray:=by
  have:=madeCells_flat zs.toArray len
  rw [hc.eq]
  apply Array.ext'
  rw [show zs.toArray.size=m from by simp [hzl]] at this
  simpa [madeCells] using this
 have e1:(execOp a.eval ⟨some d,.buildSlice t len ps.toArray,ty,pos,aft,gd⟩).run c.P w=.ok (.value (.slice (some ⟨w.heap.size,0,none⟩) len len)) (w.alloc (.cells q.toArray e)):=by
  have h3:=hf.run g
  have hne:¬(len * m=0):=Nat.mul_ne_zero hlen0 hm0
  have hns:¬(len * m > 2 ^ 24):=by omega
  have hzv:(zeroValue e).run c.P w=.ok z' w:=by simp [zeroValue,typeInfo,hi,hz]
  simp only [execOp,Instr.buildSlice,Sem.run_bind,run_underlying hS.u,size_of hS.s,Result.andThen_ok,if_neg hns,if_neg hne,hzv,hzc,Sem.run_pure,Sem.run_ite,e2]
  simp only [List.map_toArray,h3,newRow,Sem.run_bind,run_newObj_alloc,Result.andThen_ok,Sem.run_pure]
 rw [e1]
 exact (h _).h _ _ (s.new e q) (g.put hd)
theorem o_bs0 {t e m:Nat} [SlC c.P t e m] (hd:Nat.blt d c.n=true) (h:∀g,T c ((d,.slice (some ⟨g,0,none⟩) 0 0)::fr) (.row g e 0 [] [] []::H) Φ):On c fr H (some d) (.buildSlice t 0 #[]) ty Φ:=⟨fun _ _ _=>bs0 h hd⟩
theorem rptE {zs:List Value} {n:Nat} {q:List Value} (h:Rpt zs n q:=by repeat constructor):Rpt zs n q:=h
theorem o_bs {t e m b len:Nat} {z:Value} {zs cs q:List Value} {ps:List (Nat × Operand)} [SlC c.P t e m] [ElT c.P e z m b] [ZC c.P e zs] (hd:Nat.blt d c.n=true) (hlen:Nat.blt 0 len=true) (hm:Nat.blt 0 m=true) (hl:Nat.ble (len * m) 1000=true) (hc:Rpt zs len cs) (hf:Fil (fun i=>some (i * m,m)) fr cs ps q) (h:∀g,T c ((d,.slice (some ⟨g,0,none⟩) len len)::fr) (.row g e 0 [] q []::H) Φ) :
  On c fr H (some d) (.buildSlice t len ps.toArray) ty Φ:=⟨fun _ _ _=>bs h hc hf hl hm hlen hd⟩
end
theorem nodup_apt {A B:List Nat} (h:(A++B).Nodup) {b:Nat} (ha:b∈A) (hb:b∈B):False:=(List.nodup_append.1 h).2.2 b ha b hb rfl
section
variable {c:Cx} {fr:Fr} {H:List Pc} {k:List It} {Φ:Gl} {ops:Array Oper} {rest:List Oper} {d:Nat} {o:Op} {ty:TypeId} {pos:String} {aft:Array Edge} {v u:Value} {x y:Operand}
theorem ap {α:Type} {E:Elem α} {t e m b:Nat} {z:Value} [hS:SlC c.P t e m] [hE:ElT c.P e z m b] {xs ys:List α} {F Fy:List Nat} {ao:Option Addr} {n cp:Nat} {gd:Option (Nat × Bool)} {R S:List Pc} (one:One E) (hz:0 < E.sz) (hm:E.sz=m)
  (hp:Pick H (.ow E e v xs F) R) (hx:ev fr x=some v) (hy:ev fr y=some (.slice ao n cp)) (hn:n=ys.length)
  (hsrc:∀w,St c.G c.D c.w0 (.ow E e v xs F::R) w→∃news,Flat E w news ys Fy∧((ao=none∧cp=0∧ys=[])∨∃ad,ao=some ad∧∀j u,news[j]?=some u→w.cell? (ad.add j)=some u)∧(∀b∈Fy,b ∉ F)∧Fy.Nodup)
  (hFy:∀w v' F',St c.G c.D c.w0 (.ow E e v xs F::R) w→(∀b∈F',b∈F∨b∈Fy∨b=w.heap.size)→∀w',Keep F w w'→(Pc.ow E e v' (xs++ys) F').P w'→St c.G c.D c.w0 (.ow E e v' (xs++ys) F'::S) w')
  (h63:xs.length+ys.length≤maxLen) (hby:(xs.length+ys.length) * b≤140737488355328)
  (h:∀a' c' F',T c ((d,.slice a' (xs++ys).length c')::fr) (.ow E e (.slice a' (xs++ys).length c') (xs++ys) F'::S) Φ) (hd:Nat.blt d c.n=true) :
  Ef c fr H ⟨some d,.call { callee:=.builtin .append,args:=#[x,y],argTypes:=#[t,t] },ty,pos,aft,gd⟩ Φ:=.mk fun Q a w s g=>by
 have s1:=s.pick hp
 obtain ⟨hnd,how⟩:=s1.on (.ow E e v xs F) (by simp)
 obtain ⟨news,hfl,hsr,hdis,hny⟩:=hsrc w s1
 subst hn
 refine wp_apd (P:=c.P) one hz x y t rfl e z b hS.u (by rw [hE.i,hm]) (by rw [hE.s,hm]) v xs F (g.ev hx) how (Hd.of hnd) ao ys cp (g.ev hy) news Fy hfl hsr (fun b hb e=>hdis b hb (how.own_mem b e)) h63 hby fun v' w' F' hA=>?_
 obtain ⟨a',c',rfl⟩:=hA.val
 rw [←List.length_append] at hA ⊢
 have hw:=hA.ow
 exact (h a' c' F').h _ _ (hFy w _ F' s1 hA.mem w' hA.keep ⟨hA.nodup hnd hny hdis,hw⟩) (g.put hd)
theorem ap1 {α:Type} {E:Elem α} {t e m b:Nat} {z:Value} [hS:SlC c.P t e m] [hE:ElT c.P e z m b] {xs ys:List α} {F:List Nat} {g n cp tt:Nat} {cs:List Value} {R S:List Pc}
  (hfl:∀w,Flat E w cs ys []) (one:One E) (h:∀a' c' F',T c ((d,.slice a' (xs++ys).length c')::fr) (.ow E e (.slice a' (xs++ys).length c') (xs++ys) F'::S) Φ)
  (hx:ev fr x=some v:=by rfl) (hy:ev fr y=some (.slice (some ⟨g,0,none⟩) n cp):=by rfl) (hp:Pick H (.ow E e v xs F) R:=by (repeat (first|exact .here|apply Pick.there));first|done|fail) (hp2:Pick R (.row g tt 0 [] cs []) S:=by (repeat (first|exact .here|apply Pick.there));first|done|fail) (hn:n=ys.length:=by rfl) (hz:0 < E.sz:=by decide) (hm:E.sz=m:=by rfl)
  (h63:xs.length+ys.length≤9223372036854775807:=by simp only [List.length_cons,List.length_nil];omega) (hby:(xs.length+ys.length) * b≤140737488355328:=by simp only [List.length_cons,List.length_nil];omega) (hd:Nat.blt d c.n=true:=by rfl) :
  On c fr H (some d) (.call { callee:=.builtin .append,args:=#[x,y],argTypes:=#[t,t] }) ty Φ :=
 ⟨fun _ _ _=>ap one hz hm hp hx hy hn (Fy:=[]) (fun w s=>⟨cs,hfl w,.inr ⟨_,rfl,fun j u hu=>by
   have hr:=(s.on (.row g tt 0 [] cs []) (by simp [hp2.mem])).2
   have:=hr.cell j
   simp only [List.nil_append,List.append_nil] at this
   rw [hu] at this
   unfold Addr.add
   split
   ·rename_i e;subst e;exact this
   ·simpa using this⟩,by simp,by simp⟩)
  (fun w v' F' s hF w' hk hv=>by
   have s2:St c.G c.D c.w0 (.ow E e v xs F::S) w:=⟨s.keep,fun q hq=>s.on q (by rcases List.mem_cons.1 hq with rfl|hq;simp;simp [hp2.sub q hq]),⟨fun q hq=>s.sep.1 q (hp2.sub q hq),(hp2.sep s.sep.2).2⟩,fun q hq=>s.mine q (by rcases List.mem_cons.1 hq with rfl|hq;simp;simp [hp2.sub q hq])⟩
   exact St.turn (M:=[.ow E e v xs F]) (N:=[.ow E e v' (xs++ys) F']) s2 (by simpa [List.filter,Pc.mu,fp,Pc.F] using hk) (by intro q hq;simp at hq;subst hq;exact hv) ⟨by simp,trivial⟩ (by
    intro q hq b hb
    simp at hq;subst hq
    rcases hF b hb with h|h|h
    ·exact .inr (.inl ⟨.ow E e v xs F,by simp,rfl,h⟩)
    ·simp at h
    ·exact .inl (by omega)))
  (by unfold maxLen;exact h63) hby h hd⟩
theorem aps {α:Type} {E:Elem α} {t e m b:Nat} {z:Value} [hS:SlC c.P t e m] [hE:ElT c.P e z m b] {xs ys:List α} {F G:List Nat} {ao:Option Addr} {n cp:Nat} {R:List Pc}
  (one:One E) (sc:∀{w cs x F},E.rep w cs x F→F=[]) (h:∀a' c' F',T c ((d,.slice a' (xs++ys).length c')::fr) (.ow E e (.slice a' (xs++ys).length c') (xs++ys) F'::R) Φ)
  (hx:ev fr x=some v:=by rfl) (hy:ev fr y=some (.slice ao n cp):=by rfl) (hp:Pick H (.ow E e v xs F) R:=by (repeat (first|exact .here|apply Pick.there));first|done|fail) (hp2:.sl E (.slice ao n cp) ys G∈R:=by (repeat (first|exact .head _|apply List.Mem.tail));first|done|fail) (hn:n=ys.length:=by rfl) (hz:0 < E.sz:=by decide) (hm:E.sz=m:=by rfl)
  (h63:xs.length+ys.length≤9223372036854775807:=by first|omega|(simp only [List.length_cons,List.length_nil];omega)) (hby:(xs.length+ys.length) * b≤140737488355328:=by first|omega|(simp only [List.length_cons,List.length_nil];omega)) (hd:Nat.blt d c.n=true:=by rfl) :
  On c fr H (some d) (.call { callee:=.builtin .append,args:=#[x,y],argTypes:=#[t,t] }) ty Φ :=
 have flat0:∀{w cs zs G},Flat E w cs zs G→G=[]:=fun {w cs zs G}=>by
  induction zs generalizing cs G with
  | nil=>intro h;exact h.2
  | cons z r ih=>intro h;obtain ⟨c1,c2,F1,F2,_,rfl,h1,h2⟩:=h;rw [sc h1,ih h2];rfl
 ⟨fun _ _ _=>ap one hz hm hp hx hy hn (Fy:=[]) (fun w s=>by
   obtain ⟨-,hs⟩:=s.on (.sl E (.slice ao n cp) ys G) (by simp [hp2])
   obtain ⟨ao',cc,news,Fy,he, -,hfy, -,hsrc⟩:=hs.src
   simp only [Value.slice.injEq] at he
   obtain ⟨rfl, -,rfl⟩:=he
   obtain rfl:=flat0 hfy
   exact ⟨news,hfy,hsrc,by simp,by simp⟩)
  (fun w v' F' s hF w' hk hv=>St.turn (M:=[.ow E e v xs F]) (N:=[.ow E e v' (xs++ys) F']) s (by simpa [List.filter,Pc.mu,fp,Pc.F] using hk) (by intro q hq;simp at hq;subst hq;exact hv) ⟨by simp,trivial⟩ (by
    intro q hq b hb
    simp at hq;subst hq
    rcases hF b hb with h|h|h
    ·exact .inr (.inl ⟨.ow E e v xs F,by simp,rfl,h⟩)
    ·simp at h
    ·exact .inl (by omega)))
  (by unfold maxLen;exact h63) hby h hd⟩
/-! parts of slices that read -/
theorem elem_of {P:Program} {t e m:Nat} (hS:SlC P t e m):P.elem t=e:=by simp [Program.elem,hS.u]
theorem sld {α:Type} {E:Elem α} {t e m:Nat} [hS:SlC c.P t e m] {a:Option Addr} {n cp:Nat} {xs:List α} {F:List Nat} {i:Int} (j:Nat) (h:∀a' c' F',T c ((d,.slice a' (xs.drop j).length c')::fr) (.sl E (.slice a' (xs.drop j).length c') (xs.drop j) F'::H) Φ)
  (hx:ev fr x=some (.slice a n cp):=by rfl) (hy:ev fr y=some (.int .i64 i):=by rfl) (hm:.sl E (.slice a n cp) xs F∈H:=by (repeat (first|exact .head _|apply List.Mem.tail));first|done|fail) (hi:i=(j:Int):=by first|rfl|omega) (hj:j≤xs.length:=by omega) (he:E.sz=m:=by rfl) (hd:Nat.blt d c.n=true:=by rfl):On c fr H (some d) (.slice t x (some y) none none) ty Φ:=⟨fun pos aft gd=>ef_of fun Q ac w s g=>by
 subst hi
 obtain ⟨hz,hs⟩:=s.get hm
 have he2:=elem_of hS
 obtain ⟨a2,c2,F',hr,hF,h2⟩:=hs.dropS t (by rw [he2];exact hS.u) j hj (fun W=>by rw [he2,he];exact size_of hS.s W)
 have e1:(execOp ac.eval ⟨some d,.slice t x (some y) none none,ty,pos,aft,gd⟩).run c.P w=.ok (.value (.slice a2 (xs.drop j).length c2)) w:=by
  simp [execOp,g.ev hx,g.ev hy,hr]
 rw [e1]
 rw [←List.length_drop] at h2
 exact (h a2 c2 F').h _ w (s.ro hm rfl rfl ⟨hz,h2⟩ hF) (g.put hd)⟩
/-! one element of an owned slice, of elements without blocks of their own -/
def Hole {α:Type} (E:Elem α) (t:TypeId) (g:Nat) (v:Value) (xs:List α) (i:Nat) (A B:List Value):Prop:=∀w cs y,Row w g t (A++cs++B)→E.rep w cs y []→Ow E t w v (xs.set i y) [g]
theorem focF {α:Type} {E:Elem α} {t:TypeId} {a:Option Addr} {n cp m:Nat} {xs:List α} {F:List Nat} {S:List Pc} (sc:Scal E) (i:Nat) (h:∀(_:i < xs.length) g A cs B,a=some ⟨g,0,none⟩→F=[g]→(∀w,E.rep w cs xs[i] [])→Hole E t g (.slice (some ⟨g,0,none⟩) n cp) xs i A B→T c fr (.row g t (0+i * m) A cs B::S) Φ)
  (hp:Pick H (.ow E t (.slice a n cp) xs F) S) (hm:E.sz=m) (hi:i < xs.length):T c fr H Φ:=.mk fun ac w s g=>by
 have z1:=s.pick hp
 obtain ⟨-,ho⟩:=z1.on (.ow E t (.slice a n cp) xs F) (by simp)
 obtain ⟨g0,cap,A,cs,B,G1,Fi,G2,hv,hr,hA, -,hx,rfl, -,hW⟩:=ho.focus i hi
 cases hv
 obtain rfl:=sc hx
 have hG:∀b,b ∉ G1++G2:=by
  intro b hb
  have:=ho.scal sc
  simp only [Value.ownBlock,Option.toList_some,List.append_nil,List.cons.injEq,true_and] at this
  rw [this] at hb;simp at hb
 have hG0:G1++G2=[]:=List.eq_nil_iff_forall_not_mem.2 hG
 subst hm
 refine (h hi g0 A cs B rfl (by simpa using hG0) (fun w'=>E.frame hx (by simp)) (fun w' c' y hr' hy=>?_)).h ac w (z1.conv rfl ⟨by omega,hr⟩ (by intro b hb;simp [Pc.F] at hb;subst hb;simp [Pc.F])) g
 have:=hW w' c' y [] hr' hy (fun b hb=>absurd hb (hG b))
 simpa [hG0] using this
theorem unfF {α:Type} {E:Elem α} {t:TypeId} {g o:Nat} {v:Value} {xs:List α} {i:Nat} {A cs B:List Value} {S:List Pc} (y:α) (hh:Hole E t g v xs i A B) (hy:∀w,E.rep w cs y []) (h:T c fr (.ow E t v (xs.set i y) [g]::S) Φ) (hp:Pick H (.row g t o A cs B) S:=by (repeat (first|exact .here|apply Pick.there));first|done|fail):T c fr H Φ:=.mk fun ac w s ag=>by
 have z1:=s.pick hp
 obtain ⟨-,hr⟩:=z1.on (.row g t o A cs B) (by simp)
 exact h.h ac w (z1.conv rfl ⟨by simp,hh w cs y hr (hy w)⟩ (fun b hb=>hb)) ag
/-! calls by the elder contracts -/
theorem cn {α:Type} {E:Elem α} {t:TypeId} {xs:List α} {f:Nat} {vs:List Value} (hc:∀w,St c.G c.D c.w0 H w→Calls c.P f vs.toArray w (RetNew E t xs w)) (h:∀a cp F,T c ((d,.slice a xs.length cp)::fr) (.ow E t (.slice a xs.length cp) xs F::H) Φ):Cl c fr H d f vs Φ :=
 cl_of hc (fun w e w' s hR=>by
  obtain ⟨v,F,he,ho,hn,hF,hB⟩:=hR
  obtain ⟨a,cp,rfl⟩:=ho.slice
  exact ⟨_,he,fun ac g=>(h a cp F).h ac w' (s.add (N:=[.ow E t (.slice a xs.length cp) xs F]) hB (by intro q hq;simp at hq;subst hq;exact ⟨hn,ho⟩) ⟨by simp,trivial⟩ (by intro q hq b hb;simp at hq;subst hq;exact .inl (hF b hb))) g⟩)
theorem cr {α:Type} {E:Elem α} {z:α} {f:Nat} {vs:List Value} (hc:∀w,St c.G c.D c.w0 H w→Calls c.P f vs.toArray w (RetR E z w)) (h:∀v F,T c ((d,v)::fr) (.isv E v z F::H) Φ):Cl c fr H d f vs Φ :=
 cl_of hc (fun w e w' s hR=>by
  obtain ⟨v,F,he,ho,hF,hB⟩:=hR
  exact ⟨_,he,fun ac g=>(h v F).h ac w' (s.add (N:=[.isv E v z F]) hB (by intro q hq;simp at hq;subst hq;exact ho) ⟨by simp,trivial⟩ (by intro q hq b hb;simp at hq;subst hq;exact .inl (hF b hb))) g⟩)
theorem cv {α:Type} {E:Elem α} {z:α} {f:Nat} {vs:List Value} (hc:∀w,St c.G c.D c.w0 H w→Calls c.P f vs.toArray w (RetV E z w)) (h:∀v F,T c ((d,v)::fr) (.own E v z F::H) Φ):Cl c fr H d f vs Φ :=
 cl_of hc (fun w e w' s hR=>by
  obtain ⟨v,F,he,ho,hn,hF,hB⟩:=hR
  exact ⟨_,he,fun ac g=>(h v F).h ac w' (s.add (N:=[.own E v z F]) hB (by intro q hq;simp at hq;subst hq;exact ⟨hn,ho⟩) ⟨by simp,trivial⟩ (by intro q hq b hb;simp at hq;subst hq;exact .inl (hF b hb))) g⟩)
/-! regions that draw their order -/
inductive Nth:List Pc→Nat→Pc→Prop
 | zero {p R}:Nth (p::R) 0 p
 | succ {x p R i}:Nth R i p→Nth (x::R) (i+1) p
inductive Sel (H:List Pc):List Nat→List Pc→Prop
 | nil:Sel H [] []
 | cons {i is p R}:Nth H i p→Sel H is R→Sel H (i::is) (p::R)
theorem Nth.mem {H i p} (h:Nth H i p):p∈H:=by
 induction h with
 | zero=>simp
 | succ _ ih=>simp [ih]
variable {H0:List Pc} {X:List Nat} {f:Nat} {listed:Array Bool}
theorem d_start {id:Nat} {l:List Oper} (is X:List Nat) (h:T c fr H (.dx k H0 X l.toArray l.length (Array.replicate l.length false))) (_hsel:Sel H is H0:=by repeat constructor) (hm:c.P.follows .mixedOrders=true:=by kernel_rfl):T c fr H (.code k (Code.region id l.toArray true)):=.mk fun a w s g=>by
 refine AnyX.start (S:=Hol H0) (X:=fun i=>X.contains i) hm ?_
 have:=h.h a w.drew (s.below (belowDrewN (Below.refl _ _) 1)) g
 simpa [Gl.sem] using this
def PanOk (c:Cx):Prop:=∀ch d v a w,c.R (.panic ch) (Act.put a d v) w→c.R (.panic ch) a w
theorem panOk {P:Program} {D G:List Nat} {w0:World} {n:Nat} {fn:Func} {R:Ending→World→Prop}:PanOk ⟨P,G,D,w0,n,bodyPost P fn R⟩:=fun ch d v a w h=>by
 cases d <;> exact h
theorem dt (i:Nat) (h:T c ((d,v)::fr) H (.dx k H0 X ops f (listed.setIfInBounds i true))) (ho:ops[i]?=some ⟨some d,o,ty,pos,aft,none⟩:=by rw [List.getElem?_toArray];rfl) (hy:Yd c.P c.n fr H0 o ty v:=by exact ydE) (hs:Mems H0 H:=by repeat (first|exact Mems.nil|refine Mems.cons (by (repeat (first|exact .head _|apply List.Mem.tail));first|done|fail) ?_))
  (h1:Region.noSelect ops=true:=by kernel_rfl) (h2:Region.free .any ops listed i=true:=by kernel_rfl) (h3:(Region.ready .any ops listed).contains i=true:=by kernel_rfl) (h4:waitsAll .any ops (fun i=>X.contains i) i=true:=by kernel_rfl) (h5:closedB .any ops listed=true:=by kernel_rfl) (hR:PanOk c:=by exact panOk) (hd:Nat.blt d c.n=true:=by rfl) :
  T c fr H (.dx k H0 X ops (f+1) listed):=.mk fun a w s g =>
 AnyX.take (v:=v) ho h1 h2 h3 h4 h5 (fun ch a w hp=>by rw [run_panic] at hp ⊢;exact hR _ _ _ _ _ hp) (.inl ⟨rfl,fun w' hw'=>hy.h a w' _ _ _ _ g hw'⟩) (fun p hp=>s.on p (hs.all p hp)) (h.h _ _ s (g.put hd))
theorem dsld (i j:Nat) {α:Type} {E:Elem α} {t e m:Nat} [hS:SlC c.P t e m] {a:Option Addr} {n cp:Nat} {xs:List α} {F:List Nat} {z:Int} (h:∀a' c' F',T c ((d,.slice a' (xs.drop j).length c')::fr) (.sl E (.slice a' (xs.drop j).length c') (xs.drop j) F'::H) (.dx k H0 X ops f (listed.setIfInBounds i true))) (ho:ops[i]?=some ⟨some d,.slice t x (some y) none none,ty,pos,aft,none⟩:=by rw [List.getElem?_toArray];rfl)
  (hx:ev fr x=some (.slice a n cp):=by rfl) (hy:ev fr y=some (.int .i64 z):=by rfl) (hm:.sl E (.slice a n cp) xs F∈H:=by (repeat (first|exact .head _|apply List.Mem.tail));first|done|fail) (hi:z=(j:Int):=by first|rfl|omega) (hj:j≤xs.length:=by omega) (he:E.sz=m:=by rfl) (hs:Mems H0 H:=by repeat (first|exact Mems.nil|refine Mems.cons (by (repeat (first|exact .head _|apply List.Mem.tail));first|done|fail) ?_))
  (h1:Region.noSelect ops=true:=by kernel_rfl) (h2:Region.free .any ops listed i=true:=by kernel_rfl) (h3:(Region.ready .any ops listed).contains i=true:=by kernel_rfl) (h4:waitsAll .any ops (fun i=>X.contains i) i=true:=by kernel_rfl) (h5:closedB .any ops listed=true:=by kernel_rfl) (hR:PanOk c:=by exact panOk) (hd:Nat.blt d c.n=true:=by rfl) :
  T c fr H (.dx k H0 X ops (f+1) listed):=.mk fun ac w s g=>by
 subst hi
 obtain ⟨hz,hs'⟩:=s.get hm
 have he2:=elem_of hS
 obtain ⟨a2,c2,F',hr,hF,h2'⟩:=hs'.dropS t (by rw [he2];exact hS.u) j hj (fun W=>by rw [he2,he];exact size_of hS.s W)
 rw [←List.length_drop] at h2' hr
 refine AnyX.take (v:=.slice a2 (xs.drop j).length c2) ho h1 h2 h3 h4 h5 (fun ch a w hp=>by rw [run_panic] at hp ⊢;exact hR _ _ _ _ _ hp) (.inl ⟨rfl,fun w' _=>?_⟩) (fun p hp=>s.on p (hs.all p hp)) ((h a2 c2 F').h _ w (s.ro hm rfl rfl ⟨hz,h2'⟩ hF) (g.put hd))
 simp only [execOp,Option.map_none,Option.map_some,g.ev hx,g.ev hy,Sem.run_bind,hr,Result.andThen_ok,Sem.run_pure]
theorem dtg (i:Nat) {j t:Nat} {b:Bool} (h:T c ((d,v)::fr) H (.dx k H0 X ops f (listed.setIfInBounds i true))) (ho:ops[i]?=some ⟨some d,o,ty,pos,aft,some (j,b)⟩:=by rw [List.getElem?_toArray];rfl) (ht:(ops[j]?).bind (·.dst)=some t:=by rfl) (hl:look fr t=some (.bool b):=by rfl) (hy:Yd c.P c.n fr H0 o ty v:=by exact ydE) (hs:Mems H0 H:=by repeat (first|exact Mems.nil|refine Mems.cons (by (repeat (first|exact .head _|apply List.Mem.tail));first|done|fail) ?_))
  (h1:Region.noSelect ops=true:=by kernel_rfl) (h2:Region.free .any ops listed i=true:=by kernel_rfl) (h3:(Region.ready .any ops listed).contains i=true:=by kernel_rfl) (h4:waitsAll .any ops (fun i=>X.contains i) i=true:=by kernel_rfl) (h5:closedB .any ops listed=true:=by kernel_rfl) (hR:PanOk c:=by exact panOk) (hd:Nat.blt d c.n=true:=by rfl) :
  T c fr H (.dx k H0 X ops (f+1) listed):=.mk fun a w s g =>
 AnyX.take (v:=v) ho h1 h2 h3 h4 h5 (fun ch a w hp=>by rw [run_panic] at hp ⊢;exact hR _ _ _ _ _ hp) (.inl ⟨by rw [wanted_eq (c:=c) ht hl g];simp,fun w' hw'=>hy.h a w' _ _ _ _ g hw'⟩) (fun p hp=>s.on p (hs.all p hp)) (h.h _ _ s (g.put hd))
theorem ds (i:Nat) {j t:Nat} {b b':Bool} (h:T c ((d,undef)::fr) H (.dx k H0 X ops f (listed.setIfInBounds i true))) (ho:ops[i]?=some ⟨some d,o,ty,pos,aft,some (j,b)⟩:=by rw [List.getElem?_toArray];rfl) (ht:(ops[j]?).bind (·.dst)=some t:=by rfl) (hl:look fr t=some (.bool b'):=by rfl) (hb:(b' == b)=false:=by rfl) (hs:Mems H0 H:=by repeat (first|exact Mems.nil|refine Mems.cons (by (repeat (first|exact .head _|apply List.Mem.tail));first|done|fail) ?_))
  (h1:Region.noSelect ops=true:=by kernel_rfl) (h2:Region.free .any ops listed i=true:=by kernel_rfl) (h3:(Region.ready .any ops listed).contains i=true:=by kernel_rfl) (h4:waitsAll .any ops (fun i=>X.contains i) i=true:=by kernel_rfl) (h5:closedB .any ops listed=true:=by kernel_rfl) (hR:PanOk c:=by exact panOk) (hd:Nat.blt d c.n=true:=by rfl) :
  T c fr H (.dx k H0 X ops (f+1) listed):=.mk fun a w s g =>
 AnyX.take (v:=undef) ho h1 h2 h3 h4 h5 (fun ch a w hp=>by rw [run_panic] at hp ⊢;exact hR _ _ _ _ _ hp) (.inr ⟨by rw [wanted_eq (c:=c) ht hl g];exact hb,rfl⟩) (fun p hp=>s.on p (hs.all p hp)) (h.h _ _ s (g.put hd))
theorem dsu (i:Nat) {j t:Nat} {b:Bool} (h:T c ((d,undef)::fr) H (.dx k H0 X ops f (listed.setIfInBounds i true))) (ho:ops[i]?=some ⟨some d,o,ty,pos,aft,some (j,b)⟩:=by rw [List.getElem?_toArray];rfl) (ht:(ops[j]?).bind (·.dst)=some t:=by rfl) (hl:look fr t=some undef:=by rfl) (hs:Mems H0 H:=by repeat (first|exact Mems.nil|refine Mems.cons (by (repeat (first|exact .head _|apply List.Mem.tail));first|done|fail) ?_))
  (h1:Region.noSelect ops=true:=by kernel_rfl) (h2:Region.free .any ops listed i=true:=by kernel_rfl) (h3:(Region.ready .any ops listed).contains i=true:=by kernel_rfl) (h4:waitsAll .any ops (fun i=>X.contains i) i=true:=by kernel_rfl) (h5:closedB .any ops listed=true:=by kernel_rfl) (hR:PanOk c:=by exact panOk) (hd:Nat.blt d c.n=true:=by rfl) :
  T c fr H (.dx k H0 X ops (f+1) listed):=.mk fun a w s g =>
 AnyX.take (v:=undef) ho h1 h2 h3 h4 h5 (fun ch a w hp=>by rw [run_panic] at hp ⊢;exact hR _ _ _ _ _ hp) (.inr ⟨by simp only [Region.wanted,yielded,ht,Option.bind_some,g.at_ t _ hl];rfl,rfl⟩) (fun p hp=>s.on p (hs.all p hp)) (h.h _ _ s (g.put hd))
theorem dk {i:Nat} (h:T c fr H (.dx k H0 X ops f listed)) (hs:Mems H0 H:=by repeat (first|exact Mems.nil|refine Mems.cons (by (repeat (first|exact .head _|apply List.Mem.tail));first|done|fail) ?_)):T c fr H (.dk i k H0 X ops f listed):=.mk fun a w s g=>⟨fun _ p hp=>s.on p (hs.all p hp),h.h a w s g⟩
theorem dkx {i:Nat} (h:T c fr H (.dx k H0 X ops f listed)) (hi:X.contains i=true:=by rfl):T c fr H (.dk i k H0 X ops f listed):=.mk fun a w s g=>⟨fun h0=>(by rw [hi] at h0;cases h0),h.h a w s g⟩
theorem d1 (i:Nat) {o:Oper} (h:Ef c fr H o (.dk i k H0 X ops f (listed.setIfInBounds i true))) (hr:Region.ready .any ops listed=[i]:=by kernel_rfl) (ho:ops[i]?=some o:=by rw [List.getElem?_toArray];rfl) (hg:o.guard=none:=by rfl):T c fr H (.dx k H0 X ops (f+1) listed):=.mk fun a w s g =>
 AnyX.only hr ho fun K hK=>by
  rw [if_pos (by simp [Region.wanted,hg])]
  exact Oper.wp_mono (fun a' w' h'=>hK a' w' h'.1 h'.2) (h.h _ a w s g)
theorem d1g (i:Nat) {od:Option Tmp} {j t:Nat} {b:Bool} (h:Ef c fr H ⟨od,o,ty,pos,aft,some (j,b)⟩ (.dk i k H0 X ops f (listed.setIfInBounds i true))) (hr:Region.ready .any ops listed=[i]:=by kernel_rfl) (ho:ops[i]?=some ⟨od,o,ty,pos,aft,some (j,b)⟩:=by rw [List.getElem?_toArray];rfl) (ht:(ops[j]?).bind (·.dst)=some t:=by rfl) (hl:look fr t=some (.bool b):=by rfl):T c fr H (.dx k H0 X ops (f+1) listed):=.mk fun a w s g =>
 AnyX.only hr ho fun K hK=>by
  rw [if_pos (by rw [wanted_eq (c:=c) ht hl g];simp)]
  exact Oper.wp_mono (fun a' w' h'=>hK a' w' h'.1 h'.2) (h.h _ a w s g)
theorem d2 (i j:Nat) {o o2:Oper} (h:Ef c fr H o (.dk i k H0 X ops f (listed.setIfInBounds i true))) (h':Ef c fr H o2 (.dk j k H0 X ops f (listed.setIfInBounds j true)))
  (hr:Region.ready .any ops listed=[i,j]:=by kernel_rfl) (ho:ops[i]?=some o:=by rw [List.getElem?_toArray];rfl) (ho2:ops[j]?=some o2:=by rw [List.getElem?_toArray];rfl) (hg:o.guard=none:=by rfl) (hg2:o2.guard=none:=by rfl):T c fr H (.dx k H0 X ops (f+1) listed):=.mk fun a w s g =>
 AnyX.two hr ho ho2 (fun K hK=>by
  rw [if_pos (by simp [Region.wanted,hg])]
  exact Oper.wp_mono (fun a' w' h'=>hK a' w' h'.1 h'.2) (h.h _ a w s g)) (fun K hK=>by
  rw [if_pos (by simp [Region.wanted,hg2])]
  exact Oper.wp_mono (fun a' w' h''=>hK a' w' h''.1 h''.2) (h'.h _ a w s g))
theorem dO (i:Nat) {od:Option Tmp} (hr:Region.ready .any ops listed=[i]) (ho:ops[i]?=some ⟨od,o,ty,pos,aft,none⟩) (h:On c fr H od o ty (.dk i k H0 X ops f (listed.setIfInBounds i true))):T c fr H (.dx k H0 X ops (f+1) listed):=d1 i (h.h pos aft none) hr ho rfl
theorem dO2 (i j:Nat) {od od2:Option Tmp} {o2:Op} {ty2:TypeId} {pos2:String} {aft2:Array Edge} (hr:Region.ready .any ops listed=[i,j]) (ho:ops[i]?=some ⟨od,o,ty,pos,aft,none⟩) (ho2:ops[j]?=some ⟨od2,o2,ty2,pos2,aft2,none⟩) (h:On c fr H od o ty (.dk i k H0 X ops f (listed.setIfInBounds i true))) (h':On c fr H od2 o2 ty2 (.dk j k H0 X ops f (listed.setIfInBounds j true))):T c fr H (.dx k H0 X ops (f+1) listed):=d2 i j (h.h pos aft none) (h'.h pos2 aft2 none) hr ho ho2 rfl rfl
theorem dd (h:T c fr H (.norm k)) (hr:Region.ready .any ops listed=[]:=by kernel_rfl):T c fr H (.dx k H0 X ops f listed):=.mk fun a w s g=>AnyX.done hr (h.h a w s g) f
theorem ey {gd:Option (Nat × Bool)} (h:T c ((d,v)::fr) H Φ) (hy:Yd c.P c.n fr H o ty v:=by exact ydE) (hd:Nat.blt d c.n=true:=by rfl):Ef c fr H ⟨some d,o,ty,pos,aft,gd⟩ Φ:=ef_yd hy hd h
end
inductive Kf (fr:Fr):List Nat→Fr→Prop
 | nil:Kf fr [] []
 | cons {t v ts r}:look fr t=some v→Kf fr ts r→Kf fr (t::ts) ((t,v)::r)
theorem Kf.sub {fr ts r} (h:Kf fr ts r):FrSub fr r:=by
 induction h with
 | nil=>exact .nil
 | cons h _ ih=>exact .cons h ih
theorem FrSub.app {fr a b:Fr} (h:FrSub fr a) (h2:FrSub fr b):FrSub fr (a++b):=by
 induction h with
 | nil=>exact h2
 | cons h _ ih=>exact .cons h ih
theorem Picks.hsub {H M R:List Pc} (h:Picks H M R):HSub H (M++R):=by
 have all:∀(H:List Pc),HSub H H:=by
  intro H
  induction H with
  | nil=>exact .nil
  | cons p H ih=>exact .cons .here ih
 induction h with
 | nil=>exact all _
 | cons hp _ ih=>exact .cons hp ih
theorem c_loopS {c:Cx} {fr:Fr} {H:List Pc} {k:List It} {x:Code} {σ:Type} {cst:Fr} {rest:List Pc} (ks:List Nat) (upd:σ→Fr) (chg:σ→List Pc) (C:σ→Prop) (μ:σ→Nat) (s0:σ) (h0:C s0)
  (round:∀s,C s→T c (upd s++cst) (chg s++rest) (.code (.lp (LpN c (fun s=>upd s++cst) (fun s=>chg s++rest) C μ (μ s))::k) x)) (hk:Kf fr ks cst:=by repeat (first|exact Kf.nil|apply Kf.cons (by rfl))) (hf:FrSub fr (upd s0):=by exact frE) (hH:Picks H (chg s0) rest:=by exact picksE):T c fr H (.code k (Code.loop x)) :=
 c_loop (fun s=>upd s++cst) (fun s=>chg s++rest) C μ s0 h0 round (hf.app hk.sub) hH.hsub
theorem c_loopR {c:Cx} {fr:Fr} {H:List Pc} {k:List It} {x:Code} {σ:Type} {cst:Fr} (ks:List Nat) (upd:σ→Fr) (C:σ→Prop) (μ:σ→Nat) (s0:σ) (h0:C s0)
  (round:∀s,C s→T c (upd s++cst) H (.code (.lp (LpN c (fun s=>upd s++cst) (fun _=>H) C μ (μ s))::k) x)) (hk:Kf fr ks cst:=by repeat (first|exact Kf.nil|apply Kf.cons (by rfl))) (hf:FrSub fr (upd s0):=by exact frE):T c fr H (.code k (Code.loop x)) :=
 c_loop (fun s=>upd s++cst) (fun _=>H) C μ s0 h0 round (hf.app hk.sub) (by
  have all:∀(H:List Pc),HSub H H:=by
   intro H
   induction H with
   | nil=>exact .nil
   | cons p H ih=>exact .cons .here ih
  exact all _)
def Jn {σ:Type} (c:Cx) (fr':σ→Fr) (H':σ→List Pc) (C:σ→Prop) (a:Act) (w:World):Prop:=∃s,C s∧St c.G c.D c.w0 (H' s) w∧Ag c.n (fr' s) a
theorem c_join {c:Cx} {fr:Fr} {H:List Pc} {k:List It} {x:Code} {σ:Type} (fr':σ→Fr) (H':σ→List Pc) (C:σ→Prop) (h:T c fr H (.code (.lp (Jn c fr' H' C)::k) x)) (h2:∀s,C s→T c (fr' s) (H' s) (.norm k)):T c fr H (.code k x):=.mk fun a w s g =>
 wp_mono (h.h a w s g) fun e a' w' he=>by
  cases e with
  | normal=>obtain ⟨z,hz,hs,hg⟩:=he;exact (h2 z hz).h a' w' hs hg
  | _=>exact he
theorem n_join {c:Cx} {fr:Fr} {H:List Pc} {k:List It} {σ:Type} {fr':σ→Fr} {H':σ→List Pc} {C:σ→Prop} (s:σ) (hC:C s) (hf:FrSub fr (fr' s):=by repeat (first|exact FrSub.nil|refine FrSub.cons (by rfl) ?_)) (hH:HSub H (H' s):=by repeat (first|exact HSub.nil|refine HSub.cons (by (repeat (first|exact .here|apply Pick.there));first|done|fail) ?_)):T c fr H (.norm (.lp (Jn c fr' H' C)::k)) :=
 .mk fun _ _ st g=>⟨s,hC,st.sub hH,g.sub hf⟩
theorem c_joinS {c:Cx} {fr:Fr} {H:List Pc} {k:List It} {x:Code} {σ:Type} {cst:Fr} {rest:List Pc} (ks rs:List Nat) (upd:σ→Fr) (chg:σ→List Pc) (C:σ→Prop) (h:T c fr H (.code (.lp (Jn c (fun s=>upd s++cst) (fun s=>chg s++rest) C)::k) x)) (h2:∀s,C s→T c (upd s++cst) (chg s++rest) (.norm k)) (_hk:Kf fr ks cst:=by repeat (first|exact Kf.nil|apply Kf.cons (by rfl))) (_hr:Sel H rs rest:=by repeat constructor):T c fr H (.code k x) :=
 c_join _ _ C h h2
theorem enter {P:Program} {f:FuncId} {fn:Func} {cd:Code} {args:List Value} {A M H:List Pc} {σ:Type} {C:σ→Prop} {v:σ→Value} {N:σ→List Pc} {n:Nat} (hf:P.funcs[f]?=some fn) (hb:fn.body=some cd) (hn:fn.ntmps=n)
  (h:∀w,T ⟨P,fp M,fp A,w,n,bodyPost P fn (FnPost P w A M C v N)⟩ (args0 0 args) H (.code [] cd))
  (hl:Nat.ble args.length n=true:=by rfl) (hmA:A.all (fun p=>!p.mu)=true:=by rfl) (hH:AppL M A H:=by repeat constructor):Fn P f args A M C v N:=by
 subst hn
 exact fn_enter hf hb (fun w=>by rw [hH.eq];exact h w) (by simpa using hl) hmA
theorem ret {P:Program} {fn:Func} {G D:List Nat} {w0:World} {n:Nat} {A M:List Pc} {σ:Type} {C:σ→Prop} {v:σ→Value} {N:σ→List Pc} {fr:Fr} {H:List Pc} {rs:List ResultVar} {vs:List Value} (s:σ) (hC:C s) (hv:tup vs=v s)
  (hr:fn.results=rs.toArray:=by rfl) (h:Res P fr H rs vs:=by repeat (first|exact Res.nil|apply Res.tmp (by rfl)|apply Res.agg inferInstance (by rfl) (by (repeat (first|exact .head _|apply List.Mem.tail));first|done|fail) (by rfl)|apply Res.one inferInstance (by rfl) (by (repeat (first|exact .head _|apply List.Mem.tail));first|done|fail))) (hN:HSub H (N s):=by repeat (first|exact HSub.nil|refine HSub.cons (by (repeat (first|exact .here|apply Pick.there));first|done|fail) ?_)) (hG:G=fp M:=by rfl) (hD:D=fp A:=by rfl):T ⟨P,G,D,w0,n,bodyPost P fn (FnPost P w0 A M C v N)⟩ fr H (.fin .ret):=fn_ret s hC hr h hv hN hG hD
theorem Fn.val {P:Program} {f:FuncId} {args:List Value} {A:List Pc} {C:Unit→Prop} {v:Value} (h:Fn P f args A [] C (fun _=>v) (fun _=>[])) (w:World) (hA:Hol A w) (hm:A.all (fun p=>!p.mu)=true:=by rfl):Calls P f args.toArray w fun e w'=>e=.returned v∧Below w.heap.size w w' :=
 have hs:∀(A:List Pc),A.all (fun p=>!p.mu)=true→Sep A:=by
  intro A
  induction A with
  | nil=>intro _;trivial
  | cons p A ih =>
   intro h
   simp only [List.all_cons,Bool.and_eq_true,Bool.not_eq_true'] at h
   exact ⟨fun q hq hm=>by have:=List.all_eq_true.1 h.2 q hq;simp [h.1] at hm;simp [hm] at this,ih h.2⟩
 (h w (by simpa using hA) (by simpa using hs A hm)).mono fun e w' ⟨_,_,he,_,_,hk,_⟩=>⟨he,hk.below (Nat.le_refl _) (by simp [fp])⟩
theorem sep_ro:∀(A:List Pc),A.all (fun p=>!p.mu)=true→Sep A
 | [],_=>trivial
 | p::A,h=>by
  simp only [List.all_cons,Bool.and_eq_true,Bool.not_eq_true'] at h
  exact ⟨fun q hq hm=>by have:=List.all_eq_true.1 h.2 q hq;simp [h.1] at hm;simp [hm] at this,sep_ro A h.2⟩
theorem Pc.nd {p:Pc} (hm:p.mu=true) {w:World} (h:p.P w):p.F.Nodup:=by
 cases p with
 | row g t o A cs B=>simp [Pc.F]
 | ow E t v xs F=>exact h.1
 | own E v x F=>exact h.1
 | flat E cs xs F=>exact h.1
 | _=>cases hm
theorem fp_nd {w:World}:∀{N:List Pc},N.all (·.mu)=true→Hol N w→Sep N→(fp N).Nodup
 | [],_,_,_=>by simp [fp]
 | p::N,hm,hH,hs=>by
  simp only [List.all_cons,Bool.and_eq_true] at hm
  refine List.nodup_append.2 ⟨Pc.nd hm.1 (hH p (by simp)),fp_nd hm.2 (fun q hq=>hH q (by simp [hq])) hs.2,fun b hb b' hb' e=>?_⟩
  subst e
  obtain ⟨q,hq,hqb⟩:=mem_fp.1 hb'
  exact hs.1 q hq (by simp [hm.1]) b hb hqb
theorem Fn.made {P:Program} {f:FuncId} {args:List Value} {A:List Pc} {σ:Type} {C:σ→Prop} {v:σ→Value} {N:σ→List Pc} (h:Fn P f args A [] C v N) (w:World) (hA:Hol A w) (hN:∀s,(N s).all (·.mu)=true) (hm:A.all (fun p=>!p.mu)=true:=by rfl) :
  Calls P f args.toArray w fun e w'=>∃s,C s∧e=.returned (v s)∧Hol (N s) w'∧(fp (N s)).Nodup∧(∀b∈fp (N s),w.heap.size≤b)∧Below w.heap.size w w' :=
 (h w (by simpa using hA) (by simpa using sep_ro A hm)).mono fun e w' ⟨s,hC,he,hH,hS,hk,hF⟩=>⟨s,hC,he,hH,fp_nd (hN s) hH hS,(fun b hb=>by
  obtain ⟨p,hp,hpb⟩:=mem_fp.1 hb
  rcases hF p hp b hpb with h|⟨q,hq,_⟩|⟨h,_⟩
  ·exact h
  ·simp at hq
  ·have:=List.all_eq_true.1 (hN s) p hp;rw [h] at this;cases this),hk.below (Nat.le_refl _) (by simp [fp])⟩
theorem Fn.read {P:Program} {f:FuncId} {args:List Value} {A:List Pc} {σ:Type} {C:σ→Prop} {v:σ→Value} {N:σ→List Pc} (h:Fn P f args A [] C v N) (w:World) (hA:Hol A w) (hm:A.all (fun p=>!p.mu)=true:=by rfl) :
  Calls P f args.toArray w fun e w'=>∃s,C s∧e=.returned (v s)∧Hol (N s) w'∧Below w.heap.size w w' :=
 (h w (by simpa using hA) (by simpa using sep_ro A hm)).mono fun e w' ⟨s,hC,he,hH,hS,hk,hF⟩=>⟨s,hC,he,hH,hk.below (Nat.le_refl _) (by simp [fp])⟩
theorem hol2 {p q:Pc} {w:World} (h:p.P w) (h2:q.P w):Hol [p,q] w:=fun r hr=>by
 simp only [List.mem_cons,List.not_mem_nil,or_false] at hr
 rcases hr with rfl|rfl <;> assumption
structure Kp (X:Prop):Prop where
 h:X
section
variable {c:Cx} {fr:Fr} {H:List Pc} {d:Nat} {ty:TypeId} {v:Value} {x:Operand} {Φ:Gl}
theorem o_boxX {Y:Nat→Prop} {t:TypeId} {l:List Value} (hd:Nat.blt d c.n=true) (hx:ev fr x=some v) (hv:v.cells=l.toArray) (hX:Kp (∀g,Y g)) (h:∀g,Kp (Y g)→T c ((d,ptr g 0 0)::fr) (.row g t 0 [] l []::H) Φ):On c fr H (some d) (.box t x) ty Φ:=o_box hd hx hv fun g=>h g ⟨hX.h g⟩
theorem o_allocX {Y:Nat→Prop} {t:TypeId} {zs:List Value} [ZC c.P t zs] (hd:Nat.blt d c.n=true) (hX:Kp (∀g,Y g)) (h:∀g,Kp (Y g)→T c ((d,ptr g 0 0)::fr) (.row g t 0 [] zs []::H) Φ):On c fr H (some d) (.alloc t) ty Φ:=o_alloc hd fun g=>h g ⟨hX.h g⟩
theorem o_bs0X {Y:Nat→Prop} {t e m:Nat} [SlC c.P t e m] (hd:Nat.blt d c.n=true) (hX:Kp (∀g,Y g)) (h:∀g,Kp (Y g)→T c ((d,.slice (some ⟨g,0,none⟩) 0 0)::fr) (.row g e 0 [] [] []::H) Φ):On c fr H (some d) (.buildSlice t 0 #[]) ty Φ:=o_bs0 hd fun g=>h g ⟨hX.h g⟩
theorem o_bsX {Y:Nat→Prop} {t e m b len:Nat} {z:Value} {zs cs q:List Value} {ps:List (Nat × Operand)} [SlC c.P t e m] [ElT c.P e z m b] [ZC c.P e zs] (hd:Nat.blt d c.n=true) (hlen:Nat.blt 0 len=true) (hm:Nat.blt 0 m=true) (hl:Nat.ble (len * m) 1000=true) (hc:Rpt zs len cs) (hf:Fil (fun i=>some (i * m,m)) fr cs ps q) (hX:Kp (∀g,Y g)) (h:∀g,Kp (Y g)→T c ((d,.slice (some ⟨g,0,none⟩) len len)::fr) (.row g e 0 [] q []::H) Φ) :
  On c fr H (some d) (.buildSlice t len ps.toArray) ty Φ:=o_bs hd hlen hm hl hc hf fun g=>h g ⟨hX.h g⟩
end
theorem go {X:Prop} {c:Cx} {fr:Fr} {H:List Pc} {Φ:Gl} (h:X) (hs:Kp X→T c fr H Φ:=by intro hX;(repeat (first|apply c_seq|apply c_reg|(apply wO;apply oc;rfl;exact ydE)|apply w_nil|apply n_cd|(apply wg_t;rfl;rfl)|(apply wg_f;rfl;rfl;rfl;rfl)|(apply wg_u;rfl;rfl;rfl)|(apply c_t;rfl)|(apply c_f;rfl)|apply c_skip|apply c_block|apply n_blk|apply c_exit|apply e_hit|apply e_cd|apply e_lp|(apply e_miss;rfl)|apply c_ret|(apply wO;apply o_boxX;rfl;rfl;rfl;exact hX;clear hX;intro _ hX)|(apply wO;apply o_allocX;rfl;exact hX;clear hX;intro _ hX)|(apply wO;apply o_st;rfl;rfl;rfl;(first|exact AggC.s|exact OneC.s);rfl;exact rplE;exact putE;rfl)|(apply wO;apply o_bs0X;rfl;exact hX;clear hX;intro _ hX)|(apply wO;apply o_bsX;rfl;rfl;rfl;rfl;exact rptE;exact filE;exact hX;clear hX;intro _ hX)|(apply wO;apply o_call;rfl;kernel_rfl;exact evsE)));exact hX.h):T c fr H Φ:=hs ⟨h⟩
theorem goN {X:Prop} {c:Cx} {fr:Fr} {H:List Pc} {Φ:Gl} (h:X) (hs:Kp X→T c fr H Φ:=by intro hX;(repeat (first|apply c_seq|apply c_reg|(apply wO;apply oc;rfl;exact ydE)|apply w_nil|apply n_cd|(apply wg_t;rfl;rfl)|(apply wg_f;rfl;rfl;rfl;rfl)|(apply wg_u;rfl;rfl;rfl)|(apply c_t;rfl)|(apply c_f;rfl)|apply c_skip|apply c_block|apply n_blk|apply c_exit|apply e_hit|apply e_cd|apply e_lp|(apply e_miss;rfl)|apply c_ret|(apply wO;apply o_boxX;rfl;rfl;rfl;exact hX;clear hX;intro _ hX)|(apply wO;apply o_allocX;rfl;exact hX;clear hX;intro _ hX)|(apply wO;apply o_st;rfl;rfl;rfl;(first|exact AggC.s|exact OneC.s);rfl;exact rplE;exact putE;rfl)|(apply wO;apply o_bs0X;rfl;exact hX;clear hX;intro _ hX)|(apply wO;apply o_bsX;rfl;rfl;rfl;rfl;exact rptE;exact filE;exact hX;clear hX;intro _ hX)));exact hX.h):T c fr H Φ:=hs ⟨h⟩
section
variable {c:Cx} {fr:Fr} {H:List Pc} {k:List It} {Φ:Gl} {ops:Array Oper} {rest:List Oper} {d:Nat} {o:Op} {ty:TypeId} {pos:String} {aft:Array Edge} {v u:Value} {x y:Operand} {H0:List Pc} {X:List Nat} {f:Nat} {listed:Array Bool}
theorem oC {f:Nat} {aS:List Operand} {ts:Array TypeId} {vs:List Value} (h:Cl c fr H d f vs Φ) (hd:Nat.blt d c.n=true:=by rfl) (hb:bodyB c.P f=true:=by kernel_rfl) (ha:Evs fr aS vs:=by exact evsE):On c fr H (some d) (.call { callee:=.value (.func f),args:=aS.toArray,argTypes:=ts }) ty Φ:=o_call hd hb ha h
theorem oS {t g tt o' j m:Nat} {A cs B l r:List Value} {S:List Pc} (h:T c fr S Φ) (hx:ev fr x=some (ptr g o' j):=by rfl) (hy:ev fr y=some v:=by rfl) (hv:v.cells=l.toArray:=by rfl) (hs:(c.P.info? t).map (·.size)=some m:=by first|exact AggC.s|exact OneC.s) (hl:l.length=m:=by rfl) (hr:Rpl H (.row g tt o' A cs B) (.row g tt o' A r B) S:=by exact rplE) (hp:Put cs j l r:=by exact putE) (h1:l.all (·.oneCell')=true:=by rfl):On c fr H none (.store t x y) ty Φ:=o_st hx hy hv hs hl hr hp h1 h
theorem dN (i:Nat) {od:Option Tmp} (h:On c fr H od o ty (.dk i k H0 X ops f (listed.setIfInBounds i true))) (hr:Region.ready .any ops listed=[i]:=by kernel_rfl) (ho:ops[i]?=some ⟨od,o,ty,pos,aft,none⟩:=by rw [List.getElem?_toArray];rfl):T c fr H (.dx k H0 X ops (f+1) listed):=dO i hr ho h
theorem dM (i j:Nat) {od od2:Option Tmp} {o2:Op} {ty2:TypeId} {pos2:String} {aft2:Array Edge} (h:On c fr H od o ty (.dk i k H0 X ops f (listed.setIfInBounds i true))) (h':On c fr H od2 o2 ty2 (.dk j k H0 X ops f (listed.setIfInBounds j true))) (hr:Region.ready .any ops listed=[i,j]:=by kernel_rfl) (ho:ops[i]?=some ⟨od,o,ty,pos,aft,none⟩:=by rw [List.getElem?_toArray];rfl) (ho2:ops[j]?=some ⟨od2,o2,ty2,pos2,aft2,none⟩:=by rw [List.getElem?_toArray];rfl):T c fr H (.dx k H0 X ops (f+1) listed):=dO2 i j hr ho ho2 h h'
theorem dt2 (i0 i1:Nat) {d0:Nat} {o0:Op} {t0:TypeId} {p0:String} {a0:Array Edge} {v0:Value} {d1:Nat} {o1:Op} {t1:TypeId} {p1:String} {a1:Array Edge} {v1:Value} (h:T c ((d1,v1)::((d0,v0)::fr)) H (.dx k H0 X ops f ((listed.setIfInBounds i0 true).setIfInBounds i1 true))) (hs:Mems H0 H:=by repeat (first|exact Mems.nil|refine Mems.cons (by (repeat (first|exact .head _|apply List.Mem.tail));first|done|fail) ?_)) (h1:Region.noSelect ops=true:=by kernel_rfl) (hR:PanOk c:=by exact panOk) (ho0:ops[i0]?=some ⟨some d0,o0,t0,p0,a0,none⟩:=by rw [List.getElem?_toArray];rfl) (hy0:Yd c.P c.n fr H0 o0 t0 v0:=by exact ydE) (w0:Region.free .any ops listed i0=true:=by kernel_rfl) (x0:(Region.ready .any ops listed).contains i0=true:=by kernel_rfl) (y0:waitsAll .any ops (fun i=>X.contains i) i0=true:=by kernel_rfl) (z0:closedB .any ops listed=true:=by kernel_rfl) (e0:Nat.blt d0 c.n=true:=by rfl) (ho1:ops[i1]?=some ⟨some d1,o1,t1,p1,a1,none⟩:=by rw [List.getElem?_toArray];rfl) (hy1:Yd c.P c.n ((d0,v0)::fr) H0 o1 t1 v1:=by exact ydE) (w1:Region.free .any ops (listed.setIfInBounds i0 true) i1=true:=by kernel_rfl) (x1:(Region.ready .any ops (listed.setIfInBounds i0 true)).contains i1=true:=by kernel_rfl) (y1:waitsAll .any ops (fun i=>X.contains i) i1=true:=by kernel_rfl) (z1:closedB .any ops (listed.setIfInBounds i0 true)=true:=by kernel_rfl) (e1:Nat.blt d1 c.n=true:=by rfl):T c fr H (.dx k H0 X ops (f+1+1) listed):=dt i0 (dt i1 h ho1 hy1 hs h1 w1 x1 y1 z1 hR e1) ho0 hy0 hs h1 w0 x0 y0 z0 hR e0
theorem dt4 (i0 i1 i2 i3:Nat) {d0:Nat} {o0:Op} {t0:TypeId} {p0:String} {a0:Array Edge} {v0:Value} {d1:Nat} {o1:Op} {t1:TypeId} {p1:String} {a1:Array Edge} {v1:Value} {d2:Nat} {o2:Op} {t2:TypeId} {p2:String} {a2:Array Edge} {v2:Value} {d3:Nat} {o3:Op} {t3:TypeId} {p3:String} {a3:Array Edge} {v3:Value} (h:T c ((d3,v3)::((d2,v2)::((d1,v1)::((d0,v0)::fr)))) H (.dx k H0 X ops f ((((listed.setIfInBounds i0 true).setIfInBounds i1 true).setIfInBounds i2 true).setIfInBounds i3 true))) (hs:Mems H0 H:=by repeat (first|exact Mems.nil|refine Mems.cons (by (repeat (first|exact .head _|apply List.Mem.tail));first|done|fail) ?_)) (h1:Region.noSelect ops=true:=by kernel_rfl) (hR:PanOk c:=by exact panOk) (ho0:ops[i0]?=some ⟨some d0,o0,t0,p0,a0,none⟩:=by rw [List.getElem?_toArray];rfl) (hy0:Yd c.P c.n fr H0 o0 t0 v0:=by exact ydE) (w0:Region.free .any ops listed i0=true:=by kernel_rfl) (x0:(Region.ready .any ops listed).contains i0=true:=by kernel_rfl) (y0:waitsAll .any ops (fun i=>X.contains i) i0=true:=by kernel_rfl) (z0:closedB .any ops listed=true:=by kernel_rfl) (e0:Nat.blt d0 c.n=true:=by rfl) (ho1:ops[i1]?=some ⟨some d1,o1,t1,p1,a1,none⟩:=by rw [List.getElem?_toArray];rfl) (hy1:Yd c.P c.n ((d0,v0)::fr) H0 o1 t1 v1:=by exact ydE) (w1:Region.free .any ops (listed.setIfInBounds i0 true) i1=true:=by kernel_rfl) (x1:(Region.ready .any ops (listed.setIfInBounds i0 true)).contains i1=true:=by kernel_rfl) (y1:waitsAll .any ops (fun i=>X.contains i) i1=true:=by kernel_rfl) (z1:closedB .any ops (listed.setIfInBounds i0 true)=true:=by kernel_rfl) (e1:Nat.blt d1 c.n=true:=by rfl) (ho2:ops[i2]?=some ⟨some d2,o2,t2,p2,a2,none⟩:=by rw [List.getElem?_toArray];rfl) (hy2:Yd c.P c.n ((d1,v1)::((d0,v0)::fr)) H0 o2 t2 v2:=by exact ydE) (w2:Region.free .any ops ((listed.setIfInBounds i0 true).setIfInBounds i1 true) i2=true:=by kernel_rfl) (x2:(Region.ready .any ops ((listed.setIfInBounds i0 true).setIfInBounds i1 true)).contains i2=true:=by kernel_rfl) (y2:waitsAll .any ops (fun i=>X.contains i) i2=true:=by kernel_rfl) (z2:closedB .any ops ((listed.setIfInBounds i0 true).setIfInBounds i1 true)=true:=by kernel_rfl) (e2:Nat.blt d2 c.n=true:=by rfl) (ho3:ops[i3]?=some ⟨some d3,o3,t3,p3,a3,none⟩:=by rw [List.getElem?_toArray];rfl) (hy3:Yd c.P c.n ((d2,v2)::((d1,v1)::((d0,v0)::fr))) H0 o3 t3 v3:=by exact ydE) (w3:Region.free .any ops (((listed.setIfInBounds i0 true).setIfInBounds i1 true).setIfInBounds i2 true) i3=true:=by kernel_rfl) (x3:(Region.ready .any ops (((listed.setIfInBounds i0 true).setIfInBounds i1 true).setIfInBounds i2 true)).contains i3=true:=by kernel_rfl) (y3:waitsAll .any ops (fun i=>X.contains i) i3=true:=by kernel_rfl) (z3:closedB .any ops (((listed.setIfInBounds i0 true).setIfInBounds i1 true).setIfInBounds i2 true)=true:=by kernel_rfl) (e3:Nat.blt d3 c.n=true:=by rfl):T c fr H (.dx k H0 X ops (f+1+1+1+1) listed):=dt i0 (dt i1 (dt i2 (dt i3 h ho3 hy3 hs h1 w3 x3 y3 z3 hR e3) ho2 hy2 hs h1 w2 x2 y2 z2 hR e2) ho1 hy1 hs h1 w1 x1 y1 z1 hR e1) ho0 hy0 hs h1 w0 x0 y0 z0 hR e0
end
section
variable {c:Cx} {fr:Fr} {H:List Pc} {Φ:Gl}
theorem openReceiveWindow {v:Value} {x:ReceiveWindow} {F:List Nat} (h:∀(a1:Option Addr) (c1:Nat) (F1:List Nat),v=.agg #[.int .i64 x.next,.slice a1 x.slots.length c1]→x.slots.length≤maxLen→T c fr (.sl ESlot (.slice a1 x.slots.length c1) x.slots F1::H) Φ) (hm:.isv EReceiveWindow v x F∈H:=by (repeat (first|exact .head _|apply List.Mem.tail));first|done|fail):T c fr H Φ:=.mk fun a w s g=>by
 obtain ⟨cs,rfl,v1,rfl,h1⟩:=s.get hm
 obtain ⟨a1,c1,rfl⟩:=h1.slice;have l1:=h1.len
 have t1:=s.ro (p:=.sl ESlot (.slice a1 x.slots.length c1) x.slots F) hm rfl rfl ⟨by decide,h1⟩ fun b hb=>hb
 exact (h a1 c1 F rfl  l1).h a w t1 g
theorem closeReceiveWindow (x:ReceiveWindow) {a1:Option Addr} {c1:Nat} {F1:List Nat}  (h:T c fr (.isv EReceiveWindow (.agg #[.int .i64 x.next,.slice a1 x.slots.length c1]) x (F1)::H) Φ) (m1:.sl ESlot (.slice a1 x.slots.length c1) x.slots F1∈H:=by (repeat (first|exact .head _|apply List.Mem.tail));first|done|fail):T c fr H Φ:=.mk fun a w s g=>by
 have hP:IsV EReceiveWindow w (.agg #[.int .i64 x.next,.slice a1 x.slots.length c1]) x (F1):=⟨_,rfl,_,rfl,(s.get m1).2⟩
 refine h.h a w (s.add (N:=[.isv EReceiveWindow (.agg #[.int .i64 x.next,.slice a1 x.slots.length c1]) x (F1)]) (Below.refl _ _) (by intro q hq;simp at hq;subst hq;exact hP) ⟨by simp,trivial⟩ fun q hq b hb=>?_) g
 simp at hq;subst hq
 simp only [Pc.F,List.mem_append] at hb
 exact .inr ⟨rfl,_,m1,rfl,hb⟩
theorem openOReceiveWindow {v:Value} {x:ReceiveWindow} {F:List Nat} {S:List Pc} (h:∀(a1:Option Addr) (c1:Nat) (F1:List Nat),v=.agg #[.int .i64 x.next,.slice a1 x.slots.length c1]→x.slots.length≤maxLen→T c fr (.ow ESlot 247 (.slice a1 x.slots.length c1) x.slots F1::S) Φ) (hp:Pick H (.own OReceiveWindow v x F) S:=by (repeat (first|exact .here|apply Pick.there));first|done|fail):T c fr H Φ:=.mk fun a w s g=>by
 have z1:=s.pick hp
 obtain ⟨hn,cs,rfl,v1,rfl,h1⟩:=z1.on (.own OReceiveWindow v x F) (by simp)
 obtain ⟨a1,c1,rfl⟩:=h1.slice;have l1:=h1.len
 refine (h a1 c1 F rfl  l1).h a w (St.turn (M:=[.own OReceiveWindow (.agg #[.int .i64 x.next,.slice a1 x.slots.length c1]) x _]) (N:=[.ow ESlot 247 (.slice a1 x.slots.length c1) x.slots F]) z1 (Keep.refl _ w) ?_ ?_ ?_) g
 ·intro q hq;simp at hq;subst hq;exact ⟨hn,h1⟩
 ·exact ⟨by simp,trivial⟩
 ·intro q hq b hb;simp at hq;subst hq;exact .inr (.inl ⟨_,List.mem_singleton.2 rfl,rfl,hb⟩)
theorem closeOReceiveWindow (x:ReceiveWindow) {a1:Option Addr} {c1:Nat} {F1:List Nat} {S1:List Pc}  (h:T c fr (.own OReceiveWindow (.agg #[.int .i64 x.next,.slice a1 x.slots.length c1]) x (F1)::S1) Φ) (m1:Pick H (.ow ESlot 247 (.slice a1 x.slots.length c1) x.slots F1) S1:=by (repeat (first|exact .here|apply Pick.there));first|done|fail)  : T c fr H Φ:=.mk fun a w s g=>by
 have z1:St c.G c.D c.w0 ([.ow ESlot 247 (.slice a1 x.slots.length c1) x.slots F1]++S1) w:=by simpa using (show Picks H [.ow ESlot 247 (.slice a1 x.slots.length c1) x.slots F1] S1 from Picks.cons m1 (Picks.nil)).st (X:=[]) (by simpa using s)
 obtain ⟨n1,k1⟩:=z1.on (.ow ESlot 247 (.slice a1 x.slots.length c1) x.slots F1) (by simp)
 have hN:=n1
 refine h.h a w (St.turn (M:=[.ow ESlot 247 (.slice a1 x.slots.length c1) x.slots F1]) (N:=[.own OReceiveWindow (.agg #[.int .i64 x.next,.slice a1 x.slots.length c1]) x (F1)]) z1 (Keep.refl _ w) (by intro q hq;simp at hq;subst hq;exact ⟨hN,_,rfl,_,rfl,k1⟩) ⟨by simp,trivial⟩ fun q hq b hb=>?_) g
 simp at hq;subst hq
 simp only [Pc.F,List.mem_append] at hb
 exact .inr (.inl ⟨_,List.mem_singleton.2 rfl,rfl,hb⟩)
end
section
variable {c:Cx} {fr:Fr} {H:List Pc} {Φ:Gl}
theorem openSlot {v:Value} {x:Slot} {F:List Nat} (h:∀(_:Unit),v=.agg #[.bool x.hav,.string x.item]→x.item.size≤maxLen→T c fr (H) Φ) (hm:.isv ESlot v x F∈H:=by (repeat (first|exact .head _|apply List.Mem.tail));first|done|fail):T c fr H Φ:=.mk fun a w s g=>by
 obtain ⟨cs,rfl,rfl,s1,rfl⟩:=s.get hm
 exact (h () rfl s1 ).h a w s g
theorem atSlot {a:Option Addr} {n cp:Nat} {xs:List Slot} {F:List Nat} (i:Nat) (h:∀(hi:i < xs.length) (b o:Nat),a=some ⟨b,o,none⟩→xs[i].item.size≤maxLen→T c fr (.cel b (o+i * 2) [.bool xs[i].hav,.string xs[i].item]::H) Φ) (hm:.sl ESlot (.slice a n cp) xs F∈H:=by (repeat (first|exact .head _|apply List.Mem.tail));first|done|fail) (hi:i < xs.length:=by omega):T c fr H Φ:=.mk fun ac w s g=>by
 obtain ⟨b,o,cs,G,ha,hrep,hG,hb,hne,hr⟩:=sl_at (s.get hm) i hi
 obtain ⟨rfl,s1,rfl⟩:=hrep
 exact (h hi b o  ha s1 ).h ac w (s.ro hm rfl rfl ⟨hne,hr⟩ (by intro x hx;simp [Pc.F] at hx;subst hx;exact hb)) g
theorem focSlot {t:TypeId} {a:Option Addr} {n cp:Nat} {xs:List Slot} {F:List Nat} {S:List Pc} (i:Nat) (h:∀(_:i < xs.length) g A B,a=some ⟨g,0,none⟩→F=[g]→xs[i].item.size≤maxLen→Hole ESlot t g (.slice (some ⟨g,0,none⟩) n cp) xs i A B→T c fr (.row g t (0+i * 2) A [.bool xs[i].hav,.string xs[i].item] B::S) Φ) (hp:Pick H (.ow ESlot t (.slice a n cp) xs F) S:=by (repeat (first|exact .here|apply Pick.there));first|done|fail) (hi:i < xs.length:=by omega):T c fr H Φ :=
 focF scal_ESlot i (fun hi g A cs B ha hF hr hh=>by obtain ⟨rfl,s1, -⟩:=hr default;exact h hi g A B ha hF s1 hh) hp rfl hi
end
theorem isSer_iff {x:Int}:isSer x=true↔0≤x∧x≤65535:=by unfold isSer btw;simp
def aft (x n:Int):Int:=(x+n) % 65536
def gp (a b:Int):Int:=(b - a) % 65536
def bef (a b:Int):Bool:=btw 1 (gp a b) 32767
theorem gp_bd (a b:Int):0≤gp a b∧gp a b≤65535:=by unfold gp;omega
theorem aft_bd (a b:Int):0≤aft a b∧aft a b≤65535:=by unfold aft;omega
theorem aft_ser (a b:Int):isSer (aft a b)=true:=isSer_iff.2 (aft_bd a b)
theorem tmod_twice (z:Int):((z.tmod 65536)+65536).tmod 65536=z % 65536:=by
 rw [Int.tmod_eq_emod (a:=z.tmod 65536+65536),Int.tmod_eq_emod]
 split <;> split <;> omega
theorem tmod_bd (z:Int):-65535≤z.tmod 65536∧z.tmod 65536≤65535:=by
 rw [Int.tmod_eq_emod]
 split <;> omega
theorem after_c (x n:Int) (w:World) (h0:-4611686018427387904≤x+n) (h1:x+n≤4611686018427387904) :
  Calls Tryz.prog 209 #[.int .i64 x,.int .i64 n] w fun e w'=>e=.returned (.int .i64 (aft x n))∧w=w':=by
 have hb:=tmod_bd (x+n)
 have hb1:=hb.1
 have hb2:=hb.2
 clear hb
 by_cases hz:0≤x+n
 ·go_enter Tryz.func209,Tryz.ntmps209
  go_wp2
  go_ret
  exact ⟨ret_int (by unfold aft;omega),rfl⟩
 ·have ht:=tmod_twice (x+n)
  have ht:=Lib.hid ht
  go_enter Tryz.func209,Tryz.ntmps209
  go_wp2
  go_ret
  refine ⟨ret_int ?_,rfl⟩
  have:=ht.out
  rw [Int.tmod_eq_emod (a:=(x+n).tmod 65536+65536)] at this
  unfold aft
  split at this <;> omega
theorem gap_c (a b:Int) (w:World) (h0:-4611686018427387904≤b - a) (h1:b - a≤4611686018427387904) (ha:-4611686018427387904≤a) (ha':a≤4611686018427387904) :
  Calls Tryz.prog 176 #[.int .i64 a,.int .i64 b] w fun e w'=>e=.returned (.int .i64 (gp a b))∧w=w':=by
 go_enter Tryz.func176,Tryz.ntmps176
 go_wp2_with fail
 refine (after_c b (-a) _ (by omega) (by omega)).mono ?_
 rintro e w' ⟨rfl,rfl⟩
 go_wp2_with fail
 go_ret
 exact ⟨ret_int (by unfold aft gp;omega),rfl⟩
theorem isBefore_c (a b:Int) (w:World) (h0:-4611686018427387904≤b - a) (h1:b - a≤4611686018427387904) (ha:-4611686018427387904≤a) (ha':a≤4611686018427387904) :
  Calls Tryz.prog 273 #[.int .i64 a,.int .i64 b] w fun e w'=>e=.returned (.bool (bef a b))∧w=w':=by
 go_enter Tryz.func273,Tryz.ntmps273
 go_wp2_with fail
 refine (gap_c a b _ h0 h1 ha ha').mono ?_
 rintro e w' ⟨rfl,rfl⟩
 go_wp2_with fail
 refine (within_c _ _ _ _).mono ?_
 rintro e w' ⟨rfl,rfl⟩
 go_wp2_with fail
 go_ret
 exact ⟨rfl,rfl⟩
theorem l2After_c (x n:Int) (w:World) (h0:-131072≤x+n) (h1:x+n≤4611686018427387904) :
  Calls Tryz.prog 213 #[.int .i64 x,.int .i64 n] w fun e w'=>e=.returned (.int .i64 (aft x n))∧w=w':=by
 have h2:0≤x+n+131072:=by omega
 go_enter Tryz.func213,Tryz.ntmps213
 go_wp2
 go_ret
 exact ⟨ret_int (by unfold aft;omega),rfl⟩
theorem l2Gap_c (a b:Int) (w:World) (h0:-65536≤b - a) (h1:b - a≤4611686018427387904) :
  Calls Tryz.prog 150 #[.int .i64 a,.int .i64 b] w fun e w'=>e=.returned (.int .i64 (gp a b))∧w=w':=by
 have h2:0≤b - a+65536:=by omega
 go_enter Tryz.func150,Tryz.ntmps150
 go_wp2
 go_ret
 exact ⟨ret_int (by unfold gp;omega),rfl⟩
theorem l2Before_c (a b:Int) (w:World) (h0:-65536≤b - a) (h1:b - a≤4611686018427387904) :
  Calls Tryz.prog 281 #[.int .i64 a,.int .i64 b] w fun e w'=>e=.returned (.bool (bef a b))∧w=w':=by
 go_enter Tryz.func281,Tryz.ntmps281
 go_wp2_with fail
 refine (l2Gap_c a b _ h0 h1).mono ?_
 rintro e w' ⟨rfl,rfl⟩
 go_wp2_with fail
 refine (l1In_c _ _ _ _).mono ?_
 rintro e w' ⟨rfl,rfl⟩
 go_wp2_with fail
 go_ret
 exact ⟨rfl,rfl⟩
end Go.Proofs.YtgmbfohkpfineaaGreatDoor
namespace Go.Proofs.YtgmbfohkpfineaaGreatDoor
open Go.RowKit Go.Shelf
def low (b:UInt8):Bool:=btw 97 b.toNat 122
def lows (l:List UInt8):Bool:=l.all low
def itm (s:ByteArray):Bool:=decide ((s.size:Int)≤8) && lows s.data.toList
def abc:List UInt8:=[97,98,99,100,101,102,103,104,105,106,107,108,109,110,111,112,113,114,115,116,117,118,119,120,121,122]
theorem abc_low (b:UInt8):abc.contains b=low b:=by
 have h:∀n:Fin 256,abc.contains (UInt8.ofNat n.val)=low (UInt8.ofNat n.val):=by decide +kernel
 have:=h ⟨b.toNat,b.toNat_lt⟩
 simpa using this
theorem dropWhile_nil {α:Type} (p:α→Bool) (l:List α):l.dropWhile p=[]↔l.all p=true:=by
 induction l with
 | nil=>simp
 | cons x r ih=>rw [List.dropWhile_cons];cases h:p x <;> simp [h,ih]
theorem all_dropWhile {α:Type} (p:α→Bool) (l:List α):(l.dropWhile p).all p=l.all p:=by
 induction l with
 | nil=>simp
 | cons x r ih=>rw [List.dropWhile_cons];cases h:p x <;> simp [h,ih]
theorem trimS_nil (l cs:List UInt8):(Lib.trimS l cs=[])↔l.all (cs.contains ·)=true:=by
 unfold Lib.trimS Lib.trimLeftS Lib.trimRightS
 rw [dropWhile_nil,List.all_reverse,all_dropWhile,List.all_reverse]
theorem trim_abc (l:List UInt8):(Lib.trimS l abc == [])=lows l:=by
 rw [Bool.eq_iff_iff,beq_iff_eq,trimS_nil]
 unfold lows
 rw [show (fun b=>abc.contains b)=low from funext abc_low]
theorem isItem_c (s:ByteArray) (w:World) (hs:s.size≤maxLen) :
  Calls Tryz.prog 95 #[.string s] w fun e w'=>e=.returned (.bool (itm s))∧Below w.heap.size w w':=by
 unfold maxLen at hs
 have hc:=fun w=>Any.strings_Trim_laid Tryz.lays160 (by kernel_rfl) s ⟨abc.toArray⟩ w hs (by decide) (ascii_of_all (by decide))
 change ∀w,Calls Tryz.prog 184 #[.string s,.string ⟨abc.toArray⟩] w (fun e w'=>e=.returned (.string ⟨(Lib.trimS s.data.toList abc).toArray⟩)∧Below w.heap.size w w') at hc
 have ht:=trim_abc s.data.toList
 replace hc:=Lib.hid hc
 by_cases h8:s.size≤8
 ·generalize Lib.trimS s.data.toList abc=t at *
  have hi:itm s=(t == []):=by unfold itm;rw [ht,decide_eq_true (by omega)];rfl
  replace hi:=Lib.hid hi
  clear ht
  cases t with
  | nil =>
   go_enter Tryz.func95,Tryz.ntmps95
   go_wp2_with fail
   refine (hc.out _).mono ?_
   rintro e w1 ⟨rfl,hb⟩
   go_wp2_with fail
   go_ret
   exact ⟨ret_bool hi.out.symm,hb⟩
  | cons a r =>
   go_enter Tryz.func95,Tryz.ntmps95
   go_wp2_with fail
   refine (hc.out _).mono ?_
   rintro e w1 ⟨rfl,hb⟩
   go_wp2_with fail
   go_ret
   exact ⟨ret_bool hi.out.symm,hb⟩
 ·have hi:itm s=false:=by unfold itm;rw [decide_eq_false (by omega)];rfl
  replace hi:=Lib.hid hi
  go_enter Tryz.func95,Tryz.ntmps95
  go_wp2_with fail
  go_ret
  exact ⟨ret_bool hi.out.symm,Below.refl _ _⟩
theorem lows_drop (s:ByteArray) (k:Nat) (h:k < s.size):lows (s.data.toList.drop k)=(low s[k] && lows (s.data.toList.drop (k+1))):=by rw [drop_at s k h];rfl
theorem l4Letters_c (s:ByteArray) (n:Int) (w:World) (hs:s.size≤maxLen) :
  Calls Tryz.prog 79 #[.string s,.int .i64 n] w fun e w'=>e=.returned (.bool (decide ((s.size:Int)≤n) && lows s.data.toList))∧w=w':=by
 unfold maxLen at hs
 go_enter Tryz.func79,Tryz.ntmps79
 go_wp2
 go_loop [5] (fun i=>∃k:Nat,k≤s.size∧i=.int .i64 k∧Hid (lows s.data.toList=lows (s.data.toList.drop k))) (fun i=>s.size - (intOf i).toNat)
 case atStart=>exact ⟨0,Nat.zero_le _,rfl,rfl⟩
 case round =>
  obtain ⟨k,hk,rfl,hz⟩:=hrel
  by_cases hlt:k < s.size
  ·have hz:=Lib.hid (hz.out.trans (lows_drop s k hlt))
   have hb:(s[k].toNat:Int)≤255:=by have:=s[k].toNat_lt;omega
   cases hl:low s[k]
   ·have hl1:low s[k]=false:=hl
    unfold low btw at hl
    by_cases h1:(s[k].toNat:Int) < 97
    ·clear hl
     go_wp2
     go_ret
     exact ⟨ret_bool (by rw [hz.out,hl1];simp),rfl⟩
    ·have h2:(122:Int) < s[k].toNat:=by simp at hl;omega
     clear hl
     go_wp2
     go_ret
     exact ⟨ret_bool (by rw [hz.out,hl1];simp),rfl⟩
   ·have hl1:low s[k]=true:=hl
    unfold low btw at hl
    simp only [Bool.and_eq_true,decide_eq_true_eq] at hl
    have h1:¬(s[k].toNat:Int) < 97:=by omega
    have h2:¬(122:Int) < s[k].toNat:=by omega
    clear hl
    replace hl1:=Lib.hid hl1
    go_wp2
    go_round
    case rel=>exact ⟨k+1,by omega,by go_num,by refine Lib.hid ?_;rw [hz.out,hl1.out];rfl⟩
    case measure=>simp [intOf];omega
  ·go_wp2
   go_ret
   exact ⟨ret_bool (by rw [hz.out,drop_end s k hlt];simp [lows]),rfl⟩
end Go.Proofs.YtgmbfohkpfineaaGreatDoor
namespace Go.Proofs.YtgmbfohkpfineaaGreatDoor
open Go.RowKit
theorem IndexFunc_Slot (fid:FuncId) (hbd:Body Tryz.prog fid) (caps:Array Value) (v:Value) (xs:List Slot) (F:List Nat) (p:Slot→Bool) (w:World) (h:Sl ESlot w v xs F)
  (hp:∀(k:Nat) (hk:k < xs.length) (wr:World) (u:Value) (G:List Nat),Below w.heap.size w wr→IsV ESlot wr u xs[k] G→Calls Tryz.prog fid (#[u]++caps) wr fun e w'=>e=.returned (.bool (p xs[k]))∧Below wr.heap.size wr w') :
  Calls Tryz.prog 314 #[v,.func (.func fid) #[] caps] w fun e w'=>e=.returned (.int .i64 (fidx p xs))∧Below w.heap.size w w':=by
 obtain ⟨a,cap,rfl⟩:=h.slice
 have hl:=h.len
 unfold maxLen at hl
 go_enter Tryz.func314,Tryz.ntmps314
 go_wp2
 go_loopw [5,8] (fun _ i wr=>∃k:Nat,k≤xs.length∧i=.int .i64 k∧Hid (∀j,j < k→∀hj:j < xs.length,p xs[j]=false)∧Below w.heap.size w wr) (fun _ i _=>xs.length - (intOf i).toNat)
 case atStart=>exact ⟨0,Nat.zero_le _,rfl,fun j hj=>by omega,Below.refl _ _⟩
 case round =>
  obtain ⟨k,hk,rfl,hz,hB⟩:=hrel
  by_cases hlt:k < xs.length
  ·have hz0:=hz;clear hz
   obtain ⟨b,off,_,F1,rfl,hx, -,ja⟩:=(h.below (by decide) hB).at k hlt
   obtain ⟨rfl,s1,rfl⟩:=id hx
   have a0:=ja 0 (by decide)
   have a1:=ja 1 (by decide)
   simp only [show ESlot.sz=2 from rfl,Nat.mul_one,Nat.add_zero,List.getElem?_cons_zero,List.getElem?_cons_succ] at a0 a1
   clear ja
   have hr:=hp k hlt wr _ _ hB ⟨_,rfl,hx⟩
   have hp:=Lib.hid hp
   cases hpk:p xs[k]
   all_goals
    rw [hpk] at hr
    have hpk:=Lib.hid hpk
    have hr:=Lib.hid hr
    go_wp2_with fail
    refine hbd.upon hr.out ?_
    rintro e w1 ⟨rfl,hb1⟩
    refine ⟨_,rfl,?_⟩
    have hB:=tr hB hb1 (Nat.le_refl _)
    clear hb1
    go_wp2_with fail
   ·exact ⟨⟨k+1,by omega,by go_num,fun j hj hl=>by rcases Nat.lt_or_eq_of_le (Nat.le_of_lt_succ hj) with h|h;exact hz0.out j h hl;subst h;exact hpk.out,hB⟩,by simp [intOf];omega⟩
   ·go_ret
    exact ⟨ret_int (fidx_hit hlt hz0.out hpk.out).symm,hB⟩
  ·go_wp2
   go_ret
   exact ⟨ret_int (fidx_none (fun j hj=>hz.out j (by omega) hj)).symm,hB⟩
theorem ContainsFunc_Slot (fid:FuncId) (hbd:Body Tryz.prog fid) (caps:Array Value) (v:Value) (xs:List Slot) (F:List Nat) (p:Slot→Bool) (w:World) (h:Sl ESlot w v xs F)
  (hp:∀(k:Nat) (hk:k < xs.length) (wr:World) (u:Value) (G:List Nat),Below w.heap.size w wr→IsV ESlot wr u xs[k] G→Calls Tryz.prog fid (#[u]++caps) wr fun e w'=>e=.returned (.bool (p xs[k]))∧Below wr.heap.size wr w') :
  Calls Tryz.prog 292 #[v,.func (.func fid) #[] caps] w fun e w'=>e=.returned (.bool (xs.any p))∧Below w.heap.size w w':=by
 have hp:=Lib.hid hp
 go_enter Tryz.func292,Tryz.ntmps292
 go_wp2_with fail
 refine (IndexFunc_Slot fid hbd caps v xs F p _ h hp.out).mono ?_
 rintro e w1 ⟨rfl,hb1⟩
 go_wp2_with fail
 go_ret
 exact ⟨ret_bool (fidx_any p xs),hb1⟩
theorem Clone_Slot (v:Value) (xs:List Slot) (F:List Nat) (w:World) (h:Sl ESlot w v xs F) (hm:xs.length≤4294967296) :
  Calls Tryz.prog 258 #[v] w (RetNew ESlot 247 xs w):=by
 obtain ⟨ao,c,news,Fy,rfl,hl,hfy,hFy,hsrc⟩:=h.src
 have hFl:=hfy.lt
 have he:=fun w (a:Option Addr) (n c:Nat)=>Lib.run_eql_slice_nil (P:=Tryz.prog) w 144 _ a n c 0 0 Tryz.underlying144
 go_enter Tryz.func258,Tryz.ntmps258
 rcases hsrc with ⟨rfl,rfl,rfl⟩|⟨ad,rfl,hn⟩
 ·go_wp2
  go_ret
  exact ⟨.slice none 0 0,[],rfl,.inl ⟨rfl,rfl,rfl⟩,by simp,by simp,Below.refl _ _⟩
 ·go_wp2_with (at_builtin;refine wpList_apd one_ESlot (by decide) (by rfl) _ _ _ (by rfl) 247 (.agg #[.bool false,.string ⟨#[]⟩]) 24 Tryz.underlying144 info_Slot rfl (.slice (some ⟨w.heap.size,0,none⟩) 0 0) [] [w.heap.size] (by rfl) (Ow.empty (Row.made _ _ _)) (Hd.one _) (some ad) xs c (by rfl) news Fy (hfy.frame fun b hb=>Below.heap_alloc _ _ _ (hFl b hb)) (.inr ⟨ad,rfl,fun j u hu=>kc ((Below.refl _ _).alloc (Nat.le_refl _) _) (hn j u hu)⟩) (fun b hb e=>by have:=hFl b hb;simp [Value.ownBlock] at e;omega) (by simpa using hl) (by unfold maxLen at hl;simp;omega) ?_)
  intro v2 w2 F2 hA
  go_wp2_with fail
  go_ret
  have hB:Below w.heap.size w w2:=((Below.refl _ _).alloc (Nat.le_refl _) _).trans (hA.keep.below (by simp) (by simp))
  have hs:∀b,v2.ownBlock=some b→w.heap.size≤b:=fun b hb=>by rcases hA.same with e|e <;> rw [e] at hb <;> simp [Value.ownBlock] at hb <;> omega
  refine ⟨v2,F2,rfl,by simpa using hA.ow,hA.ow.scal scal_ESlot▸?_,fun b hb=>?_,hB⟩
  ·cases v2.ownBlock <;> simp
  ·rw [hA.ow.scal scal_ESlot] at hb;exact hs b (by simpa using hb)
def okSlot (s:Slot):Bool:=itm s.item && (s.hav || decide (s.item=⟨#[]⟩))
def havAt (l:List Slot) (k:Nat):Bool:=match l[k]? with|some s=>s.hav|none=>false
def ends (l:List Slot):Bool:=decide (l.length=0) || (!havAt l 0 && havAt l (l.length - 1))
def goodRW (x:ReceiveWindow):Bool:=isSer x.next && decide ((x.slots.length:Int)≤8) && x.slots.all okSlot && ends x.slots
theorem havAt_lt {l:List Slot} {k:Nat} (h:k < l.length):havAt l k=l[k].hav:=by unfold havAt;rw [List.getElem?_eq_getElem h]
theorem havAt_ge {l:List Slot} {k:Nat} (h:l.length≤k):havAt l k=false:=by unfold havAt;rw [List.getElem?_eq_none h]
def hasB (x:ReceiveWindow) (k:Int):Bool:=havAt x.slots (gp x.next k).toNat
theorem RWhas_f (x:ReceiveWindow) (k:Int) (v:Value) (F:List Nat) (h0:0≤x.next) (h1:x.next≤65535) (h2:0≤k) (h3:k≤65535) :
  Fn Tryz.prog 246 [v,.int .i64 k] [.isv EReceiveWindow v x F] [] (fun (_:Unit)=>True) (fun _=>.bool (hasB x k)) (fun _=>[]):=by
 refine enter Tryz.func246 rfl Tryz.ntmps246 fun w0=>?_
 refine openReceiveWindow ?_
 rintro a1 c1 F1 rfl l1
 unfold maxLen at l1
 have hg:=gp_bd x.next k
 refine go ?_;intros
 refine ce (fun w s=>gap_c _ _ _ (by omega) (by omega) (by omega) (by omega)) ?_
 refine go ?_;intros
 refine wg_if rfl rfl (fun h=>?_) (fun h=>?_)
 ·refine atSlot (gp x.next k).toNat ?_
  rintro hi b o rfl s1
  refine go ?_;intros
  refine ret () trivial ?_
  unfold hasB;rw [havAt_lt hi];rfl
 ·refine go ?_;intros
  refine ret () trivial ?_
  unfold hasB;rw [havAt_ge (by omega)];rfl
theorem RWok_f (x:Slot) (v:Value) (F:List Nat):Fn Tryz.prog 293 [v] [.isv ESlot v x F] [] (fun (_:Unit)=>True) (fun _=>.bool (!okSlot x)) (fun _=>[]):=by
 refine enter Tryz.func293 rfl Tryz.ntmps293 fun w0=>?_
 refine openSlot ?_
 rintro _ rfl s1
 refine go ?_;intros
 refine cb (fun w s=>isItem_c _ _ s1) ?_
 cases g:itm x.item
 ·refine go ?_;intros
  refine ret () trivial ?_
  simp [okSlot,g,tup]
 refine go ?_;intros
 cases g2:x.hav
 ·refine go ?_;intros
  refine ret () trivial ?_
  simp [okSlot,g,g2,tup]
 ·refine go ?_;intros
  refine ret () trivial ?_
  simp [okSlot,g,g2,tup]
theorem RWgood_f (x:ReceiveWindow) (v:Value) (F:List Nat):Fn Tryz.prog 242 [v] [.isv EReceiveWindow v x F] [] (fun (_:Unit)=>True) (fun _=>.bool (goodRW x)) (fun _=>[]):=by
 refine enter Tryz.func242 rfl Tryz.ntmps242 fun w0=>?_
 refine openReceiveWindow ?_
 rintro a1 c1 F1 rfl l1
 unfold maxLen at l1
 refine go ?_;intros
 refine ce (fun w s=>IsSerial_c _ _) ?_
 cases g1:isSer x.next
 ·refine go ?_;intros
  refine ret () trivial ?_
  simp [goodRW,g1,tup]
 refine go ?_;intros
 refine c_if rfl (fun h=>?_) (fun h=>?_)
 ·refine go ?_;intros
  refine ret () trivial ?_
  simp [goodRW,g1,tup];omega
 refine go ?_;intros
 refine cb (fun w s=>ContainsFunc_Slot _ (.mk' Tryz.func293 rfl rfl) #[] _ x.slots F1 (fun s=>!okSlot s) _ (s.get (p:=.sl ESlot (.slice a1 x.slots.length c1) x.slots F1) (by simp)).2 ?_) ?_
 ·intro k hk wr u G _ hu
  exact (RWok_f x.slots[k] u G).val wr (hol1 hu)
 cases g2:x.slots.all okSlot
 ·have:(x.slots.any fun s=>!okSlot s)=true:=by rw [←List.not_all_eq_any_not,g2];rfl
  rw [this]
  refine go ?_;intros
  refine ret () trivial ?_
  simp [goodRW,g2,tup]
 have hx:(x.slots.any fun s=>!okSlot s)=false:=by rw [←List.not_all_eq_any_not,g2];rfl
 rw [hx]
 refine go ?_;intros
 have g3:goodRW x=ends x.slots:=by simp [goodRW,g1,g2];omega
 refine wg_if rfl rfl (fun h=>?_) (fun h=>?_)
 ·refine go ?_;intros
  refine ret () trivial ?_
  rw [g3];have:x.slots.length=0:=by omega
  simp [ends,this,tup]
 refine atSlot 0 ?_
 rintro hi b o rfl s1
 refine go ?_;intros
 cases g4:x.slots[0].hav
 rotate_left
 ·refine go ?_;intros
  refine ret () trivial ?_
  rw [g3];unfold ends;rw [havAt_lt hi,g4,decide_eq_false (by omega)];rfl
 refine atSlot (x.slots.length - 1) ?_
 rintro hi2 b2 o2 e s2
 cases e
 refine go ?_;intros
 have hl:((x.slots.length:Int) - 1).toNat=x.slots.length - 1:=by omega
 rw [hl]
 refine go ?_;intros
 refine ret () trivial ?_
 rw [g3];unfold ends;rw [havAt_lt hi,havAt_lt hi2,g4,decide_eq_false (by omega)];rfl
theorem itm_8 (s:ByteArray):(decide ((s.size:Int)≤8) && lows s.data.toList)=itm s:=rfl
theorem all_take_succ {α:Type} {p:α→Bool} {l:List α} {k:Nat} (h:k < l.length):(l.take (k+1)).all p=((l.take k).all p && p l[k]):=by
 rw [List.take_succ_eq_append_getElem h,List.all_append];simp
theorem all_of_not {α:Type} {p:α→Bool} {l:List α} {k:Nat} (h:k < l.length) (hp:p l[k]=false):l.all p=false:=by
 rw [List.all_eq_false];exact ⟨l[k],List.getElem_mem h,by simp [hp]⟩
theorem l10Good_f (x:ReceiveWindow) (v:Value) (F:List Nat):Fn Tryz.prog 218 [v] [.isv EReceiveWindow v x F] [] (fun (_:Unit)=>True) (fun _=>.bool (goodRW x)) (fun _=>[]):=by
 refine enter Tryz.func218 rfl Tryz.ntmps218 fun w0=>?_
 refine openReceiveWindow ?_
 rintro a1 c1 F1 rfl l1
 unfold maxLen at l1
 refine go ?_;intros
 refine ce (fun w s=>l2Good_c _ _) ?_
 cases g1:isSer x.next
 ·refine go ?_;intros
  refine ret () trivial ?_
  simp [goodRW,g1,tup]
 refine go ?_;intros
 refine c_if rfl (fun h=>?_) (fun h=>?_)
 ·refine go ?_;intros
  refine ret () trivial ?_
  simp [goodRW,g1,tup];omega
 refine go ?_;intros
 refine c_loopR [1,2,3] (fun k:Nat=>[(4,.int .i64 k)]) (fun k=>k≤x.slots.length∧(x.slots.take k).all okSlot=true) (fun k=>x.slots.length - k) 0 ⟨Nat.zero_le _,rfl⟩ fun k hk=>?_
 obtain ⟨hk1,hk2⟩:=hk
 refine go ?_;intros
 refine c_if rfl (fun h3=>?_) (fun h3=>?_)
 ·have hk3:k < x.slots.length:=by omega
  refine atSlot k ?_
  rintro hi b o e s1
  cases e
  refine go ?_;intros
  refine ce (fun w s=>l4Letters_c _ _ _ s1) ?_
  rw [itm_8]
  cases g2:itm x.slots[k].item
  ·refine go ?_;intros
   refine ret () trivial ?_
   have:x.slots.all okSlot=false:=all_of_not hk3 (by simp [okSlot,g2])
   simp [goodRW,this,tup]
  refine go ?_;intros
  cases g3:x.slots[k].hav
  rotate_left
  ·refine go ?_;intros
   refine n_lp (k+1) ⟨by omega,by rw [all_take_succ hk3,hk2];simp [okSlot,g2,g3]⟩ (by omega)
  refine go ?_;intros
  refine c_if rfl (fun g4=>?_) (fun g4=>?_)
  ·refine go ?_;intros
   refine ret () trivial ?_
   have:x.slots.all okSlot=false:=all_of_not hk3 (by simp [okSlot,g2,g3,g4])
   simp [goodRW,this,tup]
  ·refine go ?_;intros
   simp only [Decidable.not_not] at g4
   have ho:okSlot x.slots[k]=true:=by unfold okSlot;rw [g2,g3,decide_eq_true g4];rfl
   refine n_lp (k+1) ⟨by omega,by rw [all_take_succ hk3,hk2,ho];rfl⟩ (by omega)
 have hkl:k=x.slots.length:=by omega
 subst hkl
 rw [List.take_length] at hk2
 have g3:goodRW x=ends x.slots:=by simp [goodRW,g1,hk2];omega
 refine go ?_;intros
 refine wg_if rfl rfl (fun h4=>?_) (fun h4=>?_)
 ·refine go ?_;intros
  refine ret () trivial ?_
  rw [g3];have:x.slots.length=0:=by omega
  simp [ends,this,tup]
 refine atSlot 0 ?_
 rintro hi b o e s1
 cases e
 refine go ?_;intros
 cases g4:x.slots[0].hav
 rotate_left
 ·refine go ?_;intros
  refine ret () trivial ?_
  rw [g3];unfold ends;rw [havAt_lt hi,g4,decide_eq_false (by omega)];rfl
 refine atSlot (x.slots.length - 1) ?_
 rintro hi2 b2 o2 e s2
 cases e
 refine go ?_;intros
 have hl:((x.slots.length:Int) - 1).toNat=x.slots.length - 1:=by omega
 rw [hl]
 refine go ?_;intros
 refine ret () trivial ?_
 rw [g3];unfold ends;rw [havAt_lt hi,havAt_lt hi2,g4,decide_eq_false (by omega)];rfl
def plus (s:ByteArray):ByteArray:=⟨#[43]⟩++s
def minus:ByteArray:=⟨#[45]⟩
def shiftEv (l:List Slot):ByteArray:=match l with|[]=>minus|s::_=>if s.hav then plus s.item else minus
theorem shiftEv_t {l:List Slot} (hi:0 < l.length) (h:l[0].hav=true):shiftEv l=plus l[0].item:=by
 cases l with
 | nil=>simp at hi
 | cons s r=>simp at h;simp [shiftEv,h]
theorem shiftEv_f {l:List Slot} (hi:0 < l.length) (h:l[0].hav=false):shiftEv l=minus:=by
 cases l with
 | nil=>simp at hi
 | cons s r=>simp at h;simp [shiftEv,h]
def rel:Int→List Slot→Int × List Slot × List ByteArray
 | n,[]=>(n,[],[])
 | n,s::r=>if s.hav then ((rel (aft n 1) r).1,(rel (aft n 1) r).2.1,plus s.item::(rel (aft n 1) r).2.2) else (n,s::r,[])
theorem rel_no {n:Int} {l:List Slot} (h:havAt l 0=false):rel n l=(n,l,[]):=by
 cases l with
 | nil=>rfl
 | cons s r=>have:s.hav=false:=h;simp [rel,this]
theorem rel_yes {n:Int} {l:List Slot} (h:havAt l 0=true):rel n l=((rel (aft n 1) (l.drop 1)).1,(rel (aft n 1) (l.drop 1)).2.1,shiftEv l::(rel (aft n 1) (l.drop 1)).2.2):=by
 cases l with
 | nil=>cases h
 | cons s r=>have:s.hav=true:=h;simp [rel,shiftEv,this]
theorem rdRW {w:World} {a:Option Addr} {c:Nat} {x:ReceiveWindow} {F:List Nat} (h:(Pc.ow ESlot 247 (.slice a x.slots.length c) x.slots F).P w):∃F',(Pc.isv EReceiveWindow (.agg #[.int .i64 x.next,.slice a x.slots.length c]) x F').P w:=by
 obtain ⟨F', -,hs⟩:=h.2.read
 exact ⟨F',_,rfl,_,rfl,hs⟩
theorem RWclone_f (x:ReceiveWindow) (v:Value) (F:List Nat) (hl:x.slots.length≤4294967296):Fn Tryz.prog 189 [v] [.isv EReceiveWindow v x F] [] (fun (_:Option Addr × Nat × List Nat)=>True)
  (fun s=>.agg #[.int .i64 x.next,.slice s.1 x.slots.length s.2.1]) (fun s=>[.ow ESlot 247 (.slice s.1 x.slots.length s.2.1) x.slots s.2.2]):=by
 refine enter Tryz.func189 rfl Tryz.ntmps189 fun w0=>?_
 refine openReceiveWindow ?_
 rintro a1 c1 F1 rfl l1
 refine go ?_;intros
 refine cn (fun w s=>Clone_Slot _ _ _ _ (s.get (p:=.sl ESlot (.slice a1 x.slots.length c1) x.slots F1) (by simp)).2 hl) fun a cp F'=>?_
 refine go ?_;intros
 refine ret (a,cp,F') trivial rfl
theorem RWshift_f (x:ReceiveWindow) (g t o:Nat) (A B:List Value) (a:Option Addr) (cc:Nat) (F:List Nat) (h0:0≤x.next) (h1:x.next≤65535) (hl:x.slots.length≤4294967296) (hs:∀s∈x.slots,s.item.size≤8) :
  Fn Tryz.prog 274 [ptr g o 0] [] [.row g t o A [.int .i64 x.next,.slice a x.slots.length cc] B,.ow ESlot 247 (.slice a x.slots.length cc) x.slots F] (fun (_:Option Addr × Nat × List Nat)=>True)
   (fun _=>.string (shiftEv x.slots)) (fun s=>[.row g t o A [.int .i64 (aft x.next 1),.slice s.1 (x.slots.drop 1).length s.2.1] B,.ow ESlot 247 (.slice s.1 (x.slots.drop 1).length s.2.1) (x.slots.drop 1) s.2.2]):=by
 refine enter Tryz.func274 rfl Tryz.ntmps274 fun w0=>?_
 refine go ?_;intros
 refine c_if rfl (fun h=>?_) (fun h=>?_)
 ·refine t_read fun F'=>?_
  refine atSlot 0 ?_
  rintro hi b o2 e s1
  cases e
  refine go ?_;intros
  have s8:=hs _ (List.getElem_mem hi)
  have s9:(⟨#[43]⟩:ByteArray).size=1:=rfl
  cases g1:x.slots[0].hav
  ·refine go ?_;intros
   apply wO
   refine sld 1 fun a2 c2 F2=>?_
   refine go ?_;intros
   refine cn (fun w s=>Clone_Slot _ _ _ _ (s.get (p:=.sl ESlot (.slice a2 (x.slots.drop 1).length c2) (x.slots.drop 1) F2) (by simp)).2 (by simp;omega)) fun a3 c3 F3=>?_
   refine go ?_;intros
   refine ce (fun w s=>after_c _ _ _ (by omega) (by omega)) ?_
   refine go ?_;intros
   refine ret (a3,c3,F3) trivial ?_
   rw [shiftEv_f hi g1];rfl
  ·refine go ?_;intros
   apply wO
   refine sld 1 fun a2 c2 F2=>?_
   refine go ?_;intros
   refine cn (fun w s=>Clone_Slot _ _ _ _ (s.get (p:=.sl ESlot (.slice a2 (x.slots.drop 1).length c2) (x.slots.drop 1) F2) (by simp)).2 (by simp;omega)) fun a3 c3 F3=>?_
   refine go ?_;intros
   refine ce (fun w s=>after_c _ _ _ (by omega) (by omega)) ?_
   refine go ?_;intros
   refine ret (a3,c3,F3) trivial ?_
   rw [shiftEv_t hi g1];rfl
 ·obtain ⟨n,l⟩:=x
  obtain rfl:l=[]:=List.eq_nil_of_length_eq_zero (by simpa using h)
  refine go ?_;intros
  refine ce (fun w s=>after_c _ _ _ (by omega) (by omega)) ?_
  refine go ?_;intros
  refine ret (a,cc,F) trivial rfl
def relW (x:ReceiveWindow):ReceiveWindow:=⟨(rel x.next x.slots).1,(rel x.next x.slots).2.1⟩
def relE (x:ReceiveWindow):List ByteArray:=(rel x.next x.slots).2.2
def shW (x:ReceiveWindow):ReceiveWindow:=⟨aft x.next 1,x.slots.drop 1⟩
theorem rel_stop {x:ReceiveWindow} (h:havAt x.slots 0=false):relW x=x∧relE x=[]:=by unfold relW relE;rw [rel_no h];exact ⟨rfl,rfl⟩
theorem rel_go {x:ReceiveWindow} (h:havAt x.slots 0=true):relW x=relW (shW x)∧relE x=shiftEv x.slots::relE (shW x):=by unfold relW relE;rw [rel_yes h];exact ⟨rfl,rfl⟩
theorem shiftEv_size {l:List Slot} (h:∀s∈l,s.item.size≤8):(shiftEv l).size≤9:=by
 cases l with
 | nil=>decide
 | cons s r =>
  have:=h s (by simp)
  unfold shiftEv;dsimp only
  split
  ·unfold plus;rw [ByteArray.size_append];show 1+s.item.size≤9;omega
  ·decide
theorem hasB_next (y:ReceiveWindow):hasB y y.next=havAt y.slots 0:=by
 unfold hasB gp;rw [Int.sub_self];rfl
theorem rep_str (s:ByteArray) (h:s.size≤maxLen) (w:World):Flat EStr w [.string s] [s] []:=⟨_,[],[],[],by simp,by simp,⟨rfl,h,rfl⟩,rfl,rfl⟩
structure RelS where
 es:List ByteArray
 y:ReceiveWindow
 a:Option Addr
 c:Nat
 F:List Nat
 ae:Option Addr
 ce:Nat
 Fe:List Nat
structure RelOk (x:ReceiveWindow) (s:RelS):Prop where
 n0:0≤s.y.next
 n1:s.y.next≤65535
 it:∀z∈s.y.slots,z.item.size≤8
 ln:s.es.length+s.y.slots.length≤x.slots.length
 w:relW x=relW s.y
 e:relE x=s.es++relE s.y
theorem RWrelease_f (x:ReceiveWindow) (g t o:Nat) (A B:List Value) (a:Option Addr) (cc:Nat) (F:List Nat) (h0:0≤x.next) (h1:x.next≤65535) (hl:x.slots.length≤1000000) (hs:∀s∈x.slots,s.item.size≤8) :
  Fn Tryz.prog 275 [ptr g o 0] [] [.row g t o A [.int .i64 x.next,.slice a x.slots.length cc] B,.ow ESlot 247 (.slice a x.slots.length cc) x.slots F] (fun (s:RelS)=>s.y=relW x∧s.es=relE x)
   (fun s=>.slice s.ae s.es.length s.ce) (fun s=>[.row g t o A [.int .i64 s.y.next,.slice s.a s.y.slots.length s.c] B,.ow ESlot 247 (.slice s.a s.y.slots.length s.c) s.y.slots s.F,.ow EStr 9 (.slice s.ae s.es.length s.ce) s.es s.Fe]):=by
 refine enter Tryz.func275 rfl Tryz.ntmps275 fun w0=>?_
 refine go ?_;intros
 refine t_nilow EStr 9 ?_
 refine c_loopS [0,2] (fun s:RelS=>[(3,.slice s.ae s.es.length s.ce)]) (fun s=>[.row g t o A [.int .i64 s.y.next,.slice s.a s.y.slots.length s.c] B,.ow ESlot 247 (.slice s.a s.y.slots.length s.c) s.y.slots s.F,.ow EStr 9 (.slice s.ae s.es.length s.ce) s.es s.Fe]) (RelOk x) (fun s=>s.y.slots.length) ⟨[],x,a,cc,F,none,0,[]⟩ ⟨h0,h1,hs,by simp,rfl,rfl⟩ fun s hC=>?_
 obtain ⟨n0,n1,hit,hln,hw,he⟩:=hC
 refine go ?_;intros
 refine d_start [0] [] ?_
 refine dt4 0 1 2 3 ?_
 refine dt2 4 5 ?_
 refine dt 6 ?_
 refine dN 7 ?_
 refine oC ?_
 refine cb (fun w st=>by
  obtain ⟨F',h⟩:=rdRW (st.get (p:=.ow ESlot 247 (.slice s.a s.y.slots.length s.c) s.y.slots s.F) (by simp))
  exact (RWhas_f s.y s.y.next _ F' n0 n1 n0 n1).val w (hol1 h)) ?_
 refine dk ?_
 refine dd ?_
 rw [hasB_next]
 cases hv:havAt s.y.slots 0
 ·refine go ?_;intros
  refine ret s ⟨by rw [hw,(rel_stop hv).1],by rw [he,(rel_stop hv).2,List.append_nil]⟩ rfl
 refine go ?_;intros
 refine cf (RWshift_f s.y g t o A B s.a s.c s.F n0 n1 (by omega) hit) fun z _=>?_
 obtain ⟨az,cz,Fz⟩:=z
 refine t_app ?_
 have hsz:=shiftEv_size hit
 have hmx:(shiftEv s.y.slots).size≤maxLen:=by unfold maxLen;omega
 have hlt:0 < s.y.slots.length:=by
  rcases Nat.eq_zero_or_pos s.y.slots.length with h|h
  ·rw [havAt_ge (by omega)] at hv;cases hv
  ·exact h
 have hll:s.es.length+1≤1000000:=by omega
 refine go ?_;intros
 apply wO
 refine ap1 (rep_str _ hmx) one_EStr fun a' c' F'=>?_
 refine go ?_;intros
 refine n_lp ⟨s.es++[shiftEv s.y.slots],shW s.y,az,cz,Fz,a',c',F'⟩ ⟨(aft_bd _ _).1,(aft_bd _ _).2,fun z hz=>hit z (List.mem_of_mem_drop hz),by simp [shW];omega,by rw [hw,(rel_go hv).1],by rw [he,(rel_go hv).2];simp⟩ (by simp [shW];omega)
def zsl:Slot:=⟨false,⟨#[]⟩⟩
def padL (x:ReceiveWindow) (j:Nat):List Slot:=x.slots++List.replicate j zsl
theorem padL_len (x:ReceiveWindow) (j:Nat):(padL x j).length=x.slots.length+j:=by simp [padL]
def putL (x:ReceiveWindow) (k:Nat) (s:Slot):List Slot:=(padL x (k+1 - x.slots.length)).set k s
def takeNo (x:ReceiveWindow) (n:Int):Bool:=bef n x.next || hasB x n
def takeOk (x:ReceiveWindow) (n:Int):Bool:=takeNo x n || decide (gp x.next n < 8)
def putW (x:ReceiveWindow) (n:Int) (s:ByteArray):ReceiveWindow:=⟨x.next,putL x (gp x.next n).toNat ⟨true,s⟩⟩
def takeW (x:ReceiveWindow) (n:Int) (s:ByteArray):ReceiveWindow:=if takeNo x n || !decide (gp x.next n < 8) then x else relW (putW x n s)
def takeE (x:ReceiveWindow) (n:Int) (s:ByteArray):List ByteArray:=if takeNo x n || !decide (gp x.next n < 8) then [] else relE (putW x n s)
def stepsN (a b:Int):Nat:=if bef a b then (gp a b).toNat else 0
def giveW:Nat→ReceiveWindow→ReceiveWindow
 | 0,y=>y
 | k+1,y=>giveW k (shW y)
def giveE:Nat→ReceiveWindow→List ByteArray
 | 0,_=>[]
 | k+1,y=>shiftEv y.slots::giveE k (shW y)
theorem stepsN_no {a b:Int} (h:bef a b=false):stepsN a b=0:=by unfold stepsN;rw [h];rfl
theorem stepsN_yes {a b:Int} (h:bef a b=true):stepsN a b=stepsN (aft a 1) b+1:=by
 unfold stepsN
 rw [h]
 unfold bef btw gp aft at *
 simp only [Bool.and_eq_true,decide_eq_true_eq,if_true] at h ⊢
 split <;> omega
theorem stepsN_le (a b:Int):stepsN a b≤32767:=by
 unfold stepsN
 split
 ·rename_i h;unfold bef btw at h;simp only [Bool.and_eq_true,decide_eq_true_eq] at h;omega
 ·omega
theorem rep_slot (s:Slot) (h:s.item.size≤maxLen) (w:World):Flat ESlot w [.bool s.hav,.string s.item] [s] []:=⟨_,[],[],[],by simp,by simp,⟨rfl,h,rfl⟩,rfl,rfl⟩
theorem putL_items {x:ReceiveWindow} {k:Nat} (hs:∀s∈x.slots,s.item.size≤8) {s:Slot} (hi:s.item.size≤8):∀z∈putL x k s,z.item.size≤8:=fun z hz=>by
 unfold putL at hz
 rcases List.mem_or_eq_of_mem_set hz with h|rfl
 ·unfold padL at h
  rcases List.mem_append.1 h with h|h
  ·exact hs z h
  ·rw [(List.mem_replicate.1 h).2];decide
 ·exact hi
structure PadS where
 j:Nat
 a:Option Addr
 c:Nat
 F:List Nat
theorem RWtake_f (x:ReceiveWindow) (n:Int) (item:ByteArray) (g t o:Nat) (A B:List Value) (a:Option Addr) (cc:Nat) (F:List Nat) (h0:0≤x.next) (h1:x.next≤65535) (h2:0≤n) (h3:n≤65535) (hl:x.slots.length≤8) (hs:∀s∈x.slots,s.item.size≤8) (hi:item.size≤8) :
  Fn Tryz.prog 318 [ptr g o 0,.int .i64 n,.string item] [] [.row g t o A [.int .i64 x.next,.slice a x.slots.length cc] B,.ow ESlot 247 (.slice a x.slots.length cc) x.slots F] (fun (s:RelS)=>s.y=takeW x n item∧s.es=takeE x n item)
   (fun s=>.tuple #[.slice s.ae s.es.length s.ce,.bool (takeOk x n)]) (fun s=>[.row g t o A [.int .i64 s.y.next,.slice s.a s.y.slots.length s.c] B,.ow ESlot 247 (.slice s.a s.y.slots.length s.c) s.y.slots s.F,.ow EStr 9 (.slice s.ae s.es.length s.ce) s.es s.Fe]):=by
 have hg:=gp_bd x.next n
 refine enter Tryz.func318 rfl Tryz.ntmps318 fun w0=>?_
 refine go ?_;intros
 refine ce (fun w s=>isBefore_c _ _ _ (by omega) (by omega) (by omega) (by omega)) ?_
 cases g1:bef n x.next
 rotate_left
 ·refine go ?_;intros
  refine t_nilow EStr 9 ?_
  refine ret ⟨[],x,a,cc,F,none,0,[]⟩ ⟨by simp [takeW,takeNo,g1],by simp [takeE,takeNo,g1]⟩ ?_
  simp [takeOk,takeNo,g1,tup]
 refine go ?_;intros
 refine cb (fun w st=>by
  obtain ⟨F',h⟩:=rdRW (st.get (p:=.ow ESlot 247 (.slice a x.slots.length cc) x.slots F) (by simp))
  exact (RWhas_f x n _ F' h0 h1 h2 h3).val w (hol1 h)) ?_
 cases g2:hasB x n
 rotate_left
 ·refine go ?_;intros
  refine t_nilow EStr 9 ?_
  refine ret ⟨[],x,a,cc,F,none,0,[]⟩ ⟨by simp [takeW,takeNo,g1,g2],by simp [takeE,takeNo,g1,g2]⟩ ?_
  simp [takeOk,takeNo,g1,g2,tup]
 refine go ?_;intros
 refine ce (fun w s=>gap_c _ _ _ (by omega) (by omega) (by omega) (by omega)) ?_
 refine go ?_;intros
 refine c_if rfl (fun h8=>?_) (fun h8=>?_)
 ·refine go ?_;intros
  refine t_nilow EStr 9 ?_
  have h9:¬gp x.next n < 8:=by omega
  refine ret ⟨[],x,a,cc,F,none,0,[]⟩ ⟨by simp [takeW,h9],by simp [takeE,h9]⟩ ?_
  simp [takeOk,takeNo,g1,g2,h9,tup]
 have hW:takeW x n item=relW (putW x n item):=by unfold takeW takeNo;rw [g1,g2,decide_eq_true (by omega)];rfl
 have hE:takeE x n item=relE (putW x n item):=by unfold takeE takeNo;rw [g1,g2,decide_eq_true (by omega)];rfl
 have hO:takeOk x n=true:=by unfold takeOk;rw [decide_eq_true (show gp x.next n < 8 by omega)];simp
 unfold putW at hW hE
 obtain ⟨k,hk⟩:∃k:Nat,gp x.next n=k:=⟨(gp x.next n).toNat,by omega⟩
 rw [hk] at hW hE ⊢
 rw [Int.toNat_natCast] at hW hE
 refine go ?_;intros
 refine c_loopS [0,2,6,7,8] (fun s:PadS=>[]) (fun s=>[.row g t o A [.int .i64 x.next,.slice s.a (padL x s.j).length s.c] B,.ow ESlot 247 (.slice s.a (padL x s.j).length s.c) (padL x s.j) s.F]) (fun s=>s.j≤k+1 - x.slots.length) (fun s=>k+1 - x.slots.length - s.j) ⟨0,a,cc,F⟩ (Nat.zero_le _) (fun s hj=>?_) (hH:=by simp only [padL,List.replicate_zero,List.append_nil];exact picksE)
 have hpl:=padL_len x s.j
 refine go ?_;intros
 refine c_if rfl (fun h9=>?_) (fun h9=>?_)
 ·refine go ?_;intros
  apply wO
  refine ap1 (rep_slot zsl (by decide)) one_ESlot fun a' c' F'=>?_
  refine go ?_;intros
  have e:padL x s.j++[zsl]=padL x (s.j+1):=by simp [padL,List.replicate_succ']
  rw [e]
  refine n_lp ⟨s.j+1,a',c',F'⟩ (by show s.j+1≤_;omega) (by show _ - (s.j+1) < _;omega)
 have hjk:s.j=k+1 - x.slots.length:=by omega
 refine go ?_;intros
 have hkl:k < (padL x s.j).length:=by omega
 refine focSlot k ?_
 rintro hi2 g2 A2 B2 e eF hs2 hh
 rw [e]
 refine goN ?_;intros
 refine unfF (⟨true,item⟩:Slot) hh (fun w=>⟨rfl,by show item.size≤maxLen;unfold maxLen;omega,rfl⟩) ?_
 have hsl:(padL x s.j).length=((padL x s.j).set k ⟨true,item⟩).length:=by rw [List.length_set]
 rw [hsl]
 have hpu:(padL x s.j).set k ⟨true,item⟩=putL x k ⟨true,item⟩:=by unfold putL;rw [hjk]
 rw [hpu]
 have hpl2:(putL x k ⟨true,item⟩).length≤1000:=by unfold putL;rw [List.length_set,padL_len];omega
 have hps:=putL_items (x:=x) (k:=k) hs (s:=⟨true,item⟩) hi
 refine go ?_;intros
 refine cf (RWrelease_f ⟨x.next,putL x k ⟨true,item⟩⟩ g t o A B _ _ _ h0 h1 (by show (putL x k ⟨true,item⟩).length≤_;omega) hps) fun z hz=>?_
 refine t_app ?_
 refine go ?_;intros
 refine ret z ⟨by rw [hz.1,hW],by rw [hz.2,hE]⟩ ?_
 rw [hO];rfl
structure GiveOk (x:ReceiveWindow) (n:Int) (s:RelS):Prop where
 n0:0≤s.y.next
 n1:s.y.next≤65535
 it:∀z∈s.y.slots,z.item.size≤8
 ln:s.y.slots.length≤x.slots.length
 le:s.es.length+stepsN s.y.next n≤stepsN x.next n
 w:giveW (stepsN x.next n) x=giveW (stepsN s.y.next n) s.y
 e:giveE (stepsN x.next n) x=s.es++giveE (stepsN s.y.next n) s.y
theorem relE_len (x:ReceiveWindow):(relE x).length≤x.slots.length:=by
 unfold relE
 have:∀(l:List Slot) n,(rel n l).2.2.length≤l.length:=by
  intro l
  induction l with
  | nil=>intro n;simp [rel]
  | cons s r ih=>intro n;unfold rel;split;simp;exact ih _;simp
 exact this _ _
theorem RWgive_f (x:ReceiveWindow) (n:Int) (g t o:Nat) (A B:List Value) (a:Option Addr) (cc:Nat) (F:List Nat) (h0:0≤x.next) (h1:x.next≤65535) (h2:0≤n) (h3:n≤65535) (hl:x.slots.length≤8) (hs:∀s∈x.slots,s.item.size≤8) :
  Fn Tryz.prog 208 [ptr g o 0,.int .i64 n] [] [.row g t o A [.int .i64 x.next,.slice a x.slots.length cc] B,.ow ESlot 247 (.slice a x.slots.length cc) x.slots F] (fun (s:RelS)=>s.y=relW (giveW (stepsN x.next n) x)∧s.es=giveE (stepsN x.next n) x++relE (giveW (stepsN x.next n) x))
   (fun s=>.slice s.ae s.es.length s.ce) (fun s=>[.row g t o A [.int .i64 s.y.next,.slice s.a s.y.slots.length s.c] B,.ow ESlot 247 (.slice s.a s.y.slots.length s.c) s.y.slots s.F,.ow EStr 9 (.slice s.ae s.es.length s.ce) s.es s.Fe]):=by
 have hgn:=stepsN_le x.next n
 refine enter Tryz.func208 rfl Tryz.ntmps208 fun w0=>?_
 refine go ?_;intros
 refine t_nilow EStr 9 ?_
 refine c_loopS [0,1,4] (fun s:RelS=>[(5,.slice s.ae s.es.length s.ce)]) (fun s=>[.row g t o A [.int .i64 s.y.next,.slice s.a s.y.slots.length s.c] B,.ow ESlot 247 (.slice s.a s.y.slots.length s.c) s.y.slots s.F,.ow EStr 9 (.slice s.ae s.es.length s.ce) s.es s.Fe]) (GiveOk x n) (fun s=>stepsN s.y.next n) ⟨[],x,a,cc,F,none,0,[]⟩ ⟨h0,h1,hs,Nat.le_refl _,by simp,rfl,rfl⟩ fun s hC=>?_
 obtain ⟨n0,n1,hit,hln,hle,hw,he⟩:=hC
 refine go ?_;intros
 refine ce (fun w s=>isBefore_c _ _ _ (by omega) (by omega) (by omega) (by omega)) ?_
 cases hb:bef s.y.next n
 ·refine go ?_;intros
  rw [stepsN_no hb] at hw he
  refine cf (RWrelease_f s.y g t o A B s.a s.c s.F n0 n1 (by omega) hit) fun z hz=>?_
  refine t_app ?_
  refine go ?_;intros
  have hr:=relE_len s.y
  have hzl:z.es.length≤s.y.slots.length:=by rw [hz.2];exact hr
  refine t_read (xs:=z.es) fun F'=>?_
  apply wO
  refine aps one_EStr scal_EStr fun a' c' F2=>?_
  refine go ?_;intros
  refine ret ⟨s.es++z.es,z.y,z.a,z.c,z.F,a',c',F2⟩ ⟨by rw [hz.1,hw];rfl,by rw [hz.2,he,hw];simp [giveE,giveW]⟩ rfl
 have hst:=stepsN_yes hb
 refine go ?_;intros
 refine cf (RWshift_f s.y g t o A B s.a s.c s.F n0 n1 (by omega) hit) fun z _=>?_
 obtain ⟨az,cz,Fz⟩:=z
 refine t_app ?_
 have hsz:=shiftEv_size hit
 have hmx:(shiftEv s.y.slots).size≤maxLen:=by unfold maxLen;omega
 refine go ?_;intros
 apply wO
 refine ap1 (rep_str _ hmx) one_EStr fun a' c' F'=>?_
 refine go ?_;intros
 refine n_lp ⟨s.es++[shiftEv s.y.slots],shW s.y,az,cz,Fz,a',c',F'⟩ ⟨(aft_bd _ _).1,(aft_bd _ _).2,fun z hz=>hit z (List.mem_of_mem_drop hz),by simp [shW];omega,by simp [shW];omega,by rw [hw,hst];rfl,by rw [he,hst];simp [giveE,shW]⟩ (by show stepsN (aft s.y.next 1) n < _;omega)
def zRW:ReceiveWindow:=⟨0,[]⟩
def okTakeItem (x:ReceiveWindow) (n:Int) (s:ByteArray):Bool:=goodRW x && isSer n && itm s && takeOk x n
def resTakeItem (x:ReceiveWindow) (n:Int) (s:ByteArray):ReceiveWindow × List ByteArray × Bool:=if okTakeItem x n s then (takeW x n s,takeE x n s,true) else (zRW,[],false)
theorem okSlot_size {s:Slot} (h:okSlot s=true):s.item.size≤8:=by
 unfold okSlot itm at h
 simp only [Bool.and_eq_true,decide_eq_true_eq] at h
 omega
structure GoodRW (x:ReceiveWindow):Prop where
 n0:0≤x.next
 n1:x.next≤65535
 l:x.slots.length≤8
 it:∀s∈x.slots,s.item.size≤8
theorem good_of {x:ReceiveWindow} (h:goodRW x=true):GoodRW x:=by
 unfold goodRW at h
 simp only [Bool.and_eq_true,decide_eq_true_eq] at h
 have hs:=isSer_iff.1 h.1.1.1
 exact ⟨hs.1,hs.2,by omega,fun s hs=>okSlot_size (List.all_eq_true.1 h.1.2 s hs)⟩
theorem itm_size {s:ByteArray} (h:itm s=true):s.size≤8:=by unfold itm at h;simp only [Bool.and_eq_true,decide_eq_true_eq] at h;omega
structure CpS where
 g:Nat
 a:Option Addr
 c:Nat
 F:List Nat
theorem l10Release_f (x:ReceiveWindow) (v:Value) (F:List Nat) (h0:0≤x.next) (h1:x.next≤65535) (hl:x.slots.length≤1000000) (hs:∀s∈x.slots,s.item.size≤8) :
  Fn Tryz.prog 282 [v] [.isv EReceiveWindow v x F] [] (fun (s:RelS)=>s.y=relW x∧s.es=relE x)
   (fun s=>.tuple #[.agg #[.int .i64 s.y.next,.slice s.a s.y.slots.length s.c],.slice s.ae s.es.length s.ce]) (fun s=>[.isv EReceiveWindow (.agg #[.int .i64 s.y.next,.slice s.a s.y.slots.length s.c]) s.y s.F,.ow EStr 9 (.slice s.ae s.es.length s.ce) s.es s.Fe]):=by
 refine enter Tryz.func282 rfl Tryz.ntmps282 fun w0=>?_
 refine openReceiveWindow ?_
 rintro a1 c1 F1 rfl l1
 unfold maxLen at l1
 refine go ?_;intros
 refine c_joinS [2,3] [0] (fun s:CpS=>[(4,ptr s.g 0 0)]) (fun s=>[.row s.g 146 0 [] [.int .i64 x.next,.slice s.a x.slots.length s.c] [],.ow ESlot 247 (.slice s.a x.slots.length s.c) x.slots s.F]) (fun _=>True) ?_ fun s _=>?_
 ·refine d_start [0,1] [8] ?_
  refine dt4 0 1 3 4 ?_
  refine dM 2 7 ?_ ?_
  ·apply o_bs0;rfl;intro _
   refine t_emp ESlot ?_
   refine dk ?_
   refine dM 5 7 ?_ ?_
   ·refine aps one_ESlot scal_ESlot fun a2 c2 F2=>?_
    refine dk ?_
    refine dt 6 ?_
    refine dN 7 ?_
    apply o_alloc;rfl;intro _
    refine dk ?_
    refine dN 8 ?_
    refine oS ?_
    refine dkx ?_
    refine dd ?_
    refine n_join (⟨_,a2,c2,F2⟩:CpS) trivial
   ·apply o_alloc;rfl;intro _
    refine dk ?_
    refine dN 5 ?_
    refine aps one_ESlot scal_ESlot fun a2 c2 F2=>?_
    refine dk ?_
    refine dt 6 ?_
    refine dN 8 ?_
    refine oS ?_
    refine dkx ?_
    refine dd ?_
    refine n_join (⟨_,a2,c2,F2⟩:CpS) trivial
  ·apply o_alloc;rfl;intro _
   refine dk ?_
   refine dN 2 ?_
   apply o_bs0;rfl;intro _
   refine t_emp ESlot ?_
   refine dk ?_
   refine dN 5 ?_
   refine aps one_ESlot scal_ESlot fun a2 c2 F2=>?_
   refine dk ?_
   refine dt 6 ?_
   refine dN 8 ?_
   refine oS ?_
   refine dkx ?_
   refine dd ?_
   refine n_join (⟨_,a2,c2,F2⟩:CpS) trivial
 obtain ⟨gg,a2,c2,F2⟩:=s
 refine t_read (xs:=x.slots) fun F3=>?_
 refine go ?_;intros
 refine t_emp EStr ?_
 refine c_loopS [2,3,4] (fun s:RelS=>[(5,.slice s.ae s.es.length s.ce)]) (fun s=>[.row gg 146 0 [] [.int .i64 s.y.next,.slice s.a s.y.slots.length s.c] [],.sl ESlot (.slice s.a s.y.slots.length s.c) s.y.slots s.F,.ow EStr 9 (.slice s.ae s.es.length s.ce) s.es s.Fe]) (RelOk x) (fun s=>s.y.slots.length) ⟨[],x,a2,c2,F3,_,0,_⟩ ⟨h0,h1,hs,by simp,rfl,rfl⟩ fun s hC=>?_
 obtain ⟨n0,n1,hit,hln,hw,he⟩:=hC
 have stop:havAt s.y.slots 0=false→s.y=relW x∧s.es=relE x:=fun h=>⟨by rw [hw,(rel_stop h).1],by rw [he,(rel_stop h).2,List.append_nil]⟩
 refine go ?_;intros
 refine wg_if rfl rfl (fun h4=>?_) (fun h4=>?_)
 rotate_left
 ·refine go ?_;intros
  have hv:havAt s.y.slots 0=false:=havAt_ge (by omega)
  refine closeReceiveWindow s.y ?_
  refine ret s (stop hv) rfl
 refine atSlot 0 ?_
 rintro hi b o e s1
 rw [e]
 refine go ?_;intros
 cases g1:s.y.slots[0].hav
 ·refine go ?_;intros
  rw [←e]
  refine closeReceiveWindow s.y ?_
  refine ret s (stop (by rw [havAt_lt hi,g1])) rfl
 have hv:havAt s.y.slots 0=true:=by rw [havAt_lt hi,g1]
 have hz:=hit _ (List.getElem_mem hi)
 have h43:(⟨#[43]⟩:ByteArray).size=1:=rfl
 have hpl:(⟨#[43]⟩++s.y.slots[0].item:ByteArray)=shiftEv s.y.slots:=(shiftEv_t hi g1).symm
 have hmx:(shiftEv s.y.slots).size≤maxLen:=by have:=shiftEv_size hit;unfold maxLen;omega
 have hll:s.es.length+1≤1000000:=by omega
 refine go ?_;intros
 rw [hpl]
 apply wO
 refine ap1 (rep_str _ hmx) one_EStr fun a' c' F'=>?_
 refine go ?_;intros
 refine d_start [1,2] [7] ?_
 refine dt4 0 1 3 4 ?_
 refine dsld 5 1 fun a5 c5 F5=>?_
 refine dN 2 ?_
 refine oC ?_
 refine ce (fun w s=>l2After_c _ _ _ (by omega) (by omega)) ?_
 refine dk ?_
 refine dt 6 ?_
 refine dN 7 ?_
 refine oS ?_
 refine dkx ?_
 refine dd ?_
 refine go ?_;intros
 refine n_lp ⟨s.es++[shiftEv s.y.slots],shW s.y,a5,c5,F5,a',c',F'⟩ ⟨(aft_bd _ _).1,(aft_bd _ _).2,fun z hz=>hit z (List.mem_of_mem_drop hz),by simp [shW];omega,by rw [hw,(rel_go hv).1],by rw [he,(rel_go hv).2];simp⟩ (by simp [shW];omega)
theorem l10Reach_f (x:ReceiveWindow) (n:Int) (v:Value) (F:List Nat) (h0:0≤x.next) (h1:x.next≤65535) (h2:0≤n) (h3:n≤65535) (hl:x.slots.length≤8) :
  Fn Tryz.prog 284 [v,.int .i64 n] [.isv EReceiveWindow v x F] [] (fun (_:Unit)=>True) (fun _=>.bool (takeOk x n)) (fun _=>[]):=by
 have hg:=gp_bd x.next n
 have hh:¬gp x.next n < 8→hasB x n=false:=fun h=>havAt_ge (by omega)
 refine enter Tryz.func284 rfl Tryz.ntmps284 fun w0=>?_
 refine openReceiveWindow ?_
 rintro a1 c1 F1 rfl l1
 refine go ?_;intros
 refine ce (fun w s=>l2Before_c _ _ _ (by omega) (by omega)) ?_
 cases g1:bef n x.next
 ·refine go ?_;intros
  refine ce (fun w s=>l2Gap_c _ _ _ (by omega) (by omega)) ?_
  refine go ?_;intros
  refine ret () trivial ?_
  unfold takeOk takeNo
  rw [g1]
  by_cases h8:gp x.next n < 8
  ·simp [h8,tup]
  ·simp [h8,hh h8,tup]
 ·refine go ?_;intros
  refine ret () trivial ?_
  simp [takeOk,takeNo,g1,tup]
theorem l10Take_f (x:ReceiveWindow) (n:Int) (item:ByteArray) (v:Value) (F:List Nat) (h0:0≤x.next) (h1:x.next≤65535) (h2:0≤n) (h3:n≤65535) (hl:x.slots.length≤8) (hs:∀s∈x.slots,s.item.size≤8) (hi:item.size≤8) (hok:takeOk x n=true) :
  Fn Tryz.prog 285 [v,.int .i64 n,.string item] [.isv EReceiveWindow v x F] [] (fun (s:RelS)=>s.y=takeW x n item∧s.es=takeE x n item)
   (fun s=>.tuple #[.agg #[.int .i64 s.y.next,.slice s.a s.y.slots.length s.c],.slice s.ae s.es.length s.ce]) (fun s=>[.isv EReceiveWindow (.agg #[.int .i64 s.y.next,.slice s.a s.y.slots.length s.c]) s.y s.F,.ow EStr 9 (.slice s.ae s.es.length s.ce) s.es s.Fe]):=by
 have hg:=gp_bd x.next n
 refine enter Tryz.func285 rfl Tryz.ntmps285 fun w0=>?_
 refine openReceiveWindow ?_
 rintro a1 c1 F1 rfl l1
 refine go ?_;intros
 refine ce (fun w s=>l2Gap_c _ _ _ (by omega) (by omega)) ?_
 obtain ⟨k,hk⟩:∃k:Nat,gp x.next n=k:=⟨(gp x.next n).toNat,by omega⟩
 rw [hk]
 refine go ?_;intros
 refine c_joinS [1,2,3,6,7,8] [0,1,2] (fun s:CpS=>[(9,ptr s.g 0 0)]) (fun s=>[.row s.g 146 0 [] [.int .i64 x.next,.slice s.a x.slots.length s.c] [],.ow ESlot 247 (.slice s.a x.slots.length s.c) x.slots s.F]) (fun _=>True) ?_ fun s _=>?_
 ·refine d_start [0,1] [8] ?_
  refine dt4 0 1 3 4 ?_
  refine dM 2 7 ?_ ?_
  ·apply o_bs0;rfl;intro _
   refine t_emp ESlot ?_
   refine dk ?_
   refine dM 5 7 ?_ ?_
   ·refine aps one_ESlot scal_ESlot fun a2 c2 F2=>?_
    refine dk ?_
    refine dt 6 ?_
    refine dN 7 ?_
    apply o_alloc;rfl;intro _
    refine dk ?_
    refine dN 8 ?_
    refine oS ?_
    refine dkx ?_
    refine dd ?_
    refine n_join (⟨_,a2,c2,F2⟩:CpS) trivial
   ·apply o_alloc;rfl;intro _
    refine dk ?_
    refine dN 5 ?_
    refine aps one_ESlot scal_ESlot fun a2 c2 F2=>?_
    refine dk ?_
    refine dt 6 ?_
    refine dN 8 ?_
    refine oS ?_
    refine dkx ?_
    refine dd ?_
    refine n_join (⟨_,a2,c2,F2⟩:CpS) trivial
  ·apply o_alloc;rfl;intro _
   refine dk ?_
   refine dN 2 ?_
   apply o_bs0;rfl;intro _
   refine t_emp ESlot ?_
   refine dk ?_
   refine dN 5 ?_
   refine aps one_ESlot scal_ESlot fun a2 c2 F2=>?_
   refine dk ?_
   refine dt 6 ?_
   refine dN 8 ?_
   refine oS ?_
   refine dkx ?_
   refine dd ?_
   refine n_join (⟨_,a2,c2,F2⟩:CpS) trivial
 obtain ⟨gg,a2,c2,F2⟩:=s
 refine go ?_;intros
 refine ce (fun w s=>l2Before_c _ _ _ (by omega) (by omega)) ?_
 cases g1:bef n x.next
 rotate_left
 ·refine go ?_;intros
  refine t_emp EStr ?_
  refine t_read (xs:=x.slots) fun F3=>?_
  refine closeReceiveWindow x ?_
  refine ret ⟨[],x,a2,c2,F3,_,0,_⟩ ⟨by simp [takeW,takeNo,g1],by simp [takeE,takeNo,g1]⟩ rfl
 refine go ?_;intros
 refine wg_if rfl rfl (fun h4=>?_) (fun h4=>?_)
 ·refine atSlot k ?_
  rintro hi2 b2 o2 e s1
  cases e
  refine go ?_;intros
  cases g4:x.slots[k].hav
  rotate_left
  ·have hb:hasB x n=true:=by unfold hasB;rw [hk,Int.toNat_natCast,havAt_lt hi2];exact g4
   refine go ?_;intros
   refine t_emp EStr ?_
   refine t_read (xs:=x.slots) fun F3=>?_
   refine closeReceiveWindow x ?_
   refine ret ⟨[],x,a2,c2,F3,_,0,_⟩ ⟨by simp [takeW,takeNo,hb],by simp [takeE,takeNo,hb]⟩ rfl
  have hpad:hasB x n=false:=by unfold hasB;rw [hk,Int.toNat_natCast,havAt_lt hi2];exact g4
  have hno:takeNo x n=false:=by unfold takeNo;rw [g1,hpad];rfl
  have h8:gp x.next n < 8:=by unfold takeOk at hok;rw [hno] at hok;simpa using hok
  have hW:takeW x n item=relW (putW x n item):=by unfold takeW;rw [hno,decide_eq_true h8];rfl
  have hE:takeE x n item=relE (putW x n item):=by unfold takeE;rw [hno,decide_eq_true h8];rfl
  unfold putW at hW hE
  rw [hk,Int.toNat_natCast] at hW hE
  refine go ?_;intros
  refine c_loopS [2,6,7,8,9] (fun s:PadS=>[]) (fun s=>[.row gg 146 0 [] [.int .i64 x.next,.slice s.a (padL x s.j).length s.c] [],.ow ESlot 247 (.slice s.a (padL x s.j).length s.c) (padL x s.j) s.F]) (fun s=>s.j≤k+1 - x.slots.length) (fun s=>k+1 - x.slots.length - s.j) ⟨0,a2,c2,F2⟩ (Nat.zero_le _) (fun s hj=>?_) (hH:=by simp only [padL,List.replicate_zero,List.append_nil];exact picksE)
  have hpl:=padL_len x s.j
  refine go ?_;intros
  refine c_if rfl (fun h9=>?_) (fun h9=>?_)
  ·refine go ?_;intros
   apply wO
   refine ap1 (rep_slot zsl (by decide)) one_ESlot fun a' c' F'=>?_
   refine go ?_;intros
   have e:padL x s.j++[zsl]=padL x (s.j+1):=by simp [padL,List.replicate_succ']
   rw [e]
   refine n_lp ⟨s.j+1,a',c',F'⟩ (by show s.j+1≤_;omega) (by show _ - (s.j+1) < _;omega)
  have hjk:s.j=k+1 - x.slots.length:=by omega
  refine go ?_;intros
  have hkl:k < (padL x s.j).length:=by omega
  refine focSlot k ?_
  rintro hi2 g2 A2 B2 e eF hs2 hh
  rw [e]
  refine goN ?_;intros
  refine unfF (⟨true,item⟩:Slot) hh (fun w=>⟨rfl,by show item.size≤maxLen;unfold maxLen;omega,rfl⟩) ?_
  have hsl:(padL x s.j).length=((padL x s.j).set k ⟨true,item⟩).length:=by rw [List.length_set]
  rw [hsl]
  have hpu:(padL x s.j).set k ⟨true,item⟩=putL x k ⟨true,item⟩:=by unfold putL;rw [hjk]
  rw [hpu]
  have hpl2:(putL x k ⟨true,item⟩).length≤1000:=by unfold putL;rw [List.length_set,padL_len];omega
  have hps:=putL_items (x:=x) (k:=k) hs (s:=⟨true,item⟩) hi
  refine t_read (xs:=putL x k ⟨true,item⟩) fun F4=>?_
  refine closeReceiveWindow ⟨x.next,putL x k ⟨true,item⟩⟩ ?_
  refine go ?_;intros
  refine cf (l10Release_f ⟨x.next,putL x k ⟨true,item⟩⟩ _ _ h0 h1 (by show (putL x k ⟨true,item⟩).length≤_;omega) hps) fun z hz=>?_
  refine t_app ?_
  refine go ?_;intros
  refine ret z ⟨by rw [hz.1,hW],by rw [hz.2,hE]⟩ rfl
 ·have hpad:hasB x n=false:=havAt_ge (by omega)
  have hno:takeNo x n=false:=by unfold takeNo;rw [g1,hpad];rfl
  have h8:gp x.next n < 8:=by unfold takeOk at hok;rw [hno] at hok;simpa using hok
  have hW:takeW x n item=relW (putW x n item):=by unfold takeW;rw [hno,decide_eq_true h8];rfl
  have hE:takeE x n item=relE (putW x n item):=by unfold takeE;rw [hno,decide_eq_true h8];rfl
  unfold putW at hW hE
  rw [hk,Int.toNat_natCast] at hW hE
  refine go ?_;intros
  refine c_loopS [2,6,7,8,9] (fun s:PadS=>[]) (fun s=>[.row gg 146 0 [] [.int .i64 x.next,.slice s.a (padL x s.j).length s.c] [],.ow ESlot 247 (.slice s.a (padL x s.j).length s.c) (padL x s.j) s.F]) (fun s=>s.j≤k+1 - x.slots.length) (fun s=>k+1 - x.slots.length - s.j) ⟨0,a2,c2,F2⟩ (Nat.zero_le _) (fun s hj=>?_) (hH:=by simp only [padL,List.replicate_zero,List.append_nil];exact picksE)
  have hpl:=padL_len x s.j
  refine go ?_;intros
  refine c_if rfl (fun h9=>?_) (fun h9=>?_)
  ·refine go ?_;intros
   apply wO
   refine ap1 (rep_slot zsl (by decide)) one_ESlot fun a' c' F'=>?_
   refine go ?_;intros
   have e:padL x s.j++[zsl]=padL x (s.j+1):=by simp [padL,List.replicate_succ']
   rw [e]
   refine n_lp ⟨s.j+1,a',c',F'⟩ (by show s.j+1≤_;omega) (by show _ - (s.j+1) < _;omega)
  have hjk:s.j=k+1 - x.slots.length:=by omega
  refine go ?_;intros
  have hkl:k < (padL x s.j).length:=by omega
  refine focSlot k ?_
  rintro hi2 g2 A2 B2 e eF hs2 hh
  rw [e]
  refine goN ?_;intros
  refine unfF (⟨true,item⟩:Slot) hh (fun w=>⟨rfl,by show item.size≤maxLen;unfold maxLen;omega,rfl⟩) ?_
  have hsl:(padL x s.j).length=((padL x s.j).set k ⟨true,item⟩).length:=by rw [List.length_set]
  rw [hsl]
  have hpu:(padL x s.j).set k ⟨true,item⟩=putL x k ⟨true,item⟩:=by unfold putL;rw [hjk]
  rw [hpu]
  have hpl2:(putL x k ⟨true,item⟩).length≤1000:=by unfold putL;rw [List.length_set,padL_len];omega
  have hps:=putL_items (x:=x) (k:=k) hs (s:=⟨true,item⟩) hi
  refine t_read (xs:=putL x k ⟨true,item⟩) fun F4=>?_
  refine closeReceiveWindow ⟨x.next,putL x k ⟨true,item⟩⟩ ?_
  refine go ?_;intros
  refine cf (l10Release_f ⟨x.next,putL x k ⟨true,item⟩⟩ _ _ h0 h1 (by show (putL x k ⟨true,item⟩).length≤_;omega) hps) fun z hz=>?_
  refine t_app ?_
  refine go ?_;intros
  refine ret z ⟨by rw [hz.1,hW],by rw [hz.2,hE]⟩ rfl
theorem l10GiveUp_f (x:ReceiveWindow) (n:Int) (v:Value) (F:List Nat) (h0:0≤x.next) (h1:x.next≤65535) (h2:0≤n) (h3:n≤65535) (hl:x.slots.length≤8) (hs:∀s∈x.slots,s.item.size≤8) :
  Fn Tryz.prog 225 [v,.int .i64 n] [.isv EReceiveWindow v x F] [] (fun (s:RelS)=>s.y=relW (giveW (stepsN x.next n) x)∧s.es=giveE (stepsN x.next n) x++relE (giveW (stepsN x.next n) x))
   (fun s=>.tuple #[.agg #[.int .i64 s.y.next,.slice s.a s.y.slots.length s.c],.slice s.ae s.es.length s.ce]) (fun s=>[.isv EReceiveWindow (.agg #[.int .i64 s.y.next,.slice s.a s.y.slots.length s.c]) s.y s.F,.ow EStr 9 (.slice s.ae s.es.length s.ce) s.es s.Fe]):=by
 have hgn:=stepsN_le x.next n
 refine enter Tryz.func225 rfl Tryz.ntmps225 fun w0=>?_
 refine openReceiveWindow ?_
 rintro a1 c1 F1 rfl l1
 refine go ?_;intros
 refine c_joinS [1,4,5] [0] (fun s:CpS=>[(6,ptr s.g 0 0)]) (fun s=>[.row s.g 146 0 [] [.int .i64 x.next,.slice s.a x.slots.length s.c] [],.ow ESlot 247 (.slice s.a x.slots.length s.c) x.slots s.F]) (fun _=>True) ?_ fun s _=>?_
 ·refine d_start [0,1] [8] ?_
  refine dt4 0 1 3 4 ?_
  refine dM 2 7 ?_ ?_
  ·apply o_bs0;rfl;intro _
   refine t_emp ESlot ?_
   refine dk ?_
   refine dM 5 7 ?_ ?_
   ·refine aps one_ESlot scal_ESlot fun a2 c2 F2=>?_
    refine dk ?_
    refine dt 6 ?_
    refine dN 7 ?_
    apply o_alloc;rfl;intro _
    refine dk ?_
    refine dN 8 ?_
    refine oS ?_
    refine dkx ?_
    refine dd ?_
    refine n_join (⟨_,a2,c2,F2⟩:CpS) trivial
   ·apply o_alloc;rfl;intro _
    refine dk ?_
    refine dN 5 ?_
    refine aps one_ESlot scal_ESlot fun a2 c2 F2=>?_
    refine dk ?_
    refine dt 6 ?_
    refine dN 8 ?_
    refine oS ?_
    refine dkx ?_
    refine dd ?_
    refine n_join (⟨_,a2,c2,F2⟩:CpS) trivial
  ·apply o_alloc;rfl;intro _
   refine dk ?_
   refine dN 2 ?_
   apply o_bs0;rfl;intro _
   refine t_emp ESlot ?_
   refine dk ?_
   refine dN 5 ?_
   refine aps one_ESlot scal_ESlot fun a2 c2 F2=>?_
   refine dk ?_
   refine dt 6 ?_
   refine dN 8 ?_
   refine oS ?_
   refine dkx ?_
   refine dd ?_
   refine n_join (⟨_,a2,c2,F2⟩:CpS) trivial
 obtain ⟨gg,a2,c2,F2⟩:=s
 refine t_read (xs:=x.slots) fun F3=>?_
 refine go ?_;intros
 refine t_emp EStr ?_
 refine c_loopS [1,4,5,6] (fun s:RelS=>[(7,.slice s.ae s.es.length s.ce)]) (fun s=>[.row gg 146 0 [] [.int .i64 s.y.next,.slice s.a s.y.slots.length s.c] [],.sl ESlot (.slice s.a s.y.slots.length s.c) s.y.slots s.F,.ow EStr 9 (.slice s.ae s.es.length s.ce) s.es s.Fe]) (GiveOk x n) (fun s=>stepsN s.y.next n) ⟨[],x,a2,c2,F3,_,0,_⟩ ⟨h0,h1,hs,Nat.le_refl _,by simp,rfl,rfl⟩ fun s hC=>?_
 obtain ⟨n0,n1,hit,hln,hle,hw,he⟩:=hC
 refine go ?_;intros
 refine ce (fun w s=>l2Before_c _ _ _ (by omega) (by omega)) ?_
 cases hb:bef s.y.next n
 ·refine goN ?_;intros
  refine closeReceiveWindow s.y ?_
  refine go ?_;intros
  rw [stepsN_no hb] at hw he
  refine cf (l10Release_f s.y _ _ n0 n1 (by omega) hit) fun z hz=>?_
  refine t_app ?_
  refine go ?_;intros
  have hr:=relE_len s.y
  have hzl:z.es.length≤s.y.slots.length:=by rw [hz.2];exact hr
  refine t_read (xs:=z.es) fun F'=>?_
  refine d_start [1] [] ?_
  refine dt2 0 1 ?_
  refine dt 2 ?_
  refine dN 3 ?_
  refine aps one_EStr scal_EStr fun a' c' F2=>?_
  refine dk ?_
  refine dN 4 ?_
  refine oS ?_
  refine dk ?_
  refine dt 5 ?_
  refine dd ?_
  refine go ?_;intros
  refine ret ⟨s.es++z.es,z.y,z.a,z.c,z.F,a',c',F2⟩ ⟨by rw [hz.1,hw];rfl,by rw [hz.2,he,hw];simp [giveE,giveW]⟩ rfl
 have hst:=stepsN_yes hb
 have hmx:(shiftEv s.y.slots).size≤maxLen:=by have:=shiftEv_size hit;unfold maxLen;omega
 refine go ?_;intros
 refine t_emp ESlot ?_
 refine c_if rfl (fun h4=>?_) (fun h4=>?_)
 ·refine atSlot 0 ?_
  rintro hi b o e s1
  rw [e]
  refine go ?_;intros
  cases g1:s.y.slots[0].hav
  ·have hpl1:(⟨#[45]⟩:ByteArray)=shiftEv s.y.slots:=(shiftEv_f hi g1).symm
   refine go ?_;intros
   apply wO
   refine sld 1 fun a5 c5 F5=>?_
   refine go ?_;intros
   rw [hpl1]
   apply wO
   refine ap1 (rep_str _ hmx) one_EStr fun a' c' F'=>?_
   refine go ?_;intros
   refine ce (fun w s=>l2After_c _ _ _ (by omega) (by omega)) ?_
   refine go ?_;intros
   refine n_lp ⟨s.es++[shiftEv s.y.slots],shW s.y,a5,c5,F5,a',c',F'⟩ ⟨(aft_bd _ _).1,(aft_bd _ _).2,fun z hz=>hit z (List.mem_of_mem_drop hz),by simp [shW];omega,by simp [shW];omega,by rw [hw,hst];rfl,by rw [he,hst];simp [giveE,shW]⟩ (by show stepsN (aft s.y.next 1) n < _;omega)
  ·have hz:=hit _ (List.getElem_mem hi)
   have h43:(⟨#[43]⟩:ByteArray).size=1:=rfl
   have hpl2:(⟨#[43]⟩++s.y.slots[0].item:ByteArray)=shiftEv s.y.slots:=(shiftEv_t hi g1).symm
   refine go ?_;intros
   apply wO
   refine sld 1 fun a5 c5 F5=>?_
   refine go ?_;intros
   rw [hpl2]
   apply wO
   refine ap1 (rep_str _ hmx) one_EStr fun a' c' F'=>?_
   refine go ?_;intros
   refine ce (fun w s=>l2After_c _ _ _ (by omega) (by omega)) ?_
   refine go ?_;intros
   refine n_lp ⟨s.es++[shiftEv s.y.slots],shW s.y,a5,c5,F5,a',c',F'⟩ ⟨(aft_bd _ _).1,(aft_bd _ _).2,fun z hz=>hit z (List.mem_of_mem_drop hz),by simp [shW];omega,by simp [shW];omega,by rw [hw,hst];rfl,by rw [he,hst];simp [giveE,shW]⟩ (by show stepsN (aft s.y.next 1) n < _;omega)
 ·have hnil:s.y.slots=[]:=List.eq_nil_of_length_eq_zero (by omega)
  have hpl3:(⟨#[45]⟩:ByteArray)=shiftEv s.y.slots:=by rw [hnil];rfl
  have hd:([]:List Slot)=s.y.slots.drop 1:=by rw [hnil];rfl
  ·refine go ?_;intros
   refine t_read (E:=ESlot) (xs:=[]) fun F6=>?_
   rw [show (Value.slice (some _) 0 0:Value)=Value.slice _ ([]:List Slot).length 0 from rfl]
   rw [hpl3]
   apply wO
   refine ap1 (rep_str _ hmx) one_EStr fun a' c' F'=>?_
   refine go ?_;intros
   refine ce (fun w s=>l2After_c _ _ _ (by omega) (by omega)) ?_
   refine go ?_;intros
   rw [hd]
   refine n_lp ⟨s.es++[shiftEv s.y.slots],shW s.y,_,0,F6,a',c',F'⟩ ⟨(aft_bd _ _).1,(aft_bd _ _).2,fun z hz=>hit z (List.mem_of_mem_drop hz),by simp [shW];omega,by simp [shW];omega,by rw [hw,hst];rfl,by rw [he,hst];simp [giveE,shW]⟩ (by show stepsN (aft s.y.next 1) n < _;omega)
end Go.Proofs.YtgmbfohkpfineaaGreatDoor
namespace Go.Proofs.YtgmbfohkpfineaaGreatDoor

open Go.RowKit
end Go.Proofs.YtgmbfohkpfineaaGreatDoor
namespace Go.Proofs.YtgmbfohkpfineaaGreatDoor
open Go.RowKit
theorem l10Have_f (x:ReceiveWindow) (n:Int) (v:Value) (F:List Nat) (h0:0≤x.next) (h1:x.next≤65535) (h2:0≤n) (h3:n≤65535) :
  Fn Tryz.prog 220 [v,.int .i64 n] [.isv EReceiveWindow v x F] [] (fun (_:Unit)=>True) (fun _=>.bool (takeNo x n)) (fun _=>[]):=by
 have hg:=gp_bd x.next n
 refine enter Tryz.func220 rfl Tryz.ntmps220 fun w0=>?_
 refine openReceiveWindow ?_
 rintro a1 c1 F1 rfl l1
 refine go ?_;intros
 refine ce (fun w s=>l2Gap_c _ _ _ (by omega) (by omega)) ?_
 obtain ⟨k,hk⟩:∃k:Nat,gp x.next n=k:=⟨(gp x.next n).toNat,by omega⟩
 have hh:hasB x n=havAt x.slots k:=by unfold hasB;rw [hk,Int.toNat_natCast]
 rw [hk]
 refine go ?_;intros
 refine ce (fun w s=>l2Before_c _ _ _ (by omega) (by omega)) ?_
 cases g1:bef n x.next
 ·refine go ?_;intros
  refine wg_if rfl rfl (fun h4=>?_) (fun h4=>?_)
  ·refine atSlot (xs:=x.slots) k ?_
   rintro hi2 b2 o2 e s1
   rw [e]
   refine go ?_;intros
   refine ret () trivial ?_
   simp [takeNo,g1,hh,havAt_lt hi2,tup]
  ·refine go ?_;intros
   refine ret () trivial ?_
   simp [takeNo,g1,hh,havAt_ge (show x.slots.length≤k by omega),tup]
 ·refine go ?_;intros
  refine ret () trivial ?_
  simp [takeNo,g1,tup]
theorem aft_aftN (n:Int) (j:Nat):aft (aft n 1) j=aft n ((j+1:Nat):Int):=by unfold aft;omega
theorem aft_zeroN {n:Int} (h0:0≤n) (h1:n≤65535):aft n ((0:Nat):Int)=n:=by unfold aft;omega
theorem rel_next:∀(l:List Slot) (n:Int),0≤n→n≤65535→(rel n l).1=aft n ((rel n l).2.2.length:Nat)
 | [],n,h0,h1=>(aft_zeroN h0 h1).symm
 | s::r,n,h0,h1=>by
  have ih:=rel_next r (aft n 1) (aft_bd _ _).1 (aft_bd _ _).2
  unfold rel
  split
  ·dsimp only
   rw [ih,aft_aftN,List.length_cons]
  ·exact (aft_zeroN h0 h1).symm
theorem give_next:∀(k:Nat) (x:ReceiveWindow),0≤x.next→x.next≤65535→(giveW k x).next=aft x.next (k:Nat)∧0≤(giveW k x).next∧(giveW k x).next≤65535
 | 0,x,h0,h1=>⟨(aft_zeroN h0 h1).symm,h0,h1⟩
 | k+1,x,h0,h1=>by
  obtain ⟨a,b,c⟩:=give_next k (shW x) (aft_bd _ _).1 (aft_bd _ _).2
  unfold giveW
  exact ⟨by rw [a];show aft (aft x.next 1) k=_;rw [aft_aftN],b,c⟩
theorem aft_add (n:Int) (i j:Nat):aft (aft n i) j=aft n ((i+j:Nat):Int):=by unfold aft;omega
theorem giveUp_next (k:Nat) (x:ReceiveWindow) (h0:0≤x.next) (h1:x.next≤65535):(relW (giveW k x)).next=aft x.next ((giveE k x++relE (giveW k x)).length:Nat):=by
 obtain ⟨a,b,c⟩:=give_next k x h0 h1
 have d:(relW (giveW k x)).next=aft (giveW k x).next ((relE (giveW k x)).length:Nat):=rel_next (giveW k x).slots (giveW k x).next b c
 have e:∀(k:Nat) (x:ReceiveWindow),(giveE k x).length=k:=by
  intro k
  induction k with
  | zero=>intro x;rfl
  | succ k ih=>intro x;unfold giveE;rw [List.length_cons,ih]
 rw [d,a,aft_add,List.length_append,e]
theorem gp_aft (n:Int) (j:Nat) (hj:j≤65535):gp n (aft n j)=j:=by unfold gp aft;omega
theorem rel_drop:∀(l:List Slot) (n:Int),(rel n l).2.1=l.drop (rel n l).2.2.length∧havAt (rel n l).2.1 0=false
 | [],n=>⟨rfl,rfl⟩
 | s::r,n=>by
  have ih:=rel_drop r (aft n 1)
  unfold rel
  split
  ·dsimp only
   rw [List.length_cons,List.drop_succ_cons]
   exact ih
  ·rename_i h
   exact ⟨rfl,by simpa [havAt] using h⟩
theorem giveW_drop:∀(k:Nat) (x:ReceiveWindow),(giveW k x).slots=x.slots.drop k
 | 0,_=>rfl
 | k+1,x=>by unfold giveW;rw [giveW_drop k (shW x)];simp [shW,Nat.add_comm]
theorem havAt_drop (l:List Slot) (m i:Nat):havAt (l.drop m) i=havAt l (m+i):=by unfold havAt;rw [List.getElem?_drop]
theorem giveUp_good (k:Nat) (x:ReceiveWindow) (hg:goodRW x=true):goodRW (relW (giveW k x))=true:=by
 have g:=good_of hg
 unfold goodRW at hg
 simp only [Bool.and_eq_true,decide_eq_true_eq] at hg
 obtain ⟨⟨⟨h1,h2⟩,h3⟩,h4⟩:=hg
 obtain ⟨d1,d2⟩:=rel_drop (giveW k x).slots (giveW k x).next
 rw [giveW_drop,List.drop_drop] at d1
 have hs:(relW (giveW k x)).slots=x.slots.drop (k+(rel (giveW k x).next (x.slots.drop k)).2.2.length):=by
  unfold relW;dsimp only;rw [giveW_drop,d1]
 have hn:=giveUp_next k x g.n0 g.n1
 generalize k+(rel (giveW k x).next (x.slots.drop k)).2.2.length=m at hs
 have h0:havAt (relW (giveW k x)).slots 0=false:=d2
 rw [hs] at h0
 have e1:isSer (relW (giveW k x)).next=true:=by rw [hn];exact aft_ser _ _
 have e2:(x.slots.drop m).all okSlot=true:=List.all_eq_true.2 fun z hz=>List.all_eq_true.1 h3 z (List.mem_of_mem_drop hz)
 have e3:ends (x.slots.drop m)=true:=by
  unfold ends
  by_cases hz:(x.slots.drop m).length=0
  ·rw [decide_eq_true hz];rfl
  ·rw [decide_eq_false hz,h0,havAt_drop]
   unfold ends at h4
   rw [List.length_drop] at hz ⊢
   rw [decide_eq_false (show ¬x.slots.length=0 by omega)] at h4
   simp only [Bool.false_or,Bool.and_eq_true] at h4
   rw [show m+(x.slots.length - m - 1)=x.slots.length - 1 by omega,h4.2]
   rfl
 unfold goodRW
 rw [e1,hs,e2,e3,decide_eq_true (by simp;omega)]
 rfl
theorem good_first {x:ReceiveWindow} (hg:goodRW x=true):havAt x.slots 0=false:=by
 unfold goodRW ends at hg
 simp only [Bool.and_eq_true,Bool.or_eq_true,decide_eq_true_eq,Bool.not_eq_true'] at hg
 rcases hg.2 with h|h
 ·exact havAt_ge (by omega)
 ·exact h.1
theorem relE_le (x:ReceiveWindow):(relE x).length≤x.slots.length:=by
 unfold relE
 have:∀(l:List Slot) n,(rel n l).2.2.length≤l.length:=by
  intro l
  induction l with
  | nil=>intro n;exact Nat.le_refl _
  | cons s r ih =>
   intro n
   unfold rel
   split
   ·dsimp only;rw [List.length_cons,List.length_cons];exact Nat.succ_le_succ (ih _)
   ·exact Nat.zero_le _
 exact this _ _
theorem havAt_set (l:List Slot) (k i:Nat) (s:Slot) (hk:k < l.length):havAt (l.set k s) i=if i=k then s.hav else havAt l i:=by
 unfold havAt
 rw [List.getElem?_set]
 by_cases h:k=i
 ·subst h;simp [hk]
 ·rw [if_neg h,if_neg (fun e=>h e.symm)]
theorem putL_len (x:ReceiveWindow) (k:Nat) (s:Slot):(putL x k s).length=max x.slots.length (k+1):=by
 unfold putL;rw [List.length_set,padL_len];omega
theorem putL_at (x:ReceiveWindow) (k:Nat) (s:Slot):havAt (putL x k s) k=s.hav:=by
 unfold putL;rw [havAt_set _ _ _ _ (by rw [padL_len];omega),if_pos rfl]
theorem putL_get (x:ReceiveWindow) (k:Nat) (s:Slot):(putL x k s)[k]?=some s:=by
 unfold putL;rw [List.getElem?_set_self (by rw [padL_len];omega)]
theorem putL_ok {x:ReceiveWindow} {k:Nat} {s:Slot} (hx:x.slots.all okSlot=true) (hs:okSlot s=true):(putL x k s).all okSlot=true:=by
 rw [List.all_eq_true] at hx ⊢
 intro z hz
 unfold putL at hz
 rcases List.mem_or_eq_of_mem_set hz with h|rfl
 ·unfold padL at h
  rcases List.mem_append.1 h with h|h
  ·exact hx z h
  ·rw [(List.mem_replicate.1 h).2];decide
 ·exact hs
theorem putL_last {x:ReceiveWindow} {k:Nat} {s:Slot} (hx:ends x.slots=true) (hs:s.hav=true):havAt (putL x k s) ((putL x k s).length - 1)=true:=by
 rw [putL_len]
 by_cases h:x.slots.length≤k+1
 ·rw [show max x.slots.length (k+1) - 1=k by omega,putL_at];exact hs
 ·unfold putL
  rw [havAt_set _ _ _ _ (by rw [padL_len];omega),if_neg (by omega)]
  unfold ends at hx
  rw [decide_eq_false (by omega)] at hx
  simp only [Bool.false_or,Bool.and_eq_true] at hx
  rw [show max x.slots.length (k+1) - 1=x.slots.length - 1 by omega]
  unfold padL
  rw [show k+1 - x.slots.length=0 by omega]
  simpa using hx.2
theorem rel_good {n:Int} {L:List Slot} (hn:isSer n=true) (ho:L.all okSlot=true) (hl:L.length≤8) (he:havAt L (L.length - 1)=true∨L=[]):goodRW (relW ⟨n,L⟩)=true:=by
 obtain ⟨d1,d2⟩:=rel_drop L n
 have hs:(relW ⟨n,L⟩).slots=L.drop (rel n L).2.2.length:=d1
 obtain ⟨p0,p1⟩:=isSer_iff.1 hn
 have hnx:(relW ⟨n,L⟩).next=aft n ((rel n L).2.2.length:Nat):=rel_next L n p0 p1
 generalize (rel n L).2.2.length=m at hs hnx
 have h0:havAt (relW ⟨n,L⟩).slots 0=false:=d2
 rw [hs] at h0
 have e1:isSer (relW ⟨n,L⟩).next=true:=by rw [hnx];exact aft_ser _ _
 have e2:(L.drop m).all okSlot=true:=List.all_eq_true.2 fun z hz=>List.all_eq_true.1 ho z (List.mem_of_mem_drop hz)
 have e3:ends (L.drop m)=true:=by
  unfold ends
  by_cases hz:(L.drop m).length=0
  ·rw [decide_eq_true hz];rfl
  ·rw [decide_eq_false hz,h0,havAt_drop]
   rw [List.length_drop] at hz ⊢
   rcases he with he|he
   ·rw [show m+(L.length - m - 1)=L.length - 1 by omega,he];rfl
   ·subst he;simp at hz
 unfold goodRW
 rw [e1,hs,e2,e3,decide_eq_true (by simp;omega)]
 rfl
theorem law_take (x:ReceiveWindow) (n:Int) (s:ByteArray):(resTakeItem x n s).2.2=true→goodRW x=true∧isSer n=true∧goodRW (resTakeItem x n s).1=true∧gp x.next (resTakeItem x n s).1.next=((resTakeItem x n s).2.1.length:Nat)∧takeNo (resTakeItem x n s).1 n=true∧(n=x.next→∃r,(resTakeItem x n s).2.1=plus s::r)∧(resTakeItem x n s).2.1.length≤8∧s.size≤8:=by
 unfold resTakeItem
 split
 rotate_left
 ·intro h;cases h
 rename_i h
 intro _
 unfold okTakeItem at h
 simp only [Bool.and_eq_true] at h
 obtain ⟨⟨⟨h1,h2⟩,h3⟩,h4⟩:=h
 have g:=good_of h1
 have p0:=g.n0
 have p1:=g.n1
 have pl:=g.l
 obtain ⟨n0,n1⟩:=isSer_iff.1 h2
 refine ⟨h1,h2,?_⟩
 dsimp only
 cases ht:takeNo x n with
 | true =>
  have eW:takeW x n s=x:=by unfold takeW;rw [ht];rfl
  have eE:takeE x n s=[]:=by unfold takeE;rw [ht];rfl
  rw [eW,eE]
  refine ⟨h1,?_,ht,fun e=>?_,by simp,itm_size h3⟩
  ·unfold gp;simp
  ·subst e
   exfalso
   unfold takeNo at ht
   rw [Bool.or_eq_true] at ht
   rcases ht with h|h
   ·unfold bef gp at h;simp at h;exact absurd h (by decide)
   ·unfold hasB at h
    rw [show gp x.next x.next=0 by unfold gp;omega] at h
    rw [show (0:Int).toNat=0 from rfl,good_first h1] at h
    cases h
 | false =>
  have hk8:gp x.next n < 8:=by unfold takeOk at h4;rw [ht] at h4;simpa using h4
  have hgb:=gp_bd x.next n
  obtain ⟨k,hk⟩:∃k:Nat,gp x.next n=k:=⟨(gp x.next n).toNat,by omega⟩
  have eW:takeW x n s=relW ⟨x.next,putL x k ⟨true,s⟩⟩:=by unfold takeW;rw [ht,decide_eq_true hk8];unfold putW;rw [hk,Int.toNat_natCast];rfl
  have eE:takeE x n s=(rel x.next (putL x k ⟨true,s⟩)).2.2:=by unfold takeE;rw [ht,decide_eq_true hk8];unfold putW;rw [hk,Int.toNat_natCast];rfl
  have hx:x.slots.all okSlot=true∧ends x.slots=true:=by
   unfold goodRW at h1
   simp only [Bool.and_eq_true] at h1
   exact ⟨h1.1.2,h1.2⟩
  have hos:okSlot ⟨true,s⟩=true:=by unfold okSlot;rw [h3];rfl
  have hL:=putL_len x k ⟨true,s⟩
  have hat:=putL_at x k ⟨true,s⟩
  have hget:=putL_get x k ⟨true,s⟩
  have ho:=putL_ok (k:=k) hx.1 hos
  have hla:=putL_last (k:=k) (s:=⟨true,s⟩) hx.2 rfl
  rw [eW,eE]
  generalize putL x k ⟨true,s⟩=L at *
  have hl8:L.length≤8:=by omega
  have hrl:(rel x.next L).2.2.length≤L.length:=by
   have:=relE_le ⟨x.next,L⟩
   unfold relE at this;dsimp only at this;omega
  obtain ⟨d1,d2⟩:=rel_drop L x.next
  have hnx:=rel_next L x.next p0 p1
  have hn:n=aft x.next (k:Nat):=by rw [←hk];unfold gp aft;omega
  refine ⟨rel_good (isSer_iff.2 ⟨p0,p1⟩) ho hl8 (.inl hla),?_,?_,?_,by omega,itm_size h3⟩
  ·show gp x.next (rel x.next L).1=_
   rw [hnx];exact gp_aft _ _ (by omega)
  ·unfold takeNo
   show (bef n (rel x.next L).1 || havAt (rel x.next L).2.1 (gp (rel x.next L).1 n).toNat)=true
   rw [hnx,d1]
   generalize (rel x.next L).2.2.length=m at *
   by_cases hkm:k < m
   ·rw [show bef n (aft x.next (m:Nat))=true by rw [hn];unfold bef btw gp aft;rw [Bool.and_eq_true];simp only [decide_eq_true_eq];omega];rfl
   ·rw [show gp (aft x.next (m:Nat)) n=((k - m:Nat):Int) by rw [hn];unfold gp aft;omega,Int.toNat_natCast,havAt_drop,show m+(k - m)=k by omega,hat]
    simp
  ·intro e
   have hk0:k=0:=by rw [e] at hk;unfold gp at hk;omega
   subst hk0
   cases L with
   | nil=>simp at hget
   | cons z r =>
    simp at hget
    subst hget
    exact ⟨(rel (aft x.next 1) r).2.2,by simp [rel]⟩
theorem rep_s {s:ByteArray} (h:s.size≤maxLen) (w:World):Flat EStr w [.string s] [s] []:=⟨_,[],[],[],by simp,by simp,⟨rfl,h,rfl⟩,rfl,rfl⟩
theorem t_sl {c:Cx} {fr:Fr} {H:List Pc} {Φ:Gl} {α:Type} {E:Elem α} {v:Value} {xs:List α} {F:List Nat} (h:∀a cp,v=.slice a xs.length cp→xs.length≤cp→cp≤9223372036854775807→T c fr H Φ) (hm:.sl E v xs F∈H:=by (repeat (first|exact .head _|apply List.Mem.tail));first|done|fail):T c fr H Φ:=.mk fun ac w s g=>by
 obtain ⟨-,hs⟩:=s.get hm
 obtain ⟨a,cp,rfl⟩:=hs.slice
 obtain ⟨-,h2,h3⟩:=hs.caps
 exact (h a cp rfl h2 (by unfold maxLen at h3;omega)).h ac w s g
theorem t_row {c:Cx} {fr:Fr} {H:List Pc} {Φ:Gl} {α:Type} {E:Elem α} {t g:Nat} {cs:List Value} {xs:List α} {S:List Pc} (hfl:∀w,Flat E w cs xs []) (h:T c fr (.ow E t (.slice (some ⟨g,0,none⟩) xs.length xs.length) xs [g]::S) Φ) (hl:xs.length≤1000000) (hp:Pick H (.row g t 0 [] cs []) S:=by (repeat (first|exact .here|apply Pick.there));first|done|fail):T c fr H Φ:=.mk fun a w s g'=>by
 have s1:=s.pick hp
 have hr:=(s1.on (.row g t 0 [] cs []) (by simp)).2
 have hlen:=(hfl w).len
 refine h.h a w (s1.conv rfl ⟨by simp,.inr ⟨g,xs.length,cs,[],[],rfl,by simpa using hr,Nat.le_refl _,by unfold maxLen;omega,by simpa using hlen,hfl w,rfl⟩⟩ (by simp [Pc.F])) g'
theorem fn_made {P:Program} {f:FuncId} {args:List Value} {A:List Pc} {σ:Type} {C:σ→Prop} {v:σ→Value} {N:σ→Pc}
  (h:∀w,Hol A w→Calls P f args.toArray w fun e w'=>∃s,C s∧e=.returned (v s)∧(N s).P w'∧(∀b∈(N s).F,w.heap.size≤b)∧Below w.heap.size w w'):Fn P f args A [] C v (fun s=>[N s]):=fun w hA _=>by
 refine (h w (by simpa using hA)).mono ?_
 rintro e w' ⟨s,hC,he,hN,hF,hB⟩
 refine ⟨s,hC,he,hol1 hN,⟨by simp,trivial⟩,Keep.ofBelow hB,fun p hp b hb=>?_⟩
 simp at hp
 subst hp
 exact .inl (hF b hb)
def spanL (t:Int) (k:Nat):List Int:=(List.range k).map fun i=>aft t (i:Nat)
theorem spanL_succ (t:Int) (k:Nat):spanL t (k+1)=spanL t k++[aft t (k:Nat)]:=by unfold spanL;rw [List.range_succ,List.map_append];rfl
theorem spanL_len (t:Int) (k:Nat):(spanL t k).length=k:=by unfold spanL;simp
theorem rep_int (n:Int) (w:World):Flat EInt w [.int .i64 n] [n] []:=⟨_,[],[],[],by simp,by simp,⟨rfl,rfl⟩,rfl,rfl⟩
structure SpS where
 k:Nat
 a:Option Addr
 c:Nat
 F:List Nat
theorem span_f (t:Int) (n:Nat) (t0:0≤t) (t1:t≤65535) (hn:n≤65536):Fn Tryz.prog 354 [.int .i64 t,.int .i64 (n:Nat)] [] [] (fun (_:Option Addr × Nat × List Nat)=>True) (fun s=>.slice s.1 (spanL t n).length s.2.1) (fun s=>[.ow EInt 3 (.slice s.1 (spanL t n).length s.2.1) (spanL t n) s.2.2]):=by
 refine enter Tryz.func354 rfl Tryz.ntmps354 fun w0=>?_
 refine go ?_;intros
 refine t_nilow EInt 3 ?_
 refine c_loopS [0,4,7] (fun s:SpS=>[(5,.slice s.a (spanL t s.k).length s.c),(8,.int .i64 (s.k:Nat))]) (fun s=>[.ow EInt 3 (.slice s.a (spanL t s.k).length s.c) (spanL t s.k) s.F]) (fun s=>s.k≤n) (fun s=>n - s.k) ⟨0,none,0,[]⟩ (Nat.zero_le _) fun s hs=>?_
 obtain ⟨k,a,c,F⟩:=s
 dsimp only at hs ⊢
 have hl:=spanL_len t k
 refine go ?_;intros
 refine c_if rfl (fun h1=>?_) (fun h1=>?_)
 ·refine go ?_;intros
  refine ce (fun w s=>after_c _ _ _ (by omega) (by omega)) ?_
  refine go ?_;intros
  apply wO
  refine ap1 (rep_int _) one_EInt fun a2 c2 F2=>?_
  refine go ?_;intros
  rw [←spanL_succ]
  refine n_lp ⟨k+1,a2,c2,F2⟩ (by show k+1≤n;omega) (by show n - (k+1) < n - k;omega)
 ·have hk:k=n:=by omega
  subst hk
  refine go ?_;intros
  refine ret (a,c,F) trivial rfl
section
variable {P:Program} {n:Nat} {fr:Fr} {H:List Pc} {ty:TypeId} {x y z:Operand}
end
section
variable {c:Cx} {fr:Fr} {H:List Pc} {k:List It} {Φ:Gl} {ops:Array Oper} {rest:List Oper} {d:Nat} {o:Op} {ty:TypeId} {v u:Value} {x y:Operand}
theorem o_ms {t e m b:Nat} {z:Value} [hS:SlC c.P t e m] [hE:ElT c.P e z m b] (k:Nat) {kl kc:IntKind} {cs:List Value} (hd:Nat.blt d c.n=true) (hx:ev fr x=some (.int kl (k:Nat))) (hy:ev fr y=some (.int kc (k:Nat))) (hcs:madeCells z.cells (k * m)=cs.toArray) (hb:b * k≤281474976710656) (h63:k≤9223372036854775807)
  (h:∀g,T c ((d,.slice (some ⟨g,0,none⟩) k k)::fr) (.row g e 0 [] cs []::H) Φ):On c fr H (some d) (.makeSlice t x y) ty Φ:=⟨fun _ _ _=>ef_of fun Q a w s g=>by
 obtain ⟨i,hi,hiz⟩:=Option.map_eq_some_iff.1 hE.i
 simp only [Prod.mk.injEq] at hiz
 obtain ⟨i1,i2,i3⟩:=hiz
 have hb':(i.bytes:Int) * ((k:Nat):Int)≤281474976710656:=by rw [i3];have:((b * k:Nat):Int)≤281474976710656:=by omega
                                                            rwa [Int.natCast_mul] at this
 have hr:=run_make (P:=c.P) w t e i z hS.u hi i1 kl kc (k:Nat) (k:Nat) (by omega) (by omega) hb' (by omega)
 simp only [Int.toNat_natCast,i2,hcs] at hr
 have e1:∀pos aft gd,(execOp a.eval ⟨some d,.makeSlice t x y,ty,pos,aft,gd⟩).run c.P w=.ok (.value (.slice (some ⟨w.heap.size,0,none⟩) k k)) (w.alloc (.cells cs.toArray e)):=by
  intro pos aft gd
  simp [execOp,g.ev hx,g.ev hy,hr]
 rw [e1]
 exact (h _).h _ _ (s.new e cs) (g.put hd)⟩
theorem o_callv {fo:Operand} {f:Nat} {caps:List Value} {aS:List Operand} {ts:Array TypeId} {vs:List Value} (hd:Nat.blt d c.n=true) (hf:ev fr fo=some (.func (.func f) #[] caps.toArray)) (hb:bodyB c.P f=true) (ha:Evs fr aS vs) (h:Cl c fr H d f (vs++caps) Φ):On c fr H (some d) (.call { callee:=.value fo,args:=aS.toArray,argTypes:=ts }) ty Φ:=⟨fun _ _ _=>ef_of fun Q a w s g=>by
 have e:∀pos aft gd,(execOp a.eval ⟨some d,.call { callee:=.value fo,args:=aS.toArray,argTypes:=ts },ty,pos,aft,gd⟩).run c.P w=(callFunc f (vs++caps).toArray).run c.P w:=by
  intro pos aft gd
  simp [execOp,resolve,Deferred.ofValue,g.ev hf,invoke,g.evs ha]
 rw [e]
 obtain ⟨R,hc,hk⟩:=h.h w s
 refine (body_of hb).upon hc fun e w' hR=>?_
 obtain ⟨v,he,hv⟩:=hk e w' hR
 exact ⟨v,he,hv _ (g.put hd)⟩⟩
theorem t_rtake {α:Type} {E:Elem α} {a:Option Addr} {n cp:Nat} {xs:List α} {F:List Nat} (k:Nat) (h:∀F',T c fr (.sl E (.slice a (xs.take k).length cp) (xs.take k) F'::H) Φ) (hk:k≤xs.length) (hm:.sl E (.slice a n cp) xs F∈H:=by (repeat (first|exact .head _|apply List.Mem.tail));first|done|fail):T c fr H Φ:=.mk fun ac w s g=>by
 obtain ⟨hz,hs⟩:=s.get hm
 obtain ⟨F',hF,h2⟩:=hs.takeS k hk
 have hl:(xs.take k).length=k:=by simp [Nat.min_eq_left hk]
 have h':=h F'
 rw [hl] at h'
 exact h'.h _ w (s.ro hm rfl rfl ⟨hz,h2⟩ hF) g
end
end Go.Proofs.YtgmbfohkpfineaaGreatDoor
