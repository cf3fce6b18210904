/- Part 6 of the proof: 25 texts, one behind the other. -/
import Derived.Lib.ItoaNum
import Derived.Lib.Bytealg
import Derived.Test.YtaemjogbahcbcaaGreatDoorShelf
import Derived.Lib.Strings
import Derived.Lib.LaidTab
import Derived.Lib.ItoaMem
import Derived.Laws.IdiomStrings
import Derived.Laws.Bits64b
import Derived.Test.YtaemjogbahcbcaaGreatDoorM5
open _root_.Go.Proofs.Tryz
set_option maxRecDepth 100000
set_option maxHeartbeats 8000000
set_option linter.all false
set_option linter.unusedVariables false
set_option linter.unusedSimpArgs false
namespace Go.Proofs.YtaemjogbahcbcaaGreatDoor
open Go.RowKit
theorem Ai0 {t a b:Int} (ha:0≤a∧a≤65535) (hb:0≤b∧b≤65535) (h:gp t a=gp t b):a=b:=by unfold gp at h;omega
def srt (t:Int) (hs:List Fv):Prop:=hs.Pairwise fun a b=>gp t a.Ac < gp t b.Ac
theorem Ev {x:Cj}:Cb x=true↔Dj x.Aa=true∧Ig x.Ai=true∧Gs 0 x.quiet 3=true∧(∀h∈x.holds,Bx h.Ac=true∧Gw x.Aa h.Ac=true∧Gs (x.Ai+1) h.By (x.Ai+3)=true)∧srt x.Aa.Ak x.holds:=by
 unfold Cb
 simp only [Bool.and_eq_true,List.all_eq_true,List.mem_range]
 constructor
 ·rintro ⟨⟨⟨h1,h2⟩,h3⟩,h4⟩
  refine ⟨h1,h2,h3,fun h hh=>?_,?_⟩
  ·obtain ⟨i,hi,rfl⟩:=List.getElem_of_mem hh
   have:=h4 i hi
   rw [Mj hi] at this
   simp only [Bool.and_eq_true] at this
   exact ⟨this.1.1.1,this.1.1.2,this.1.2⟩
  ·have step:∀i (hi:i+1 < x.holds.length),gp x.Aa.Ak x.holds[i].Ac < gp x.Aa.Ak x.holds[i+1].Ac:=fun i hi=>by
    have:=h4 (i+1) hi
    rw [Mj hi] at this
    simp only [Bool.and_eq_true,Bool.or_eq_true,decide_eq_true_eq,Bool.not_eq_true',decide_eq_false_iff_not] at this
    have h:=this.2
    rcases h with h|h
    ·omega
    ·simpa using h
   refine List.pairwise_iff_getElem.2 fun i j hi hj hij=>?_
   obtain ⟨d,rfl⟩:∃d,j=i+1+d:=⟨j - i - 1,by omega⟩
   clear hij
   induction d with
   | zero=>exact step i hj
   | succ d ih=>exact Int.lt_trans (ih (by omega)) (step (i+1+d) hj)
 ·rintro ⟨h1,h2,h3,h4,h5⟩
  refine ⟨⟨⟨h1,h2⟩,h3⟩,fun i hi=>?_⟩
  rw [Mj hi]
  obtain ⟨a,b,c⟩:=h4 x.holds[i] (List.getElem_mem hi)
  rw [a,b,c]
  simp only [Bool.true_and,Bool.or_eq_true,decide_eq_true_eq,Bool.not_eq_true',decide_eq_false_iff_not]
  rcases Nat.eq_zero_or_pos i with h0|h0
  ·exact .inl h0
  ·have:=List.pairwise_iff_getElem.1 h5 (i - 1) i (by omega) hi (by omega)
   right;omega
def Ei (t:Int) (hs:List Fv) (n:Int):Nat:=(hs.takeWhile fun h=>decide (gp t h.Ac < gp t n)).length
def Lg (t:Int) (hs:List Fv) (n:Int):Bool:=match hs[Ei t hs n]? with|some h=>decide (h.Ac=n)|none=>false
def onB (hs:List Fv) (n:Int):Bool:=hs.any fun h=>decide (h.Ac=n)
def Ir (hs:List Fv) (k:Nat) (h:Fv):List Fv:=hs.take k++h::hs.drop k
def T3 (W:Az) (n:Int):Aw:=⟨4,n,W.Ak,Kr W,⟨#[]⟩⟩
def Ke (x:Cj) (n:Int):Cj:=if Gw x.Aa n && !Lg x.Aa.Ak x.holds n then ⟨x.Aa,x.Ai,x.quiet,Ir x.holds (Ei x.Aa.Ak x.holds n) ⟨n,x.Ai+3⟩⟩ else Rx x x.Aa
def Lo (x:Cj) (p:Aw):List Aw:=if Gw x.Aa p.Ac then (if Lg x.Aa.Ak x.holds p.Ac then [T3 x.Aa p.Ac] else [T3 x.Aa p.Ac,(Da x.Aa p).1]) else [N7 x.Aa]
def Jr (x:Cj) (n:Int):Cj:=if Gw x.Aa n && !Lg x.Aa.Ak x.holds n then ⟨x.Aa,x.Ai,x.quiet,Ir x.holds (Ei x.Aa.Ak x.holds n) ⟨n,x.Ai+3⟩⟩ else x
theorem Th {x:Cj} (hg:Cb x=true):Fj x.Aa x.Ai x.holds=x.holds:=by
 obtain ⟨-, -, -,h4, -⟩:=Ev.1 hg
 unfold Fj
 refine List.filter_eq_self.2 fun h hh=>?_
 obtain ⟨a,b,c⟩:=h4 h hh
 unfold Gs at c
 simp only [Bool.and_eq_true,decide_eq_true_eq] at c
 rw [b,decide_eq_true (by omega)];rfl
theorem Aj3 {x:Cj} (hg:Cb x=true) (n:Int):Ke x n=Jr x n:=by
 unfold Ke Jr Rx
 rw [Th hg]
theorem Sf (t:Int) (hs:List Fv) (n:Int):Ei t hs n≤hs.length:=Nj.1
theorem Akp {t n:Int} {hs:List Fv} (hn:0≤n∧n≤65535) (hser:∀h∈hs,Bx h.Ac=true) (hs':srt t hs):Lg t hs n=onB hs n:=by
 obtain ⟨h1,h2,h3⟩:=Nj (p:=fun h:Fv=>decide (gp t h.Ac < gp t n)) (xs:=hs)
 unfold Lg onB
 have hle:=Sf t hs n
 rw [Bool.eq_iff_iff,List.any_eq_true]
 constructor
 ·intro h
  split at h
  ·rename_i z hz
   exact ⟨z,List.mem_of_getElem? hz,h⟩
  ·cases h
 ·rintro ⟨z,hz,he⟩
  simp only [decide_eq_true_eq] at he
  obtain ⟨i,hi,rfl⟩:=List.getElem_of_mem hz
  have hk:Ei t hs n=i:=by
   refine Ru (by omega) (fun j hj h=>?_) (fun h=>?_)
   ·have:=List.pairwise_iff_getElem.1 hs' j i h hi hj
    simp only [decide_eq_true_eq];rw [←he];exact this
   ·simp only [decide_eq_false_iff_not];rw [he];omega
  rw [hk,List.getElem?_eq_getElem hi]
  simpa using he
theorem Amk {t n:Int} {hs:List Fv} (u:Int) (hn:0≤n∧n≤65535) (hser:∀h∈hs,Bx h.Ac=true) (hs':srt t hs) (ht:Lg t hs n=false):srt t (Ir hs (Ei t hs n) ⟨n,u⟩):=by
 obtain ⟨h1,h2,h3⟩:=Nj (p:=fun h:Fv=>decide (gp t h.Ac < gp t n)) (xs:=hs)
 have hle:=Sf t hs n
 have hon:onB hs n=false:=by rw [←Akp hn hser hs'];exact ht
 have hne:∀h∈hs,gp t h.Ac≠gp t n:=fun h hh e=>by
  have:=Ai0 (A4.1 (hser h hh)) hn e
  have h0:onB hs n=true:=List.any_eq_true.2 ⟨h,hh,by simp [this]⟩
  rw [hon] at h0;cases h0
 unfold Ir srt
 rw [List.pairwise_append]
 refine ⟨hs'.sublist (List.take_sublist _ _),?_,?_⟩
 ·rw [List.pairwise_cons]
  refine ⟨fun b hb=>?_,hs'.sublist (List.drop_sublist _ _)⟩
  obtain ⟨j,hj,rfl⟩:=List.getElem_of_mem hb
  rw [List.getElem_drop]
  rw [List.length_drop] at hj
  have hk:Ei t hs n < hs.length:=by omega
  have h0:=h3 hk
  simp only [decide_eq_false_iff_not,Int.not_lt] at h0
  have h00:gp t n≤gp t (hs[Ei t hs n]'hk).Ac:=h0
  have hd:=hne _ (List.getElem_mem hk)
  rcases Nat.eq_zero_or_pos j with e|e
  ·subst e;show gp t n < gp t (hs[Ei t hs n+0]).Ac;simp only [Nat.add_zero];omega
  ·have h5:=List.pairwise_iff_getElem.1 hs' (Ei t hs n) (Ei t hs n+j) hk (by omega) (by omega)
   show gp t n < _;omega
 ·intro a ha b hb
  obtain ⟨i,hi,rfl⟩:=List.getElem_of_mem ha
  rw [List.length_take] at hi
  rw [List.getElem_take]
  have ha2:=h2 i (by show i < Ei t hs n;omega) (by omega)
  simp only [decide_eq_true_eq] at ha2
  rcases List.mem_cons.1 hb with rfl|hb
  ·exact ha2
  ·obtain ⟨j,hj,rfl⟩:=List.getElem_of_mem hb
   rw [List.getElem_drop]
   rw [List.length_drop] at hj
   exact List.pairwise_iff_getElem.1 hs' i _ (by omega) (by omega) (by omega)
theorem Aiz {x:Cj} {n:Int} (hg:Cb x=true) (hn:0≤n∧n≤65535):Cb (Jr x n)=true:=by
 unfold Jr
 split
 ·rename_i h
  simp only [Bool.and_eq_true,Bool.not_eq_true'] at h
  obtain ⟨hh,ht⟩:=h
  obtain ⟨h1,h2,h3,h4,h5⟩:=Ev.1 hg
  refine Ev.2 ⟨h1,h2,h3,fun z hz=>?_,Amk _ hn (fun z hz=>(h4 z hz).1) h5 ht⟩
  have:z∈x.holds∨z=⟨n,x.Ai+3⟩:=by
   unfold Ir at hz
   simp only [List.mem_append,List.mem_cons] at hz
   rcases hz with h|h|h
   ·exact .inl (List.mem_of_mem_take h)
   ·exact .inr h
   ·exact .inl (List.mem_of_mem_drop h)
  rcases this with h|rfl
  ·exact h4 z h
  ·exact ⟨A4.2 hn,hh,by unfold Gs;simp⟩
 ·exact hg
theorem Agc {x:Cj} (hg:Cb x=true) (hc:x.Ai < 9999):Cb (Jy x)=true:=by
 obtain ⟨h1,h2,h3,h4,h5⟩:=Ev.1 hg
 have hk:=Aao h2
 refine Ev.2 ⟨h1,?_,?_,fun z hz=>?_,h5.sublist (List.filter_sublist)⟩
 ·unfold Jy Ig Gs;simp;omega
 ·unfold Gs at h3
  simp only [Bool.and_eq_true,decide_eq_true_eq] at h3
  unfold Jy N8 Gs
  dsimp only
  split <;> simp <;> omega
 ·unfold Jy Pz at hz
  simp only [List.mem_filter] at hz
  obtain ⟨z1,z2⟩:=hz
  obtain ⟨a,b,c⟩:=h4 z z1
  refine ⟨a,b,?_⟩
  unfold Gs at c ⊢
  simp only [Bool.and_eq_true,decide_eq_true_eq,Bool.not_eq_true',decide_eq_false_iff_not] at c z2 ⊢
  show x.Ai+1+1≤z.By∧z.By≤x.Ai+1+3
  omega
theorem Xr {x:Cj} {W:Az} (k:Nat) (q:Int) (hg:Cb x=true) (hw:Dj W=true) (hq:Gs 0 q 3=true) (hk:k≤6) (ht:W.Ak=Ca x.Aa.Ak k):Cb ⟨W,x.Ai,q,Kn W x.holds⟩=true:=by
 obtain ⟨h1,h2,h3,h4,h5⟩:=Ev.1 hg
 obtain ⟨-,⟨z0,z1⟩,hl, -⟩:=Ea.1 hw
 have key:∀n,Gw W n=true→gp x.Aa.Ak n=gp W.Ak n+k:=fun n hn=>by
  unfold Gw at hn
  simp only [decide_eq_true_eq] at hn
  rw [ht] at hn ⊢
  have:=Iu (Ca x.Aa.Ak k) n
  unfold gp Ca at *
  omega
 refine Ev.2 ⟨hw,h2,hq,fun z hz=>?_,?_⟩
 ·unfold Kn at hz
  simp only [List.mem_filter] at hz
  obtain ⟨a,b,c⟩:=h4 z hz.1
  exact ⟨a,hz.2,c⟩
 ·unfold Kn srt
  show List.Pairwise (fun a b=>gp W.Ak a.Ac < gp W.Ak b.Ac) (x.holds.filter fun h=>Gw W h.Ac)
  have hp:List.Pairwise (fun a b=>gp x.Aa.Ak a.Ac < gp x.Aa.Ak b.Ac) (x.holds.filter fun h=>Gw W h.Ac):=h5.sublist (List.filter_sublist)
  refine List.Pairwise.imp_of_mem (fun {a b} ha hb h=>?_) hp
  simp only [List.mem_filter] at ha hb
  have e1:=key _ ha.2
  have e2:=key _ hb.2
  omega
theorem Agb {x:Cj} {s:ByteArray} (hg:Cb x=true) (hs:Nq s=true):Cb (Nw x s)=true:=by
 have hw:=(Ev.1 hg).1
 obtain ⟨-,hw2, -⟩:=Ad8 (x:=x.Aa) (s:=s) (by unfold Tl;rw [hw,hs];rfl)
 obtain ⟨⟨t0,t1⟩, -⟩:=Ea.1 hw
 by_cases h:(x.Aa.Aj.length:Int)=x.Aa.size
 ·refine Xr 1 0 hg hw2 (by decide) (by omega) ?_
  show (Db x.Aa).Ak=_
  unfold Db;rw [if_pos h];rfl
 ·refine Xr 0 0 hg hw2 (by decide) (by omega) ?_
  show (Db x.Aa).Ak=_
  unfold Db Ca;rw [if_neg h];omega
abbrev Bs:=List UInt8
def Aqj (b:UInt8) (l:Bs):Bs:=(l.dropWhile (· != b)).drop 1
def Whole (x:Bs):Prop:=∃y,x=y++[10]∧∀c∈y,c≠10
theorem Sa:∀(n u:Nat),u < 10 ^ (n+1)→(Lib.decDigits u).length≤n+1
 | 0,u,h=>by rw [Lib.decDigits,dif_pos (by simpa using h)];simp
 | n+1,u,h=>by
  rw [Lib.decDigits]
  split
  ·simp
  ·have:=Sa n (u / 10) (by rw [Nat.pow_succ] at h;omega)
   simp;omega
structure Aqq (c r:Bs):Prop where
 c0:1≤c.length
 c1:c.length≤160
 r1:r.length≤200
 ct:∀b∈c,(32≤b.toNat∧b.toNat≤126)∧b≠35
 rt:∀b∈r,(32≤b.toNat∧b.toNat≤126)∧b≠35
 ca:∀b∈c,b≠64
def bz (l:Bs):ByteArray:=⟨l.toArray⟩
theorem Aan (l:Bs):(bz l).size=l.length:=by simp [bz,ByteArray.size]
theorem Ant (a b:Bs):bz a++bz b=bz (a++b):=by apply ByteArray.ext;simp [bz,ByteArray.data_append]
theorem Aa8 {a b:ByteArray} (h:a=b):Ending.returned (.string a)=.returned (.string b):=by rw [h]
theorem Adq (w:World) (k:Nat) (os:Array Obj):Below w.heap.size w (Go.Sort.grow (w.drewN k) os):=by
 refine ⟨rfl,rfl,rfl,?_,fun i hi=>?_⟩
 ·simp [Go.Sort.grow,World.drewN]
 ·simp [Go.Sort.grow,World.drewN,Array.getElem?_append_left hi]
theorem Uz:∀n:Nat,n < 10→(⟨#[48,49,50,51,52,53,54,55,56,57]⟩:ByteArray).extract n (n+1)=⟨#[UInt8.ofNat (48+n)]⟩:=by decide
theorem Aly:∀(k n:Nat) (w:World),n < 10 ^ (k+1)→n≤999999999999999999 →
  Calls prog 217 #[.int .i64 (n:Int)] w fun e w'=>e=.returned (.string (bz (Lib.decDigits n)))∧∃j,w'=w.drewN j:=by
 intro k
 induction k with
 | zero =>
  intro n w h1 h2
  have h3:n < 10:=by simpa using h1
  have hd:=Lib.hid (Uz n h3)
  have hn:¬((n:Int) < 0):=by omega
  go_enter func217,ntmps217
  go_wp2_with fail
  go_ret
  refine ⟨Aa8 ?_,0,rfl⟩
  rw [hd.out,Lib.decDigits,dif_pos h3];rfl
 | succ k ih =>
  intro n w h1 h2
  by_cases h3:n < 10
  ·have hd:=Lib.hid (Uz n h3)
   have hn:¬((n:Int) < 0):=by omega
   go_enter func217,ntmps217
   go_wp2_with fail
   go_ret
   refine ⟨Aa8 ?_,0,rfl⟩
   rw [hd.out,Lib.decDigits,dif_pos h3];rfl
  ·have h4:n / 10 < 10 ^ (k+1):=by rw [Nat.pow_succ] at h1;omega
   have hc:=fun w=>ih (n / 10) w h4 (by omega)
   rw [show ((n / 10:Nat):Int)=(n:Int) / 10 from by omega] at hc
   have hn:¬((n:Int) < 0):=by omega
   have h5:¬((n:Int) < 10):=by omega
   have hd:=Lib.hid (Uz (n % 10) (by omega))
   have b0:(0:Int)≤(n:Int) % 10:=by omega
   have b1:(n:Int) % 10≤9:=by omega
   have e0:IntKind.i64.wrap ((n:Int) / 10)=(n:Int) / 10:=by rw [IntKind.wrap_i64];omega
   have e1:IntKind.i64.wrap ((n:Int) % 10)=(n:Int) % 10:=by rw [IntKind.wrap_i64];omega
   have e2:IntKind.i64.wrap ((n:Int) % 10+1)=(n:Int) % 10+1:=by rw [IntKind.wrap_i64];omega
   have e3:((n:Int) % 10).toNat=n % 10:=by omega
   have e4:((n:Int) % 10+1).toNat=n % 10+1:=by omega
   have e5:(n:Int).tmod 10=(n:Int) % 10:=Int.tmod_eq_emod_of_nonneg (by omega)
   have e6:(n:Int).tdiv 10=(n:Int) / 10:=Int.tdiv_eq_ediv_of_nonneg (by omega)
   have hsl:∀wx,(Instr.slice 9 (.string ⟨#[48,49,50,51,52,53,54,55,56,57]⟩) (some (.int .i64 ((n:Int) % 10))) (some (.int .i64 ((n:Int) % 10+1))) none).run prog wx=.ok (.string ⟨#[UInt8.ofNat (48+n % 10)]⟩) wx:=fun wx=>by
    have h6:=run_slice_string (P:=prog) wx 9 ⟨#[48,49,50,51,52,53,54,55,56,57]⟩ .i64 .i64 ((n:Int) % 10) ((n:Int) % 10+1) underlying9 (by omega) (by omega) (by show _≤((10:Nat):Int);omega)
    rw [h6,e3,e4,hd.out]
   have hD:(bz (Lib.decDigits (n / 10))).size≤18:=by rw [Aan];exact Sa 17 _ (by omega)
   have hd1:(⟨#[UInt8.ofNat (48+n % 10)]⟩:ByteArray).size≤1:=by simp [ByteArray.size]
   have hR:Hid (bz (Lib.decDigits (n / 10))++⟨#[UInt8.ofNat (48+n % 10)]⟩=bz (Lib.decDigits n)):=by
    refine Lib.hid ?_
    conv=>rhs;rw [Lib.decDigits,dif_neg (by omega),←Ant]
    rfl
   generalize bz (Lib.decDigits (n / 10))=D at *
   generalize (⟨#[UInt8.ofNat (48+n % 10)]⟩:ByteArray)=d at *
   clear ih h1 e3 e4
   go_enter func217,ntmps217
   go_wp2_with fail
   go_quiet ((go_at_call 217;exact Calls.quiet_of (v:=.string D) (hc (World.drewN _ _))))
   go_wp2_with fail
   go_ret
   refine ⟨Aa8 ?_,_,rfl⟩
   exact hR.out
def Ap8:Bp Unit where
 sz:=0
 Jg w cs _ F:=cs=[]∧Lib.TabIs prog w "internal/strconv.uint64pow10" .u64 Lib.pow10Tab∧F=[3]∧∀b∈F,b < w.heap.size
 len h:=by simp [h.1]
 lt h:=h.2.2.2
 frame h hF:=by
  obtain ⟨h1,h2,rfl,h6⟩:=h
  have e0:=hF 3 (by simp)
  refine ⟨h1,?_,rfl,fun b hb=>?_⟩
  ·unfold Lib.TabIs World.var? at h2 ⊢
   rw [show prog.globalNamed "internal/strconv.uint64pow10" = some 3 by kernel_rfl] at h2 ⊢
   simp only [Option.bind_some] at h2 ⊢
   rw [e0];exact h2
  ·have e:=hF b hb
   have:=h6 b hb
   rw [Array.getElem?_eq_getElem this] at e
   exact (Array.getElem?_eq_some_iff.1 e).1
def Li (FT:List Nat):Pc:=.isv Ap8 (.agg #[]) () FT
theorem Li.env {w:World} {FT:List Nat} (h:(Li FT).P w):Lib.TabIs prog w "internal/strconv.uint64pow10" .u64 Lib.pow10Tab∧True:=by
 obtain ⟨cs,_,h⟩:=h;exact ⟨h.2.1,trivial⟩
theorem An5 (n:Int) (h0:-9223372036854775808≤n) (h1:n≤9223372036854775807) (FT:List Nat) (w:World) (hT:(Li FT).P w) :
  Calls prog 203 #[.int .i64 n] w fun e w'=>e=.returned (.string (bz (Lib.itoa n)))∧Below w.heap.size w w':=by
 refine (Tryz.strconv_Itoa n h0 h1 w (Li.env hT).1).mono ?_
 rintro e w' ⟨rfl,k,os,rfl⟩
 exact ⟨rfl,Adq w k os⟩
theorem App (n:Nat) (hn:n≤999999) (w:World):Calls prog 217 #[.int .i64 (n:Int)] w fun e w2=>e=.returned (.string (bz (Lib.decDigits n)))∧Below w.heap.size w w2:=by
 refine (Aly 5 n w (by omega) (by omega)).mono ?_
 rintro e w2 ⟨rfl,j,rfl⟩
 exact ⟨rfl,D5 (Below.refl _ _) j⟩
def Lp (i:Nat) (e:ByteArray):ByteArray:=bz (Lib.itoa ((i:Nat):Int))++⟨#[32]⟩++e
def Rc (i:Nat) (es:List ByteArray):List ByteArray:=es.map (Lp i)
def J0 (i:Nat):Int:=1+((i:Nat):Int) % 3
def So (n:En) (i:Nat):Bl:=n.Ah.getD i ⟨0,[]⟩
def Wj (n:En) (i:Nat):A7:=n.Ae.getD i Am3
def Ub (n:En) (i:Nat):List Int:=Gb n.Ar.Ad ((i:Nat):Int)
def Adu (n:En) (i:Nat) (p:Aw):List Int:=if p.Cm=2 then Q8 (So n i) p.Ac (Ub n i) else Ub n i
def C2 (n:En) (i:Nat) (p:Aw):En × List ByteArray :=
 if Hj n.Ar.Ad ((i:Nat):Int) then (⟨n.Ar,n.Ab,n.Ah,n.Ae.set i (C6 (Wj n i) p (J0 i)),n.down,n.up⟩,Rc i (Gm (Wj n i) p))
 else (⟨n.Ar,n.Ab,if p.Cm=2 then n.Ah.set i (Mn (So n i) p.Ac) else n.Ah,n.Ae,Dk n.down (Adu n i p) [p],n.up⟩,[])
def X8 (n:En) (i:Nat):Nat:=(n.Ar.Ad.getD i 0).toNat
def Uy (p:Aw):Aw:=⟨4,p.Ac,p.Ak,p.Dy,⟨#[]⟩⟩
def Nd (n:En) (i:Nat) (p:Aw):En :=
 if X8 n i=0 then ⟨n.Ar,Jr n.Ab p.Ac,n.Ah,n.Ae,Dk n.down [((i:Nat):Int)] (Lo n.Ab p),n.up⟩
 else ⟨n.Ar,n.Ab,n.Ah.set (X8 n i) (Ki (So n (X8 n i)) p.Ac ((i:Nat):Int)),n.Ae,Dk n.down [((i:Nat):Int)] [Uy p],if Wi (So n (X8 n i)) p.Ac then n.up.modify (X8 n i) fun q=>E5 q [p] else n.up⟩
def Lf (n:En) (i:Nat):En × List ByteArray :=
 if Hj n.Ar.Ad ((i:Nat):Int) then (⟨n.Ar,n.Ab,n.Ah,n.Ae.set i (Cn (Wj n i) (J0 i)),n.down,n.up.modify i fun q=>E5 q (D8 (Wj n i))⟩,Rc i (Ez (Wj n i)))
 else (⟨n.Ar,n.Ab,n.Ah.set i (Dw (So n i)),n.Ae,n.down,n.up⟩,[])
def Apt (n:En):En:=⟨n.Ar,Jy n.Ab,n.Ah,n.Ae,Dk n.down (Ub n 0) (Kg n.Ab.Aa n.Ab.quiet),n.up⟩
def A9 (n:En):Nat→En × List ByteArray
 | 0=>(Apt n,[])
 | k+1=>((Lf (A9 n k).1 (k+1)).1,(A9 n k).2++(Lf (A9 n k).1 (k+1)).2)
def D7 (n:En):En × List ByteArray:=A9 n (n.Ar.Ad.length - 1)
def Mp (n:En) (s:ByteArray):En:=⟨n.Ar,Nw n.Ab s,n.Ah,n.Ae,Dk n.down (Ub n 0) [Dd n.Ab.Aa s],n.up⟩
def Kz (n:En) (i:Nat):En:=⟨n.Ar,n.Ab,n.Ah,n.Ae,n.down.modify i (·.drop 1),n.up⟩
def Jf (n:En) (i:Nat):En:=⟨n.Ar,n.Ab,n.Ah,n.Ae,n.down,n.up.modify i (·.drop 1)⟩
structure GN (ck:Nat→Int) (n:En):Prop where
 t:Et n.Ar=true
 s:Cb n.Ab=true
 l:Iw n=true
 a:∀i (h1:i < n.Ah.length) (h2:i < n.Ae.length) (h3:i < n.down.length) (h4:i < n.up.length),M8 n.Ar.Ad (ck i) i n.Ah[i] n.Ae[i] n.down[i] n.up[i]=true
theorem Bo {n:En}:A8 n=true↔GN (fun _=>n.Ab.Ai) n:=by
 rw [Rh]
 constructor
 ·rintro ⟨h1,h2,h3,h4⟩
  obtain ⟨q1,q2,q3,q4⟩:=Bz.1 h3
  exact ⟨h1,h2,h3,fun i a b c d=>by rw [←R9 a b c d];exact h4 i (by omega)⟩
 ·rintro ⟨h1,h2,h3,h4⟩
  obtain ⟨q1,q2,q3,q4⟩:=Bz.1 h3
  exact ⟨h1,h2,h3,fun i hi=>by rw [R9 (by omega) (by omega) (by omega) (by omega)];exact h4 i _ _ _ _⟩
def Wk (ck:Nat→Int) (i:Nat) (c:Int):Nat→Int:=fun j=>if j=i then c else ck j
structure RN (par:List Int) (clk:Int) (i:Nat) (e:Bl) (r:A7) (d u:List Aw):Prop where
 hd:D9 d=true
 hu:D9 u=true
 hk:Tu u=true
 hz:i=0→Jm e=true∧O7 r=true∧d.length=0∧u.length=0
 hf:i≠0→Hj par ((i:Nat):Int)=true→Jm e=true∧C7 r=true∧r.Ai=clk
 hn:i≠0→Hj par ((i:Nat):Int)=false→Bc e=true∧e.Ai=clk∧O7 r=true
theorem Kw {par:List Int} {clk:Int} {i:Nat} {e:Bl} {r:A7} {d u:List Aw}:M8 par clk i e r d u=true↔RN par clk i e r d u:=by
 unfold M8
 constructor
 ·intro h
  simp only [Bool.and_eq_true] at h
  obtain ⟨⟨⟨h1,h2⟩,h3⟩,h4⟩:=h
  refine ⟨h1,h2,h3,fun e=>?_,fun e l=>?_,fun e l=>?_⟩
  ·rw [if_pos e] at h4
   simp only [Bool.and_eq_true,decide_eq_true_eq] at h4
   exact ⟨h4.1.1.1,h4.1.1.2,h4.1.2,h4.2⟩
  ·rw [if_neg e,if_pos l] at h4
   simp only [Bool.and_eq_true,decide_eq_true_eq] at h4
   exact ⟨h4.1.1,h4.1.2,h4.2⟩
  ·rw [if_neg e,if_neg (by rw [l];decide)] at h4
   simp only [Bool.and_eq_true,decide_eq_true_eq] at h4
   exact ⟨h4.1.1,h4.1.2,h4.2⟩
 ·intro h
  rw [h.hd,h.hu,h.hk,Bool.true_and,Bool.true_and,Bool.true_and]
  by_cases e:i=0
  ·rw [if_pos e]
   obtain ⟨a,b,c,d⟩:=h.hz e
   rw [a,b,decide_eq_true c,decide_eq_true d];rfl
  ·rw [if_neg e]
   cases l:Hj par ((i:Nat):Int)
   ·obtain ⟨a,b,c⟩:=h.hn e l
    rw [if_neg (by decide),a,decide_eq_true b,c];rfl
   ·obtain ⟨a,b,c⟩:=h.hf e l
    rw [if_pos rfl,a,b,decide_eq_true c];rfl
theorem GN.rn {ck:Nat→Int} {n:En} (h:GN ck n) {i:Nat} (hi:i < n.Ar.Ad.length):∃(h1:i < n.Ah.length) (h2:i < n.Ae.length) (h3:i < n.down.length) (h4:i < n.up.length),RN n.Ar.Ad (ck i) i n.Ah[i] n.Ae[i] n.down[i] n.up[i]:=by
 obtain ⟨q1,q2,q3,q4⟩:=Bz.1 h.l
 exact ⟨by omega,by omega,by omega,by omega,Kw.1 (h.a i _ _ _ _)⟩
theorem GN.mk' {ck:Nat→Int} {n:En} (h1:Et n.Ar=true) (h2:Cb n.Ab=true) (h3:Iw n=true) (h4:∀i (h1:i < n.Ah.length) (h2:i < n.Ae.length) (h3:i < n.down.length) (h4:i < n.up.length),RN n.Ar.Ad (ck i) i n.Ah[i] n.Ae[i] n.down[i] n.up[i]):GN ck n :=
 ⟨h1,h2,h3,fun i a b c d=>Kw.2 (h4 i a b c d)⟩
theorem GN.src {ck:Nat→Int} {n:En} {s:Cj} (h:GN ck n) (hs:Cb s=true):GN ck ⟨n.Ar,s,n.Ah,n.Ae,n.down,n.up⟩:=⟨h.t,hs,h.l,h.a⟩
theorem GN.el {ck:Nat→Int} {n:En} {i:Nat} {e:Bl} (h:GN ck n) (h0:i≠0) (hl:Hj n.Ar.Ad ((i:Nat):Int)=false) (he:Bc e=true):GN (Wk ck i e.Ai) ⟨n.Ar,n.Ab,n.Ah.set i e,n.Ae,n.down,n.up⟩:=by
 obtain ⟨q1,q2,q3,q4⟩:=Bz.1 h.l
 refine .mk' h.t h.s (Bz.2 ⟨by simpa using q1,q2,q3,q4⟩) fun j h1 h2 h3 h4=>?_
 have h1':j < n.Ah.length:=by simpa using h1
 have r:=Kw.1 (h.a j h1' h2 h3 h4)
 refine ⟨r.hd,r.hu,r.hk,fun e0=>?_,fun e0 l=>?_,fun e0 l=>?_⟩
 ·have:=r.hz e0
  rwa [List.getElem_set_ne (by omega)]
 ·have hne:i≠j:=fun e1=>by subst e1;rw [hl] at l;cases l
  have:=r.hf e0 l
  rw [List.getElem_set_ne hne]
  unfold Wk;rw [if_neg (Ne.symm hne)];exact this
 ·have:=r.hn e0 l
  by_cases e1:i=j
  ·subst e1
   rw [List.getElem_set_self]
   unfold Wk;rw [if_pos rfl];exact ⟨he,rfl,this.2.2⟩
  ·rw [List.getElem_set_ne e1]
   unfold Wk;rw [if_neg (Ne.symm e1)];exact this
theorem GN.rc {ck:Nat→Int} {n:En} {i:Nat} {x:A7} (h:GN ck n) (h0:i≠0) (hl:Hj n.Ar.Ad ((i:Nat):Int)=true) (he:C7 x=true):GN (Wk ck i x.Ai) ⟨n.Ar,n.Ab,n.Ah,n.Ae.set i x,n.down,n.up⟩:=by
 obtain ⟨q1,q2,q3,q4⟩:=Bz.1 h.l
 refine .mk' h.t h.s (Bz.2 ⟨q1,by simpa using q2,q3,q4⟩) fun j h1 h2 h3 h4=>?_
 have h2':j < n.Ae.length:=by simpa using h2
 have r:=Kw.1 (h.a j h1 h2' h3 h4)
 refine ⟨r.hd,r.hu,r.hk,fun e0=>?_,fun e0 l=>?_,fun e0 l=>?_⟩
 ·have:=r.hz e0
  rwa [List.getElem_set_ne (by omega)]
 ·have:=r.hf e0 l
  by_cases e1:i=j
  ·subst e1
   rw [List.getElem_set_self]
   unfold Wk;rw [if_pos rfl];exact ⟨this.1,he,rfl⟩
  ·rw [List.getElem_set_ne e1]
   unfold Wk;rw [if_neg (Ne.symm e1)];exact this
 ·have hne:i≠j:=fun e1=>by subst e1;rw [hl] at l;cases l
  have:=r.hn e0 l
  rw [List.getElem_set_ne hne]
  unfold Wk;rw [if_neg (Ne.symm hne)];exact this
theorem Afd {q ps:List Aw} (hq:Tu q=true) (hp:∀p∈ps,p.Cm=3):Tu (E5 q ps)=true:=by
 unfold Tu E5 at *
 rw [List.all_append,hq,Bool.true_and,List.all_eq_true]
 exact fun p h=>decide_eq_true (hp p (List.mem_of_mem_take h))
theorem GN.dn {ck:Nat→Int} {n:En} (h:GN ck n) (i:Nat) (f:List Aw→List Aw) (h0:i=0→f []=[]) (hf:∀q,D9 q=true→D9 (f q)=true):GN ck ⟨n.Ar,n.Ab,n.Ah,n.Ae,n.down.modify i f,n.up⟩:=by
 obtain ⟨q1,q2,q3,q4⟩:=Bz.1 h.l
 refine .mk' h.t h.s (Bz.2 ⟨q1,q2,by simpa using q3,q4⟩) fun j h1 h2 h3 h4=>?_
 have h3':j < n.down.length:=by simpa using h3
 have r:=Kw.1 (h.a j h1 h2 h3' h4)
 by_cases e1:i=j
 ·subst e1
  simp only [List.getElem_modify_eq]
  refine ⟨hf _ r.hd,r.hu,r.hk,fun e0=>?_,r.hf,r.hn⟩
  obtain ⟨a,b,c,d⟩:=r.hz e0
  refine ⟨a,b,?_,d⟩
  rw [List.length_eq_zero_iff.1 c,h0 e0];rfl
 ·simp only [List.getElem_modify,if_neg e1]
  exact r
theorem GN.un {ck:Nat→Int} {n:En} (h:GN ck n) (i:Nat) (f:List Aw→List Aw) (h0:i=0→f []=[]) (hf:∀q,D9 q=true→Tu q=true→D9 (f q)=true∧Tu (f q)=true):GN ck ⟨n.Ar,n.Ab,n.Ah,n.Ae,n.down,n.up.modify i f⟩:=by
 obtain ⟨q1,q2,q3,q4⟩:=Bz.1 h.l
 refine .mk' h.t h.s (Bz.2 ⟨q1,q2,q3,by simpa using q4⟩) fun j h1 h2 h3 h4=>?_
 have h4':j < n.up.length:=by simpa using h4
 have r:=Kw.1 (h.a j h1 h2 h3 h4')
 by_cases e1:i=j
 ·subst e1
  simp only [List.getElem_modify_eq]
  refine ⟨r.hd,(hf _ r.hu r.hk).1,(hf _ r.hu r.hk).2,fun e0=>?_,r.hf,r.hn⟩
  obtain ⟨a,b,c,d⟩:=r.hz e0
  refine ⟨a,b,c,?_⟩
  rw [List.length_eq_zero_iff.1 d,h0 e0];rfl
 ·simp only [List.getElem_modify,if_neg e1]
  exact r
theorem GN.sp {ck:Nat→Int} {ps:List Aw} (hp:∀p∈ps,Bk p=true):∀{nodes:List Int} {n:En},GN ck n→(∀x∈nodes,x.toNat≠0)→GN ck ⟨n.Ar,n.Ab,n.Ah,n.Ae,Dk n.down nodes ps,n.up⟩
 | [],_,h,_=>h
 | x::r,n,h,hx=>GN.sp hp (nodes:=r) (n:=⟨n.Ar,n.Ab,n.Ah,n.Ae,n.down.modify x.toNat fun q=>E5 q ps,n.up⟩) (h.dn x.toNat _ (fun e=>absurd e (hx x (by simp))) fun q hq=>Vh hq hp) fun y hy=>hx y (by simp [hy])
theorem Xp {q:List Aw} (h:D9 q=true):D9 (q.drop 1)=true:=by
 unfold D9 at *
 simp only [Bool.and_eq_true,decide_eq_true_eq,List.all_eq_true] at h ⊢
 exact ⟨by rw [List.length_drop];omega,fun p hp=>h.2 p (List.mem_of_mem_drop hp)⟩
theorem Akt {q:List Aw} (h:Tu q=true):Tu (q.drop 1)=true:=by
 unfold Tu at *
 simp only [List.all_eq_true] at h ⊢
 exact fun p hp=>h p (List.mem_of_mem_drop hp)
theorem GN.pd {ck:Nat→Int} {n:En} (h:GN ck n) (i:Nat):GN ck (Kz n i):=h.dn i _ (fun _=>rfl) fun _=>Xp
theorem GN.pu {ck:Nat→Int} {n:En} (h:GN ck n) (i:Nat):GN ck (Jf n i):=h.un i _ (fun _=>rfl) fun _ a b=>⟨Xp a,Akt b⟩
def Qt (l:List G0):Prop:=∀s∈l,s.Df.size≤8
theorem Z4 {s:ByteArray} (h:s.size≤8):(Ad7 s).size≤9:=by
 unfold Ad7
 have:(⟨#[43]⟩:ByteArray).size=1:=rfl
 rw [ByteArray.size_append];omega
theorem Aeg {l:List G0} (h:Qt l):(Er l).size≤9:=by
 unfold Er
 cases l with
 | nil=>decide
 | cons s r =>
  dsimp only
  split
  ·exact Z4 (h s (by simp))
  ·decide
theorem Ajz:∀(l:List G0) (n:Int),Qt l→∀e∈(rel n l).2.2,e.size≤9
 | [],_,_,e,he=>by simp [rel] at he
 | s::r,n,h,e,he=>by
  unfold rel at he
  split at he
  ·rcases List.mem_cons.1 he with rfl|he
   ·exact Z4 (h s (by simp))
   ·exact Ajz r _ (fun x hx=>h x (by simp [hx])) e he
  ·simp at he
theorem Aff {w:Am} (h:Qt w.An):∀e∈Nv w,e.size≤9:=Ajz w.An w.next h
theorem Ae1:∀(k:Nat) (w:Am),Qt w.An→(∀e∈Ly k w,e.size≤9)∧Qt (Gk k w).An
 | 0,w,h=>⟨fun e he=>by simp [Ly] at he,h⟩
 | k+1,w,h=>by
  have ih:=Ae1 k (Tt w) fun s hs=>h s (List.mem_of_mem_drop hs)
  refine ⟨fun e he=>?_,ih.2⟩
  unfold Ly at he
  rcases List.mem_cons.1 he with rfl|he
  ·exact Aeg h
  ·exact ih.1 e he
theorem Tp {w:Am} (h:C0 w=true):Qt w.An:=fun s hs=>by
 obtain ⟨n0,n1,hl,hit⟩:=Wo h
 exact hit s hs
theorem Aco {w:Am} {t:Int} (h:Qt w.An):∀e∈Hv w t,e.size≤9:=fun e he=>by
 have hg:=Ae1 (D0 w.next t) w h
 unfold Hv at he
 rcases List.mem_append.1 he with he|he
 ·exact hg.1 e he
 ·exact Aff hg.2 e he
theorem Ag5 {w:Am} {t:Int} (h:C0 w=true):(Hv w t).length≤40000:=by
 have h1:=(P5 (t:=t) h).2.2.1
 have h2:D0 w.next t≤32767:=by
  unfold D0
  split
  ·rename_i hb
   unfold Pa Gs at hb
   simp only [Bool.and_eq_true,decide_eq_true_eq] at hb
   omega
  ·omega
 omega
theorem Amb {x:Am} {k:Nat} {s:G0} (h:Qt x.An) (hs:s.Df.size≤8):Qt (Jb x k s):=fun y hy=>by
 unfold Jb at hy
 rcases List.mem_or_eq_of_mem_set hy with hy|rfl
 ·unfold Je at hy
  rcases List.mem_append.1 hy with hy|hy
  ·exact h y hy
  ·rw [List.eq_of_mem_replicate hy];decide
 ·exact hs
theorem Alp {r:A7} {p:Aw} (hg:Ju r) (hp:Bk p=true):∀e∈Gm r p,e.size≤1000000:=fun e he=>by
 have hd:p.data.size≤8:=by
  unfold Bk Nq at hp
  simp only [Bool.and_eq_true,decide_eq_true_eq] at hp
  omega
 have hst:=(O6 hg hp).1
 have htk:=(Qx hg hp).1
 unfold Gm at he
 split at he
 ·unfold Jw at he
  rcases List.mem_append.1 he with he|he
  ·unfold In at he
   split at he
   ·simp at he
   ·unfold I5 at he
    split at he
    ·simp at he
    ·have:=Aff (w:=Ue (Dl r p) p.Ac p.data) (Amb (s:=⟨true,p.data⟩) (Tp hst) hd) e he;omega
  ·unfold L6 at he
   split at he
   ·split at he
    ·have:=Aco (Tp htk) e he;omega
    ·rw [List.mem_singleton] at he;subst he;decide
   ·simp at he
 ·simp at he
theorem Vp {r:A7} (hg:Ju r):(∀e∈Ez r,e.size≤1000000)∧(Ez r).length≤40000:=by
 unfold Ez
 split
 ·exact ⟨fun e he=>by simp at he,by simp⟩
 ·exact ⟨fun e he=>by have:=Aco (Tp hg.w) e he;omega,Ag5 hg.w⟩
theorem Adz {e:Bl} (h:Bc e=true) (hc:e.Ai < 9999):Bc (Dw e)=true:=by
 obtain ⟨h1,h2,h3,h4⟩:=Ew.1 h
 have h5:=J4.1 h1
 unfold Dw
 refine Ew.2 ⟨J4.2 ⟨by show 0≤e.Ai+1;omega,by show e.Ai+1≤9999;omega⟩,Nat.le_trans (List.length_filter_le _ _) h2,fun x hx=>?_,h4.filter _⟩
 obtain ⟨hx1,hx2⟩:=List.mem_filter.1 hx
 obtain ⟨a,b,c,d,f⟩:=L5.1 (h3 x hx1)
 simp only [Bool.not_eq_true',decide_eq_false_iff_not] at hx2
 exact L5.2 ⟨a,b,c,by show e.Ai+1+1≤x.By;omega,by show x.By≤e.Ai+1+6;omega⟩
theorem Ag4 {k n t l:Int} {s:ByteArray} (hk:1≤k∧k≤5) (hn:Bx n=true) (ht:Bx t=true) (hl:Bx l=true) (hg:gp t l≤32767) (hs:Nq s=true) (he:s=⟨#[]⟩∨k≤2):Bk ⟨k,n,t,l,s⟩=true:=by
 unfold Bk Gs
 simp only [Bool.and_eq_true,Bool.or_eq_true,decide_eq_true_eq]
 refine ⟨⟨⟨⟨⟨⟨hk,hn⟩,ht⟩,hl⟩,hs⟩,hg⟩,?_⟩
 rcases he with h|h
 ·exact .inl (.inl h)
 ·by_cases h1:k=1
  ·exact .inl (.inr h1)
  ·exact .inr (by omega)
theorem Ws:Nq ⟨#[]⟩=true:=by decide
theorem Aaz {x:Az} (h:Dj x=true):Bx x.Ak=true∧Bx (Kr x)=true∧gp x.Ak (Kr x)≤32767:=by
 obtain ⟨⟨t0,t1⟩,⟨s0,s1⟩,hl, -⟩:=Ea.1 h
 refine ⟨A4.2 ⟨t0,t1⟩,Me _ _,?_⟩
 unfold Kr gp Ca
 omega
theorem Aac {x:Az} (h:Dj x=true):Bk (N7 x)=true:=by
 obtain ⟨a,b,c⟩:=Aaz h
 exact Ag4 (by decide) a a b c Ws (.inl rfl)
theorem Aek {x:Az} {q:Int} (h:Dj x=true):∀p∈Kg x q,Bk p=true:=fun p hp=>by
 unfold Kg at hp
 split at hp
 ·simp at hp
 ·rw [List.mem_singleton] at hp;subst hp;exact Aac h
theorem Aih {x:Az} {n:Int} (h:Dj x=true) (hn:Bx n=true) (hh:Gw x n=true):Bk (Abx x n)=true:=by
 obtain ⟨a,b,c⟩:=Aaz h
 have hi:=(Ea.1 h).2.2.2
 have hl:=T9 hh
 exact Ag4 (by decide) hn a b c (by rw [Py hl];exact List.all_eq_true.1 hi _ (List.getElem_mem hl)) (.inr (by decide))
theorem Zj {x:Az} {n:Int} (h:Dj x=true) (hn:Bx n=true):Bk (T3 x n)=true:=by
 obtain ⟨a,b,c⟩:=Aaz h
 exact Ag4 (by decide) hn a b c Ws (.inl rfl)
theorem Ahg {x:Cj} {p:Aw} (h:Dj x.Aa=true) (hp:Bk p=true) (hk:p.Cm=3):∀r∈Lo x p,Bk r=true:=fun r hr=>by
 have hn:=A4.2 (If hp)
 unfold Lo at hr
 split at hr
 ·rename_i hh
  split at hr
  ·rw [List.mem_singleton] at hr;subst hr;exact Zj h hn
  ·simp only [List.mem_cons,List.not_mem_nil,or_false] at hr
   rcases hr with rfl|rfl
   ·exact Zj h hn
   ·rw [show Da x.Aa p=(Abx x.Aa p.Ac,true) by unfold Da Hx;rw [h,hp,hh,decide_eq_true hk];rfl]
    exact Aih h hn hh
 ·rw [List.mem_singleton] at hr;subst hr;exact Aac h
theorem Aha {x:Az} {s:ByteArray} (h:Dj x=true) (hs:Nq s=true):Bk (Dd x s)=true:=by
 obtain ⟨⟨t0,t1⟩,⟨s0,s1⟩,hl, -⟩:=Ea.1 h
 have hr:=Na t0 t1
 have hrl:(Db x).Aj.length≤6:=by
  unfold Db
  split
  ·show (x.Aj.drop 1).length≤6
   rw [List.length_drop];omega
  ·omega
 refine Ag4 (by decide) (Me _ _) (A4.2 hr) (Me _ _) ?_ hs (.inr (by decide))
 unfold gp Ca
 omega
theorem Ain {p:Aw} (h:Bk p=true):Bk (Uy p)=true:=by
 unfold Bk at h
 simp only [Bool.and_eq_true,decide_eq_true_eq] at h
 exact Ag4 (by decide) h.1.1.1.1.1.2 h.1.1.1.1.2 h.1.1.1.2 h.1.2 Ws (.inl rfl)
theorem Wc {r:A7} (h:Ju r):∀p∈D8 r,Bk p=true∧p.Cm=3:=fun p hp=>by
 unfold D8 at hp
 obtain ⟨k,hk,rfl⟩:=List.mem_map.1 hp
 obtain ⟨q,hq,hs⟩:=List.mem_filterMap.1 hk
 obtain ⟨-, -,q2, -⟩:=Di.1 h.q
 have hn:=(Dx.1 (q2 q hq)).n
 have hw:=Wo h.w
 have e:k=q.Ac:=by
  unfold My at hs
  split at hs
  ·cases hs
  ·split at hs
   ·cases hs
   ·split at hs
    ·exact (Option.some.inj hs).symm
    ·cases hs
 subst e
 have hx:=A4.2 ⟨hw.n0,hw.n1⟩
 exact ⟨Ag4 (by decide) hn hx hx (by unfold gp;omega) Ws (.inl rfl),rfl⟩
theorem GN.ck {ck ck':Nat→Int} {n:En} (h:GN ck n) (he:∀i,i≠0→i < n.Ar.Ad.length→ck i=ck' i):GN ck' n:=by
 obtain ⟨q1,q2,q3,q4⟩:=Bz.1 h.l
 refine .mk' h.t h.s h.l fun i h1 h2 h3 h4=>?_
 have r:=Kw.1 (h.a i h1 h2 h3 h4)
 exact ⟨r.hd,r.hu,r.hk,r.hz,fun e0 l=>by rw [←he i e0 (by omega)];exact r.hf e0 l,fun e0 l=>by rw [←he i e0 (by omega)];exact r.hn e0 l⟩
theorem Wp {l:List Int} (hg:Mu l) (i:Nat):∀x∈Gb l ((i:Nat):Int),x.toNat≠0:=fun x hx=>by have:=Jj hg hx;omega
theorem Aei {ck:Nat→Int} {n:En} {i:Nat} (h:GN ck n) (h0:i≠0) (hi:i < n.Ar.Ad.length) (hc:ck i < 9999):GN (Wk ck i (ck i+1)) (Lf n i).1:=by
 obtain ⟨h1,h2,h3,h4,r⟩:=h.rn hi
 obtain ⟨d0,d1⟩:1≤J0 i∧J0 i≤8:=by unfold J0;omega
 unfold Lf
 cases hl:Hj n.Ar.Ad ((i:Nat):Int)
 ·rw [if_neg (by decide)]
  obtain ⟨he,e2,e3⟩:=r.hn h0 hl
  have e:So n i=n.Ah[i]:=by unfold So;rw [List.getD_eq_getElem?_getD,List.getElem?_eq_getElem h1];rfl
  have:=h.el h0 hl (Adz (e:=n.Ah[i]) he (by omega))
  rw [show (Dw n.Ah[i]).Ai=ck i+1 by rw [←e2];rfl] at this
  rw [e];exact this
 ·rw [if_pos rfl]
  obtain ⟨he,e2,e3⟩:=r.hf h0 hl
  have e:Wj n i=n.Ae[i]:=by unfold Wj;rw [List.getD_eq_getElem?_getD,List.getElem?_eq_getElem h2];rfl
  have hg:=Hc.1 e2
  have ht:=Ahp hg (by omega) d0 d1
  have:=h.rc h0 hl (Hc.2 ht)
  rw [show (Cn n.Ae[i] (J0 i)).Ai=ck i+1 by unfold Cn;split <;> (show n.Ae[i].Ai+1=_;rw [e3])] at this
  rw [e]
  exact this.un i _ (fun e=>absurd e h0) fun q a b=>⟨Vh a fun p hp=>(Wc hg p hp).1,Afd b fun p hp=>(Wc hg p hp).2⟩
theorem Yt (n:En) (i:Nat):(Lf n i).1.Ar=n.Ar∧(Lf n i).1.Ab=n.Ab:=by unfold Lf;split <;> exact ⟨rfl,rfl⟩
def ckT (c:Int) (k:Nat):Nat→Int:=fun j=>if j≤k then c+1 else c
theorem Ny {n:En} (hg:A8 n=true) (hc:n.Ab.Ai < 9999):∀k,k+1≤n.Ar.Ad.length→GN (ckT n.Ab.Ai k) (A9 n k).1∧(A9 n k).1.Ar=n.Ar∧(A9 n k).1.Ab=Jy n.Ab
 | 0,_=>by
  have h:=Bo.1 hg
  have ht:=Ll h.t
  refine ⟨?_,rfl,rfl⟩
  have h2:=((h.src (Agc h.s hc)).sp (Aek (q:=n.Ab.quiet) (Ev.1 h.s).1) (Wp ht 0)).ck (ck':=ckT n.Ab.Ai 0) fun i h0 _=>by unfold ckT;rw [if_neg (by omega)]
  exact h2
 | k+1,hk=>by
  obtain ⟨h1,h2,h3⟩:=Ny hg hc k (by omega)
  obtain ⟨t1,t2⟩:=Yt (A9 n k).1 (k+1)
  have e:ckT n.Ab.Ai k (k+1)=n.Ab.Ai:=by unfold ckT;rw [if_neg (by omega)]
  have:=Aei h1 (i:=k+1) (by omega) (by rw [h2];omega) (by rw [e];exact hc)
  refine ⟨this.ck fun i h0 hi=>?_,t1.trans h2,t2.trans h3⟩
  rw [e]
  unfold Wk ckT
  by_cases c1:i=k+1
  ·rw [if_pos c1,if_pos (by omega)]
  ·rw [if_neg c1]
   by_cases c2:i≤k
   ·rw [if_pos c2,if_pos (by omega)]
   ·rw [if_neg c2,if_neg (by omega)]
theorem Aej {n:En} (hg:A8 n=true) (hc:n.Ab.Ai < 9999):A8 (D7 n).1=true:=by
 have h:=Bo.1 hg
 have ht:=Ll h.t
 have:=ht.n0
 obtain ⟨h1,h2,h3⟩:=Ny hg hc (n.Ar.Ad.length - 1) (by omega)
 refine Bo.2 ?_
 show GN (fun _=>(A9 n (n.Ar.Ad.length - 1)).1.Ab.Ai) _
 rw [h3]
 exact h1.ck fun i h0 hi=>by rw [h2] at hi;unfold ckT;rw [if_pos (by omega)];rfl
structure Fa where
 Cm:Int
 node:Int
 data:ByteArray
def Kk:Bp Fa where
 sz:=3
 Jg _ cs x F:=cs=[.int .i64 x.Cm,.int .i64 x.node,.string x.data]∧x.data.size≤maxLen∧F=[]
 len h:=by obtain ⟨rfl,s1,rfl⟩:=h;rfl
 lt h:=by obtain ⟨rfl,s1,rfl⟩:=h;simp
 frame h _:=h
theorem Vf:Us Kk:=fun h u hu=>by
 obtain ⟨rfl,s1,rfl⟩:=h
 simp only [List.mem_cons,List.not_mem_nil,or_false] at hu
 rcases hu with rfl|rfl|rfl
 ·rfl
 ·rfl
 ·rfl
section
variable {c:Cx} {fr:Fr} {H:List Pc} {Φ:Gl}
theorem M0 {α:Type} {E:Bp α} {hz:0 < E.sz} {a:Option Addr} {n cp:Nat} {xs:List (List α)} {F:List Nat} (i:Nat) (h:∀(hi:i < xs.length) (b o:Nat) (a1:Option Addr) (c1:Nat) (F1:List Nat),a=some ⟨b,o,none⟩→xs[i].length≤maxLen→T c fr (.cel b (o+i * 1) [.slice a1 xs[i].length c1]::.sl E (.slice a1 xs[i].length c1) xs[i] F1::H) Φ) (hm:.sl (Kj E hz) (.slice a n cp) xs F∈H:=by exact Bw) (hi:i < xs.length:=by omega):T c fr H Φ:=.mk fun ac w s g=>by
 obtain ⟨b,o,cs,G,ha,hrep,hG,hb,hne,hr⟩:=Rs (s.get hm) i hi
 obtain ⟨v1,rfl,h1⟩:=hrep
 obtain ⟨a1,c1,rfl⟩:=h1.slice;have l1:=h1.len
 have t1:=s.ro (p:=.sl E (.slice a1 xs[i].length c1) xs[i] G) hm rfl rfl ⟨hz,h1⟩ (by intro b hb;simp only [Pc.F] at hb ⊢;exact hG b (by simp [hb]))
 exact (h hi b o a1 c1 G ha l1).h ac w (t1.ro (List.mem_cons_of_mem _ hm) rfl rfl ⟨hne,hr⟩ (by intro x hx;simp [Pc.F] at hx;subst hx;exact hb)) g
theorem Aa3 {α:Type} {O:Bp α} {t:TypeId} {v:Value} {xs:List α} {F:List Nat} {S:List Pc} (h:∀(a1:Option Addr) (c1:Nat),v=.agg #[.slice a1 xs.length c1]→xs.length≤maxLen→T c fr (.ow O t (.slice a1 xs.length c1) xs F::S) Φ) (hp:Cu H (.own (H9 O t) v xs F) S:=by exact Dv):T c fr H Φ:=.mk fun a w s g=>by
 have z1:=s.pick hp
 obtain ⟨hn,cs,rfl,v1,rfl,h1⟩:=z1.on (.own (H9 O t) v xs F) (by simp)
 obtain ⟨a1,c1,rfl⟩:=h1.slice
 have l1:=h1.len
 exact (h a1 c1 rfl l1).h a w (z1.conv rfl ⟨hn,h1⟩ (fun b hb=>hb)) g
theorem Ox {α:Type} {O:Bp α} {t:TypeId} (xs:List α) {a1:Option Addr} {c1:Nat} {F:List Nat} {S:List Pc} (h:T c fr (.own (H9 O t) (.agg #[.slice a1 xs.length c1]) xs F::S) Φ) (hp:Cu H (.ow O t (.slice a1 xs.length c1) xs F) S:=by exact Dv):T c fr H Φ:=.mk fun a w s g=>by
 have z1:=s.pick hp
 obtain ⟨hn,h1⟩:=z1.on (.ow O t (.slice a1 xs.length c1) xs F) (by simp)
 exact h.h a w (z1.conv rfl ⟨hn,_,rfl,_,rfl,h1⟩ (fun b hb=>hb)) g
end
theorem Xn {α:Type} {l:List α} {i:Nat} (h:i < l.length) (x:α):l.getD i x=l[i]:=by rw [List.getD_eq_getElem?_getD,List.getElem?_eq_getElem h];rfl
theorem Vd (d:List (List Aw)) (i:Nat) (p:Aw) (a:Option Addr) (n c:Nat) (F:List Nat) (hn:n=d.length) (hi:i < d.length) (hs:p.data.size≤maxLen):Fn prog 138 [.slice a n c,.int .i64 (i:Nat),.agg #[.int .i64 (p).Cm,.int .i64 (p).Ac,.int .i64 (p).Ak,.int .i64 (p).Dy,.string (p).data]] [] [.ow (H9 Al 110) 86 (.slice a n c) d F] (fun (_:List Nat)=>True) (fun _=>.tuple #[]) (fun G=>[.ow (H9 Al 110) 86 (.slice a n c) (d.set i (P6 d[i] p)) G]):=by
 refine enter func138 rfl ntmps138 fun w0=>?_
 refine Y6 (m:=1) i ?_ rfl hi
 rintro _ g A cs B k1 k2 G1 Gi G2 rfl - hc hH
 refine Aa3 ?_
 rintro a5 c5 ev l5
 obtain rfl:cs=[.slice a5 d[i].length c5]:=by simpa using ev
 refine go ?_;intros
 refine Bd rfl (fun h1=>?_) (fun h1=>?_)
 ·have h6:d[i].length < 6:=by omega
  rw [show P6 d[i] p=d[i]++[p] by unfold P6;rw [if_pos h6]]
  refine go ?_;intros
  refine Av [0,2] [10] ?_
  refine dt 0 ?_
  refine dt 1 ?_
  refine dt 2 ?_
  refine dt 3 ?_
  refine dt 4 ?_
  refine dt 5 ?_
  refine dt 6 ?_
  refine dO 7 (by kernel_rfl) (by rw [List.getElem?_toArray];rfl) ?_
  apply Hh;rfl;rfl;rfl;rfl;exact Gz;exact Gp;intro _
  refine dk ?_
  refine dO 8 (by kernel_rfl) (by rw [List.getElem?_toArray];rfl) ?_
  refine Lh (ys:=[p]) (Cz p hs) Gn fun a7 c7 F7=>?_
  refine dk ?_
  refine dt 9 ?_
  refine dO 10 (by kernel_rfl) (by rw [List.getElem?_toArray];rfl) ?_
  apply Cf;rfl;rfl;rfl;(first|exact AggC.s|exact OneC.s);rfl;exact Ci;exact Cg;rfl
  refine Lv ?_
  refine dd ?_
  refine Ox (d[i]++[p]) ?_
  refine go ?_;intros
  refine Vt _ hH rfl fun F6=>?_
  refine Qv ?_
  refine ret F6 trivial rfl
 ·rw [show P6 d[i] p=d[i] by unfold P6;rw [if_neg (by omega)]]
  refine go ?_;intros
  refine Ox d[i] ?_
  refine Vt _ hH rfl fun F6=>?_
  refine Qv ?_
  refine ret F6 trivial rfl
theorem Z7 (q l:List Aw) (p:Aw):E5 q (l++[p])=P6 (E5 q l) p:=by
 unfold E5 P6
 by_cases h:l.length < 6 - q.length
 ·rw [List.take_of_length_le (by rw [List.length_append];simp;omega),List.take_of_length_le (by omega),if_pos (by rw [List.length_append];omega),List.append_assoc]
 ·have e:(l++[p]).take (6 - q.length)=l.take (6 - q.length):=by rw [List.take_append_of_le_length (by omega)]
  rw [e,if_neg (by rw [List.length_append,List.length_take];omega)]
def Nu (s:List (List Aw)) (i:Nat) (ps:List Aw):List (List Aw):=s.modify i fun q=>E5 q ps
theorem Z5 (s:List (List Aw)) (i:Nat) (ps:List Aw):(Nu s i ps).length=s.length:=List.length_modify ..
theorem Z6 (s:List (List Aw)) (i:Nat):Nu s i []=s:=by
 unfold Nu
 by_cases h:i < s.length
 ·rw [Hf h,Acz,List.set_getElem_self]
 ·exact X5 h
theorem Ya {s:List (List Aw)} {i j:Nat} {ps:List Aw} (hi:i < s.length) (hj:j < ps.length) (h:i < (Nu s i (ps.take j)).length):(Nu s i (ps.take j)).set i (P6 (Nu s i (ps.take j))[i] ps[j])=Nu s i (ps.take (j+1)):=by
 unfold Nu
 simp only [Hf hi]
 rw [List.getElem_set_self,List.set_set,List.take_succ_eq_append_getElem hj,Z7]
theorem Wb {d:List (List Aw)} {nodes:List Int} {ps:List Aw} {k:Nat} (hk:k < nodes.length):Dk d (nodes.take (k+1)) ps=Nu (Dk d (nodes.take k) ps) nodes[k].toNat ps:=by rw [List.take_succ_eq_append_getElem hk,Ac7];rfl
structure KF where
 k:Nat
 F:List Nat
theorem Td (d:List (List Aw)) (nodes:List Int) (ps:List Aw) (g:Nat) (v0 v1 v2 v3 v4 v5 v6 v7 v8 v10:Value) (a:Option Addr) (n c:Nat) (F:List Nat) (an:Option Addr) (cn:Nat) (Fn_:List Nat) (ap:Option Addr) (cp:Nat) (Fp:List Nat) (hn:n=d.length) (hx:∀x∈nodes,0≤x∧x.toNat < d.length) :
  Fn prog 79 [Eo g 0 0,.slice an nodes.length cn,.slice ap ps.length cp] [.sl Be (.slice an nodes.length cn) nodes Fn_,.sl Al (.slice ap ps.length cp) ps Fp] [.row g 37 0 [] [v0,v1,v2,v3,v4,v5,v6,v7,v8,.slice a n c,v10] [],.ow (H9 Al 110) 86 (.slice a n c) d F] (fun (_:List Nat)=>True) (fun _=>.tuple #[]) (fun G=>[.row g 37 0 [] [v0,v1,v2,v3,v4,v5,v6,v7,v8,.slice a n c,v10] [],.ow (H9 Al 110) 86 (.slice a n c) (Dk d nodes ps) G]):=by
 refine enter func79 rfl ntmps79 fun w0=>?_
 refine Qw (E:=Be) (xs:=nodes) ?_
 rintro _ _ e0 hn1 hn2
 refine Qw (E:=Al) (xs:=ps) ?_
 rintro _ _ e3 hp1 hp2
 refine Rt (E:=Al) (fun p:Aw=>p.data.size≤maxLen) (fun w cs x F h=>by obtain ⟨_,h,_⟩:=h;exact h) ?_
 intro hz
 cases e0;cases e3
 refine go ?_;intros
 refine Cq [0,2,10,11] (fun z:KF=>[(12,.int .i64 (z.k:Nat))]) (fun z=>[.ow (H9 Al 110) 86 (.slice a n c) (Dk d (nodes.take z.k) ps) z.F]) (fun z=>z.k≤nodes.length) (fun z=>nodes.length - z.k) ⟨0,_⟩ (Nat.zero_le _) fun z hz0=>?_
 have hsl:=Tr ps (nodes.take z.k) d
 refine go ?_;intros
 refine Bd rfl (fun h1=>?_) (fun h1=>?_)
 ·have hk:z.k < nodes.length:=by omega
  obtain ⟨x0,x1⟩:=hx _ (List.getElem_mem hk)
  obtain ⟨i,hi⟩:∃i:Nat,nodes[z.k]=((i:Nat):Int):=⟨nodes[z.k].toNat,by omega⟩
  have hil:i < (Dk d (nodes.take z.k) ps).length:=by omega
  have hst:=Wb (d:=d) (ps:=ps) hk
  rw [show nodes[z.k].toNat=i by omega] at hst
  refine Il (xs:=nodes) z.k ?_
  rintro hi2 b o e1
  rw [e1,hi]
  refine go ?_;intros
  rw [show Dk d (nodes.take z.k) ps=Nu (Dk d (nodes.take z.k) ps) i (ps.take 0) by rw [List.take_zero,Z6]]
  refine Cq [0,2,7,10,11,12,13,14,15,16,17] (fun y:KF=>[(18,.int .i64 (y.k:Nat))]) (fun y=>[.ow (H9 Al 110) 86 (.slice a n c) (Nu (Dk d (nodes.take z.k) ps) i (ps.take y.k)) y.F]) (fun y=>y.k≤ps.length) (fun y=>ps.length - y.k) ⟨0,z.F⟩ (Nat.zero_le _) fun y hy0=>?_
  have hpl:=Z5 (Dk d (nodes.take z.k) ps) i (ps.take y.k)
  refine go ?_;intros
  refine Bd rfl (fun h2=>?_) (fun h2=>?_)
  ·have hj:y.k < ps.length:=by omega
   refine Lj (xs:=ps) y.k ?_
   rintro hi3 b3 o3 e3 s3
   rw [e3]
   refine go ?_;intros
   refine Av [0,4] [] ?_
   refine dt 0 ?_
   refine dt 1 ?_
   refine dt 2 ?_
   refine dt 3 ?_
   refine dt 4 ?_
   refine dt 5 ?_
   refine dO 6 (by kernel_rfl) (by rw [List.getElem?_toArray];rfl) ?_
   apply At;rfl;kernel_rfl;exact Bb
   refine cf (Vd (Nu (Dk d (nodes.take z.k) ps) i (ps.take y.k)) i ps[y.k] a n c y.F (by omega) (by omega) s3) fun f1 _=>?_
   refine Ao ?_
   rw [Ya hil hj]
   refine dk ?_
   refine dd ?_
   refine go ?_;intros
   refine Co ⟨y.k+1,f1⟩ hj (by show ps.length - (y.k+1) < ps.length - y.k;omega)
  ·rw [show ps.take y.k=ps from List.take_of_length_le (by omega),←hst]
   refine go ?_;intros
   refine Co ⟨z.k+1,y.F⟩ hk (by show nodes.length - (z.k+1) < nodes.length - z.k;omega)
 ·rw [show nodes.take z.k=nodes from List.take_of_length_le (by omega)]
  refine go ?_;intros
  refine Qv ?_
  refine ret z.F trivial rfl
def zP:Aw:=⟨0,0,0,0,⟨#[]⟩⟩
def Mt (q:List Aw):Aw:=q.headD zP
theorem Rp {q:List Aw} (h:0 < q.length):Mt q=q[0]:=by
 cases q with
 | nil=>cases h
 | cons p r=>rfl
theorem Anj (xs:List Aw) (n i:Nat) (j:Int) (a:Option Addr) (c:Nat) (F:List Nat) (hn:n=xs.length) (hi:i < xs.length) (hj:j=(i:Int)+1) (hl:xs.length≤1000000) :
  Fn prog 204 [.slice a n c,.int .i64 i,.int .i64 j] [] [.ow Al 110 (.slice a n c) xs F] (fun (_:Option Addr × Nat × List Nat)=>True)
   (fun z=>.slice z.1 (xs.take i++xs.drop (i+1)).length z.2.1) (fun z=>[.ow Al 110 (.slice z.1 (xs.take i++xs.drop (i+1)).length z.2.1) (xs.take i++xs.drop (i+1)) z.2.2]):=by
 subst hn
 refine enter func204 rfl ntmps204 fun w0=>?_
 refine Abd (xs:=xs) Iz (by rintro rfl;simp at hi) ?_
 rintro g rfl rfl - hc1 hc2
 refine go ?_;intros
 apply wO
 refine Acr (i:=i) (j:=i+1) (l:=xs.length) rfl rfl rfl rfl rfl rfl (by omega) rfl (by omega) (by omega) hc1 (fun _=>?_)
 refine go ?_;intros
 refine Bd rfl (fun h=>absurd h (by omega)) (fun _=>?_)
 refine go ?_;intros
 refine Av [] [] ?_
 refine dt 0 ?_
 refine dt 1 ?_
 refine dt 2 ?_ (hy:=Lt (i:=i) rfl rfl rfl (by omega) (by omega))
 refine dt 3 ?_
 refine dt 4 ?_
 refine dt 5 ?_ (hy:=Akx (i:=i+1) rfl rfl (by omega) (by omega) hc1)
 refine dO 6 (by kernel_rfl) (by rw [List.getElem?_toArray];rfl) ?_
 refine Ajh (m:=5) (i:=i) (j:=i+1) (q:=if c=i+1 then 0 else 0+(i+1) * 5) (g:=g) (cp:=c) (n:=xs.length) Iz Gn rfl rfl rfl rfl (fun h=>by rw [if_neg (by omega)];omega) (by omega) (by omega) rfl (by repeat (first|exact .here|apply Cu.there)) ?_
 refine dk ?_
 refine dt 7 ?_
 refine dd ?_
 refine go ?_;intros
 apply wO;apply oc;rfl;exact Afn (i:=i+(xs.length - (i+1))) (j:=xs.length) rfl rfl rfl rfl rfl (by omega) (by omega) hc1
 refine go ?_;intros
 apply wO
 refine Ae8 (xs:=xs.take i++xs.drop (i+1)++xs.drop (i+(xs.length - (i+1)))) (z0:=zP) (n:=xs.length) (cp:=c) (i:=i+(xs.length - (i+1))) (g:=g) Iz (fun w=>⟨rfl,Nat.zero_le _,rfl⟩) (by decide) rfl rfl (by omega) (by exact Ii) (by repeat (first|exact .here|apply Cu.there)) ?_
 have hk:(xs.take i++xs.drop (i+1)).length=i+(xs.length - (i+1)):=by exact Ii
 refine Abg (xs:=(xs.take i++xs.drop (i+1)++xs.drop (i+(xs.length - (i+1)))).take (i+(xs.length - (i+1)))++List.replicate (xs.length - (i+(xs.length - (i+1)))) zP) (i+(xs.length - (i+1))) (fun F2=>?_) (by exact Ii)
 rw [List.take_left' (by rw [List.take_left' hk,hk]),List.take_left' hk,←hk]
 refine go ?_;intros
 refine ret (_,c,F2) trivial rfl
theorem Ao8 (xs:List Aw) (a:Option Addr) (c:Nat) (F:List Nat) (hl:xs.length≤1000000000) :
  Fn prog 134 [.slice a xs.length c] [.sl Al (.slice a xs.length c) xs F] [] (fun (_:Option Addr × Nat × List Nat)=>True) (fun z=>.slice z.1 xs.length z.2.1) (fun z=>[.ow Al 110 (.slice z.1 xs.length z.2.1) xs z.2.2]):=by
 refine enter func134 rfl ntmps134 fun w0=>?_
 refine go ?_;intros
 cases a with
 | none =>
  refine Akn (xs:=xs) fun h0=>?_
  subst h0
  apply wO;apply oc;rfl;exact Abk rfl
  refine B7 Al 110 ?_
  refine go ?_;intros
  refine ret (none,0,[]) trivial rfl
 | some ad =>
  apply wO;apply oc;rfl;exact Abk rfl
  refine go ?_;intros
  refine C1 Al ?_
  apply wO
  refine Kx Gn Iz fun a2 c2 F2=>?_
  rw [List.nil_append]
  refine go ?_;intros
  refine ret (a2,c2,F2) trivial rfl
theorem X6 (d:List (List Aw)) (i:Nat) (a:Option Addr) (n c:Nat) (F:List Nat) (hn:n=d.length) (hi:i < d.length) (h6:d[i].length≤6):Fn prog 146 [.slice a n c,.int .i64 (i:Nat)] [] [.ow (H9 Al 110) 86 (.slice a n c) d F] (fun (_:List Nat)=>True) (fun _=>.tuple #[.agg #[.int .i64 (Mt d[i]).Cm,.int .i64 (Mt d[i]).Ac,.int .i64 (Mt d[i]).Ak,.int .i64 (Mt d[i]).Dy,.string (Mt d[i]).data],.bool (decide (0 < d[i].length))]) (fun G=>[.ow (H9 Al 110) 86 (.slice a n c) (d.set i (d[i].drop 1)) G]):=by
 refine enter func146 rfl ntmps146 fun w0=>?_
 refine Y6 (m:=1) i ?_ rfl hi
 rintro _ g A cs B k1 k2 G1 Gi G2 rfl - hc hH
 refine Aa3 ?_
 rintro a5 c5 ev l5
 obtain rfl:cs=[.slice a5 d[i].length c5]:=by simpa using ev
 refine go ?_;intros
 refine Bd rfl (fun h1=>?_) (fun h1=>?_)
 ·have h0:d[i]=[]:=List.length_eq_zero_iff.1 (by omega)
  rw [h0]
  refine go ?_;intros
  refine Ox [] ?_
  refine Vt _ hH rfl fun F6=>?_
  refine ret F6 trivial rfl
 ·have h0:0 < d[i].length:=by omega
  rw [decide_eq_true h0,Rp h0]
  refine Af2 (xs:=d[i]) 0 ?_
  rintro _ g2 A2 B2 rfl rfl sz hH2
  refine Jq ?_;intros
  refine Nc d[i][0] hH2 (fun w=>⟨rfl,sz,rfl⟩) ?_
  rw [List.set_getElem_self]
  refine go ?_;intros
  refine cf (Anj d[i] d[i].length 0 1 _ c5 _ rfl h0 rfl (by omega)) fun z _=>?_
  refine Ao ?_
  rw [show d[i].take 0++d[i].drop (0+1)=d[i].drop 1 by simp]
  refine go ?_;intros
  refine Ox (d[i].drop 1) ?_
  refine Vt _ hH rfl fun F6=>?_
  refine ret F6 trivial rfl
def Q3 (l:List (List Aw)) (k:Nat):List (List Aw):=l.take k++List.replicate (l.length - k) []
theorem Af0 {l:List (List Aw)} {k:Nat} (h:k≤l.length):(Q3 l k).length=l.length:=by unfold Q3;simp;omega
theorem Af1 {l:List (List Aw)} {k:Nat} (h:k < l.length):(Q3 l k).set k l[k]=Q3 l (k+1):=by
 unfold Q3
 have e:List.replicate (l.length - k) ([]:List Aw)=[]::List.replicate (l.length - (k+1)) []:=by rw [show l.length - k=(l.length - (k+1))+1 by omega,List.replicate_succ]
 have hl:(l.take k).length=k:=by rw [List.length_take];omega
 rw [e,List.set_append_right _ _ (by omega),hl,Nat.sub_self,List.set_cons_zero,List.take_succ_eq_append_getElem h,List.append_assoc];rfl
theorem Hk (l:List (List Aw)) (a:Option Addr) (c:Nat) (F:List Nat) (hl:l.length≤1000000) (hq:∀q∈l,q.length≤1000000000):Fn prog 76 [.slice a l.length c] [.sl (Kj Al (by decide)) (.slice a l.length c) l F] [] (fun (_:Nat × List Nat)=>True) (fun z=>.slice (some ⟨z.1,0,none⟩) l.length l.length) (fun z=>[.ow (H9 Al 110) 86 (.slice (some ⟨z.1,0,none⟩) l.length l.length) l z.2]):=by
 refine enter func76 rfl ntmps76 fun w0=>?_
 refine go ?_;intros
 apply wO
 refine Ajl l.length (cs:=(List.replicate l.length ([.slice none 0 0]:List Value)).flatten) rfl rfl rfl (X4 _ _) (by omega) (by omega) fun g=>?_
 refine Ee (E:=H9 Al 110) (xs:=List.replicate l.length []) (fun w=>Cp.rep0 (E:=H9 Al 110) (w:=w) (zs:=[.slice none 0 0]) (z:=([]:List Aw)) ⟨_,rfl,.inl ⟨rfl,rfl,rfl⟩⟩ _) ?_ (by rw [List.length_replicate];omega)
 rw [List.length_replicate,show List.replicate l.length ([]:List Aw)=Q3 l 0 by unfold Q3;simp]
 refine go ?_;intros
 refine Cq [2,3,9,10] (fun z:KF=>[(11,.int .i64 (z.k:Nat))]) (fun z=>[.ow (H9 Al 110) 86 (.slice (some ⟨g,0,none⟩) l.length l.length) (Q3 l z.k) z.F]) (fun z=>z.k≤l.length) (fun z=>l.length - z.k) ⟨0,_⟩ (Nat.zero_le _) fun z hz0=>?_
 have hfl:=Af0 hz0
 refine go ?_;intros
 refine Bd rfl (fun h1=>?_) (fun h1=>?_)
 ·have hk:z.k < l.length:=by omega
  refine M0 (E:=Al) (hz:=by decide) (xs:=l) z.k ?_
  rintro hi6 b6 o6 a11 c11 F11 rfl l11
  refine Y6 (xs:=Q3 l z.k) (m:=1) z.k ?_ rfl (by omega)
  rintro _ g2 A cs B k1 k2 G1 Gi G2 e2 - hc hH
  cases e2
  refine Aa3 ?_
  rintro a5 c5 ev l5
  obtain rfl:cs=[.slice a5 (Q3 l z.k)[z.k].length c5]:=by simpa using ev
  refine go ?_;intros
  refine cf (Ao8 l[z.k] a11 c11 F11 (hq _ (List.getElem_mem hk))) fun y _=>?_
  refine Ao ?_
  refine go ?_;intros
  refine Ox l[z.k] ?_
  refine Vt _ hH rfl fun F6=>?_
  rw [Af1 hk]
  refine go ?_;intros
  refine Co ⟨z.k+1,F6⟩ hk (by show l.length - (z.k+1) < l.length - z.k;omega)
 ·rw [show Q3 l z.k=l by unfold Q3;rw [show z.k=l.length by omega];simp]
  refine go ?_;intros
  refine ret (g,z.F) trivial rfl
def Dg (s:Fa):Bool:=if s.Cm=1 then decide (s.node=0) && Nq s.data else if s.Cm=4 then decide (s.node=0) && decide (s.data=⟨#[]⟩) else Gs 1 s.Cm 6 && Mx s.node && decide (s.data=⟨#[]⟩)
def Rb (s:Fa):Bool:=decide (s.Cm=5) || decide (s.Cm=6)
def P7 (n:En) (s:Fa):List Aw:=(if Rb s then n.up else n.down).getD s.node.toNat []
def Fh (n:En) (s:Fa):En:=if Rb s then Jf n s.node.toNat else Kz n s.node.toNat
def Cv (n:En) (s:Fa):Option (En × List ByteArray) :=
 if (n.Ar.Ad.length:Int)≤s.node then none
 else if (P7 n s).length=0 then none
 else if s.Cm=2 then some (C2 (Fh n s) s.node.toNat (Mt (P7 n s)))
 else if s.Cm=5 then some (Nd (Fh n s) s.node.toNat (Mt (P7 n s)),[])
 else some (Fh n s,[])
def Cd (n:En) (s:Fa):Option (En × List ByteArray) :=
 if s.Cm=1 then some (Mp n s.data,[])
 else if s.Cm=4 then (if n.Ab.Ai=9999 then none else some (D7 n))
 else Cv n s
def Fm (n:En) (r:Option (En × List ByteArray)):En:=match r with|some x=>x.1|none=>n
def Aa4 (r:Option (En × List ByteArray)):List ByteArray:=match r with|some x=>x.2|none=>[]
theorem Ahk {n:En} {s:ByteArray} (h:A8 n=true) (hs:Nq s=true):A8 (Mp n s)=true:=by
 have hg:=Bo.1 h
 have ht:=Ll hg.t
 exact Bo.2 (((hg.src (Agb hg.s hs)).sp (fun p hp=>by rw [List.mem_singleton] at hp;subst hp;exact Aha (Ev.1 hg.s).1 hs) (Wp ht 0)))
theorem Vu {ck:Nat→Int} {i:Nat} {c:Int} (h:ck i=c):Wk ck i c=ck:=by
 funext j;unfold Wk
 by_cases e:j=i
 ·rw [if_pos e,e,h]
 ·rw [if_neg e]
theorem Afz {e:Bl} {n:Int} {l:List Int}:∀x∈Q8 e n l,x∈l:=Xj
theorem Aca (r:A7) (p:Aw) (d:Int):(C6 r p d).Ai=r.Ai:=by
 unfold C6
 split
 ·rfl
 ·split <;> rfl
theorem Aeb (e:Bl) (n f:Int):(Ki e n f).Ai=e.Ai:=by
 unfold Ki
 split
 ·rfl
 ·split <;> rfl
theorem Aea (e:Bl) (n:Int):(Mn e n).Ai=e.Ai:=by unfold Mn;split <;> rfl
theorem Ads {n:En} {i:Nat} {p:Aw} (h:A8 n=true) (h0:i≠0) (hi:i < n.Ar.Ad.length) (hp:Bk p=true):A8 (C2 n i p).1=true:=by
 have hg:=Bo.1 h
 have ht:=Ll hg.t
 obtain ⟨h1,h2,h3,h4,r⟩:=hg.rn hi
 have d0:1≤J0 i∧J0 i≤8:=by unfold J0;omega
 have ee:So n i=n.Ah[i]:=by unfold So;rw [List.getD_eq_getElem?_getD,List.getElem?_eq_getElem h1];rfl
 have er:Wj n i=n.Ae[i]:=by unfold Wj;rw [List.getD_eq_getElem?_getD,List.getElem?_eq_getElem h2];rfl
 have hps:∀q∈[p],Bk q=true:=fun q hq=>by rw [List.mem_singleton] at hq;rw [hq];exact hp
 unfold C2
 cases hl:Hj n.Ar.Ad ((i:Nat):Int)
 ·rw [if_neg (by decide)]
  obtain ⟨he,e2, -⟩:=r.hn h0 hl
  by_cases hk:p.Cm=2
  ·have:=(hg.el h0 hl (Af8 (n:=p.Ac) he)).sp hps (nodes:=Q8 n.Ah[i] p.Ac (Ub n i)) (fun x hx=>Wp ht i x (Afz x hx))
   rw [Vu (show (fun _=>n.Ab.Ai) i=(Mn n.Ah[i] p.Ac).Ai by rw [Aea,e2])] at this
   unfold Adu
   rw [if_pos hk,if_pos hk,ee]
   exact Bo.2 this
  ·unfold Adu
   rw [if_neg hk,if_neg hk]
   exact Bo.2 (hg.sp hps (Wp ht i))
 ·rw [if_pos rfl,er]
  obtain ⟨-,e2,e3⟩:=r.hf h0 hl
  have:=hg.rc h0 hl (Hc.2 (Se (d:=J0 i) (Hc.1 e2) hp d0.1 d0.2).1)
  rw [Vu (show (fun _=>n.Ab.Ai) i=(C6 n.Ae[i] p (J0 i)).Ai by rw [Aca,e3])] at this
  exact Bo.2 this
theorem Amt {n:En} {i:Nat} {p:Aw} (h:A8 n=true) (h0:i≠0) (hi:i < n.Ar.Ad.length) (hp:Bk p=true) (hk:p.Cm=3):A8 (Nd n i p)=true:=by
 have hg:=Bo.1 h
 have ht:=Ll hg.t
 have hone:∀x∈[((i:Nat):Int)],x.toNat≠0:=fun x hx=>by rw [List.mem_singleton] at hx;subst hx;omega
 have h1:=ht.p i hi (by omega)
 have e:n.Ar.Ad.getD i 0=n.Ar.Ad[i]:=by rw [List.getD_eq_getElem?_getD,List.getElem?_eq_getElem hi];rfl
 obtain ⟨k,hkk⟩:∃k,X8 n i=k:=⟨_,rfl⟩
 have hk2:n.Ar.Ad[i]=((k:Nat):Int):=by unfold X8 at hkk;rw [e] at hkk;omega
 unfold Nd
 rw [hkk]
 by_cases hz:k=0
 ·rw [if_pos hz]
  have:=(hg.src (Aiz (n:=p.Ac) hg.s (If hp))).sp (Ahg (Ev.1 hg.s).1 hp hk) hone
  refine Bo.2 ?_
  rw [show (Jr n.Ab p.Ac).Ai=n.Ab.Ai by unfold Jr;split <;> rfl]
  exact this
 ·rw [if_neg hz]
  have hkl:k < n.Ar.Ad.length:=by omega
  obtain ⟨r1,r2,r3,r4,r⟩:=hg.rn hkl
  have ee:So n k=n.Ah[k]:=by unfold So;rw [List.getD_eq_getElem?_getD,List.getElem?_eq_getElem r1];rfl
  have hl:Hj n.Ar.Ad ((k:Nat):Int)=false:=by
   unfold Hj;rw [←hk2,decide_eq_true (List.getElem_mem hi)];rfl
  obtain ⟨he,e2, -⟩:=r.hn hz hl
  rw [ee]
  have hf:Mx ((i:Nat):Int)=true:=M5.2 ⟨by omega,by have:=ht.n1;omega⟩
  have:=(hg.el hz hl (Af9 he (A4.2 (If hp)) hf)).sp (nodes:=[((i:Nat):Int)]) (ps:=[Uy p]) (fun q hq=>by rw [List.mem_singleton] at hq;rw [hq];exact Ain hp) hone
  rw [Vu (show (fun _=>n.Ab.Ai) k=(Ki n.Ah[k] p.Ac ((i:Nat):Int)).Ai by rw [Aeb,e2])] at this
  refine Bo.2 ?_
  split
  ·exact this.un k _ (fun e=>absurd e hz) fun q a b=>⟨Vh a fun x hx=>by rw [List.mem_singleton] at hx;rw [hx];exact hp,Afd b fun x hx=>by rw [List.mem_singleton] at hx;rw [hx];exact hk⟩
  ·exact this
theorem Kv {n:En} {s:Fa} (h:A8 n=true):D9 (P7 n s)=true∧(Rb s=true→Tu (P7 n s)=true):=by
 have hg:=Bo.1 h
 obtain ⟨q1,q2,q3,q4⟩:=Bz.1 hg.l
 unfold P7
 by_cases hi:s.node.toNat < n.Ar.Ad.length
 ·obtain ⟨h1,h2,h3,h4,r⟩:=hg.rn hi
  cases Rb s
  ·rw [if_neg (by decide),Xn h3]
   exact ⟨r.hd,fun e=>by cases e⟩
  ·rw [if_pos rfl,Xn h4]
   exact ⟨r.hu,fun _=>r.hk⟩
 ·have e:((if Rb s then n.up else n.down).getD s.node.toNat [])=[]:=by
   rw [List.getD_eq_getElem?_getD,List.getElem?_eq_none (by split <;> omega)];rfl
  rw [e];exact ⟨rfl,fun _=>rfl⟩
theorem Jk {n:En} {s:Fa} (h:A8 n=true):A8 (Fh n s)=true:=by
 have hg:=Bo.1 h
 unfold Fh
 split
 ·exact Bo.2 (hg.pu _)
 ·exact Bo.2 (hg.pd _)
theorem Nt {q:List Aw} (h:0 < q.length):Mt q∈q:=by rw [Rp h];exact List.getElem_mem _
theorem Lz {q:List Aw} (h:D9 q=true) {p:Aw} (hp:p∈q):Bk p=true:=by
 unfold D9 at h
 rw [Bool.and_eq_true] at h
 exact List.all_eq_true.1 h.2 p hp
theorem Ams {q:List Aw} (h:Tu q=true) {p:Aw} (hp:p∈q):p.Cm=3:=of_decide_eq_true (List.all_eq_true.1 h p hp)
theorem Ada {n:En} {s:Fa} {r:En × List ByteArray} (h:A8 n=true) (hn:Mx s.node=true) (hr:Cv n s=some r):A8 r.1=true:=by
 have hf:=M5.1 hn
 have hpg:=Jk (s:=s) h
 have hq:=Kv (s:=s) h
 have htl:(Fh n s).Ar=n.Ar:=by unfold Fh;split <;> rfl
 unfold Cv at hr
 split at hr
 ·cases hr
 ·rename_i h1
  split at hr
  ·cases hr
  ·rename_i h2
   have hm:=Nt (q:=P7 n s) (by omega)
   have hpk:=Lz hq.1 hm
   have hi:s.node.toNat < (Fh n s).Ar.Ad.length:=by rw [htl];omega
   split at hr
   ·cases hr;exact Ads hpg (by omega) hi hpk
   ·split at hr
    ·rename_i h5
     cases hr
     exact Amt hpg (by omega) hi hpk (Ams (hq.2 (by unfold Rb;rw [decide_eq_true h5];rfl)) hm)
    ·cases hr;exact hpg
theorem Uk {x:Cj} (h:Cb x=true):0≤x.Ai∧x.Ai≤9999:=by
 unfold Cb at h
 simp only [Bool.and_eq_true] at h
 exact J4.1 h.1.1.2
theorem Id {n:En} {s:Fa} {r:En × List ByteArray} (h:A8 n=true) (hs:Dg s=true) (hr:Cd n s=some r):A8 r.1=true:=by
 unfold Cd at hr
 unfold Dg at hs
 split at hr
 ·rename_i h1
  rw [if_pos h1,Bool.and_eq_true] at hs
  cases hr
  exact Ahk h hs.2
 ·rename_i h1
  split at hr
  ·rename_i h4
   split at hr
   ·cases hr
   ·rename_i hc
    cases hr
    have:=Uk (Bo.1 h).s
    exact Aej h (by omega)
  ·rename_i h4
   rw [if_neg h1,if_neg h4] at hs
   simp only [Bool.and_eq_true] at hs
   exact Ada h hs.1.2 hr
structure Aig (n:En):Prop where
 t:n.Ar.Ad.length≤1000000
 i:n.Ab.Aa.Aj.length≤1000000
 h:n.Ab.holds.length≤1000000
 e:n.Ah.length≤1000000
 e1:∀x∈n.Ah,x.Af.length≤1000000
 e2:∀x∈n.Ah,∀y∈x.Af,y.Bg.length≤1000000
 rl:n.Ae.length≤1000000
 r:∀x∈n.Ae,x.Aa.An.length≤1000000∧x.Ap.length≤1000000
 d:n.down.length≤1000000
 dq:∀q∈n.down,q.length≤1000000
 u:n.up.length≤1000000
 uq:∀q∈n.up,q.length≤1000000
structure ClN where
 g:Nat
 a1:Option Addr
 c1:Nat
 F1:List Nat
 a2:Option Addr
 c2:Nat
 F2:List Nat
 a3:Option Addr
 c3:Nat
 F3:List Nat
 g6:Nat
 F6:List Nat
 g7:Nat
 F7:List Nat
structure NV where
 a1:Option Addr
 c1:Nat
 F1:List Nat
 a2:Option Addr
 c2:Nat
 F2:List Nat
 a3:Option Addr
 c3:Nat
 F3:List Nat
 a4:Option Addr
 c4:Nat
 F4:List Nat
 a5:Option Addr
 c5:Nat
 F5:List Nat
 a6:Option Addr
 c6:Nat
 F6:List Nat
 a7:Option Addr
 c7:Nat
 F7:List Nat
structure KA where
 k:Nat
 a:Option Addr
 c:Nat
 F:List Nat
theorem Abs (n:En) (v:Value) (F:List Nat) (hs:Aig n):Fn prog 33 [v] [.isv Lr v n F] [] (fun (_:NV)=>True) (fun z=>.agg #[.slice z.a1 n.Ar.Ad.length z.c1,.int .i64 n.Ab.Aa.Ak,.int .i64 n.Ab.Aa.size,.slice z.a2 n.Ab.Aa.Aj.length z.c2,.int .i64 n.Ab.Ai,.int .i64 n.Ab.quiet,.slice z.a3 n.Ab.holds.length z.c3,.slice z.a4 n.Ah.length z.c4,.slice z.a5 n.Ae.length z.c5,.slice z.a6 n.down.length z.c6,.slice z.a7 n.up.length z.c7]) (fun z=>[.ow Be 3 (.slice z.a1 n.Ar.Ad.length z.c1) n.Ar.Ad z.F1,.ow A6 9 (.slice z.a2 n.Ab.Aa.Aj.length z.c2) n.Ab.Aa.Aj z.F2,.ow Bi 134 (.slice z.a3 n.Ab.holds.length z.c3) n.Ab.holds z.F3,.ow B4 77 (.slice z.a4 n.Ah.length z.c4) n.Ah z.F4,.ow Bt 84 (.slice z.a5 n.Ae.length z.c5) n.Ae z.F5,.ow (H9 Al 110) 86 (.slice z.a6 n.down.length z.c6) n.down z.F6,.ow (H9 Al 110) 86 (.slice z.a7 n.up.length z.c7) n.up z.F7]):=by
 refine enter func33 rfl ntmps33 fun w0=>?_
 refine C9 ?_
 rintro a1 c1 F1 a2 c2 F2 a3 c3 F3 a4 c4 F4 a5 c5 F5 a6 c6 F6 a7 c7 F7 rfl l1 l2 l3 l4 l5 l6 l7
 refine Dt n.Ab ?_
 refine go ?_;intros
 refine Ep [1,2] [0,1,6,7] (fun z:ClN=>[(3,Eo z.g 0 0)]) (fun z=>[.row z.g 37 0 [] [.slice z.a1 n.Ar.Ad.length z.c1,.int .i64 n.Ab.Aa.Ak,.int .i64 n.Ab.Aa.size,.slice z.a2 n.Ab.Aa.Aj.length z.c2,.int .i64 n.Ab.Ai,.int .i64 n.Ab.quiet,.slice z.a3 n.Ab.holds.length z.c3,.slice none 0 0,.slice none 0 0,.slice (some ⟨z.g6,0,none⟩) n.down.length n.down.length,.slice (some ⟨z.g7,0,none⟩) n.up.length n.up.length] [],.ow Be 3 (.slice z.a1 n.Ar.Ad.length z.c1) n.Ar.Ad z.F1,.ow A6 9 (.slice z.a2 n.Ab.Aa.Aj.length z.c2) n.Ab.Aa.Aj z.F2,.ow Bi 134 (.slice z.a3 n.Ab.holds.length z.c3) n.Ab.holds z.F3,.ow (H9 Al 110) 86 (.slice (some ⟨z.g6,0,none⟩) n.down.length n.down.length) n.down z.F6,.ow (H9 Al 110) 86 (.slice (some ⟨z.g7,0,none⟩) n.up.length n.up.length) n.up z.F7]) (fun _=>True) ?_ fun z _=>?_
 ·refine Av [1] [] ?_
  refine dt 0 ?_
  refine dt 1 ?_
  refine dt 2 ?_
  refine dt 5 ?_
  refine dt 6 ?_
  refine dt 8 ?_
  refine dt 9 ?_
  refine dt 11 ?_
  refine dt 12 ?_
  refine Nn 3 15 (by kernel_rfl) (by rw [List.getElem?_toArray];rfl) (by rw [List.getElem?_toArray];rfl) ?_ ?_
  ·apply At;rfl;kernel_rfl;exact Bb
   refine cn (fun w st=>Rz _ n.Ar.Ad F1 w (st.get (p:=.sl Be (.slice a1 n.Ar.Ad.length c1) n.Ar.Ad F1) (by exact Bw)).2 (by have:=hs.t;omega)) fun b1 d1 G1=>?_
   refine dk ?_
   refine dt 4 ?_
   refine Nn 7 15 (by kernel_rfl) (by rw [List.getElem?_toArray];rfl) (by rw [List.getElem?_toArray];rfl) ?_ ?_
   ·apply At;rfl;kernel_rfl;exact Bb
    refine cf (W8 n.Ab _ _ (by have:=hs.i;omega) (by have:=hs.h;omega)) fun s2 _=>?_
    refine Ao ?_
    refine Ro (x:=n.Ab) ?_
    rintro b2 d2 G2 b3 d3 G3 e2 - -
    rw [e2]
    refine dk ?_
    refine Nn 10 15 (by kernel_rfl) (by rw [List.getElem?_toArray];rfl) (by rw [List.getElem?_toArray];rfl) ?_ ?_
    ·apply At;rfl;kernel_rfl;exact Bb
     refine cf (Hk n.down _ _ F6 (by have:=hs.d;omega) (fun q hq=>by have:=hs.dq q hq;omega)) fun s6 _=>?_
     refine Ao ?_
     refine dk ?_
     refine Nn 13 15 (by kernel_rfl) (by rw [List.getElem?_toArray];rfl) (by rw [List.getElem?_toArray];rfl) ?_ ?_
     ·apply At;rfl;kernel_rfl;exact Bb
      refine cf (Hk n.up _ _ F7 (by have:=hs.u;omega) (fun q hq=>by have:=hs.uq q hq;omega)) fun s7 _=>?_
      refine Ao ?_
      refine dk ?_
      refine dt 14 ?_
      refine dO 15 (by kernel_rfl) (by rw [List.getElem?_toArray];rfl) ?_
      apply Bv;rfl;intro _
      refine dk ?_
      refine dO 16 (by kernel_rfl) (by rw [List.getElem?_toArray];rfl) ?_
      apply Cf;rfl;rfl;rfl;(first|exact AggC.s|exact OneC.s);rfl;exact Ci;exact Cg;rfl
      refine dk ?_
      refine dd ?_
      refine B6 (⟨_,b1,d1,G1,b2,d2,G2,b3,d3,G3,_,_,_,_⟩:ClN) trivial
     ·apply Bv;rfl;intro _
      refine dk ?_
      refine dO 13 (by kernel_rfl) (by rw [List.getElem?_toArray];rfl) ?_
      apply At;rfl;kernel_rfl;exact Bb
      refine cf (Hk n.up _ _ F7 (by have:=hs.u;omega) (fun q hq=>by have:=hs.uq q hq;omega)) fun s7 _=>?_
      refine Ao ?_
      refine dk ?_
      refine dt 14 ?_
      refine dO 16 (by kernel_rfl) (by rw [List.getElem?_toArray];rfl) ?_
      apply Cf;rfl;rfl;rfl;(first|exact AggC.s|exact OneC.s);rfl;exact Ci;exact Cg;rfl
      refine dk ?_
      refine dd ?_
      refine B6 (⟨_,b1,d1,G1,b2,d2,G2,b3,d3,G3,_,_,_,_⟩:ClN) trivial
    ·apply Bv;rfl;intro _
     refine dk ?_
     refine dO 10 (by kernel_rfl) (by rw [List.getElem?_toArray];rfl) ?_
     apply At;rfl;kernel_rfl;exact Bb
     refine cf (Hk n.down _ _ F6 (by have:=hs.d;omega) (fun q hq=>by have:=hs.dq q hq;omega)) fun s6 _=>?_
     refine Ao ?_
     refine dk ?_
     refine dO 13 (by kernel_rfl) (by rw [List.getElem?_toArray];rfl) ?_
     apply At;rfl;kernel_rfl;exact Bb
     refine cf (Hk n.up _ _ F7 (by have:=hs.u;omega) (fun q hq=>by have:=hs.uq q hq;omega)) fun s7 _=>?_
     refine Ao ?_
     refine dk ?_
     refine dt 14 ?_
     refine dO 16 (by kernel_rfl) (by rw [List.getElem?_toArray];rfl) ?_
     apply Cf;rfl;rfl;rfl;(first|exact AggC.s|exact OneC.s);rfl;exact Ci;exact Cg;rfl
     refine dk ?_
     refine dd ?_
     refine B6 (⟨_,b1,d1,G1,b2,d2,G2,b3,d3,G3,_,_,_,_⟩:ClN) trivial
   ·apply Bv;rfl;intro _
    refine dk ?_
    refine dO 7 (by kernel_rfl) (by rw [List.getElem?_toArray];rfl) ?_
    apply At;rfl;kernel_rfl;exact Bb
    refine cf (W8 n.Ab _ _ (by have:=hs.i;omega) (by have:=hs.h;omega)) fun s2 _=>?_
    refine Ao ?_
    refine Ro (x:=n.Ab) ?_
    rintro b2 d2 G2 b3 d3 G3 e2 - -
    rw [e2]
    refine dk ?_
    refine dO 10 (by kernel_rfl) (by rw [List.getElem?_toArray];rfl) ?_
    apply At;rfl;kernel_rfl;exact Bb
    refine cf (Hk n.down _ _ F6 (by have:=hs.d;omega) (fun q hq=>by have:=hs.dq q hq;omega)) fun s6 _=>?_
    refine Ao ?_
    refine dk ?_
    refine dO 13 (by kernel_rfl) (by rw [List.getElem?_toArray];rfl) ?_
    apply At;rfl;kernel_rfl;exact Bb
    refine cf (Hk n.up _ _ F7 (by have:=hs.u;omega) (fun q hq=>by have:=hs.uq q hq;omega)) fun s7 _=>?_
    refine Ao ?_
    refine dk ?_
    refine dt 14 ?_
    refine dO 16 (by kernel_rfl) (by rw [List.getElem?_toArray];rfl) ?_
    apply Cf;rfl;rfl;rfl;(first|exact AggC.s|exact OneC.s);rfl;exact Ci;exact Cg;rfl
    refine dk ?_
    refine dd ?_
    refine B6 (⟨_,b1,d1,G1,b2,d2,G2,b3,d3,G3,_,_,_,_⟩:ClN) trivial
  ·apply Bv;rfl;intro _
   refine dk ?_
   refine dO 3 (by kernel_rfl) (by rw [List.getElem?_toArray];rfl) ?_
   apply At;rfl;kernel_rfl;exact Bb
   refine cn (fun w st=>Rz _ n.Ar.Ad F1 w (st.get (p:=.sl Be (.slice a1 n.Ar.Ad.length c1) n.Ar.Ad F1) (by exact Bw)).2 (by have:=hs.t;omega)) fun b1 d1 G1=>?_
   refine dk ?_
   refine dt 4 ?_
   refine dO 7 (by kernel_rfl) (by rw [List.getElem?_toArray];rfl) ?_
   apply At;rfl;kernel_rfl;exact Bb
   refine cf (W8 n.Ab _ _ (by have:=hs.i;omega) (by have:=hs.h;omega)) fun s2 _=>?_
   refine Ao ?_
   refine Ro (x:=n.Ab) ?_
   rintro b2 d2 G2 b3 d3 G3 e2 - -
   rw [e2]
   refine dk ?_
   refine dO 10 (by kernel_rfl) (by rw [List.getElem?_toArray];rfl) ?_
   apply At;rfl;kernel_rfl;exact Bb
   refine cf (Hk n.down _ _ F6 (by have:=hs.d;omega) (fun q hq=>by have:=hs.dq q hq;omega)) fun s6 _=>?_
   refine Ao ?_
   refine dk ?_
   refine dO 13 (by kernel_rfl) (by rw [List.getElem?_toArray];rfl) ?_
   apply At;rfl;kernel_rfl;exact Bb
   refine cf (Hk n.up _ _ F7 (by have:=hs.u;omega) (fun q hq=>by have:=hs.uq q hq;omega)) fun s7 _=>?_
   refine Ao ?_
   refine dk ?_
   refine dt 14 ?_
   refine dO 16 (by kernel_rfl) (by rw [List.getElem?_toArray];rfl) ?_
   apply Cf;rfl;rfl;rfl;(first|exact AggC.s|exact OneC.s);rfl;exact Ci;exact Cg;rfl
   refine dk ?_
   refine dd ?_
   refine B6 (⟨_,b1,d1,G1,b2,d2,G2,b3,d3,G3,_,_,_,_⟩:ClN) trivial
 have he:=hs.e
 have hr:=hs.rl
 refine B7 B4 77 ?_
 refine go ?_;intros
 refine Cq [1,2,3,24,25] (fun y:KA=>[(26,.int .i64 (y.k:Nat))]) (fun y=>[.row z.g 37 0 [] [.slice z.a1 n.Ar.Ad.length z.c1,.int .i64 n.Ab.Aa.Ak,.int .i64 n.Ab.Aa.size,.slice z.a2 n.Ab.Aa.Aj.length z.c2,.int .i64 n.Ab.Ai,.int .i64 n.Ab.quiet,.slice z.a3 n.Ab.holds.length z.c3,.slice y.a (n.Ah.take y.k).length y.c,.slice none 0 0,.slice (some ⟨z.g6,0,none⟩) n.down.length n.down.length,.slice (some ⟨z.g7,0,none⟩) n.up.length n.up.length] [],.ow B4 77 (.slice y.a (n.Ah.take y.k).length y.c) (n.Ah.take y.k) y.F]) (fun y=>y.k≤n.Ah.length) (fun y=>n.Ah.length - y.k) ⟨0,none,0,[]⟩ (Nat.zero_le _) fun y hy=>?_
 refine go ?_;intros
 refine Bd rfl (fun h1=>?_) (fun h1=>?_)
 ·have hk:y.k < n.Ah.length:=by omega
  have htl:(n.Ah.take y.k).length≤1000000:=by rw [List.length_take];omega
  refine Of (xs:=n.Ah) y.k ?_
  rintro hi4 b4 o4 a8 c8 F8 e4 l8
  rw [e4]
  refine Eq n.Ah[y.k] ?_
  refine go ?_;intros
  refine Av [0,4] [7] ?_
  refine dt 0 ?_
  refine dt 1 ?_
  refine dt 2 ?_
  refine dO 3 (by kernel_rfl) (by rw [List.getElem?_toArray];rfl) ?_
  apply At;rfl;kernel_rfl;exact Bb
  refine cv (fun w st=>Wf _ n.Ah[y.k] F8 w (st.get (p:=.isv Bh (.agg #[.int .i64 n.Ah[y.k].Ai,.slice a8 n.Ah[y.k].Af.length c8]) n.Ah[y.k] F8) (by exact Bw)) (by have:=hs.e1 _ (List.getElem_mem hk);omega) (fun x hx=>by have:=hs.e2 _ (List.getElem_mem hk) x hx;omega)) fun v9 F9=>?_
  refine Gg (x:=n.Ah[y.k]) ?_
  rintro a9 c9 F10 rfl l9
  refine Ey n.Ah[y.k] ?_
  refine dk ?_
  refine dO 4 (by kernel_rfl) (by rw [List.getElem?_toArray];rfl) ?_
  apply Hh;rfl;rfl;rfl;rfl;exact Gz;exact Gp;intro _
  refine dk ?_
  refine dO 5 (by kernel_rfl) (by rw [List.getElem?_toArray];rfl) ?_
  refine Aal Qq n.Ah[y.k] rfl fun a7 c7 F7=>?_
  refine dk ?_
  refine dt 6 ?_
  refine dO 7 (by kernel_rfl) (by rw [List.getElem?_toArray];rfl) ?_
  apply Cf;rfl;rfl;rfl;(first|exact AggC.s|exact OneC.s);rfl;exact Ci;exact Cg;rfl
  refine Lv ?_
  refine dd ?_
  rw [←List.take_succ_eq_append_getElem hk]
  refine go ?_;intros
  refine Co ⟨y.k+1,a7,c7,F7⟩ hk (by show n.Ah.length - (y.k+1) < n.Ah.length - y.k;omega)
 rw [show n.Ah.take y.k=n.Ah from List.take_of_length_le (by omega)]
 obtain ⟨_,ea,ec,eF⟩:=y
 dsimp only
 refine B7 Bt 84 ?_
 refine go ?_;intros
 refine Cq [2,3,39,40] (fun y:KA=>[(41,.int .i64 (y.k:Nat))]) (fun y=>[.row z.g 37 0 [] [.slice z.a1 n.Ar.Ad.length z.c1,.int .i64 n.Ab.Aa.Ak,.int .i64 n.Ab.Aa.size,.slice z.a2 n.Ab.Aa.Aj.length z.c2,.int .i64 n.Ab.Ai,.int .i64 n.Ab.quiet,.slice z.a3 n.Ab.holds.length z.c3,.slice ea n.Ah.length ec,.slice y.a (n.Ae.take y.k).length y.c,.slice (some ⟨z.g6,0,none⟩) n.down.length n.down.length,.slice (some ⟨z.g7,0,none⟩) n.up.length n.up.length] [],.ow Bt 84 (.slice y.a (n.Ae.take y.k).length y.c) (n.Ae.take y.k) y.F]) (fun y=>y.k≤n.Ae.length) (fun y=>n.Ae.length - y.k) ⟨0,none,0,[]⟩ (Nat.zero_le _) fun y hy=>?_
 refine go ?_;intros
 refine Bd rfl (fun h2=>?_) (fun h2=>?_)
 ·have hk:y.k < n.Ae.length:=by omega
  have htl:(n.Ae.take y.k).length≤1000000:=by rw [List.length_take];omega
  refine Mz (xs:=n.Ae) y.k ?_
  rintro hi5 b5 o5 a8 c8 F8 a9 c9 F9 e5 l8 l9
  rw [e5]
  refine Eh n.Ae[y.k] ?_
  refine go ?_;intros
  refine Av [0,5] [7] ?_
  refine dt 0 ?_
  refine dt 1 ?_
  refine dt 2 ?_
  refine dO 3 (by kernel_rfl) (by rw [List.getElem?_toArray];rfl) ?_
  apply At;rfl;kernel_rfl;exact Bb
  refine cf (Aid n.Ae[y.k] _ _ (by have:=(hs.r _ (List.getElem_mem hk)).1;omega) (by have:=(hs.r _ (List.getElem_mem hk)).2;omega)) fun s9 _=>?_
  refine Ao ?_
  refine Hm (x:=n.Ae[y.k]) ?_
  rintro a9 c9 G9 a10 c10 G10 e9 l9 l10
  rw [e9]
  refine I8 n.Ae[y.k] ?_
  refine dk ?_
  refine dO 4 (by kernel_rfl) (by rw [List.getElem?_toArray];rfl) ?_
  apply Hh;rfl;rfl;rfl;rfl;exact Gz;exact Gp;intro _
  refine dk ?_
  refine dO 5 (by kernel_rfl) (by rw [List.getElem?_toArray];rfl) ?_
  refine Aal Pm n.Ae[y.k] rfl fun a7 c7 F7=>?_
  refine dk ?_
  refine dt 6 ?_
  refine dO 7 (by kernel_rfl) (by rw [List.getElem?_toArray];rfl) ?_
  apply Cf;rfl;rfl;rfl;(first|exact AggC.s|exact OneC.s);rfl;exact Ci;exact Cg;rfl
  refine Lv ?_
  refine dd ?_
  rw [←List.take_succ_eq_append_getElem hk]
  refine go ?_;intros
  refine Co ⟨y.k+1,a7,c7,F7⟩ hk (by show n.Ae.length - (y.k+1) < n.Ae.length - y.k;omega)
 rw [show n.Ae.take y.k=n.Ae from List.take_of_length_le (by omega)]
 refine go ?_;intros
 refine ret ⟨z.a1,z.c1,z.F1,z.a2,z.c2,z.F2,z.a3,z.c3,z.F3,ea,ec,eF,y.a,y.c,y.F,_,_,z.F6,_,_,z.F7⟩ trivial rfl
theorem No {n:En} (h:A8 n=true):(∀x∈n.Ah,Bc x=true)∧(∀x∈n.Ae,C7 x=true)∧(∀q∈n.down,D9 q=true)∧∀q∈n.up,D9 q=true:=by
 have hG:=Bo.1 h
 obtain ⟨q1,q2,q3,q4⟩:=Bz.1 hG.l
 refine ⟨fun x hx=>?_,fun x hx=>?_,fun x hx=>?_,fun x hx=>?_⟩
 all_goals
  obtain ⟨i,hi,rfl⟩:=List.getElem_of_mem hx
  obtain ⟨h1,h2,h3,h4,r⟩:=hG.rn (i:=i) (by omega)
 ·by_cases e:i=0
  ·exact Qh (r.hz e).1
  ·cases l:Hj n.Ar.Ad ((i:Nat):Int)
   ·exact (r.hn e l).1
   ·exact Qh (r.hf e l).1
 ·by_cases e:i=0
  ·exact Qi (r.hz e).2.1
  ·cases l:Hj n.Ar.Ad ((i:Nat):Int)
   ·exact Qi (r.hn e l).2.2
   ·exact (r.hf e l).2.1
 ·exact r.hd
 ·exact r.hu
theorem Io {q:List Aw} (h:D9 q=true):q.length≤6∧∀p∈q,Bk p=true:=by
 unfold D9 at h
 simpa [List.all_eq_true] using h
theorem Sv {n:En} (h:A8 n=true):Aig n:=by
 have hG:=Bo.1 h
 have h8:=(Ll hG.t).n1
 obtain ⟨q1,q2,q3,q4⟩:=Bz.1 hG.l
 have hS:=Mk hG.s
 have hl:=hS.l
 have hm:=hS.m
 obtain ⟨e1,e2,e3,e4⟩:=No h
 refine ⟨by omega,by omega,by omega,by omega,fun x hx=>?_,fun x hx y hy=>?_,by omega,fun x hx=>⟨?_,?_⟩,by omega,fun q hq=>?_,by omega,fun q hq=>?_⟩
 ·have:=(Ew.1 (e1 x hx)).2.1;omega
 ·have:=(Aga (e1 x hx)).2.2 y hy;omega
 ·have:=(I1 (Hc.1 (e2 x hx)).w).1;omega
 ·have:=(Di.1 (Hc.1 (e2 x hx)).q).2.1;omega
 ·have:=(Io (e3 q hq)).1;omega
 ·have:=(Io (e4 q hq)).1;omega
theorem Wd (n:En):∀k,(A9 n k).1.Ar=n.Ar
 | 0=>rfl
 | k+1=>(Yt _ _).1.trans (Wd n k)
theorem Ol {n:En} {s:Fa} {r:En × List ByteArray} (hr:Cd n s=some r):r.1.Ar=n.Ar:=by
 have hd:∀(n:En) i p,(C2 n i p).1.Ar=n.Ar:=fun n i p=>by unfold C2;split <;> rfl
 have hu:∀(n:En) i p,(Nd n i p).Ar=n.Ar:=fun n i p=>by unfold Nd;split <;> rfl
 have hp:(Fh n s).Ar=n.Ar:=by unfold Fh;split <;> rfl
 unfold Cd Cv at hr
 split at hr
 ·cases hr;rfl
 split at hr
 ·split at hr
  ·cases hr
  ·cases hr;exact Wd n _
 split at hr
 ·cases hr
 split at hr
 ·cases hr
 split at hr
 ·cases hr;exact (hd _ _ _).trans hp
 split at hr
 ·cases hr;exact (hu _ _ _).trans hp
 ·cases hr;exact hp
theorem Ae6 {n m:En} (h1:A8 n=true) (h2:A8 m=true) (h:m.Ar=n.Ar):n.Ar.Ad.length=m.Ar.Ad.length∧n.Ah.length=m.Ah.length∧n.Ae.length=m.Ae.length∧n.down.length=m.down.length∧n.up.length=m.up.length:=by
 obtain ⟨p1,p2,p3,p4⟩:=Bz.1 (Bo.1 h1).l
 obtain ⟨q1,q2,q3,q4⟩:=Bz.1 (Bo.1 h2).l
 rw [h] at q1 q2 q3 q4
 exact ⟨by rw [h],by omega,by omega,by omega,by omega⟩
def As (n:En) (s:Fa):En × List ByteArray × Bool:=if A8 n && Dg s then (match Cd n s with
 | some r=>(r.1,r.2,true)
 | none=>(Kd,[],false)) else (Kd,[],false)
theorem Af6:Mu [-1,0]:=⟨by decide,by decide,fun _=>rfl,fun i h h0=>by
 have:i=1:=by simp at h;omega
 subst this;simp⟩
theorem Adx {l:List Int} (h:Mu l) (h7:l.length≤7) {x:Nat} (hx:x < l.length):Mu (l++[(x:Int)]):=by
 have h0:=h.n0
 refine ⟨by simp;omega,by simp;omega,fun _=>?_,fun i hi hi0=>?_⟩
 ·rw [List.getElem_append_left (by omega)];exact h.z (by omega)
 ·by_cases e:i < l.length
  ·rw [List.getElem_append_left e];exact h.p i e hi0
  ·have:i=l.length:=by simp at hi;omega
   subst this
   rw [List.getElem_append_right (Nat.le_refl _)]
   simp
   omega
theorem Ab9 {t:Oq} (h:Mu t.Ad):Et t=true:=by
 have h0:=h.n0
 have h1:=h.n1
 unfold Et
 rw [Bool.and_eq_true]
 refine ⟨by unfold Gs;rw [decide_eq_true (by omega),decide_eq_true (by omega)];rfl,H8 fun i hi=>?_⟩
 by_cases e:i=0
 ·subst e;rw [M7 hi,decide_eq_true (h.z hi)]
 ·rw [Ok hi (by omega)]
  obtain ⟨a,b⟩:=h.p i hi (by omega)
  unfold Gs;rw [decide_eq_true (by omega),decide_eq_true (by omega)];rfl
theorem Acp {t:Oq} {f y:Int} (ht:Et t=true) (hs:Cb ⟨⟨f,y,[]⟩,0,0,[]⟩=true):A8 (Rn t f y)=true:=by
 refine Bo.2 ⟨ht,hs,Bz.2 ⟨by simp [Rn],by simp [Rn],by simp [Rn],by simp [Rn]⟩,fun i h1 h2 h3 h4=>?_⟩
 refine Kw.2 ?_
 simp only [Rn,List.getElem_replicate]
 exact ⟨rfl,rfl,rfl,fun _=>⟨rfl,rfl,rfl,rfl⟩,fun _ _=>⟨rfl,rfl,rfl⟩,fun _ _=>⟨rfl,rfl,rfl⟩⟩
theorem X7 {t:Oq} {f y:Int} (ht:Mu t.Ad) (h0:0≤f) (h1:f≤65535) (z0:1≤y) (z6:y≤6):J8 t f y=(Rn t f y,true)∧A8 (Rn t f y)=true:=by
 have hg:Cb ⟨⟨f,y,[]⟩,0,0,[]⟩=true:=Ev.2 ⟨Ea.2 ⟨⟨h0,h1⟩,⟨z0,z6⟩,by simp;omega,rfl⟩,rfl,rfl,by simp,List.Pairwise.nil⟩
 have hT:=Ab9 ht
 refine ⟨?_,Acp hT hg⟩
 unfold J8
 rw [hT,hg];rfl
def E9:Bp Int where
 sz:=1
 Jg _ cs z F:=cs=[.int .u8 z]∧0≤z∧z≤255∧F=[]
 len h:=by simp [h.1]
 lt h:=by simp [h.2.2.2]
 frame h _:=h
def Ry (w:World) (g:Nat) (l:List UInt8):Prop :=
 g < w.heap.size∧∀j (hj:j < l.length),w.cell? ⟨g,j,none⟩=some (.int .u8 (l[j].toNat:Int))∧w.frozen? ⟨g,j,none⟩=false
theorem Ry.below {w w' g l} (h:Ry w g l) (hb:Below w.heap.size w w'):Ry w' g l :=
 ⟨Nat.lt_of_lt_of_le h.1 hb.size,fun j hj=>⟨(hb.cell (p:=⟨g,j,none⟩) h.1).trans (h.2 j hj).1,(hb.frozen (p:=⟨g,j,none⟩) h.1).trans (h.2 j hj).2⟩⟩
theorem Ry.set {w g l} (h:Ry w g l) (k:Nat) (b:UInt8) (hk:k < l.length):Ry (w.setCell ⟨g,k,none⟩ (.int .u8 (b.toNat:Int))) g (l.set k b):=by
 refine ⟨by simp [h.1],fun j hj=>?_⟩
 rw [List.length_set] at hj
 refine ⟨?_,?_⟩
 ·by_cases e:k=j
  ·subst e
   rw [World.cell?_setCell_same _ _ _ (h.2 k hk).1]
   simp
  ·rw [World.cell?_setCell_other _ _ _ _ (by intro q;cases q;exact e rfl),(h.2 j hj).1]
   simp [List.getElem_set,e]
 ·rw [World.frozen?_setCell];exact (h.2 j hj).2
theorem Sl.byte {w v} {xs:List Int} {F} (h:Sl E9 w v xs F):xs.length≤maxLen∧∀k (hk:k < xs.length),(0≤xs[k]∧xs[k]≤255)∧∃b off,v=.slice (some ⟨b,off,none⟩) xs.length (match v with|.slice _ _ c=>c|_=>0)∧b∈F∧w.cell? ⟨b,off+k,none⟩=some (.int .u8 xs[k]):=by
 obtain ⟨a,cap,rfl,hl,⟨rfl,rfl,_⟩|⟨b,off,F',rfl,hne,rfl,hc⟩⟩:=h
 ·exact ⟨by simp,fun k hk=>by simp at hk⟩
 ·refine ⟨by omega,fun k hk=>?_⟩
  obtain ⟨cs,F1,⟨rfl,h0,h1,rfl⟩,hcell,_⟩:=hc.get k hk
  refine ⟨⟨h0,h1⟩,b,off,rfl,by simp,?_⟩
  simpa [E9] using hcell 0 (by decide)
structure S8 where
 Bm:List Int
 a:Option Addr
 c:Nat
 bs:List Nat
def W3 (B:Nat) (w:World) (g:Nat) (F:S8):Prop :=
 ∃(k:Nat) (Dq:Int),Gt w g 67 [.slice F.a F.Bm.length F.c,.int .i64 k,.int .u64 Dq]∧Sl E9 w (.slice F.a F.Bm.length F.c) F.Bm F.bs∧g ∉ F.bs∧k≤B∧0≤Dq∧Dq < 18446744073709551616
theorem W3.Kb {B w w' g F K} (h:W3 B w g F) (hk:Dn K w w') (h1:g ∉ K) (h2:∀b∈F.bs,b ∉ K):W3 B w' g F:=by
 obtain ⟨k,Dq,R,S,hF,h3⟩:=h
 exact ⟨k,Dq,R.keepK hk h1,S.Kb hk h2 (by decide),hF,h3⟩
theorem W3.below {B w w' g F} (h:W3 B w g F) (hb:Below w.heap.size w w'):W3 B w' g F:=by
 obtain ⟨k,Dq,R,S,hF,h3⟩:=h
 exact ⟨k,Dq,R.below hb,S.below (by decide) hb,hF,h3⟩
theorem W3.mono {B B' w g F} (h:W3 B w g F) (hb:B≤B'):W3 B' w g F:=by
 obtain ⟨k,Dq,R,S,hF,h3,h4⟩:=h
 exact ⟨k,Dq,R,S,hF,by omega,h4⟩
theorem W3.lt {B w g F} (h:W3 B w g F):g < w.heap.size:=by
 obtain ⟨k,Dq,R,_⟩:=h;exact R.lt
def Apb (B g:Nat) (F:S8) (w:World) (e:Ending) (w':World):Prop:=∃r:Nat,e=.returned (.int .i64 r)∧r≤255∧W3 (B+1) w' g F∧Dn [g] w w'
theorem Ajg (B g:Nat) (F:S8) (w:World) (h:W3 B w g F) (hB0:B≤1099511627776) :
  Calls prog 111 #[.pointer (some ⟨g,0,none⟩)] w (Apb B g F w):=by
 obtain ⟨Bm,a,c,F⟩:=F
 obtain ⟨k,Dq,R,S,hF,h2,h3,h4⟩:=h
 dsimp only at R S hF
 have hl:=S.byte.1
 unfold maxLen at hl
 have hlt:=S.lt (by decide)
 by_cases hk:k < Bm.length
 ·obtain ⟨⟨hz0,hz1⟩,b,off,hv,hbF,hcell⟩:=S.byte.2 k hk
  simp only [Value.slice.injEq] at hv
  obtain ⟨rfl, -, -⟩:=hv
  generalize Bm[k]=z at *
  have hbg:b≠g:=fun e=>hF (e▸hbF)
  have hcl:=fun w' (hb:Below w.heap.size w w')=>kc hb hcell
  replace hcl:=Lib.hid hcl
  clear hcell
  have hB:=Below.refl w.heap.size w
  go_enter func111,ntmps111
  go_wp2_with fail
  refine Cy.start (S:=(fun w'=>w'.cell? ⟨g,0,none⟩=some (.slice (some ⟨b,off,none⟩) Bm.length c)∧w'.cell? ⟨g,1,none⟩=some (.int .i64 k)∧w'.cell? ⟨g,2,none⟩=some (.int .u64 Dq)∧w'.cell? ⟨b,off+k,none⟩=some (.int .u8 z))) (X:=(fun _=>false)) (by kernel_rfl) ?_
  have al:Below w.heap.size w w.drew:=D5 (Below.refl _ _) 1
  have hs_w1:=al.size
  replace R:=R.below al
  replace S:=S.below (by decide) al
  replace hB:=tr hB al (Nat.le_refl _)
  generalize w.drew=w1 at *
  clear al
  have hS:(fun w'=>w'.cell? ⟨g,0,none⟩=some (.slice (some ⟨b,off,none⟩) Bm.length c)∧w'.cell? ⟨g,1,none⟩=some (.int .i64 k)∧w'.cell? ⟨g,2,none⟩=some (.int .u64 Dq)∧w'.cell? ⟨b,off+k,none⟩=some (.int .u8 z)) w1:=⟨R.cells 0,R.cells 1,R.cells 2,hcl.out _ hB⟩
  refine Cy.take (i:=0) (oi:=_) (v:=?_) (by rw [List.getElem?_toArray];rfl) (by kernel_rfl) (by kernel_rfl) (by kernel_rfl) (by kernel_rfl) (by kernel_rfl) (by exact fun _ _ _ h=>h) (Or.inl ⟨by rfl,?_⟩) hS ?_
  rotate_left
  ·(intro wS hSw;(try dsimp only at hSw);go_simp;try with_reducible rfl)
  try simp only [Act.put,List.setIfInBounds_toArray,List.set_cons_zero,List.set_cons_succ]
  refine Cy.take (i:=1) (oi:=_) (v:=?_) (by rw [List.getElem?_toArray];rfl) (by kernel_rfl) (by kernel_rfl) (by kernel_rfl) (by kernel_rfl) (by kernel_rfl) (by exact fun _ _ _ h=>h) (Or.inl ⟨by rfl,?_⟩) hS ?_
  rotate_left
  ·(intro wS hSw;(try dsimp only at hSw);go_simp;try with_reducible rfl)
  try simp only [Act.put,List.setIfInBounds_toArray,List.set_cons_zero,List.set_cons_succ]
  refine Cy.take (i:=2) (oi:=_) (v:=?_) (by rw [List.getElem?_toArray];rfl) (by kernel_rfl) (by kernel_rfl) (by kernel_rfl) (by kernel_rfl) (by kernel_rfl) (by exact fun _ _ _ h=>h) (Or.inl ⟨by rfl,?_⟩) hS ?_
  rotate_left
  ·(intro wS hSw;(try dsimp only at hSw);go_simp;try with_reducible rfl)
  try simp only [Act.put,List.setIfInBounds_toArray,List.set_cons_zero,List.set_cons_succ]
  refine Cy.take (i:=3) (oi:=_) (v:=?_) (by rw [List.getElem?_toArray];rfl) (by kernel_rfl) (by kernel_rfl) (by kernel_rfl) (by kernel_rfl) (by kernel_rfl) (by exact fun _ _ _ h=>h) (Or.inl ⟨by rfl,?_⟩) hS ?_
  rotate_left
  ·(intro wS hSw;(try dsimp only at hSw);go_simp;try with_reducible rfl)
  try simp only [Act.put,List.setIfInBounds_toArray,List.set_cons_zero,List.set_cons_succ]
  refine Cy.take (i:=4) (oi:=_) (v:=?_) (by rw [List.getElem?_toArray];rfl) (by kernel_rfl) (by kernel_rfl) (by kernel_rfl) (by kernel_rfl) (by kernel_rfl) (by exact fun _ _ _ h=>h) (Or.inl ⟨by rfl,?_⟩) hS ?_
  rotate_left
  ·(intro wS hSw;(try dsimp only at hSw);go_simp;try with_reducible rfl)
  try simp only [Act.put,List.setIfInBounds_toArray,List.set_cons_zero,List.set_cons_succ]
  refine Cy.take (i:=5) (oi:=_) (v:=?_) (by rw [List.getElem?_toArray];rfl) (by kernel_rfl) (by kernel_rfl) (by kernel_rfl) (by kernel_rfl) (by kernel_rfl) (by exact fun _ _ _ h=>h) (Or.inl ⟨by rfl,?_⟩) hS ?_
  rotate_left
  ·(intro wS hSw;(try dsimp only at hSw);go_simp;try with_reducible rfl)
  try simp only [Act.put,List.setIfInBounds_toArray,List.set_cons_zero,List.set_cons_succ]
  refine Cy.take (i:=6) (oi:=_) (v:=?_) (by rw [List.getElem?_toArray];rfl) (by kernel_rfl) (by kernel_rfl) (by kernel_rfl) (by kernel_rfl) (by kernel_rfl) (by exact fun _ _ _ h=>h) (Or.inl ⟨by rfl,?_⟩) hS ?_
  rotate_left
  ·(intro wS hSw;(try dsimp only at hSw);go_simp;try with_reducible rfl)
  try simp only [Act.put,List.setIfInBounds_toArray,List.set_cons_zero,List.set_cons_succ]
  refine Cy.take (i:=7) (oi:=_) (v:=?_) (by rw [List.getElem?_toArray];rfl) (by kernel_rfl) (by kernel_rfl) (by kernel_rfl) (by kernel_rfl) (by kernel_rfl) (by exact fun _ _ _ h=>h) (Or.inl ⟨by rfl,?_⟩) hS ?_
  rotate_left
  ·(intro wS hSw;(try dsimp only at hSw);go_simp;try with_reducible rfl)
  try simp only [Act.put,List.setIfInBounds_toArray,List.set_cons_zero,List.set_cons_succ]
  refine Cy.take (i:=8) (oi:=_) (v:=?_) (by rw [List.getElem?_toArray];rfl) (by kernel_rfl) (by kernel_rfl) (by kernel_rfl) (by kernel_rfl) (by kernel_rfl) (by exact fun _ _ _ h=>h) (Or.inl ⟨by rfl,?_⟩) hS ?_
  rotate_left
  ·(intro wS hSw;(try dsimp only at hSw);go_simp;try with_reducible rfl)
  try simp only [Act.put,List.setIfInBounds_toArray,List.set_cons_zero,List.set_cons_succ]
  refine Cy.take (i:=9) (oi:=_) (v:=?_) (by rw [List.getElem?_toArray];rfl) (by kernel_rfl) (by kernel_rfl) (by kernel_rfl) (by kernel_rfl) (by kernel_rfl) (by exact fun _ _ _ h=>h) (Or.inl ⟨by rfl,?_⟩) hS ?_
  rotate_left
  ·(intro wS hSw;(try dsimp only at hSw);go_simp;try with_reducible rfl)
  try simp only [Act.put,List.setIfInBounds_toArray,List.set_cons_zero,List.set_cons_succ]
  refine Cy.done (by kernel_rfl) ?_ _
  (try clear hS)
  have c_R:=R.cells;have f_R:=R.frozens
  go_wp2_with fail
  clear c_R f_R
  rename_i K0 hK0
  refine Cy.start (S:=(fun w'=>w'.cell? ⟨g,0,none⟩=some (.slice (some ⟨b,off,none⟩) Bm.length c)∧w'.cell? ⟨g,1,none⟩=some (.int .i64 k)∧w'.cell? ⟨g,2,none⟩=some (.int .u64 Dq)∧w'.cell? ⟨b,off+k,none⟩=some (.int .u8 z))) (X:=(fun _=>false)) (by kernel_rfl) ?_
  have al:Below w1.heap.size w1 w1.drew:=D5 (Below.refl _ _) 1
  have hs_w2:=al.size
  replace R:=R.below al
  replace S:=S.below (by decide) al
  replace hB:=tr hB al (Nat.le_refl _)
  generalize w1.drew=w2 at *
  clear al
  have hS:(fun w'=>w'.cell? ⟨g,0,none⟩=some (.slice (some ⟨b,off,none⟩) Bm.length c)∧w'.cell? ⟨g,1,none⟩=some (.int .i64 k)∧w'.cell? ⟨g,2,none⟩=some (.int .u64 Dq)∧w'.cell? ⟨b,off+k,none⟩=some (.int .u8 z)) w2:=⟨R.cells 0,R.cells 1,R.cells 2,hcl.out _ hB⟩
  refine Cy.take (i:=0) (oi:=_) (v:=?_) (by rw [List.getElem?_toArray];rfl) (by kernel_rfl) (by kernel_rfl) (by kernel_rfl) (by kernel_rfl) (by kernel_rfl) (by exact fun _ _ _ h=>h) (Or.inl ⟨by rfl,?_⟩) hS ?_
  rotate_left
  ·(intro wS hSw;(try dsimp only at hSw);go_simp;try with_reducible rfl)
  try simp only [Act.put,List.setIfInBounds_toArray,List.set_cons_zero,List.set_cons_succ]
  refine Cy.take (i:=1) (oi:=_) (v:=?_) (by rw [List.getElem?_toArray];rfl) (by kernel_rfl) (by kernel_rfl) (by kernel_rfl) (by kernel_rfl) (by kernel_rfl) (by exact fun _ _ _ h=>h) (Or.inl ⟨by rfl,?_⟩) hS ?_
  rotate_left
  ·(intro wS hSw;(try dsimp only at hSw);go_simp;try with_reducible rfl)
  try simp only [Act.put,List.setIfInBounds_toArray,List.set_cons_zero,List.set_cons_succ]
  refine Cy.take (i:=2) (oi:=_) (v:=?_) (by rw [List.getElem?_toArray];rfl) (by kernel_rfl) (by kernel_rfl) (by kernel_rfl) (by kernel_rfl) (by kernel_rfl) (by exact fun _ _ _ h=>h) (Or.inl ⟨by rfl,?_⟩) hS ?_
  rotate_left
  ·(intro wS hSw;(try dsimp only at hSw);go_simp;try with_reducible rfl)
  try simp only [Act.put,List.setIfInBounds_toArray,List.set_cons_zero,List.set_cons_succ]
  refine Cy.take (i:=3) (oi:=_) (v:=?_) (by rw [List.getElem?_toArray];rfl) (by kernel_rfl) (by kernel_rfl) (by kernel_rfl) (by kernel_rfl) (by kernel_rfl) (by exact fun _ _ _ h=>h) (Or.inl ⟨by rfl,?_⟩) hS ?_
  rotate_left
  ·(intro wS hSw;(try dsimp only at hSw);go_simp;try with_reducible rfl)
  try simp only [Act.put,List.setIfInBounds_toArray,List.set_cons_zero,List.set_cons_succ]
  refine Cy.take (i:=4) (oi:=_) (v:=?_) (by rw [List.getElem?_toArray];rfl) (by kernel_rfl) (by kernel_rfl) (by kernel_rfl) (by kernel_rfl) (by kernel_rfl) (by exact fun _ _ _ h=>h) (Or.inl ⟨by rfl,?_⟩) hS ?_
  rotate_left
  ·(intro wS hSw;(try dsimp only at hSw);go_simp;try with_reducible rfl)
  try simp only [Act.put,List.setIfInBounds_toArray,List.set_cons_zero,List.set_cons_succ]
  refine Cy.take (i:=5) (oi:=_) (v:=?_) (by rw [List.getElem?_toArray];rfl) (by kernel_rfl) (by kernel_rfl) (by kernel_rfl) (by kernel_rfl) (by kernel_rfl) (by exact fun _ _ _ h=>h) (Or.inl ⟨by rfl,?_⟩) hS ?_
  rotate_left
  ·(intro wS hSw;(try dsimp only at hSw);go_simp;try with_reducible rfl)
  try simp only [Act.put,List.setIfInBounds_toArray,List.set_cons_zero,List.set_cons_succ]
  refine Cy.take (i:=6) (oi:=_) (v:=?_) (by rw [List.getElem?_toArray];rfl) (by kernel_rfl) (by kernel_rfl) (by kernel_rfl) (by kernel_rfl) (by kernel_rfl) (by exact fun _ _ _ h=>h) (Or.inl ⟨by rfl,?_⟩) hS ?_
  rotate_left
  ·(intro wS hSw;(try dsimp only at hSw);go_simp;try with_reducible rfl)
  try simp only [Act.put,List.setIfInBounds_toArray,List.set_cons_zero,List.set_cons_succ]
  refine Cy.take (i:=7) (oi:=_) (v:=?_) (by rw [List.getElem?_toArray];rfl) (by kernel_rfl) (by kernel_rfl) (by kernel_rfl) (by kernel_rfl) (by kernel_rfl) (by exact fun _ _ _ h=>h) (Or.inl ⟨by rfl,?_⟩) hS ?_
  rotate_left
  ·(intro wS hSw;(try dsimp only at hSw);go_simp;try with_reducible rfl)
  try simp only [Act.put,List.setIfInBounds_toArray,List.set_cons_zero,List.set_cons_succ]
  refine Cy.take (i:=8) (oi:=_) (v:=?_) (by rw [List.getElem?_toArray];rfl) (by kernel_rfl) (by kernel_rfl) (by kernel_rfl) (by kernel_rfl) (by kernel_rfl) (by exact fun _ _ _ h=>h) (Or.inl ⟨by rfl,?_⟩) hS ?_
  rotate_left
  ·(intro wS hSw;(try dsimp only at hSw);go_simp;try with_reducible rfl)
  try simp only [Act.put,List.setIfInBounds_toArray,List.set_cons_zero,List.set_cons_succ]
  refine Cy.take (i:=9) (oi:=_) (v:=?_) (by rw [List.getElem?_toArray];rfl) (by kernel_rfl) (by kernel_rfl) (by kernel_rfl) (by kernel_rfl) (by kernel_rfl) (by exact fun _ _ _ h=>h) (Or.inl ⟨by rfl,?_⟩) hS ?_
  rotate_left
  ·(intro wS hSw;(try dsimp only at hSw);go_simp;try with_reducible rfl)
  try simp only [Act.put,List.setIfInBounds_toArray,List.set_cons_zero,List.set_cons_succ]
  refine Cy.take (i:=10) (oi:=_) (v:=?_) (by rw [List.getElem?_toArray];rfl) (by kernel_rfl) (by kernel_rfl) (by kernel_rfl) (by kernel_rfl) (by kernel_rfl) (by exact fun _ _ _ h=>h) (Or.inl ⟨by rfl,?_⟩) hS ?_
  rotate_left
  ·(intro wS hSw;(try dsimp only at hSw);go_simp;try with_reducible rfl)
  try simp only [Act.put,List.setIfInBounds_toArray,List.set_cons_zero,List.set_cons_succ]
  refine Cy.only (i:=11) (o:=_) (by kernel_rfl) (by rw [List.getElem?_toArray];rfl) (fun K hK=>?_)
  try go_simp
  clear hS
  have hS:(fun w'=>w'.cell? ⟨g,0,none⟩=some (.slice (some ⟨b,off,none⟩) Bm.length c)∧w'.cell? ⟨g,1,none⟩=some (.int .i64 k)∧w'.cell? ⟨g,2,none⟩=some (.int .u64 Dq)∧w'.cell? ⟨b,off+k,none⟩=some (.int .u8 z)) w2:=⟨R.cells 0,R.cells 1,R.cells 2,hcl.out _ hB⟩
  refine hK.out _ _ (fun _=>hS) ?_
  clear hK K
  try simp only [Act.put,List.setIfInBounds_toArray,List.set_cons_zero,List.set_cons_succ]
  refine Cy.done (by kernel_rfl) ?_ _
  (try clear hS)
  refine hK0 _ _ ?_
  clear hK0 K0
  have c_R:=R.cells;have f_R:=R.frozens
  go_wp2_with fail
  clear c_R f_R
  have n_K:Dn [g] w ((w2.setCell ⟨g,1,none⟩ (.int .i64 ((k:Int)+1))).setCell ⟨g,2,none⟩ (.int .u64 (IntKind.u64.wrap (IntKind.u64.wrap (IntKind.u64.wrap (Dq * 6364136223846793005)+z)+840840)))):=((Dn.ofBelow hB).setCell (p:=⟨g,1,none⟩) (by simp) _).setCell (p:=⟨g,2,none⟩) (by simp) _
  have n_R:Gt ((w2.setCell ⟨g,1,none⟩ (.int .i64 ((k:Int)+1))).setCell ⟨g,2,none⟩ (.int .u64 (IntKind.u64.wrap (IntKind.u64.wrap (IntKind.u64.wrap (Dq * 6364136223846793005)+z)+840840)))) g 67 [.slice (some ⟨b,off,none⟩) Bm.length c,.int .i64 ((k+1:Nat):Int),.int .u64 (IntKind.u64.wrap (IntKind.u64.wrap (IntKind.u64.wrap (Dq * 6364136223846793005)+z)+840840))]:=by simpa using ((R.set 1 (.int .i64 ((k:Int)+1))).set 2 (.int .u64 (IntKind.u64.wrap (IntKind.u64.wrap (IntKind.u64.wrap (Dq * 6364136223846793005)+z)+840840))))
  have n_S:Sl E9 ((w2.setCell ⟨g,1,none⟩ (.int .i64 ((k:Int)+1))).setCell ⟨g,2,none⟩ (.int .u64 (IntKind.u64.wrap (IntKind.u64.wrap (IntKind.u64.wrap (Dq * 6364136223846793005)+z)+840840)))) (Value.slice (some ⟨b,off,none⟩) Bm.length c) Bm F:=S.frame (fun b hb=>by have:b≠g:=fun e=>hF (e▸hb);repeat rw [Below.heap_setCell _ _ _ _ (by simp <;> omega)])
  have hs0:0≤(IntKind.u64.wrap (IntKind.u64.wrap (IntKind.u64.wrap (Dq * 6364136223846793005)+z)+840840))∧(IntKind.u64.wrap (IntKind.u64.wrap (IntKind.u64.wrap (Dq * 6364136223846793005)+z)+840840)) < 18446744073709551616:=by rw [IntKind.wrap_u64];omega
  clear R S hB
  generalize (IntKind.u64.wrap (IntKind.u64.wrap (IntKind.u64.wrap (Dq * 6364136223846793005)+z)+840840))=sd at *
  obtain ⟨hs0,hs1⟩:=hs0
  generalize ((w2.setCell ⟨g,1,none⟩ (.int .i64 ((k:Int)+1))).setCell ⟨g,2,none⟩ (.int .u64 sd))=w3 at *
  have R:=n_R;clear n_R
  have S:=n_S;clear n_S
  rename_i K0 hK0
  refine Cy.start (S:=(fun w'=>w'.cell? ⟨g,0,none⟩=some (.slice (some ⟨b,off,none⟩) Bm.length c)∧w'.cell? ⟨g,1,none⟩=some (.int .i64 ((k+1:Nat):Int))∧w'.cell? ⟨g,2,none⟩=some (.int .u64 sd))) (X:=(fun _=>false)) (by kernel_rfl) ?_
  have al:Below w3.heap.size w3 w3.drew:=D5 (Below.refl _ _) 1
  have hs_w4:=al.size
  replace R:=R.below al
  replace S:=S.below (by decide) al
  have hB:=al
  generalize w3.drew=w4 at *
  clear al
  have hS:(fun w'=>w'.cell? ⟨g,0,none⟩=some (.slice (some ⟨b,off,none⟩) Bm.length c)∧w'.cell? ⟨g,1,none⟩=some (.int .i64 ((k+1:Nat):Int))∧w'.cell? ⟨g,2,none⟩=some (.int .u64 sd)) w4:=⟨R.cells 0,R.cells 1,R.cells 2⟩
  refine Cy.take (i:=0) (oi:=_) (v:=?_) (by rw [List.getElem?_toArray];rfl) (by kernel_rfl) (by kernel_rfl) (by kernel_rfl) (by kernel_rfl) (by kernel_rfl) (by exact fun _ _ _ h=>h) (Or.inl ⟨by rfl,?_⟩) hS ?_
  rotate_left
  ·(intro wS hSw;(try dsimp only at hSw);go_simp;try with_reducible rfl)
  try simp only [Act.put,List.setIfInBounds_toArray,List.set_cons_zero,List.set_cons_succ]
  refine Cy.take (i:=1) (oi:=_) (v:=?_) (by rw [List.getElem?_toArray];rfl) (by kernel_rfl) (by kernel_rfl) (by kernel_rfl) (by kernel_rfl) (by kernel_rfl) (by exact fun _ _ _ h=>h) (Or.inl ⟨by rfl,?_⟩) hS ?_
  rotate_left
  ·(intro wS hSw;(try dsimp only at hSw);go_simp;try with_reducible rfl)
  try simp only [Act.put,List.setIfInBounds_toArray,List.set_cons_zero,List.set_cons_succ]
  refine Cy.take (i:=2) (oi:=_) (v:=?_) (by rw [List.getElem?_toArray];rfl) (by kernel_rfl) (by kernel_rfl) (by kernel_rfl) (by kernel_rfl) (by kernel_rfl) (by exact fun _ _ _ h=>h) (Or.inl ⟨by rfl,?_⟩) hS ?_
  rotate_left
  ·(intro wS hSw;(try dsimp only at hSw);go_simp;try with_reducible rfl)
  try simp only [Act.put,List.setIfInBounds_toArray,List.set_cons_zero,List.set_cons_succ]
  refine Cy.take (i:=3) (oi:=_) (v:=?_) (by rw [List.getElem?_toArray];rfl) (by kernel_rfl) (by kernel_rfl) (by kernel_rfl) (by kernel_rfl) (by kernel_rfl) (by exact fun _ _ _ h=>h) (Or.inl ⟨by rfl,?_⟩) hS ?_
  rotate_left
  ·(intro wS hSw;(try dsimp only at hSw);go_simp;try with_reducible rfl)
  try simp only [Act.put,List.setIfInBounds_toArray,List.set_cons_zero,List.set_cons_succ]
  refine Cy.take (i:=4) (oi:=_) (v:=?_) (by rw [List.getElem?_toArray];rfl) (by kernel_rfl) (by kernel_rfl) (by kernel_rfl) (by kernel_rfl) (by kernel_rfl) (by exact fun _ _ _ h=>h) (Or.inl ⟨by rfl,?_⟩) hS ?_
  rotate_left
  ·(intro wS hSw;(try dsimp only at hSw);go_simp;try with_reducible rfl)
  try simp only [Act.put,List.setIfInBounds_toArray,List.set_cons_zero,List.set_cons_succ]
  refine Cy.take (i:=5) (oi:=_) (v:=?_) (by rw [List.getElem?_toArray];rfl) (by kernel_rfl) (by kernel_rfl) (by kernel_rfl) (by kernel_rfl) (by kernel_rfl) (by exact fun _ _ _ h=>h) (Or.inl ⟨by rfl,?_⟩) hS ?_
  rotate_left
  ·(intro wS hSw;(try dsimp only at hSw);go_simp;try with_reducible rfl)
  try simp only [Act.put,List.setIfInBounds_toArray,List.set_cons_zero,List.set_cons_succ]
  refine Cy.take (i:=6) (oi:=_) (v:=?_) (by rw [List.getElem?_toArray];rfl) (by kernel_rfl) (by kernel_rfl) (by kernel_rfl) (by kernel_rfl) (by kernel_rfl) (by exact fun _ _ _ h=>h) (Or.inl ⟨by rfl,?_⟩) hS ?_
  rotate_left
  ·(intro wS hSw;(try dsimp only at hSw);go_simp;try with_reducible rfl)
  try simp only [Act.put,List.setIfInBounds_toArray,List.set_cons_zero,List.set_cons_succ]
  refine Cy.take (i:=7) (oi:=_) (v:=?_) (by rw [List.getElem?_toArray];rfl) (by kernel_rfl) (by kernel_rfl) (by kernel_rfl) (by kernel_rfl) (by kernel_rfl) (by exact fun _ _ _ h=>h) (Or.inl ⟨by rfl,?_⟩) hS ?_
  rotate_left
  ·(intro wS hSw;(try dsimp only at hSw);go_simp;try with_reducible rfl)
  try simp only [Act.put,List.setIfInBounds_toArray,List.set_cons_zero,List.set_cons_succ]
  refine Cy.take (i:=8) (oi:=_) (v:=?_) (by rw [List.getElem?_toArray];rfl) (by kernel_rfl) (by kernel_rfl) (by kernel_rfl) (by kernel_rfl) (by kernel_rfl) (by exact fun _ _ _ h=>h) (Or.inl ⟨by rfl,?_⟩) hS ?_
  rotate_left
  ·(intro wS hSw;(try dsimp only at hSw);go_simp;try with_reducible rfl)
  try simp only [Act.put,List.setIfInBounds_toArray,List.set_cons_zero,List.set_cons_succ]
  refine Cy.take (i:=9) (oi:=_) (v:=?_) (by rw [List.getElem?_toArray];rfl) (by kernel_rfl) (by kernel_rfl) (by kernel_rfl) (by kernel_rfl) (by kernel_rfl) (by exact fun _ _ _ h=>h) (Or.inl ⟨by rfl,?_⟩) hS ?_
  rotate_left
  ·(intro wS hSw;(try dsimp only at hSw);go_simp;try with_reducible rfl)
  try simp only [Act.put,List.setIfInBounds_toArray,List.set_cons_zero,List.set_cons_succ]
  refine Cy.done (by kernel_rfl) ?_ _
  (try clear hS)
  refine hK0 _ _ ?_
  clear hK0 K0
  have n_K2:=n_K.trans (Dn.ofBelow hB)
  have c_R:=R.cells;have f_R:=R.frozens
  go_wp2_with fail
  refine bodyPost_ret (v:=.int .i64 (IntKind.i64.wrap z)) ?_ rfl ?_
  ·simp [results,results111,go_sem]
  ·refine ⟨z.toNat,?_,by omega,⟨k+1,sd,R,S,hF,by omega,hs0,hs1⟩,n_K2⟩
   rw [show IntKind.i64.wrap z=((z.toNat:Nat):Int) from by rw [IntKind.wrap_i64];omega]
 ·have hB:=Below.refl w.heap.size w
  go_enter func111,ntmps111
  go_wp2_with fail
  refine Cy.start (S:=(fun w'=>w'.cell? ⟨g,0,none⟩=some (.slice a Bm.length c)∧w'.cell? ⟨g,1,none⟩=some (.int .i64 k)∧w'.cell? ⟨g,2,none⟩=some (.int .u64 Dq))) (X:=(fun _=>false)) (by kernel_rfl) ?_
  have al:Below w.heap.size w w.drew:=D5 (Below.refl _ _) 1
  have hs_w5:=al.size
  replace R:=R.below al
  replace S:=S.below (by decide) al
  replace hB:=tr hB al (Nat.le_refl _)
  generalize w.drew=w5 at *
  clear al
  have hS:(fun w'=>w'.cell? ⟨g,0,none⟩=some (.slice a Bm.length c)∧w'.cell? ⟨g,1,none⟩=some (.int .i64 k)∧w'.cell? ⟨g,2,none⟩=some (.int .u64 Dq)) w5:=⟨R.cells 0,R.cells 1,R.cells 2⟩
  refine Cy.take (i:=0) (oi:=_) (v:=?_) (by rw [List.getElem?_toArray];rfl) (by kernel_rfl) (by kernel_rfl) (by kernel_rfl) (by kernel_rfl) (by kernel_rfl) (by exact fun _ _ _ h=>h) (Or.inl ⟨by rfl,?_⟩) hS ?_
  rotate_left
  ·(intro wS hSw;(try dsimp only at hSw);go_simp;try with_reducible rfl)
  try simp only [Act.put,List.setIfInBounds_toArray,List.set_cons_zero,List.set_cons_succ]
  refine Cy.take (i:=1) (oi:=_) (v:=?_) (by rw [List.getElem?_toArray];rfl) (by kernel_rfl) (by kernel_rfl) (by kernel_rfl) (by kernel_rfl) (by kernel_rfl) (by exact fun _ _ _ h=>h) (Or.inl ⟨by rfl,?_⟩) hS ?_
  rotate_left
  ·(intro wS hSw;(try dsimp only at hSw);go_simp;try with_reducible rfl)
  try simp only [Act.put,List.setIfInBounds_toArray,List.set_cons_zero,List.set_cons_succ]
  refine Cy.take (i:=2) (oi:=_) (v:=?_) (by rw [List.getElem?_toArray];rfl) (by kernel_rfl) (by kernel_rfl) (by kernel_rfl) (by kernel_rfl) (by kernel_rfl) (by exact fun _ _ _ h=>h) (Or.inl ⟨by rfl,?_⟩) hS ?_
  rotate_left
  ·(intro wS hSw;(try dsimp only at hSw);go_simp;try with_reducible rfl)
  try simp only [Act.put,List.setIfInBounds_toArray,List.set_cons_zero,List.set_cons_succ]
  refine Cy.take (i:=3) (oi:=_) (v:=?_) (by rw [List.getElem?_toArray];rfl) (by kernel_rfl) (by kernel_rfl) (by kernel_rfl) (by kernel_rfl) (by kernel_rfl) (by exact fun _ _ _ h=>h) (Or.inl ⟨by rfl,?_⟩) hS ?_
  rotate_left
  ·(intro wS hSw;(try dsimp only at hSw);go_simp;try with_reducible rfl)
  try simp only [Act.put,List.setIfInBounds_toArray,List.set_cons_zero,List.set_cons_succ]
  refine Cy.take (i:=4) (oi:=_) (v:=?_) (by rw [List.getElem?_toArray];rfl) (by kernel_rfl) (by kernel_rfl) (by kernel_rfl) (by kernel_rfl) (by kernel_rfl) (by exact fun _ _ _ h=>h) (Or.inl ⟨by rfl,?_⟩) hS ?_
  rotate_left
  ·(intro wS hSw;(try dsimp only at hSw);go_simp;try with_reducible rfl)
  try simp only [Act.put,List.setIfInBounds_toArray,List.set_cons_zero,List.set_cons_succ]
  refine Cy.take (i:=5) (oi:=_) (v:=?_) (by rw [List.getElem?_toArray];rfl) (by kernel_rfl) (by kernel_rfl) (by kernel_rfl) (by kernel_rfl) (by kernel_rfl) (by exact fun _ _ _ h=>h) (Or.inl ⟨by rfl,?_⟩) hS ?_
  rotate_left
  ·(intro wS hSw;(try dsimp only at hSw);go_simp;try with_reducible rfl)
  try simp only [Act.put,List.setIfInBounds_toArray,List.set_cons_zero,List.set_cons_succ]
  refine Cy.take (i:=6) (oi:=_) (v:=?_) (by rw [List.getElem?_toArray];rfl) (by kernel_rfl) (by kernel_rfl) (by kernel_rfl) (by kernel_rfl) (by kernel_rfl) (by exact fun _ _ _ h=>h) (Or.inl ⟨by rfl,?_⟩) hS ?_
  rotate_left
  ·(intro wS hSw;(try dsimp only at hSw);go_simp;try with_reducible rfl)
  try simp only [Act.put,List.setIfInBounds_toArray,List.set_cons_zero,List.set_cons_succ]
  refine Cy.take (i:=7) (oi:=_) (v:=?_) (by rw [List.getElem?_toArray];rfl) (by kernel_rfl) (by kernel_rfl) (by kernel_rfl) (by kernel_rfl) (by kernel_rfl) (by exact fun _ _ _ h=>h) (Or.inl ⟨by rfl,?_⟩) hS ?_
  rotate_left
  ·(intro wS hSw;(try dsimp only at hSw);go_simp;try with_reducible rfl)
  try simp only [Act.put,List.setIfInBounds_toArray,List.set_cons_zero,List.set_cons_succ]
  refine Cy.take (i:=8) (oi:=_) (v:=?_) (by rw [List.getElem?_toArray];rfl) (by kernel_rfl) (by kernel_rfl) (by kernel_rfl) (by kernel_rfl) (by kernel_rfl) (by exact fun _ _ _ h=>h) (Or.inl ⟨by rfl,?_⟩) hS ?_
  rotate_left
  ·(intro wS hSw;(try dsimp only at hSw);go_simp;try with_reducible rfl)
  try simp only [Act.put,List.setIfInBounds_toArray,List.set_cons_zero,List.set_cons_succ]
  refine Cy.take (i:=9) (oi:=_) (v:=?_) (by rw [List.getElem?_toArray];rfl) (by kernel_rfl) (by kernel_rfl) (by kernel_rfl) (by kernel_rfl) (by kernel_rfl) (by exact fun _ _ _ h=>h) (Or.inl ⟨by rfl,?_⟩) hS ?_
  rotate_left
  ·(intro wS hSw;(try dsimp only at hSw);go_simp;try with_reducible rfl)
  try simp only [Act.put,List.setIfInBounds_toArray,List.set_cons_zero,List.set_cons_succ]
  refine Cy.done (by kernel_rfl) ?_ _
  (try clear hS)
  have c_R:=R.cells;have f_R:=R.frozens
  go_wp2_with fail
  clear c_R f_R
  have n_K:Dn [g] w ((w5.setCell ⟨g,1,none⟩ (.int .i64 ((k:Int)+1))).setCell ⟨g,2,none⟩ (.int .u64 (IntKind.u64.wrap (IntKind.u64.wrap (IntKind.u64.wrap (Dq * 6364136223846793005))+840840)))):=((Dn.ofBelow hB).setCell (p:=⟨g,1,none⟩) (by simp) _).setCell (p:=⟨g,2,none⟩) (by simp) _
  have n_R:Gt ((w5.setCell ⟨g,1,none⟩ (.int .i64 ((k:Int)+1))).setCell ⟨g,2,none⟩ (.int .u64 (IntKind.u64.wrap (IntKind.u64.wrap (IntKind.u64.wrap (Dq * 6364136223846793005))+840840)))) g 67 [.slice a Bm.length c,.int .i64 ((k+1:Nat):Int),.int .u64 (IntKind.u64.wrap (IntKind.u64.wrap (IntKind.u64.wrap (Dq * 6364136223846793005))+840840))]:=by simpa using ((R.set 1 (.int .i64 ((k:Int)+1))).set 2 (.int .u64 (IntKind.u64.wrap (IntKind.u64.wrap (IntKind.u64.wrap (Dq * 6364136223846793005))+840840))))
  have n_S:Sl E9 ((w5.setCell ⟨g,1,none⟩ (.int .i64 ((k:Int)+1))).setCell ⟨g,2,none⟩ (.int .u64 (IntKind.u64.wrap (IntKind.u64.wrap (IntKind.u64.wrap (Dq * 6364136223846793005))+840840)))) (Value.slice a Bm.length c) Bm F:=S.frame (fun b hb=>by have:b≠g:=fun e=>hF (e▸hb);repeat rw [Below.heap_setCell _ _ _ _ (by simp <;> omega)])
  have hs0:0≤(IntKind.u64.wrap (IntKind.u64.wrap (IntKind.u64.wrap (Dq * 6364136223846793005))+840840))∧(IntKind.u64.wrap (IntKind.u64.wrap (IntKind.u64.wrap (Dq * 6364136223846793005))+840840)) < 18446744073709551616:=by rw [IntKind.wrap_u64];omega
  clear R S hB
  generalize (IntKind.u64.wrap (IntKind.u64.wrap (IntKind.u64.wrap (Dq * 6364136223846793005))+840840))=sd at *
  obtain ⟨hs0,hs1⟩:=hs0
  generalize ((w5.setCell ⟨g,1,none⟩ (.int .i64 ((k:Int)+1))).setCell ⟨g,2,none⟩ (.int .u64 sd))=w6 at *
  have R:=n_R;clear n_R
  have S:=n_S;clear n_S
  rename_i K0 hK0
  refine Cy.start (S:=(fun w'=>w'.cell? ⟨g,0,none⟩=some (.slice a Bm.length c)∧w'.cell? ⟨g,1,none⟩=some (.int .i64 ((k+1:Nat):Int))∧w'.cell? ⟨g,2,none⟩=some (.int .u64 sd))) (X:=(fun _=>false)) (by kernel_rfl) ?_
  have al:Below w6.heap.size w6 w6.drew:=D5 (Below.refl _ _) 1
  have hs_w7:=al.size
  replace R:=R.below al
  replace S:=S.below (by decide) al
  have hB:=al
  generalize w6.drew=w7 at *
  clear al
  have hS:(fun w'=>w'.cell? ⟨g,0,none⟩=some (.slice a Bm.length c)∧w'.cell? ⟨g,1,none⟩=some (.int .i64 ((k+1:Nat):Int))∧w'.cell? ⟨g,2,none⟩=some (.int .u64 sd)) w7:=⟨R.cells 0,R.cells 1,R.cells 2⟩
  refine Cy.take (i:=0) (oi:=_) (v:=?_) (by rw [List.getElem?_toArray];rfl) (by kernel_rfl) (by kernel_rfl) (by kernel_rfl) (by kernel_rfl) (by kernel_rfl) (by exact fun _ _ _ h=>h) (Or.inl ⟨by rfl,?_⟩) hS ?_
  rotate_left
  ·(intro wS hSw;(try dsimp only at hSw);go_simp;try with_reducible rfl)
  try simp only [Act.put,List.setIfInBounds_toArray,List.set_cons_zero,List.set_cons_succ]
  refine Cy.take (i:=1) (oi:=_) (v:=?_) (by rw [List.getElem?_toArray];rfl) (by kernel_rfl) (by kernel_rfl) (by kernel_rfl) (by kernel_rfl) (by kernel_rfl) (by exact fun _ _ _ h=>h) (Or.inl ⟨by rfl,?_⟩) hS ?_
  rotate_left
  ·(intro wS hSw;(try dsimp only at hSw);go_simp;try with_reducible rfl)
  try simp only [Act.put,List.setIfInBounds_toArray,List.set_cons_zero,List.set_cons_succ]
  refine Cy.take (i:=2) (oi:=_) (v:=?_) (by rw [List.getElem?_toArray];rfl) (by kernel_rfl) (by kernel_rfl) (by kernel_rfl) (by kernel_rfl) (by kernel_rfl) (by exact fun _ _ _ h=>h) (Or.inl ⟨by rfl,?_⟩) hS ?_
  rotate_left
  ·(intro wS hSw;(try dsimp only at hSw);go_simp;try with_reducible rfl)
  try simp only [Act.put,List.setIfInBounds_toArray,List.set_cons_zero,List.set_cons_succ]
  refine Cy.take (i:=3) (oi:=_) (v:=?_) (by rw [List.getElem?_toArray];rfl) (by kernel_rfl) (by kernel_rfl) (by kernel_rfl) (by kernel_rfl) (by kernel_rfl) (by exact fun _ _ _ h=>h) (Or.inl ⟨by rfl,?_⟩) hS ?_
  rotate_left
  ·(intro wS hSw;(try dsimp only at hSw);go_simp;try with_reducible rfl)
  try simp only [Act.put,List.setIfInBounds_toArray,List.set_cons_zero,List.set_cons_succ]
  refine Cy.take (i:=4) (oi:=_) (v:=?_) (by rw [List.getElem?_toArray];rfl) (by kernel_rfl) (by kernel_rfl) (by kernel_rfl) (by kernel_rfl) (by kernel_rfl) (by exact fun _ _ _ h=>h) (Or.inl ⟨by rfl,?_⟩) hS ?_
  rotate_left
  ·(intro wS hSw;(try dsimp only at hSw);go_simp;try with_reducible rfl)
  try simp only [Act.put,List.setIfInBounds_toArray,List.set_cons_zero,List.set_cons_succ]
  refine Cy.take (i:=5) (oi:=_) (v:=?_) (by rw [List.getElem?_toArray];rfl) (by kernel_rfl) (by kernel_rfl) (by kernel_rfl) (by kernel_rfl) (by kernel_rfl) (by exact fun _ _ _ h=>h) (Or.inl ⟨by rfl,?_⟩) hS ?_
  rotate_left
  ·(intro wS hSw;(try dsimp only at hSw);go_simp;try with_reducible rfl)
  try simp only [Act.put,List.setIfInBounds_toArray,List.set_cons_zero,List.set_cons_succ]
  refine Cy.take (i:=6) (oi:=_) (v:=?_) (by rw [List.getElem?_toArray];rfl) (by kernel_rfl) (by kernel_rfl) (by kernel_rfl) (by kernel_rfl) (by kernel_rfl) (by exact fun _ _ _ h=>h) (Or.inl ⟨by rfl,?_⟩) hS ?_
  rotate_left
  ·(intro wS hSw;(try dsimp only at hSw);go_simp;try with_reducible rfl)
  try simp only [Act.put,List.setIfInBounds_toArray,List.set_cons_zero,List.set_cons_succ]
  refine Cy.take (i:=7) (oi:=_) (v:=?_) (by rw [List.getElem?_toArray];rfl) (by kernel_rfl) (by kernel_rfl) (by kernel_rfl) (by kernel_rfl) (by kernel_rfl) (by exact fun _ _ _ h=>h) (Or.inl ⟨by rfl,?_⟩) hS ?_
  rotate_left
  ·(intro wS hSw;(try dsimp only at hSw);go_simp;try with_reducible rfl)
  try simp only [Act.put,List.setIfInBounds_toArray,List.set_cons_zero,List.set_cons_succ]
  refine Cy.take (i:=8) (oi:=_) (v:=?_) (by rw [List.getElem?_toArray];rfl) (by kernel_rfl) (by kernel_rfl) (by kernel_rfl) (by kernel_rfl) (by kernel_rfl) (by exact fun _ _ _ h=>h) (Or.inl ⟨by rfl,?_⟩) hS ?_
  rotate_left
  ·(intro wS hSw;(try dsimp only at hSw);go_simp;try with_reducible rfl)
  try simp only [Act.put,List.setIfInBounds_toArray,List.set_cons_zero,List.set_cons_succ]
  refine Cy.take (i:=9) (oi:=_) (v:=?_) (by rw [List.getElem?_toArray];rfl) (by kernel_rfl) (by kernel_rfl) (by kernel_rfl) (by kernel_rfl) (by kernel_rfl) (by exact fun _ _ _ h=>h) (Or.inl ⟨by rfl,?_⟩) hS ?_
  rotate_left
  ·(intro wS hSw;(try dsimp only at hSw);go_simp;try with_reducible rfl)
  try simp only [Act.put,List.setIfInBounds_toArray,List.set_cons_zero,List.set_cons_succ]
  refine Cy.done (by kernel_rfl) ?_ _
  (try clear hS)
  refine hK0 _ _ ?_
  clear hK0 K0
  have n_K2:=n_K.trans (Dn.ofBelow hB)
  obtain ⟨q,hq,hq2⟩:∃q:Nat,bits BinOp.and IntKind.u64 (sd / 1099511627776) 255=(q:Int)∧q≤255:=by
   refine ⟨(sd / 1099511627776).toNat &&& 255,?_,Nat.and_le_right⟩
   rw [←bits_and_u64_nat _ _ (by omega) (by omega)]
   congr 1;omega
  have c_R:=R.cells;have f_R:=R.frozens
  go_wp2_with fail
  refine bodyPost_ret (v:=.int .i64 (q:Int)) ?_ rfl ?_
  ·simp [results,results111,go_sem,hq]
  ·exact ⟨q,rfl,hq2,⟨k+1,sd,R,S,hF,by omega,hs0,hs1⟩,n_K2⟩
def Apc (B g:Nat) (F:S8) (n:Int) (w:World) (e:Ending) (w':World):Prop:=∃r:Nat,e=.returned (.int .i64 r)∧(r=0∨(r:Int) < n)∧W3 (B+2) w' g F∧Dn [g] w w'
theorem Aa5 (B g:Nat) (F:S8) (n:Int) (w:World) (h:W3 B w g F) (hB0:B≤1099511627774) (hn:n≤1048576) :
  Calls prog 46 #[.pointer (some ⟨g,0,none⟩),.int .i64 n] w (Apc B g F n w):=by
 have hN1:=Ajg B g F w h (by omega)
 have hN2:=fun w h=>Ajg (B+1) g F w h (by omega)
 replace hN1:=Lib.hid hN1;replace hN2:=Lib.hid hN2
 by_cases h1:n≤1
 ·go_enter func46,ntmps46
  go_wp2_with fail
  refine bodyPost_ret (v:=.int .i64 0) ?_ rfl ⟨0,rfl,.inl rfl,h.mono (by omega),Dn.refl _ _⟩
  simp [results,results46,go_sem]
 ·by_cases h2:n≤200
  ·go_enter func46,ntmps46
   go_wp2_with fail
   refine hN1.out.mono ?_
   rintro e w1 ⟨r,rfl,hr,hc,hk⟩
   have hm0:0≤(r:Int) % n:=Int.emod_nonneg _ (by omega)
   have hm1:(r:Int) % n < n:=Int.emod_lt_of_pos _ (by omega)
   go_wp2_with fail
   refine bodyPost_ret (v:=.int .i64 ((r:Int) % n)) ?_ rfl ⟨((r:Int) % n).toNat,by rw [Int.toNat_of_nonneg hm0],.inr (by omega),hc.mono (by omega),hk⟩
   simp [results,results46,go_sem]
  ·go_enter func46,ntmps46
   go_wp2_with fail
   refine hN1.out.mono ?_
   rintro e w1 ⟨r,rfl,hr,hc,hk⟩
   go_wp2_with fail
   refine (hN2.out _ hc).mono ?_
   rintro e w2 ⟨r2,rfl,hr2,hc2,hk2⟩
   have hm0:0≤((r:Int) * 256+r2) % n:=Int.emod_nonneg _ (by omega)
   have hm1:((r:Int) * 256+r2) % n < n:=Int.emod_lt_of_pos _ (by omega)
   go_wp2_with fail
   refine bodyPost_ret (v:=.int .i64 (((r:Int) * 256+r2) % n)) ?_ rfl ⟨(((r:Int) * 256+r2) % n).toNat,by rw [Int.toNat_of_nonneg hm0],.inr (by omega),hc2,hk.trans hk2⟩
   simp [results,results46,go_sem]
def Aqc (B g:Nat) (F:S8) (w:World) (e:Ending) (w':World):Prop:=∃b:Bool,e=.returned (.bool b)∧W3 (B+2) w' g F∧Dn [g] w w'
theorem Apr (B g:Nat) (F:S8) (n:Int) (w:World) (h:W3 B w g F) (hB0:B≤1099511627774) (hn:n≤1048576) :
  Calls prog 124 #[.pointer (some ⟨g,0,none⟩),.int .i64 n] w (Aqc B g F w):=by
 have hN1:=Lib.hid (Aa5 B g F n w h hB0 hn)
 go_enter func124,ntmps124
 go_wp2_with fail
 refine hN1.out.mono ?_
 rintro e w1 ⟨r,rfl,hr,hc,hk⟩
 go_wp2_with fail
 refine bodyPost_ret (v:=.bool ((r:Int) == 0)) ?_ rfl ⟨_,rfl,hc,hk⟩
 simp [results,results124,go_sem]
def POf (B g:Nat) (F:S8) (xs:List ByteArray) (w:World) (e:Ending) (w':World):Prop:=∃s∈xs,e=.returned (.string s)∧W3 (B+2) w' g F∧Dn [g] w w'
theorem Aqm (B g:Nat) (F:S8) (v:Value) (xs:List ByteArray) (K:List Nat) (w:World) (h:W3 B w g F) (hB0:B≤1099511627774) (hx:Sl A6 w v xs K) (h0:0 < xs.length) (h1:xs.length≤1048576) (hg:g ∉ K) :
  Calls prog 74 #[.pointer (some ⟨g,0,none⟩),v] w (POf B g F xs w):=by
 obtain ⟨a,c,rfl⟩:=hx.slice
 have hN1:=Lib.hid (Aa5 B g F xs.length w h hB0 (by omega))
 go_enter func74,ntmps74
 go_wp2_with fail
 refine hN1.out.mono ?_
 rintro e w1 ⟨r,rfl,hr,hc,hk⟩
 have hr2:r < xs.length:=by omega
 obtain ⟨hsz,b,off,rfl,hcell⟩:=(hx.Kb hk (fun b hb e=>hg (by simp at e;rw [←e];exact hb)) (by decide)).str.2.2 r hr2
 clear hr
 have hm:=List.getElem_mem hr2
 generalize xs[r]=s at *
 go_wp2_with fail
 refine bodyPost_ret (v:=.string s) ?_ rfl ⟨s,hm,rfl,hc,hk⟩
 simp [results,results74,go_sem]
def Ann (B g:Nat) (F:S8) (xs:List Int) (w:World) (e:Ending) (w':World):Prop:=∃s∈xs,e=.returned (.int .i64 s)∧W3 (B+2) w' g F∧Dn [g] w w'
theorem Ale (B g:Nat) (F:S8) (v:Value) (xs:List Int) (K:List Nat) (w:World) (h:W3 B w g F) (hB0:B≤1099511627774) (hx:Sl Be w v xs K) (h0:0 < xs.length) (h1:xs.length≤1048576) (hg:g ∉ K) :
  Calls prog 64 #[.pointer (some ⟨g,0,none⟩),v] w (Ann B g F xs w):=by
 obtain ⟨a,c,rfl⟩:=hx.slice
 have hN1:=Lib.hid (Aa5 B g F xs.length w h hB0 (by omega))
 go_enter func64,ntmps64
 go_wp2_with fail
 refine hN1.out.mono ?_
 rintro e w1 ⟨r,rfl,hr,hc,hk⟩
 have hr2:r < xs.length:=by omega
 obtain ⟨b,off,rfl,hcell⟩:=(hx.Kb hk (fun b hb e=>hg (by simp at e;rw [←e];exact hb)) (by decide)).int.2.2 r hr2
 clear hr
 have hm:=List.getElem_mem hr2
 generalize xs[r]=s at *
 go_wp2_with fail
 refine bodyPost_ret (v:=.int .i64 s) ?_ rfl ⟨s,hm,rfl,hc,hk⟩
 simp [results,results64,go_sem]
structure O8 where
 k:Nat
 Dq:Int
structure Hq (B:Nat) (s:O8):Prop where
 k:s.k≤B
 s0:0≤s.Dq
 s1:s.Dq < 18446744073709551616
theorem Hq.mono {B B':Nat} {s:O8} (h:Hq B s) (hb:B≤B'):Hq B' s:=⟨Nat.le_trans h.k hb,h.s0,h.s1⟩
theorem Aey {f:FuncId} {args:List Value} {σ:Type} {C:σ→Prop} {v:σ→Value} {B B' g:Nat} {F:S8} {s:O8} {X:List Pc} (hX:X.all (fun p=>!p.mu)=true) (ok:Hq B s)
  (h:∀w,W3 B w g F→Mc X w→(∀p∈X,g ∉ p.F)→Calls prog f args.toArray w fun e w'=>∃r,C r∧e=.returned (v r)∧W3 B' w' g F∧Dn [g] w w') :
  Fn prog f args (.sl E9 (.slice F.a F.Bm.length F.c) F.Bm F.bs::X) [.row g 67 0 [] [.slice F.a F.Bm.length F.c,.int .i64 (s.k:Nat),.int .u64 s.Dq] []] (fun (z:σ × O8)=>C z.1∧Hq B' z.2) (fun z=>v z.1) (fun z=>[.row g 67 0 [] [.slice F.a F.Bm.length F.c,.int .i64 (z.2.k:Nat),.int .u64 z.2.Dq] []]):=fun w hH hS=>by
 have h1:=hH (.row g 67 0 [] [.slice F.a F.Bm.length F.c,.int .i64 (s.k:Nat),.int .u64 s.Dq] []) (by simp)
 have h2:=hH (.sl E9 (.slice F.a F.Bm.length F.c) F.Bm F.bs) (by simp)
 have ap:=hS.1
 have hg:g ∉ F.bs:=fun hm=>ap (.sl E9 (.slice F.a F.Bm.length F.c) F.Bm F.bs) (by simp) (by simp [Pc.mu]) g (by simp [Pc.F]) hm
 refine (h w ⟨s.k,s.Dq,by simpa using h1.2,h2.2,hg,ok.k,ok.s0,ok.s1⟩ (fun p hp=>hH p (by simp [hp])) (fun p hp hm=>ap p (by simp [hp]) (by simp [Pc.mu]) g (by simp [Pc.F]) hm)).mono ?_
 rintro e w' ⟨r,hC,he,⟨k,Dq,R,S, -,hk,h0,h3⟩,hK⟩
 refine ⟨(r,⟨k,Dq⟩),⟨hC,hk,h0,h3⟩,he,Ia ⟨rfl,by simpa using R⟩,⟨by simp,trivial⟩,hK.mono (fun b hb _=>by simpa [fp,Pc.F] using hb),fun p hp b hb=>?_⟩
 simp at hp
 subst hp
 exact .inr (.inl ⟨_,List.mem_cons_self ..,by simpa [Pc.F] using hb⟩)
theorem Ek (B g:Nat) (F:S8) (n:Int) (s:O8) (ok:Hq B s) (hB:B≤1000000000000) (hn:n≤1048576) :
  Fn prog 46 [Eo g 0 0,.int .i64 n] [.sl E9 (.slice F.a F.Bm.length F.c) F.Bm F.bs] [.row g 67 0 [] [.slice F.a F.Bm.length F.c,.int .i64 (s.k:Nat),.int .u64 s.Dq] []] (fun (z:Nat × O8)=>(z.1=0∨(z.1:Int) < n)∧Hq (B+2) z.2) (fun z=>.int .i64 (z.1:Nat)) (fun z=>[.row g 67 0 [] [.slice F.a F.Bm.length F.c,.int .i64 (z.2.k:Nat),.int .u64 z.2.Dq] []]) :=
 Aey (C:=fun r:Nat=>r=0∨(r:Int) < n) (v:=fun r=>.int .i64 (r:Nat)) (X:=[]) rfl ok fun w h _ _=>(Aa5 B g F n w h (by omega) hn).mono fun _ _ ⟨r,he,h1,h2,h3⟩=>⟨r,h1,he,h2,h3⟩
theorem Ajp (B g:Nat) (F:S8) (n:Int) (s:O8) (ok:Hq B s) (hB:B≤1000000000000) (hn:n≤1048576) :
  Fn prog 124 [Eo g 0 0,.int .i64 n] [.sl E9 (.slice F.a F.Bm.length F.c) F.Bm F.bs] [.row g 67 0 [] [.slice F.a F.Bm.length F.c,.int .i64 (s.k:Nat),.int .u64 s.Dq] []] (fun (z:Bool × O8)=>True∧Hq (B+2) z.2) (fun z=>.bool z.1) (fun z=>[.row g 67 0 [] [.slice F.a F.Bm.length F.c,.int .i64 (z.2.k:Nat),.int .u64 z.2.Dq] []]) :=
 Aey (C:=fun _:Bool=>True) (v:=fun r=>.bool r) (X:=[]) rfl ok fun w h _ _=>(Apr B g F n w h (by omega) hn).mono fun _ _ ⟨r,he,h2,h3⟩=>⟨r,trivial,he,h2,h3⟩
theorem Al5 (B g:Nat) (F:S8) (v:Value) (xs:List ByteArray) (G:List Nat) (s:O8) (ok:Hq B s) (hB:B≤1000000000000) (h0:0 < xs.length) (h1:xs.length≤1048576) :
  Fn prog 74 [Eo g 0 0,v] [.sl E9 (.slice F.a F.Bm.length F.c) F.Bm F.bs,.sl A6 v xs G] [.row g 67 0 [] [.slice F.a F.Bm.length F.c,.int .i64 (s.k:Nat),.int .u64 s.Dq] []] (fun (z:ByteArray × O8)=>z.1∈xs∧Hq (B+2) z.2) (fun z=>.string z.1) (fun z=>[.row g 67 0 [] [.slice F.a F.Bm.length F.c,.int .i64 (z.2.k:Nat),.int .u64 z.2.Dq] []]) :=
 Aey (C:=fun r:ByteArray=>r∈xs) (v:=fun r=>.string r) (X:=[.sl A6 v xs G]) rfl ok fun w h hX hg=>(Aqm B g F v xs G w h (by omega) (hX (.sl A6 v xs G) (by simp)).2 h0 h1 (hg (.sl A6 v xs G) (by simp))).mono fun _ _ ⟨r,h1,he,h2,h3⟩=>⟨r,h1,he,h2,h3⟩
theorem Mg (B g:Nat) (F:S8) (v:Value) (xs:List Int) (G:List Nat) (s:O8) (ok:Hq B s) (hB:B≤1000000000000) (h0:0 < xs.length) (h1:xs.length≤1048576) :
  Fn prog 64 [Eo g 0 0,v] [.sl E9 (.slice F.a F.Bm.length F.c) F.Bm F.bs,.sl Be v xs G] [.row g 67 0 [] [.slice F.a F.Bm.length F.c,.int .i64 (s.k:Nat),.int .u64 s.Dq] []] (fun (z:Int × O8)=>z.1∈xs∧Hq (B+2) z.2) (fun z=>.int .i64 z.1) (fun z=>[.row g 67 0 [] [.slice F.a F.Bm.length F.c,.int .i64 (z.2.k:Nat),.int .u64 z.2.Dq] []]) :=
 Aey (C:=fun r:Int=>r∈xs) (v:=fun r=>.int .i64 r) (X:=[.sl Be v xs G]) rfl ok fun w h hX hg=>(Ale B g F v xs G w h (by omega) (hX (.sl Be v xs G) (by simp)).2 h0 h1 (hg (.sl Be v xs G) (by simp))).mono fun _ _ ⟨r,h1,he,h2,h3⟩=>⟨r,h1,he,h2,h3⟩
theorem Fn.weak {P:Program} {f:FuncId} {args:List Value} {A M:List Pc} {σ:Type} {C C':σ→Prop} {v:σ→Value} {N:σ→List Pc} (h:Fn P f args A M C v N) (hC:∀s,C s→C' s):Fn P f args A M C' v N:=fun w h1 h2=>(h w h1 h2).mono fun _ _ ⟨s,hc,r⟩=>⟨s,hC s hc,r⟩
theorem I9 (w:World):∀xs:List Int,Cp Be w (xs.map (Value.int .i64)) xs []
 | []=>⟨rfl,rfl⟩
 | x::r=>⟨[.int .i64 x],r.map (Value.int .i64),[],[],rfl,rfl,⟨rfl,rfl⟩,I9 w r⟩
theorem Xl (w:World):∀xs:List ByteArray,(∀x∈xs,x.size≤maxLen)→Cp A6 w (xs.map Value.string) xs []
 | [],_=>⟨rfl,rfl⟩
 | x::r,h=>⟨[.string x],r.map Value.string,[],[],rfl,rfl,⟨rfl,h x (by simp),rfl⟩,Xl w r fun y hy=>h y (by simp [hy])⟩
theorem P9 (B g:Nat) (F:S8) (s:O8) (ok:Hq B s) (hB:B≤900000000000) :
  Fn prog 70 [Eo g 0 0] [.sl E9 (.slice F.a F.Bm.length F.c) F.Bm F.bs] [.row g 67 0 [] [.slice F.a F.Bm.length F.c,.int .i64 (s.k:Nat),.int .u64 s.Dq] []] (fun (z:Int × O8)=>(0≤z.1∧z.1≤65535)∧Hq (B+4) z.2) (fun z=>.int .i64 z.1) (fun z=>[.row g 67 0 [] [.slice F.a F.Bm.length F.c,.int .i64 (z.2.k:Nat),.int .u64 z.2.Dq] []]):=by
 refine enter func70 rfl ntmps70 fun w0=>?_
 refine Jq ?_;intros
 refine Ee (xs:=[0,1,100,32767,32768,65535,65530,4660]) (fun w=>I9 w _) ?_ (by decide)
 refine Ax (E:=Be) fun G=>?_
 refine go ?_;intros
 refine cf (Mg B g F _ [0,1,100,32767,32768,65535,65530,4660] G s ok (by omega) (by decide) (by decide)) fun z hz=>?_
 refine Ao ?_
 obtain ⟨hz1,hz2⟩:=hz
 have hz3:0≤z.1∧z.1≤65535:=by simp only [List.mem_cons,List.not_mem_nil,or_false] at hz1;omega
 refine go ?_;intros
 refine cf (Ek (B+2) g F 12 z.2 hz2 (by omega) (by omega)) fun y hy=>?_
 refine Ao ?_
 obtain ⟨hy1,hy2⟩:=hy
 refine go ?_;intros
 refine ce (fun w s=>Ex _ _ _ (by omega) (by omega)) ?_
 refine go ?_;intros
 refine ret (_,y.2) ⟨Ha _ _,hy2⟩ rfl
theorem Qd (B g:Nat) (F:S8) (s:O8) (ok:Hq B s) (hB:B≤890000000000) :
  Fn prog 63 [Eo g 0 0] [.sl E9 (.slice F.a F.Bm.length F.c) F.Bm F.bs] [.row g 67 0 [] [.slice F.a F.Bm.length F.c,.int .i64 (s.k:Nat),.int .u64 s.Dq] []] (fun (z:Int × O8)=>(-1≤z.1∧z.1≤65536)∧Hq (B+6) z.2) (fun z=>.int .i64 z.1) (fun z=>[.row g 67 0 [] [.slice F.a F.Bm.length F.c,.int .i64 (z.2.k:Nat),.int .u64 z.2.Dq] []]):=by
 refine enter func63 rfl ntmps63 fun w0=>?_
 refine go ?_;intros
 refine cf (Ajp B g F 20 s ok (by omega) (by omega)) fun q hq=>?_
 refine Ao ?_
 obtain ⟨b,s1⟩:=q
 obtain ⟨-,hq⟩:=hq
 cases b
 ·refine go ?_;intros
  refine cf (P9 (B+2) g F s1 hq (by omega)) fun z hz=>?_
  refine Ao ?_
  refine go ?_;intros
  refine ret z ⟨by have:=hz.1;omega,hz.2⟩ rfl
 ·refine Jq ?_;intros
  refine Ee (xs:=[-1,65536,65535]) (fun w=>I9 w _) ?_ (by decide)
  refine Ax (E:=Be) fun G=>?_
  refine go ?_;intros
  refine cf (Mg (B+2) g F _ [-1,65536,65535] G s1 hq (by omega) (by decide) (by decide)) fun z hz=>?_
  refine Ao ?_
  refine go ?_;intros
  refine ret z ⟨by have:=hz.1;simp only [List.mem_cons,List.not_mem_nil,or_false] at this;omega,hz.2.mono (by omega)⟩ rfl
theorem Re (B g:Nat) (F:S8) (s:O8) (ok:Hq B s) (hB:B≤890000000000) :
  Fn prog 63 [Eo g 0 0] [.sl E9 (.slice F.a F.Bm.length F.c) F.Bm F.bs] [.row g 67 0 [] [.slice F.a F.Bm.length F.c,.int .i64 (s.k:Nat),.int .u64 s.Dq] []] (fun (z:Int × O8)=>Hq (B+6) z.2) (fun z=>.int .i64 z.1) (fun z=>[.row g 67 0 [] [.slice F.a F.Bm.length F.c,.int .i64 (z.2.k:Nat),.int .u64 z.2.Dq] []]):=(Qd B g F s ok hB).weak fun _ h=>h.2
structure LeS where
 r:Nat
 t:ByteArray
 s:O8
structure Ap9 (B r0:Nat) (z:LeS):Prop where
 r:z.r≤r0
 s:Hq (B+2+2 * (r0 - z.r)) z.s
 t:z.t.size≤r0 - z.r
 l:Qn z.t.data.toList=true
theorem Oj (B g:Nat) (F:S8) (s:O8) (n:Int) (ok:Hq B s) (hB:B≤900000000000) (h0:0≤n) (h8:n≤20) :
  Fn prog 113 [Eo g 0 0,.int .i64 n] [.sl E9 (.slice F.a F.Bm.length F.c) F.Bm F.bs] [.row g 67 0 [] [.slice F.a F.Bm.length F.c,.int .i64 (s.k:Nat),.int .u64 s.Dq] []] (fun (z:ByteArray × O8)=>(z.1.size≤20∧(z.1.size:Int)≤n∧Qn z.1.data.toList=true)∧Hq (B+42) z.2) (fun z=>.string z.1) (fun z=>[.row g 67 0 [] [.slice F.a F.Bm.length F.c,.int .i64 (z.2.k:Nat),.int .u64 z.2.Dq] []]):=by
 refine enter func113 rfl ntmps113 fun w0=>?_
 refine go ?_;intros
 refine cf (Ek B g F (n+1) s ok (by omega) (by omega)) fun y hy=>?_
 refine Ao ?_
 obtain ⟨r0,s1⟩:=y
 obtain ⟨hy1,hy2⟩:=hy
 dsimp only at hy1 hy2 ⊢
 have hr0:r0≤20:=by omega
 refine go ?_;intros
 refine Cq [0,4] (fun z:LeS=>[(5,.string z.t),(6,.int .i64 (z.r:Nat))]) (fun z=>[.row g 67 0 [] [.slice F.a F.Bm.length F.c,.int .i64 (z.s.k:Nat),.int .u64 z.s.Dq] []]) (Ap9 B r0) (fun z=>z.r) ⟨r0,⟨#[]⟩,s1⟩ ⟨Nat.le_refl _,by simpa using hy2,Nat.zero_le _,rfl⟩ fun z hz=>?_
 obtain ⟨z1,z2,z3,z4⟩:=hz
 refine go ?_;intros
 refine Bd rfl (fun h3=>?_) (fun h3=>?_)
 ·refine Jq ?_;intros
  refine Ee (xs:=[⟨#[97]⟩,⟨#[98]⟩,⟨#[99]⟩,⟨#[120]⟩,⟨#[122]⟩]) (fun w=>Xl w _ (by decide)) ?_ (by decide)
  refine Ax (E:=A6) fun G=>?_
  refine go ?_;intros
  refine cf (Al5 _ g F _ [⟨#[97]⟩,⟨#[98]⟩,⟨#[99]⟩,⟨#[120]⟩,⟨#[122]⟩] G z.s z2 (by omega) (by decide) (by decide)) fun q hq=>?_
  refine Ao ?_
  have hq1:q.1.size=1∧Qn q.1.data.toList=true:=by
   have:=hq.1
   simp only [List.mem_cons,List.not_mem_nil,or_false] at this
   rcases this with e|e|e|e|e <;> rw [e] <;> exact ⟨rfl,rfl⟩
  refine go ?_;intros
  rw [show ((z.r:Nat):Int) - 1=((z.r - 1:Nat):Int) by omega]
  refine Co ⟨z.r - 1,z.t++q.1,q.2⟩ ⟨by show z.r - 1≤r0;omega,hq.2.mono (by show _≤B+2+2 * (r0 - (z.r - 1));omega),by show (z.t++q.1).size≤r0 - (z.r - 1);rw [ByteArray.size_append];omega,by show Qn (z.t++q.1).data.toList=true;rw [ByteArray.data_append,Array.toList_append];unfold Qn at *;rw [List.all_append,z4,hq1.2];rfl⟩ (by show z.r - 1 < _;omega)
 ·refine go ?_;intros
  refine ret (z.t,z.s) ⟨⟨by show z.t.size≤20;omega,by show (z.t.size:Int)≤n;omega,z4⟩,z2.mono (by omega)⟩ rfl
structure TrD where
 l:List Int
 a:Option Addr
 c:Nat
 F:List Nat
 i:Nat
 s:O8
structure Aqi (B:Nat) (z:TrD):Prop where
 g:Mu z.l
 l:z.l.length+z.i≤8
 i:z.i≤6
 s:Hq (B+10+10 * (6 - z.i)) z.s
theorem Aen (B g:Nat) (F:S8) (s:O8) (ok:Hq B s) (hB:B≤800000000000) :
  Fn prog 50 [Eo g 0 0] [.sl E9 (.slice F.a F.Bm.length F.c) F.Bm F.bs] [.row g 67 0 [] [.slice F.a F.Bm.length F.c,.int .i64 (s.k:Nat),.int .u64 s.Dq] []] (fun (z:TrD)=>Mu z.l∧Hq (B+100) z.s) (fun z=>.agg #[.slice z.a z.l.length z.c])
   (fun z=>[.ow Be 3 (.slice z.a z.l.length z.c) z.l z.F,.row g 67 0 [] [.slice F.a F.Bm.length F.c,.int .i64 (z.s.k:Nat),.int .u64 z.s.Dq] []]):=by
 refine enter func50 rfl ntmps50 fun w0=>?_
 refine Jq ?_;intros
 refine Ee (xs:=[-1,0]) (fun w=>I9 w _) ?_ (by decide)
 refine go ?_;intros
 rename_i g2 g5 g3
 refine cf (Ek _ g F 7 s ok (by omega) (by omega)) fun y hy=>?_
 refine Ao ?_
 obtain ⟨r0,s2⟩:=y
 obtain ⟨hr0,h2⟩:=hy
 dsimp only at hr0 h2 ⊢
 have hr0:r0≤6:=by omega
 refine go ?_;intros
 refine Cq [0,2,3] (fun z:TrD=>[(4,.int .i64 (z.i:Nat))]) (fun z=>[.row g3 26 0 [] [.slice z.a z.l.length z.c] [],.ow Be 3 (.slice z.a z.l.length z.c) z.l z.F,.row g 67 0 [] [.slice F.a F.Bm.length F.c,.int .i64 (z.s.k:Nat),.int .u64 z.s.Dq] []]) (Aqi B) (fun z=>z.i) ⟨[-1,0],some ⟨g5,0,none⟩,2,_,r0,s2⟩ ⟨Af6,by show 2+r0≤8;omega,hr0,h2.mono (by show _≤B+10+10 * (6 - r0);omega)⟩ fun z hz=>?_
 obtain ⟨z1,z2,z3,z4⟩:=hz
 have hn0:=z1.n0
 refine go ?_;intros
 refine Bd rfl (fun h3=>?_) (fun h3=>?_)
 ·have hi0:0 < z.i:=by omega
  refine Jq ?_;intros
  refine Av [0] [10] ?_
  refine dt 0 ?_
  refine dt 1 ?_
  refine dt 2 ?_
  refine dt 3 ?_
  refine dt 4 ?_
  refine dt 5 ?_
  refine dO 6 (by kernel_rfl) (by rw [List.getElem?_toArray];rfl) ?_
  apply At;rfl;kernel_rfl;exact Bb
  refine cf (Ek _ g F z.l.length z.s z4 (by omega) (by omega)) fun y hy=>?_
  refine Ao ?_
  obtain ⟨k5,s5⟩:=y
  obtain ⟨r5,h5⟩:=hy
  dsimp only at r5 h5 ⊢
  have r5:k5 < z.l.length:=by omega
  refine dk ?_
  refine dO 7 (by kernel_rfl) (by rw [List.getElem?_toArray];rfl) ?_
  apply Hh;rfl;rfl;rfl;rfl;exact Gz;exact Gp;intro _
  refine dk ?_
  refine dO 8 (by kernel_rfl) (by rw [List.getElem?_toArray];rfl) ?_
  refine Lh (Mo _) C8 fun a9 c9 F9=>?_
  refine dk ?_
  refine dt 9 ?_
  refine dO 10 (by kernel_rfl) (by rw [List.getElem?_toArray];rfl) ?_
  apply Cf;rfl;rfl;rfl;(first|exact AggC.s|exact OneC.s);rfl;exact Ci;exact Cg;rfl
  refine Lv ?_
  refine dd ?_
  refine go ?_;intros
  rw [show ((z.i:Nat):Int) - 1=((z.i - 1:Nat):Int) by omega]
  refine Co ⟨z.l++[(k5:Int)],a9,c9,F9,z.i - 1,s5⟩ ⟨Adx z1 (by omega) r5,by show (z.l++[_]).length+(z.i - 1)≤8;simp;omega,by show z.i - 1≤6;omega,h5.mono (by show _≤B+10+10 * (6 - (z.i - 1));omega)⟩ (by show z.i - 1 < z.i;omega)
 ·refine go ?_;intros
  refine ret z ⟨z1,z4.mono (by omega)⟩ rfl
section
variable {c:Cx} {fr:Fr} {H:List Pc} {Φ:Gl}
theorem Uw {a:Option Addr} {n cp:Nat} {xs:List Fa} {F:List Nat} (i:Nat) (h:∀(hi:i < xs.length) (b o:Nat),a=some ⟨b,o,none⟩→xs[i].data.size≤maxLen→T c fr (.cel b (o+i * 3) [.int .i64 xs[i].Cm,.int .i64 xs[i].node,.string xs[i].data]::H) Φ) (hm:.sl Kk (.slice a n cp) xs F∈H:=by exact Bw) (hi:i < xs.length:=by omega):T c fr H Φ:=.mk fun ac w s g=>by
 obtain ⟨b,o,cs,G,ha,hrep,hG,hb,hne,hr⟩:=Rs (s.get hm) i hi
 obtain ⟨rfl,s1,rfl⟩:=hrep
 exact (h hi b o  ha s1 ).h ac w (s.ro hm rfl rfl ⟨hne,hr⟩ (by intro x hx;simp [Pc.F] at hx;subst hx;exact hb)) g
theorem Xk (x:Fa) (s1:x.data.size≤maxLen) (w:World):Cp Kk w [.int .i64 x.Cm,.int .i64 x.node,.string x.data] [x] []:=⟨_,[],[],[],by simp,by simp,⟨rfl,s1,rfl⟩,rfl,rfl⟩
end
theorem Zp {k n t l:Int} {s:ByteArray} (hk:1≤k∧k≤5) (hn:Bx n=true) (ht:Bx t=true) (hl:Bx l=true) (hg:gp t l≤32767) (hs:Nq s=true) (he:s=⟨#[]⟩∨k≤2):Bk ⟨k,n,t,l,s⟩=true:=by
 unfold Bk Gs
 simp only [Bool.and_eq_true,Bool.or_eq_true,decide_eq_true_eq]
 refine ⟨⟨⟨⟨⟨⟨hk,hn⟩,ht⟩,hl⟩,hs⟩,hg⟩,?_⟩
 rcases he with h|h
 ·exact .inl (.inl h)
 ·by_cases h1:k=1
  ·exact .inl (.inr h1)
  ·exact .inr (by omega)
theorem Ad0 {s:ByteArray} (h:(s.size:Int)≤8) (h2:Qn s.data.toList=true):Nq s=true:=by unfold Nq;rw [decide_eq_true h,h2];rfl
theorem Af4 {p:Aw} (h:Bk p=true):0≤p.Ak∧p.Ak≤65535∧p.data.size≤maxLen:=by
 unfold Bk Nq at h
 simp only [Bool.and_eq_true,decide_eq_true_eq] at h
 obtain ⟨t0,t1⟩:=A4.1 h.1.1.1.1.2
 exact ⟨t0,t1,by unfold maxLen;omega⟩
theorem Ag7 (B g:Nat) (F:S8) (s:O8) (ok:Hq B s) (hB:B≤800000000000) :
  Fn prog 129 [Eo g 0 0] [.sl E9 (.slice F.a F.Bm.length F.c) F.Bm F.bs] [.row g 67 0 [] [.slice F.a F.Bm.length F.c,.int .i64 (s.k:Nat),.int .u64 s.Dq] []] (fun (z:Aw × O8)=>Bk z.1=true∧Hq (B+60) z.2) (fun s=>.agg #[.int .i64 s.1.Cm,.int .i64 s.1.Ac,.int .i64 s.1.Ak,.int .i64 s.1.Dy,.string s.1.data]) (fun s=>[.row g 67 0 [] [.slice F.a F.Bm.length F.c,.int .i64 (s.2.k:Nat),.int .u64 s.2.Dq] []]):=by
 refine enter func129 rfl ntmps129 fun w0=>?_
 refine go ?_;intros
 refine cf (P9 B g F s ok (by omega)) fun n hn=>?_
 refine Ao ?_
 obtain ⟨hn1,hn2⟩:=hn
 refine go ?_;intros
 refine cf (Ek (B+4) g F 5 n.2 hn2 (by omega) (by omega)) fun y1 hy1=>?_
 refine Ao ?_
 obtain ⟨hy1,hy2⟩:=hy1
 have hr1:y1.1≤4:=by omega
 refine go ?_;intros
 refine cf (Ek _ g F 9 y1.2 hy2 (by omega) (by omega)) fun y3 hy3=>?_
 refine Ao ?_
 obtain ⟨hy3,hy4⟩:=hy3
 refine go ?_;intros
 refine ce (fun w s=>Ex _ _ _ (by omega) (by omega)) ?_
 refine go ?_;intros
 refine cf (Ek _ g F 10 y3.2 hy4 (by omega) (by omega)) fun y5 hy5=>?_
 refine Ao ?_
 obtain ⟨hy5,hy6⟩:=hy5
 refine go ?_;intros
 refine ce (fun w s=>Ex _ _ _ (by omega) (by omega)) ?_
 refine go ?_;intros
 refine Bd rfl (fun h1=>?_) (fun h1=>?_)
 ·refine go ?_;intros
  refine cf (Oj _ g F y5.2 8 hy6 (by omega) (by omega) (by omega)) fun l hl=>?_
  refine Ao ?_
  obtain ⟨hl1,hl2⟩:=hl
  refine go ?_;intros
  refine ret (⟨1+(y1.1:Nat),Ca n.1 ((y5.1:Nat) - 1),n.1,Ca n.1 (y3.1:Nat),l.1⟩,l.2) ⟨Zp ⟨by omega,by omega⟩ (Me _ _) (A4.2 hn1) (Me _ _) (by unfold gp Ca;omega) (Ad0 hl1.2.1 hl1.2.2) (.inr (by omega)),hl2.mono (by omega)⟩ rfl
 ·refine go ?_;intros
  refine ret (⟨1+(y1.1:Nat),Ca n.1 ((y5.1:Nat) - 1),n.1,Ca n.1 (y3.1:Nat),⟨#[]⟩⟩,y5.2) ⟨Zp ⟨by omega,by omega⟩ (Me _ _) (A4.2 hn1) (Me _ _) (by unfold gp Ca;omega) (by decide) (.inl rfl),hy6.mono (by omega)⟩ rfl
theorem Ajr (B g:Nat) (F:S8) (s:O8) (ok:Hq B s) (hB:B≤800000000000) :
  Fn prog 129 [Eo g 0 0] [.sl E9 (.slice F.a F.Bm.length F.c) F.Bm F.bs] [.row g 67 0 [] [.slice F.a F.Bm.length F.c,.int .i64 (s.k:Nat),.int .u64 s.Dq] []] (fun (z:Aw × O8)=>(0≤z.1.Ak∧z.1.Ak≤65535∧z.1.data.size≤maxLen)∧Hq (B+60) z.2) (fun s=>.agg #[.int .i64 s.1.Cm,.int .i64 s.1.Ac,.int .i64 s.1.Ak,.int .i64 s.1.Dy,.string s.1.data]) (fun s=>[.row g 67 0 [] [.slice F.a F.Bm.length F.c,.int .i64 (s.2.k:Nat),.int .u64 s.2.Dq] []]):=(Ag7 B g F s ok hB).weak fun _ h=>⟨Af4 h.1,h.2⟩
theorem Aby (B g:Nat) (F:S8) (s:O8) (ok:Hq B s) (hB:B≤700000000000) :
  Fn prog 72 [Eo g 0 0] [.sl E9 (.slice F.a F.Bm.length F.c) F.Bm F.bs] [.row g 67 0 [] [.slice F.a F.Bm.length F.c,.int .i64 (s.k:Nat),.int .u64 s.Dq] []] (fun (z:Aw × O8)=>z.1.data.size≤maxLen∧Hq (B+100) z.2) (fun s=>.agg #[.int .i64 s.1.Cm,.int .i64 s.1.Ac,.int .i64 s.1.Ak,.int .i64 s.1.Dy,.string s.1.data]) (fun s=>[.row g 67 0 [] [.slice F.a F.Bm.length F.c,.int .i64 (s.2.k:Nat),.int .u64 s.2.Dq] []]):=by
 refine enter func72 rfl ntmps72 fun w0=>?_
 refine go ?_;intros
 refine cf (Ajr B g F s ok (by omega)) fun z hz=>?_
 refine Ao ?_
 obtain ⟨⟨t0,t1,hz1⟩,hz2⟩:=hz
 refine go ?_;intros
 refine cf (Ek _ g F 24 z.2 hz2 (by omega) (by omega)) fun p hp=>?_
 refine Ao ?_
 obtain ⟨r,s3⟩:=p
 obtain ⟨-,hp⟩:=hp
 dsimp only at hp ⊢
 refine go ?_;intros
 refine Bd rfl (fun e0=>?_) (fun e0=>?_)
 ·refine Jq ?_;intros
  refine Ee (xs:=[0,6,5]) (fun w=>I9 w _) ?_ (by decide)
  refine Ax (E:=Be) fun G=>?_
  refine go ?_;intros
  refine cf (Mg _ g F _ [0,6,5] G s3 hp (by omega) (by decide) (by decide)) fun q hq=>?_
  refine Ao ?_
  refine go ?_;intros
  refine ret (⟨q.1,z.1.Ac,z.1.Ak,z.1.Dy,z.1.data⟩,q.2) ⟨hz1,hq.2.mono (by omega)⟩ rfl
 ·refine go ?_;intros
  refine Bd rfl (fun e1=>?_) (fun e1=>?_)
  ·refine Jq ?_;intros
   refine Ee (xs:=[-1,65536,65535]) (fun w=>I9 w _) ?_ (by decide)
   refine Ax (E:=Be) fun G=>?_
   refine go ?_;intros
   refine cf (Mg _ g F _ [-1,65536,65535] G s3 hp (by omega) (by decide) (by decide)) fun q hq=>?_
   refine Ao ?_
   refine go ?_;intros
   refine ret (⟨z.1.Cm,q.1,z.1.Ak,z.1.Dy,z.1.data⟩,q.2) ⟨hz1,hq.2.mono (by omega)⟩ rfl
  ·refine go ?_;intros
   refine Bd rfl (fun e2=>?_) (fun e2=>?_)
   ·refine Jq ?_;intros
    refine Av [1] [7] ?_
    refine dt 0 ?_
    refine dt 1 ?_
    refine dt 2 ?_
    refine dO 3 (by kernel_rfl) (by rw [List.getElem?_toArray];rfl) ?_
    apply Hh;rfl;rfl;rfl;rfl;exact Gz;exact Gp;intro _
    refine Ee (xs:=[32767,32768]) (fun w=>I9 w _) ?_ (by decide)
    refine Ax (E:=Be) fun G=>?_
    refine dk ?_
    refine dO 4 (by kernel_rfl) (by rw [List.getElem?_toArray];rfl) ?_
    apply At;rfl;kernel_rfl;exact Bb
    refine cf (Mg _ g F _ [32767,32768] G s3 hp (by omega) (by decide) (by decide)) fun q hq=>?_
    refine Ao ?_
    have hq3:0≤q.1∧q.1≤32768:=by have:=hq.1;simp only [List.mem_cons,List.not_mem_nil,or_false] at this;omega
    refine dk ?_
    refine dO 5 (by kernel_rfl) (by rw [List.getElem?_toArray];rfl) ?_
    apply At;rfl;kernel_rfl;exact Bb
    refine ce (fun w s=>Ex _ _ _ (by omega) (by omega)) ?_
    refine dk ?_
    refine dt 6 ?_
    refine dO 7 (by kernel_rfl) (by rw [List.getElem?_toArray];rfl) ?_
    apply Cf;rfl;rfl;rfl;(first|exact AggC.s|exact OneC.s);rfl;exact Ci;exact Cg;rfl
    refine Lv ?_
    refine dd ?_
    refine go ?_;intros
    refine ret (⟨z.1.Cm,z.1.Ac,z.1.Ak,Ca z.1.Ak q.1,z.1.data⟩,q.2) ⟨hz1,hq.2.mono (by omega)⟩ rfl
   ·refine go ?_;intros
    refine Bd rfl (fun e3=>?_) (fun e3=>?_)
    ·refine Jq ?_;intros
     refine Ee (xs:=[⟨#[97,98,99,100,101,102,103,104]⟩,⟨#[97,98,99,100,101,102,103,104,105]⟩,⟨#[65]⟩,⟨#[97,32,98]⟩,⟨#[97]⟩]) (fun w=>Xl w _ (by decide)) ?_ (by decide)
     refine Ax (E:=A6) fun G=>?_
     refine go ?_;intros
     refine cf (Al5 _ g F _ [⟨#[97,98,99,100,101,102,103,104]⟩,⟨#[97,98,99,100,101,102,103,104,105]⟩,⟨#[65]⟩,⟨#[97,32,98]⟩,⟨#[97]⟩] G s3 hp (by omega) (by decide) (by decide)) fun q hq=>?_
     refine Ao ?_
     have hq3:q.1.size≤maxLen:=by have:=hq.1;simp only [List.mem_cons,List.not_mem_nil,or_false] at this;rcases this with e|e|e|e|e <;> rw [e] <;> decide
     refine go ?_;intros
     refine ret (⟨z.1.Cm,z.1.Ac,z.1.Ak,z.1.Dy,q.1⟩,q.2) ⟨hq3,hq.2.mono (by omega)⟩ rfl
    ·refine go ?_;intros
     refine ret (z.1,s3) ⟨hz1,hp.mono (by omega)⟩ rfl
theorem Al1 (a b:Int):Fn prog 112 [.int .i64 a,.int .i64 b] [] [] (fun (_:Unit)=>True) (fun _=>.int .i64 (max a b)) (fun _=>[]):=by
 refine enter func112 rfl ntmps112 fun w0=>?_
 refine go ?_;intros
 refine Bd rfl (fun h=>?_) (fun h=>?_)
 ·refine go ?_;intros
  rw [show max a b=a by omega]
  refine ret () trivial rfl
 ·refine go ?_;intros
  rw [show max a b=b by omega]
  refine ret () trivial rfl
theorem okq {k:Int} {i:Nat} (hk:k=2∨k=3∨k=5∨k=6) (h0:1≤i) (h7:i≤7):Dg ⟨k,(i:Int),⟨#[]⟩⟩=true:=by
 have hf:Mx ((i:Nat):Int)=true:=M5.2 (by omega)
 unfold Dg
 rcases hk with rfl|rfl|rfl|rfl
 all_goals
  show (Gs 1 _ 6 && Mx ((i:Nat):Int) && decide _)=true
  rw [hf];rfl
structure StD where
 t:Fa
 s:O8
structure StW where
 n:Nat
 i:Nat
 s:O8
structure Aqg (B:Nat) (z:StW):Prop where
 a:1≤z.n
 b:z.n≤7
 i:z.i≤3
 s:Hq (B+10+10 * z.i) z.s
theorem Ww (B g:Nat) (F:S8) (s:O8) (n:En) (v:Value) (Fx:List Nat) (h2:2≤n.Ar.Ad.length) (h8:n.Ar.Ad.length≤8) (hd:n.down.length≤8) (hu:n.up.length=n.down.length) (hq:∀q∈n.down++n.up,q.length≤6) (ok:Hq B s) (hB:B≤800000000000) :
  Fn prog 47 [Eo g 0 0,v] [.sl E9 (.slice F.a F.Bm.length F.c) F.Bm F.bs,.isv Lr v n Fx] [.row g 67 0 [] [.slice F.a F.Bm.length F.c,.int .i64 (s.k:Nat),.int .u64 s.Dq] []] (fun (z:StD)=>Dg z.t=true∧z.t.data.size≤maxLen∧Hq (B+200) z.s) (fun z=>.agg #[.int .i64 z.t.Cm,.int .i64 z.t.node,.string z.t.data])
   (fun z=>[.row g 67 0 [] [.slice F.a F.Bm.length F.c,.int .i64 (z.s.k:Nat),.int .u64 z.s.Dq] []]):=by
 refine enter func47 rfl ntmps47 fun w0=>?_
 refine C9 ?_
 rintro a1 c1 F1 a2 c2 F2 a3 c3 F3 a4 c4 F4 a5 c5 F5 a6 c6 F6 a7 c7 F7 rfl l1 l2 l3 l4 l5 l6 l7
 refine go ?_;intros
 rename_i gb gs
 refine cf (Al1 1 (n.Ar.Ad.length - 1)) fun _ _=>?_
 refine Ao ?_
 refine go ?_;intros
 refine cf (Ek _ g F (max 1 (n.Ar.Ad.length - 1)) s ok (by omega) (by omega)) fun y hy=>?_
 refine Ao ?_
 obtain ⟨r0,s2⟩:=y
 obtain ⟨hr0,h2⟩:=hy
 dsimp only at hr0 h2 ⊢
 have hr0:r0≤6:=by omega
 refine go ?_;intros
 rw [show (1:Int)+(r0:Nat)=((1+r0:Nat):Int) by omega]
 refine Cq [0,3,4] (fun z:StW=>[(5,.int .i64 (z.n:Nat)),(6,.int .i64 (z.i:Nat))]) (fun z=>[.row g 67 0 [] [.slice F.a F.Bm.length F.c,.int .i64 (z.s.k:Nat),.int .u64 z.s.Dq] []]) (Aqg B) (fun z=>3 - z.i) ⟨1+r0,0,s2⟩ ⟨by show 1≤1+r0;omega,by show 1+r0≤7;omega,Nat.zero_le _,h2.mono (by show _≤B+10+10 * 0;omega)⟩ fun z hz=>?_
 obtain ⟨z1,z2,z3,z4⟩:=hz
 repeat apply Xe
 refine Ep [0,3,4,5,6] [0,1,2,3,4,5,6,7,8,9,10,11] (fun b:Bool=>[(40,.bool b)]) (fun _=>[]) (fun b=>b=true→z.i < 3) ?_ fun b hb=>?_
 ·by_cases k0:z.i < 3
  ·by_cases k1:z.n < n.down.length
   ·refine M0 (E:=Al) (hz:=by decide) (xs:=n.down) z.n ?_
    rintro hi1 b1 o1 a8 c8 F8 e1 l8
    refine M0 (E:=Al) (hz:=by decide) (xs:=n.up) z.n ?_
    rintro hi2 b2 o2 a9 c9 F9 e2 l9
    rw [e1,e2]
    have m8:=hq _ (List.mem_append_left _ (List.getElem_mem hi1))
    have m9:=hq _ (List.mem_append_right _ (List.getElem_mem hi2))
    refine Jq ?_;intros
    refine Av [0,2,6] [] ?_
    refine dt 0 ?_
    refine dt 1 ?_
    rw [show decide (((z.i:Nat):Int) < 3)=true by exact decide_eq_true (by omega)]
    refine dt 2 ?_
    refine Dm 3 ?_
    refine Dm 4 ?_
    refine Dm 5 ?_
    refine Dm 6 ?_
    refine Dm 7 ?_
    rw [show decide (((z.n:Nat):Int) < (n.down.length:Int))=true by exact decide_eq_true (by omega)]
    refine dt 8 ?_
    refine dt 9 ?_
    refine Dm 10 ?_
    refine Dm 11 ?_
    refine Dm 12 ?_
    refine Dm 13 ?_
    refine Dm 14 ?_
    refine Dm 15 ?_
    refine Dm 16 ?_
    refine Dm 17 ?_
    refine Dm 18 ?_
    refine Dm 19 ?_
    refine Dm 20 ?_
    refine Dm 21 ?_
    refine Dm 22 ?_
    refine Dm 23 ?_
    refine dt 24 ?_
    refine dd ?_
    refine B6 _ fun _=>k0
   ·refine Jq ?_;intros
    refine Av [2] [] ?_
    refine dt 0 ?_
    refine dt 1 ?_
    rw [show decide (((z.i:Nat):Int) < 3)=true by exact decide_eq_true (by omega)]
    refine dt 2 ?_
    refine Dm 3 ?_
    refine Dm 4 ?_
    refine Dm 5 ?_
    refine Dm 6 ?_
    refine Dm 7 ?_
    rw [show decide (((z.n:Nat):Int) < (n.down.length:Int))=false by exact decide_eq_false (by omega)]
    refine dt 8 ?_
    refine dt 9 ?_
    refine ds 10 ?_
    refine ds 11 ?_
    refine ds 12 ?_
    refine ds 13 ?_
    refine ds 14 ?_
    refine ds 15 ?_
    refine ds 16 ?_
    refine ds 17 ?_
    refine ds 18 ?_
    refine ds 19 ?_
    refine ds 20 ?_
    refine ds 21 ?_
    refine ds 22 ?_
    refine ds 23 ?_
    refine dt 24 ?_
    refine dd ?_
    refine B6 false fun h=>(by cases h)
  ·refine Jq ?_;intros
   refine Av [2] [] ?_
   refine dt 0 ?_
   refine dt 1 ?_
   rw [show decide (((z.i:Nat):Int) < 3)=false by exact decide_eq_false (by omega)]
   refine dt 2 ?_
   refine ds 3 ?_
   refine ds 4 ?_
   refine ds 5 ?_
   refine ds 6 ?_
   refine ds 7 ?_
   refine dt 8 ?_
   refine dt 9 ?_
   refine ds 10 ?_
   refine ds 11 ?_
   refine ds 12 ?_
   refine ds 13 ?_
   refine ds 14 ?_
   refine ds 15 ?_
   refine ds 16 ?_
   refine ds 17 ?_
   refine ds 18 ?_
   refine ds 19 ?_
   refine ds 20 ?_
   refine ds 21 ?_
   refine ds 22 ?_
   refine ds 23 ?_
   refine dt 24 ?_
   refine dd ?_
   refine B6 false fun h=>(by cases h)
 cases b
 rotate_left
 ·have hb3:=hb rfl
  refine go ?_;intros
  refine cf (Ek _ g F (n.Ar.Ad.length - 1) z.s z4 (by omega) (by omega)) fun y hy=>?_
  refine Ao ?_
  obtain ⟨k5,s5⟩:=y
  obtain ⟨r5,h5⟩:=hy
  dsimp only at r5 h5 ⊢
  have r5:k5≤6:=by omega
  refine go ?_;intros
  rw [show (1:Int)+(k5:Nat)=((1+k5:Nat):Int) by omega]
  refine Co ⟨1+k5,z.i+1,s5⟩ ⟨by show 1≤1+k5;omega,by show 1+k5≤7;omega,by show z.i+1≤3;omega,h5.mono (by show _≤B+10+10 * (z.i+1);omega)⟩ (by show 3 - (z.i+1) < 3 - z.i;omega)
 refine go ?_;intros
 refine cf (Ek _ g F 10 z.s z4 (by omega) (by omega)) fun y hy=>?_
 refine Ao ?_
 obtain ⟨r6,s6⟩:=y
 obtain ⟨hr6,h6⟩:=hy
 dsimp only at hr6 h6 ⊢
 have hr6:r6≤9:=by omega
 rcases (show r6=0∨r6=1∨r6=2∨r6=3∨r6=4∨r6=5∨r6=6∨r6=7∨r6=8∨r6=9 by omega) with rfl|rfl|rfl|rfl|rfl|rfl|rfl|rfl|rfl|rfl
 ·refine go ?_;intros
  refine cf (Oj _ g F s6 3 h6 (by omega) (by omega) (by omega)) fun l hl=>?_
  refine Ao ?_
  obtain ⟨hl1,hl2⟩:=hl
  refine go ?_;intros
  refine ret ⟨⟨1,0,l.1⟩,l.2⟩ ⟨by show (decide ((0:Int)=0) && Nq l.1)=true;rw [Ad0 (by omega) hl1.2.2];rfl,by show l.1.size≤maxLen;unfold maxLen;omega,hl2.mono (by omega)⟩ rfl
 ·refine go ?_;intros
  refine cf (Oj _ g F s6 3 h6 (by omega) (by omega) (by omega)) fun l hl=>?_
  refine Ao ?_
  obtain ⟨hl1,hl2⟩:=hl
  refine go ?_;intros
  refine ret ⟨⟨1,0,l.1⟩,l.2⟩ ⟨by show (decide ((0:Int)=0) && Nq l.1)=true;rw [Ad0 (by omega) hl1.2.2];rfl,by show l.1.size≤maxLen;unfold maxLen;omega,hl2.mono (by omega)⟩ rfl
 ·refine go ?_;intros
  refine ret ⟨⟨2,((z.n:Nat):Int),⟨#[]⟩⟩,s6⟩ ⟨okq (by decide) z1 z2,by show (0:Nat)≤maxLen;exact Nat.zero_le _,h6.mono (by omega)⟩ rfl
 ·refine go ?_;intros
  refine ret ⟨⟨2,((z.n:Nat):Int),⟨#[]⟩⟩,s6⟩ ⟨okq (by decide) z1 z2,by show (0:Nat)≤maxLen;exact Nat.zero_le _,h6.mono (by omega)⟩ rfl
 ·refine go ?_;intros
  refine ret ⟨⟨2,((z.n:Nat):Int),⟨#[]⟩⟩,s6⟩ ⟨okq (by decide) z1 z2,by show (0:Nat)≤maxLen;exact Nat.zero_le _,h6.mono (by omega)⟩ rfl
 ·refine go ?_;intros
  refine ret ⟨⟨3,((z.n:Nat):Int),⟨#[]⟩⟩,s6⟩ ⟨okq (by decide) z1 z2,by show (0:Nat)≤maxLen;exact Nat.zero_le _,h6.mono (by omega)⟩ rfl
 ·refine go ?_;intros
  refine ret ⟨⟨5,((z.n:Nat):Int),⟨#[]⟩⟩,s6⟩ ⟨okq (by decide) z1 z2,by show (0:Nat)≤maxLen;exact Nat.zero_le _,h6.mono (by omega)⟩ rfl
 ·refine go ?_;intros
  refine ret ⟨⟨6,((z.n:Nat):Int),⟨#[]⟩⟩,s6⟩ ⟨okq (by decide) z1 z2,by show (0:Nat)≤maxLen;exact Nat.zero_le _,h6.mono (by omega)⟩ rfl
 ·refine go ?_;intros
  refine ret ⟨⟨4,0,⟨#[]⟩⟩,s6⟩ ⟨rfl,by show (0:Nat)≤maxLen;exact Nat.zero_le _,h6.mono (by omega)⟩ rfl
 ·refine go ?_;intros
  refine ret ⟨⟨4,0,⟨#[]⟩⟩,s6⟩ ⟨rfl,by show (0:Nat)≤maxLen;exact Nat.zero_le _,h6.mono (by omega)⟩ rfl
theorem Uv (B g:Nat) (F:S8) (s:O8) (n:En) (v:Value) (Fx:List Nat) (h2:2≤n.Ar.Ad.length) (h8:n.Ar.Ad.length≤8) (hd:n.down.length≤8) (hu:n.up.length=n.down.length) (hq:∀q∈n.down++n.up,q.length≤6) (ok:Hq B s) (hB:B≤800000000000) :
  Fn prog 32 [Eo g 0 0,v] [.sl E9 (.slice F.a F.Bm.length F.c) F.Bm F.bs,.isv Lr v n Fx] [.row g 67 0 [] [.slice F.a F.Bm.length F.c,.int .i64 (s.k:Nat),.int .u64 s.Dq] []] (fun (z:StD)=>z.t.data.size≤maxLen∧Hq (B+300) z.s) (fun z=>.agg #[.int .i64 z.t.Cm,.int .i64 z.t.node,.string z.t.data])
   (fun z=>[.row g 67 0 [] [.slice F.a F.Bm.length F.c,.int .i64 (z.s.k:Nat),.int .u64 z.s.Dq] []]):=by
 refine enter func32 rfl ntmps32 fun w0=>?_
 refine C9 ?_
 rintro a1 c1 F1 a2 c2 F2 a3 c3 F3 a4 c4 F4 a5 c5 F5 a6 c6 F6 a7 c7 F7 rfl l1 l2 l3 l4 l5 l6 l7
 refine go ?_;intros
 refine cf (Ww B g F s n _ Fx h2 h8 hd hu hq ok (by omega)) fun z hz=>?_
 refine Ao ?_
 obtain ⟨-,z2,z3⟩:=hz
 refine go ?_;intros
 refine cf (Ek _ g F 20 z.s z3 (by omega) (by omega)) fun y hy=>?_
 refine Ao ?_
 obtain ⟨r6,s6⟩:=y
 obtain ⟨hr6,h6⟩:=hy
 dsimp only at hr6 h6 ⊢
 have hr6:r6≤19:=by omega
 refine go ?_;intros
 refine Bd rfl (fun e0=>?_) (fun e0=>?_)
 ·refine Jq ?_;intros
  refine Ee (xs:=[0,7,4]) (fun w=>I9 w _) ?_ (by decide)
  refine Ax (E:=Be) fun G=>?_
  refine go ?_;intros
  refine cf (Mg _ g F _ [0,7,4] G s6 h6 (by omega) (by decide) (by decide)) fun q hq=>?_
  refine Ao ?_
  refine go ?_;intros
  refine ret ⟨⟨q.1,z.t.node,z.t.data⟩,q.2⟩ ⟨z2,hq.2.mono (by omega)⟩ rfl
 refine go ?_;intros
 refine Bd rfl (fun e1=>?_) (fun e1=>?_)
 ·refine Jq ?_;intros
  refine Ee (xs:=[-1,0,7,8]) (fun w=>I9 w _) ?_ (by decide)
  refine Ax (E:=Be) fun G=>?_
  refine go ?_;intros
  refine cf (Mg _ g F _ [-1,0,7,8] G s6 h6 (by omega) (by decide) (by decide)) fun q hq=>?_
  refine Ao ?_
  refine go ?_;intros
  refine ret ⟨⟨z.t.Cm,q.1,z.t.data⟩,q.2⟩ ⟨z2,hq.2.mono (by omega)⟩ rfl
 refine go ?_;intros
 refine Bd rfl (fun e2=>?_) (fun e2=>?_)
 ·refine Jq ?_;intros
  refine Ee (E:=A6) (xs:=[⟨#[97,98,99,100,101,102,103,104]⟩,⟨#[97,98,99,100,101,102,103,104,105]⟩,⟨#[65]⟩,⟨#[98]⟩]) (fun w=>Xl w _ (by decide)) ?_ (by decide)
  refine Ax (E:=A6) fun G=>?_
  refine go ?_;intros
  refine cf (Al5 _ g F _ [⟨#[97,98,99,100,101,102,103,104]⟩,⟨#[97,98,99,100,101,102,103,104,105]⟩,⟨#[65]⟩,⟨#[98]⟩] G s6 h6 (by omega) (by decide) (by decide)) fun q hq=>?_
  refine Ao ?_
  have hq3:q.1.size≤maxLen:=by have:=hq.1;simp only [List.mem_cons,List.not_mem_nil,or_false] at this;rcases this with e|e|e|e <;> rw [e] <;> decide
  refine go ?_;intros
  refine ret ⟨⟨z.t.Cm,z.t.node,q.1⟩,q.2⟩ ⟨hq3,hq.2.mono (by omega)⟩ rfl
 ·refine go ?_;intros
  refine ret ⟨z.t,s6⟩ ⟨z2,h6.mono (by omega)⟩ rfl
end Go.Proofs.YtaemjogbahcbcaaGreatDoor
