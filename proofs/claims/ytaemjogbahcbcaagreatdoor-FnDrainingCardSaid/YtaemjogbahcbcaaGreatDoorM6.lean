/- Part 6 of the proof: 25 texts, one behind the other. -/
import Derived.Lib.ItoaNum
import Derived.Lib.Bytealg
import Derived.Test.YtaemjogbahcbcaaGreatDoorShelf
import Derived.Lib.Strings
import Derived.Lib.LaidTab
import Derived.Lib.ItoaMem
import Derived.Laws.IdiomStrings
import Derived.Laws.Bits64b
import Derived.Test.YtaemjogbahcbcaaGreatDoorM5
open _root_.Go.Proofs.Tryz
set_option maxRecDepth 100000
set_option maxHeartbeats 8000000
set_option linter.all false
set_option linter.unusedVariables false
set_option linter.unusedSimpArgs false
namespace Go.Proofs.YtaemjogbahcbcaaGreatDoor
open Go.RowKit
theorem Ak6 {t a b:Int} (ha:0≤a∧a≤65535) (hb:0≤b∧b≤65535) (h:gp t a=gp t b):a=b:=by unfold gp at h;omega
def srt (t:Int) (hs:List Gt):Prop:=hs.Pairwise fun a b=>gp t a.Ae < gp t b.Ae
theorem Eu {x:Cj}:Cc x=true↔Dw x.Aa=true∧Iy x.Ai=true∧Ig 0 x.quiet 3=true∧(∀h∈x.holds,B9 h.Ae=true∧Hn x.Aa h.Ae=true∧Ig (x.Ai+1) h.Ca (x.Ai+3)=true)∧srt x.Aa.Al x.holds:=by
 unfold Cc
 simp only [Bool.and_eq_true,List.all_eq_true,List.mem_range]
 constructor
 ·rintro ⟨⟨⟨h1,h2⟩,h3⟩,h4⟩
  refine ⟨h1,h2,h3,fun h hh=>?_,?_⟩
  ·obtain ⟨i,hi,rfl⟩:=List.getElem_of_mem hh
   have:=h4 i hi
   rw [M3 hi] at this
   simp only [Bool.and_eq_true] at this
   exact ⟨this.1.1.1,this.1.1.2,this.1.2⟩
  ·have step:∀i (hi:i+1 < x.holds.length),gp x.Aa.Al x.holds[i].Ae < gp x.Aa.Al x.holds[i+1].Ae:=fun i hi=>by
    have:=h4 (i+1) hi
    rw [M3 hi] at this
    simp only [Bool.and_eq_true,Bool.or_eq_true,decide_eq_true_eq,Bool.not_eq_true',decide_eq_false_iff_not] at this
    have h:=this.2
    rcases h with h|h
    ·omega
    ·simpa using h
   refine List.pairwise_iff_getElem.2 fun i j hi hj hij=>?_
   obtain ⟨d,rfl⟩:∃d,j=i+1+d:=⟨j - i - 1,by omega⟩
   clear hij
   induction d with
   | zero=>exact step i hj
   | succ d ih=>exact Int.lt_trans (ih (by omega)) (step (i+1+d) hj)
 ·rintro ⟨h1,h2,h3,h4,h5⟩
  refine ⟨⟨⟨h1,h2⟩,h3⟩,fun i hi=>?_⟩
  rw [M3 hi]
  obtain ⟨a,b,c⟩:=h4 x.holds[i] (List.getElem_mem hi)
  rw [a,b,c]
  simp only [Bool.true_and,Bool.or_eq_true,decide_eq_true_eq,Bool.not_eq_true',decide_eq_false_iff_not]
  rcases Nat.eq_zero_or_pos i with h0|h0
  ·exact .inl h0
  ·have:=List.pairwise_iff_getElem.1 h5 (i - 1) i (by omega) hi (by omega)
   right;omega
def Ew (t:Int) (hs:List Gt) (n:Int):Nat:=(hs.takeWhile fun h=>decide (gp t h.Ae < gp t n)).length
def L9 (t:Int) (hs:List Gt) (n:Int):Bool:=match hs[Ew t hs n]? with|some h=>decide (h.Ae=n)|none=>false
def onB (hs:List Gt) (n:Int):Bool:=hs.any fun h=>decide (h.Ae=n)
def I9 (hs:List Gt) (k:Nat) (h:Gt):List Gt:=hs.take k++h::hs.drop k
def U3 (W:Az) (n:Int):Av:=⟨4,n,W.Al,Lq W,⟨#[]⟩⟩
def K9 (x:Cj) (n:Int):Cj:=if Hn x.Aa n && !L9 x.Aa.Al x.holds n then ⟨x.Aa,x.Ai,x.quiet,I9 x.holds (Ew x.Aa.Al x.holds n) ⟨n,x.Ai+3⟩⟩ else S8 x x.Aa
def Lg (x:Cj) (p:Av):List Av:=if Hn x.Aa p.Ae then (if L9 x.Aa.Al x.holds p.Ae then [U3 x.Aa p.Ae] else [U3 x.Aa p.Ae,(Dj x.Aa p).1]) else [Oo x.Aa]
def Jy (x:Cj) (n:Int):Cj:=if Hn x.Aa n && !L9 x.Aa.Al x.holds n then ⟨x.Aa,x.Ai,x.quiet,I9 x.holds (Ew x.Aa.Al x.holds n) ⟨n,x.Ai+3⟩⟩ else x
theorem Ue {x:Cj} (hg:Cc x=true):Gp x.Aa x.Ai x.holds=x.holds:=by
 obtain ⟨-, -, -,h4, -⟩:=Eu.1 hg
 unfold Gp
 refine List.filter_eq_self.2 fun h hh=>?_
 obtain ⟨a,b,c⟩:=h4 h hh
 unfold Ig at c
 simp only [Bool.and_eq_true,decide_eq_true_eq] at c
 rw [b,decide_eq_true (by omega)];rfl
theorem Ame {x:Cj} (hg:Cc x=true) (n:Int):K9 x n=Jy x n:=by
 unfold K9 Jy S8
 rw [Ue hg]
theorem Tf (t:Int) (hs:List Gt) (n:Int):Ew t hs n≤hs.length:=N1.1
theorem Am0 {t n:Int} {hs:List Gt} (hn:0≤n∧n≤65535) (hser:∀h∈hs,B9 h.Ae=true) (hs':srt t hs):L9 t hs n=onB hs n:=by
 obtain ⟨h1,h2,h3⟩:=N1 (p:=fun h:Gt=>decide (gp t h.Ae < gp t n)) (xs:=hs)
 unfold L9 onB
 have hle:=Tf t hs n
 rw [Bool.eq_iff_iff,List.any_eq_true]
 constructor
 ·intro h
  split at h
  ·rename_i z hz
   exact ⟨z,List.mem_of_getElem? hz,h⟩
  ·cases h
 ·rintro ⟨z,hz,he⟩
  simp only [decide_eq_true_eq] at he
  obtain ⟨i,hi,rfl⟩:=List.getElem_of_mem hz
  have hk:Ew t hs n=i:=by
   refine Sy (by omega) (fun j hj h=>?_) (fun h=>?_)
   ·have:=List.pairwise_iff_getElem.1 hs' j i h hi hj
    simp only [decide_eq_true_eq];rw [←he];exact this
   ·simp only [decide_eq_false_iff_not];rw [he];omega
  rw [hk,List.getElem?_eq_getElem hi]
  simpa using he
theorem Ao3 {t n:Int} {hs:List Gt} (u:Int) (hn:0≤n∧n≤65535) (hser:∀h∈hs,B9 h.Ae=true) (hs':srt t hs) (ht:L9 t hs n=false):srt t (I9 hs (Ew t hs n) ⟨n,u⟩):=by
 obtain ⟨h1,h2,h3⟩:=N1 (p:=fun h:Gt=>decide (gp t h.Ae < gp t n)) (xs:=hs)
 have hle:=Tf t hs n
 have hon:onB hs n=false:=by rw [←Am0 hn hser hs'];exact ht
 have hne:∀h∈hs,gp t h.Ae≠gp t n:=fun h hh e=>by
  have:=Ak6 (A9.1 (hser h hh)) hn e
  have h0:onB hs n=true:=List.any_eq_true.2 ⟨h,hh,by simp [this]⟩
  rw [hon] at h0;cases h0
 unfold I9 srt
 rw [List.pairwise_append]
 refine ⟨hs'.sublist (List.take_sublist _ _),?_,?_⟩
 ·rw [List.pairwise_cons]
  refine ⟨fun b hb=>?_,hs'.sublist (List.drop_sublist _ _)⟩
  obtain ⟨j,hj,rfl⟩:=List.getElem_of_mem hb
  rw [List.getElem_drop]
  rw [List.length_drop] at hj
  have hk:Ew t hs n < hs.length:=by omega
  have h0:=h3 hk
  simp only [decide_eq_false_iff_not,Int.not_lt] at h0
  have h00:gp t n≤gp t (hs[Ew t hs n]'hk).Ae:=h0
  have hd:=hne _ (List.getElem_mem hk)
  rcases Nat.eq_zero_or_pos j with e|e
  ·subst e;show gp t n < gp t (hs[Ew t hs n+0]).Ae;simp only [Nat.add_zero];omega
  ·have h5:=List.pairwise_iff_getElem.1 hs' (Ew t hs n) (Ew t hs n+j) hk (by omega) (by omega)
   show gp t n < _;omega
 ·intro a ha b hb
  obtain ⟨i,hi,rfl⟩:=List.getElem_of_mem ha
  rw [List.length_take] at hi
  rw [List.getElem_take]
  have ha2:=h2 i (by show i < Ew t hs n;omega) (by omega)
  simp only [decide_eq_true_eq] at ha2
  rcases List.mem_cons.1 hb with rfl|hb
  ·exact ha2
  ·obtain ⟨j,hj,rfl⟩:=List.getElem_of_mem hb
   rw [List.getElem_drop]
   rw [List.length_drop] at hj
   exact List.pairwise_iff_getElem.1 hs' i _ (by omega) (by omega) (by omega)
theorem Ak5 {x:Cj} {n:Int} (hg:Cc x=true) (hn:0≤n∧n≤65535):Cc (Jy x n)=true:=by
 unfold Jy
 split
 ·rename_i h
  simp only [Bool.and_eq_true,Bool.not_eq_true'] at h
  obtain ⟨hh,ht⟩:=h
  obtain ⟨h1,h2,h3,h4,h5⟩:=Eu.1 hg
  refine Eu.2 ⟨h1,h2,h3,fun z hz=>?_,Ao3 _ hn (fun z hz=>(h4 z hz).1) h5 ht⟩
  have:z∈x.holds∨z=⟨n,x.Ai+3⟩:=by
   unfold I9 at hz
   simp only [List.mem_append,List.mem_cons] at hz
   rcases hz with h|h|h
   ·exact .inl (List.mem_of_mem_take h)
   ·exact .inr h
   ·exact .inl (List.mem_of_mem_drop h)
  rcases this with h|rfl
  ·exact h4 z h
  ·exact ⟨A9.2 hn,hh,by unfold Ig;simp⟩
 ·exact hg
theorem Aie {x:Cj} (hg:Cc x=true) (hc:x.Ai < 9999):Cc (Kb x)=true:=by
 obtain ⟨h1,h2,h3,h4,h5⟩:=Eu.1 hg
 have hk:=Ab6 h2
 refine Eu.2 ⟨h1,?_,?_,fun z hz=>?_,h5.sublist (List.filter_sublist)⟩
 ·unfold Kb Iy Ig;simp;omega
 ·unfold Ig at h3
  simp only [Bool.and_eq_true,decide_eq_true_eq] at h3
  unfold Kb Oq Ig
  dsimp only
  split <;> simp <;> omega
 ·unfold Kb Qq at hz
  simp only [List.mem_filter] at hz
  obtain ⟨z1,z2⟩:=hz
  obtain ⟨a,b,c⟩:=h4 z z1
  refine ⟨a,b,?_⟩
  unfold Ig at c ⊢
  simp only [Bool.and_eq_true,decide_eq_true_eq,Bool.not_eq_true',decide_eq_false_iff_not] at c z2 ⊢
  show x.Ai+1+1≤z.Ca∧z.Ca≤x.Ai+1+3
  omega
theorem Y2 {x:Cj} {W:Az} (k:Nat) (q:Int) (hg:Cc x=true) (hw:Dw W=true) (hq:Ig 0 q 3=true) (hk:k≤6) (ht:W.Al=Cg x.Aa.Al k):Cc ⟨W,x.Ai,q,Ln W x.holds⟩=true:=by
 obtain ⟨h1,h2,h3,h4,h5⟩:=Eu.1 hg
 obtain ⟨-,⟨z0,z1⟩,hl, -⟩:=D6.1 hw
 have key:∀n,Hn W n=true→gp x.Aa.Al n=gp W.Al n+k:=fun n hn=>by
  unfold Hn at hn
  simp only [decide_eq_true_eq] at hn
  rw [ht] at hn ⊢
  have:=Jb (Cg x.Aa.Al k) n
  unfold gp Cg at *
  omega
 refine Eu.2 ⟨hw,h2,hq,fun z hz=>?_,?_⟩
 ·unfold Ln at hz
  simp only [List.mem_filter] at hz
  obtain ⟨a,b,c⟩:=h4 z hz.1
  exact ⟨a,hz.2,c⟩
 ·unfold Ln srt
  show List.Pairwise (fun a b=>gp W.Al a.Ae < gp W.Al b.Ae) (x.holds.filter fun h=>Hn W h.Ae)
  have hp:List.Pairwise (fun a b=>gp x.Aa.Al a.Ae < gp x.Aa.Al b.Ae) (x.holds.filter fun h=>Hn W h.Ae):=h5.sublist (List.filter_sublist)
  refine List.Pairwise.imp_of_mem (fun {a b} ha hb h=>?_) hp
  simp only [List.mem_filter] at ha hb
  have e1:=key _ ha.2
  have e2:=key _ hb.2
  omega
theorem Aid {x:Cj} {s:ByteArray} (hg:Cc x=true) (hs:Oh s=true):Cc (Oc x s)=true:=by
 have hw:=(Eu.1 hg).1
 obtain ⟨-,hw2, -⟩:=Af0 (x:=x.Aa) (s:=s) (by unfold Uj;rw [hw,hs];rfl)
 obtain ⟨⟨t0,t1⟩, -⟩:=D6.1 hw
 by_cases h:(x.Aa.Aj.length:Int)=x.Aa.size
 ·refine Y2 1 0 hg hw2 (by decide) (by omega) ?_
  show (Dk x.Aa).Al=_
  unfold Dk;rw [if_pos h];rfl
 ·refine Y2 0 0 hg hw2 (by decide) (by omega) ?_
  show (Dk x.Aa).Al=_
  unfold Dk Cg;rw [if_neg h];omega
abbrev Bs:=List UInt8
def Atb (b:UInt8) (l:Bs):Bs:=(l.dropWhile (· != b)).drop 1
def Whole (x:Bs):Prop:=∃y,x=y++[10]∧∀c∈y,c≠10
theorem Tc:∀(n u:Nat),u < 10 ^ (n+1)→(Lib.decDigits u).length≤n+1
 | 0,u,h=>by rw [Lib.decDigits,dif_pos (by simpa using h)];simp
 | n+1,u,h=>by
  rw [Lib.decDigits]
  split
  ·simp
  ·have:=Tc n (u / 10) (by rw [Nat.pow_succ] at h;omega)
   simp;omega
structure Atj (c r:Bs):Prop where
 c0:1≤c.length
 c1:c.length≤160
 r1:r.length≤200
 ct:∀b∈c,(32≤b.toNat∧b.toNat≤126)∧b≠35
 rt:∀b∈r,(32≤b.toNat∧b.toNat≤126)∧b≠35
 ca:∀b∈c,b≠64
def bz (l:Bs):ByteArray:=⟨l.toArray⟩
theorem Ab5 (l:Bs):(bz l).size=l.length:=by simp [bz,ByteArray.size]
theorem Aqc (a b:Bs):bz a++bz b=bz (a++b):=by apply ByteArray.ext;simp [bz,ByteArray.data_append]
theorem Acs {a b:ByteArray} (h:a=b):Ending.returned (.string a)=.returned (.string b):=by rw [h]
theorem Afh (w:World) (k:Nat) (os:Array Obj):Below w.heap.size w (Go.Sort.grow (w.drewN k) os):=by
 refine ⟨rfl,rfl,rfl,?_,fun i hi=>?_⟩
 ·simp [Go.Sort.grow,World.drewN]
 ·simp [Go.Sort.grow,World.drewN,Array.getElem?_append_left hi]
theorem V2:∀n:Nat,n < 10→(⟨#[48,49,50,51,52,53,54,55,56,57]⟩:ByteArray).extract n (n+1)=⟨#[UInt8.ofNat (48+n)]⟩:=by decide
theorem Aoe:∀(k n:Nat) (w:World),n < 10 ^ (k+1)→n≤999999999999999999 →
  Calls prog 217 #[.int .i64 (n:Int)] w fun e w'=>e=.returned (.string (bz (Lib.decDigits n)))∧∃j,w'=w.drewN j:=by
 intro k
 induction k with
 | zero =>
  intro n w h1 h2
  have h3:n < 10:=by simpa using h1
  have hd:=Lib.hid (V2 n h3)
  have hn:¬((n:Int) < 0):=by omega
  go_enter func217,ntmps217
  go_wp2_with fail
  go_ret
  refine ⟨Acs ?_,0,rfl⟩
  rw [hd.out,Lib.decDigits,dif_pos h3];rfl
 | succ k ih =>
  intro n w h1 h2
  by_cases h3:n < 10
  ·have hd:=Lib.hid (V2 n h3)
   have hn:¬((n:Int) < 0):=by omega
   go_enter func217,ntmps217
   go_wp2_with fail
   go_ret
   refine ⟨Acs ?_,0,rfl⟩
   rw [hd.out,Lib.decDigits,dif_pos h3];rfl
  ·have h4:n / 10 < 10 ^ (k+1):=by rw [Nat.pow_succ] at h1;omega
   have hc:=fun w=>ih (n / 10) w h4 (by omega)
   rw [show ((n / 10:Nat):Int)=(n:Int) / 10 from by omega] at hc
   have hn:¬((n:Int) < 0):=by omega
   have h5:¬((n:Int) < 10):=by omega
   have hd:=Lib.hid (V2 (n % 10) (by omega))
   have b0:(0:Int)≤(n:Int) % 10:=by omega
   have b1:(n:Int) % 10≤9:=by omega
   have e0:IntKind.i64.wrap ((n:Int) / 10)=(n:Int) / 10:=by rw [IntKind.wrap_i64];omega
   have e1:IntKind.i64.wrap ((n:Int) % 10)=(n:Int) % 10:=by rw [IntKind.wrap_i64];omega
   have e2:IntKind.i64.wrap ((n:Int) % 10+1)=(n:Int) % 10+1:=by rw [IntKind.wrap_i64];omega
   have e3:((n:Int) % 10).toNat=n % 10:=by omega
   have e4:((n:Int) % 10+1).toNat=n % 10+1:=by omega
   have e5:(n:Int).tmod 10=(n:Int) % 10:=Int.tmod_eq_emod_of_nonneg (by omega)
   have e6:(n:Int).tdiv 10=(n:Int) / 10:=Int.tdiv_eq_ediv_of_nonneg (by omega)
   have hsl:∀wx,(Instr.slice 9 (.string ⟨#[48,49,50,51,52,53,54,55,56,57]⟩) (some (.int .i64 ((n:Int) % 10))) (some (.int .i64 ((n:Int) % 10+1))) none).run prog wx=.ok (.string ⟨#[UInt8.ofNat (48+n % 10)]⟩) wx:=fun wx=>by
    have h6:=run_slice_string (P:=prog) wx 9 ⟨#[48,49,50,51,52,53,54,55,56,57]⟩ .i64 .i64 ((n:Int) % 10) ((n:Int) % 10+1) underlying9 (by omega) (by omega) (by show _≤((10:Nat):Int);omega)
    rw [h6,e3,e4,hd.out]
   have hD:(bz (Lib.decDigits (n / 10))).size≤18:=by rw [Ab5];exact Tc 17 _ (by omega)
   have hd1:(⟨#[UInt8.ofNat (48+n % 10)]⟩:ByteArray).size≤1:=by simp [ByteArray.size]
   have hR:Hid (bz (Lib.decDigits (n / 10))++⟨#[UInt8.ofNat (48+n % 10)]⟩=bz (Lib.decDigits n)):=by
    refine Lib.hid ?_
    conv=>rhs;rw [Lib.decDigits,dif_neg (by omega),←Aqc]
    rfl
   generalize bz (Lib.decDigits (n / 10))=D at *
   generalize (⟨#[UInt8.ofNat (48+n % 10)]⟩:ByteArray)=d at *
   clear ih h1 e3 e4
   go_enter func217,ntmps217
   go_wp2_with fail
   go_quiet ((go_at_call 217;exact Calls.quiet_of (v:=.string D) (hc (World.drewN _ _))))
   go_wp2_with fail
   go_ret
   refine ⟨Acs ?_,_,rfl⟩
   exact hR.out
def Asz:Bv Unit where
 sz:=0
 Ka w cs _ F:=cs=[]∧Lib.TabIs prog w "internal/strconv.uint64pow10" .u64 Lib.pow10Tab∧F=[3]∧∀b∈F,b < w.heap.size
 len h:=by simp [h.1]
 lt h:=h.2.2.2
 frame h hF:=by
  obtain ⟨h1,h2,rfl,h6⟩:=h
  have e0:=hF 3 (by simp)
  refine ⟨h1,?_,rfl,fun b hb=>?_⟩
  ·unfold Lib.TabIs World.var? at h2 ⊢
   rw [show prog.globalNamed "internal/strconv.uint64pow10" = some 3 by kernel_rfl] at h2 ⊢
   simp only [Option.bind_some] at h2 ⊢
   rw [e0];exact h2
  ·have e:=hF b hb
   have:=h6 b hb
   rw [Array.getElem?_eq_getElem this] at e
   exact (Array.getElem?_eq_some_iff.1 e).1
def Lw (FT:List Nat):Pc:=.isv Asz (.agg #[]) () FT
theorem Lw.env {w:World} {FT:List Nat} (h:(Lw FT).P w):Lib.TabIs prog w "internal/strconv.uint64pow10" .u64 Lib.pow10Tab∧True:=by
 obtain ⟨cs,_,h⟩:=h;exact ⟨h.2.1,trivial⟩
theorem Aqn (n:Int) (h0:-9223372036854775808≤n) (h1:n≤9223372036854775807) (FT:List Nat) (w:World) (hT:(Lw FT).P w) :
  Calls prog 203 #[.int .i64 n] w fun e w'=>e=.returned (.string (bz (Lib.itoa n)))∧Below w.heap.size w w':=by
 refine (Tryz.strconv_Itoa n h0 h1 w (Lw.env hT).1).mono ?_
 rintro e w' ⟨rfl,k,os,rfl⟩
 exact ⟨rfl,Afh w k os⟩
theorem Asf (n:Nat) (hn:n≤999999) (w:World):Calls prog 217 #[.int .i64 (n:Int)] w fun e w2=>e=.returned (.string (bz (Lib.decDigits n)))∧Below w.heap.size w w2:=by
 refine (Aoe 5 n w (by omega) (by omega)).mono ?_
 rintro e w2 ⟨rfl,j,rfl⟩
 exact ⟨rfl,Ek (Below.refl _ _) j⟩
def Mj (i:Nat) (e:ByteArray):ByteArray:=bz (Lib.itoa ((i:Nat):Int))++⟨#[32]⟩++e
def Si (i:Nat) (es:List ByteArray):List ByteArray:=es.map (Mj i)
def Ks (i:Nat):Int:=1+((i:Nat):Int) % 3
def Qa (n:D9) (i:Nat):Bl:=n.Af.getD i ⟨0,[]⟩
def Vl (n:D9) (i:Nat):Bb:=n.Ad.getD i Aj2
def Ts (n:D9) (i:Nat):List Int:=Gs n.Am.Ac ((i:Nat):Int)
def Xy (n:D9) (i:Nat) (p:Av):List Int:=if p.Df=2 then Qj (Qa n i) p.Ae (Ts n i) else Ts n i
def Cq (n:D9) (i:Nat) (p:Av):D9 × List ByteArray :=
 if Ev n.Am.Ac ((i:Nat):Int) then (⟨n.Am,n.Ab,n.Af,n.Ad.set i (De (Vl n i) p (Ks i)),n.down,n.up⟩,Si i (Gw (Vl n i) p))
 else (⟨n.Am,n.Ab,if p.Df=2 then n.Af.set i (M9 (Qa n i) p.Ae) else n.Af,n.Ad,Dl n.down (Xy n i p) [p],n.up⟩,[])
def To (n:D9) (i:Nat):Nat:=(n.Am.Ac.getD i 0).toNat
def T8 (p:Av):Av:=⟨4,p.Ae,p.Al,p.Ec,⟨#[]⟩⟩
def Mt (n:D9) (i:Nat) (p:Av):D9 :=
 if To n i=0 then ⟨n.Am,Jy n.Ab p.Ae,n.Af,n.Ad,Dl n.down [((i:Nat):Int)] (Lg n.Ab p),n.up⟩
 else ⟨n.Am,n.Ab,n.Af.set (To n i) (Lf (Qa n (To n i)) p.Ae ((i:Nat):Int)),n.Ad,Dl n.down [((i:Nat):Int)] [T8 p],if V6 (Qa n (To n i)) p.Ae then n.up.modify (To n i) fun q=>E9 q [p] else n.up⟩
def L8 (n:D9) (i:Nat):D9 × List ByteArray :=
 if Ev n.Am.Ac ((i:Nat):Int) then (⟨n.Am,n.Ab,n.Af,n.Ad.set i (Cv (Vl n i) (Ks i)),n.down,n.up.modify i fun q=>E9 q (En (Vl n i))⟩,Si i (Fm (Vl n i)))
 else (⟨n.Am,n.Ab,n.Af.set i (D8 (Qa n i)),n.Ad,n.down,n.up⟩,[])
def Ask (n:D9):D9:=⟨n.Am,Kb n.Ab,n.Af,n.Ad,Dl n.down (Ts n 0) (Lc n.Ab.Aa n.Ab.quiet),n.up⟩
def Bc (n:D9):Nat→D9 × List ByteArray
 | 0=>(Ask n,[])
 | k+1=>((L8 (Bc n k).1 (k+1)).1,(Bc n k).2++(L8 (Bc n k).1 (k+1)).2)
def Bz (n:D9):D9 × List ByteArray:=Bc n (n.Am.Ac.length - 1)
def Na (n:D9) (s:ByteArray):D9:=⟨n.Am,Oc n.Ab s,n.Af,n.Ad,Dl n.down (Ts n 0) [Dp n.Ab.Aa s],n.up⟩
def Kh (n:D9) (i:Nat):D9:=⟨n.Am,n.Ab,n.Af,n.Ad,n.down.modify i (·.drop 1),n.up⟩
def I4 (n:D9) (i:Nat):D9:=⟨n.Am,n.Ab,n.Af,n.Ad,n.down,n.up.modify i (·.drop 1)⟩
structure GN (ck:Nat→Int) (n:D9):Prop where
 t:Er n.Am=true
 s:Cc n.Ab=true
 l:Je n=true
 a:∀i (h1:i < n.Af.length) (h2:i < n.Ad.length) (h3:i < n.down.length) (h4:i < n.up.length),Nr n.Am.Ac (ck i) i n.Af[i] n.Ad[i] n.down[i] n.up[i]=true
theorem A8 {n:D9}:Ax n=true↔GN (fun _=>n.Ab.Ai) n:=by
 rw [So]
 constructor
 ·rintro ⟨h1,h2,h3,h4⟩
  obtain ⟨q1,q2,q3,q4⟩:=Bm.1 h3
  exact ⟨h1,h2,h3,fun i a b c d=>by rw [←Tb a b c d];exact h4 i (by omega)⟩
 ·rintro ⟨h1,h2,h3,h4⟩
  obtain ⟨q1,q2,q3,q4⟩:=Bm.1 h3
  exact ⟨h1,h2,h3,fun i hi=>by rw [Tb (by omega) (by omega) (by omega) (by omega)];exact h4 i _ _ _ _⟩
def X0 (ck:Nat→Int) (i:Nat) (c:Int):Nat→Int:=fun j=>if j=i then c else ck j
structure RN (par:List Int) (clk:Int) (i:Nat) (e:Bl) (r:Bb) (d u:List Av):Prop where
 hd:Eo d=true
 hu:Eo u=true
 hk:Uv u=true
 hz:i=0→Kc e=true∧Pr r=true∧d.length=0∧u.length=0
 hf:i≠0→Ev par ((i:Nat):Int)=true→Kc e=true∧Dg r=true∧r.Ai=clk
 hn:i≠0→Ev par ((i:Nat):Int)=false→Be e=true∧e.Ai=clk∧Pr r=true
theorem Lu {par:List Int} {clk:Int} {i:Nat} {e:Bl} {r:Bb} {d u:List Av}:Nr par clk i e r d u=true↔RN par clk i e r d u:=by
 unfold Nr
 constructor
 ·intro h
  simp only [Bool.and_eq_true] at h
  obtain ⟨⟨⟨h1,h2⟩,h3⟩,h4⟩:=h
  refine ⟨h1,h2,h3,fun e=>?_,fun e l=>?_,fun e l=>?_⟩
  ·rw [if_pos e] at h4
   simp only [Bool.and_eq_true,decide_eq_true_eq] at h4
   exact ⟨h4.1.1.1,h4.1.1.2,h4.1.2,h4.2⟩
  ·rw [if_neg e,if_pos l] at h4
   simp only [Bool.and_eq_true,decide_eq_true_eq] at h4
   exact ⟨h4.1.1,h4.1.2,h4.2⟩
  ·rw [if_neg e,if_neg (by rw [l];decide)] at h4
   simp only [Bool.and_eq_true,decide_eq_true_eq] at h4
   exact ⟨h4.1.1,h4.1.2,h4.2⟩
 ·intro h
  rw [h.hd,h.hu,h.hk,Bool.true_and,Bool.true_and,Bool.true_and]
  by_cases e:i=0
  ·rw [if_pos e]
   obtain ⟨a,b,c,d⟩:=h.hz e
   rw [a,b,decide_eq_true c,decide_eq_true d];rfl
  ·rw [if_neg e]
   cases l:Ev par ((i:Nat):Int)
   ·obtain ⟨a,b,c⟩:=h.hn e l
    rw [if_neg (by decide),a,decide_eq_true b,c];rfl
   ·obtain ⟨a,b,c⟩:=h.hf e l
    rw [if_pos rfl,a,b,decide_eq_true c];rfl
theorem GN.rn {ck:Nat→Int} {n:D9} (h:GN ck n) {i:Nat} (hi:i < n.Am.Ac.length):∃(h1:i < n.Af.length) (h2:i < n.Ad.length) (h3:i < n.down.length) (h4:i < n.up.length),RN n.Am.Ac (ck i) i n.Af[i] n.Ad[i] n.down[i] n.up[i]:=by
 obtain ⟨q1,q2,q3,q4⟩:=Bm.1 h.l
 exact ⟨by omega,by omega,by omega,by omega,Lu.1 (h.a i _ _ _ _)⟩
theorem GN.mk' {ck:Nat→Int} {n:D9} (h1:Er n.Am=true) (h2:Cc n.Ab=true) (h3:Je n=true) (h4:∀i (h1:i < n.Af.length) (h2:i < n.Ad.length) (h3:i < n.down.length) (h4:i < n.up.length),RN n.Am.Ac (ck i) i n.Af[i] n.Ad[i] n.down[i] n.up[i]):GN ck n :=
 ⟨h1,h2,h3,fun i a b c d=>Lu.2 (h4 i a b c d)⟩
theorem GN.src {ck:Nat→Int} {n:D9} {s:Cj} (h:GN ck n) (hs:Cc s=true):GN ck ⟨n.Am,s,n.Af,n.Ad,n.down,n.up⟩:=⟨h.t,hs,h.l,h.a⟩
theorem GN.el {ck:Nat→Int} {n:D9} {i:Nat} {e:Bl} (h:GN ck n) (h0:i≠0) (hl:Ev n.Am.Ac ((i:Nat):Int)=false) (he:Be e=true):GN (X0 ck i e.Ai) ⟨n.Am,n.Ab,n.Af.set i e,n.Ad,n.down,n.up⟩:=by
 obtain ⟨q1,q2,q3,q4⟩:=Bm.1 h.l
 refine .mk' h.t h.s (Bm.2 ⟨by simpa using q1,q2,q3,q4⟩) fun j h1 h2 h3 h4=>?_
 have h1':j < n.Af.length:=by simpa using h1
 have r:=Lu.1 (h.a j h1' h2 h3 h4)
 refine ⟨r.hd,r.hu,r.hk,fun e0=>?_,fun e0 l=>?_,fun e0 l=>?_⟩
 ·have:=r.hz e0
  rwa [List.getElem_set_ne (by omega)]
 ·have hne:i≠j:=fun e1=>by subst e1;rw [hl] at l;cases l
  have:=r.hf e0 l
  rw [List.getElem_set_ne hne]
  unfold X0;rw [if_neg (Ne.symm hne)];exact this
 ·have:=r.hn e0 l
  by_cases e1:i=j
  ·subst e1
   rw [List.getElem_set_self]
   unfold X0;rw [if_pos rfl];exact ⟨he,rfl,this.2.2⟩
  ·rw [List.getElem_set_ne e1]
   unfold X0;rw [if_neg (Ne.symm e1)];exact this
theorem GN.rc {ck:Nat→Int} {n:D9} {i:Nat} {x:Bb} (h:GN ck n) (h0:i≠0) (hl:Ev n.Am.Ac ((i:Nat):Int)=true) (he:Dg x=true):GN (X0 ck i x.Ai) ⟨n.Am,n.Ab,n.Af,n.Ad.set i x,n.down,n.up⟩:=by
 obtain ⟨q1,q2,q3,q4⟩:=Bm.1 h.l
 refine .mk' h.t h.s (Bm.2 ⟨q1,by simpa using q2,q3,q4⟩) fun j h1 h2 h3 h4=>?_
 have h2':j < n.Ad.length:=by simpa using h2
 have r:=Lu.1 (h.a j h1 h2' h3 h4)
 refine ⟨r.hd,r.hu,r.hk,fun e0=>?_,fun e0 l=>?_,fun e0 l=>?_⟩
 ·have:=r.hz e0
  rwa [List.getElem_set_ne (by omega)]
 ·have:=r.hf e0 l
  by_cases e1:i=j
  ·subst e1
   rw [List.getElem_set_self]
   unfold X0;rw [if_pos rfl];exact ⟨this.1,he,rfl⟩
  ·rw [List.getElem_set_ne e1]
   unfold X0;rw [if_neg (Ne.symm e1)];exact this
 ·have hne:i≠j:=fun e1=>by subst e1;rw [hl] at l;cases l
  have:=r.hn e0 l
  rw [List.getElem_set_ne hne]
  unfold X0;rw [if_neg (Ne.symm hne)];exact this
theorem Ahb {q ps:List Av} (hq:Uv q=true) (hp:∀p∈ps,p.Df=3):Uv (E9 q ps)=true:=by
 unfold Uv E9 at *
 rw [List.all_append,hq,Bool.true_and,List.all_eq_true]
 exact fun p h=>decide_eq_true (hp p (List.mem_of_mem_take h))
theorem GN.dn {ck:Nat→Int} {n:D9} (h:GN ck n) (i:Nat) (f:List Av→List Av) (h0:i=0→f []=[]) (hf:∀q,Eo q=true→Eo (f q)=true):GN ck ⟨n.Am,n.Ab,n.Af,n.Ad,n.down.modify i f,n.up⟩:=by
 obtain ⟨q1,q2,q3,q4⟩:=Bm.1 h.l
 refine .mk' h.t h.s (Bm.2 ⟨q1,q2,by simpa using q3,q4⟩) fun j h1 h2 h3 h4=>?_
 have h3':j < n.down.length:=by simpa using h3
 have r:=Lu.1 (h.a j h1 h2 h3' h4)
 by_cases e1:i=j
 ·subst e1
  simp only [List.getElem_modify_eq]
  refine ⟨hf _ r.hd,r.hu,r.hk,fun e0=>?_,r.hf,r.hn⟩
  obtain ⟨a,b,c,d⟩:=r.hz e0
  refine ⟨a,b,?_,d⟩
  rw [List.length_eq_zero_iff.1 c,h0 e0];rfl
 ·simp only [List.getElem_modify,if_neg e1]
  exact r
theorem GN.un {ck:Nat→Int} {n:D9} (h:GN ck n) (i:Nat) (f:List Av→List Av) (h0:i=0→f []=[]) (hf:∀q,Eo q=true→Uv q=true→Eo (f q)=true∧Uv (f q)=true):GN ck ⟨n.Am,n.Ab,n.Af,n.Ad,n.down,n.up.modify i f⟩:=by
 obtain ⟨q1,q2,q3,q4⟩:=Bm.1 h.l
 refine .mk' h.t h.s (Bm.2 ⟨q1,q2,q3,by simpa using q4⟩) fun j h1 h2 h3 h4=>?_
 have h4':j < n.up.length:=by simpa using h4
 have r:=Lu.1 (h.a j h1 h2 h3 h4')
 by_cases e1:i=j
 ·subst e1
  simp only [List.getElem_modify_eq]
  refine ⟨r.hd,(hf _ r.hu r.hk).1,(hf _ r.hu r.hk).2,fun e0=>?_,r.hf,r.hn⟩
  obtain ⟨a,b,c,d⟩:=r.hz e0
  refine ⟨a,b,c,?_⟩
  rw [List.length_eq_zero_iff.1 d,h0 e0];rfl
 ·simp only [List.getElem_modify,if_neg e1]
  exact r
theorem GN.sp {ck:Nat→Int} {ps:List Av} (hp:∀p∈ps,Bp p=true):∀{nodes:List Int} {n:D9},GN ck n→(∀x∈nodes,x.toNat≠0)→GN ck ⟨n.Am,n.Ab,n.Af,n.Ad,Dl n.down nodes ps,n.up⟩
 | [],_,h,_=>h
 | x::r,n,h,hx=>GN.sp hp (nodes:=r) (n:=⟨n.Am,n.Ab,n.Af,n.Ad,n.down.modify x.toNat fun q=>E9 q ps,n.up⟩) (h.dn x.toNat _ (fun e=>absurd e (hx x (by simp))) fun q hq=>Wn hq hp) fun y hy=>hx y (by simp [hy])
theorem Y0 {q:List Av} (h:Eo q=true):Eo (q.drop 1)=true:=by
 unfold Eo at *
 simp only [Bool.and_eq_true,decide_eq_true_eq,List.all_eq_true] at h ⊢
 exact ⟨by rw [List.length_drop];omega,fun p hp=>h.2 p (List.mem_of_mem_drop hp)⟩
theorem Am5 {q:List Av} (h:Uv q=true):Uv (q.drop 1)=true:=by
 unfold Uv at *
 simp only [List.all_eq_true] at h ⊢
 exact fun p hp=>h p (List.mem_of_mem_drop hp)
theorem GN.pd {ck:Nat→Int} {n:D9} (h:GN ck n) (i:Nat):GN ck (Kh n i):=h.dn i _ (fun _=>rfl) fun _=>Y0
theorem GN.pu {ck:Nat→Int} {n:D9} (h:GN ck n) (i:Nat):GN ck (I4 n i):=h.un i _ (fun _=>rfl) fun _ a b=>⟨Y0 a,Am5 b⟩
def Rp (l:List Hq):Prop:=∀s∈l,s.Dt.size≤8
theorem Abi {s:ByteArray} (h:s.size≤8):(Afz s).size≤9:=by
 unfold Afz
 have:(⟨#[43]⟩:ByteArray).size=1:=rfl
 rw [ByteArray.size_append];omega
theorem Aga {l:List Hq} (h:Rp l):(Fa l).size≤9:=by
 unfold Fa
 cases l with
 | nil=>decide
 | cons s r =>
  dsimp only
  split
  ·exact Abi (h s (by simp))
  ·decide
theorem Al9:∀(l:List Hq) (n:Int),Rp l→∀e∈(rel n l).2.2,e.size≤9
 | [],_,_,e,he=>by simp [rel] at he
 | s::r,n,h,e,he=>by
  unfold rel at he
  split at he
  ·rcases List.mem_cons.1 he with rfl|he
   ·exact Abi (h s (by simp))
   ·exact Al9 r _ (fun x hx=>h x (by simp [hx])) e he
  ·simp at he
theorem Ahd {w:An} (h:Rp w.Ao):∀e∈Ob w,e.size≤9:=Al9 w.Ao w.next h
theorem Agx:∀(k:Nat) (w:An),Rp w.Ao→(∀e∈Mp k w,e.size≤9)∧Rp (Hj k w).Ao
 | 0,w,h=>⟨fun e he=>by simp [Mp] at he,h⟩
 | k+1,w,h=>by
  have ih:=Agx k (Uu w) fun s hs=>h s (List.mem_of_mem_drop hs)
  refine ⟨fun e he=>?_,ih.2⟩
  unfold Mp at he
  rcases List.mem_cons.1 he with rfl|he
  ·exact Aga h
  ·exact ih.1 e he
theorem Un {w:An} (h:C6 w=true):Rp w.Ao:=fun s hs=>by
 obtain ⟨n0,n1,hl,hit⟩:=X5 h
 exact hit s hs
theorem Aef {w:An} {t:Int} (h:Rp w.Ao):∀e∈Ii w t,e.size≤9:=fun e he=>by
 have hg:=Agx (Eh w.next t) w h
 unfold Ii at he
 rcases List.mem_append.1 he with he|he
 ·exact hg.1 e he
 ·exact Ahd hg.2 e he
theorem Ai7 {w:An} {t:Int} (h:C6 w=true):(Ii w t).length≤40000:=by
 have h1:=(Qv (t:=t) h).2.2.1
 have h2:Eh w.next t≤32767:=by
  unfold Eh
  split
  ·rename_i hb
   unfold Pu Ig at hb
   simp only [Bool.and_eq_true,decide_eq_true_eq] at hb
   omega
  ·omega
 omega
theorem Aos {x:An} {k:Nat} {s:Hq} (h:Rp x.Ao) (hs:s.Dt.size≤8):Rp (Jx x k s):=fun y hy=>by
 unfold Jx at hy
 rcases List.mem_or_eq_of_mem_set hy with hy|rfl
 ·unfold J3 at hy
  rcases List.mem_append.1 hy with hy|hy
  ·exact h y hy
  ·rw [List.eq_of_mem_replicate hy];decide
 ·exact hs
theorem An5 {r:Bb} {p:Av} (hg:Kk r) (hp:Bp p=true):∀e∈Gw r p,e.size≤1000000:=fun e he=>by
 have hd:p.data.size≤8:=by
  unfold Bp Oh at hp
  simp only [Bool.and_eq_true,decide_eq_true_eq] at hp
  omega
 have hst:=(Pp hg hp).1
 have htk:=(Ru hg hp).1
 unfold Gw at he
 split at he
 ·unfold Km at he
  rcases List.mem_append.1 he with he|he
  ·unfold I5 at he
   split at he
   ·simp at he
   ·unfold Jo at he
    split at he
    ·simp at he
    ·have:=Ahd (w:=Vj (Dx r p) p.Ae p.data) (Aos (s:=⟨true,p.data⟩) (Un hst) hd) e he;omega
  ·unfold Ms at he
   split at he
   ·split at he
    ·have:=Aef (Un htk) e he;omega
    ·rw [List.mem_singleton] at he;subst he;decide
   ·simp at he
 ·simp at he
theorem Wu {r:Bb} (hg:Kk r):(∀e∈Fm r,e.size≤1000000)∧(Fm r).length≤40000:=by
 unfold Fm
 split
 ·exact ⟨fun e he=>by simp at he,by simp⟩
 ·exact ⟨fun e he=>by have:=Aef (Un hg.w) e he;omega,Ai7 hg.w⟩
theorem Afq {e:Bl} (h:Be e=true) (hc:e.Ai < 9999):Be (D8 e)=true:=by
 obtain ⟨h1,h2,h3,h4⟩:=Fg.1 h
 have h5:=Kt.1 h1
 unfold D8
 refine Fg.2 ⟨Kt.2 ⟨by show 0≤e.Ai+1;omega,by show e.Ai+1≤9999;omega⟩,Nat.le_trans (List.length_filter_le _ _) h2,fun x hx=>?_,h4.filter _⟩
 obtain ⟨hx1,hx2⟩:=List.mem_filter.1 hx
 obtain ⟨a,b,c,d,f⟩:=Mr.1 (h3 x hx1)
 simp only [Bool.not_eq_true',decide_eq_false_iff_not] at hx2
 exact Mr.2 ⟨a,b,c,by show e.Ai+1+1≤x.Ca;omega,by show x.Ca≤e.Ai+1+6;omega⟩
theorem Ai6 {k n t l:Int} {s:ByteArray} (hk:1≤k∧k≤5) (hn:B9 n=true) (ht:B9 t=true) (hl:B9 l=true) (hg:gp t l≤32767) (hs:Oh s=true) (he:s=⟨#[]⟩∨k≤2):Bp ⟨k,n,t,l,s⟩=true:=by
 unfold Bp Ig
 simp only [Bool.and_eq_true,Bool.or_eq_true,decide_eq_true_eq]
 refine ⟨⟨⟨⟨⟨⟨hk,hn⟩,ht⟩,hl⟩,hs⟩,hg⟩,?_⟩
 rcases he with h|h
 ·exact .inl (.inl h)
 ·by_cases h1:k=1
  ·exact .inl (.inr h1)
  ·exact .inr (by omega)
theorem X9:Oh ⟨#[]⟩=true:=by decide
theorem Acj {x:Az} (h:Dw x=true):B9 x.Al=true∧B9 (Lq x)=true∧gp x.Al (Lq x)≤32767:=by
 obtain ⟨⟨t0,t1⟩,⟨s0,s1⟩,hl, -⟩:=D6.1 h
 refine ⟨A9.2 ⟨t0,t1⟩,Mx _ _,?_⟩
 unfold Lq gp Cg
 omega
theorem Abr {x:Az} (h:Dw x=true):Bp (Oo x)=true:=by
 obtain ⟨a,b,c⟩:=Acj h
 exact Ai6 (by decide) a a b c X9 (.inl rfl)
theorem Age {x:Az} {q:Int} (h:Dw x=true):∀p∈Lc x q,Bp p=true:=fun p hp=>by
 unfold Lc at hp
 split at hp
 ·simp at hp
 ·rw [List.mem_singleton] at hp;subst hp;exact Abr h
theorem Akl {x:Az} {n:Int} (h:Dw x=true) (hn:B9 n=true) (hh:Hn x n=true):Bp (Adj x n)=true:=by
 obtain ⟨a,b,c⟩:=Acj h
 have hi:=(D6.1 h).2.2.2
 have hl:=Va hh
 exact Ai6 (by decide) hn a b c (by rw [Qp hl];exact List.all_eq_true.1 hi _ (List.getElem_mem hl)) (.inr (by decide))
theorem Aau {x:Az} {n:Int} (h:Dw x=true) (hn:B9 n=true):Bp (U3 x n)=true:=by
 obtain ⟨a,b,c⟩:=Acj h
 exact Ai6 (by decide) hn a b c X9 (.inl rfl)
theorem Ajh {x:Cj} {p:Av} (h:Dw x.Aa=true) (hp:Bp p=true) (hk:p.Df=3):∀r∈Lg x p,Bp r=true:=fun r hr=>by
 have hn:=A9.2 (Iv hp)
 unfold Lg at hr
 split at hr
 ·rename_i hh
  split at hr
  ·rw [List.mem_singleton] at hr;subst hr;exact Aau h hn
  ·simp only [List.mem_cons,List.not_mem_nil,or_false] at hr
   rcases hr with rfl|rfl
   ·exact Aau h hn
   ·rw [show Dj x.Aa p=(Adj x.Aa p.Ae,true) by unfold Dj Im;rw [h,hp,hh,decide_eq_true hk];rfl]
    exact Akl h hn hh
 ·rw [List.mem_singleton] at hr;subst hr;exact Abr h
theorem Ajb {x:Az} {s:ByteArray} (h:Dw x=true) (hs:Oh s=true):Bp (Dp x s)=true:=by
 obtain ⟨⟨t0,t1⟩,⟨s0,s1⟩,hl, -⟩:=D6.1 h
 have hr:=Nt t0 t1
 have hrl:(Dk x).Aj.length≤6:=by
  unfold Dk
  split
  ·show (x.Aj.drop 1).length≤6
   rw [List.length_drop];omega
  ·omega
 refine Ai6 (by decide) (Mx _ _) (A9.2 hr) (Mx _ _) ?_ hs (.inr (by decide))
 unfold gp Cg
 omega
theorem Akr {p:Av} (h:Bp p=true):Bp (T8 p)=true:=by
 unfold Bp at h
 simp only [Bool.and_eq_true,decide_eq_true_eq] at h
 exact Ai6 (by decide) h.1.1.1.1.1.2 h.1.1.1.1.2 h.1.1.1.2 h.1.2 X9 (.inl rfl)
theorem Xu {r:Bb} (h:Kk r):∀p∈En r,Bp p=true∧p.Df=3:=fun p hp=>by
 unfold En at hp
 obtain ⟨k,hk,rfl⟩:=List.mem_map.1 hp
 obtain ⟨q,hq,hs⟩:=List.mem_filterMap.1 hk
 obtain ⟨-, -,q2, -⟩:=Dq.1 h.q
 have hn:=(Eb.1 (q2 q hq)).n
 have hw:=X5 h.w
 have e:k=q.Ae:=by
  unfold Nk at hs
  split at hs
  ·cases hs
  ·split at hs
   ·cases hs
   ·split at hs
    ·exact (Option.some.inj hs).symm
    ·cases hs
 subst e
 have hx:=A9.2 ⟨hw.n0,hw.n1⟩
 exact ⟨Ai6 (by decide) hn hx hx (by unfold gp;omega) X9 (.inl rfl),rfl⟩
theorem GN.ck {ck ck':Nat→Int} {n:D9} (h:GN ck n) (he:∀i,i≠0→i < n.Am.Ac.length→ck i=ck' i):GN ck' n:=by
 obtain ⟨q1,q2,q3,q4⟩:=Bm.1 h.l
 refine .mk' h.t h.s h.l fun i h1 h2 h3 h4=>?_
 have r:=Lu.1 (h.a i h1 h2 h3 h4)
 exact ⟨r.hd,r.hu,r.hk,r.hz,fun e0 l=>by rw [←he i e0 (by omega)];exact r.hf e0 l,fun e0 l=>by rw [←he i e0 (by omega)];exact r.hn e0 l⟩
theorem X6 {l:List Int} (hg:Ml l) (i:Nat):∀x∈Gs l ((i:Nat):Int),x.toNat≠0:=fun x hx=>by have:=Jd hg hx;omega
theorem Agd {ck:Nat→Int} {n:D9} {i:Nat} (h:GN ck n) (h0:i≠0) (hi:i < n.Am.Ac.length) (hc:ck i < 9999):GN (X0 ck i (ck i+1)) (L8 n i).1:=by
 obtain ⟨h1,h2,h3,h4,r⟩:=h.rn hi
 obtain ⟨d0,d1⟩:1≤Ks i∧Ks i≤8:=by unfold Ks;omega
 unfold L8
 cases hl:Ev n.Am.Ac ((i:Nat):Int)
 ·rw [if_neg (by decide)]
  obtain ⟨he,e2,e3⟩:=r.hn h0 hl
  have e:Qa n i=n.Af[i]:=by unfold Qa;rw [List.getD_eq_getElem?_getD,List.getElem?_eq_getElem h1];rfl
  have:=h.el h0 hl (Afq (e:=n.Af[i]) he (by omega))
  rw [show (D8 n.Af[i]).Ai=ck i+1 by rw [←e2];rfl] at this
  rw [e];exact this
 ·rw [if_pos rfl]
  obtain ⟨he,e2,e3⟩:=r.hf h0 hl
  have e:Vl n i=n.Ad[i]:=by unfold Vl;rw [List.getD_eq_getElem?_getD,List.getElem?_eq_getElem h2];rfl
  have hg:=Gg.1 e2
  have ht:=Ajq hg (by omega) d0 d1
  have:=h.rc h0 hl (Gg.2 ht)
  rw [show (Cv n.Ad[i] (Ks i)).Ai=ck i+1 by unfold Cv;split <;> (show n.Ad[i].Ai+1=_;rw [e3])] at this
  rw [e]
  exact this.un i _ (fun e=>absurd e h0) fun q a b=>⟨Wn a fun p hp=>(Xu hg p hp).1,Ahb b fun p hp=>(Xu hg p hp).2⟩
theorem Uq (n:D9) (i:Nat):(L8 n i).1.Am=n.Am∧(L8 n i).1.Ab=n.Ab:=by unfold L8;split <;> exact ⟨rfl,rfl⟩
def ckT (c:Int) (k:Nat):Nat→Int:=fun j=>if j≤k then c+1 else c
theorem Oe {n:D9} (hg:Ax n=true) (hc:n.Ab.Ai < 9999):∀k,k+1≤n.Am.Ac.length→GN (ckT n.Ab.Ai k) (Bc n k).1∧(Bc n k).1.Am=n.Am∧(Bc n k).1.Ab=Kb n.Ab
 | 0,_=>by
  have h:=A8.1 hg
  have ht:=Ff h.t
  refine ⟨?_,rfl,rfl⟩
  have h2:=((h.src (Aie h.s hc)).sp (Age (q:=n.Ab.quiet) (Eu.1 h.s).1) (X6 ht 0)).ck (ck':=ckT n.Ab.Ai 0) fun i h0 _=>by unfold ckT;rw [if_neg (by omega)]
  exact h2
 | k+1,hk=>by
  obtain ⟨h1,h2,h3⟩:=Oe hg hc k (by omega)
  obtain ⟨t1,t2⟩:=Uq (Bc n k).1 (k+1)
  have e:ckT n.Ab.Ai k (k+1)=n.Ab.Ai:=by unfold ckT;rw [if_neg (by omega)]
  have:=Agd h1 (i:=k+1) (by omega) (by rw [h2];omega) (by rw [e];exact hc)
  refine ⟨this.ck fun i h0 hi=>?_,t1.trans h2,t2.trans h3⟩
  rw [e]
  unfold X0 ckT
  by_cases c1:i=k+1
  ·rw [if_pos c1,if_pos (by omega)]
  ·rw [if_neg c1]
   by_cases c2:i≤k
   ·rw [if_pos c2,if_pos (by omega)]
   ·rw [if_neg c2,if_neg (by omega)]
theorem Rv {n:D9} (hg:Ax n=true) (hc:n.Ab.Ai < 9999):Ax (Bz n).1=true:=by
 have h:=A8.1 hg
 have ht:=Ff h.t
 have:=ht.n0
 obtain ⟨h1,h2,h3⟩:=Oe hg hc (n.Am.Ac.length - 1) (by omega)
 refine A8.2 ?_
 show GN (fun _=>(Bc n (n.Am.Ac.length - 1)).1.Ab.Ai) _
 rw [h3]
 exact h1.ck fun i h0 hi=>by rw [h2] at hi;unfold ckT;rw [if_pos (by omega)];rfl
structure Li where
 Df:Int
 node:Int
 data:ByteArray
section
variable {c:Cx} {fr:Fr} {H:List Pc} {Φ:Gl}
theorem Kw {α:Type} {E:Bv α} {hz:0 < E.sz} {a:Option Addr} {n cp:Nat} {xs:List (List α)} {F:List Nat} (i:Nat) (h:∀(hi:i < xs.length) (b o:Nat) (a1:Option Addr) (c1:Nat) (F1:List Nat),a=some ⟨b,o,none⟩→xs[i].length≤maxLen→T c fr (.cel b (o+i * 1) [.slice a1 xs[i].length c1]::.sl E (.slice a1 xs[i].length c1) xs[i] F1::H) Φ) (hm:.sl (Md E hz) (.slice a n cp) xs F∈H:=by exact B8) (hi:i < xs.length:=by omega):T c fr H Φ:=.mk fun ac w s g=>by
 obtain ⟨b,o,cs,G,ha,hrep,hG,hb,hne,hr⟩:=Tw (s.get hm) i hi
 obtain ⟨v1,rfl,h1⟩:=hrep
 obtain ⟨a1,c1,rfl⟩:=h1.slice;have l1:=h1.len
 have t1:=s.ro (p:=.sl E (.slice a1 xs[i].length c1) xs[i] G) hm rfl rfl ⟨hz,h1⟩ (by intro b hb;simp only [Pc.F] at hb ⊢;exact hG b (by simp [hb]))
 exact (h hi b o a1 c1 G ha l1).h ac w (t1.ro (List.mem_cons_of_mem _ hm) rfl rfl ⟨hne,hr⟩ (by intro x hx;simp [Pc.F] at hx;subst hx;exact hb)) g
theorem Tj {α:Type} {O:Bv α} {t:TypeId} {v:Value} {xs:List α} {F:List Nat} {S:List Pc} (h:∀(a1:Option Addr) (c1:Nat),v=.agg #[.slice a1 xs.length c1]→xs.length≤maxLen→T c fr (.ow O t (.slice a1 xs.length c1) xs F::S) Φ) (hp:C0 H (.own (Hi O t) v xs F) S:=by exact D0):T c fr H Φ:=.mk fun a w s g=>by
 have z1:=s.pick hp
 obtain ⟨hn,cs,rfl,v1,rfl,h1⟩:=z1.on (.own (Hi O t) v xs F) (by simp)
 obtain ⟨a1,c1,rfl⟩:=h1.slice
 have l1:=h1.len
 exact (h a1 c1 rfl l1).h a w (z1.conv rfl ⟨hn,h1⟩ (fun b hb=>hb)) g
theorem Jt {α:Type} {O:Bv α} {t:TypeId} (xs:List α) {a1:Option Addr} {c1:Nat} {F:List Nat} {S:List Pc} (h:T c fr (.own (Hi O t) (.agg #[.slice a1 xs.length c1]) xs F::S) Φ) (hp:C0 H (.ow O t (.slice a1 xs.length c1) xs F) S:=by exact D0):T c fr H Φ:=.mk fun a w s g=>by
 have z1:=s.pick hp
 obtain ⟨hn,h1⟩:=z1.on (.ow O t (.slice a1 xs.length c1) xs F) (by simp)
 exact h.h a w (z1.conv rfl ⟨hn,_,rfl,_,rfl,h1⟩ (fun b hb=>hb)) g
end
theorem N7 {α:Type} {l:List α} {i:Nat} (h:i < l.length) (x:α):l.getD i x=l[i]:=by rw [List.getD_eq_getElem?_getD,List.getElem?_eq_getElem h];rfl
theorem Wk (d:List (List Av)) (i:Nat) (p:Av) (a:Option Addr) (n c:Nat) (F:List Nat) (hn:n=d.length) (hi:i < d.length) (hs:p.data.size≤maxLen):Fn prog 138 [.slice a n c,.int .i64 (i:Nat),.agg #[.int .i64 (p).Df,.int .i64 (p).Ae,.int .i64 (p).Al,.int .i64 (p).Ec,.string (p).data]] [] [.ow (Hi Ak 110) 86 (.slice a n c) d F] (fun (_:List Nat)=>True) (fun _=>.tuple #[]) (fun G=>[.ow (Hi Ak 110) 86 (.slice a n c) (d.set i (Qw d[i] p)) G]):=by
 refine enter func138 rfl ntmps138 fun w0=>?_
 refine V5 (m:=1) i ?_ rfl hi
 rintro _ g A cs B k1 k2 G1 Gi G2 rfl - hc hH
 refine Tj ?_
 rintro a5 c5 ev l5
 obtain rfl:cs=[.slice a5 d[i].length c5]:=by simpa using ev
 refine go ?_;intros
 refine Bg rfl (fun h1=>?_) (fun h1=>?_)
 ·have h6:d[i].length < 6:=by omega
  rw [show Qw d[i] p=d[i]++[p] by unfold Qw;rw [if_pos h6]]
  refine go ?_;intros
  refine As [0,2] [10] ?_
  refine dt 0 ?_
  refine dt 1 ?_
  refine dt 2 ?_
  refine dt 3 ?_
  refine dt 4 ?_
  refine dt 5 ?_
  refine dt 6 ?_
  refine dO 7 (by kernel_rfl) (by rw [List.getElem?_toArray];rfl) ?_
  apply Ho;rfl;rfl;rfl;rfl;exact Hl;exact Hg;intro _
  refine dk ?_
  refine dO 8 (by kernel_rfl) (by rw [List.getElem?_toArray];rfl) ?_
  refine Mf (ys:=[p]) (C5 p hs) Hk fun a7 c7 F7=>?_
  refine dk ?_
  refine dt 9 ?_
  refine dO 10 (by kernel_rfl) (by rw [List.getElem?_toArray];rfl) ?_
  apply Cs;rfl;rfl;rfl;(first|exact AggC.s|exact OneC.s);rfl;exact Cu;exact Ct;rfl
  refine Ng ?_
  refine dd ?_
  refine Jt (d[i]++[p]) ?_
  refine go ?_;intros
  refine Rw _ hH rfl fun F6=>?_
  refine Rt ?_
  refine ret F6 trivial rfl
 ·rw [show Qw d[i] p=d[i] by unfold Qw;rw [if_neg (by omega)]]
  refine go ?_;intros
  refine Jt d[i] ?_
  refine Rw _ hH rfl fun F6=>?_
  refine Rt ?_
  refine ret F6 trivial rfl
theorem Abl (q l:List Av) (p:Av):E9 q (l++[p])=Qw (E9 q l) p:=by
 unfold E9 Qw
 by_cases h:l.length < 6 - q.length
 ·rw [List.take_of_length_le (by rw [List.length_append];simp;omega),List.take_of_length_le (by omega),if_pos (by rw [List.length_append];omega),List.append_assoc]
 ·have e:(l++[p]).take (6 - q.length)=l.take (6 - q.length):=by rw [List.take_append_of_le_length (by omega)]
  rw [e,if_neg (by rw [List.length_append,List.length_take];omega)]
def Oa (s:List (List Av)) (i:Nat) (ps:List Av):List (List Av):=s.modify i fun q=>E9 q ps
theorem Abj (s:List (List Av)) (i:Nat) (ps:List Av):(Oa s i ps).length=s.length:=List.length_modify ..
theorem Abk (s:List (List Av)) (i:Nat):Oa s i []=s:=by
 unfold Oa
 by_cases h:i < s.length
 ·rw [Gb h,Aep,List.set_getElem_self]
 ·exact Ui h
theorem Zj {s:List (List Av)} {i j:Nat} {ps:List Av} (hi:i < s.length) (hj:j < ps.length) (h:i < (Oa s i (ps.take j)).length):(Oa s i (ps.take j)).set i (Qw (Oa s i (ps.take j))[i] ps[j])=Oa s i (ps.take (j+1)):=by
 unfold Oa
 simp only [Gb hi]
 rw [List.getElem_set_self,List.set_set,List.take_succ_eq_append_getElem hj,Abl]
theorem Xt {d:List (List Av)} {nodes:List Int} {ps:List Av} {k:Nat} (hk:k < nodes.length):Dl d (nodes.take (k+1)) ps=Oa (Dl d (nodes.take k) ps) nodes[k].toNat ps:=by rw [List.take_succ_eq_append_getElem hk,Aew];rfl
structure KF where
 k:Nat
 F:List Nat
theorem T9 (d:List (List Av)) (nodes:List Int) (ps:List Av) (g:Nat) (v0 v1 v2 v3 v4 v5 v6 v7 v8 v10:Value) (a:Option Addr) (n c:Nat) (F:List Nat) (an:Option Addr) (cn:Nat) (Fn_:List Nat) (ap:Option Addr) (cp:Nat) (Fp:List Nat) (hn:n=d.length) (hx:∀x∈nodes,0≤x∧x.toNat < d.length) :
  Fn prog 79 [Ez g 0 0,.slice an nodes.length cn,.slice ap ps.length cp] [.sl Bd (.slice an nodes.length cn) nodes Fn_,.sl Ak (.slice ap ps.length cp) ps Fp] [.row g 37 0 [] [v0,v1,v2,v3,v4,v5,v6,v7,v8,.slice a n c,v10] [],.ow (Hi Ak 110) 86 (.slice a n c) d F] (fun (_:List Nat)=>True) (fun _=>.tuple #[]) (fun G=>[.row g 37 0 [] [v0,v1,v2,v3,v4,v5,v6,v7,v8,.slice a n c,v10] [],.ow (Hi Ak 110) 86 (.slice a n c) (Dl d nodes ps) G]):=by
 refine enter func79 rfl ntmps79 fun w0=>?_
 refine Tp (E:=Bd) (xs:=nodes) ?_
 rintro _ _ e0 hn1 hn2
 refine Tp (E:=Ak) (xs:=ps) ?_
 rintro _ _ e3 hp1 hp2
 refine Acy (E:=Ak) (fun p:Av=>p.data.size≤maxLen) (fun w cs x F h=>by obtain ⟨_,h,_⟩:=h;exact h) ?_
 intro hz
 cases e0;cases e3
 refine go ?_;intros
 refine Cp [0,2,10,11] (fun z:KF=>[(12,.int .i64 (z.k:Nat))]) (fun z=>[.ow (Hi Ak 110) 86 (.slice a n c) (Dl d (nodes.take z.k) ps) z.F]) (fun z=>z.k≤nodes.length) (fun z=>nodes.length - z.k) ⟨0,_⟩ (Nat.zero_le _) fun z hz0=>?_
 have hsl:=Up ps (nodes.take z.k) d
 refine go ?_;intros
 refine Bg rfl (fun h1=>?_) (fun h1=>?_)
 ·have hk:z.k < nodes.length:=by omega
  obtain ⟨x0,x1⟩:=hx _ (List.getElem_mem hk)
  obtain ⟨i,hi⟩:∃i:Nat,nodes[z.k]=((i:Nat):Int):=⟨nodes[z.k].toNat,by omega⟩
  have hil:i < (Dl d (nodes.take z.k) ps).length:=by omega
  have hst:=Xt (d:=d) (ps:=ps) hk
  rw [show nodes[z.k].toNat=i by omega] at hst
  refine In (xs:=nodes) z.k ?_
  rintro hi2 b o e1
  rw [e1,hi]
  refine go ?_;intros
  rw [show Dl d (nodes.take z.k) ps=Oa (Dl d (nodes.take z.k) ps) i (ps.take 0) by rw [List.take_zero,Abk]]
  refine Cp [0,2,7,10,11,12,13,14,15,16,17] (fun y:KF=>[(18,.int .i64 (y.k:Nat))]) (fun y=>[.ow (Hi Ak 110) 86 (.slice a n c) (Oa (Dl d (nodes.take z.k) ps) i (ps.take y.k)) y.F]) (fun y=>y.k≤ps.length) (fun y=>ps.length - y.k) ⟨0,z.F⟩ (Nat.zero_le _) fun y hy0=>?_
  have hpl:=Abj (Dl d (nodes.take z.k) ps) i (ps.take y.k)
  refine go ?_;intros
  refine Bg rfl (fun h2=>?_) (fun h2=>?_)
  ·have hj:y.k < ps.length:=by omega
   refine Mg (xs:=ps) y.k ?_
   rintro hi3 b3 o3 e3 s3
   rw [e3]
   refine go ?_;intros
   refine As [0,4] [] ?_
   refine dt 0 ?_
   refine dt 1 ?_
   refine dt 2 ?_
   refine dt 3 ?_
   refine dt 4 ?_
   refine dt 5 ?_
   refine dO 6 (by kernel_rfl) (by rw [List.getElem?_toArray];rfl) ?_
   apply At;rfl;kernel_rfl;exact Bf
   refine cf (Wk (Oa (Dl d (nodes.take z.k) ps) i (ps.take y.k)) i ps[y.k] a n c y.F (by omega) (by omega) s3) fun f1 _=>?_
   refine Ap ?_
   rw [Zj hil hj]
   refine dk ?_
   refine dd ?_
   refine go ?_;intros
   refine Ck ⟨y.k+1,f1⟩ hj (by show ps.length - (y.k+1) < ps.length - y.k;omega)
  ·rw [show ps.take y.k=ps from List.take_of_length_le (by omega),←hst]
   refine go ?_;intros
   refine Ck ⟨z.k+1,y.F⟩ hk (by show nodes.length - (z.k+1) < nodes.length - z.k;omega)
 ·rw [show nodes.take z.k=nodes from List.take_of_length_le (by omega)]
  refine go ?_;intros
  refine Rt ?_
  refine ret z.F trivial rfl
def zP:Av:=⟨0,0,0,0,⟨#[]⟩⟩
def Kz (q:List Av):Av:=q.headD zP
theorem Sv {q:List Av} (h:0 < q.length):Kz q=q[0]:=by
 cases q with
 | nil=>cases h
 | cons p r=>rfl
theorem Ap3 (xs:List Av) (n i:Nat) (j:Int) (a:Option Addr) (c:Nat) (F:List Nat) (hn:n=xs.length) (hi:i < xs.length) (hj:j=(i:Int)+1) (hl:xs.length≤1000000) :
  Fn prog 204 [.slice a n c,.int .i64 i,.int .i64 j] [] [.ow Ak 110 (.slice a n c) xs F] (fun (_:Option Addr × Nat × List Nat)=>True)
   (fun z=>.slice z.1 (xs.take i++xs.drop (i+1)).length z.2.1) (fun z=>[.ow Ak 110 (.slice z.1 (xs.take i++xs.drop (i+1)).length z.2.1) (xs.take i++xs.drop (i+1)) z.2.2]):=by
 subst hn
 refine enter func204 rfl ntmps204 fun w0=>?_
 refine Acz (xs:=xs) Jh (by rintro rfl;simp at hi) ?_
 rintro g rfl rfl - hc1 hc2
 refine go ?_;intros
 apply wO
 refine Aeh (i:=i) (j:=i+1) (l:=xs.length) rfl rfl rfl rfl rfl rfl (by omega) rfl (by omega) (by omega) hc1 (fun _=>?_)
 refine go ?_;intros
 refine Bg rfl (fun h=>absurd h (by omega)) (fun _=>?_)
 refine go ?_;intros
 refine As [] [] ?_
 refine dt 0 ?_
 refine dt 1 ?_
 refine dt 2 ?_ (hy:=Mc (i:=i) rfl rfl rfl (by omega) (by omega))
 refine dt 3 ?_
 refine dt 4 ?_
 refine dt 5 ?_ (hy:=Ane (i:=i+1) rfl rfl (by omega) (by omega) hc1)
 refine dO 6 (by kernel_rfl) (by rw [List.getElem?_toArray];rfl) ?_
 refine Alr (m:=5) (i:=i) (j:=i+1) (q:=if c=i+1 then 0 else 0+(i+1) * 5) (g:=g) (cp:=c) (n:=xs.length) Jh Hk rfl rfl rfl rfl (fun h=>by rw [if_neg (by omega)];omega) (by omega) (by omega) rfl (by repeat (first|exact .here|apply C0.there)) ?_
 refine dk ?_
 refine dt 7 ?_
 refine dd ?_
 refine go ?_;intros
 apply wO;apply oc;rfl;exact Aho (i:=i+(xs.length - (i+1))) (j:=xs.length) rfl rfl rfl rfl rfl (by omega) (by omega) hc1
 refine go ?_;intros
 apply wO
 refine Ag6 (xs:=xs.take i++xs.drop (i+1)++xs.drop (i+(xs.length - (i+1)))) (z0:=zP) (n:=xs.length) (cp:=c) (i:=i+(xs.length - (i+1))) (g:=g) Jh (fun w=>⟨rfl,Nat.zero_le _,rfl⟩) (by decide) rfl rfl (by omega) (by exact I0) (by repeat (first|exact .here|apply C0.there)) ?_
 have hk:(xs.take i++xs.drop (i+1)).length=i+(xs.length - (i+1)):=by exact I0
 refine Z3 (xs:=(xs.take i++xs.drop (i+1)++xs.drop (i+(xs.length - (i+1)))).take (i+(xs.length - (i+1)))++List.replicate (xs.length - (i+(xs.length - (i+1)))) zP) (i+(xs.length - (i+1))) (fun F2=>?_) (by exact I0)
 rw [List.take_left' (by rw [List.take_left' hk,hk]),List.take_left' hk,←hk]
 refine go ?_;intros
 refine ret (_,c,F2) trivial rfl
theorem Arw (xs:List Av) (a:Option Addr) (c:Nat) (F:List Nat) (hl:xs.length≤1000000000) :
  Fn prog 134 [.slice a xs.length c] [.sl Ak (.slice a xs.length c) xs F] [] (fun (_:Option Addr × Nat × List Nat)=>True) (fun z=>.slice z.1 xs.length z.2.1) (fun z=>[.ow Ak 110 (.slice z.1 xs.length z.2.1) xs z.2.2]):=by
 refine enter func134 rfl ntmps134 fun w0=>?_
 refine go ?_;intros
 cases a with
 | none =>
  refine Amy (xs:=xs) fun h0=>?_
  subst h0
  apply wO;apply oc;rfl;exact Ac5 rfl
  refine Cb Ak 110 ?_
  refine go ?_;intros
  refine ret (none,0,[]) trivial rfl
 | some ad =>
  apply wO;apply oc;rfl;exact Ac5 rfl
  refine go ?_;intros
  refine C9 Ak ?_
  apply wO
  refine Lx Hk Jh fun a2 c2 F2=>?_
  rw [List.nil_append]
  refine go ?_;intros
  refine ret (a2,c2,F2) trivial rfl
theorem Zh (d:List (List Av)) (i:Nat) (a:Option Addr) (n c:Nat) (F:List Nat) (hn:n=d.length) (hi:i < d.length) (h6:d[i].length≤6):Fn prog 146 [.slice a n c,.int .i64 (i:Nat)] [] [.ow (Hi Ak 110) 86 (.slice a n c) d F] (fun (_:List Nat)=>True) (fun _=>.tuple #[.agg #[.int .i64 (Kz d[i]).Df,.int .i64 (Kz d[i]).Ae,.int .i64 (Kz d[i]).Al,.int .i64 (Kz d[i]).Ec,.string (Kz d[i]).data],.bool (decide (0 < d[i].length))]) (fun G=>[.ow (Hi Ak 110) 86 (.slice a n c) (d.set i (d[i].drop 1)) G]):=by
 refine enter func146 rfl ntmps146 fun w0=>?_
 refine V5 (m:=1) i ?_ rfl hi
 rintro _ g A cs B k1 k2 G1 Gi G2 rfl - hc hH
 refine Tj ?_
 rintro a5 c5 ev l5
 obtain rfl:cs=[.slice a5 d[i].length c5]:=by simpa using ev
 refine go ?_;intros
 refine Bg rfl (fun h1=>?_) (fun h1=>?_)
 ·have h0:d[i]=[]:=List.length_eq_zero_iff.1 (by omega)
  rw [h0]
  refine go ?_;intros
  refine Jt [] ?_
  refine Rw _ hH rfl fun F6=>?_
  refine ret F6 trivial rfl
 ·have h0:0 < d[i].length:=by omega
  rw [decide_eq_true h0,Sv h0]
  refine Ah5 (xs:=d[i]) 0 ?_
  rintro _ g2 A2 B2 rfl rfl sz hH2
  refine Jm ?_;intros
  refine Nd d[i][0] hH2 (fun w=>⟨rfl,sz,rfl⟩) ?_
  rw [List.set_getElem_self]
  refine go ?_;intros
  refine cf (Ap3 d[i] d[i].length 0 1 _ c5 _ rfl h0 rfl (by omega)) fun z _=>?_
  refine Ap ?_
  rw [show d[i].take 0++d[i].drop (0+1)=d[i].drop 1 by simp]
  refine go ?_;intros
  refine Jt (d[i].drop 1) ?_
  refine Rw _ hH rfl fun F6=>?_
  refine ret F6 trivial rfl
def Sa (l:List (List Av)) (k:Nat):List (List Av):=l.take k++List.replicate (l.length - k) []
theorem Ah1 {l:List (List Av)} {k:Nat} (h:k≤l.length):(Sa l k).length=l.length:=by unfold Sa;simp;omega
theorem Ah2 {l:List (List Av)} {k:Nat} (h:k < l.length):(Sa l k).set k l[k]=Sa l (k+1):=by
 unfold Sa
 have e:List.replicate (l.length - k) ([]:List Av)=[]::List.replicate (l.length - (k+1)) []:=by rw [show l.length - k=(l.length - (k+1))+1 by omega,List.replicate_succ]
 have hl:(l.take k).length=k:=by rw [List.length_take];omega
 rw [e,List.set_append_right _ _ (by omega),hl,Nat.sub_self,List.set_cons_zero,List.take_succ_eq_append_getElem h,List.append_assoc];rfl
theorem Hz (l:List (List Av)) (a:Option Addr) (c:Nat) (F:List Nat) (hl:l.length≤1000000) (hq:∀q∈l,q.length≤1000000000):Fn prog 76 [.slice a l.length c] [.sl (Md Ak (by decide)) (.slice a l.length c) l F] [] (fun (_:Nat × List Nat)=>True) (fun z=>.slice (some ⟨z.1,0,none⟩) l.length l.length) (fun z=>[.ow (Hi Ak 110) 86 (.slice (some ⟨z.1,0,none⟩) l.length l.length) l z.2]):=by
 refine enter func76 rfl ntmps76 fun w0=>?_
 refine go ?_;intros
 apply wO
 refine Acl l.length (cs:=(List.replicate l.length ([.slice none 0 0]:List Value)).flatten) rfl rfl rfl (Rg _ _) (by omega) (by omega) fun g=>?_
 refine Ei (E:=Hi Ak 110) (xs:=List.replicate l.length []) (fun w=>Cw.rep0 (E:=Hi Ak 110) (w:=w) (zs:=[.slice none 0 0]) (z:=([]:List Av)) ⟨_,rfl,.inl ⟨rfl,rfl,rfl⟩⟩ _) ?_ (by rw [List.length_replicate];omega)
 rw [List.length_replicate,show List.replicate l.length ([]:List Av)=Sa l 0 by unfold Sa;simp]
 refine go ?_;intros
 refine Cp [2,3,9,10] (fun z:KF=>[(11,.int .i64 (z.k:Nat))]) (fun z=>[.ow (Hi Ak 110) 86 (.slice (some ⟨g,0,none⟩) l.length l.length) (Sa l z.k) z.F]) (fun z=>z.k≤l.length) (fun z=>l.length - z.k) ⟨0,_⟩ (Nat.zero_le _) fun z hz0=>?_
 have hfl:=Ah1 hz0
 refine go ?_;intros
 refine Bg rfl (fun h1=>?_) (fun h1=>?_)
 ·have hk:z.k < l.length:=by omega
  refine Kw (E:=Ak) (hz:=by decide) (xs:=l) z.k ?_
  rintro hi6 b6 o6 a11 c11 F11 rfl l11
  refine V5 (xs:=Sa l z.k) (m:=1) z.k ?_ rfl (by omega)
  rintro _ g2 A cs B k1 k2 G1 Gi G2 e2 - hc hH
  cases e2
  refine Tj ?_
  rintro a5 c5 ev l5
  obtain rfl:cs=[.slice a5 (Sa l z.k)[z.k].length c5]:=by simpa using ev
  refine go ?_;intros
  refine cf (Arw l[z.k] a11 c11 F11 (hq _ (List.getElem_mem hk))) fun y _=>?_
  refine Ap ?_
  refine go ?_;intros
  refine Jt l[z.k] ?_
  refine Rw _ hH rfl fun F6=>?_
  rw [Ah2 hk]
  refine go ?_;intros
  refine Ck ⟨z.k+1,F6⟩ hk (by show l.length - (z.k+1) < l.length - z.k;omega)
 ·rw [show Sa l z.k=l by unfold Sa;rw [show z.k=l.length by omega];simp]
  refine go ?_;intros
  refine ret (g,z.F) trivial rfl
def Ij (s:Li):Bool:=if s.Df=1 then decide (s.node=0) && Oh s.data else if s.Df=4 then decide (s.node=0) && decide (s.data=⟨#[]⟩) else Ig 1 s.Df 6 && Pi s.node && decide (s.data=⟨#[]⟩)
def Sh (s:Li):Bool:=decide (s.Df=5) || decide (s.Df=6)
def Qx (n:D9) (s:Li):List Av:=(if Sh s then n.up else n.down).getD s.node.toNat []
def Gm (n:D9) (s:Li):D9:=if Sh s then I4 n s.node.toNat else Kh n s.node.toNat
def Cy (n:D9) (s:Li):Option (D9 × List ByteArray) :=
 if (n.Am.Ac.length:Int)≤s.node then none
 else if (Qx n s).length=0 then none
 else if s.Df=2 then some (Cq (Gm n s) s.node.toNat (Kz (Qx n s)))
 else if s.Df=5 then some (Mt (Gm n s) s.node.toNat (Kz (Qx n s)),[])
 else some (Gm n s,[])
def By (n:D9) (s:Li):Option (D9 × List ByteArray) :=
 if s.Df=1 then some (Na n s.data,[])
 else if s.Df=4 then (if n.Ab.Ai=9999 then none else some (Bz n))
 else Cy n s
def Fs (n:D9) (r:Option (D9 × List ByteArray)):D9:=match r with|some x=>x.1|none=>n
def Vi (r:Option (D9 × List ByteArray)):List ByteArray:=match r with|some x=>x.2|none=>[]
theorem Ajk {n:D9} {s:ByteArray} (h:Ax n=true) (hs:Oh s=true):Ax (Na n s)=true:=by
 have hg:=A8.1 h
 have ht:=Ff hg.t
 exact A8.2 (((hg.src (Aid hg.s hs)).sp (fun p hp=>by rw [List.mem_singleton] at hp;subst hp;exact Ajb (Eu.1 hg.s).1 hs) (X6 ht 0)))
theorem Wz {ck:Nat→Int} {i:Nat} {c:Int} (h:ck i=c):X0 ck i c=ck:=by
 funext j;unfold X0
 by_cases e:j=i
 ·rw [if_pos e,e,h]
 ·rw [if_neg e]
theorem Ah0 {e:Bl} {n:Int} {l:List Int}:∀x∈Qj e n l,x∈l:=U5
theorem Ad0 (r:Bb) (p:Av) (d:Int):(De r p d).Ai=r.Ai:=by
 unfold De
 split
 ·rfl
 ·split <;> rfl
theorem Af3 (e:Bl) (n f:Int):(Lf e n f).Ai=e.Ai:=by
 unfold Lf
 split
 ·rfl
 ·split <;> rfl
theorem Af2 (e:Bl) (n:Int):(M9 e n).Ai=e.Ai:=by unfold M9;split <;> rfl
theorem Afj {n:D9} {i:Nat} {p:Av} (h:Ax n=true) (h0:i≠0) (hi:i < n.Am.Ac.length) (hp:Bp p=true):Ax (Cq n i p).1=true:=by
 have hg:=A8.1 h
 have ht:=Ff hg.t
 obtain ⟨h1,h2,h3,h4,r⟩:=hg.rn hi
 have d0:1≤Ks i∧Ks i≤8:=by unfold Ks;omega
 have ee:Qa n i=n.Af[i]:=by unfold Qa;rw [List.getD_eq_getElem?_getD,List.getElem?_eq_getElem h1];rfl
 have er:Vl n i=n.Ad[i]:=by unfold Vl;rw [List.getD_eq_getElem?_getD,List.getElem?_eq_getElem h2];rfl
 have hps:∀q∈[p],Bp q=true:=fun q hq=>by rw [List.mem_singleton] at hq;rw [hq];exact hp
 unfold Cq
 cases hl:Ev n.Am.Ac ((i:Nat):Int)
 ·rw [if_neg (by decide)]
  obtain ⟨he,e2, -⟩:=r.hn h0 hl
  by_cases hk:p.Df=2
  ·have:=(hg.el h0 hl (Aib (n:=p.Ae) he)).sp hps (nodes:=Qj n.Af[i] p.Ae (Ts n i)) (fun x hx=>X6 ht i x (Ah0 x hx))
   rw [Wz (show (fun _=>n.Ab.Ai) i=(M9 n.Af[i] p.Ae).Ai by rw [Af2,e2])] at this
   unfold Xy
   rw [if_pos hk,if_pos hk,ee]
   exact A8.2 this
  ·unfold Xy
   rw [if_neg hk,if_neg hk]
   exact A8.2 (hg.sp hps (X6 ht i))
 ·rw [if_pos rfl,er]
  obtain ⟨-,e2,e3⟩:=r.hf h0 hl
  have:=hg.rc h0 hl (Gg.2 (Qn (d:=Ks i) (Gg.1 e2) hp d0.1 d0.2).1)
  rw [Wz (show (fun _=>n.Ab.Ai) i=(De n.Ad[i] p (Ks i)).Ai by rw [Ad0,e3])] at this
  exact A8.2 this
theorem Apb {n:D9} {i:Nat} {p:Av} (h:Ax n=true) (h0:i≠0) (hi:i < n.Am.Ac.length) (hp:Bp p=true) (hk:p.Df=3):Ax (Mt n i p)=true:=by
 have hg:=A8.1 h
 have ht:=Ff hg.t
 have hone:∀x∈[((i:Nat):Int)],x.toNat≠0:=fun x hx=>by rw [List.mem_singleton] at hx;subst hx;omega
 have h1:=ht.p i hi (by omega)
 have e:n.Am.Ac.getD i 0=n.Am.Ac[i]:=by rw [List.getD_eq_getElem?_getD,List.getElem?_eq_getElem hi];rfl
 obtain ⟨k,hkk⟩:∃k,To n i=k:=⟨_,rfl⟩
 have hk2:n.Am.Ac[i]=((k:Nat):Int):=by unfold To at hkk;rw [e] at hkk;omega
 unfold Mt
 rw [hkk]
 by_cases hz:k=0
 ·rw [if_pos hz]
  have:=(hg.src (Ak5 (n:=p.Ae) hg.s (Iv hp))).sp (Ajh (Eu.1 hg.s).1 hp hk) hone
  refine A8.2 ?_
  rw [show (Jy n.Ab p.Ae).Ai=n.Ab.Ai by unfold Jy;split <;> rfl]
  exact this
 ·rw [if_neg hz]
  have hkl:k < n.Am.Ac.length:=by omega
  obtain ⟨r1,r2,r3,r4,r⟩:=hg.rn hkl
  have ee:Qa n k=n.Af[k]:=by unfold Qa;rw [List.getD_eq_getElem?_getD,List.getElem?_eq_getElem r1];rfl
  have hl:Ev n.Am.Ac ((k:Nat):Int)=false:=by
   unfold Ev;rw [←hk2,decide_eq_true (List.getElem_mem hi)];rfl
  obtain ⟨he,e2, -⟩:=r.hn hz hl
  rw [ee]
  have hf:Pi ((i:Nat):Int)=true:=L0.2 ⟨by omega,by have:=ht.n1;omega⟩
  have:=(hg.el hz hl (Aic he (A9.2 (Iv hp)) hf)).sp (nodes:=[((i:Nat):Int)]) (ps:=[T8 p]) (fun q hq=>by rw [List.mem_singleton] at hq;rw [hq];exact Akr hp) hone
  rw [Wz (show (fun _=>n.Ab.Ai) k=(Lf n.Af[k] p.Ae ((i:Nat):Int)).Ai by rw [Af3,e2])] at this
  refine A8.2 ?_
  split
  ·exact this.un k _ (fun e=>absurd e hz) fun q a b=>⟨Wn a fun x hx=>by rw [List.mem_singleton] at hx;rw [hx];exact hp,Ahb b fun x hx=>by rw [List.mem_singleton] at hx;rw [hx];exact hk⟩
  ·exact this
theorem Ko {n:D9} {s:Li} (h:Ax n=true):Eo (Qx n s)=true∧(Sh s=true→Uv (Qx n s)=true):=by
 have hg:=A8.1 h
 obtain ⟨q1,q2,q3,q4⟩:=Bm.1 hg.l
 unfold Qx
 by_cases hi:s.node.toNat < n.Am.Ac.length
 ·obtain ⟨h1,h2,h3,h4,r⟩:=hg.rn hi
  cases Sh s
  ·rw [if_neg (by decide),N7 h3]
   exact ⟨r.hd,fun e=>by cases e⟩
  ·rw [if_pos rfl,N7 h4]
   exact ⟨r.hu,fun _=>r.hk⟩
 ·have e:((if Sh s then n.up else n.down).getD s.node.toNat [])=[]:=by
   rw [List.getD_eq_getElem?_getD,List.getElem?_eq_none (by split <;> omega)];rfl
  rw [e];exact ⟨rfl,fun _=>rfl⟩
theorem J8 {n:D9} {s:Li} (h:Ax n=true):Ax (Gm n s)=true:=by
 have hg:=A8.1 h
 unfold Gm
 split
 ·exact A8.2 (hg.pu _)
 ·exact A8.2 (hg.pd _)
theorem M8 {q:List Av} (h:0 < q.length):Kz q∈q:=by rw [Sv h];exact List.getElem_mem _
theorem Lz {q:List Av} (h:Eo q=true) {p:Av} (hp:p∈q):Bp p=true:=by
 unfold Eo at h
 rw [Bool.and_eq_true] at h
 exact List.all_eq_true.1 h.2 p hp
theorem Apa {q:List Av} (h:Uv q=true) {p:Av} (hp:p∈q):p.Df=3:=of_decide_eq_true (List.all_eq_true.1 h p hp)
theorem Ae0 {n:D9} {s:Li} {r:D9 × List ByteArray} (h:Ax n=true) (hn:Pi s.node=true) (hr:Cy n s=some r):Ax r.1=true:=by
 have hf:=L0.1 hn
 have hpg:=J8 (s:=s) h
 have hq:=Ko (s:=s) h
 have htl:(Gm n s).Am=n.Am:=by unfold Gm;split <;> rfl
 unfold Cy at hr
 split at hr
 ·cases hr
 ·rename_i h1
  split at hr
  ·cases hr
  ·rename_i h2
   have hm:=M8 (q:=Qx n s) (by omega)
   have hpk:=Lz hq.1 hm
   have hi:s.node.toNat < (Gm n s).Am.Ac.length:=by rw [htl];omega
   split at hr
   ·cases hr;exact Afj hpg (by omega) hi hpk
   ·split at hr
    ·rename_i h5
     cases hr
     exact Apb hpg (by omega) hi hpk (Apa (hq.2 (by unfold Sh;rw [decide_eq_true h5];rfl)) hm)
    ·cases hr;exact hpg
theorem Q1 {x:Cj} (h:Cc x=true):0≤x.Ai∧x.Ai≤9999:=by
 unfold Cc at h
 simp only [Bool.and_eq_true] at h
 exact Kt.1 h.1.1.2
theorem Ku {n:D9} {s:Li} {r:D9 × List ByteArray} (h:Ax n=true) (hs:Ij s=true) (hr:By n s=some r):Ax r.1=true:=by
 unfold By at hr
 unfold Ij at hs
 split at hr
 ·rename_i h1
  rw [if_pos h1,Bool.and_eq_true] at hs
  cases hr
  exact Ajk h hs.2
 ·rename_i h1
  split at hr
  ·rename_i h4
   split at hr
   ·cases hr
   ·rename_i hc
    cases hr
    have:=Q1 (A8.1 h).s
    exact Rv h (by omega)
  ·rename_i h4
   rw [if_neg h1,if_neg h4] at hs
   simp only [Bool.and_eq_true] at hs
   exact Ae0 h hs.1.2 hr
structure Akk (n:D9):Prop where
 t:n.Am.Ac.length≤1000000
 i:n.Ab.Aa.Aj.length≤1000000
 h:n.Ab.holds.length≤1000000
 e:n.Af.length≤1000000
 e1:∀x∈n.Af,x.Ah.length≤1000000
 e2:∀x∈n.Af,∀y∈x.Ah,y.Bi.length≤1000000
 rl:n.Ad.length≤1000000
 r:∀x∈n.Ad,x.Aa.Ao.length≤1000000∧x.Ar.length≤1000000
 d:n.down.length≤1000000
 dq:∀q∈n.down,q.length≤1000000
 u:n.up.length≤1000000
 uq:∀q∈n.up,q.length≤1000000
structure ClN where
 g:Nat
 a1:Option Addr
 c1:Nat
 F1:List Nat
 a2:Option Addr
 c2:Nat
 F2:List Nat
 a3:Option Addr
 c3:Nat
 F3:List Nat
 g6:Nat
 F6:List Nat
 g7:Nat
 F7:List Nat
structure NV where
 a1:Option Addr
 c1:Nat
 F1:List Nat
 a2:Option Addr
 c2:Nat
 F2:List Nat
 a3:Option Addr
 c3:Nat
 F3:List Nat
 a4:Option Addr
 c4:Nat
 F4:List Nat
 a5:Option Addr
 c5:Nat
 F5:List Nat
 a6:Option Addr
 c6:Nat
 F6:List Nat
 a7:Option Addr
 c7:Nat
 F7:List Nat
structure KA where
 k:Nat
 a:Option Addr
 c:Nat
 F:List Nat
theorem Akc (n:D9) (v:Value) (F:List Nat) (hs:Akk n):Fn prog 33 [v] [.isv Le v n F] [] (fun (_:NV)=>True) (fun z=>.agg #[.slice z.a1 n.Am.Ac.length z.c1,.int .i64 n.Ab.Aa.Al,.int .i64 n.Ab.Aa.size,.slice z.a2 n.Ab.Aa.Aj.length z.c2,.int .i64 n.Ab.Ai,.int .i64 n.Ab.quiet,.slice z.a3 n.Ab.holds.length z.c3,.slice z.a4 n.Af.length z.c4,.slice z.a5 n.Ad.length z.c5,.slice z.a6 n.down.length z.c6,.slice z.a7 n.up.length z.c7]) (fun z=>[.ow Bd 3 (.slice z.a1 n.Am.Ac.length z.c1) n.Am.Ac z.F1,.ow Ba 9 (.slice z.a2 n.Ab.Aa.Aj.length z.c2) n.Ab.Aa.Aj z.F2,.ow Bj 134 (.slice z.a3 n.Ab.holds.length z.c3) n.Ab.holds z.F3,.ow Bt 77 (.slice z.a4 n.Af.length z.c4) n.Af z.F4,.ow Bk 84 (.slice z.a5 n.Ad.length z.c5) n.Ad z.F5,.ow (Hi Ak 110) 86 (.slice z.a6 n.down.length z.c6) n.down z.F6,.ow (Hi Ak 110) 86 (.slice z.a7 n.up.length z.c7) n.up z.F7]):=by
 refine enter func33 rfl ntmps33 fun w0=>?_
 refine Di ?_
 rintro a1 c1 F1 a2 c2 F2 a3 c3 F3 a4 c4 F4 a5 c5 F5 a6 c6 F6 a7 c7 F7 rfl l1 l2 l3 l4 l5 l6 l7
 refine Dr n.Ab ?_
 refine go ?_;intros
 refine E6 [1,2] [0,1,6,7] (fun z:ClN=>[(3,Ez z.g 0 0)]) (fun z=>[.row z.g 37 0 [] [.slice z.a1 n.Am.Ac.length z.c1,.int .i64 n.Ab.Aa.Al,.int .i64 n.Ab.Aa.size,.slice z.a2 n.Ab.Aa.Aj.length z.c2,.int .i64 n.Ab.Ai,.int .i64 n.Ab.quiet,.slice z.a3 n.Ab.holds.length z.c3,.slice none 0 0,.slice none 0 0,.slice (some ⟨z.g6,0,none⟩) n.down.length n.down.length,.slice (some ⟨z.g7,0,none⟩) n.up.length n.up.length] [],.ow Bd 3 (.slice z.a1 n.Am.Ac.length z.c1) n.Am.Ac z.F1,.ow Ba 9 (.slice z.a2 n.Ab.Aa.Aj.length z.c2) n.Ab.Aa.Aj z.F2,.ow Bj 134 (.slice z.a3 n.Ab.holds.length z.c3) n.Ab.holds z.F3,.ow (Hi Ak 110) 86 (.slice (some ⟨z.g6,0,none⟩) n.down.length n.down.length) n.down z.F6,.ow (Hi Ak 110) 86 (.slice (some ⟨z.g7,0,none⟩) n.up.length n.up.length) n.up z.F7]) (fun _=>True) ?_ fun z _=>?_
 ·refine As [1] [] ?_
  refine dt 0 ?_
  refine dt 1 ?_
  refine dt 2 ?_
  refine dt 5 ?_
  refine dt 6 ?_
  refine dt 8 ?_
  refine dt 9 ?_
  refine dt 11 ?_
  refine dt 12 ?_
  refine Ov 3 15 (by kernel_rfl) (by rw [List.getElem?_toArray];rfl) (by rw [List.getElem?_toArray];rfl) ?_ ?_
  ·apply At;rfl;kernel_rfl;exact Bf
   refine cn (fun w st=>Qe _ n.Am.Ac F1 w (st.get (p:=.sl Bd (.slice a1 n.Am.Ac.length c1) n.Am.Ac F1) (by exact B8)).2 (by have:=hs.t;omega)) fun b1 d1 G1=>?_
   refine dk ?_
   refine dt 4 ?_
   refine Ov 7 15 (by kernel_rfl) (by rw [List.getElem?_toArray];rfl) (by rw [List.getElem?_toArray];rfl) ?_ ?_
   ·apply At;rfl;kernel_rfl;exact Bf
    refine cf (Yp n.Ab _ _ (by have:=hs.i;omega) (by have:=hs.h;omega)) fun s2 _=>?_
    refine Ap ?_
    refine Su (x:=n.Ab) ?_
    rintro b2 d2 G2 b3 d3 G3 e2 - -
    rw [e2]
    refine dk ?_
    refine Ov 10 15 (by kernel_rfl) (by rw [List.getElem?_toArray];rfl) (by rw [List.getElem?_toArray];rfl) ?_ ?_
    ·apply At;rfl;kernel_rfl;exact Bf
     refine cf (Hz n.down _ _ F6 (by have:=hs.d;omega) (fun q hq=>by have:=hs.dq q hq;omega)) fun s6 _=>?_
     refine Ap ?_
     refine dk ?_
     refine Ov 13 15 (by kernel_rfl) (by rw [List.getElem?_toArray];rfl) (by rw [List.getElem?_toArray];rfl) ?_ ?_
     ·apply At;rfl;kernel_rfl;exact Bf
      refine cf (Hz n.up _ _ F7 (by have:=hs.u;omega) (fun q hq=>by have:=hs.uq q hq;omega)) fun s7 _=>?_
      refine Ap ?_
      refine dk ?_
      refine dt 14 ?_
      refine dO 15 (by kernel_rfl) (by rw [List.getElem?_toArray];rfl) ?_
      apply Ce;rfl;intro _
      refine dk ?_
      refine dO 16 (by kernel_rfl) (by rw [List.getElem?_toArray];rfl) ?_
      apply Cs;rfl;rfl;rfl;(first|exact AggC.s|exact OneC.s);rfl;exact Cu;exact Ct;rfl
      refine dk ?_
      refine dd ?_
      refine Cd (⟨_,b1,d1,G1,b2,d2,G2,b3,d3,G3,_,_,_,_⟩:ClN) trivial
     ·apply Ce;rfl;intro _
      refine dk ?_
      refine dO 13 (by kernel_rfl) (by rw [List.getElem?_toArray];rfl) ?_
      apply At;rfl;kernel_rfl;exact Bf
      refine cf (Hz n.up _ _ F7 (by have:=hs.u;omega) (fun q hq=>by have:=hs.uq q hq;omega)) fun s7 _=>?_
      refine Ap ?_
      refine dk ?_
      refine dt 14 ?_
      refine dO 16 (by kernel_rfl) (by rw [List.getElem?_toArray];rfl) ?_
      apply Cs;rfl;rfl;rfl;(first|exact AggC.s|exact OneC.s);rfl;exact Cu;exact Ct;rfl
      refine dk ?_
      refine dd ?_
      refine Cd (⟨_,b1,d1,G1,b2,d2,G2,b3,d3,G3,_,_,_,_⟩:ClN) trivial
    ·apply Ce;rfl;intro _
     refine dk ?_
     refine dO 10 (by kernel_rfl) (by rw [List.getElem?_toArray];rfl) ?_
     apply At;rfl;kernel_rfl;exact Bf
     refine cf (Hz n.down _ _ F6 (by have:=hs.d;omega) (fun q hq=>by have:=hs.dq q hq;omega)) fun s6 _=>?_
     refine Ap ?_
     refine dk ?_
     refine dO 13 (by kernel_rfl) (by rw [List.getElem?_toArray];rfl) ?_
     apply At;rfl;kernel_rfl;exact Bf
     refine cf (Hz n.up _ _ F7 (by have:=hs.u;omega) (fun q hq=>by have:=hs.uq q hq;omega)) fun s7 _=>?_
     refine Ap ?_
     refine dk ?_
     refine dt 14 ?_
     refine dO 16 (by kernel_rfl) (by rw [List.getElem?_toArray];rfl) ?_
     apply Cs;rfl;rfl;rfl;(first|exact AggC.s|exact OneC.s);rfl;exact Cu;exact Ct;rfl
     refine dk ?_
     refine dd ?_
     refine Cd (⟨_,b1,d1,G1,b2,d2,G2,b3,d3,G3,_,_,_,_⟩:ClN) trivial
   ·apply Ce;rfl;intro _
    refine dk ?_
    refine dO 7 (by kernel_rfl) (by rw [List.getElem?_toArray];rfl) ?_
    apply At;rfl;kernel_rfl;exact Bf
    refine cf (Yp n.Ab _ _ (by have:=hs.i;omega) (by have:=hs.h;omega)) fun s2 _=>?_
    refine Ap ?_
    refine Su (x:=n.Ab) ?_
    rintro b2 d2 G2 b3 d3 G3 e2 - -
    rw [e2]
    refine dk ?_
    refine dO 10 (by kernel_rfl) (by rw [List.getElem?_toArray];rfl) ?_
    apply At;rfl;kernel_rfl;exact Bf
    refine cf (Hz n.down _ _ F6 (by have:=hs.d;omega) (fun q hq=>by have:=hs.dq q hq;omega)) fun s6 _=>?_
    refine Ap ?_
    refine dk ?_
    refine dO 13 (by kernel_rfl) (by rw [List.getElem?_toArray];rfl) ?_
    apply At;rfl;kernel_rfl;exact Bf
    refine cf (Hz n.up _ _ F7 (by have:=hs.u;omega) (fun q hq=>by have:=hs.uq q hq;omega)) fun s7 _=>?_
    refine Ap ?_
    refine dk ?_
    refine dt 14 ?_
    refine dO 16 (by kernel_rfl) (by rw [List.getElem?_toArray];rfl) ?_
    apply Cs;rfl;rfl;rfl;(first|exact AggC.s|exact OneC.s);rfl;exact Cu;exact Ct;rfl
    refine dk ?_
    refine dd ?_
    refine Cd (⟨_,b1,d1,G1,b2,d2,G2,b3,d3,G3,_,_,_,_⟩:ClN) trivial
  ·apply Ce;rfl;intro _
   refine dk ?_
   refine dO 3 (by kernel_rfl) (by rw [List.getElem?_toArray];rfl) ?_
   apply At;rfl;kernel_rfl;exact Bf
   refine cn (fun w st=>Qe _ n.Am.Ac F1 w (st.get (p:=.sl Bd (.slice a1 n.Am.Ac.length c1) n.Am.Ac F1) (by exact B8)).2 (by have:=hs.t;omega)) fun b1 d1 G1=>?_
   refine dk ?_
   refine dt 4 ?_
   refine dO 7 (by kernel_rfl) (by rw [List.getElem?_toArray];rfl) ?_
   apply At;rfl;kernel_rfl;exact Bf
   refine cf (Yp n.Ab _ _ (by have:=hs.i;omega) (by have:=hs.h;omega)) fun s2 _=>?_
   refine Ap ?_
   refine Su (x:=n.Ab) ?_
   rintro b2 d2 G2 b3 d3 G3 e2 - -
   rw [e2]
   refine dk ?_
   refine dO 10 (by kernel_rfl) (by rw [List.getElem?_toArray];rfl) ?_
   apply At;rfl;kernel_rfl;exact Bf
   refine cf (Hz n.down _ _ F6 (by have:=hs.d;omega) (fun q hq=>by have:=hs.dq q hq;omega)) fun s6 _=>?_
   refine Ap ?_
   refine dk ?_
   refine dO 13 (by kernel_rfl) (by rw [List.getElem?_toArray];rfl) ?_
   apply At;rfl;kernel_rfl;exact Bf
   refine cf (Hz n.up _ _ F7 (by have:=hs.u;omega) (fun q hq=>by have:=hs.uq q hq;omega)) fun s7 _=>?_
   refine Ap ?_
   refine dk ?_
   refine dt 14 ?_
   refine dO 16 (by kernel_rfl) (by rw [List.getElem?_toArray];rfl) ?_
   apply Cs;rfl;rfl;rfl;(first|exact AggC.s|exact OneC.s);rfl;exact Cu;exact Ct;rfl
   refine dk ?_
   refine dd ?_
   refine Cd (⟨_,b1,d1,G1,b2,d2,G2,b3,d3,G3,_,_,_,_⟩:ClN) trivial
 have he:=hs.e
 have hr:=hs.rl
 refine Cb Bt 77 ?_
 refine go ?_;intros
 refine Cp [1,2,3,24,25] (fun y:KA=>[(26,.int .i64 (y.k:Nat))]) (fun y=>[.row z.g 37 0 [] [.slice z.a1 n.Am.Ac.length z.c1,.int .i64 n.Ab.Aa.Al,.int .i64 n.Ab.Aa.size,.slice z.a2 n.Ab.Aa.Aj.length z.c2,.int .i64 n.Ab.Ai,.int .i64 n.Ab.quiet,.slice z.a3 n.Ab.holds.length z.c3,.slice y.a (n.Af.take y.k).length y.c,.slice none 0 0,.slice (some ⟨z.g6,0,none⟩) n.down.length n.down.length,.slice (some ⟨z.g7,0,none⟩) n.up.length n.up.length] [],.ow Bt 77 (.slice y.a (n.Af.take y.k).length y.c) (n.Af.take y.k) y.F]) (fun y=>y.k≤n.Af.length) (fun y=>n.Af.length - y.k) ⟨0,none,0,[]⟩ (Nat.zero_le _) fun y hy=>?_
 refine go ?_;intros
 refine Bg rfl (fun h1=>?_) (fun h1=>?_)
 ·have hk:y.k < n.Af.length:=by omega
  have htl:(n.Af.take y.k).length≤1000000:=by rw [List.length_take];omega
  refine O1 (xs:=n.Af) y.k ?_
  rintro hi4 b4 o4 a8 c8 F8 e4 l8
  rw [e4]
  refine E7 n.Af[y.k] ?_
  refine go ?_;intros
  refine As [0,4] [7] ?_
  refine dt 0 ?_
  refine dt 1 ?_
  refine dt 2 ?_
  refine dO 3 (by kernel_rfl) (by rw [List.getElem?_toArray];rfl) ?_
  apply At;rfl;kernel_rfl;exact Bf
  refine cv (fun w st=>Xw _ n.Af[y.k] F8 w (st.get (p:=.isv Bn (.agg #[.int .i64 n.Af[y.k].Ai,.slice a8 n.Af[y.k].Ah.length c8]) n.Af[y.k] F8) (by exact B8)) (by have:=hs.e1 _ (List.getElem_mem hk);omega) (fun x hx=>by have:=hs.e2 _ (List.getElem_mem hk) x hx;omega)) fun v9 F9=>?_
  refine Ha (x:=n.Af[y.k]) ?_
  rintro a9 c9 F10 rfl l9
  refine Fj n.Af[y.k] ?_
  refine dk ?_
  refine dO 4 (by kernel_rfl) (by rw [List.getElem?_toArray];rfl) ?_
  apply Ho;rfl;rfl;rfl;rfl;exact Hl;exact Hg;intro _
  refine dk ?_
  refine dO 5 (by kernel_rfl) (by rw [List.getElem?_toArray];rfl) ?_
  refine Ab3 Rj n.Af[y.k] rfl fun a7 c7 F7=>?_
  refine dk ?_
  refine dt 6 ?_
  refine dO 7 (by kernel_rfl) (by rw [List.getElem?_toArray];rfl) ?_
  apply Cs;rfl;rfl;rfl;(first|exact AggC.s|exact OneC.s);rfl;exact Cu;exact Ct;rfl
  refine Ng ?_
  refine dd ?_
  rw [←List.take_succ_eq_append_getElem hk]
  refine go ?_;intros
  refine Ck ⟨y.k+1,a7,c7,F7⟩ hk (by show n.Af.length - (y.k+1) < n.Af.length - y.k;omega)
 rw [show n.Af.take y.k=n.Af from List.take_of_length_le (by omega)]
 obtain ⟨_,ea,ec,eF⟩:=y
 dsimp only
 refine Cb Bk 84 ?_
 refine go ?_;intros
 refine Cp [2,3,39,40] (fun y:KA=>[(41,.int .i64 (y.k:Nat))]) (fun y=>[.row z.g 37 0 [] [.slice z.a1 n.Am.Ac.length z.c1,.int .i64 n.Ab.Aa.Al,.int .i64 n.Ab.Aa.size,.slice z.a2 n.Ab.Aa.Aj.length z.c2,.int .i64 n.Ab.Ai,.int .i64 n.Ab.quiet,.slice z.a3 n.Ab.holds.length z.c3,.slice ea n.Af.length ec,.slice y.a (n.Ad.take y.k).length y.c,.slice (some ⟨z.g6,0,none⟩) n.down.length n.down.length,.slice (some ⟨z.g7,0,none⟩) n.up.length n.up.length] [],.ow Bk 84 (.slice y.a (n.Ad.take y.k).length y.c) (n.Ad.take y.k) y.F]) (fun y=>y.k≤n.Ad.length) (fun y=>n.Ad.length - y.k) ⟨0,none,0,[]⟩ (Nat.zero_le _) fun y hy=>?_
 refine go ?_;intros
 refine Bg rfl (fun h2=>?_) (fun h2=>?_)
 ·have hk:y.k < n.Ad.length:=by omega
  have htl:(n.Ad.take y.k).length≤1000000:=by rw [List.length_take];omega
  refine Lj (xs:=n.Ad) y.k ?_
  rintro hi5 b5 o5 a8 c8 F8 a9 c9 F9 e5 l8 l9
  rw [e5]
  refine Em n.Ad[y.k] ?_
  refine go ?_;intros
  refine As [0,5] [7] ?_
  refine dt 0 ?_
  refine dt 1 ?_
  refine dt 2 ?_
  refine dO 3 (by kernel_rfl) (by rw [List.getElem?_toArray];rfl) ?_
  apply At;rfl;kernel_rfl;exact Bf
  refine cf (Aki n.Ad[y.k] _ _ (by have:=(hs.r _ (List.getElem_mem hk)).1;omega) (by have:=(hs.r _ (List.getElem_mem hk)).2;omega)) fun s9 _=>?_
  refine Ap ?_
  refine H9 (x:=n.Ad[y.k]) ?_
  rintro a9 c9 G9 a10 c10 G10 e9 l9 l10
  rw [e9]
  refine Js n.Ad[y.k] ?_
  refine dk ?_
  refine dO 4 (by kernel_rfl) (by rw [List.getElem?_toArray];rfl) ?_
  apply Ho;rfl;rfl;rfl;rfl;exact Hl;exact Hg;intro _
  refine dk ?_
  refine dO 5 (by kernel_rfl) (by rw [List.getElem?_toArray];rfl) ?_
  refine Ab3 Qb n.Ad[y.k] rfl fun a7 c7 F7=>?_
  refine dk ?_
  refine dt 6 ?_
  refine dO 7 (by kernel_rfl) (by rw [List.getElem?_toArray];rfl) ?_
  apply Cs;rfl;rfl;rfl;(first|exact AggC.s|exact OneC.s);rfl;exact Cu;exact Ct;rfl
  refine Ng ?_
  refine dd ?_
  rw [←List.take_succ_eq_append_getElem hk]
  refine go ?_;intros
  refine Ck ⟨y.k+1,a7,c7,F7⟩ hk (by show n.Ad.length - (y.k+1) < n.Ad.length - y.k;omega)
 rw [show n.Ad.take y.k=n.Ad from List.take_of_length_le (by omega)]
 refine go ?_;intros
 refine ret ⟨z.a1,z.c1,z.F1,z.a2,z.c2,z.F2,z.a3,z.c3,z.F3,ea,ec,eF,y.a,y.c,y.F,_,_,z.F6,_,_,z.F7⟩ trivial rfl
theorem Iw {n:D9} (h:Ax n=true):(∀x∈n.Af,Be x=true)∧(∀x∈n.Ad,Dg x=true)∧(∀q∈n.down,Eo q=true)∧∀q∈n.up,Eo q=true:=by
 have hG:=A8.1 h
 obtain ⟨q1,q2,q3,q4⟩:=Bm.1 hG.l
 refine ⟨fun x hx=>?_,fun x hx=>?_,fun x hx=>?_,fun x hx=>?_⟩
 all_goals
  obtain ⟨i,hi,rfl⟩:=List.getElem_of_mem hx
  obtain ⟨h1,h2,h3,h4,r⟩:=hG.rn (i:=i) (by omega)
 ·by_cases e:i=0
  ·exact Q9 (r.hz e).1
  ·cases l:Ev n.Am.Ac ((i:Nat):Int)
   ·exact (r.hn e l).1
   ·exact Q9 (r.hf e l).1
 ·by_cases e:i=0
  ·exact Ra (r.hz e).2.1
  ·cases l:Ev n.Am.Ac ((i:Nat):Int)
   ·exact Ra (r.hn e l).2.2
   ·exact (r.hf e l).2.1
 ·exact r.hd
 ·exact r.hu
theorem Do {q:List Av} (h:Eo q=true):q.length≤6∧∀p∈q,Bp p=true:=by
 unfold Eo at h
 simpa [List.all_eq_true] using h
theorem Aak {n:D9} (h:Ax n=true):Akk n:=by
 have hG:=A8.1 h
 have h8:=(Ff hG.t).n1
 obtain ⟨q1,q2,q3,q4⟩:=Bm.1 hG.l
 have hS:=Ll hG.s
 have hl:=hS.l
 have hm:=hS.m
 obtain ⟨e1,e2,e3,e4⟩:=Iw h
 refine ⟨by omega,by omega,by omega,by omega,fun x hx=>?_,fun x hx y hy=>?_,by omega,fun x hx=>⟨?_,?_⟩,by omega,fun q hq=>?_,by omega,fun q hq=>?_⟩
 ·have:=(Fg.1 (e1 x hx)).2.1;omega
 ·have:=(Aa2 (e1 x hx)).2.2 y hy;omega
 ·have:=(Ix (Gg.1 (e2 x hx)).w).1;omega
 ·have:=(Dq.1 (Gg.1 (e2 x hx)).q).2.1;omega
 ·have:=(Do (e3 q hq)).1;omega
 ·have:=(Do (e4 q hq)).1;omega
theorem P4 (n:D9):∀k,(Bc n k).1.Am=n.Am
 | 0=>rfl
 | k+1=>(Uq _ _).1.trans (P4 n k)
theorem O9 {n:D9} {s:Li} {r:D9 × List ByteArray} (hr:By n s=some r):r.1.Am=n.Am:=by
 have hd:∀(n:D9) i p,(Cq n i p).1.Am=n.Am:=fun n i p=>by unfold Cq;split <;> rfl
 have hu:∀(n:D9) i p,(Mt n i p).Am=n.Am:=fun n i p=>by unfold Mt;split <;> rfl
 have hp:(Gm n s).Am=n.Am:=by unfold Gm;split <;> rfl
 unfold By Cy at hr
 split at hr
 ·cases hr;rfl
 split at hr
 ·split at hr
  ·cases hr
  ·cases hr;exact P4 n _
 split at hr
 ·cases hr
 split at hr
 ·cases hr
 split at hr
 ·cases hr;exact (hd _ _ _).trans hp
 split at hr
 ·cases hr;exact (hu _ _ _).trans hp
 ·cases hr;exact hp
theorem Ag2 {n m:D9} (h1:Ax n=true) (h2:Ax m=true) (h:m.Am=n.Am):n.Am.Ac.length=m.Am.Ac.length∧n.Af.length=m.Af.length∧n.Ad.length=m.Ad.length∧n.down.length=m.down.length∧n.up.length=m.up.length:=by
 obtain ⟨p1,p2,p3,p4⟩:=Bm.1 (A8.1 h1).l
 obtain ⟨q1,q2,q3,q4⟩:=Bm.1 (A8.1 h2).l
 rw [h] at q1 q2 q3 q4
 exact ⟨by rw [h],by omega,by omega,by omega,by omega⟩
def Aw (n:D9) (s:Li):D9 × List ByteArray × Bool:=if Ax n && Ij s then (match By n s with
 | some r=>(r.1,r.2,true)
 | none=>(Lh,[],false)) else (Lh,[],false)
theorem Ah9:Ml [-1,0]:=⟨by decide,by decide,fun _=>rfl,fun i h h0=>by
 have:i=1:=by simp at h;omega
 subst this;simp⟩
theorem Afo {l:List Int} (h:Ml l) (h7:l.length≤7) {x:Nat} (hx:x < l.length):Ml (l++[(x:Int)]):=by
 have h0:=h.n0
 refine ⟨by simp;omega,by simp;omega,fun _=>?_,fun i hi hi0=>?_⟩
 ·rw [List.getElem_append_left (by omega)];exact h.z (by omega)
 ·by_cases e:i < l.length
  ·rw [List.getElem_append_left e];exact h.p i e hi0
  ·have:i=l.length:=by simp at hi;omega
   subst this
   rw [List.getElem_append_right (Nat.le_refl _)]
   simp
   omega
theorem Adz {t:Nl} (h:Ml t.Ac):Er t=true:=by
 have h0:=h.n0
 have h1:=h.n1
 unfold Er
 rw [Bool.and_eq_true]
 refine ⟨by unfold Ig;rw [decide_eq_true (by omega),decide_eq_true (by omega)];rfl,Ip fun i hi=>?_⟩
 by_cases e:i=0
 ·subst e;rw [Nq hi,decide_eq_true (h.z hi)]
 ·rw [O8 hi (by omega)]
  obtain ⟨a,b⟩:=h.p i hi (by omega)
  unfold Ig;rw [decide_eq_true (by omega),decide_eq_true (by omega)];rfl
theorem Xn {t:Nl} {f y:Int} (ht:Er t=true) (hs:Cc ⟨⟨f,y,[]⟩,0,0,[]⟩=true):Ax (Pl t f y)=true:=by
 refine A8.2 ⟨ht,hs,Bm.2 ⟨by simp [Pl],by simp [Pl],by simp [Pl],by simp [Pl]⟩,fun i h1 h2 h3 h4=>?_⟩
 refine Lu.2 ?_
 simp only [Pl,List.getElem_replicate]
 exact ⟨rfl,rfl,rfl,fun _=>⟨rfl,rfl,rfl,rfl⟩,fun _ _=>⟨rfl,rfl,rfl⟩,fun _ _=>⟨rfl,rfl,rfl⟩⟩
theorem Afx {t:Nl} {f y:Int} (ht:Ml t.Ac) (h0:0≤f) (h1:f≤65535) (z0:1≤y) (z6:y≤6):C7 t f y=(Pl t f y,true)∧Ax (Pl t f y)=true:=by
 have hg:Cc ⟨⟨f,y,[]⟩,0,0,[]⟩=true:=Eu.2 ⟨D6.2 ⟨⟨h0,h1⟩,⟨z0,z6⟩,by simp;omega,rfl⟩,rfl,rfl,by simp,List.Pairwise.nil⟩
 have hT:=Adz ht
 refine ⟨?_,Xn hT hg⟩
 unfold C7
 rw [hT,hg];rfl
theorem Abg {t:Nl} {f y:Int} (h:(C7 t f y).2=true):Ax (C7 t f y).1=true:=by
 cases a:Er t
 ·unfold C7 at h;rw [a] at h;cases h
 cases b:Cc ⟨⟨f,y,[]⟩,0,0,[]⟩
 ·unfold C7 at h;rw [a,b] at h;cases h
 rw [show C7 t f y=(Pl t f y,true) by unfold C7;rw [a,b];rfl]
 exact Xn a b
def Gf:Bv Int where
 sz:=1
 Ka _ cs z F:=cs=[.int .u8 z]∧0≤z∧z≤255∧F=[]
 len h:=by simp [h.1]
 lt h:=by simp [h.2.2.2]
 frame h _:=h
def S9 (w:World) (g:Nat) (l:List UInt8):Prop :=
 g < w.heap.size∧∀j (hj:j < l.length),w.cell? ⟨g,j,none⟩=some (.int .u8 (l[j].toNat:Int))∧w.frozen? ⟨g,j,none⟩=false
theorem S9.below {w w' g l} (h:S9 w g l) (hb:Below w.heap.size w w'):S9 w' g l :=
 ⟨Nat.lt_of_lt_of_le h.1 hb.size,fun j hj=>⟨(hb.cell (p:=⟨g,j,none⟩) h.1).trans (h.2 j hj).1,(hb.frozen (p:=⟨g,j,none⟩) h.1).trans (h.2 j hj).2⟩⟩
theorem S9.set {w g l} (h:S9 w g l) (k:Nat) (b:UInt8) (hk:k < l.length):S9 (w.setCell ⟨g,k,none⟩ (.int .u8 (b.toNat:Int))) g (l.set k b):=by
 refine ⟨by simp [h.1],fun j hj=>?_⟩
 rw [List.length_set] at hj
 refine ⟨?_,?_⟩
 ·by_cases e:k=j
  ·subst e
   rw [World.cell?_setCell_same _ _ _ (h.2 k hk).1]
   simp
  ·rw [World.cell?_setCell_other _ _ _ _ (by intro q;cases q;exact e rfl),(h.2 j hj).1]
   simp [List.getElem_set,e]
 ·rw [World.frozen?_setCell];exact (h.2 j hj).2
theorem Sl.byte {w v} {xs:List Int} {F} (h:Sl Gf w v xs F):xs.length≤maxLen∧∀k (hk:k < xs.length),(0≤xs[k]∧xs[k]≤255)∧∃b off,v=.slice (some ⟨b,off,none⟩) xs.length (match v with|.slice _ _ c=>c|_=>0)∧b∈F∧w.cell? ⟨b,off+k,none⟩=some (.int .u8 xs[k]):=by
 obtain ⟨a,cap,rfl,hl,⟨rfl,rfl,_⟩|⟨b,off,F',rfl,hne,rfl,hc⟩⟩:=h
 ·exact ⟨by simp,fun k hk=>by simp at hk⟩
 ·refine ⟨by omega,fun k hk=>?_⟩
  obtain ⟨cs,F1,⟨rfl,h0,h1,rfl⟩,hcell,_⟩:=hc.get k hk
  refine ⟨⟨h0,h1⟩,b,off,rfl,by simp,?_⟩
  simpa [Gf] using hcell 0 (by decide)
structure T3 where
 Br:List Int
 a:Option Addr
 c:Nat
 bs:List Nat
def Yj (B:Nat) (w:World) (g:Nat) (F:T3):Prop :=
 ∃(k:Nat) (D7:Int),Hm w g 67 [.slice F.a F.Br.length F.c,.int .i64 k,.int .u64 D7]∧Sl Gf w (.slice F.a F.Br.length F.c) F.Br F.bs∧g ∉ F.bs∧k≤B∧0≤D7∧D7 < 18446744073709551616
theorem Yj.Ky {B w w' g F K} (h:Yj B w g F) (hk:Dy K w w') (h1:g ∉ K) (h2:∀b∈F.bs,b ∉ K):Yj B w' g F:=by
 obtain ⟨k,D7,R,S,hF,h3⟩:=h
 exact ⟨k,D7,R.keepK hk h1,S.Ky hk h2 (by decide),hF,h3⟩
theorem Yj.below {B w w' g F} (h:Yj B w g F) (hb:Below w.heap.size w w'):Yj B w' g F:=by
 obtain ⟨k,D7,R,S,hF,h3⟩:=h
 exact ⟨k,D7,R.below hb,S.below (by decide) hb,hF,h3⟩
theorem Yj.mono {B B' w g F} (h:Yj B w g F) (hb:B≤B'):Yj B' w g F:=by
 obtain ⟨k,D7,R,S,hF,h3,h4⟩:=h
 exact ⟨k,D7,R,S,hF,by omega,h4⟩
theorem Yj.lt {B w g F} (h:Yj B w g F):g < w.heap.size:=by
 obtain ⟨k,D7,R,_⟩:=h;exact R.lt
def Arz (B g:Nat) (F:T3) (w:World) (e:Ending) (w':World):Prop:=∃r:Nat,e=.returned (.int .i64 r)∧r≤255∧Yj (B+1) w' g F∧Dy [g] w w'
theorem Alq (B g:Nat) (F:T3) (w:World) (h:Yj B w g F) (hB0:B≤1099511627776) :
  Calls prog 111 #[.pointer (some ⟨g,0,none⟩)] w (Arz B g F w):=by
 obtain ⟨Br,a,c,F⟩:=F
 obtain ⟨k,D7,R,S,hF,h2,h3,h4⟩:=h
 dsimp only at R S hF
 have hl:=S.byte.1
 unfold maxLen at hl
 have hlt:=S.lt (by decide)
 by_cases hk:k < Br.length
 ·obtain ⟨⟨hz0,hz1⟩,b,off,hv,hbF,hcell⟩:=S.byte.2 k hk
  simp only [Value.slice.injEq] at hv
  obtain ⟨rfl, -, -⟩:=hv
  generalize Br[k]=z at *
  have hbg:b≠g:=fun e=>hF (e▸hbF)
  have hcl:=fun w' (hb:Below w.heap.size w w')=>kc hb hcell
  replace hcl:=Lib.hid hcl
  clear hcell
  have hB:=Below.refl w.heap.size w
  go_enter func111,ntmps111
  go_wp2_with fail
  refine C4.start (S:=(fun w'=>w'.cell? ⟨g,0,none⟩=some (.slice (some ⟨b,off,none⟩) Br.length c)∧w'.cell? ⟨g,1,none⟩=some (.int .i64 k)∧w'.cell? ⟨g,2,none⟩=some (.int .u64 D7)∧w'.cell? ⟨b,off+k,none⟩=some (.int .u8 z))) (X:=(fun _=>false)) (by kernel_rfl) ?_
  have al:Below w.heap.size w w.drew:=Ek (Below.refl _ _) 1
  have hs_w1:=al.size
  replace R:=R.below al
  replace S:=S.below (by decide) al
  replace hB:=tr hB al (Nat.le_refl _)
  generalize w.drew=w1 at *
  clear al
  have hS:(fun w'=>w'.cell? ⟨g,0,none⟩=some (.slice (some ⟨b,off,none⟩) Br.length c)∧w'.cell? ⟨g,1,none⟩=some (.int .i64 k)∧w'.cell? ⟨g,2,none⟩=some (.int .u64 D7)∧w'.cell? ⟨b,off+k,none⟩=some (.int .u8 z)) w1:=⟨R.cells 0,R.cells 1,R.cells 2,hcl.out _ hB⟩
  refine C4.take (i:=0) (oi:=_) (v:=?_) (by rw [List.getElem?_toArray];rfl) (by kernel_rfl) (by kernel_rfl) (by kernel_rfl) (by kernel_rfl) (by kernel_rfl) (by exact fun _ _ _ h=>h) (Or.inl ⟨by rfl,?_⟩) hS ?_
  rotate_left
  ·(intro wS hSw;(try dsimp only at hSw);go_simp;try with_reducible rfl)
  try simp only [Act.put,List.setIfInBounds_toArray,List.set_cons_zero,List.set_cons_succ]
  refine C4.take (i:=1) (oi:=_) (v:=?_) (by rw [List.getElem?_toArray];rfl) (by kernel_rfl) (by kernel_rfl) (by kernel_rfl) (by kernel_rfl) (by kernel_rfl) (by exact fun _ _ _ h=>h) (Or.inl ⟨by rfl,?_⟩) hS ?_
  rotate_left
  ·(intro wS hSw;(try dsimp only at hSw);go_simp;try with_reducible rfl)
  try simp only [Act.put,List.setIfInBounds_toArray,List.set_cons_zero,List.set_cons_succ]
  refine C4.take (i:=2) (oi:=_) (v:=?_) (by rw [List.getElem?_toArray];rfl) (by kernel_rfl) (by kernel_rfl) (by kernel_rfl) (by kernel_rfl) (by kernel_rfl) (by exact fun _ _ _ h=>h) (Or.inl ⟨by rfl,?_⟩) hS ?_
  rotate_left
  ·(intro wS hSw;(try dsimp only at hSw);go_simp;try with_reducible rfl)
  try simp only [Act.put,List.setIfInBounds_toArray,List.set_cons_zero,List.set_cons_succ]
  refine C4.take (i:=3) (oi:=_) (v:=?_) (by rw [List.getElem?_toArray];rfl) (by kernel_rfl) (by kernel_rfl) (by kernel_rfl) (by kernel_rfl) (by kernel_rfl) (by exact fun _ _ _ h=>h) (Or.inl ⟨by rfl,?_⟩) hS ?_
  rotate_left
  ·(intro wS hSw;(try dsimp only at hSw);go_simp;try with_reducible rfl)
  try simp only [Act.put,List.setIfInBounds_toArray,List.set_cons_zero,List.set_cons_succ]
  refine C4.take (i:=4) (oi:=_) (v:=?_) (by rw [List.getElem?_toArray];rfl) (by kernel_rfl) (by kernel_rfl) (by kernel_rfl) (by kernel_rfl) (by kernel_rfl) (by exact fun _ _ _ h=>h) (Or.inl ⟨by rfl,?_⟩) hS ?_
  rotate_left
  ·(intro wS hSw;(try dsimp only at hSw);go_simp;try with_reducible rfl)
  try simp only [Act.put,List.setIfInBounds_toArray,List.set_cons_zero,List.set_cons_succ]
  refine C4.take (i:=5) (oi:=_) (v:=?_) (by rw [List.getElem?_toArray];rfl) (by kernel_rfl) (by kernel_rfl) (by kernel_rfl) (by kernel_rfl) (by kernel_rfl) (by exact fun _ _ _ h=>h) (Or.inl ⟨by rfl,?_⟩) hS ?_
  rotate_left
  ·(intro wS hSw;(try dsimp only at hSw);go_simp;try with_reducible rfl)
  try simp only [Act.put,List.setIfInBounds_toArray,List.set_cons_zero,List.set_cons_succ]
  refine C4.take (i:=6) (oi:=_) (v:=?_) (by rw [List.getElem?_toArray];rfl) (by kernel_rfl) (by kernel_rfl) (by kernel_rfl) (by kernel_rfl) (by kernel_rfl) (by exact fun _ _ _ h=>h) (Or.inl ⟨by rfl,?_⟩) hS ?_
  rotate_left
  ·(intro wS hSw;(try dsimp only at hSw);go_simp;try with_reducible rfl)
  try simp only [Act.put,List.setIfInBounds_toArray,List.set_cons_zero,List.set_cons_succ]
  refine C4.take (i:=7) (oi:=_) (v:=?_) (by rw [List.getElem?_toArray];rfl) (by kernel_rfl) (by kernel_rfl) (by kernel_rfl) (by kernel_rfl) (by kernel_rfl) (by exact fun _ _ _ h=>h) (Or.inl ⟨by rfl,?_⟩) hS ?_
  rotate_left
  ·(intro wS hSw;(try dsimp only at hSw);go_simp;try with_reducible rfl)
  try simp only [Act.put,List.setIfInBounds_toArray,List.set_cons_zero,List.set_cons_succ]
  refine C4.take (i:=8) (oi:=_) (v:=?_) (by rw [List.getElem?_toArray];rfl) (by kernel_rfl) (by kernel_rfl) (by kernel_rfl) (by kernel_rfl) (by kernel_rfl) (by exact fun _ _ _ h=>h) (Or.inl ⟨by rfl,?_⟩) hS ?_
  rotate_left
  ·(intro wS hSw;(try dsimp only at hSw);go_simp;try with_reducible rfl)
  try simp only [Act.put,List.setIfInBounds_toArray,List.set_cons_zero,List.set_cons_succ]
  refine C4.take (i:=9) (oi:=_) (v:=?_) (by rw [List.getElem?_toArray];rfl) (by kernel_rfl) (by kernel_rfl) (by kernel_rfl) (by kernel_rfl) (by kernel_rfl) (by exact fun _ _ _ h=>h) (Or.inl ⟨by rfl,?_⟩) hS ?_
  rotate_left
  ·(intro wS hSw;(try dsimp only at hSw);go_simp;try with_reducible rfl)
  try simp only [Act.put,List.setIfInBounds_toArray,List.set_cons_zero,List.set_cons_succ]
  refine C4.done (by kernel_rfl) ?_ _
  (try clear hS)
  have c_R:=R.cells;have f_R:=R.frozens
  go_wp2_with fail
  clear c_R f_R
  rename_i K0 hK0
  refine C4.start (S:=(fun w'=>w'.cell? ⟨g,0,none⟩=some (.slice (some ⟨b,off,none⟩) Br.length c)∧w'.cell? ⟨g,1,none⟩=some (.int .i64 k)∧w'.cell? ⟨g,2,none⟩=some (.int .u64 D7)∧w'.cell? ⟨b,off+k,none⟩=some (.int .u8 z))) (X:=(fun _=>false)) (by kernel_rfl) ?_
  have al:Below w1.heap.size w1 w1.drew:=Ek (Below.refl _ _) 1
  have hs_w2:=al.size
  replace R:=R.below al
  replace S:=S.below (by decide) al
  replace hB:=tr hB al (Nat.le_refl _)
  generalize w1.drew=w2 at *
  clear al
  have hS:(fun w'=>w'.cell? ⟨g,0,none⟩=some (.slice (some ⟨b,off,none⟩) Br.length c)∧w'.cell? ⟨g,1,none⟩=some (.int .i64 k)∧w'.cell? ⟨g,2,none⟩=some (.int .u64 D7)∧w'.cell? ⟨b,off+k,none⟩=some (.int .u8 z)) w2:=⟨R.cells 0,R.cells 1,R.cells 2,hcl.out _ hB⟩
  refine C4.take (i:=0) (oi:=_) (v:=?_) (by rw [List.getElem?_toArray];rfl) (by kernel_rfl) (by kernel_rfl) (by kernel_rfl) (by kernel_rfl) (by kernel_rfl) (by exact fun _ _ _ h=>h) (Or.inl ⟨by rfl,?_⟩) hS ?_
  rotate_left
  ·(intro wS hSw;(try dsimp only at hSw);go_simp;try with_reducible rfl)
  try simp only [Act.put,List.setIfInBounds_toArray,List.set_cons_zero,List.set_cons_succ]
  refine C4.take (i:=1) (oi:=_) (v:=?_) (by rw [List.getElem?_toArray];rfl) (by kernel_rfl) (by kernel_rfl) (by kernel_rfl) (by kernel_rfl) (by kernel_rfl) (by exact fun _ _ _ h=>h) (Or.inl ⟨by rfl,?_⟩) hS ?_
  rotate_left
  ·(intro wS hSw;(try dsimp only at hSw);go_simp;try with_reducible rfl)
  try simp only [Act.put,List.setIfInBounds_toArray,List.set_cons_zero,List.set_cons_succ]
  refine C4.take (i:=2) (oi:=_) (v:=?_) (by rw [List.getElem?_toArray];rfl) (by kernel_rfl) (by kernel_rfl) (by kernel_rfl) (by kernel_rfl) (by kernel_rfl) (by exact fun _ _ _ h=>h) (Or.inl ⟨by rfl,?_⟩) hS ?_
  rotate_left
  ·(intro wS hSw;(try dsimp only at hSw);go_simp;try with_reducible rfl)
  try simp only [Act.put,List.setIfInBounds_toArray,List.set_cons_zero,List.set_cons_succ]
  refine C4.take (i:=3) (oi:=_) (v:=?_) (by rw [List.getElem?_toArray];rfl) (by kernel_rfl) (by kernel_rfl) (by kernel_rfl) (by kernel_rfl) (by kernel_rfl) (by exact fun _ _ _ h=>h) (Or.inl ⟨by rfl,?_⟩) hS ?_
  rotate_left
  ·(intro wS hSw;(try dsimp only at hSw);go_simp;try with_reducible rfl)
  try simp only [Act.put,List.setIfInBounds_toArray,List.set_cons_zero,List.set_cons_succ]
  refine C4.take (i:=4) (oi:=_) (v:=?_) (by rw [List.getElem?_toArray];rfl) (by kernel_rfl) (by kernel_rfl) (by kernel_rfl) (by kernel_rfl) (by kernel_rfl) (by exact fun _ _ _ h=>h) (Or.inl ⟨by rfl,?_⟩) hS ?_
  rotate_left
  ·(intro wS hSw;(try dsimp only at hSw);go_simp;try with_reducible rfl)
  try simp only [Act.put,List.setIfInBounds_toArray,List.set_cons_zero,List.set_cons_succ]
  refine C4.take (i:=5) (oi:=_) (v:=?_) (by rw [List.getElem?_toArray];rfl) (by kernel_rfl) (by kernel_rfl) (by kernel_rfl) (by kernel_rfl) (by kernel_rfl) (by exact fun _ _ _ h=>h) (Or.inl ⟨by rfl,?_⟩) hS ?_
  rotate_left
  ·(intro wS hSw;(try dsimp only at hSw);go_simp;try with_reducible rfl)
  try simp only [Act.put,List.setIfInBounds_toArray,List.set_cons_zero,List.set_cons_succ]
  refine C4.take (i:=6) (oi:=_) (v:=?_) (by rw [List.getElem?_toArray];rfl) (by kernel_rfl) (by kernel_rfl) (by kernel_rfl) (by kernel_rfl) (by kernel_rfl) (by exact fun _ _ _ h=>h) (Or.inl ⟨by rfl,?_⟩) hS ?_
  rotate_left
  ·(intro wS hSw;(try dsimp only at hSw);go_simp;try with_reducible rfl)
  try simp only [Act.put,List.setIfInBounds_toArray,List.set_cons_zero,List.set_cons_succ]
  refine C4.take (i:=7) (oi:=_) (v:=?_) (by rw [List.getElem?_toArray];rfl) (by kernel_rfl) (by kernel_rfl) (by kernel_rfl) (by kernel_rfl) (by kernel_rfl) (by exact fun _ _ _ h=>h) (Or.inl ⟨by rfl,?_⟩) hS ?_
  rotate_left
  ·(intro wS hSw;(try dsimp only at hSw);go_simp;try with_reducible rfl)
  try simp only [Act.put,List.setIfInBounds_toArray,List.set_cons_zero,List.set_cons_succ]
  refine C4.take (i:=8) (oi:=_) (v:=?_) (by rw [List.getElem?_toArray];rfl) (by kernel_rfl) (by kernel_rfl) (by kernel_rfl) (by kernel_rfl) (by kernel_rfl) (by exact fun _ _ _ h=>h) (Or.inl ⟨by rfl,?_⟩) hS ?_
  rotate_left
  ·(intro wS hSw;(try dsimp only at hSw);go_simp;try with_reducible rfl)
  try simp only [Act.put,List.setIfInBounds_toArray,List.set_cons_zero,List.set_cons_succ]
  refine C4.take (i:=9) (oi:=_) (v:=?_) (by rw [List.getElem?_toArray];rfl) (by kernel_rfl) (by kernel_rfl) (by kernel_rfl) (by kernel_rfl) (by kernel_rfl) (by exact fun _ _ _ h=>h) (Or.inl ⟨by rfl,?_⟩) hS ?_
  rotate_left
  ·(intro wS hSw;(try dsimp only at hSw);go_simp;try with_reducible rfl)
  try simp only [Act.put,List.setIfInBounds_toArray,List.set_cons_zero,List.set_cons_succ]
  refine C4.take (i:=10) (oi:=_) (v:=?_) (by rw [List.getElem?_toArray];rfl) (by kernel_rfl) (by kernel_rfl) (by kernel_rfl) (by kernel_rfl) (by kernel_rfl) (by exact fun _ _ _ h=>h) (Or.inl ⟨by rfl,?_⟩) hS ?_
  rotate_left
  ·(intro wS hSw;(try dsimp only at hSw);go_simp;try with_reducible rfl)
  try simp only [Act.put,List.setIfInBounds_toArray,List.set_cons_zero,List.set_cons_succ]
  refine C4.only (i:=11) (o:=_) (by kernel_rfl) (by rw [List.getElem?_toArray];rfl) (fun K hK=>?_)
  try go_simp
  clear hS
  have hS:(fun w'=>w'.cell? ⟨g,0,none⟩=some (.slice (some ⟨b,off,none⟩) Br.length c)∧w'.cell? ⟨g,1,none⟩=some (.int .i64 k)∧w'.cell? ⟨g,2,none⟩=some (.int .u64 D7)∧w'.cell? ⟨b,off+k,none⟩=some (.int .u8 z)) w2:=⟨R.cells 0,R.cells 1,R.cells 2,hcl.out _ hB⟩
  refine hK.out _ _ (fun _=>hS) ?_
  clear hK K
  try simp only [Act.put,List.setIfInBounds_toArray,List.set_cons_zero,List.set_cons_succ]
  refine C4.done (by kernel_rfl) ?_ _
  (try clear hS)
  refine hK0 _ _ ?_
  clear hK0 K0
  have c_R:=R.cells;have f_R:=R.frozens
  go_wp2_with fail
  clear c_R f_R
  have n_K:Dy [g] w ((w2.setCell ⟨g,1,none⟩ (.int .i64 ((k:Int)+1))).setCell ⟨g,2,none⟩ (.int .u64 (IntKind.u64.wrap (IntKind.u64.wrap (IntKind.u64.wrap (D7 * 6364136223846793005)+z)+840840)))):=((Dy.ofBelow hB).setCell (p:=⟨g,1,none⟩) (by simp) _).setCell (p:=⟨g,2,none⟩) (by simp) _
  have n_R:Hm ((w2.setCell ⟨g,1,none⟩ (.int .i64 ((k:Int)+1))).setCell ⟨g,2,none⟩ (.int .u64 (IntKind.u64.wrap (IntKind.u64.wrap (IntKind.u64.wrap (D7 * 6364136223846793005)+z)+840840)))) g 67 [.slice (some ⟨b,off,none⟩) Br.length c,.int .i64 ((k+1:Nat):Int),.int .u64 (IntKind.u64.wrap (IntKind.u64.wrap (IntKind.u64.wrap (D7 * 6364136223846793005)+z)+840840))]:=by simpa using ((R.set 1 (.int .i64 ((k:Int)+1))).set 2 (.int .u64 (IntKind.u64.wrap (IntKind.u64.wrap (IntKind.u64.wrap (D7 * 6364136223846793005)+z)+840840))))
  have n_S:Sl Gf ((w2.setCell ⟨g,1,none⟩ (.int .i64 ((k:Int)+1))).setCell ⟨g,2,none⟩ (.int .u64 (IntKind.u64.wrap (IntKind.u64.wrap (IntKind.u64.wrap (D7 * 6364136223846793005)+z)+840840)))) (Value.slice (some ⟨b,off,none⟩) Br.length c) Br F:=S.frame (fun b hb=>by have:b≠g:=fun e=>hF (e▸hb);repeat rw [Below.heap_setCell _ _ _ _ (by simp <;> omega)])
  have hs0:0≤(IntKind.u64.wrap (IntKind.u64.wrap (IntKind.u64.wrap (D7 * 6364136223846793005)+z)+840840))∧(IntKind.u64.wrap (IntKind.u64.wrap (IntKind.u64.wrap (D7 * 6364136223846793005)+z)+840840)) < 18446744073709551616:=by rw [IntKind.wrap_u64];omega
  clear R S hB
  generalize (IntKind.u64.wrap (IntKind.u64.wrap (IntKind.u64.wrap (D7 * 6364136223846793005)+z)+840840))=sd at *
  obtain ⟨hs0,hs1⟩:=hs0
  generalize ((w2.setCell ⟨g,1,none⟩ (.int .i64 ((k:Int)+1))).setCell ⟨g,2,none⟩ (.int .u64 sd))=w3 at *
  have R:=n_R;clear n_R
  have S:=n_S;clear n_S
  rename_i K0 hK0
  refine C4.start (S:=(fun w'=>w'.cell? ⟨g,0,none⟩=some (.slice (some ⟨b,off,none⟩) Br.length c)∧w'.cell? ⟨g,1,none⟩=some (.int .i64 ((k+1:Nat):Int))∧w'.cell? ⟨g,2,none⟩=some (.int .u64 sd))) (X:=(fun _=>false)) (by kernel_rfl) ?_
  have al:Below w3.heap.size w3 w3.drew:=Ek (Below.refl _ _) 1
  have hs_w4:=al.size
  replace R:=R.below al
  replace S:=S.below (by decide) al
  have hB:=al
  generalize w3.drew=w4 at *
  clear al
  have hS:(fun w'=>w'.cell? ⟨g,0,none⟩=some (.slice (some ⟨b,off,none⟩) Br.length c)∧w'.cell? ⟨g,1,none⟩=some (.int .i64 ((k+1:Nat):Int))∧w'.cell? ⟨g,2,none⟩=some (.int .u64 sd)) w4:=⟨R.cells 0,R.cells 1,R.cells 2⟩
  refine C4.take (i:=0) (oi:=_) (v:=?_) (by rw [List.getElem?_toArray];rfl) (by kernel_rfl) (by kernel_rfl) (by kernel_rfl) (by kernel_rfl) (by kernel_rfl) (by exact fun _ _ _ h=>h) (Or.inl ⟨by rfl,?_⟩) hS ?_
  rotate_left
  ·(intro wS hSw;(try dsimp only at hSw);go_simp;try with_reducible rfl)
  try simp only [Act.put,List.setIfInBounds_toArray,List.set_cons_zero,List.set_cons_succ]
  refine C4.take (i:=1) (oi:=_) (v:=?_) (by rw [List.getElem?_toArray];rfl) (by kernel_rfl) (by kernel_rfl) (by kernel_rfl) (by kernel_rfl) (by kernel_rfl) (by exact fun _ _ _ h=>h) (Or.inl ⟨by rfl,?_⟩) hS ?_
  rotate_left
  ·(intro wS hSw;(try dsimp only at hSw);go_simp;try with_reducible rfl)
  try simp only [Act.put,List.setIfInBounds_toArray,List.set_cons_zero,List.set_cons_succ]
  refine C4.take (i:=2) (oi:=_) (v:=?_) (by rw [List.getElem?_toArray];rfl) (by kernel_rfl) (by kernel_rfl) (by kernel_rfl) (by kernel_rfl) (by kernel_rfl) (by exact fun _ _ _ h=>h) (Or.inl ⟨by rfl,?_⟩) hS ?_
  rotate_left
  ·(intro wS hSw;(try dsimp only at hSw);go_simp;try with_reducible rfl)
  try simp only [Act.put,List.setIfInBounds_toArray,List.set_cons_zero,List.set_cons_succ]
  refine C4.take (i:=3) (oi:=_) (v:=?_) (by rw [List.getElem?_toArray];rfl) (by kernel_rfl) (by kernel_rfl) (by kernel_rfl) (by kernel_rfl) (by kernel_rfl) (by exact fun _ _ _ h=>h) (Or.inl ⟨by rfl,?_⟩) hS ?_
  rotate_left
  ·(intro wS hSw;(try dsimp only at hSw);go_simp;try with_reducible rfl)
  try simp only [Act.put,List.setIfInBounds_toArray,List.set_cons_zero,List.set_cons_succ]
  refine C4.take (i:=4) (oi:=_) (v:=?_) (by rw [List.getElem?_toArray];rfl) (by kernel_rfl) (by kernel_rfl) (by kernel_rfl) (by kernel_rfl) (by kernel_rfl) (by exact fun _ _ _ h=>h) (Or.inl ⟨by rfl,?_⟩) hS ?_
  rotate_left
  ·(intro wS hSw;(try dsimp only at hSw);go_simp;try with_reducible rfl)
  try simp only [Act.put,List.setIfInBounds_toArray,List.set_cons_zero,List.set_cons_succ]
  refine C4.take (i:=5) (oi:=_) (v:=?_) (by rw [List.getElem?_toArray];rfl) (by kernel_rfl) (by kernel_rfl) (by kernel_rfl) (by kernel_rfl) (by kernel_rfl) (by exact fun _ _ _ h=>h) (Or.inl ⟨by rfl,?_⟩) hS ?_
  rotate_left
  ·(intro wS hSw;(try dsimp only at hSw);go_simp;try with_reducible rfl)
  try simp only [Act.put,List.setIfInBounds_toArray,List.set_cons_zero,List.set_cons_succ]
  refine C4.take (i:=6) (oi:=_) (v:=?_) (by rw [List.getElem?_toArray];rfl) (by kernel_rfl) (by kernel_rfl) (by kernel_rfl) (by kernel_rfl) (by kernel_rfl) (by exact fun _ _ _ h=>h) (Or.inl ⟨by rfl,?_⟩) hS ?_
  rotate_left
  ·(intro wS hSw;(try dsimp only at hSw);go_simp;try with_reducible rfl)
  try simp only [Act.put,List.setIfInBounds_toArray,List.set_cons_zero,List.set_cons_succ]
  refine C4.take (i:=7) (oi:=_) (v:=?_) (by rw [List.getElem?_toArray];rfl) (by kernel_rfl) (by kernel_rfl) (by kernel_rfl) (by kernel_rfl) (by kernel_rfl) (by exact fun _ _ _ h=>h) (Or.inl ⟨by rfl,?_⟩) hS ?_
  rotate_left
  ·(intro wS hSw;(try dsimp only at hSw);go_simp;try with_reducible rfl)
  try simp only [Act.put,List.setIfInBounds_toArray,List.set_cons_zero,List.set_cons_succ]
  refine C4.take (i:=8) (oi:=_) (v:=?_) (by rw [List.getElem?_toArray];rfl) (by kernel_rfl) (by kernel_rfl) (by kernel_rfl) (by kernel_rfl) (by kernel_rfl) (by exact fun _ _ _ h=>h) (Or.inl ⟨by rfl,?_⟩) hS ?_
  rotate_left
  ·(intro wS hSw;(try dsimp only at hSw);go_simp;try with_reducible rfl)
  try simp only [Act.put,List.setIfInBounds_toArray,List.set_cons_zero,List.set_cons_succ]
  refine C4.take (i:=9) (oi:=_) (v:=?_) (by rw [List.getElem?_toArray];rfl) (by kernel_rfl) (by kernel_rfl) (by kernel_rfl) (by kernel_rfl) (by kernel_rfl) (by exact fun _ _ _ h=>h) (Or.inl ⟨by rfl,?_⟩) hS ?_
  rotate_left
  ·(intro wS hSw;(try dsimp only at hSw);go_simp;try with_reducible rfl)
  try simp only [Act.put,List.setIfInBounds_toArray,List.set_cons_zero,List.set_cons_succ]
  refine C4.done (by kernel_rfl) ?_ _
  (try clear hS)
  refine hK0 _ _ ?_
  clear hK0 K0
  have n_K2:=n_K.trans (Dy.ofBelow hB)
  have c_R:=R.cells;have f_R:=R.frozens
  go_wp2_with fail
  refine bodyPost_ret (v:=.int .i64 (IntKind.i64.wrap z)) ?_ rfl ?_
  ·simp [results,results111,go_sem]
  ·refine ⟨z.toNat,?_,by omega,⟨k+1,sd,R,S,hF,by omega,hs0,hs1⟩,n_K2⟩
   rw [show IntKind.i64.wrap z=((z.toNat:Nat):Int) from by rw [IntKind.wrap_i64];omega]
 ·have hB:=Below.refl w.heap.size w
  go_enter func111,ntmps111
  go_wp2_with fail
  refine C4.start (S:=(fun w'=>w'.cell? ⟨g,0,none⟩=some (.slice a Br.length c)∧w'.cell? ⟨g,1,none⟩=some (.int .i64 k)∧w'.cell? ⟨g,2,none⟩=some (.int .u64 D7))) (X:=(fun _=>false)) (by kernel_rfl) ?_
  have al:Below w.heap.size w w.drew:=Ek (Below.refl _ _) 1
  have hs_w5:=al.size
  replace R:=R.below al
  replace S:=S.below (by decide) al
  replace hB:=tr hB al (Nat.le_refl _)
  generalize w.drew=w5 at *
  clear al
  have hS:(fun w'=>w'.cell? ⟨g,0,none⟩=some (.slice a Br.length c)∧w'.cell? ⟨g,1,none⟩=some (.int .i64 k)∧w'.cell? ⟨g,2,none⟩=some (.int .u64 D7)) w5:=⟨R.cells 0,R.cells 1,R.cells 2⟩
  refine C4.take (i:=0) (oi:=_) (v:=?_) (by rw [List.getElem?_toArray];rfl) (by kernel_rfl) (by kernel_rfl) (by kernel_rfl) (by kernel_rfl) (by kernel_rfl) (by exact fun _ _ _ h=>h) (Or.inl ⟨by rfl,?_⟩) hS ?_
  rotate_left
  ·(intro wS hSw;(try dsimp only at hSw);go_simp;try with_reducible rfl)
  try simp only [Act.put,List.setIfInBounds_toArray,List.set_cons_zero,List.set_cons_succ]
  refine C4.take (i:=1) (oi:=_) (v:=?_) (by rw [List.getElem?_toArray];rfl) (by kernel_rfl) (by kernel_rfl) (by kernel_rfl) (by kernel_rfl) (by kernel_rfl) (by exact fun _ _ _ h=>h) (Or.inl ⟨by rfl,?_⟩) hS ?_
  rotate_left
  ·(intro wS hSw;(try dsimp only at hSw);go_simp;try with_reducible rfl)
  try simp only [Act.put,List.setIfInBounds_toArray,List.set_cons_zero,List.set_cons_succ]
  refine C4.take (i:=2) (oi:=_) (v:=?_) (by rw [List.getElem?_toArray];rfl) (by kernel_rfl) (by kernel_rfl) (by kernel_rfl) (by kernel_rfl) (by kernel_rfl) (by exact fun _ _ _ h=>h) (Or.inl ⟨by rfl,?_⟩) hS ?_
  rotate_left
  ·(intro wS hSw;(try dsimp only at hSw);go_simp;try with_reducible rfl)
  try simp only [Act.put,List.setIfInBounds_toArray,List.set_cons_zero,List.set_cons_succ]
  refine C4.take (i:=3) (oi:=_) (v:=?_) (by rw [List.getElem?_toArray];rfl) (by kernel_rfl) (by kernel_rfl) (by kernel_rfl) (by kernel_rfl) (by kernel_rfl) (by exact fun _ _ _ h=>h) (Or.inl ⟨by rfl,?_⟩) hS ?_
  rotate_left
  ·(intro wS hSw;(try dsimp only at hSw);go_simp;try with_reducible rfl)
  try simp only [Act.put,List.setIfInBounds_toArray,List.set_cons_zero,List.set_cons_succ]
  refine C4.take (i:=4) (oi:=_) (v:=?_) (by rw [List.getElem?_toArray];rfl) (by kernel_rfl) (by kernel_rfl) (by kernel_rfl) (by kernel_rfl) (by kernel_rfl) (by exact fun _ _ _ h=>h) (Or.inl ⟨by rfl,?_⟩) hS ?_
  rotate_left
  ·(intro wS hSw;(try dsimp only at hSw);go_simp;try with_reducible rfl)
  try simp only [Act.put,List.setIfInBounds_toArray,List.set_cons_zero,List.set_cons_succ]
  refine C4.take (i:=5) (oi:=_) (v:=?_) (by rw [List.getElem?_toArray];rfl) (by kernel_rfl) (by kernel_rfl) (by kernel_rfl) (by kernel_rfl) (by kernel_rfl) (by exact fun _ _ _ h=>h) (Or.inl ⟨by rfl,?_⟩) hS ?_
  rotate_left
  ·(intro wS hSw;(try dsimp only at hSw);go_simp;try with_reducible rfl)
  try simp only [Act.put,List.setIfInBounds_toArray,List.set_cons_zero,List.set_cons_succ]
  refine C4.take (i:=6) (oi:=_) (v:=?_) (by rw [List.getElem?_toArray];rfl) (by kernel_rfl) (by kernel_rfl) (by kernel_rfl) (by kernel_rfl) (by kernel_rfl) (by exact fun _ _ _ h=>h) (Or.inl ⟨by rfl,?_⟩) hS ?_
  rotate_left
  ·(intro wS hSw;(try dsimp only at hSw);go_simp;try with_reducible rfl)
  try simp only [Act.put,List.setIfInBounds_toArray,List.set_cons_zero,List.set_cons_succ]
  refine C4.take (i:=7) (oi:=_) (v:=?_) (by rw [List.getElem?_toArray];rfl) (by kernel_rfl) (by kernel_rfl) (by kernel_rfl) (by kernel_rfl) (by kernel_rfl) (by exact fun _ _ _ h=>h) (Or.inl ⟨by rfl,?_⟩) hS ?_
  rotate_left
  ·(intro wS hSw;(try dsimp only at hSw);go_simp;try with_reducible rfl)
  try simp only [Act.put,List.setIfInBounds_toArray,List.set_cons_zero,List.set_cons_succ]
  refine C4.take (i:=8) (oi:=_) (v:=?_) (by rw [List.getElem?_toArray];rfl) (by kernel_rfl) (by kernel_rfl) (by kernel_rfl) (by kernel_rfl) (by kernel_rfl) (by exact fun _ _ _ h=>h) (Or.inl ⟨by rfl,?_⟩) hS ?_
  rotate_left
  ·(intro wS hSw;(try dsimp only at hSw);go_simp;try with_reducible rfl)
  try simp only [Act.put,List.setIfInBounds_toArray,List.set_cons_zero,List.set_cons_succ]
  refine C4.take (i:=9) (oi:=_) (v:=?_) (by rw [List.getElem?_toArray];rfl) (by kernel_rfl) (by kernel_rfl) (by kernel_rfl) (by kernel_rfl) (by kernel_rfl) (by exact fun _ _ _ h=>h) (Or.inl ⟨by rfl,?_⟩) hS ?_
  rotate_left
  ·(intro wS hSw;(try dsimp only at hSw);go_simp;try with_reducible rfl)
  try simp only [Act.put,List.setIfInBounds_toArray,List.set_cons_zero,List.set_cons_succ]
  refine C4.done (by kernel_rfl) ?_ _
  (try clear hS)
  have c_R:=R.cells;have f_R:=R.frozens
  go_wp2_with fail
  clear c_R f_R
  have n_K:Dy [g] w ((w5.setCell ⟨g,1,none⟩ (.int .i64 ((k:Int)+1))).setCell ⟨g,2,none⟩ (.int .u64 (IntKind.u64.wrap (IntKind.u64.wrap (IntKind.u64.wrap (D7 * 6364136223846793005))+840840)))):=((Dy.ofBelow hB).setCell (p:=⟨g,1,none⟩) (by simp) _).setCell (p:=⟨g,2,none⟩) (by simp) _
  have n_R:Hm ((w5.setCell ⟨g,1,none⟩ (.int .i64 ((k:Int)+1))).setCell ⟨g,2,none⟩ (.int .u64 (IntKind.u64.wrap (IntKind.u64.wrap (IntKind.u64.wrap (D7 * 6364136223846793005))+840840)))) g 67 [.slice a Br.length c,.int .i64 ((k+1:Nat):Int),.int .u64 (IntKind.u64.wrap (IntKind.u64.wrap (IntKind.u64.wrap (D7 * 6364136223846793005))+840840))]:=by simpa using ((R.set 1 (.int .i64 ((k:Int)+1))).set 2 (.int .u64 (IntKind.u64.wrap (IntKind.u64.wrap (IntKind.u64.wrap (D7 * 6364136223846793005))+840840))))
  have n_S:Sl Gf ((w5.setCell ⟨g,1,none⟩ (.int .i64 ((k:Int)+1))).setCell ⟨g,2,none⟩ (.int .u64 (IntKind.u64.wrap (IntKind.u64.wrap (IntKind.u64.wrap (D7 * 6364136223846793005))+840840)))) (Value.slice a Br.length c) Br F:=S.frame (fun b hb=>by have:b≠g:=fun e=>hF (e▸hb);repeat rw [Below.heap_setCell _ _ _ _ (by simp <;> omega)])
  have hs0:0≤(IntKind.u64.wrap (IntKind.u64.wrap (IntKind.u64.wrap (D7 * 6364136223846793005))+840840))∧(IntKind.u64.wrap (IntKind.u64.wrap (IntKind.u64.wrap (D7 * 6364136223846793005))+840840)) < 18446744073709551616:=by rw [IntKind.wrap_u64];omega
  clear R S hB
  generalize (IntKind.u64.wrap (IntKind.u64.wrap (IntKind.u64.wrap (D7 * 6364136223846793005))+840840))=sd at *
  obtain ⟨hs0,hs1⟩:=hs0
  generalize ((w5.setCell ⟨g,1,none⟩ (.int .i64 ((k:Int)+1))).setCell ⟨g,2,none⟩ (.int .u64 sd))=w6 at *
  have R:=n_R;clear n_R
  have S:=n_S;clear n_S
  rename_i K0 hK0
  refine C4.start (S:=(fun w'=>w'.cell? ⟨g,0,none⟩=some (.slice a Br.length c)∧w'.cell? ⟨g,1,none⟩=some (.int .i64 ((k+1:Nat):Int))∧w'.cell? ⟨g,2,none⟩=some (.int .u64 sd))) (X:=(fun _=>false)) (by kernel_rfl) ?_
  have al:Below w6.heap.size w6 w6.drew:=Ek (Below.refl _ _) 1
  have hs_w7:=al.size
  replace R:=R.below al
  replace S:=S.below (by decide) al
  have hB:=al
  generalize w6.drew=w7 at *
  clear al
  have hS:(fun w'=>w'.cell? ⟨g,0,none⟩=some (.slice a Br.length c)∧w'.cell? ⟨g,1,none⟩=some (.int .i64 ((k+1:Nat):Int))∧w'.cell? ⟨g,2,none⟩=some (.int .u64 sd)) w7:=⟨R.cells 0,R.cells 1,R.cells 2⟩
  refine C4.take (i:=0) (oi:=_) (v:=?_) (by rw [List.getElem?_toArray];rfl) (by kernel_rfl) (by kernel_rfl) (by kernel_rfl) (by kernel_rfl) (by kernel_rfl) (by exact fun _ _ _ h=>h) (Or.inl ⟨by rfl,?_⟩) hS ?_
  rotate_left
  ·(intro wS hSw;(try dsimp only at hSw);go_simp;try with_reducible rfl)
  try simp only [Act.put,List.setIfInBounds_toArray,List.set_cons_zero,List.set_cons_succ]
  refine C4.take (i:=1) (oi:=_) (v:=?_) (by rw [List.getElem?_toArray];rfl) (by kernel_rfl) (by kernel_rfl) (by kernel_rfl) (by kernel_rfl) (by kernel_rfl) (by exact fun _ _ _ h=>h) (Or.inl ⟨by rfl,?_⟩) hS ?_
  rotate_left
  ·(intro wS hSw;(try dsimp only at hSw);go_simp;try with_reducible rfl)
  try simp only [Act.put,List.setIfInBounds_toArray,List.set_cons_zero,List.set_cons_succ]
  refine C4.take (i:=2) (oi:=_) (v:=?_) (by rw [List.getElem?_toArray];rfl) (by kernel_rfl) (by kernel_rfl) (by kernel_rfl) (by kernel_rfl) (by kernel_rfl) (by exact fun _ _ _ h=>h) (Or.inl ⟨by rfl,?_⟩) hS ?_
  rotate_left
  ·(intro wS hSw;(try dsimp only at hSw);go_simp;try with_reducible rfl)
  try simp only [Act.put,List.setIfInBounds_toArray,List.set_cons_zero,List.set_cons_succ]
  refine C4.take (i:=3) (oi:=_) (v:=?_) (by rw [List.getElem?_toArray];rfl) (by kernel_rfl) (by kernel_rfl) (by kernel_rfl) (by kernel_rfl) (by kernel_rfl) (by exact fun _ _ _ h=>h) (Or.inl ⟨by rfl,?_⟩) hS ?_
  rotate_left
  ·(intro wS hSw;(try dsimp only at hSw);go_simp;try with_reducible rfl)
  try simp only [Act.put,List.setIfInBounds_toArray,List.set_cons_zero,List.set_cons_succ]
  refine C4.take (i:=4) (oi:=_) (v:=?_) (by rw [List.getElem?_toArray];rfl) (by kernel_rfl) (by kernel_rfl) (by kernel_rfl) (by kernel_rfl) (by kernel_rfl) (by exact fun _ _ _ h=>h) (Or.inl ⟨by rfl,?_⟩) hS ?_
  rotate_left
  ·(intro wS hSw;(try dsimp only at hSw);go_simp;try with_reducible rfl)
  try simp only [Act.put,List.setIfInBounds_toArray,List.set_cons_zero,List.set_cons_succ]
  refine C4.take (i:=5) (oi:=_) (v:=?_) (by rw [List.getElem?_toArray];rfl) (by kernel_rfl) (by kernel_rfl) (by kernel_rfl) (by kernel_rfl) (by kernel_rfl) (by exact fun _ _ _ h=>h) (Or.inl ⟨by rfl,?_⟩) hS ?_
  rotate_left
  ·(intro wS hSw;(try dsimp only at hSw);go_simp;try with_reducible rfl)
  try simp only [Act.put,List.setIfInBounds_toArray,List.set_cons_zero,List.set_cons_succ]
  refine C4.take (i:=6) (oi:=_) (v:=?_) (by rw [List.getElem?_toArray];rfl) (by kernel_rfl) (by kernel_rfl) (by kernel_rfl) (by kernel_rfl) (by kernel_rfl) (by exact fun _ _ _ h=>h) (Or.inl ⟨by rfl,?_⟩) hS ?_
  rotate_left
  ·(intro wS hSw;(try dsimp only at hSw);go_simp;try with_reducible rfl)
  try simp only [Act.put,List.setIfInBounds_toArray,List.set_cons_zero,List.set_cons_succ]
  refine C4.take (i:=7) (oi:=_) (v:=?_) (by rw [List.getElem?_toArray];rfl) (by kernel_rfl) (by kernel_rfl) (by kernel_rfl) (by kernel_rfl) (by kernel_rfl) (by exact fun _ _ _ h=>h) (Or.inl ⟨by rfl,?_⟩) hS ?_
  rotate_left
  ·(intro wS hSw;(try dsimp only at hSw);go_simp;try with_reducible rfl)
  try simp only [Act.put,List.setIfInBounds_toArray,List.set_cons_zero,List.set_cons_succ]
  refine C4.take (i:=8) (oi:=_) (v:=?_) (by rw [List.getElem?_toArray];rfl) (by kernel_rfl) (by kernel_rfl) (by kernel_rfl) (by kernel_rfl) (by kernel_rfl) (by exact fun _ _ _ h=>h) (Or.inl ⟨by rfl,?_⟩) hS ?_
  rotate_left
  ·(intro wS hSw;(try dsimp only at hSw);go_simp;try with_reducible rfl)
  try simp only [Act.put,List.setIfInBounds_toArray,List.set_cons_zero,List.set_cons_succ]
  refine C4.take (i:=9) (oi:=_) (v:=?_) (by rw [List.getElem?_toArray];rfl) (by kernel_rfl) (by kernel_rfl) (by kernel_rfl) (by kernel_rfl) (by kernel_rfl) (by exact fun _ _ _ h=>h) (Or.inl ⟨by rfl,?_⟩) hS ?_
  rotate_left
  ·(intro wS hSw;(try dsimp only at hSw);go_simp;try with_reducible rfl)
  try simp only [Act.put,List.setIfInBounds_toArray,List.set_cons_zero,List.set_cons_succ]
  refine C4.done (by kernel_rfl) ?_ _
  (try clear hS)
  refine hK0 _ _ ?_
  clear hK0 K0
  have n_K2:=n_K.trans (Dy.ofBelow hB)
  obtain ⟨q,hq,hq2⟩:∃q:Nat,bits BinOp.and IntKind.u64 (sd / 1099511627776) 255=(q:Int)∧q≤255:=by
   refine ⟨(sd / 1099511627776).toNat &&& 255,?_,Nat.and_le_right⟩
   rw [←bits_and_u64_nat _ _ (by omega) (by omega)]
   congr 1;omega
  have c_R:=R.cells;have f_R:=R.frozens
  go_wp2_with fail
  refine bodyPost_ret (v:=.int .i64 (q:Int)) ?_ rfl ?_
  ·simp [results,results111,go_sem,hq]
  ·exact ⟨q,rfl,hq2,⟨k+1,sd,R,S,hF,by omega,hs0,hs1⟩,n_K2⟩
def Ar0 (B g:Nat) (F:T3) (n:Int) (w:World) (e:Ending) (w':World):Prop:=∃r:Nat,e=.returned (.int .i64 r)∧(r=0∨(r:Int) < n)∧Yj (B+2) w' g F∧Dy [g] w w'
theorem Aco (B g:Nat) (F:T3) (n:Int) (w:World) (h:Yj B w g F) (hB0:B≤1099511627774) (hn:n≤1048576) :
  Calls prog 46 #[.pointer (some ⟨g,0,none⟩),.int .i64 n] w (Ar0 B g F n w):=by
 have hN1:=Alq B g F w h (by omega)
 have hN2:=fun w h=>Alq (B+1) g F w h (by omega)
 replace hN1:=Lib.hid hN1;replace hN2:=Lib.hid hN2
 by_cases h1:n≤1
 ·go_enter func46,ntmps46
  go_wp2_with fail
  refine bodyPost_ret (v:=.int .i64 0) ?_ rfl ⟨0,rfl,.inl rfl,h.mono (by omega),Dy.refl _ _⟩
  simp [results,results46,go_sem]
 ·by_cases h2:n≤200
  ·go_enter func46,ntmps46
   go_wp2_with fail
   refine hN1.out.mono ?_
   rintro e w1 ⟨r,rfl,hr,hc,hk⟩
   have hm0:0≤(r:Int) % n:=Int.emod_nonneg _ (by omega)
   have hm1:(r:Int) % n < n:=Int.emod_lt_of_pos _ (by omega)
   go_wp2_with fail
   refine bodyPost_ret (v:=.int .i64 ((r:Int) % n)) ?_ rfl ⟨((r:Int) % n).toNat,by rw [Int.toNat_of_nonneg hm0],.inr (by omega),hc.mono (by omega),hk⟩
   simp [results,results46,go_sem]
  ·go_enter func46,ntmps46
   go_wp2_with fail
   refine hN1.out.mono ?_
   rintro e w1 ⟨r,rfl,hr,hc,hk⟩
   go_wp2_with fail
   refine (hN2.out _ hc).mono ?_
   rintro e w2 ⟨r2,rfl,hr2,hc2,hk2⟩
   have hm0:0≤((r:Int) * 256+r2) % n:=Int.emod_nonneg _ (by omega)
   have hm1:((r:Int) * 256+r2) % n < n:=Int.emod_lt_of_pos _ (by omega)
   go_wp2_with fail
   refine bodyPost_ret (v:=.int .i64 (((r:Int) * 256+r2) % n)) ?_ rfl ⟨(((r:Int) * 256+r2) % n).toNat,by rw [Int.toNat_of_nonneg hm0],.inr (by omega),hc2,hk.trans hk2⟩
   simp [results,results46,go_sem]
def As3 (B g:Nat) (F:T3) (w:World) (e:Ending) (w':World):Prop:=∃b:Bool,e=.returned (.bool b)∧Yj (B+2) w' g F∧Dy [g] w w'
theorem Ash (B g:Nat) (F:T3) (n:Int) (w:World) (h:Yj B w g F) (hB0:B≤1099511627774) (hn:n≤1048576) :
  Calls prog 124 #[.pointer (some ⟨g,0,none⟩),.int .i64 n] w (As3 B g F w):=by
 have hN1:=Lib.hid (Aco B g F n w h hB0 hn)
 go_enter func124,ntmps124
 go_wp2_with fail
 refine hN1.out.mono ?_
 rintro e w1 ⟨r,rfl,hr,hc,hk⟩
 go_wp2_with fail
 refine bodyPost_ret (v:=.bool ((r:Int) == 0)) ?_ rfl ⟨_,rfl,hc,hk⟩
 simp [results,results124,go_sem]
def POf (B g:Nat) (F:T3) (xs:List ByteArray) (w:World) (e:Ending) (w':World):Prop:=∃s∈xs,e=.returned (.string s)∧Yj (B+2) w' g F∧Dy [g] w w'
theorem Atd (B g:Nat) (F:T3) (v:Value) (xs:List ByteArray) (K:List Nat) (w:World) (h:Yj B w g F) (hB0:B≤1099511627774) (hx:Sl Ba w v xs K) (h0:0 < xs.length) (h1:xs.length≤1048576) (hg:g ∉ K) :
  Calls prog 74 #[.pointer (some ⟨g,0,none⟩),v] w (POf B g F xs w):=by
 obtain ⟨a,c,rfl⟩:=hx.slice
 have hN1:=Lib.hid (Aco B g F xs.length w h hB0 (by omega))
 go_enter func74,ntmps74
 go_wp2_with fail
 refine hN1.out.mono ?_
 rintro e w1 ⟨r,rfl,hr,hc,hk⟩
 have hr2:r < xs.length:=by omega
 obtain ⟨hsz,b,off,rfl,hcell⟩:=(hx.Ky hk (fun b hb e=>hg (by simp at e;rw [←e];exact hb)) (by decide)).str.2.2 r hr2
 clear hr
 have hm:=List.getElem_mem hr2
 generalize xs[r]=s at *
 go_wp2_with fail
 refine bodyPost_ret (v:=.string s) ?_ rfl ⟨s,hm,rfl,hc,hk⟩
 simp [results,results74,go_sem]
def Ap7 (B g:Nat) (F:T3) (xs:List Int) (w:World) (e:Ending) (w':World):Prop:=∃s∈xs,e=.returned (.int .i64 s)∧Yj (B+2) w' g F∧Dy [g] w w'
theorem Anr (B g:Nat) (F:T3) (v:Value) (xs:List Int) (K:List Nat) (w:World) (h:Yj B w g F) (hB0:B≤1099511627774) (hx:Sl Bd w v xs K) (h0:0 < xs.length) (h1:xs.length≤1048576) (hg:g ∉ K) :
  Calls prog 64 #[.pointer (some ⟨g,0,none⟩),v] w (Ap7 B g F xs w):=by
 obtain ⟨a,c,rfl⟩:=hx.slice
 have hN1:=Lib.hid (Aco B g F xs.length w h hB0 (by omega))
 go_enter func64,ntmps64
 go_wp2_with fail
 refine hN1.out.mono ?_
 rintro e w1 ⟨r,rfl,hr,hc,hk⟩
 have hr2:r < xs.length:=by omega
 obtain ⟨b,off,rfl,hcell⟩:=(hx.Ky hk (fun b hb e=>hg (by simp at e;rw [←e];exact hb)) (by decide)).int.2.2 r hr2
 clear hr
 have hm:=List.getElem_mem hr2
 generalize xs[r]=s at *
 go_wp2_with fail
 refine bodyPost_ret (v:=.int .i64 s) ?_ rfl ⟨s,hm,rfl,hc,hk⟩
 simp [results,results64,go_sem]
structure Ps where
 k:Nat
 D7:Int
structure Ia (B:Nat) (s:Ps):Prop where
 k:s.k≤B
 s0:0≤s.D7
 s1:s.D7 < 18446744073709551616
theorem Ia.mono {B B':Nat} {s:Ps} (h:Ia B s) (hb:B≤B'):Ia B' s:=⟨Nat.le_trans h.k hb,h.s0,h.s1⟩
theorem Agu {f:FuncId} {args:List Value} {σ:Type} {C:σ→Prop} {v:σ→Value} {B B' g:Nat} {F:T3} {s:Ps} {X:List Pc} (hX:X.all (fun p=>!p.mu)=true) (ok:Ia B s)
  (h:∀w,Yj B w g F→Nf X w→(∀p∈X,g ∉ p.F)→Calls prog f args.toArray w fun e w'=>∃r,C r∧e=.returned (v r)∧Yj B' w' g F∧Dy [g] w w') :
  Fn prog f args (.sl Gf (.slice F.a F.Br.length F.c) F.Br F.bs::X) [.row g 67 0 [] [.slice F.a F.Br.length F.c,.int .i64 (s.k:Nat),.int .u64 s.D7] []] (fun (z:σ × Ps)=>C z.1∧Ia B' z.2) (fun z=>v z.1) (fun z=>[.row g 67 0 [] [.slice F.a F.Br.length F.c,.int .i64 (z.2.k:Nat),.int .u64 z.2.D7] []]):=fun w hH hS=>by
 have h1:=hH (.row g 67 0 [] [.slice F.a F.Br.length F.c,.int .i64 (s.k:Nat),.int .u64 s.D7] []) (by simp)
 have h2:=hH (.sl Gf (.slice F.a F.Br.length F.c) F.Br F.bs) (by simp)
 have ap:=hS.1
 have hg:g ∉ F.bs:=fun hm=>ap (.sl Gf (.slice F.a F.Br.length F.c) F.Br F.bs) (by simp) (by simp [Pc.mu]) g (by simp [Pc.F]) hm
 refine (h w ⟨s.k,s.D7,by simpa using h1.2,h2.2,hg,ok.k,ok.s0,ok.s1⟩ (fun p hp=>hH p (by simp [hp])) (fun p hp hm=>ap p (by simp [hp]) (by simp [Pc.mu]) g (by simp [Pc.F]) hm)).mono ?_
 rintro e w' ⟨r,hC,he,⟨k,D7,R,S, -,hk,h0,h3⟩,hK⟩
 refine ⟨(r,⟨k,D7⟩),⟨hC,hk,h0,h3⟩,he,Il ⟨rfl,by simpa using R⟩,⟨by simp,trivial⟩,hK.mono (fun b hb _=>by simpa [fp,Pc.F] using hb),fun p hp b hb=>?_⟩
 simp at hp
 subst hp
 exact .inr (.inl ⟨_,List.mem_cons_self ..,by simpa [Pc.F] using hb⟩)
theorem Ey (B g:Nat) (F:T3) (n:Int) (s:Ps) (ok:Ia B s) (hB:B≤1000000000000) (hn:n≤1048576) :
  Fn prog 46 [Ez g 0 0,.int .i64 n] [.sl Gf (.slice F.a F.Br.length F.c) F.Br F.bs] [.row g 67 0 [] [.slice F.a F.Br.length F.c,.int .i64 (s.k:Nat),.int .u64 s.D7] []] (fun (z:Nat × Ps)=>(z.1=0∨(z.1:Int) < n)∧Ia (B+2) z.2) (fun z=>.int .i64 (z.1:Nat)) (fun z=>[.row g 67 0 [] [.slice F.a F.Br.length F.c,.int .i64 (z.2.k:Nat),.int .u64 z.2.D7] []]) :=
 Agu (C:=fun r:Nat=>r=0∨(r:Int) < n) (v:=fun r=>.int .i64 (r:Nat)) (X:=[]) rfl ok fun w h _ _=>(Aco B g F n w h (by omega) hn).mono fun _ _ ⟨r,he,h1,h2,h3⟩=>⟨r,h1,he,h2,h3⟩
theorem Aly (B g:Nat) (F:T3) (n:Int) (s:Ps) (ok:Ia B s) (hB:B≤1000000000000) (hn:n≤1048576) :
  Fn prog 124 [Ez g 0 0,.int .i64 n] [.sl Gf (.slice F.a F.Br.length F.c) F.Br F.bs] [.row g 67 0 [] [.slice F.a F.Br.length F.c,.int .i64 (s.k:Nat),.int .u64 s.D7] []] (fun (z:Bool × Ps)=>True∧Ia (B+2) z.2) (fun z=>.bool z.1) (fun z=>[.row g 67 0 [] [.slice F.a F.Br.length F.c,.int .i64 (z.2.k:Nat),.int .u64 z.2.D7] []]) :=
 Agu (C:=fun _:Bool=>True) (v:=fun r=>.bool r) (X:=[]) rfl ok fun w h _ _=>(Ash B g F n w h (by omega) hn).mono fun _ _ ⟨r,he,h2,h3⟩=>⟨r,trivial,he,h2,h3⟩
theorem Aqr (B g:Nat) (F:T3) (v:Value) (xs:List ByteArray) (G:List Nat) (s:Ps) (ok:Ia B s) (hB:B≤1000000000000) (h0:0 < xs.length) (h1:xs.length≤1048576) :
  Fn prog 74 [Ez g 0 0,v] [.sl Gf (.slice F.a F.Br.length F.c) F.Br F.bs,.sl Ba v xs G] [.row g 67 0 [] [.slice F.a F.Br.length F.c,.int .i64 (s.k:Nat),.int .u64 s.D7] []] (fun (z:ByteArray × Ps)=>z.1∈xs∧Ia (B+2) z.2) (fun z=>.string z.1) (fun z=>[.row g 67 0 [] [.slice F.a F.Br.length F.c,.int .i64 (z.2.k:Nat),.int .u64 z.2.D7] []]) :=
 Agu (C:=fun r:ByteArray=>r∈xs) (v:=fun r=>.string r) (X:=[.sl Ba v xs G]) rfl ok fun w h hX hg=>(Atd B g F v xs G w h (by omega) (hX (.sl Ba v xs G) (by simp)).2 h0 h1 (hg (.sl Ba v xs G) (by simp))).mono fun _ _ ⟨r,h1,he,h2,h3⟩=>⟨r,h1,he,h2,h3⟩
theorem Mz (B g:Nat) (F:T3) (v:Value) (xs:List Int) (G:List Nat) (s:Ps) (ok:Ia B s) (hB:B≤1000000000000) (h0:0 < xs.length) (h1:xs.length≤1048576) :
  Fn prog 64 [Ez g 0 0,v] [.sl Gf (.slice F.a F.Br.length F.c) F.Br F.bs,.sl Bd v xs G] [.row g 67 0 [] [.slice F.a F.Br.length F.c,.int .i64 (s.k:Nat),.int .u64 s.D7] []] (fun (z:Int × Ps)=>z.1∈xs∧Ia (B+2) z.2) (fun z=>.int .i64 z.1) (fun z=>[.row g 67 0 [] [.slice F.a F.Br.length F.c,.int .i64 (z.2.k:Nat),.int .u64 z.2.D7] []]) :=
 Agu (C:=fun r:Int=>r∈xs) (v:=fun r=>.int .i64 r) (X:=[.sl Bd v xs G]) rfl ok fun w h hX hg=>(Anr B g F v xs G w h (by omega) (hX (.sl Bd v xs G) (by simp)).2 h0 h1 (hg (.sl Bd v xs G) (by simp))).mono fun _ _ ⟨r,h1,he,h2,h3⟩=>⟨r,h1,he,h2,h3⟩
theorem Fn.weak {P:Program} {f:FuncId} {args:List Value} {A M:List Pc} {σ:Type} {C C':σ→Prop} {v:σ→Value} {N:σ→List Pc} (h:Fn P f args A M C v N) (hC:∀s,C s→C' s):Fn P f args A M C' v N:=fun w h1 h2=>(h w h1 h2).mono fun _ _ ⟨s,hc,r⟩=>⟨s,hC s hc,r⟩
theorem Jv (w:World):∀xs:List Int,Cw Bd w (xs.map (Value.int .i64)) xs []
 | []=>⟨rfl,rfl⟩
 | x::r=>⟨[.int .i64 x],r.map (Value.int .i64),[],[],rfl,rfl,⟨rfl,rfl⟩,Jv w r⟩
theorem Acc (w:World):∀xs:List ByteArray,(∀x∈xs,x.size≤maxLen)→Cw Ba w (xs.map Value.string) xs []
 | [],_=>⟨rfl,rfl⟩
 | x::r,h=>⟨[.string x],r.map Value.string,[],[],rfl,rfl,⟨rfl,h x (by simp),rfl⟩,Acc w r fun y hy=>h y (by simp [hy])⟩
theorem Q0 (B g:Nat) (F:T3) (s:Ps) (ok:Ia B s) (hB:B≤900000000000) :
  Fn prog 70 [Ez g 0 0] [.sl Gf (.slice F.a F.Br.length F.c) F.Br F.bs] [.row g 67 0 [] [.slice F.a F.Br.length F.c,.int .i64 (s.k:Nat),.int .u64 s.D7] []] (fun (z:Int × Ps)=>(0≤z.1∧z.1≤65535)∧Ia (B+4) z.2) (fun z=>.int .i64 z.1) (fun z=>[.row g 67 0 [] [.slice F.a F.Br.length F.c,.int .i64 (z.2.k:Nat),.int .u64 z.2.D7] []]):=by
 refine enter func70 rfl ntmps70 fun w0=>?_
 refine Jm ?_;intros
 refine Ei (xs:=[0,1,100,32767,32768,65535,65530,4660]) (fun w=>Jv w _) ?_ (by decide)
 refine A1 (E:=Bd) fun G=>?_
 refine go ?_;intros
 refine cf (Mz B g F _ [0,1,100,32767,32768,65535,65530,4660] G s ok (by omega) (by decide) (by decide)) fun z hz=>?_
 refine Ap ?_
 obtain ⟨hz1,hz2⟩:=hz
 have hz3:0≤z.1∧z.1≤65535:=by simp only [List.mem_cons,List.not_mem_nil,or_false] at hz1;omega
 refine go ?_;intros
 refine cf (Ey (B+2) g F 12 z.2 hz2 (by omega) (by omega)) fun y hy=>?_
 refine Ap ?_
 obtain ⟨hy1,hy2⟩:=hy
 refine go ?_;intros
 refine ce (fun w s=>Fh _ _ _ (by omega) (by omega)) ?_
 refine go ?_;intros
 refine ret (_,y.2) ⟨Ht _ _,hy2⟩ rfl
theorem Q5 (B g:Nat) (F:T3) (s:Ps) (ok:Ia B s) (hB:B≤890000000000) :
  Fn prog 63 [Ez g 0 0] [.sl Gf (.slice F.a F.Br.length F.c) F.Br F.bs] [.row g 67 0 [] [.slice F.a F.Br.length F.c,.int .i64 (s.k:Nat),.int .u64 s.D7] []] (fun (z:Int × Ps)=>(-1≤z.1∧z.1≤65536)∧Ia (B+6) z.2) (fun z=>.int .i64 z.1) (fun z=>[.row g 67 0 [] [.slice F.a F.Br.length F.c,.int .i64 (z.2.k:Nat),.int .u64 z.2.D7] []]):=by
 refine enter func63 rfl ntmps63 fun w0=>?_
 refine go ?_;intros
 refine cf (Aly B g F 20 s ok (by omega) (by omega)) fun q hq=>?_
 refine Ap ?_
 obtain ⟨b,s1⟩:=q
 obtain ⟨-,hq⟩:=hq
 cases b
 ·refine go ?_;intros
  refine cf (Q0 (B+2) g F s1 hq (by omega)) fun z hz=>?_
  refine Ap ?_
  refine go ?_;intros
  refine ret z ⟨by have:=hz.1;omega,hz.2⟩ rfl
 ·refine Jm ?_;intros
  refine Ei (xs:=[-1,65536,65535]) (fun w=>Jv w _) ?_ (by decide)
  refine A1 (E:=Bd) fun G=>?_
  refine go ?_;intros
  refine cf (Mz (B+2) g F _ [-1,65536,65535] G s1 hq (by omega) (by decide) (by decide)) fun z hz=>?_
  refine Ap ?_
  refine go ?_;intros
  refine ret z ⟨by have:=hz.1;simp only [List.mem_cons,List.not_mem_nil,or_false] at this;omega,hz.2.mono (by omega)⟩ rfl
theorem Py (B g:Nat) (F:T3) (s:Ps) (ok:Ia B s) (hB:B≤890000000000) :
  Fn prog 63 [Ez g 0 0] [.sl Gf (.slice F.a F.Br.length F.c) F.Br F.bs] [.row g 67 0 [] [.slice F.a F.Br.length F.c,.int .i64 (s.k:Nat),.int .u64 s.D7] []] (fun (z:Int × Ps)=>Ia (B+6) z.2) (fun z=>.int .i64 z.1) (fun z=>[.row g 67 0 [] [.slice F.a F.Br.length F.c,.int .i64 (z.2.k:Nat),.int .u64 z.2.D7] []]):=(Q5 B g F s ok hB).weak fun _ h=>h.2
structure LeS where
 r:Nat
 t:ByteArray
 s:Ps
structure As0 (B r0:Nat) (z:LeS):Prop where
 r:z.r≤r0
 s:Ia (B+2+2 * (r0 - z.r)) z.s
 t:z.t.size≤r0 - z.r
 l:Rf z.t.data.toList=true
theorem O7 (B g:Nat) (F:T3) (s:Ps) (n:Int) (ok:Ia B s) (hB:B≤900000000000) (h0:0≤n) (h8:n≤20) :
  Fn prog 113 [Ez g 0 0,.int .i64 n] [.sl Gf (.slice F.a F.Br.length F.c) F.Br F.bs] [.row g 67 0 [] [.slice F.a F.Br.length F.c,.int .i64 (s.k:Nat),.int .u64 s.D7] []] (fun (z:ByteArray × Ps)=>(z.1.size≤20∧(z.1.size:Int)≤n∧Rf z.1.data.toList=true)∧Ia (B+42) z.2) (fun z=>.string z.1) (fun z=>[.row g 67 0 [] [.slice F.a F.Br.length F.c,.int .i64 (z.2.k:Nat),.int .u64 z.2.D7] []]):=by
 refine enter func113 rfl ntmps113 fun w0=>?_
 refine go ?_;intros
 refine cf (Ey B g F (n+1) s ok (by omega) (by omega)) fun y hy=>?_
 refine Ap ?_
 obtain ⟨r0,s1⟩:=y
 obtain ⟨hy1,hy2⟩:=hy
 dsimp only at hy1 hy2 ⊢
 have hr0:r0≤20:=by omega
 refine go ?_;intros
 refine Cp [0,4] (fun z:LeS=>[(5,.string z.t),(6,.int .i64 (z.r:Nat))]) (fun z=>[.row g 67 0 [] [.slice F.a F.Br.length F.c,.int .i64 (z.s.k:Nat),.int .u64 z.s.D7] []]) (As0 B r0) (fun z=>z.r) ⟨r0,⟨#[]⟩,s1⟩ ⟨Nat.le_refl _,by simpa using hy2,Nat.zero_le _,rfl⟩ fun z hz=>?_
 obtain ⟨z1,z2,z3,z4⟩:=hz
 refine go ?_;intros
 refine Bg rfl (fun h3=>?_) (fun h3=>?_)
 ·refine Jm ?_;intros
  refine Ei (xs:=[⟨#[97]⟩,⟨#[98]⟩,⟨#[99]⟩,⟨#[120]⟩,⟨#[122]⟩]) (fun w=>Acc w _ (by decide)) ?_ (by decide)
  refine A1 (E:=Ba) fun G=>?_
  refine go ?_;intros
  refine cf (Aqr _ g F _ [⟨#[97]⟩,⟨#[98]⟩,⟨#[99]⟩,⟨#[120]⟩,⟨#[122]⟩] G z.s z2 (by omega) (by decide) (by decide)) fun q hq=>?_
  refine Ap ?_
  have hq1:q.1.size=1∧Rf q.1.data.toList=true:=by
   have:=hq.1
   simp only [List.mem_cons,List.not_mem_nil,or_false] at this
   rcases this with e|e|e|e|e <;> rw [e] <;> exact ⟨rfl,rfl⟩
  refine go ?_;intros
  rw [show ((z.r:Nat):Int) - 1=((z.r - 1:Nat):Int) by omega]
  refine Ck ⟨z.r - 1,z.t++q.1,q.2⟩ ⟨by show z.r - 1≤r0;omega,hq.2.mono (by show _≤B+2+2 * (r0 - (z.r - 1));omega),by show (z.t++q.1).size≤r0 - (z.r - 1);rw [ByteArray.size_append];omega,by show Rf (z.t++q.1).data.toList=true;rw [ByteArray.data_append,Array.toList_append];unfold Rf at *;rw [List.all_append,z4,hq1.2];rfl⟩ (by show z.r - 1 < _;omega)
 ·refine go ?_;intros
  refine ret (z.t,z.s) ⟨⟨by show z.t.size≤20;omega,by show (z.t.size:Int)≤n;omega,z4⟩,z2.mono (by omega)⟩ rfl
structure TrD where
 l:List Int
 a:Option Addr
 c:Nat
 F:List Nat
 i:Nat
 s:Ps
structure Ata (B:Nat) (z:TrD):Prop where
 g:Ml z.l
 l:z.l.length+z.i≤8
 i:z.i≤6
 s:Ia (B+10+10 * (6 - z.i)) z.s
theorem Agh (B g:Nat) (F:T3) (s:Ps) (ok:Ia B s) (hB:B≤800000000000) :
  Fn prog 50 [Ez g 0 0] [.sl Gf (.slice F.a F.Br.length F.c) F.Br F.bs] [.row g 67 0 [] [.slice F.a F.Br.length F.c,.int .i64 (s.k:Nat),.int .u64 s.D7] []] (fun (z:TrD)=>Ml z.l∧Ia (B+100) z.s) (fun z=>.agg #[.slice z.a z.l.length z.c])
   (fun z=>[.ow Bd 3 (.slice z.a z.l.length z.c) z.l z.F,.row g 67 0 [] [.slice F.a F.Br.length F.c,.int .i64 (z.s.k:Nat),.int .u64 z.s.D7] []]):=by
 refine enter func50 rfl ntmps50 fun w0=>?_
 refine Jm ?_;intros
 refine Ei (xs:=[-1,0]) (fun w=>Jv w _) ?_ (by decide)
 refine go ?_;intros
 rename_i g2 g5 g3
 refine cf (Ey _ g F 7 s ok (by omega) (by omega)) fun y hy=>?_
 refine Ap ?_
 obtain ⟨r0,s2⟩:=y
 obtain ⟨hr0,h2⟩:=hy
 dsimp only at hr0 h2 ⊢
 have hr0:r0≤6:=by omega
 refine go ?_;intros
 refine Cp [0,2,3] (fun z:TrD=>[(4,.int .i64 (z.i:Nat))]) (fun z=>[.row g3 26 0 [] [.slice z.a z.l.length z.c] [],.ow Bd 3 (.slice z.a z.l.length z.c) z.l z.F,.row g 67 0 [] [.slice F.a F.Br.length F.c,.int .i64 (z.s.k:Nat),.int .u64 z.s.D7] []]) (Ata B) (fun z=>z.i) ⟨[-1,0],some ⟨g5,0,none⟩,2,_,r0,s2⟩ ⟨Ah9,by show 2+r0≤8;omega,hr0,h2.mono (by show _≤B+10+10 * (6 - r0);omega)⟩ fun z hz=>?_
 obtain ⟨z1,z2,z3,z4⟩:=hz
 have hn0:=z1.n0
 refine go ?_;intros
 refine Bg rfl (fun h3=>?_) (fun h3=>?_)
 ·have hi0:0 < z.i:=by omega
  refine Jm ?_;intros
  refine As [0] [10] ?_
  refine dt 0 ?_
  refine dt 1 ?_
  refine dt 2 ?_
  refine dt 3 ?_
  refine dt 4 ?_
  refine dt 5 ?_
  refine dO 6 (by kernel_rfl) (by rw [List.getElem?_toArray];rfl) ?_
  apply At;rfl;kernel_rfl;exact Bf
  refine cf (Ey _ g F z.l.length z.s z4 (by omega) (by omega)) fun y hy=>?_
  refine Ap ?_
  obtain ⟨k5,s5⟩:=y
  obtain ⟨r5,h5⟩:=hy
  dsimp only at r5 h5 ⊢
  have r5:k5 < z.l.length:=by omega
  refine dk ?_
  refine dO 7 (by kernel_rfl) (by rw [List.getElem?_toArray];rfl) ?_
  apply Ho;rfl;rfl;rfl;rfl;exact Hl;exact Hg;intro _
  refine dk ?_
  refine dO 8 (by kernel_rfl) (by rw [List.getElem?_toArray];rfl) ?_
  refine Mf (Mi _) C8 fun a9 c9 F9=>?_
  refine dk ?_
  refine dt 9 ?_
  refine dO 10 (by kernel_rfl) (by rw [List.getElem?_toArray];rfl) ?_
  apply Cs;rfl;rfl;rfl;(first|exact AggC.s|exact OneC.s);rfl;exact Cu;exact Ct;rfl
  refine Ng ?_
  refine dd ?_
  refine go ?_;intros
  rw [show ((z.i:Nat):Int) - 1=((z.i - 1:Nat):Int) by omega]
  refine Ck ⟨z.l++[(k5:Int)],a9,c9,F9,z.i - 1,s5⟩ ⟨Afo z1 (by omega) r5,by show (z.l++[_]).length+(z.i - 1)≤8;simp;omega,by show z.i - 1≤6;omega,h5.mono (by show _≤B+10+10 * (6 - (z.i - 1));omega)⟩ (by show z.i - 1 < z.i;omega)
 ·refine go ?_;intros
  refine ret z ⟨z1,z4.mono (by omega)⟩ rfl
section
variable {c:Cx} {fr:Fr} {H:List Pc} {Φ:Gl}
end
theorem Aa1 {k n t l:Int} {s:ByteArray} (hk:1≤k∧k≤5) (hn:B9 n=true) (ht:B9 t=true) (hl:B9 l=true) (hg:gp t l≤32767) (hs:Oh s=true) (he:s=⟨#[]⟩∨k≤2):Bp ⟨k,n,t,l,s⟩=true:=by
 unfold Bp Ig
 simp only [Bool.and_eq_true,Bool.or_eq_true,decide_eq_true_eq]
 refine ⟨⟨⟨⟨⟨⟨hk,hn⟩,ht⟩,hl⟩,hs⟩,hg⟩,?_⟩
 rcases he with h|h
 ·exact .inl (.inl h)
 ·by_cases h1:k=1
  ·exact .inl (.inr h1)
  ·exact .inr (by omega)
theorem Afr {s:ByteArray} (h:(s.size:Int)≤8) (h2:Rf s.data.toList=true):Oh s=true:=by unfold Oh;rw [decide_eq_true h,h2];rfl
theorem Ah7 {p:Av} (h:Bp p=true):0≤p.Al∧p.Al≤65535∧p.data.size≤maxLen:=by
 unfold Bp Oh at h
 simp only [Bool.and_eq_true,decide_eq_true_eq] at h
 obtain ⟨t0,t1⟩:=A9.1 h.1.1.1.1.2
 exact ⟨t0,t1,by unfold maxLen;omega⟩
theorem Ai8 (B g:Nat) (F:T3) (s:Ps) (ok:Ia B s) (hB:B≤800000000000) :
  Fn prog 129 [Ez g 0 0] [.sl Gf (.slice F.a F.Br.length F.c) F.Br F.bs] [.row g 67 0 [] [.slice F.a F.Br.length F.c,.int .i64 (s.k:Nat),.int .u64 s.D7] []] (fun (z:Av × Ps)=>Bp z.1=true∧Ia (B+60) z.2) (fun s=>.agg #[.int .i64 s.1.Df,.int .i64 s.1.Ae,.int .i64 s.1.Al,.int .i64 s.1.Ec,.string s.1.data]) (fun s=>[.row g 67 0 [] [.slice F.a F.Br.length F.c,.int .i64 (s.2.k:Nat),.int .u64 s.2.D7] []]):=by
 refine enter func129 rfl ntmps129 fun w0=>?_
 refine go ?_;intros
 refine cf (Q0 B g F s ok (by omega)) fun n hn=>?_
 refine Ap ?_
 obtain ⟨hn1,hn2⟩:=hn
 refine go ?_;intros
 refine cf (Ey (B+4) g F 5 n.2 hn2 (by omega) (by omega)) fun y1 hy1=>?_
 refine Ap ?_
 obtain ⟨hy1,hy2⟩:=hy1
 have hr1:y1.1≤4:=by omega
 refine go ?_;intros
 refine cf (Ey _ g F 9 y1.2 hy2 (by omega) (by omega)) fun y3 hy3=>?_
 refine Ap ?_
 obtain ⟨hy3,hy4⟩:=hy3
 refine go ?_;intros
 refine ce (fun w s=>Fh _ _ _ (by omega) (by omega)) ?_
 refine go ?_;intros
 refine cf (Ey _ g F 10 y3.2 hy4 (by omega) (by omega)) fun y5 hy5=>?_
 refine Ap ?_
 obtain ⟨hy5,hy6⟩:=hy5
 refine go ?_;intros
 refine ce (fun w s=>Fh _ _ _ (by omega) (by omega)) ?_
 refine go ?_;intros
 refine Bg rfl (fun h1=>?_) (fun h1=>?_)
 ·refine go ?_;intros
  refine cf (O7 _ g F y5.2 8 hy6 (by omega) (by omega) (by omega)) fun l hl=>?_
  refine Ap ?_
  obtain ⟨hl1,hl2⟩:=hl
  refine go ?_;intros
  refine ret (⟨1+(y1.1:Nat),Cg n.1 ((y5.1:Nat) - 1),n.1,Cg n.1 (y3.1:Nat),l.1⟩,l.2) ⟨Aa1 ⟨by omega,by omega⟩ (Mx _ _) (A9.2 hn1) (Mx _ _) (by unfold gp Cg;omega) (Afr hl1.2.1 hl1.2.2) (.inr (by omega)),hl2.mono (by omega)⟩ rfl
 ·refine go ?_;intros
  refine ret (⟨1+(y1.1:Nat),Cg n.1 ((y5.1:Nat) - 1),n.1,Cg n.1 (y3.1:Nat),⟨#[]⟩⟩,y5.2) ⟨Aa1 ⟨by omega,by omega⟩ (Mx _ _) (A9.2 hn1) (Mx _ _) (by unfold gp Cg;omega) (by decide) (.inl rfl),hy6.mono (by omega)⟩ rfl
theorem Al1 (B g:Nat) (F:T3) (s:Ps) (ok:Ia B s) (hB:B≤800000000000) :
  Fn prog 129 [Ez g 0 0] [.sl Gf (.slice F.a F.Br.length F.c) F.Br F.bs] [.row g 67 0 [] [.slice F.a F.Br.length F.c,.int .i64 (s.k:Nat),.int .u64 s.D7] []] (fun (z:Av × Ps)=>(0≤z.1.Al∧z.1.Al≤65535∧z.1.data.size≤maxLen)∧Ia (B+60) z.2) (fun s=>.agg #[.int .i64 s.1.Df,.int .i64 s.1.Ae,.int .i64 s.1.Al,.int .i64 s.1.Ec,.string s.1.data]) (fun s=>[.row g 67 0 [] [.slice F.a F.Br.length F.c,.int .i64 (s.2.k:Nat),.int .u64 s.2.D7] []]):=(Ai8 B g F s ok hB).weak fun _ h=>⟨Ah7 h.1,h.2⟩
theorem Adk (B g:Nat) (F:T3) (s:Ps) (ok:Ia B s) (hB:B≤700000000000) :
  Fn prog 72 [Ez g 0 0] [.sl Gf (.slice F.a F.Br.length F.c) F.Br F.bs] [.row g 67 0 [] [.slice F.a F.Br.length F.c,.int .i64 (s.k:Nat),.int .u64 s.D7] []] (fun (z:Av × Ps)=>z.1.data.size≤maxLen∧Ia (B+100) z.2) (fun s=>.agg #[.int .i64 s.1.Df,.int .i64 s.1.Ae,.int .i64 s.1.Al,.int .i64 s.1.Ec,.string s.1.data]) (fun s=>[.row g 67 0 [] [.slice F.a F.Br.length F.c,.int .i64 (s.2.k:Nat),.int .u64 s.2.D7] []]):=by
 refine enter func72 rfl ntmps72 fun w0=>?_
 refine go ?_;intros
 refine cf (Al1 B g F s ok (by omega)) fun z hz=>?_
 refine Ap ?_
 obtain ⟨⟨t0,t1,hz1⟩,hz2⟩:=hz
 refine go ?_;intros
 refine cf (Ey _ g F 24 z.2 hz2 (by omega) (by omega)) fun p hp=>?_
 refine Ap ?_
 obtain ⟨r,s3⟩:=p
 obtain ⟨-,hp⟩:=hp
 dsimp only at hp ⊢
 refine go ?_;intros
 refine Bg rfl (fun e0=>?_) (fun e0=>?_)
 ·refine Jm ?_;intros
  refine Ei (xs:=[0,6,5]) (fun w=>Jv w _) ?_ (by decide)
  refine A1 (E:=Bd) fun G=>?_
  refine go ?_;intros
  refine cf (Mz _ g F _ [0,6,5] G s3 hp (by omega) (by decide) (by decide)) fun q hq=>?_
  refine Ap ?_
  refine go ?_;intros
  refine ret (⟨q.1,z.1.Ae,z.1.Al,z.1.Ec,z.1.data⟩,q.2) ⟨hz1,hq.2.mono (by omega)⟩ rfl
 ·refine go ?_;intros
  refine Bg rfl (fun e1=>?_) (fun e1=>?_)
  ·refine Jm ?_;intros
   refine Ei (xs:=[-1,65536,65535]) (fun w=>Jv w _) ?_ (by decide)
   refine A1 (E:=Bd) fun G=>?_
   refine go ?_;intros
   refine cf (Mz _ g F _ [-1,65536,65535] G s3 hp (by omega) (by decide) (by decide)) fun q hq=>?_
   refine Ap ?_
   refine go ?_;intros
   refine ret (⟨z.1.Df,q.1,z.1.Al,z.1.Ec,z.1.data⟩,q.2) ⟨hz1,hq.2.mono (by omega)⟩ rfl
  ·refine go ?_;intros
   refine Bg rfl (fun e2=>?_) (fun e2=>?_)
   ·refine Jm ?_;intros
    refine As [1] [7] ?_
    refine dt 0 ?_
    refine dt 1 ?_
    refine dt 2 ?_
    refine dO 3 (by kernel_rfl) (by rw [List.getElem?_toArray];rfl) ?_
    apply Ho;rfl;rfl;rfl;rfl;exact Hl;exact Hg;intro _
    refine Ei (xs:=[32767,32768]) (fun w=>Jv w _) ?_ (by decide)
    refine A1 (E:=Bd) fun G=>?_
    refine dk ?_
    refine dO 4 (by kernel_rfl) (by rw [List.getElem?_toArray];rfl) ?_
    apply At;rfl;kernel_rfl;exact Bf
    refine cf (Mz _ g F _ [32767,32768] G s3 hp (by omega) (by decide) (by decide)) fun q hq=>?_
    refine Ap ?_
    have hq3:0≤q.1∧q.1≤32768:=by have:=hq.1;simp only [List.mem_cons,List.not_mem_nil,or_false] at this;omega
    refine dk ?_
    refine dO 5 (by kernel_rfl) (by rw [List.getElem?_toArray];rfl) ?_
    apply At;rfl;kernel_rfl;exact Bf
    refine ce (fun w s=>Fh _ _ _ (by omega) (by omega)) ?_
    refine dk ?_
    refine dt 6 ?_
    refine dO 7 (by kernel_rfl) (by rw [List.getElem?_toArray];rfl) ?_
    apply Cs;rfl;rfl;rfl;(first|exact AggC.s|exact OneC.s);rfl;exact Cu;exact Ct;rfl
    refine Ng ?_
    refine dd ?_
    refine go ?_;intros
    refine ret (⟨z.1.Df,z.1.Ae,z.1.Al,Cg z.1.Al q.1,z.1.data⟩,q.2) ⟨hz1,hq.2.mono (by omega)⟩ rfl
   ·refine go ?_;intros
    refine Bg rfl (fun e3=>?_) (fun e3=>?_)
    ·refine Jm ?_;intros
     refine Ei (xs:=[⟨#[97,98,99,100,101,102,103,104]⟩,⟨#[97,98,99,100,101,102,103,104,105]⟩,⟨#[65]⟩,⟨#[97,32,98]⟩,⟨#[97]⟩]) (fun w=>Acc w _ (by decide)) ?_ (by decide)
     refine A1 (E:=Ba) fun G=>?_
     refine go ?_;intros
     refine cf (Aqr _ g F _ [⟨#[97,98,99,100,101,102,103,104]⟩,⟨#[97,98,99,100,101,102,103,104,105]⟩,⟨#[65]⟩,⟨#[97,32,98]⟩,⟨#[97]⟩] G s3 hp (by omega) (by decide) (by decide)) fun q hq=>?_
     refine Ap ?_
     have hq3:q.1.size≤maxLen:=by have:=hq.1;simp only [List.mem_cons,List.not_mem_nil,or_false] at this;rcases this with e|e|e|e|e <;> rw [e] <;> decide
     refine go ?_;intros
     refine ret (⟨z.1.Df,z.1.Ae,z.1.Al,z.1.Ec,q.1⟩,q.2) ⟨hq3,hq.2.mono (by omega)⟩ rfl
    ·refine go ?_;intros
     refine ret (z.1,s3) ⟨hz1,hp.mono (by omega)⟩ rfl
theorem Aoh (a b:Int):Fn prog 112 [.int .i64 a,.int .i64 b] [] [] (fun (_:Unit)=>True) (fun _=>.int .i64 (max a b)) (fun _=>[]):=by
 refine enter func112 rfl ntmps112 fun w0=>?_
 refine go ?_;intros
 refine Bg rfl (fun h=>?_) (fun h=>?_)
 ·refine go ?_;intros
  rw [show max a b=a by omega]
  refine ret () trivial rfl
 ·refine go ?_;intros
  rw [show max a b=b by omega]
  refine ret () trivial rfl
theorem okq {k:Int} {i:Nat} (hk:k=2∨k=3∨k=5∨k=6) (h0:1≤i) (h7:i≤7):Ij ⟨k,(i:Int),⟨#[]⟩⟩=true:=by
 have hf:Pi ((i:Nat):Int)=true:=L0.2 (by omega)
 unfold Ij
 rcases hk with rfl|rfl|rfl|rfl
 all_goals
  show (Ig 1 _ 6 && Pi ((i:Nat):Int) && decide _)=true
  rw [hf];rfl
structure StD where
 t:Li
 s:Ps
structure StW where
 n:Nat
 i:Nat
 s:Ps
structure As7 (B:Nat) (z:StW):Prop where
 a:1≤z.n
 b:z.n≤7
 i:z.i≤3
 s:Ia (B+10+10 * z.i) z.s
theorem Ahg (B g:Nat) (F:T3) (s:Ps) (n:D9) (v:Value) (Fx:List Nat) (h2:2≤n.Am.Ac.length) (h8:n.Am.Ac.length≤8) (hd:n.down.length≤8) (hu:n.up.length=n.down.length) (hq:∀q∈n.down++n.up,q.length≤6) (ok:Ia B s) (hB:B≤800000000000) :
  Fn prog 47 [Ez g 0 0,v] [.sl Gf (.slice F.a F.Br.length F.c) F.Br F.bs,.isv Le v n Fx] [.row g 67 0 [] [.slice F.a F.Br.length F.c,.int .i64 (s.k:Nat),.int .u64 s.D7] []] (fun (z:StD)=>Ij z.t=true∧z.t.data.size≤maxLen∧Ia (B+200) z.s) (fun z=>.agg #[.int .i64 z.t.Df,.int .i64 z.t.node,.string z.t.data])
   (fun z=>[.row g 67 0 [] [.slice F.a F.Br.length F.c,.int .i64 (z.s.k:Nat),.int .u64 z.s.D7] []]):=by
 refine enter func47 rfl ntmps47 fun w0=>?_
 refine Di ?_
 rintro a1 c1 F1 a2 c2 F2 a3 c3 F3 a4 c4 F4 a5 c5 F5 a6 c6 F6 a7 c7 F7 rfl l1 l2 l3 l4 l5 l6 l7
 refine go ?_;intros
 rename_i gb gs
 refine cf (Aoh 1 (n.Am.Ac.length - 1)) fun _ _=>?_
 refine Ap ?_
 refine go ?_;intros
 refine cf (Ey _ g F (max 1 (n.Am.Ac.length - 1)) s ok (by omega) (by omega)) fun y hy=>?_
 refine Ap ?_
 obtain ⟨r0,s2⟩:=y
 obtain ⟨hr0,h2⟩:=hy
 dsimp only at hr0 h2 ⊢
 have hr0:r0≤6:=by omega
 refine go ?_;intros
 rw [show (1:Int)+(r0:Nat)=((1+r0:Nat):Int) by omega]
 refine Cp [0,3,4] (fun z:StW=>[(5,.int .i64 (z.n:Nat)),(6,.int .i64 (z.i:Nat))]) (fun z=>[.row g 67 0 [] [.slice F.a F.Br.length F.c,.int .i64 (z.s.k:Nat),.int .u64 z.s.D7] []]) (As7 B) (fun z=>3 - z.i) ⟨1+r0,0,s2⟩ ⟨by show 1≤1+r0;omega,by show 1+r0≤7;omega,Nat.zero_le _,h2.mono (by show _≤B+10+10 * 0;omega)⟩ fun z hz=>?_
 obtain ⟨z1,z2,z3,z4⟩:=hz
 repeat apply Aar
 refine E6 [0,3,4,5,6] [0,1,2,3,4,5,6,7,8,9,10,11] (fun b:Bool=>[(40,.bool b)]) (fun _=>[]) (fun b=>b=true→z.i < 3) ?_ fun b hb=>?_
 ·by_cases k0:z.i < 3
  ·by_cases k1:z.n < n.down.length
   ·refine Kw (E:=Ak) (hz:=by decide) (xs:=n.down) z.n ?_
    rintro hi1 b1 o1 a8 c8 F8 e1 l8
    refine Kw (E:=Ak) (hz:=by decide) (xs:=n.up) z.n ?_
    rintro hi2 b2 o2 a9 c9 F9 e2 l9
    rw [e1,e2]
    have m8:=hq _ (List.mem_append_left _ (List.getElem_mem hi1))
    have m9:=hq _ (List.mem_append_right _ (List.getElem_mem hi2))
    refine Jm ?_;intros
    refine As [0,2,6] [] ?_
    refine dt 0 ?_
    refine dt 1 ?_
    rw [show decide (((z.i:Nat):Int) < 3)=true by exact decide_eq_true (by omega)]
    refine dt 2 ?_
    refine Dh 3 ?_
    refine Dh 4 ?_
    refine Dh 5 ?_
    refine Dh 6 ?_
    refine Dh 7 ?_
    rw [show decide (((z.n:Nat):Int) < (n.down.length:Int))=true by exact decide_eq_true (by omega)]
    refine dt 8 ?_
    refine dt 9 ?_
    refine Dh 10 ?_
    refine Dh 11 ?_
    refine Dh 12 ?_
    refine Dh 13 ?_
    refine Dh 14 ?_
    refine Dh 15 ?_
    refine Dh 16 ?_
    refine Dh 17 ?_
    refine Dh 18 ?_
    refine Dh 19 ?_
    refine Dh 20 ?_
    refine Dh 21 ?_
    refine Dh 22 ?_
    refine Dh 23 ?_
    refine dt 24 ?_
    refine dd ?_
    refine Cd _ fun _=>k0
   ·refine Jm ?_;intros
    refine As [2] [] ?_
    refine dt 0 ?_
    refine dt 1 ?_
    rw [show decide (((z.i:Nat):Int) < 3)=true by exact decide_eq_true (by omega)]
    refine dt 2 ?_
    refine Dh 3 ?_
    refine Dh 4 ?_
    refine Dh 5 ?_
    refine Dh 6 ?_
    refine Dh 7 ?_
    rw [show decide (((z.n:Nat):Int) < (n.down.length:Int))=false by exact decide_eq_false (by omega)]
    refine dt 8 ?_
    refine dt 9 ?_
    refine ds 10 ?_
    refine ds 11 ?_
    refine ds 12 ?_
    refine ds 13 ?_
    refine ds 14 ?_
    refine ds 15 ?_
    refine ds 16 ?_
    refine ds 17 ?_
    refine ds 18 ?_
    refine ds 19 ?_
    refine ds 20 ?_
    refine ds 21 ?_
    refine ds 22 ?_
    refine ds 23 ?_
    refine dt 24 ?_
    refine dd ?_
    refine Cd false fun h=>(by cases h)
  ·refine Jm ?_;intros
   refine As [2] [] ?_
   refine dt 0 ?_
   refine dt 1 ?_
   rw [show decide (((z.i:Nat):Int) < 3)=false by exact decide_eq_false (by omega)]
   refine dt 2 ?_
   refine ds 3 ?_
   refine ds 4 ?_
   refine ds 5 ?_
   refine ds 6 ?_
   refine ds 7 ?_
   refine dt 8 ?_
   refine dt 9 ?_
   refine ds 10 ?_
   refine ds 11 ?_
   refine ds 12 ?_
   refine ds 13 ?_
   refine ds 14 ?_
   refine ds 15 ?_
   refine ds 16 ?_
   refine ds 17 ?_
   refine ds 18 ?_
   refine ds 19 ?_
   refine ds 20 ?_
   refine ds 21 ?_
   refine ds 22 ?_
   refine ds 23 ?_
   refine dt 24 ?_
   refine dd ?_
   refine Cd false fun h=>(by cases h)
 cases b
 rotate_left
 ·have hb3:=hb rfl
  refine go ?_;intros
  refine cf (Ey _ g F (n.Am.Ac.length - 1) z.s z4 (by omega) (by omega)) fun y hy=>?_
  refine Ap ?_
  obtain ⟨k5,s5⟩:=y
  obtain ⟨r5,h5⟩:=hy
  dsimp only at r5 h5 ⊢
  have r5:k5≤6:=by omega
  refine go ?_;intros
  rw [show (1:Int)+(k5:Nat)=((1+k5:Nat):Int) by omega]
  refine Ck ⟨1+k5,z.i+1,s5⟩ ⟨by show 1≤1+k5;omega,by show 1+k5≤7;omega,by show z.i+1≤3;omega,h5.mono (by show _≤B+10+10 * (z.i+1);omega)⟩ (by show 3 - (z.i+1) < 3 - z.i;omega)
 refine go ?_;intros
 refine cf (Ey _ g F 10 z.s z4 (by omega) (by omega)) fun y hy=>?_
 refine Ap ?_
 obtain ⟨r6,s6⟩:=y
 obtain ⟨hr6,h6⟩:=hy
 dsimp only at hr6 h6 ⊢
 have hr6:r6≤9:=by omega
 rcases (show r6=0∨r6=1∨r6=2∨r6=3∨r6=4∨r6=5∨r6=6∨r6=7∨r6=8∨r6=9 by omega) with rfl|rfl|rfl|rfl|rfl|rfl|rfl|rfl|rfl|rfl
 ·refine go ?_;intros
  refine cf (O7 _ g F s6 3 h6 (by omega) (by omega) (by omega)) fun l hl=>?_
  refine Ap ?_
  obtain ⟨hl1,hl2⟩:=hl
  refine go ?_;intros
  refine ret ⟨⟨1,0,l.1⟩,l.2⟩ ⟨by show (decide ((0:Int)=0) && Oh l.1)=true;rw [Afr (by omega) hl1.2.2];rfl,by show l.1.size≤maxLen;unfold maxLen;omega,hl2.mono (by omega)⟩ rfl
 ·refine go ?_;intros
  refine cf (O7 _ g F s6 3 h6 (by omega) (by omega) (by omega)) fun l hl=>?_
  refine Ap ?_
  obtain ⟨hl1,hl2⟩:=hl
  refine go ?_;intros
  refine ret ⟨⟨1,0,l.1⟩,l.2⟩ ⟨by show (decide ((0:Int)=0) && Oh l.1)=true;rw [Afr (by omega) hl1.2.2];rfl,by show l.1.size≤maxLen;unfold maxLen;omega,hl2.mono (by omega)⟩ rfl
 ·refine go ?_;intros
  refine ret ⟨⟨2,((z.n:Nat):Int),⟨#[]⟩⟩,s6⟩ ⟨okq (by decide) z1 z2,by show (0:Nat)≤maxLen;exact Nat.zero_le _,h6.mono (by omega)⟩ rfl
 ·refine go ?_;intros
  refine ret ⟨⟨2,((z.n:Nat):Int),⟨#[]⟩⟩,s6⟩ ⟨okq (by decide) z1 z2,by show (0:Nat)≤maxLen;exact Nat.zero_le _,h6.mono (by omega)⟩ rfl
 ·refine go ?_;intros
  refine ret ⟨⟨2,((z.n:Nat):Int),⟨#[]⟩⟩,s6⟩ ⟨okq (by decide) z1 z2,by show (0:Nat)≤maxLen;exact Nat.zero_le _,h6.mono (by omega)⟩ rfl
 ·refine go ?_;intros
  refine ret ⟨⟨3,((z.n:Nat):Int),⟨#[]⟩⟩,s6⟩ ⟨okq (by decide) z1 z2,by show (0:Nat)≤maxLen;exact Nat.zero_le _,h6.mono (by omega)⟩ rfl
 ·refine go ?_;intros
  refine ret ⟨⟨5,((z.n:Nat):Int),⟨#[]⟩⟩,s6⟩ ⟨okq (by decide) z1 z2,by show (0:Nat)≤maxLen;exact Nat.zero_le _,h6.mono (by omega)⟩ rfl
 ·refine go ?_;intros
  refine ret ⟨⟨6,((z.n:Nat):Int),⟨#[]⟩⟩,s6⟩ ⟨okq (by decide) z1 z2,by show (0:Nat)≤maxLen;exact Nat.zero_le _,h6.mono (by omega)⟩ rfl
 ·refine go ?_;intros
  refine ret ⟨⟨4,0,⟨#[]⟩⟩,s6⟩ ⟨rfl,by show (0:Nat)≤maxLen;exact Nat.zero_le _,h6.mono (by omega)⟩ rfl
 ·refine go ?_;intros
  refine ret ⟨⟨4,0,⟨#[]⟩⟩,s6⟩ ⟨rfl,by show (0:Nat)≤maxLen;exact Nat.zero_le _,h6.mono (by omega)⟩ rfl
end Go.Proofs.YtaemjogbahcbcaaGreatDoor
