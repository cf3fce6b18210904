/- Part 3 of the proof: 39 texts, one behind the other. -/
import Derived.Test.YtmckdnddocfodaaGreatDoorShelf
import Derived.Lib.Strings
import Derived.Lib.LaidTab
import Derived.Lib.ItoaMem
import Derived.Lib.SliceRun
import Derived.ArgAppend
import Derived.Deep.RegionLaw
import Derived.Test.YtmckdnddocfodaaGreatDoorM2
open _root_.Go.Proofs.Tryz
set_option maxRecDepth 100000
set_option maxHeartbeats 8000000
set_option linter.all false
set_option linter.unusedVariables false
set_option linter.unusedSimpArgs false
namespace Go.Proofs.YtmckdnddocfodaaGreatDoor
theorem AD{p:Prop}(h:p:=by refine go ?_;rw [<-eo,<-es,<-el];refine Cv (⟨k+1,_,_,_,_,_,_,_,_,_⟩:TkS) (by show k+1<=l.length;omega) (by show l.length - (k+1) < l.length - k;omega)):p:=h
theorem AK{p:Prop}(h:p:=by refine dk ?_;refine dN 7 ?_;refine No (Q8 ⟨n,1,ck+d,0⟩) Dg fun a8 c8 F8=>?_;refine dk ?_;refine dN 11 ?_;refine M0 (ys:=l.drop (D8 base l n)) Dg Ee (h63:=by simp;omega) (hby:=by simp;omega) fun a9 c9 F9=>?_;refine dk ?_;refine dt 12 ?_;refine dd ?_;rw [hAdd];refine go ?_;refine ret ⟨_,_,_⟩ trivial rfl):p:=h
theorem AO{p:Prop}(h:p:=by refine Bw (Iz n.up _ _ F7 (by have:=hs.u;omega) (fun q hq=>by have:=hs.uq q hq;omega)) fun s7 _=>?_;refine dk ?_;refine dt 14 ?_;refine dN 16 ?_;refine oS ?_;refine dk ?_;refine dd ?_;refine Cs (⟨_,b1,d1,G1,b2,d2,G2,b3,d3,G3,_,_,_,_⟩:ClN) trivial):p:=h
theorem BK{p:Prop}(h:p:=by refine ret (_,_) trivial rfl):p:=h
theorem BT{p:Prop}(h:p:=by refine go ?_;refine ret ⟨_,_,_⟩ trivial rfl):p:=h
theorem BZ{p:Prop}(h:p:=by apply wO;refine No (ys:=[l[k].Ab]) (U5 _) Dw fun a8 c8 F8=>?_;refine go ?_;intros;apply wO;refine No (ys:=[(⟨l[k].Ab,2,c+3,l[k].Ch+1⟩:Aw)]) (M2 (⟨l[k].Ab,2,c+3,l[k].Ch+1⟩:Aw)) Dg fun a7 c7 F7=>?_;exact AD):p:=h
theorem CB{p:Prop}(h:p:=by refine Cv (⟨i+1,_,_,_⟩:AwS) (by show i+1<=N.length;omega) (by show N.length - (i+1) < N.length - i;omega)):p:=h
theorem CC{p:Prop}(h:p:=by obtain ⟨a',c',rfl⟩:=h1.slice;exact ⟨(a',c',F'),trivial,rfl,⟨h2,h1⟩,fun b hb=>.inl (h3 b hb),h4⟩):p:=h
theorem CK{p:Prop}(h:p:=by refine go ?_;refine ret z trivial rfl):p:=h
theorem CP{p:Prop}(h:p:=by refine go ?_;refine Tg ?_;refine Cv (hH:=Jx _) (q+1,j) ⟨by show q+1<=j;omega,h2,fun k hk h=>hm k q (by have:k < q+1:=hk;omega) hh h6,h4⟩ (by show j - (q+1) < j - i;omega)):p:=h
theorem CQ{p:Prop}(h:p:=by refine go ?_;refine Tg ?_;refine Cv (hH:=Jx _) (i,q) ⟨by show i<=q;omega,by show q<=xs.length;omega,h3,fun k hk h hn=>h6 (hm q k hk h hn)⟩ (by show q - i < j - i;omega)):p:=h
theorem CR{p:Prop}(h:p:=by refine go ?_;refine ret () trivial ?_;rw [show Dx x=decide ((x.Aj.length:Int)=0) by unfold Dx;rw [g1,hs];unfold Ob;rw [au h1,au (show x.Aa.Am.length=0 by omega)];simp];rfl):p:=h
theorem CX{p:Prop}(h:p:=by rintro hi b o e;rw [e];refine go ?_;apply wO;refine Ack rfl rfl hb Tt ?_;refine cb (fun w st=>hp xs[i] (aE hh) w (fun p hp=>st.on p (by simp [hp]))) ?_;exact AB):p:=h
theorem CY{p:Prop}(h:p:=by refine go ?_;refine ret (a2,c2,F2) trivial rfl):p:=h
theorem DC{p:Prop}(h:p:=by refine go ?_;refine ret ⟨_,_,_,_,_,_⟩ trivial rfl):p:=h
theorem DD{p:Prop}(h:p:=by refine ret (_,_,_) trivial rfl):p:=h
theorem DI{p:Prop}(h:p:=by refine go ?_;rw [<-eo];refine Cv (⟨k+1,_,_,_⟩:PkS) (by show k+1<=sn.length;omega) (by show sn.length - (k+1) < sn.length - k;omega)):p:=h
theorem DR{p:Prop}(h:p:=by refine go ?_;refine ret () trivial ?_;show Value.bool _=Value.bool _;congr 1;unfold Bh;rw [g1,g2,g3,g4,g5,au h6,ay h7,ay h8];rfl):p:=h
theorem DU{p:Prop}(h:p:=by apply wO;refine No (ys:=[(⟨l[k].Ab,1,c+d,l[k].Ch⟩:Aw)]) (M2 (⟨l[k].Ab,1,c+d,l[k].Ch⟩:Aw)) Dg fun a7 c7 F7=>?_;exact AD):p:=h
theorem EE{p:Prop}(h:p:=by refine go ?_;refine ret () trivial ?_;show Value.bool _=Value.bool _;congr 1;unfold Bh;rw [g1,g2,g3,g4,g5,au h6,au h8];simp):p:=h
theorem EG{p:Prop}(h:p:=by refine go ?_;refine ret () trivial ?_;show Value.bool _=Value.bool _;congr 1;unfold Bh;rw [g1,g2,g3,g4,g5,au h6,au h7];rfl):p:=h
theorem EI{p:Prop}(h:p:=by rw [<-Rm ho];refine go ?_;rw [show l.length=(Ok base l n (ck+4)).length from hcl.symm];refine ret ⟨_,_,_⟩ trivial rfl):p:=h
theorem EW{p:Prop}(h:p:=by simp [Value.oneCell']):p:=h
theorem FA{p:Prop}(h:p:=by simp only [aw,aK,aV];omega):p:=h
theorem FD{p:Prop}(h:p:=by intro b hb;simp only [Pc.F] at hb ⊢;simp [hb]):p:=h
theorem GB{p:Prop}(h:p:=by exact I2):p:=h
theorem GE{p:Prop}(h:p:=by rw [hBl];congr 1;show _=min (xs.length+1 - i) (xs.length+1 - (i+1));omega):p:=h
theorem GI{p:Prop}(h:p:=by rw [hBl];congr 1;show _=min (xs.length - i) (xs.length+1 - (i+1));omega):p:=h
theorem GK{p:Prop}(h:p:=by simp [aJ]):p:=h
theorem GL{p:Prop}(h:p:=by intro e;have:=congrArg List.length e;simp only [aw,aV] at this;omega):p:=h
theorem GP{p:Prop}(h:p:=by show l.length - (k+1) < l.length - k;omega):p:=h
theorem GQ{p:Prop}(h:p:=by show (0:Nat)<=maxLen;exact aD _):p:=h
theorem GS{p:Prop}(h:p:=by rw [be];omega):p:=h
theorem GW{p:Prop}(h:p:=by intro b hb;simp only [Pc.F] at hb ⊢;exact hG b (by simp [hb])):p:=h
theorem HA{p:Prop}(h:p:=by intro u hu;simp at hu;rcases hu with rfl|rfl|rfl|rfl <;> rfl):p:=h
theorem HG{p:Prop}(h:p:=by simp only [aw];omega):p:=h
theorem HM{p:Prop}(h:p:=by rw [hcs];simp [hu]):p:=h
theorem IA{p:Prop}(h:p:=by rw [Hv hk];simp [Sm,h5,h6,h7]):p:=h
theorem IB{p:Prop}(h:p:=by rw [Hv hk];simp [Qh,h5,h6,h7]):p:=h
theorem IC{p:Prop}(h:p:=by rw [Hv hk];simp [Nq,h5,h6,h7]):p:=h
theorem ID{p:Prop}(h:p:=by cases hn):p:=h
theorem IN{p:Prop}(h:p:=by rw [Ab8,Ace (by omega)];exact Wh 5 _ (by have:(10:Nat) ^ (5+1)=1000000:=rfl;omega)):p:=h
theorem JI{p:Prop}(h:p:=by rw [aJ A B rest,hXY];simp [aJ]):p:=h
end Go.Proofs.YtmckdnddocfodaaGreatDoor
namespace Go.Proofs.YtmckdnddocfodaaGreatDoor
open Go.RowKit
def bz (l:Bs):am:=⟨l.toArray⟩
theorem Amr (l:Bs):(bz l).data.toList=l:=by simp [bz]
theorem Axt (s:am):bz s.data.toList=s:=by simp [bz]
theorem Ab8 (l:Bs):(bz l).size=l.length:=by simp [bz,ByteArray.size]
theorem Ayo (a b:Bs):bz a++bz b=bz (a++b):=by apply ByteArray.ext;simp [bz,eG]
theorem Ait (s t:am):(s++t).data.toList=s.data.toList++t.data.toList:=by simp [eG]
theorem Ahv {a b:am} (h:a=b):Ending.returned (af a)=.returned (af b):=by rw [h]
theorem Ak6 (w:World) (k:Nat) (os:Array Obj):Below w.heap.size w (Go.Sort.grow (w.drewN k) os):=by
 refine ⟨rfl,rfl,rfl,?_,fun i hi=>?_⟩
 ·simp [Go.Sort.grow,World.drewN]
 ·simp [Go.Sort.grow,World.drewN,fe hi]
theorem Aac:∀n:Nat,n < 10->(⟨#[48,49,50,51,52,53,54,55,56,57]⟩:am).extract n (n+1)=⟨#[UInt8.ofNat (48+n)]⟩:=by decide
theorem Av6:∀(k n:Nat) (w:World),n < 10 ^ (k+1)->n<=999999999999999999 ->
  Calls prog 198 #[aa (n:Int)] w fun e w'=>e=.returned (af (bz (Lib.decDigits n)))/\∃j,w'=w.drewN j:=by
 intro k
 induction k with
 | zero =>
  intro n w h1 h2;have h3:n < 10:=GU
  have hd:=Lib.hid (Aac n h3);have hn:¬((n:Int) < 0):=EM
  go_enter func198,ntmps198
  go_wp2_with fail
  go_ret
  refine ⟨Ahv ?_,0,rfl⟩;rw [hd.out,Lib.decDigits,fC h3];rfl
 | succ k ih =>
  intro n w h1 h2;by_cases h3:n < 10
  ·have hd:=Lib.hid (Aac n h3);have hn:¬((n:Int) < 0):=EM
   go_enter func198,ntmps198
   go_wp2_with fail
   go_ret
   refine ⟨Ahv ?_,0,rfl⟩;rw [hd.out,Lib.decDigits,fC h3];rfl
  ·have h4:n / 10 < 10 ^ (k+1):=by rw [fU] at h1;omega
   have hc:=fun w=>ih (n / 10) w h4 EM;rw [show ((n / 10:Nat):Int)=(n:Int) / 10 from by omega] at hc;have hn:¬((n:Int) < 0):=EM
   have h5:¬((n:Int) < 10):=EM
   have hd:=Lib.hid (Aac (n % 10) EM);have b0:(0:Int)<=(n:Int) % 10:=EM
   have b1:(n:Int) % 10<=9:=EM
   have e0:IntKind.i64.wrap ((n:Int) / 10)=(n:Int) / 10:=by rw [IntKind.wrap_i64];omega
   have e1:IntKind.i64.wrap ((n:Int) % 10)=(n:Int) % 10:=by rw [IntKind.wrap_i64];omega
   have e2:IntKind.i64.wrap ((n:Int) % 10+1)=(n:Int) % 10+1:=by rw [IntKind.wrap_i64];omega
   have e3:((n:Int) % 10).toNat=n % 10:=EM
   have e4:((n:Int) % 10+1).toNat=n % 10+1:=EM
   have e5:(n:Int).tmod 10=(n:Int) % 10:=eZ EM;have e6:(n:Int).tdiv 10=(n:Int) / 10:=ff EM;have hsl:∀wx,(Instr.slice 9 (af ⟨#[48,49,50,51,52,53,54,55,56,57]⟩) (some (aa ((n:Int) % 10))) (some (aa ((n:Int) % 10+1))) none).run prog wx=.ok (af ⟨#[UInt8.ofNat (48+n % 10)]⟩) wx:=fun wx=>by
    have h6:=run_slice_string (P:=prog) wx 9 ⟨#[48,49,50,51,52,53,54,55,56,57]⟩ .i64 .i64 ((n:Int) % 10) ((n:Int) % 10+1) underlying9 EM EM (by show _<=((10:Nat):Int);omega);rw [h6,e3,e4,hd.out]
   have hD:(bz (Lib.decDigits (n / 10))).size<=18:=by rw [Ab8];exact Wh 17 _ EM
   have hd1:(⟨#[UInt8.ofNat (48+n % 10)]⟩:am).size<=1:=by simp [ByteArray.size]
   have hR:Hid (bz (Lib.decDigits (n / 10))++⟨#[UInt8.ofNat (48+n % 10)]⟩=bz (Lib.decDigits n)):=by
    refine Lib.hid ?_
    conv=>rhs;rw [Lib.decDigits,dif_neg EM,<-Ayo]
    rfl
   generalize bz (Lib.decDigits (n / 10))=D at *;generalize (⟨#[UInt8.ofNat (48+n % 10)]⟩:am)=d at *;clear ih h1 e3 e4
   go_enter func198,ntmps198
   go_wp2_with fail
   go_quiet ((go_at_call 198;exact Calls.quiet_of (v:=af D) (hc (World.drewN _ _))))
   go_wp2_with fail
   go_ret
   refine ⟨Ahv ?_,_,rfl⟩;exact hR.out
def Bbt:B8 Unit where
 sz:=0
 L5 w cs _ F:=cs=[]/\Lib.TabIs prog w "internal/strconv.uint64pow10" .u64 Lib.pow10Tab/\F=[0]/\∀b∈F,b < w.heap.size
 len h:=by simp [h.1]
 lt h:=h.2.2.2
 frame h hF:=by
  obtain ⟨h1,h2,rfl,h6⟩:=h;have e0:=hF 0 EO;refine ⟨h1,?_,rfl,fun b hb=>?_⟩
  ·unfold Lib.TabIs World.var? at h2 ⊢;rw [show prog.globalNamed "internal/strconv.uint64pow10" = some 0 by kernel_rfl] at h2 ⊢;simp only [eD] at h2 ⊢;rw [e0];exact h2
  ·have e:=hF b hb;have:=h6 b hb;rw [Array.getElem?_eq_getElem this] at e;exact (dm.1 e).1
def Nx (FT:ak):Pc:=.isv Bbt (.agg #[]) () FT
theorem Nx.env {w:World} {FT:ak} (h:(Nx FT).P w):Lib.TabIs prog w "internal/strconv.uint64pow10" .u64 Lib.pow10Tab/\True:=by
 obtain ⟨cs,_,h⟩:=h;exact ⟨h.2.1,trivial⟩
theorem Ay2 (n:Int) (h0:-9223372036854775808<=n) (h1:n<=9223372036854775807) (FT:ak) (w:World) (hT:(Nx FT).P w) :
  Calls prog 129 #[aa n] w (RB (af (bz (Lib.itoa n))) w):=by
 refine (Tryz.strconv_Itoa n h0 h1 w (Nx.env hT).1).mono ?_;rintro e w' ⟨rfl,k,os,rfl⟩;exact ⟨rfl,Ak6 w k os⟩
theorem Ba7 (n:Nat) (hn:n<=999999) (w:World):Calls prog 198 #[aa (n:Int)] w (RB (af (bz (Lib.decDigits n))) w):=by
 refine (Av6 5 n w EM EM).mono ?_;rintro e w2 ⟨rfl,j,rfl⟩;exact ⟨rfl,Iv (Below.refl _ _) j⟩
def Lf (i:Nat) (e:am):am:=bz (Lib.itoa ((i:Nat):Int))++⟨#[32]⟩++e
def Q2 (i:Nat) (es:ah):ah:=es.map (Lf i)
def Ij (i:Nat):Int:=1+((i:Nat):Int) % 3
section
variable {c:Cx} {fr:Fr} {H:List Pc} {Φ:Gl}
theorem N0 {a:ai} {n cp:Nat} {xs:List Ar} {F:ak} (i:Nat) (h:∀(hi:i < xs.length) (b o:Nat),a=some ⟨b,o,none⟩->xs[i].data.size<=maxLen->T c fr (.cel b (o+i * 5) [aa xs[i].Bd,aa xs[i].Ab,aa xs[i].Al,aa xs[i].Cy,af xs[i].data]::H) Φ) (hm:.sl Ap (ab a n cp) xs F∈H:=by exact Cb) (hi:i < xs.length:=by omega):T c fr H Φ:=.mk fun ac w s g=>by
 exact AU
theorem Aoo {t:TypeId} {a:ai} {n cp:Nat} {xs:List Ar} {F:ak} {S:List Pc} (i:Nat) (h:∀(_:i < xs.length) g A B,a=some ⟨g,0,none⟩->F=[g]->xs[i].data.size<=maxLen->Aq2 Ap t g (ab (some ⟨g,0,none⟩) n cp) xs i A B->T c fr (.row g t (0+i * 5) A [aa xs[i].Bd,aa xs[i].Ab,aa xs[i].Al,aa xs[i].Cy,af xs[i].data] B::S) Φ) (hp:De H (.ow Ap t (ab a n cp) xs F) S:=by exact En) (hi:i < xs.length:=by omega):T c fr H Φ :=
 Qq Kt i (fun hi g A cs B ha hF hr hh=>by obtain ⟨rfl,s1, -⟩:=hr default;exact h hi g A B ha hF s1 hh) hp rfl hi
theorem Dj (x:Ar) (s1:x.data.size<=maxLen) (w:World):C6 Ap w [aa x.Bd,aa x.Ab,aa x.Al,aa x.Cy,af x.data] [x] []:=⟨_,[],[],[],EO,EO,⟨rfl,s1,rfl⟩,rfl,rfl⟩
end
section
variable {c:Cx} {fr:Fr} {H:List Pc} {Φ:Gl}
theorem O0 {α:Type} {E:B8 α} {hz:0 < E.sz} {a:ai} {n cp:Nat} {xs:List (List α)} {F:ak} (i:Nat) (h:∀(hi:i < xs.length) (b o:Nat) (a1:ai) (c1:Nat) (F1:ak),a=some ⟨b,o,none⟩->xs[i].length<=maxLen->T c fr (.cel b (o+i * 1) [.slice a1 xs[i].length c1]::.sl E (.slice a1 xs[i].length c1) xs[i] F1::H) Φ) (hm:.sl (Nr E hz) (ab a n cp) xs F∈H:=by exact Cb) (hi:i < xs.length:=by omega):T c fr H Φ:=.mk fun ac w s g=>by
 obtain ⟨b,o,cs,G,ha,hrep,hG,hb,hne,hr⟩:=Vm (s.get hm) i hi;obtain ⟨v1,rfl,h1⟩:=hrep;obtain ⟨a1,c1,rfl⟩:=h1.slice;have l1:=h1.len;have t1:=s.ro (p:=.sl E (.slice a1 xs[i].length c1) xs[i] G) hm rfl rfl ⟨hz,h1⟩ GW;exact (h hi b o a1 c1 G ha l1).h ac w (t1.ro (aN _ hm) rfl rfl ⟨hne,hr⟩ FM) g
theorem Wo {α:Type} {O:B8 α} {t:TypeId} {v:Value} {xs:List α} {F:ak} {S:List Pc} (h:∀(a1:ai) (c1:Nat),v=.agg #[ab a1 xs.length c1]->xs.length<=maxLen->T c fr (.ow O t (ab a1 xs.length c1) xs F::S) Φ) (hp:De H (.Mw (Jo O t) v xs F) S:=by exact En):T c fr H Φ:=.mk fun a w s g=>by
 have z1:=s.pick hp;obtain ⟨hn,cs,rfl,v1,rfl,h1⟩:=z1.on (.Mw (Jo O t) v xs F) EO;obtain ⟨a1,c1,rfl⟩:=h1.slice;have l1:=h1.len;exact (h a1 c1 rfl l1).h a w (z1.conv rfl ⟨hn,h1⟩ (fun b hb=>hb)) g
theorem Lo {α:Type} {O:B8 α} {t:TypeId} (xs:List α) {a1:ai} {c1:Nat} {F:ak} {S:List Pc} (h:T c fr (.Mw (Jo O t) (.agg #[ab a1 xs.length c1]) xs F::S) Φ) (hp:De H (.ow O t (ab a1 xs.length c1) xs F) S:=by exact En):T c fr H Φ:=.mk fun a w s g=>by
 have z1:=s.pick hp;obtain ⟨hn,h1⟩:=z1.on (.ow O t (ab a1 xs.length c1) xs F) EO;exact h.h a w (z1.conv rfl ⟨hn,_,rfl,_,rfl,h1⟩ (fun b hb=>hb)) g
end
theorem Ahz:∀(A:List Pc),A.all (fun p=>!p.mu)=true->Rj A
 | [],_=>trivial
 | p::A,h=>by
  simp only [dK,av,bv] at h;exact ⟨fun q hq hm=>by
   have hq':=aQ.1 h.2 q hq;simp only [bv] at hq';rw [h.1,hq'] at hm;simp at hm,Ahz A h.2⟩
section
variable {c:Cx} {fr:Fr} {H:List Pc} {d:Nat} {Φ:Gl}
theorem cfr {f:Nat} {vs:aj} {σ:Type} {C:σ->Prop} {vv:σ->Value} {N:σ->List Pc} (hf:∀w,St c.G c.D c.w0 H w->∃A,Nh A w/\A.all (fun p=>!p.mu)=true/\Fn c.P f vs A [] C vv N)
  (h:∀s,C s->T c ((d,vv s)::fr) (N s++H) Φ) (hN:∀s,(N s).all (·.mu)=true:=by intro s;rfl):Cl c fr H d f vs Φ :=
 Yq (R:=fun w e w'=>∃s,C s/\e=.returned (vv s)/\Nh (N s) w'/\Rj (N s)/\Gc [] w w'/\∀p∈N s,∀b∈p.F,w.heap.size<=b)
  (fun w s=>by
   obtain ⟨A,hA,hm,hF⟩:=hf w s;refine (hF w IK (by simpa using Ahz A hm)).mono fun e w' ⟨z,hz,he,h1,h2,h3,h4⟩=>⟨z,hz,he,h1,h2,h3,fun p hp b hb=>?_⟩;rcases h4 p hp b hb with h|⟨q,hq, -⟩|⟨hp', -⟩
   ·exact h
   ·cases hq
   ·have:=aQ.1 (hN z) p hp;rw [hp'] at this;cases this)
  (fun w e w' s ⟨z,hz,he,h1,h2,h3,h4⟩=>⟨_,he,fun a g=>(h z hz).h a w' (St.turn (M:=[]) (R:=H) (N:=N z) s h3 h1 h2 fun p hp b hb=>.inl (h4 p hp b hb)) g⟩)
theorem Atx {M A R:List Pc} (hm:M.all (·.mu)=true) (hA:A.all (fun p=>!p.mu)=true) (hb:∀p∈A,∀b∈p.F,∃q∈R,b∈q.F):Rj (M++R)->Rj (M++A):=by
 induction M with
 | nil=>intro _;exact Ahz A hA
 | cons p M ih =>
  simp only [dK,av] at hm;intro s;refine ⟨fun q hq=>?_,ih hm.2 s.2⟩;rcases aG.1 hq with h|h
  ·exact s.1 q (by simp [h])
  ·intro _ b hp hq2;obtain ⟨r,hr,hbr⟩:=hb q h b hq2;exact s.1 r (by simp [hr]) (by rw [hm.1];rfl) b hp hbr
theorem cfm {f:Nat} {vs:aj} {M R:List Pc} {σ:Type} {C:σ->Prop} {vv:σ->Value} {N:σ->List Pc} (hM:J3 H M R) (hf:∀w,St c.G c.D c.w0 (M++R) w->∃A,Nh A w/\A.all (fun p=>!p.mu)=true/\(∀p∈A,∀b∈p.F,∃q∈R,b∈q.F)/\Fn c.P f vs A M C vv N)
  (h:∀s,C s->T c ((d,vv s)::fr) (N s++R) Φ) (hmM:M.all (·.mu)=true:=by rfl) (hN:∀s,(N s).all (·.mu)=true:=by intro s;rfl):Cl c fr H d f vs Φ :=
 have hMR:∀w,St c.G c.D c.w0 H w->St c.G c.D c.w0 (M++R) w:=fun w s=>by simpa using hM.st (X:=[]) HI
 have hmu:∀p∈M,p.mu=true:=fun p hp=>aQ.1 hmM p hp
 Yq (R:=fun w e w'=>∃s,C s/\e=.returned (vv s)/\Nh (N s) w'/\Rj (N s)/\Gc (fp M) w w'/\∀p∈N s,∀b∈p.F,w.heap.size<=b\/∃q∈M,b∈q.F)
  (fun w s=>by
   obtain ⟨A,hA,hm,hb,hF⟩:=hf w (hMR w s);have s2:=hMR w s;refine (hF w (fun p hp=>?_) (Atx hmM hm hb s2.sep)).mono fun e w' ⟨z,hz,he,h1,h2,h3,h4⟩=>⟨z,hz,he,h1,h2,h3,fun p hp b hb=>?_⟩
   ·rcases aG.1 hp with hp|hp
    ·exact s2.on p HF
    ·exact hA p hp
   ·rcases h4 p hp b hb with h|h|⟨hp', -⟩
    ·exact DS
    ·exact .inr h
    ·have:=aQ.1 (hN z) p hp;rw [hp'] at this;cases this)
  (fun w e w' s ⟨z,hz,he,h1,h2,h3,h4⟩=>⟨_,he,fun a g=>(h z hz).h a w' (St.turn (hMR w s) (by rwa [dw.2 hmu]) h1 h2 fun p hp b hb=>by
   rcases h4 p hp b hb with h|⟨q,hq,hqb⟩
   ·exact DS
   ·exact .inr (.inl ⟨q,hq,hmu q hq,hqb⟩)) g⟩)
theorem Aa3 {α:Type} {E:B8 α} (Q:α->Prop) (hQ:∀w cs x F,E.L5 w cs x F->Q x) {a:ai} {n cp:Nat} {xs:List α} {F:ak} (h:(∀x∈xs,Q x)->T c fr H Φ) (hm:.sl E (ab a n cp) xs F∈H:=by exact Cb):T c fr H Φ:=.mk fun ac w s g =>
 (h fun x hx=>by
  obtain ⟨k,hk,rfl⟩:=aR hx;obtain ⟨-,hs⟩:=s.get hm;obtain ⟨-, -,cs,F1, -,h1, -, -⟩:=hs.at k hk;exact hQ _ _ _ _ h1).h ac w s g
theorem Va {P:Program} {fn:Func} {G D:ak} {w0:World} {n:Nat} {R:Ending->World->Prop} (h:T ⟨P,G,D,w0,n,bodyPost P fn R⟩ fr H (.fin .ret)):T ⟨P,G,D,w0,n,bodyPost P fn R⟩ fr H (.norm []):=Ba1 ⟨fun a w s g=>h.h a w s g⟩
end
section
variable {P:Program} {ops:Array Oper} {Q:Exit->Act->World->Prop} {md:Region.Mode} {S:World->Prop} {X:Nat->Bool}
theorem I4.firstP {i:Nat} {oi:Oper} {v:Value} (hi:ops[i]?=some oi) (hsel:∀(j:Nat) (o:Oper) cs b,ops[j]?=some o->o.op≠.select cs b)
  (hQ:∀c a w,Q (.panic c) (a.put oi.dst v) w->Q (.panic c) a w) (hXi:X i=true) :
  ∀(f:Nat) (listed:Array Bool) (a:Act) (w:World),
   (∀j oj,ops[j]?=some oj->j≠i->listed.getD j true=false->(∀e∈oj.after,Region.binds md e=true->e.on≠i)->oi.apart ops oj=true) ->
   i∈Region.ready md ops listed->YieldsIf P ops (fun _=>True) oi v a->I4 P md ops Q S X f (listed.setIfInBounds i true) (a.put oi.dst v) w->I4 P md ops Q S X (f+1) listed a w:=by
 intro f
 induction f with
 | zero =>
  intro listed a w _ hr hy H;refine ⟨fun h=>GY,fun j hj=>?_⟩;by_cases hji:j=i
  ·subst hji;exact hy.wpOp hi trivial ⟨(fun h=>by rw [hXi] at h;cases h),H⟩
  ·have:=ready_mono hj hji;rw [H.1] at this;cases this
 | succ f ih =>
  intro listed a w hfree hr hy H;refine ⟨fun h=>GY,fun j hj=>?_⟩;by_cases hji:j=i
  ·subst hji;exact hy.wpOp hi trivial ⟨(fun h=>by rw [hXi] at h;cases h),H⟩
  ·obtain ⟨hju,oj,hoj,hall⟩:=mem_ready.1 hj;have hiu:=Wc (mem_ready.1 hr).1;have hnot:∀e∈oj.after,Region.binds md e=true->e.on≠i:=fun e he hb heq=>by
    have h1:=hall e he hb;rw [heq,hiu] at h1;cases h1
   have h2:=wpOp_putIf hoj (hfree j oj hoj hji hju hnot) (fun cs b=>hsel i oi cs b hi) (fun cs b=>hsel j oj cs b hoj) hQ hy (H.2 j (ready_mono hj hji));refine wpOp_mono (fun a' w' h3=>⟨h3.2.1,ih (listed.setIfInBounds j true) a' w' (fun k ok hk hki hun hno=>hfree k ok hk hki ?_ hno) (ready_mono hr (Ne.symm hji)) h3.1 ?_⟩) h2
   ·by_cases hjk:j=k
    ·subst hjk;exact hju
    ·rw [getD_set_ne true hjk] at hun;exact hun
   ·rw [dV _ _ hji];exact h3.2.2
theorem I4.takeP {i:Nat} {oi:Oper} {v:Value} {f:Nat} {listed:Array Bool} {a:Act} {w:World} (hi:ops[i]?=some oi)
  (hs:Region.noSelect ops=true) (hf:Region.free md ops listed i=true) (hr:(Region.ready md ops listed).contains i=true) (hXi:X i=true)
  (hQ:∀c a w,Q (.panic c) (a.put oi.dst v) w->Q (.panic c) a w) (hy:YieldsIf P ops (fun _=>True) oi v a)
  (h:I4 P md ops Q S X f (listed.setIfInBounds i true) (a.put oi.dst v) w):I4 P md ops Q S X (f+1) listed a w :=
 I4.firstP hi (Region.noSelect_spec hs) hQ hXi f listed a w (Region.free_spec hi hf) FL hy h
end
section
variable {c:Cx} {fr:Fr} {H H0:List Pc} {k:List It} {X:ak} {ops:Array Oper} {f:Nat} {listed:Array Bool} {d:Nat} {o:Op} {ty:TypeId} {pos:String} {A8:Array Edge} {v:Value}
theorem Xn (i:Nat) (h:T c ((d,v)::fr) H (.dx k H0 X ops f (listed.setIfInBounds i true))) (ho:ops[i]?=some ⟨some d,o,ty,pos,A8,none⟩:=by rw [aW];rfl) (hy:Yd c.P c.n fr [] o ty v:=by exact ydE) (hX:X.contains i=true:=by rfl)
  (h1:Region.noSelect ops=true:=by kernel_rfl) (h2:Region.free .any ops listed i=true:=by kernel_rfl) (h3:(Region.ready .any ops listed).contains i=true:=by kernel_rfl) (hR:Vq c:=by exact W9) (hd:Nat.blt d c.n=true:=by rfl) :
  T c fr H (.dx k H0 X ops (f+1) listed):=.mk fun a w s g =>
 I4.takeP (v:=v) ho h1 h2 h3 hX (fun ch a w hp=>by rw [Ly] at hp ⊢;exact hR _ _ _ _ _ hp) (.inl ⟨rfl,fun w' _=>hy.h a w' _ _ _ _ g (by intro p hp;simp at hp)⟩) (h.h _ _ s (g.put hd))
theorem Avi {c:Cx} {fr:Fr} {H:List Pc} {k:List It} {x y:Code} {σ:Type} {cst:Fr} {rest:List Pc} (ks rs:ak) (Ui:σ->Fr) (chg:σ->List Pc) (C:σ->Prop) (h:T c fr H (.Cd (.cd y::.lp (Jn c (fun s=>Ui s++cst) (fun s=>chg s++rest) C)::k) x)) (h2:∀s,C s->T c (Ui s++cst) (chg s++rest) (.norm k))
  (_hk:Kf fr ks cst:=by repeat (first|exact Kf.nil|apply Kf.cons FC)) (_hr:Sel H rs rest:=by repeat constructor):T c fr H (.Cd (.cd y::k) x):=.mk fun a w s g=>by
 refine wp_mono (h.h a w s g) fun e a1 w1 he=>?_;cases e with
 | normal =>
  refine wp_mono he fun e a2 w2 he=>?_;cases e with
  | normal=>obtain ⟨s,hC,hs,hg⟩:=he;exact (h2 s hC).h a2 w2 hs hg
  | _=>exact he
 | _=>exact he
end
section
variable {c:Cx} {fr:Fr} {H H0:List Pc} {k:List It} {Φ:Gl} {X:ak} {ops:Array Oper} {f:Nat} {listed:Array Bool} {d:Nat} {o:Op} {ty:TypeId} {v u:Value} {x y:Operand}
theorem Acq {α:Type} {O R:B8 α} (hW:Ny O R) {t:TypeId} {v:Value} {xs:List α} {F:ak} {S:List Pc} (h:∀F',T c fr (.sl R v xs F'::S) Φ) (hp:De H (.ow O t v xs F) S:=by exact En) (hz:0 < R.sz:=by decide):T c fr H Φ:=.mk fun a w s g=>by
 have s1:=s.pick hp;obtain ⟨-,ho⟩:=s1.on (.ow O t v xs F) EO;obtain ⟨F',hF,hs⟩:=ho.sl hW;exact (h F').h a w (s1.conv rfl ⟨hz,hs⟩ hF) g
theorem Put.all:∀{zs l:aj},zs.length=l.length->Put zs 0 l l
 | [],[],_=>.zero
 | [],_::_,h=>by simp at h
 | _::_,[],h=>by simp at h
 | _::zs,_::l,h=>.one (Put.all EU)
theorem cm {f:Nat} {vs:aj} {σ:Type} {C:σ->Prop} {vv:σ->Value} {N:σ->List Pc} (hc:∀w,St c.G c.D c.w0 H w->Calls c.P f vs.toArray w fun e w'=>∃s,C s/\e=.returned (vv s)/\Nh (N s) w'/\(fp (N s)).Nodup/\(∀b∈fp (N s),w.heap.size<=b)/\Below w.heap.size w w')
  (h:∀s,C s->T c ((d,vv s)::fr) (N s++H) Φ):Cl c fr H d f vs Φ :=
 Yq hc (fun w e w' s hR=>by
  obtain ⟨z,hz,he,hN,hn,hF,hB⟩:=hR;have sep:∀{N:List Pc},(fp N).Nodup->Rj N:=by
   intro N
   induction N with
   | nil=>intro _;trivial
   | cons p N ih =>
    intro h;rw [fp,bF] at h;exact ⟨fun q hq _ b hb hq2=>h.2.2 b hb b (O8.2 ⟨q,hq,hq2⟩) rfl,ih h.2.1⟩
  exact ⟨_,he,fun ac g=>(h z hz).h ac w' (s.add (N:=N z) hB hN (sep hn) (fun p hp b hb=>.inl (hF b (O8.2 ⟨p,hp,hb⟩)))) g⟩)
end
/-! contracts, with what they ask read off pieces -/
section
variable {G D:ak} {w0 w:World} {H:List Pc}
end
theorem N2 {α:Type} {l:List α} {i:Nat} (h:i < l.length) (x:α):l.getD i x=l[i]:=by rw [aT,aB h];rfl
theorem Aau (d:List (List Ar)) (i:Nat) (p:Ar) (a:ai) (n c:Nat) (F:ak) (hn:n=d.length) (hi:i < d.length) (hs:p.data.size<=maxLen):Fn prog 66 [ab a n c,aa (i:Nat),.agg #[aa (p).Bd,aa (p).Ab,aa (p).Al,aa (p).Cy,af (p).data]] [] [.ow (Jo Ap 103) 85 (ab a n c) d F] (fun (_:ak)=>True) (fun _=>.tuple #[]) (fun G=>[.ow (Jo Ap 103) 85 (ab a n c) (d.set i (Er d[i] p)) G]):=by
 refine enter func66 rfl ntmps66 fun w0=>?_;refine Aae (m:=1) i ?_ rfl hi;rintro _ g A cs B k1 k2 G1 Gi G2 rfl - hc hH;refine Wo ?_;rintro a5 c5 ev l5;obtain rfl:=Oe ev;refine go ?_;intros;refine Bf rfl (fun h1=>?_) (fun h1=>?_)
 ·have h6:d[i].length < 6:=EM
  rw [show Er d[i] p=d[i]++[p] by unfold Er;rw [ar h6]];refine go ?_;refine As [0,2] [10] ?_;refine D7 0 1 2 3 ?_;refine Ek 4 5 ?_;refine dt 6 ?_;refine dN 7 ?_;apply In;rfl;rfl;rfl;rfl;exact Ik;exact Ie;intro _;refine dk ?_;refine dN 8 ?_;refine No (ys:=[p]) (Dj p hs) Ig fun a7 c7 F7=>?_;refine dk ?_;refine dt 9 ?_;refine dN 10 ?_;refine oS ?_;refine Pg ?_;refine dd ?_;refine Lo (d[i]++[p]) ?_;refine go ?_;refine Vb _ hH rfl fun F6=>?_;refine Va ?_;refine ret F6 trivial rfl
 ·rw [show Er d[i] p=d[i] by unfold Er;rw [aq EM]];refine go ?_;refine Lo d[i] ?_;refine Vb _ hH rfl fun F6=>?_;refine Va ?_;refine ret F6 trivial rfl
theorem Agi (q l:List Ar) (p:Ar):Da q (l++[p])=Er (Da q l) p:=by
 unfold Da Er;by_cases h:l.length < 6 - q.length
 ·rw [bc (by rw [aw];simp;omega),bc EM,ar HC,aJ]
 ·have e:(l++[p]).take (6 - q.length)=l.take (6 - q.length):=by rw [List.take_append_of_le_length EM]
  rw [e,aq (by rw [aw,aL];omega)]
def Qt (s:List (List Ar)) (i:Nat) (ps:List Ar):List (List Ar):=s.modify i fun q=>Da q ps
theorem Agf (s:List (List Ar)) (i:Nat) (ps:List Ar):(Qt s i ps).length=s.length:=cB ..
theorem Agg (s:List (List Ar)) (i:Nat):Qt s i []=s:=by
 unfold Qt;by_cases h:i < s.length
 ·rw [Hk h,Aj3,bu]
 ·exact Xw h
theorem Ad4 {s:List (List Ar)} {i j:Nat} {ps:List Ar} (hi:i < s.length) (hj:j < ps.length) (h:i < (Qt s i (ps.take j)).length):(Qt s i (ps.take j)).set i (Er (Qt s i (ps.take j))[i] ps[j])=Qt s i (ps.take (j+1)):=by
 unfold Qt;simp only [Hk hi];rw [eH,List.set_set,aZ hj,Agi]
theorem Abx {d:List (List Ar)} {nodes:al} {ps:List Ar} {k:Nat} (hk:k < nodes.length):Dc d (nodes.take (k+1)) ps=Qt (Dc d (nodes.take k) ps) nodes[k].toNat ps:=by rw [aZ hk,Akd];rfl
structure KF where
 k:Nat
 F:ak
theorem Xm (d:List (List Ar)) (nodes:al) (ps:List Ar) (g:Nat) (v0 v1 v2 v3 v4 v5 v6 v7 v8 v10:Value) (a:ai) (n c:Nat) (F:ak) (an:ai) (cn:Nat) (Fn_:ak) (ap:ai) (cp:Nat) (Fp:ak) (hn:n=d.length) (hx:∀x∈nodes,0<=x/\x.toNat < d.length) :
  Fn prog 59 [Fv g 0 0,ab an nodes.length cn,ab ap ps.length cp] [.sl Bi (ab an nodes.length cn) nodes Fn_,.sl Ap (ab ap ps.length cp) ps Fp] [.row g 37 0 [] [v0,v1,v2,v3,v4,v5,v6,v7,v8,ab a n c,v10] [],.ow (Jo Ap 103) 85 (ab a n c) d F] (fun (_:ak)=>True) (fun _=>.tuple #[]) (fun G=>[.row g 37 0 [] [v0,v1,v2,v3,v4,v5,v6,v7,v8,ab a n c,v10] [],.ow (Jo Ap 103) 85 (ab a n c) (Dc d nodes ps) G]):=by
 refine enter func59 rfl ntmps59 fun w0=>?_;refine Th (E:=Bi) (xs:=nodes) ?_;rintro _ _ e0 hn1 hn2;refine Th (E:=Ap) (xs:=ps) ?_;rintro _ _ e3 hp1 hp2;refine Aa3 (E:=Ap) (fun p:Ar=>p.data.size<=maxLen) (fun w cs x F h=>by obtain ⟨_,h,_⟩:=h;exact h) ?_;intro hz;cases e0;cases e3;refine go ?_;refine Cu [0,2,10,11] (fun z:KF=>[(12,aa (z.k:Nat))]) (fun z=>[.ow (Jo Ap 103) 85 (ab a n c) (Dc d (nodes.take z.k) ps) z.F]) (fun z=>z.k<=nodes.length) (fun z=>nodes.length - z.k) ⟨0,_⟩ (aD _) fun z hz0=>?_;have hsl:=Ya ps (nodes.take z.k) d;refine go ?_
 refine Bf rfl (fun h1=>?_) (fun h1=>?_)
 ·have hk:z.k < nodes.length:=EM
  obtain ⟨x0,x1⟩:=hx _ (aE hk);obtain ⟨i,hi⟩:∃i:Nat,nodes[z.k]=((i:Nat):Int):=⟨nodes[z.k].toNat,EM⟩;have hil:i < (Dc d (nodes.take z.k) ps).length:=EM
  have hst:=Abx (d:=d) (ps:=ps) hk;rw [show nodes[z.k].toNat=i by omega] at hst;refine Jg (xs:=nodes) z.k ?_;rintro hi2 b o e1;rw [e1,hi];refine go ?_;rw [show Dc d (nodes.take z.k) ps=Qt (Dc d (nodes.take z.k) ps) i (ps.take 0) by rw [List.take_zero,Agg]];refine Cu [0,2,7,10,11,12,13,14,15,16,17] (fun y:KF=>[(18,aa (y.k:Nat))]) (fun y=>[.ow (Jo Ap 103) 85 (ab a n c) (Qt (Dc d (nodes.take z.k) ps) i (ps.take y.k)) y.F]) (fun y=>y.k<=ps.length) (fun y=>ps.length - y.k) ⟨0,z.F⟩ (aD _) fun y hy0=>?_;have hpl:=Agf (Dc d (nodes.take z.k) ps) i (ps.take y.k);refine go ?_
  refine Bf rfl (fun h2=>?_) (fun h2=>?_)
  ·have hj:y.k < ps.length:=EM
   refine N0 (xs:=ps) y.k ?_;rintro hi3 b3 o3 e3 s3;rw [e3];refine go ?_;intros;refine As [0,4] [] ?_;refine D7 0 1 2 3 ?_;refine Ek 4 5 ?_;refine dN 6 ?_;refine oC ?_;refine Bw (Aau (Qt (Dc d (nodes.take z.k) ps) i (ps.take y.k)) i ps[y.k] a n c y.F EM EM s3) fun f1 _=>?_;rw [Ad4 hil hj];refine dk ?_;refine dd ?_;refine go ?_;refine Cv ⟨y.k+1,f1⟩ hj (by show ps.length - (y.k+1) < ps.length - y.k;omega)
  ·rw [show ps.take y.k=ps from bc EM,<-hst];refine go ?_;refine Cv ⟨z.k+1,y.F⟩ hk (by show nodes.length - (z.k+1) < nodes.length - z.k;omega)
 ·rw [show nodes.take z.k=nodes from bc EM];refine go ?_;refine Va ?_;refine ret z.F trivial rfl
section
variable {c:Cx} {fr:Fr} {H:List Pc} {Φ:Gl}
theorem Iu {a:ai} {n cp:Nat} {xs:List Aw} {F:ak} (i:Nat) (h:∀(hi:i < xs.length) (b o:Nat),a=some ⟨b,o,none⟩->T c fr (.cel b (o+i * 4) [aa xs[i].Ab,aa xs[i].Dh,aa xs[i].Bl,aa xs[i].Ch]::H) Φ) (hm:.sl A9 (ab a n cp) xs F∈H:=by exact Cb) (hi:i < xs.length:=by omega):T c fr H Φ:=.mk fun ac w s g=>by
 exact CD
theorem Adg {t:TypeId} {a:ai} {n cp:Nat} {xs:List Aw} {F:ak} {S:List Pc} (i:Nat) (h:∀(_:i < xs.length) g A B,a=some ⟨g,0,none⟩->F=[g]->Aq2 A9 t g (ab (some ⟨g,0,none⟩) n cp) xs i A B->T c fr (.row g t (0+i * 4) A [aa xs[i].Ab,aa xs[i].Dh,aa xs[i].Bl,aa xs[i].Ch] B::S) Φ) (hp:De H (.ow A9 t (ab a n cp) xs F) S:=by exact En) (hi:i < xs.length:=by omega):T c fr H Φ :=
 Qq Ee i (fun hi g A cs B ha hF hr hh=>by obtain ⟨rfl, -⟩:=hr default;exact h hi g A B ha hF  hh) hp rfl hi
theorem M2 (x:Aw)  (w:World):C6 A9 w [aa x.Ab,aa x.Dh,aa x.Bl,aa x.Ch] [x] []:=⟨_,[],[],[],EO,EO,⟨rfl,rfl⟩,rfl,rfl⟩
end
theorem Aib {P:Program} {n:Nat} {fr:Fr} {H:List Pc} {ty t':TypeId} {x:Operand} {t e m:Nat} [hS:SlC P t e m] {a:ai} {l c:Nat} (hx:ev fr x=some (ab a l c)):Yd P n fr H (.binOp .eql t x (.const (ab none 0 0)) t') ty (.bool a.isNone):=.mk fun ac w d pos A8 gd hA _=>by
 have he:ac.eval (.const (ab none 0 0))=ab none 0 0:=rfl;have eg:eqGuard .eql t x (.const (ab none 0 0)) (ab a l c) (ab none 0 0)=pure ():=by unfold eqGuard;simp
 simp only [execOp,hA.ev hx,he,eg,Sem.run_bind,Sem.run_pure,Result.andThen_ok,Lib.run_eql_slice_nil w t e a l c 0 0 hS.u]
theorem Auc {c:Cx} {fr:Fr} {H:List Pc} {Φ:Gl} {α:Type} {E:B8 α} {n cp:Nat} {xs:List α} {F:ak} (h:xs=[]->T c fr H Φ) (hm:.sl E (ab none n cp) xs F∈H:=by exact Cb):T c fr H Φ:=.mk fun ac w s g=>by
 obtain ⟨-,a,cap,hv, -,⟨rfl, -, -⟩|⟨b,off,F',rfl, -⟩⟩:=s.get hm
 ·exact (h rfl).h ac w s g
 ·cases hv
theorem Ss (xs:List Aw) (a:ai) (c:Nat) (F:ak) (hl:xs.length<=1000000000) :
  Fn prog 119 [ab a xs.length c] [.sl A9 (ab a xs.length c) xs F] [] (fun (_:ai × Nat × ak)=>True) (fun z=>ab z.1 xs.length z.2.1) (fun z=>[.ow A9 161 (ab z.1 xs.length z.2.1) xs z.2.2]):=by
 refine enter func119 rfl ntmps119 fun w0=>?_;refine go ?_;cases a with
 | none =>
  refine Auc (xs:=xs) fun h0=>?_;subst h0;apply wO;apply oc;rfl;exact Aib rfl;refine B4 A9 161 ?_;refine go ?_;refine ret (none,0,[]) trivial rfl
 | some ad =>
  apply wO;apply oc;rfl;exact Aib rfl;refine go ?_;intros;refine Dk A9 ?_;apply wO;refine M0 Dg Ee fun a2 c2 F2=>?_;rw [bb];exact CY
section
variable {P:Program} {n:Nat} {fr:Fr} {H:List Pc} {ty:TypeId} {x y z u:Operand}
theorem Auz {t e m i g o len cp:Nat} {kd:IntKind} {q:Int} [hS:SlC P t e m] (hx:ev fr x=some (ab (some ⟨g,o,none⟩) len cp)) (hy:ev fr y=some (.int kd q)) (hq:q=(i:Int)) (hi:i<=len) (hlc:len<=cp):Yd P n fr H (.slice t x (some y) none none) ty (ab (some ⟨g,if cp=i then o else o+i * m,none⟩) (len - i) (cp - i)):=.mk fun ac w d pos A8 gd hA _=>by
 subst hq;have he2:P.elem t=e:=IW
 have h3:(Instr.sliceAt t (ab (some ⟨g,o,none⟩) len cp) (some (.int kd (i:Int))) none none).run P w=.ok (ab (some ⟨g,if cp=i then o else o+i * m,none⟩) (len - i) (cp - i)) w:=by
  rw [run_sliceAt_slice (h:=FF),run_slice_l (ht:=FF) (h0:=EM) (h1:=EM),he2,Mi hS.s];simp only [Result.andThen,sliced,cj,Addr.add_lit,ba]
  split <;> rfl
 exact CS
theorem An5 {t e m i j g o len cp:Nat} {kd kd2:IntKind} {q r:Int} [hS:SlC P t e m] (hx:ev fr x=some (ab (some ⟨g,o,none⟩) len cp)) (hy:ev fr y=some (.int kd q)) (hz:ev fr z=some (.int kd2 r)) (hq:q=(i:Int)) (hr:r=(j:Int)) (hi:i < cp) (hij:i<=j) (hj:j<=cp):Yd P n fr H (.slice t x (some y) (some z) none) ty (ab (some ⟨g,o+i * m,none⟩) (j - i) (cp - i)):=.mk fun ac w d pos A8 gd hA _=>by
 subst hq hr;have he2:P.elem t=e:=IW
 have h3:(Instr.sliceAt t (ab (some ⟨g,o,none⟩) len cp) (some (.int kd (i:Int))) (some (.int kd2 (j:Int))) none).run P w=.ok (ab (some ⟨g,o+i * m,none⟩) (j - i) (cp - i)) w:=by
  rw [run_sliceAt_slice (h:=FF),run_slice_lh (ht:=FF) (h0:=EM) (h1:=EM) (h2:=EM),he2,Mi hS.s];simp only [Result.andThen,sliced,cj,Addr.add_lit,ba];rw [aq EM]
 simp only [execOp,dj,cj,hA.ev hx,hA.ev hy,hA.ev hz,Sem.run_bind,h3,Result.andThen_ok,Sem.run_pure]
end
section
variable {c:Cx} {fr:Fr} {H:List Pc} {k:List It} {Φ:Gl} {d:Nat} {ty:TypeId} {x y z u:Operand}
theorem Ajv {t e m n cp i j l:Nat} {a:ai} {q r s:Int} [hS:SlC c.P t e m] (hd:Nat.blt d c.n=true) (hx:ev fr x=some (ab a n cp)) (hy:ev fr y=some (aa q)) (hz:ev fr z=some (aa r)) (hu:ev fr u=some (aa s)) (hq:q=(i:Int)) (hr:r=(j:Int)) (hs:s=(l:Int)) (hij:i<=j) (hjl:j<=l) (hl:l<=cp) (h:∀v,T c ((d,v)::fr) H Φ):On c fr H (some d) (.slice t x (some y) (some z) (some u)) ty Φ:=⟨fun _ _ _=>Pl fun Q ac w st g=>by
 subst hq hr hs;have he2:=Aca hS;obtain ⟨v,h3⟩:∃v,(Instr.sliceAt t (ab a n cp) (some (aa (i:Int))) (some (aa (j:Int))) (some (aa (l:Int)))).run c.P w=.ok v w:=by
  rw [run_sliceAt_slice (h:=FF),run_slice_lhm (ht:=FF) (h0:=EM) (h1:=EM) (h2:=EM) (h3:=EM),he2,Mi hS.s];exact ⟨_,rfl⟩
 have e1:∀pos A8 gd,(execOp ac.eval ⟨some d,.slice t x (some y) (some z) (some u),ty,pos,A8,gd⟩).run c.P w=.ok (.value v) w:=by
  intro pos A8 gd;simp only [execOp,dj,cj,g.ev hx,g.ev hy,g.ev hz,g.ev hu,Sem.run_bind,h3,Result.andThen_ok,Sem.run_pure]
 rw [e1];exact (h v).h _ w st (g.put hd)⟩
theorem Asv {α:Type} {E:B8 α} (sc:Ym E) (one:Zz E) {t e m b g n cp i j q c2:Nat} {zv:Value} [hS:SlC c.P t e m] [hE:ElT c.P e zv m b] (hm:E.sz=m) {xs:List α} {F:ak} {S:List Pc}
  (hd:Nat.blt d c.n=true) (hx:ev fr x=some (ab (some ⟨g,0,none⟩) i cp)) (hy:ev fr y=some (ab (some ⟨g,q,none⟩) (n - j) c2)) (hq:j < n->q=j * m) (hij:i<=j) (hj:j<=n) (hn:n=xs.length)
  (hp:De H (.ow E e (ab (some ⟨g,0,none⟩) n cp) xs F) S) (h:T c ((d,ab (some ⟨g,0,none⟩) (i+(n - j)) cp)::fr) (.ow E e (ab (some ⟨g,0,none⟩) n cp) (xs.take i++xs.drop j++xs.drop (i+(n - j))) F::S) Φ) :
  On c fr H (some d) (.call { callee:=.builtin .append,args:=#[x,y],argTypes:=#[t,t] }) ty Φ:=⟨fun _ _ _=>Pl fun Q a w s ag=>by
 subst hm hn;have s1:=s.pick hp;obtain ⟨hnd,ho⟩:=s1.on (.ow E e (ab (some ⟨g,0,none⟩) xs.length cp) xs F) EO;have hF:=ho.scal sc;rcases ho with ⟨h1, -, -⟩|⟨g2,cap,cs,rest,G,h1,h2,h3,h4,h5,h6,h7⟩
 ·cases h1
 cases h1;have hG:G=[]:=HW
 subst hG h7;obtain ⟨ti,hi,hiz⟩:=co.1 hE.i;simp only [Prod.mk.injEq] at hiz;obtain ⟨-,i2, -⟩:=hiz;have hl:=h6.len;have hle:i+(xs.length - j)<=xs.length:=EM
 have fi:=(h6.cutL i EM).1;have fj:=(h6.cutL j hj).2;have fk:=(h6.cutL (i+(xs.length - j)) hle).2;have hd1:(cs.take (i * E.sz)).length=i * E.sz:=by have:=fi.len;rw [aL (l:=xs),cT EM] at this;exact this
 have hd2:(cs.drop (j * E.sz)).length=(xs.length - j) * E.sz:=by have:=fj.len;rwa [aU (l:=xs)] at this
 have h1c:=h6.one' one;have hsm:(i+(xs.length - j)) * E.sz<=xs.length * E.sz:=cC _ hle;have hadd:(i+(xs.length - j)) * E.sz=i * E.sz+(xs.length - j) * E.sz:=cA _ _ _;have hsrc:∀r u,(cs.drop (j * E.sz))[r]?=some u->w.cell? ((⟨g,q,none⟩:Addr).add r)=some u:=fun r u hu=>by
  have hr:r < (cs.drop (j * E.sz)).length:=(bh.1 hu).1;have hlt:j < xs.length:=by
   rcases cw j xs.length with h|h
   ·exact h
   ·rw [hd2,show xs.length - j=0 by omega] at hr;simp at hr
  rw [hq hlt,Addr.add_lit,h2.cell,bo (by rw [aU] at hr;omega)];rw [di] at hu;exact hu
 have hr:=fun ty=>run_append_room_cells (P:=c.P) w t ty e ti hS.u hi g 0 i cp ⟨g,q,none⟩ (xs.length - j) c2 (cs.drop (j * E.sz)) (by rw [hd2,i2]) hsrc (fun u hu=>h1c u (bj hu)) EM
  (fun r hr=>by rw [i2,h2.cell,aB HC];rfl) (fun r _=>h2.frozen _)
 have e1:∀pos A8 gd,(execOp a.eval ⟨some d,.call { callee:=.builtin .append,args:=#[x,y],argTypes:=#[t,t] },ty,pos,A8,gd⟩).run c.P w=.ok (.value (ab (some ⟨g,0,none⟩) (i+(xs.length - j)) cp)) (w.setCells g (0+i * E.sz) (cs.drop (j * E.sz))):=by
  intro pos A8 gd;simp only [execOp,resolve,invoke,builtin,Sem.run_bind,Sem.run_pure,Result.andThen_ok,cO,bL,dU,ag.ev hx,ag.ev hy,hr,i2]
 rw [e1];have R0:Jd w g e (cs.take (i * E.sz)++(cs.drop (i * E.sz)).take ((xs.length - j) * E.sz)++(cs.drop ((i+(xs.length - j)) * E.sz)++rest)):=by
  rw [hadd,<-cD,aJ,<-aJ _ _ rest,bm,<-aJ,bm];exact h2
 have R1:=Jd.put (cs.drop (j * E.sz)) _ R0 (p:=0+i * E.sz) EM (by rw [hd2,aL,aU];omega);have hk:=K8 (g:=g) (cs.drop (j * E.sz)) w (0+i * E.sz);rw [L7 w g] at R1 hk;have hW:(Pc.ow E e (ab (some ⟨g,0,none⟩) xs.length cp) (xs.take i++xs.drop j++xs.drop (i+(xs.length - j))) [g]).P (w.setCells g (0+i * E.sz) (cs.drop (j * E.sz))):=by
  have hll:(xs.take i++xs.drop j++xs.drop (i+(xs.length - j))).length=xs.length:=by simp only [aw,aL,aU];omega
  refine ⟨EO,.inr ⟨g,cp,cs.take (i * E.sz)++cs.drop (j * E.sz)++cs.drop ((i+(xs.length - j)) * E.sz),rest,[],by rw [hll],by simpa [aJ] using R1,by rw [hll];exact h3,h4,?_,?_,rfl⟩⟩
  ·rw [aw,aw,hd1,hd2,aU,hl,<-h5];omega
  ·have:=((fi.all (w.setCells g (0+i * E.sz) (cs.drop (j * E.sz)))).append (fj.all _)).append (fk.all _);simpa using this
 exact h.h _ _ (St.turn (M:=[.ow E e (ab (some ⟨g,0,none⟩) xs.length cp) xs [g]]) (N:=[.ow E e (ab (some ⟨g,0,none⟩) xs.length cp) (xs.take i++xs.drop j++xs.drop (i+(xs.length - j))) [g]]) s1 GM (by intro q hq;rw [aH] at hq;subst hq;exact hW) ⟨EO,trivial⟩ (by
   intro q hq b hb;rw [aH] at hq;subst hq;exact .inr (.inl ⟨_,aH.2 rfl,rfl,hb⟩))) (ag.put hd)⟩
end
theorem Ayf (xs:List (aj)) (n i:Nat) (j:Int) (a:ai) (c:Nat) (F:ak) (hn:n=xs.length) (hi:i < xs.length) (hj:j=(i:Int)+1) (hl:xs.length<=1000000) :
  Fn prog 237 [ab a n c,aa i,aa j] [] [.ow (EC 3) 132 (ab a n c) xs F] (fun (_:ai × Nat × ak)=>True)
   (fun z=>.slice z.1 (xs.take i++xs.drop (i+1)).length z.2.1) (fun z=>[.ow (EC 3) 132 (.slice z.1 (xs.take i++xs.drop (i+1)).length z.2.1) (xs.take i++xs.drop (i+1)) z.2.2]):=by
 subst hn;refine enter func237 rfl ntmps237 fun w0=>?_;refine Ah4 (xs:=xs) (Hj 3) (by rintro rfl;simp at hi) ?_;rintro g rfl rfl - hc1 hc2;refine go ?_;apply wO;refine Ajv (i:=i) (j:=i+1) (l:=xs.length) rfl rfl rfl rfl rfl rfl EM rfl EM EM hc1 (fun _=>?_);refine go ?_;refine Bf rfl (fun h=>absurd h EM) (fun _=>?_);refine go ?_;refine As [] [] ?_;refine Ek 0 1 ?_;refine dt 2 ?_ (hy:=Nv (i:=i) rfl rfl rfl EM EM);refine Ek 3 4 ?_;refine dt 5 ?_ (hy:=Auz (i:=i+1) rfl rfl EM EM hc1);refine dN 6 ?_
 refine Asv (m:=3) (i:=i) (j:=i+1) (q:=if c=i+1 then 0 else 0+(i+1) * 3) (g:=g) (cp:=c) (n:=xs.length) (Hj 3) (O9 3) rfl rfl rfl rfl (fun h=>by rw [aq EM];omega) EM EM rfl EP ?_;refine dk ?_;refine dt 7 ?_;refine dd ?_;refine go ?_;apply wO;apply oc;rfl;exact An5 (i:=i+(xs.length - (i+1))) (j:=xs.length) rfl rfl rfl rfl rfl EM EM hc1;refine go ?_;apply wO
 refine Am6 (xs:=xs.take i++xs.drop (i+1)++xs.drop (i+(xs.length - (i+1)))) (z0:=[aa 0,ab none 0 0,aa 0]) (n:=xs.length) (cp:=c) (i:=i+(xs.length - (i+1))) (g:=g) (Hj 3) (fun w=>⟨rfl,⟨rfl,EW⟩,rfl⟩) EN rfl rfl EM GB EP ?_;have hk:(xs.take i++xs.drop (i+1)).length=i+(xs.length - (i+1)):=GB
 refine Aem (xs:=(xs.take i++xs.drop (i+1)++xs.drop (i+(xs.length - (i+1)))).take (i+(xs.length - (i+1)))++List.replicate (xs.length - (i+(xs.length - (i+1)))) [aa 0,ab none 0 0,aa 0]) (i+(xs.length - (i+1))) (fun F2=>?_) GB;rw [bR (by rw [bR hk,hk]),bR hk,<-hk];refine go ?_;refine ret (_,c,F2) trivial rfl
section
variable {c:Cx} {fr:Fr} {H:List Pc} {k:List It} {Φ:Gl} {ops:Array Oper} {o:Op} {ty:TypeId} {pos:String} {A8:Array Edge} {H0:List Pc} {X:ak} {f:Nat} {listed:Array Bool}
theorem I4.many {P:Program} {md:Region.Mode} {Q:Exit->Act->World->Prop} {S:World->Prop} {Y:Nat->Bool} {a:Act} {w:World} (hne:(Region.ready md ops listed).isEmpty=false)
  (h:∀i∈Region.ready md ops listed,∃oi,ops[i]?=some oi/\∀K':Act->World->Prop,Shut (∀a w,(Y i=false->S w)->I4 P md ops Q S Y f (listed.setIfInBounds i true) a w->K' a w)->if Region.wanted oi (yielded ops a.tmps)=true then Oper.wp P oi a w K' Q else K' (a.put oi.dst undef) w) :
  I4 P md ops Q S Y (f+1) listed a w:=by
 refine ⟨fun h0=>(by rw [h0] at hne;cases hne),fun j hj=>?_⟩;obtain ⟨oi,ho,hh⟩:=h j hj;exact wpOp_step ho (fun K' hK=>hh K' (fun a w hS hW=>hK a w ⟨hS,hW⟩))
theorem dP (L:ak) (hr:(Region.ready .any ops listed).all (fun i=>L.contains i)=true) (hne:(Region.ready .any ops listed).isEmpty=false)
  (h:∀i∈L,listed.getD i true=false->∃o,ops[i]?=some o/\o.guard=none/\Ef c fr H o (.dk i k H0 X ops f (listed.setIfInBounds i true))):T c fr H (.dx k H0 X ops (f+1) listed):=.mk fun a w s g =>
 I4.many hne fun i hi=>by
  obtain ⟨o,ho,hg,he⟩:=h i (by simpa using aQ.1 hr i hi) (by have:=(aO.1 hi).2;simp only [av,bv] at this;exact this.1);refine ⟨o,ho,fun K hK=>?_⟩;rw [ar (by simp [Region.wanted,hg])];exact Oper.wp_mono (fun a' w' h'=>hK a' w' h'.1 h'.2) (he.h _ a w s g)
theorem dE (i:Nat) {od:Option Tmp} (ho:ops[i]?=some ⟨od,o,ty,pos,A8,none⟩) (h:On c fr H od o ty Φ):∃o,ops[i]?=some o/\o.guard=none/\Ef c fr H o Φ:=⟨_,ho,rfl,h.h _ _ _⟩
theorem U0 (z:aj) (n:Nat):madeCells z.toArray (n * z.length)=((List.replicate n z).flatten).toArray:=by
 have:=M9 z.toArray n;rw [List.size_toArray] at this;rw [<-Array.toArray_toList (xs:=madeCells z.toArray (n * z.length)),this]
theorem Ax5 {b:Bool} (h:b=false) (h2:b=true):False:=by rw [h2] at h;cases h
end
def zP:Ar:=⟨0,0,0,0,⟨#[]⟩⟩
def Lu (q:List Ar):Ar:=q.headD zP
theorem V8 {q:List Ar} (h:0 < q.length):Lu q=q[0]:=by
 cases q with
 | nil=>cases h
 | cons p r=>rfl
theorem Ayg (xs:List Ar) (n i:Nat) (j:Int) (a:ai) (c:Nat) (F:ak) (hn:n=xs.length) (hi:i < xs.length) (hj:j=(i:Int)+1) (hl:xs.length<=1048576) :
  Fn prog 205 [ab a n c,aa i,aa j] [] [.ow Ap 103 (ab a n c) xs F] (fun (_:ai × Nat × ak)=>True)
   (fun z=>.slice z.1 (xs.take i++xs.drop (i+1)).length z.2.1) (fun z=>[.ow Ap 103 (.slice z.1 (xs.take i++xs.drop (i+1)).length z.2.1) (xs.take i++xs.drop (i+1)) z.2.2]):=by
 subst hn;refine enter func205 rfl ntmps205 fun w0=>?_;refine Ah4 (xs:=xs) Kt (by rintro rfl;simp at hi) ?_;rintro g rfl rfl - hc1 hc2;refine go ?_;apply wO;refine Ajv (i:=i) (j:=i+1) (l:=xs.length) rfl rfl rfl rfl rfl rfl EM rfl EM EM hc1 (fun _=>?_);refine go ?_;refine Bf rfl (fun h=>absurd h EM) (fun _=>?_);refine go ?_;refine As [] [] ?_;refine Ek 0 1 ?_;refine dt 2 ?_ (hy:=Nv (i:=i) rfl rfl rfl EM EM);refine Ek 3 4 ?_;refine dt 5 ?_ (hy:=Auz (i:=i+1) rfl rfl EM EM hc1);refine dN 6 ?_
 refine Asv (m:=5) (i:=i) (j:=i+1) (q:=if c=i+1 then 0 else 0+(i+1) * 5) (g:=g) (cp:=c) (n:=xs.length) Kt Ig rfl rfl rfl rfl (fun h=>by rw [aq EM];omega) EM EM rfl EP ?_;refine dk ?_;refine dt 7 ?_;refine dd ?_;refine go ?_;apply wO;apply oc;rfl;exact An5 (i:=i+(xs.length - (i+1))) (j:=xs.length) rfl rfl rfl rfl rfl EM EM hc1;refine go ?_;apply wO
 refine Am6 (xs:=xs.take i++xs.drop (i+1)++xs.drop (i+(xs.length - (i+1)))) (z0:=zP) (n:=xs.length) (cp:=c) (i:=i+(xs.length - (i+1))) (g:=g) Kt (fun w=>⟨rfl,aD _,rfl⟩) EN rfl rfl EM GB EP ?_;have hk:(xs.take i++xs.drop (i+1)).length=i+(xs.length - (i+1)):=GB
 refine Aem (xs:=(xs.take i++xs.drop (i+1)++xs.drop (i+(xs.length - (i+1)))).take (i+(xs.length - (i+1)))++List.replicate (xs.length - (i+(xs.length - (i+1)))) zP) (i+(xs.length - (i+1))) (fun F2=>?_) GB;rw [bR (by rw [bR hk,hk]),bR hk,<-hk];refine go ?_;refine ret (_,c,F2) trivial rfl
theorem Bar (xs:List Ar) (a:ai) (c:Nat) (F:ak) (hl:xs.length<=1000000000) :
  Fn prog 116 [ab a xs.length c] [.sl Ap (ab a xs.length c) xs F] [] (fun (_:ai × Nat × ak)=>True) (fun z=>ab z.1 xs.length z.2.1) (fun z=>[.ow Ap 103 (ab z.1 xs.length z.2.1) xs z.2.2]):=by
 refine enter func116 rfl ntmps116 fun w0=>?_;refine go ?_;cases a with
 | none =>
  refine Auc (xs:=xs) fun h0=>?_;subst h0;apply wO;apply oc;rfl;exact Aib rfl;refine B4 Ap 103 ?_;refine go ?_;refine ret (none,0,[]) trivial rfl
 | some ad =>
  apply wO;apply oc;rfl;exact Aib rfl;refine go ?_;intros;refine Dk Ap ?_;apply wO;refine M0 Ig Kt fun a2 c2 F2=>?_;rw [bb];exact CY
theorem Ad1 (d:List (List Ar)) (i:Nat) (a:ai) (n c:Nat) (F:ak) (hn:n=d.length) (hi:i < d.length) (h6:d[i].length<=6):Fn prog 155 [ab a n c,aa (i:Nat)] [] [.ow (Jo Ap 103) 85 (ab a n c) d F] (fun (_:ak)=>True) (fun _=>.tuple #[.agg #[aa (Lu d[i]).Bd,aa (Lu d[i]).Ab,aa (Lu d[i]).Al,aa (Lu d[i]).Cy,af (Lu d[i]).data],.bool (decide (0 < d[i].length))]) (fun G=>[.ow (Jo Ap 103) 85 (ab a n c) (d.set i (d[i].drop 1)) G]):=by
 refine enter func155 rfl ntmps155 fun w0=>?_;refine Aae (m:=1) i ?_ rfl hi;rintro _ g A cs B k1 k2 G1 Gi G2 rfl - hc hH;refine Wo ?_;rintro a5 c5 ev l5;obtain rfl:=Oe ev;refine go ?_;intros;refine Bf rfl (fun h1=>?_) (fun h1=>?_)
 ·have h0:d[i]=[]:=bx.1 EM;rw [h0];refine go ?_;refine Lo [] ?_;refine Vb _ hH rfl fun F6=>?_;refine ret F6 trivial rfl
 ·have h0:0 < d[i].length:=EM
  rw [au h0,V8 h0];refine Aoo (xs:=d[i]) 0 ?_;rintro _ g2 A2 B2 rfl rfl sz hH2;refine Ke ?_;intros;refine Pf d[i][0] hH2 (fun w=>⟨rfl,sz,rfl⟩) ?_;rw [bu];refine go ?_;refine Bw (Ayg d[i] d[i].length 0 1 _ c5 _ rfl h0 rfl EM) fun z _=>?_;rw [show d[i].take 0++d[i].drop (0+1)=d[i].drop 1 by simp];refine go ?_;refine Lo (d[i].drop 1) ?_;refine Vb _ hH rfl fun F6=>?_;refine ret F6 trivial rfl
def Vs (l:List (List Ar)) (k:Nat):List (List Ar):=l.take k++List.replicate (l.length - k) []
theorem Aom {l:List (List Ar)} {k:Nat} (h:k<=l.length):(Vs l k).length=l.length:=by unfold Vs;simp;omega
theorem Aon {l:List (List Ar)} {k:Nat} (h:k < l.length):(Vs l k).set k l[k]=Vs l (k+1):=by
 unfold Vs;have e:List.replicate (l.length - k) ([]:List Ar)=[]::List.replicate (l.length - (k+1)) []:=by rw [show l.length - k=(l.length - (k+1))+1 by omega,cW]
 have hl:(l.take k).length=k:=FK
 rw [e,fF _ _ EM,hl,fv,List.set_cons_zero,aZ h,aJ];rfl
theorem Iz (l:List (List Ar)) (a:ai) (c:Nat) (F:ak) (hl:l.length<=1048576) (hq:∀q∈l,q.length<=1000000000):Fn prog 56 [ab a l.length c] [.sl (Nr Ap EN) (ab a l.length c) l F] [] (fun (_:Nat × ak)=>True) (fun z=>ab (some ⟨z.1,0,none⟩) l.length l.length) (fun z=>[.ow (Jo Ap 103) 85 (ab (some ⟨z.1,0,none⟩) l.length l.length) l z.2]):=by
 refine enter func56 rfl ntmps56 fun w0=>?_;refine go ?_;apply wO;refine Ahq l.length (cs:=(List.replicate l.length ([ab none 0 0]:aj)).flatten) rfl rfl rfl (U0 _ _) EM EM fun g=>?_;refine Eo (E:=Jo Ap 103) (xs:=List.replicate l.length []) (fun w=>C6.rep0 (E:=Jo Ap 103) (w:=w) (zs:=[ab none 0 0]) (z:=([]:List Ar)) ⟨_,rfl,.inl ⟨rfl,rfl,rfl⟩⟩ _) ?_ GS;rw [be,show List.replicate l.length ([]:List Ar)=Vs l 0 by unfold Vs;simp];refine go ?_
 refine Cu [2,3,9,10] (fun z:KF=>[(11,aa (z.k:Nat))]) (fun z=>[.ow (Jo Ap 103) 85 (ab (some ⟨g,0,none⟩) l.length l.length) (Vs l z.k) z.F]) (fun z=>z.k<=l.length) (fun z=>l.length - z.k) ⟨0,_⟩ (aD _) fun z hz0=>?_;have hfl:=Aom hz0;refine go ?_;refine Bf rfl (fun h1=>?_) (fun h1=>?_)
 ·have hk:z.k < l.length:=EM
  refine O0 (E:=Ap) (hz:=EN) (xs:=l) z.k ?_;rintro hi6 b6 o6 a11 c11 F11 rfl l11;refine Aae (xs:=Vs l z.k) (m:=1) z.k ?_ rfl EM;rintro _ g2 A cs B k1 k2 G1 Gi G2 e2 - hc hH;cases e2;refine Wo ?_;rintro a5 c5 ev l5;obtain rfl:=Oe ev;refine go ?_;refine Bw (Bar l[z.k] a11 c11 F11 (hq _ (aE hk))) fun y _=>?_;refine go ?_;refine Lo l[z.k] ?_;refine Vb _ hH rfl fun F6=>?_;rw [Aon hk];refine go ?_;refine Cv ⟨z.k+1,F6⟩ hk (by show l.length - (z.k+1) < l.length - z.k;omega)
 ·rw [show Vs l z.k=l by unfold Vs;rw [show z.k=l.length by omega];simp];refine go ?_;refine ret (g,z.F) trivial rfl
theorem Acz (fid:FuncId) (hbd:Wu prog fid) (caps:Array Value) (v:Value) (xs:List Hm) (F:ak) (p:Hm->Bool) (w:World) (h:Sl Bx w v xs F)
  (hp:∀(k:Nat) (hk:k < xs.length) (wr:World) (u:Value) (G:ak),Below w.heap.size w wr->Vf Bx wr u xs[k] G->Calls prog fid (#[u]++caps) wr fun e w'=>e=.returned (.bool (p xs[k]))/\Below wr.heap.size wr w') :
  Calls prog 180 #[v,.func (.func fid) #[] caps] w (RB (aa (Qz p xs)) w):=by
 obtain ⟨a,cap,rfl⟩:=h.slice;have hl:=h.len;unfold maxLen at hl
 go_enter func180,ntmps180
 go_wp2
 go_loopw [5,8] (fun _ i wr=>∃k:Nat,k<=xs.length/\i=aa k/\Hid (∀j,j < k->∀hj:j < xs.length,p xs[j]=false)/\Below w.heap.size w wr) (fun _ i _=>xs.length - (intOf i).toNat)
 case atStart=>exact ⟨0,aD _,rfl,fun j hj=>by omega,Below.refl _ _⟩
 case round =>
  obtain ⟨k,hk,rfl,hz,hB⟩:=hrel;by_cases hlt:k < xs.length
  ·have hz0:=hz;clear hz;obtain ⟨b,off,_,F1,rfl,hx, -,ja⟩:=(h.below EN hB).at k hlt;obtain ⟨rfl,rfl⟩:=id hx;have a0:=ja 0 EN;have a1:=ja 1 EN;simp only [show Bx.sz=2 from rfl,cR,bO,bH,bE] at a0 a1;clear ja;have hr:=hp k hlt wr _ _ hB ⟨_,rfl,hx⟩;have hp:=Lib.hid hp;cases hpk:p xs[k]
   all_goals
    rw [hpk] at hr;have hpk:=Lib.hid hpk;have hr:=Lib.hid hr;go_wp2_with fail;refine hbd.upon hr.out ?_;rintro e w1 ⟨rfl,hb1⟩;refine ⟨_,rfl,?_⟩;have hB:=tr hB hb1 (aA _);clear hb1;go_wp2_with fail
   ·exact AS
   ·go_ret
    exact DY
  ·go_wp2
   go_ret
   exact CT
theorem Akv (v:Value) (xs:List Hm) (F:ak) (w:World) (h:Sl Bx w v xs F) (hm:xs.length<=4294967296) :
  Calls prog 115 #[v] w (Z9 Bx 130 xs w):=by
 obtain ⟨ao,c,news,Fy,rfl,hl,hfy,hFy,hsrc⟩:=h.src;have hFl:=hfy.lt;have he:=fun w (a:ai) (n c:Nat)=>Lib.run_eql_slice_nil (P:=prog) w 30 _ a n c 0 0 underlying30
 go_enter func115,ntmps115
 rcases hsrc with ⟨rfl,rfl,rfl⟩|⟨ad,rfl,hn⟩
 ·go_wp2
  go_ret
  exact BW
 ·go_wp2_with (at_builtin;refine P8 Iw EN FC _ _ _ FC 130 (.agg #[aa 0,aa 0]) 16 underlying30 Afz rfl (ab (some ⟨w.heap.size,0,none⟩) 0 0) [] [w.heap.size] FC (Ow.empty (Jd.made _ _ _)) (Hd.one _) (some ad) xs c FC news Fy (hfy.frame fun b hb=>Below.heap_alloc _ _ _ (hFl b hb)) (.inr ⟨ad,rfl,fun j u hu=>kc ((Below.refl _ _).alloc (aA _) _) (hn j u hu)⟩) (fun b hb e=>by have:=hFl b hb;simp [Value.ownBlock] at e;omega) FQ GA ?_);intro v2 w2 F2 hA;go_wp2_with fail
  go_ret
  have hB:Below w.heap.size w w2:=((Below.refl _ _).alloc (aA _) _).trans (hA.Nu.below EO EO);have hs:∀b,v2.ownBlock=some b->w.heap.size<=b:=fun b hb=>by rcases hA.Al3 with e|e <;> rw [e] at hb <;> simp [Value.ownBlock] at hb <;> omega
  refine ⟨v2,F2,rfl,HY,hA.ow.scal Lc▸?_,fun b hb=>?_,hB⟩
  ·cases v2.ownBlock <;> simp
  ·rw [hA.ow.scal Lc] at hb;exact hs b IJ
theorem Ve (fid:FuncId) (hbd:Wu prog fid) (caps:Array Value) (v:Value) (xs:List Hm) (F:ak) (p:Hm->Bool) (w:World) (h:Ow Bx 130 w v xs F) (hn:F.Nodup)
  (hp:∀(k:Nat) (hk:k < xs.length) (wr:World) (u:Value) (G:ak),Gc F w wr->Vf Bx wr u xs[k] G->Calls prog fid (#[u]++caps) wr fun e w'=>e=.returned (.bool (p xs[k]))/\Below wr.heap.size wr w') :
  Calls prog 120 #[v,.func (.func fid) #[] caps] w fun e w'=>∃v' F',e=.returned v'/\Ow Bx 130 w' v' (xs.filter fun x=>!p x) F'/\F'.Nodup/\(∀b∈F',b∈F)/\Gc F w w':=by
 obtain ⟨F1,hF1,hs⟩:=h.sl (Ny.refl _);obtain ⟨a,cap,rfl⟩:=h.slice;have hl:=h.len;unfold maxLen at hl;have hp:=Lib.hid hp
 go_enter func120,ntmps120
 go_wp2_with fail;refine (Acz fid hbd caps _ xs F1 p _ hs (fun k hk wr u G hb hu=>hp.out k hk wr u G (Gc.ofBelow hb) hu)).mono ?_;rintro e w1 ⟨rfl,hb1⟩;have hK1:=Gc.ofBelow (F:=F) hb1;by_cases hany:xs.any p=true
 ·obtain ⟨k0,hk0,hfx,hpk,hfl⟩:=Wi hany;rw [hfx];obtain ⟨g,rfl, -,hg0⟩:=Gap.start (h.below hb1) hn (ys:=xs.take k0) (zs:=xs[k0]::xs.drop (k0+1)) EO EM;obtain ⟨F0,hg0,hF0⟩:=hg0.skip;have hG0:=Lib.hid hg0;clear hg0;have hk1:((k0:Int) == -1)=false:=EO
  go_wp2_with fail
  go_loopw [5,6,7] (fun i j _ wr=>∃(q m:Nat) (F1:ak),q<=xs.length/\0 < m/\((xs.take q).filter fun x=>!p x).length+m=q/\i=aa ((xs.take q).filter fun x=>!p x).length/\j=aa q/\Hid (Gap Bx 130 wr g xs.length cap ((xs.take q).filter fun x=>!p x) m (xs.drop q) F1)/\(∀b∈F1,b∈F)/\Gc F w wr) (fun _ j _ _=>xs.length - (intOf j).toNat)
  case atStart=>exact ⟨k0+1,1,F0,hk0,EM,GT,GT,HX,by rw [Df hk0 JJ,hfl];exact hG0,hF0,hK1⟩
  case round =>
   obtain ⟨q,m,F1,hq,hm,hlen,rfl,rfl,hG,hF1,hK⟩:=hrel;obtain ⟨-,hcap, -⟩:=hG.out.caps;generalize hys:((xs.take q).filter fun x=>!p x)=ys at *;by_cases hlt:q < xs.length
   ·rw [bN hlt] at hG;obtain ⟨c,Fx,hx,hFx,hcell⟩:=hG.out.first
    obtain ⟨Fx2, -,hxe⟩:=(Ny.refl _).L5 hx;obtain ⟨rfl,rfl⟩:=id hx;have a0:=hcell 0 EN;have a1:=hcell 1 EN;simp only [hlen,show Bx.sz=2 from rfl,cR,bO,bH,bE] at a0 a1;have hr:=fun A=>hp.out q hlt (wr.alloc A) _ Fx2 (hK.alloc A) ⟨_,rfl,Bx.below hxe ((Below.refl wr.heap.size wr).alloc (aA _) A)⟩;cases hpq:p xs[q]
    ·obtain ⟨st,c2,Fx3,hx3, -,hcell2,back⟩:=hG.out.move hm;simp only [hpq] at hr;obtain rfl:=Aee (Bx.len hx) (Bx.len hx3) hcell hcell2;have st:=st;obtain ⟨⟨x0,z0⟩,g0⟩:=st 0 EN;obtain ⟨⟨x1,z1⟩,g1⟩:=st 1 EN;simp only [show Bx.sz=2 from rfl,cR,bO] at z0 g0 z1 g1;have hr:=Lib.hid hr;have hbk:=Lib.hid back;have hpq:=Lib.hid hpq;have hys:=Lib.hid hys;have hlen:=Lib.hid hlen;have hyl:ys.length < xs.length:=by have:=hlen.out;omega
     clear hx hxe hcell hcell2 hx3 back st hfx hpk hfl;go_wp2_with fail;refine hbd.upon (hr.out _) ?_;rintro e w2 ⟨rfl,hb2⟩;refine ⟨_,rfl,?_⟩;have b2:=(Jd.below (g:=wr.heap.size) (t:=130) (cs:=[aa xs[q].Ab,aa xs[q].Bl]) (by simp [Lx]) hb2).cells;have hbb:=tr ((Below.refl wr.heap.size wr).alloc (aA _) _) hb2 (aA _);clear hb2;have g0:=(kf hbb z0).trans g0;have z0:=kc hbb z0;have g1:=(kf hbb z1).trans g1;have z1:=kc hbb z1;obtain ⟨F2,hg2,hF2⟩:=hbk.out w2 hbb;simp only [Nc,show Bx.sz=2 from rfl,cR] at hg2;have hg2:=Lib.hid hg2
     have hgF:g∈F:=hF1 g hG.out.caps.2.2.2.2.1;go_wp2_with fail;exact ⟨⟨q+1,m,F2,EM,hm,JK,by rw [Gj hlt IE,hys.out,aw];go_num,HX,by rw [Gj hlt IE,hys.out];exact hg2.out,fun b hb=>hF1 b (hF2 b hb),JF⟩,FP⟩
    ·obtain ⟨F2,hg2,hF2⟩:=hG.out.skip;simp only [hpq] at hr;have hr:=Lib.hid hr;have hg2:=Lib.hid hg2;have hpq:=Lib.hid hpq;have hys:=Lib.hid hys;have hlen:=Lib.hid hlen;clear hx hxe hcell hfx hpk hfl;go_wp2_with fail;refine hbd.upon (hr.out _) ?_;rintro e w2 ⟨rfl,hb2⟩;refine ⟨_,rfl,?_⟩;have hbb:=tr ((Below.refl wr.heap.size wr).alloc (aA _) _) hb2 (aA _);clear hb2;go_wp2_with fail
     exact BI
   ·have hqe:q=xs.length:=EM
    subst hqe;simp only [fw,bG] at hG hys;obtain ⟨hc,F2,ho2,hn2,hF2⟩:=hG.out.done (z:=#[aa 0,aa 0]) rfl;have hmm:xs.length - ys.length=m:=EM
    have hcl:=fun ty=>Sj (P:=prog) wr 30 130 ty (.agg #[aa 0,aa 0]) underlying30 (Vd Afz) (by simp [Value.cells,Value.oneCell']) g (ys.length * 2) m (cap - ys.length) hm (fun j hj=>(hc j hj).1) (fun j hj=>(hc j hj).2);have hyl:ys.length < xs.length:=EM
    have hgF:g∈F:=hF1 g hG.out.caps.2.2.2.2.1;have hO:=Lib.hid ho2;have hlen:=Lib.hid hlen;have hys:=Lib.hid hys;clear ho2 hc hfx hpk hfl;go_wp2_with fail
    go_ret
    exact CO
 ·obtain ⟨hfx,hfl⟩:=Yx hany;rw [hfx];go_wp2_with fail
  go_ret
  exact ⟨_,F,rfl,by rw [hfl];exact h.below hb1,hn,fun b hb=>hb,hK1⟩
theorem Ac1 (x:Cc) (v:Value) (F:ak) (hl:x.Aa.An.length<=4294967296) (hl2:x.holds.length<=4294967296):Fn prog 55 [v] [.isv El v x F] [] (fun (_:Value × ak)=>True)
  (fun s=>s.1) (fun s=>[.Mw Wf s.1 x s.2]):=by
 refine enter func55 rfl ntmps55 fun w0=>?_;refine Gh ?_;rintro a1 c1 F1 a2 c2 F2 rfl l1 l2;refine Co x.Aa ?_;generalize F1=F3;refine go ?_;intros;refine cv (fun w s=>Xj _ x.Aa _ w (s.get (p:=.isv Ci (.agg #[aa x.Aa.Al,aa x.Aa.size,ab a1 x.Aa.An.length c1]) x.Aa F3) EO) hl) fun v F'=>?_;refine Jh ?_;rintro a5 c5 F5 rfl l5;refine go ?_;refine cn (fun w s=>Akv _ _ _ _ (s.get (p:=.sl Bx (ab a2 x.holds.length c2) x.holds F2) EO).2 hl2) fun a6 c6 F6=>?_;refine go ?_;refine Ag6 x ?_;exact BK
theorem Av0 (W:Ax) (h:Hm) (gb g o:Nat) (u:Value) (a:ai) (c:Nat) (cl q:Value) (Hs:Value) (G Fw:ak) (t0:0<=W.Al) (t1:W.Al<=65535) (n0:0<=h.Ab) (n1:h.Ab<=65535) :
  FV 204 [u,Fv gb 0 0] [.isv Bx u h G,.cel gb 0 [Fv g o 0],.cel g o [aa W.Al,aa W.size,ab a W.An.length c,cl,q,Hs],.isv Ci (.agg #[aa W.Al,aa W.size,ab a W.An.length c]) W Fw] (.bool (!E5 W h.Ab)):=by
 refine enter func204 rfl ntmps204 fun w0=>?_;refine Ajx ?_;rintro _ rfl;refine go ?_;intros;refine As [0,2,3] [] ?_;refine D7 0 1 2 3 ?_;refine Ek 4 5 ?_;refine dN 6 ?_;refine oC ?_;refine cb (fun w st=>(Vy W h.Ab _ _ t0 t1 n0 n1).val w (I0 (st.get (p:=.isv Ci (.agg #[aa W.Al,aa W.size,ab a W.An.length c]) W Fw) EO))) ?_;refine dk ?_;refine Ek 7 8 ?_;refine dd ?_;refine go ?_;refine ret () trivial ?_;simp only [E5,Sr,decide_not]
theorem Alg {P:Program} {f:FuncId} {args:aj} {p:Pc} {R:List Pc} {σ:Type} {C:σ->Prop} {v:σ->Value} {N:σ->Pc} (hm:p.mu=true)
  (h:∀w,p.P w->Nh R w->(∀wr,Gc p.F w wr->Nh R wr)->Calls P f args.toArray w fun e w'=>∃s,C s/\e=.returned (v s)/\(N s).P w'/\(∀b∈(N s).F,b∈p.F\/w.heap.size<=b)/\Gc p.F w w'):Fn P f args [] (p::R) C v (fun s=>N s::R):=fun w hH hS=>by
 rw [aP] at hH hS;have hR:Nh R w:=fun q hq=>hH q FB;have ap:∀q∈R,∀b∈q.F,b ∉ p.F:=fun q hq b hb hp=>hS.1 q hq (by simp [hm]) b hp hb;have hk:∀wr,Gc p.F w wr->Nh R wr:=fun wr k q hq=>q.st (hR q hq) fun b hb=>k.block b (q.lt (hR q hq) b hb) (ap q hq b hb);refine (h w (hH p EO) hR hk).mono ?_;rintro e w' ⟨s,hC,he,hN,hF,k⟩;refine ⟨s,hC,he,?_,⟨fun q hq _ b hb hbq=>?_,hS.2⟩,k.mono (fun b hb _=>by simp [fp,hb]),?_⟩
 ·intro q hq;rcases aF.1 hq with rfl|hq
  ·exact hN
  ·exact hk w' k q hq
 ·rcases hF b hb with h|h
  ·exact ap q hq b hbq h
  ·have:=q.lt (hR q hq) b hbq;omega
 ·intro q hq b hb;rcases aF.1 hq with rfl|hq
  ·rcases hF b hb with h|h
   ·exact .inr (.inl ⟨p,EO,h⟩)
   ·exact DS
  ·exact .inr (.inl ⟨q,FB,hb⟩)
theorem Ba2 {P:Program} {fn:Func} {R:Ending->World->Prop} {G D:ak} {w0:World} {n:Nat} {fr:Fr} {H:List Pc} (h:T ⟨P,G,D,w0,n,bodyPost P fn R⟩ fr H (.fin .ret)):T ⟨P,G,D,w0,n,bodyPost P fn R⟩ fr H (.norm []):=.mk fun a w s g=>h.h a w s g
def Mv (W:Ax) (hs:List Hm):List Hm:=hs.filter fun h=>E5 W h.Ab
theorem Av1 (W:Ax) (hs:List Hm) (gb tb g t o:Nat) (A B:aj) (a a2:ai) (c c2:Nat) (cl q:Int) (F F2:ak) (t0:0<=W.Al) (t1:W.Al<=65535) (hn:∀h∈hs,Cm h.Ab=true) :
  Fn prog 120 [ab a2 hs.length c2,.func (.func 204) #[] #[Fv gb 0 0]] [] [.ow Bx 130 (ab a2 hs.length c2) hs F2,.row gb tb 0 [] [Fv g o 0] [],.row g t o A [aa W.Al,aa W.size,ab a W.An.length c,aa cl,aa q,ab a2 hs.length c2] B,.ow Bc 9 (ab a W.An.length c) W.An F] (fun (_:ai × Nat × ak)=>True)
   (fun z=>.slice z.1 (Mv W hs).length z.2.1) (fun z=>[.ow Bx 130 (.slice z.1 (Mv W hs).length z.2.1) (Mv W hs) z.2.2,.row gb tb 0 [] [Fv g o 0] [],.row g t o A [aa W.Al,aa W.size,ab a W.An.length c,aa cl,aa q,ab a2 hs.length c2] B,.ow Bc 9 (ab a W.An.length c) W.An F]):=by
 refine Alg rfl fun w ⟨hnd,ho⟩ _ hk=>?_;refine (Ve _ (Uo ER) #[Fv gb 0 0] _ hs F2 (fun h=>!E5 W h.Ab) w ho hnd fun k hk2 wr u G hK hu=>?_).mono ?_
 ·have hr:=hk wr hK;have r1:=hr (.row gb tb 0 [] [Fv g o 0] []) EO;have r2:=hr (.row g t o A [aa W.Al,aa W.size,ab a W.An.length c,aa cl,aa q,ab a2 hs.length c2] B) EO;obtain ⟨Fw, -,hw⟩:=(hr (.ow Bc 9 (ab a W.An.length c) W.An F) EO).2.read;obtain ⟨n0,n1⟩:=Bb.1 (hn hs[k] (aE hk2));refine (Av0 W hs[k] gb g o u a c (aa cl) (aa q) (ab a2 hs.length c2) G Fw t0 t1 n0 n1).val wr ?_;intro p hp;simp only [aF,aM,bn] at hp;rcases hp with rfl|rfl|rfl|rfl
  ·exact hu
  ·exact ⟨EO,Hq r1⟩
  ·exact ⟨EO,Hq r2⟩
  ·exact ⟨_,rfl,_,rfl,hw⟩
 ·rintro e w' ⟨v',F',rfl,h1,h2,h3,h4⟩;have e:(hs.filter fun x=>!(fun h:Hm=>!E5 W h.Ab) x)=Mv W hs:=by simp [Mv]
  rw [e] at h1;exact CC
theorem Ajf (W:Ax) (hs:List Hm) (g t o:Nat) (A B:aj) (a a2:ai) (c c2:Nat) (cl q:Int) (F F2:ak) (t0:0<=W.Al) (t1:W.Al<=65535) (hn:∀h∈hs,Cm h.Ab=true) :
  Fn prog 154 [Fv g o 0] [] [.row g t o A [aa W.Al,aa W.size,ab a W.An.length c,aa cl,aa q,ab a2 hs.length c2] B,.ow Bx 130 (ab a2 hs.length c2) hs F2,.ow Bc 9 (ab a W.An.length c) W.An F] (fun (_:ai × Nat × ak)=>True)
   (fun _=>.tuple #[]) (fun z=>[.row g t o A [aa W.Al,aa W.size,ab a W.An.length c,aa cl,aa q,.slice z.1 (Mv W hs).length z.2.1] B,.ow Bx 130 (.slice z.1 (Mv W hs).length z.2.1) (Mv W hs) z.2.2,.ow Bc 9 (ab a W.An.length c) W.An F]):=by
 refine enter func154 rfl ntmps154 fun w0=>?_;refine go ?_;intros;refine As [0,1] [9] ?_;refine D7 0 1 2 3 ?_;refine Ek 4 5 ?_;refine dN 6 ?_;refine oC ?_;refine Bw (Av1 W hs _ _ g t o A B a a2 c c2 cl q F F2 t0 t1 hn) fun z _=>?_;refine dk ?_;refine Ek 7 8 ?_;refine dN 9 ?_;refine oS ?_;refine Pg ?_;refine dd ?_;refine Ba2 ?_;exact DD
theorem Wr {a t:Int}:Ec a t<=(gp a t).toNat:=by unfold Ec;split <;> omega
theorem Na {w:Ak} {t:Int} (hg:C7 w=true):(Gt w t).next=A8 w.next ((Fm w t).length:Nat)/\(Gt w t).Am=w.Am.drop (Fm w t).length/\(Fm w t).length<=Ec w.next t+8/\Ec w.next t<=(Fm w t).length:=by
 obtain ⟨h0,h1⟩:0<=w.next/\w.next<=65535:=by
  unfold C7 at hg;simp only [av] at hg;exact Bb.1 hg.1.1.1
 have hl:w.Am.length<=8:=by
  unfold C7 at hg;simp only [av,aC] at hg;have:=hg.1.1.2;omega
 have e1:∀k (x:Ak),(Mu k x).length=k:=by
  intro k
  induction k with
  | zero=>intro x;rfl
  | succ k ih=>intro x;simp [Mu,ih]
 have h2:=Abh (Ec w.next t) w h0 h1;have h3:=Sg (Hw (Ec w.next t) w).Am (Hw (Ec w.next t) w).next
 have h4:=R9 (Ec w.next t) w;have h5:=Anf (Hw (Ec w.next t) w);rw [h4,aU] at h5;refine ⟨h2,?_,?_,?_⟩
 ·have e:(Gt w t).Am=(Hw (Ec w.next t) w).Am.drop (Pj (Hw (Ec w.next t) w)).length:=h3.1;rw [e,h4,cD];unfold Fm;rw [aw,e1]
 ·unfold Fm;rw [aw,e1];omega
 ·unfold Fm;rw [aw,e1];omega
theorem Amw (w:Ak) (n:Int):Ho w n=C2 w.Am (gp w.next n).toNat:=rfl
theorem Awc {w:Ak} {t n:Int} (hg:C7 w=true) (ht:gp w.next t<=8) (hn:Cm n=true) (h8:gp w.next n < 8) (hh:Ho w n=false) :
  (Qa n (Gt w t).next=true/\gp w.next n < ((Fm w t).length:Nat))\/(Qa n (Gt w t).next=false/\Ho (Gt w t) n=false/\gp w.next n=((Fm w t).length:Nat)+gp (Gt w t).next n):=by
 obtain ⟨e1,e2,e3, -⟩:=Na (t:=t) hg;have hs:=@Wr w.next t
 obtain ⟨n0,n1⟩:=Bb.1 hn;obtain ⟨w0,w1⟩:0<=w.next/\w.next<=65535:=by
  unfold C7 at hg;simp only [av] at hg;exact Bb.1 hg.1.1.1
 have hm:(Fm w t).length<=16:=EM
 have hb:=Kc w.next n
 rw [Amw,e1,e2,K0];rw [Amw] at hh;generalize hM:(Fm w t).length=m at *;clear e1 e2 e3 hs hM hg ht;by_cases hc:gp w.next n < (m:Nat)
 ·left;refine ⟨?_,hc⟩;unfold Qa Ht gp A8 at *;simp only [av,aC];omega
 ·right;have e:gp w.next n=m+gp (A8 w.next m) n:=by unfold gp A8 at *;omega
  refine ⟨?_,?_,e⟩
  ·have:¬(1<=gp n (A8 w.next m)/\gp n (A8 w.next m)<=32767):=by unfold gp A8 at *;omega
   unfold Qa Ht;simpa using this
  ·have hb2:=Kc (A8 w.next m) n;rw [show m+(gp (A8 w.next m) n).toNat=(gp w.next n).toNat by omega];exact hh
theorem Aho {w:Ak} {t:Int} (hg:C7 w=true) (ht:gp w.next t<=8) {l:List Aw} (hl:∀q∈l,Cm q.Ab=true/\gp w.next q.Ab < 8/\Ho w q.Ab=false):C3 l (Gt w t)=Vk l (Gt w t).next:=by
 unfold C3 Vk;refine dZ fun q hq=>?_;obtain ⟨a,b,c⟩:=hl q hq;rcases Awc hg ht a b c with ⟨h, -⟩|⟨h,h2,h3⟩
 ·simp [h]
 ·have:=Kc (Gt w t).next q.Ab
  simp [h,h2,show gp (Gt w t).next q.Ab < 8 by omega]
theorem Rd {c d:Int} {r q:Aw} (h:Qh c d r=some q):q.Ab=r.Ab:=by
 unfold Qh at h
 split at h
 ·cases h;rfl
 ·split at h
  ·cases h
  ·split at h <;> cases h <;> rfl
theorem Ws {c:Int} {r:Aw} {n:Int} (h:Sm c r=some n):n=r.Ab:=by
 unfold Sm at h
 split at h
 ·cases h
 ·split at h <;> cases h <;> rfl
theorem Ah8 {c:Int} {r:Aw} {n:Int} (h:Nq c r=some n):n=r.Ab:=by
 unfold Nq at h
 split at h
 ·cases h
 ·split at h
  ·cases h
  ·split at h <;> cases h <;> rfl
theorem U6 {r:Ay} (hg:Eu r) {q:Aw} (hq:q∈r.Aj):Cm q.Ab=true/\gp r.Aa.next q.Ab < 8/\Ho r.Aa q.Ab=false:=by
 obtain ⟨-, -,h3, -⟩:=Dv.1 hg.q;have:=Ep.1 (h3 q hq);exact ⟨this.n,this.g,hg.f q hq⟩
theorem Zs {r:Ay} {d:Int} (hg:Eu r) {q:Aw} (hq:q∈Ir r d):Cm q.Ab=true/\gp r.Aa.next q.Ab < 8/\Ho r.Aa q.Ab=false:=by
 obtain ⟨q',hq',h⟩:=bB.1 hq;rw [Rd h];exact U6 hg hq'
theorem Aa9 {r:Ay} (hg:Eu r) {n:Int} (hn:n∈Cf r):Cm n=true/\gp r.Aa.next n < 8:=by
 obtain ⟨q',hq',h⟩:=bB.1 hn;rw [Ws h];exact ⟨(U6 hg hq').1,(U6 hg hq').2.1⟩
theorem Gg {w:Ak} (hg:C7 w=true):0<=w.next/\w.next<=65535:=by
 unfold C7 at hg;simp only [av] at hg;exact Bb.1 hg.1.1.1
theorem Ach {r:Ay} (hg:Eu r) (h:Cf r≠[]):gp r.Aa.next (Ct (Cf r))<=8/\Cm (Ct (Cf r))=true:=by
 unfold Ct;have hm:(Cf r).getLastD 0∈Cf r:=by
  rw [cG,cJ h];exact dI h
 obtain ⟨a,b⟩:=Aa9 hg hm;refine ⟨?_,N8 _ _⟩;obtain ⟨n0,n1⟩:=Bb.1 a;obtain ⟨w0,w1⟩:=Gg hg.w;unfold gp A8 at *;omega
theorem Ab0 {r:Ay} {d:Int} (hg:Eu r) (h:Cf r≠[]):C3 (Ir r d) (Gt r.Aa (Ct (Cf r)))=Vk (Ir r d) (Gt r.Aa (Ct (Cf r))).next :=
 Aho hg.w (Ach hg h).1 fun _ hq=>Zs hg hq
theorem Aub {P:Program} {f:FuncId} {α:Type} {E:B8 α} {v:Value} {xs:List α} {F:ak} {rest:aj} {A M:List Pc} {σ:Type} {C:σ->Prop} {w:σ->Value} {N:σ->List Pc} (h:∀a c,Fn P f (ab a xs.length c::rest) (.sl E (ab a xs.length c) xs F::A) M C w N):Fn P f (v::rest) (.sl E v xs F::A) M C w N:=fun w0 hH hS=>by
 obtain ⟨-,hs⟩:=hH (.sl E v xs F) EO;obtain ⟨a,c,rfl⟩:=hs.slice;exact h a c w0 hH hS
theorem Ao3 (d:Int):FV 289 [aa d] [] (.bool (Asf d)):=by
 refine enter func289 rfl ntmps289 fun w0=>?_;refine go ?_;refine ce (fun w s=>Jc _ _ _ _) ?_;exact AB
theorem Vz (r:Aw) (base:Int) (b0:0<=base) (b1:base<=65535):FV 213 [.agg #[aa r.Ab,aa r.Dh,aa r.Bl,aa r.Ch],aa base] [] (.bool (Ml base r)):=by
 refine enter func213 rfl ntmps213 fun w0=>?_;refine go ?_;intros;refine ce (fun w s=>Jf _ _) ?_;cases g1:Cm r.Ab
 ·refine go ?_;refine ret () trivial ?_;simp [Ml,g1,Sr]
 obtain ⟨n0,n1⟩:=Bb.1 g1;refine go ?_;refine ce (fun w s=>Om _ _ _ EM EM EM EM) ?_;refine go ?_;refine Dm rfl rfl (fun g2=>?_) (fun g2=>?_)
 rotate_left
 ·refine go ?_;refine ret () trivial ?_;simp [Ml,g2,Sr]
 refine go ?_;refine ce (fun w s=>Jc _ _ _ _) ?_;cases g3:Ht 1 r.Dh 3
 ·refine go ?_;refine ret () trivial ?_;simp [Ml,g3,Sr]
 refine go ?_;refine ce (fun w s=>Jc _ _ _ _) ?_;cases g4:Ht 0 r.Bl 10007
 ·refine go ?_;refine ret () trivial ?_;simp [Ml,g4,Sr]
 refine go ?_;refine ce (fun w s=>Jc _ _ _ _) ?_;refine go ?_;refine ret () trivial ?_;simp [Ml,g1,g2,g3,g4,Sr]
theorem P9 (l:List Aw) (base:Int) (v:Value) (F:ak):FV 171 [v,aa base] [.sl A9 v l F] (.bool (Lh l base)):=by
 refine Aub (fun a c=>?_);refine enter func171 rfl ntmps171 fun w0=>?_;refine go ?_;refine ce (fun w s=>Jf _ _) ?_;cases g1:Cm base
 ·refine go ?_;refine ret () trivial ?_;simp [Lh,g1,Sr]
 obtain ⟨b0,b1⟩:=Bb.1 g1;refine go ?_;refine Bf rfl (fun g2=>?_) (fun g2=>?_)
 ·refine go ?_;refine ret () trivial ?_;rw [show Lh l base=false by unfold Lh;rw [ay EM];simp];rfl
 refine go ?_;refine Ei [0,1,4,15,16] (fun k:Nat=>[(17,aa (k:Nat))]) (fun k=>k<=l.length/\∀j,j < k->Ae6 l base j=true) (fun k=>l.length - k) 0 ⟨aD _,fun j h=>by omega⟩ fun k hk=>?_;obtain ⟨hk1,hk2⟩:=hk;refine go ?_;refine Bf rfl (fun h3=>?_) (fun h3=>?_)
 ·have hk3:k < l.length:=EM
  have bad:Ae6 l base k=false->Lh l base=false:=fun h=>Amq hk3 h;have hck:=Up (base:=base) hk3;refine Iu (xs:=l) k ?_;rintro hi b o e;rw [e];have p4:0 < k->∃h:k - 1 < l.length,Aq7 base l[k - 1]:=fun h0=>by
   have hk4:k - 1 < l.length:=EM
   have hp:=hk2 (k - 1) EM;rw [Up hk4] at hp;simp only [av] at hp;exact ⟨hk4,Ep.1 hp.1⟩
  refine go ?_;intros;cases g4:Ml base l[k]
  ·skip
   refine As [0] [] ?_;refine Ek 0 1 ?_;refine dN 2 ?_;refine oC ?_;refine Bw (Vz l[k] base b0 b1) fun _ _=>?_;rw [g4];refine dk ?_;refine Ek 3 4 ?_;refine ds 5 ?_;refine ds 6 ?_;refine ds 7 ?_;refine dsu 8 ?_;refine dsu 9 ?_;refine dsu 10 ?_;refine dsu 11 ?_;refine dsu 12 ?_;refine dsu 13 ?_;refine dsu 14 ?_;refine dsu 15 ?_;refine dsu 16 ?_;refine dsu 17 ?_;refine dsu 18 ?_;refine dsu 19 ?_;refine dsu 20 ?_;refine ds 21 ?_;refine dt 22 ?_;refine dd ?_;exact DK
  obtain ⟨q0,q1⟩:=Bb.1 (Ep.1 g4).n;by_cases hk0:0 < k
  ·obtain ⟨hk4,p5⟩:=p4 hk0;obtain ⟨p0,p1⟩:=Bb.1 p5.n;rw [<-e];refine Iu (xs:=l) (k - 1) ?_;rintro hi5 b5 o5 e5;rw [e5];refine As [0,1] [] ?_;refine Ek 0 1 ?_;refine dN 2 ?_;refine oC ?_;refine Bw (Vz l[k] base b0 b1) fun _ _=>?_;rw [g4];refine dk ?_;refine Ek 3 4 ?_;refine E6 5 ?_;refine E6 6 ?_;rw [au (show (0:Int) < k by omega)];refine E6 7 ?_;refine E6 8 ?_;refine E6 9 ?_;refine E6 10 ?_;refine E6 11 ?_;rw [show (k:Int) - 1=((k - 1:Nat):Int) by omega];refine E6 12 ?_;refine E6 13 ?_;refine E6 14 ?_;refine E6 16 ?_;refine E6 17 ?_;refine E6 18 ?_;refine d1g 15 ?_;apply On.h
   refine oC ?_;refine ce (fun w s=>Om _ _ _ EM EM EM EM) ?_;refine dk ?_;refine d1g 19 ?_;apply On.h;refine oC ?_;refine ce (fun w s=>Om _ _ _ EM EM EM EM) ?_;refine dk ?_;refine E6 20 ?_;refine E6 21 ?_;refine dt 22 ?_;refine dd ?_;refine go ?_;refine Bf rfl (fun h6=>?_) (fun h6=>?_)
   ·exact BN
   ·refine go ?_;refine Cv (k+1) ⟨EM,fun j hj=>?_⟩ EM;rcases aY (bt.1 hj) with h|rfl
    ·exact hk2 j h
    ·rw [hck,g4,ay h6];simp
  ·have hz:k=0:=EM
   refine As [0] [] ?_;refine Ek 0 1 ?_;refine dN 2 ?_;refine oC ?_;refine Bw (Vz l[k] base b0 b1) fun _ _=>?_;rw [g4];refine dk ?_;refine Ek 3 4 ?_;refine E6 5 ?_;refine E6 6 ?_;rw [ay (show ¬(0:Int) < k by omega)];refine E6 7 ?_;refine ds 8 ?_;refine ds 9 ?_;refine ds 10 ?_;refine ds 11 ?_;refine ds 12 ?_;refine ds 13 ?_;refine ds 14 ?_;refine ds 15 ?_;refine ds 16 ?_;refine ds 17 ?_;refine ds 18 ?_;refine ds 19 ?_;refine ds 20 ?_;refine E6 21 ?_;refine dt 22 ?_;refine dd ?_;refine go ?_;refine Cv (k+1) ⟨EM,fun j hj=>?_⟩ EM
   rcases aY (bt.1 hj) with h|rfl
   ·exact hk2 j h
   ·rw [hck,g4,au hz];simp
 have hkl:k=l.length:=EM
 refine go ?_;refine ret () trivial ?_;rw [Aiu g1 EM (hkl▸hk2)];rfl
theorem Apc (l:List Aw) (base:Int) (v:Value) (F:ak):FV 192 [v,aa base] [.sl A9 v l F] (.bool (Lh l base)):=by
 refine Aub (fun a c=>?_);refine enter func192 rfl ntmps192 fun w0=>?_;refine go ?_;refine ce (fun w s=>N3 _ _) ?_;cases g1:Cm base
 ·refine go ?_;refine ret () trivial ?_;simp [Lh,g1,Sr]
 obtain ⟨b0,b1⟩:=Bb.1 g1;refine go ?_;refine Bf rfl (fun g2=>?_) (fun g2=>?_)
 ·refine go ?_;refine ret () trivial ?_;rw [show Lh l base=false by unfold Lh;rw [ay EM];simp];rfl
 refine go ?_;refine Ei [0,1,4] (fun k:Nat=>[(5,aa (k:Nat))]) (fun k=>k<=l.length/\∀j,j < k->Ae6 l base j=true) (fun k=>l.length - k) 0 ⟨aD _,fun j h=>by omega⟩ fun k hk=>?_;obtain ⟨hk1,hk2⟩:=hk;refine go ?_;refine Bf rfl (fun h3=>?_) (fun h3=>?_)
 ·have hk3:k < l.length:=EM
  have bad:Ae6 l base k=false->Lh l base=false:=fun h=>Amq hk3 h;have hck:=Up (base:=base) hk3;refine Iu (xs:=l) k ?_;rintro hi b o e;rw [e];have p4:0 < k->∃h:k - 1 < l.length,Aq7 base l[k - 1]:=fun h0=>by
   have hk4:k - 1 < l.length:=EM
   have hp:=hk2 (k - 1) EM;rw [Up hk4] at hp;simp only [av] at hp;exact ⟨hk4,Ep.1 hp.1⟩
  refine go ?_;intros;refine ce (fun w s=>N3 _ _) ?_;cases g5:Cm l[k].Ab
  ·refine go ?_;refine ret () trivial ?_;rw [bad (by rw [hck,show Ml base l[k]=false by unfold Ml;simp [g5]];rfl)];rfl
  obtain ⟨q0,q1⟩:=Bb.1 g5;refine go ?_;refine ce (fun w s=>I1 _ _ _ EM EM) ?_;refine go ?_;refine Dm rfl rfl (fun g6=>?_) (fun g6=>?_)
  ·refine go ?_;refine ret () trivial ?_;rw [bad (by rw [hck,show Ml base l[k]=false by unfold Ml;rw [ay EM];simp];rfl)];rfl
  refine go ?_;refine ce (fun w s=>Mf _ _ _ _) ?_;cases g7:Ht 1 l[k].Dh 3
  ·refine go ?_;refine ret () trivial ?_;rw [bad (by rw [hck,show Ml base l[k]=false by unfold Ml;simp [g7]];rfl)];rfl
  refine go ?_;refine ce (fun w s=>Mf _ _ _ _) ?_;cases g8:Ht 0 l[k].Bl 10007
  ·refine go ?_;refine ret () trivial ?_;rw [bad (by rw [hck,show Ml base l[k]=false by unfold Ml;simp [g8]];rfl)];rfl
  refine go ?_;refine ce (fun w s=>Mf _ _ _ _) ?_;cases g9:Ht 0 l[k].Ch 3
  ·refine go ?_;refine ret () trivial ?_;rw [bad (by rw [hck,show Ml base l[k]=false by unfold Ml;simp [g9]];rfl)];rfl
  refine go ?_;have g4:Ml base l[k]=true:=by unfold Ml;rw [g5,g7,g8,g9,au EM];rfl
  by_cases hk0:0 < k
  ·obtain ⟨hk4,p5⟩:=p4 hk0;obtain ⟨p0,p1⟩:=Bb.1 p5.n;rw [<-e];refine Iu (xs:=l) (k - 1) ?_;rintro hi5 b5 o5 e5;rw [e5];refine As [1,0] [] ?_;refine Ek 0 1 ?_;rw [au (show (0:Int) < k by omega)];refine dt 2 ?_;refine E6 3 ?_;refine E6 4 ?_;refine E6 5 ?_;refine E6 6 ?_;rw [show (k:Int) - 1=((k - 1:Nat):Int) by omega];refine E6 7 ?_;refine E6 8 ?_;refine E6 9 ?_;refine E6 11 ?_;refine E6 12 ?_;refine E6 13 ?_;refine d1g 10 ?_;apply On.h;refine oC ?_;refine ce (fun w s=>I1 _ _ _ EM EM) ?_;refine dk ?_;refine d1g 14 ?_;apply On.h;refine oC ?_
   refine ce (fun w s=>I1 _ _ _ EM EM) ?_;refine dk ?_;refine E6 15 ?_;refine dt 16 ?_;refine dd ?_;refine go ?_;refine Bf rfl (fun h6=>?_) (fun h6=>?_)
   ·exact BN
   ·refine go ?_;refine Cv (k+1) ⟨EM,fun j hj=>?_⟩ EM;rcases aY (bt.1 hj) with h|rfl
    ·exact hk2 j h
    ·rw [hck,g4,ay h6];simp
  ·have hz:k=0:=EM
   refine As [0] [] ?_;refine Ek 0 1 ?_;rw [ay (show ¬(0:Int) < k by omega)];refine dt 2 ?_;refine ds 3 ?_;refine ds 4 ?_;refine ds 5 ?_;refine ds 6 ?_;refine ds 7 ?_;refine ds 8 ?_;refine ds 9 ?_;refine ds 10 ?_;refine ds 11 ?_;refine ds 12 ?_;refine ds 13 ?_;refine ds 14 ?_;refine ds 15 ?_;refine dt 16 ?_;refine dd ?_;refine go ?_;refine Cv (k+1) ⟨EM,fun j hj=>?_⟩ EM;rcases aY (bt.1 hj) with h|rfl
   ·exact hk2 j h
   ·rw [hck,g4,au hz];simp
 have hkl:k=l.length:=EM
 refine go ?_;refine ret () trivial ?_;rw [Aiu g1 EM (hkl▸hk2)];rfl
section
variable {c:Cx} {fr:Fr} {H:List Pc} {Φ:Gl}
theorem Gn {v:Value} {x:Ay} {F:ak} (h:∀(a1:ai) (c1:Nat) (F1:ak) (a2:ai) (c2:Nat) (F2:ak),v=.agg #[.bool x.A1,aa x.Ae,aa x.Aa.next,ab a1 x.Aa.Am.length c1,ab a2 x.Aj.length c2]->x.Aa.Am.length<=maxLen->x.Aj.length<=maxLen->T c fr (.sl C5 (ab a1 x.Aa.Am.length c1) x.Aa.Am F1::.sl A9 (ab a2 x.Aj.length c2) x.Aj F2::H) Φ) (hm:.isv Cg v x F∈H:=by exact Cb):T c fr H Φ:=.mk fun a w s g=>by
 exact AR
theorem E8 (x:Ay) {a1:ai} {c1:Nat} {F1:ak} {a2:ai} {c2:Nat} {F2:ak}  (h:T c fr (.isv Cg (.agg #[.bool x.A1,aa x.Ae,aa x.Aa.next,ab a1 x.Aa.Am.length c1,ab a2 x.Aj.length c2]) x (F1++F2)::H) Φ) (m1:.sl C5 (ab a1 x.Aa.Am.length c1) x.Aa.Am F1∈H:=by exact Cb) (m2:.sl A9 (ab a2 x.Aj.length c2) x.Aj F2∈H:=by exact Cb):T c fr H Φ:=.mk fun a w s g=>by
 refine h.h a w (s.add (N:=[_]) (Below.refl _ _) IG ⟨EO,trivial⟩ fun q hq b hb=>?_) g;obtain rfl:=aH.1 hq;simp only [Pc.F,aG] at hb;rcases hb with hb|hb
 ·exact .inr ⟨rfl,_,m1,rfl,hb⟩
 ·exact .inr ⟨rfl,_,m2,rfl,hb⟩
theorem I3 {v:Value} {x:Ay} {F:ak} {S:List Pc} (h:∀(a1:ai) (c1:Nat) (F1:ak) (a2:ai) (c2:Nat) (F2:ak),v=.agg #[.bool x.A1,aa x.Ae,aa x.Aa.next,ab a1 x.Aa.Am.length c1,ab a2 x.Aj.length c2]->x.Aa.Am.length<=maxLen->x.Aj.length<=maxLen->T c fr (.ow C5 190 (ab a1 x.Aa.Am.length c1) x.Aa.Am F1::.ow A9 161 (ab a2 x.Aj.length c2) x.Aj F2::S) Φ) (hp:De H (.Mw Ca v x F) S:=by exact En):T c fr H Φ:=.mk fun a w s g=>by
 obtain ⟨hn,cs,rfl,v1,v2,G1,G2,rfl,h1,h2,rfl⟩:=(s.pick hp).on (.Mw Ca v x F) EO;obtain ⟨a1,c1,rfl⟩:=h1.slice;have l1:=h1.len;obtain ⟨a2,c2,rfl⟩:=h2.slice;have l2:=h2.len;exact (h a1 c1 G1 a2 c2 G2 rfl  l1 l2).h a w (s.mer (M:=[.Mw Ca _ x _]) (N:=[.ow C5 _ _ _ G1,.ow A9 _ _ _ G2]) (.cons hp .nil) (fun _ _=>⟨Amx ⟨(Ba3 hn),h1⟩ (Amx ⟨Ba4 hn,h2⟩ (Ax3)),FO⟩) GC) g
theorem Ln (x:Ay) {a1:ai} {c1:Nat} {F1:ak} {a2:ai} {c2:Nat} {F2:ak} {S1 S2:List Pc}  (h:T c fr (.Mw Ca (.agg #[.bool x.A1,aa x.Ae,aa x.Aa.next,ab a1 x.Aa.Am.length c1,ab a2 x.Aj.length c2]) x (F1++F2)::S2) Φ) (m1:De H (.ow C5 190 (ab a1 x.Aa.Am.length c1) x.Aa.Am F1) S1:=by exact En) (m2:De S1 (.ow A9 161 (ab a2 x.Aj.length c2) x.Aj F2) S2:=by exact En)  : T c fr H Φ:=.mk fun a w s g =>
 h.h a w (s.mer (M:=[.ow C5 _ _ _ F1,.ow A9 _ _ _ F2]) (N:=[.Mw Ca _ x (F1++F2)]) (.cons m1 (.cons m2 (.nil))) (fun hk hn=>⟨I0 ⟨FO,_,rfl,_,_,_,_,rfl,(Vx hk).2,(Vx (M5 hk)).2,rfl⟩,FO⟩) GC) g
theorem Od {a:ai} {n cp:Nat} {xs:List Ay} {F:ak} (i:Nat) (h:∀(hi:i < xs.length) (b o:Nat) (a1:ai) (c1:Nat) (F1:ak) (a2:ai) (c2:Nat) (F2:ak),a=some ⟨b,o,none⟩->xs[i].Aa.Am.length<=maxLen->xs[i].Aj.length<=maxLen->T c fr (.cel b (o+i * 5) [.bool xs[i].A1,aa xs[i].Ae,aa xs[i].Aa.next,.slice a1 xs[i].Aa.Am.length c1,.slice a2 xs[i].Aj.length c2]::.sl C5 (.slice a1 xs[i].Aa.Am.length c1) xs[i].Aa.Am F1::.sl A9 (.slice a2 xs[i].Aj.length c2) xs[i].Aj F2::H) Φ) (hm:.sl Cg (ab a n cp) xs F∈H:=by exact Cb) (hi:i < xs.length:=by omega):T c fr H Φ:=.mk fun ac w s g=>by
 obtain ⟨b,o,cs,G,ha,hrep,hG,hb,hne,hr⟩:=Vm (s.get hm) i hi;obtain ⟨v1,v2,G1,G2,rfl,h1,h2,rfl⟩:=hrep;obtain ⟨a1,c1,rfl⟩:=h1.slice;have l1:=h1.len;obtain ⟨a2,c2,rfl⟩:=h2.slice;have l2:=h2.len;have t2:=s.ro (p:=.sl _ _ _ _) hm rfl rfl ⟨EN,h2⟩ GW;have t1:=t2.ro (p:=.sl _ _ _ _) (aN _ hm) rfl rfl ⟨EN,h1⟩ GW
 exact (h hi b o a1 c1 G1 a2 c2 G2 ha  l1 l2).h ac w (t1.ro (aN _ (aN _ hm)) rfl rfl ⟨hne,hr⟩ FM) g
end
theorem Ah5 {c:Cx} {fr:Fr} {H S:List Pc} {Φ:Gl} {g t:Nat} {cs:aj} (h:T c fr (.cel g 0 cs::S) Φ) (h0:cs≠[]) (hp:De H (.row g t 0 [] cs []) S:=by exact En):T c fr H Φ:=.mk fun ac w s ag=>by
 have s1:=s.pick hp;exact h.h ac w (s1.conv rfl ⟨h0,Hq (s1.on (.row g t 0 [] cs []) EO)⟩ (fun b hb=>hb)) ag
theorem Ans {c:Cx} {fr:Fr} {H S:List Pc} {Φ:Gl} {g t o k:Nat} {A B L:aj} (X cs Y:aj) (h:T c fr (.row g t (o+k) (A++X) cs (Y++B)::S) Φ) (hL:L=X++cs++Y:=by rfl) (hk:X.length=k:=by rfl) (hp:De H (.row g t o A L B) S:=by exact En):T c fr H Φ:=.mk fun ac w s ag=>by
 subst hL hk;have s1:=s.pick hp;obtain ⟨hA,hr⟩:=s1.on (.row g t o A (X++cs++Y) B) EO;exact h.h ac w (s1.conv rfl ⟨by simp [hA],by simpa [aJ] using hr⟩ (fun b hb=>hb)) ag
theorem Ael {c:Cx} {fr:Fr} {H S:List Pc} {Φ:Gl} {g t o k:Nat} {A B L:aj} (X cs Y:aj) (h:T c fr (.row g t o A L B::S) Φ) (hL:L=X++cs++Y:=by rfl) (hk:X.length=k:=by rfl) (hp:De H (.row g t (o+k) (A++X) cs (Y++B)) S:=by exact En):T c fr H Φ:=.mk fun ac w s ag=>by
 subst hL hk;have s1:=s.pick hp;obtain ⟨hA,hr⟩:=s1.on (.row g t (o+X.length) (A++X) cs (Y++B)) EO;exact h.h ac w (s1.conv rfl ⟨IK,by simpa [aJ] using hr⟩ (fun b hb=>hb)) ag
theorem Aak {p:Pc}:∀(A:List Pc),Kl (p::A) A
 | []=>.nil
 | _::r=>.cons (.there .here) (Aak r)
theorem Aii (fid:FuncId) (bd caps:aj) (A:List Pc) (hA:A.all (fun p=>!p.mu)=true) (xs:List Aw) (a:ai) (c:Nat) (F:ak) (p:Aw->Bool) (hb:O2 prog fid=true) (hl:xs.length<=1000000000)
  (hp:∀x∈xs,∀w,Nh A w->Calls prog fid (bd++[(.agg #[aa (x).Ab,aa (x).Dh,aa (x).Bl,aa (x).Ch]:Value)]++caps).toArray w (RB (.bool (p x)) w)) :
  Fn prog 214 [ab a xs.length c,.func (.func fid) bd.toArray caps.toArray] (.sl A9 (ab a xs.length c) xs F::A) [] (fun (_:Unit)=>True) (fun _=>aa (Qz p xs)) (fun _=>[]):=by
 refine enter func214 rfl ntmps214 (fun w0=>?_) rfl EY .nil;refine go ?_;refine Ei [0,1,4,7] (fun k:Nat=>[(8,aa (k:Nat))]) (fun k=>k<=xs.length/\∀j (_:j < k) (hj:j < xs.length),p xs[j]=false) (fun k=>xs.length - k) 0 ⟨aD _,fun j h=>by omega⟩ fun k hk=>?_;obtain ⟨hk1,hk2⟩:=hk;refine go ?_;refine Bf rfl (fun h5=>?_) (fun h5=>?_)
 ·have hh:k < xs.length:=EM
  refine go ?_;refine Iu (xs:=xs) k ?_;rintro hi b o e;rw [e];refine go ?_;apply wO;refine Wn rfl rfl hb Tt ?_;refine cb (fun w st=>hp xs[k] (aE hh) w (fun q hq=>st.on q FB)) ?_;cases hpk:p xs[k]
  ·refine go ?_;refine Tg ?_;refine Cv (hH:=Jx _) (k+1) ⟨hh,fun j hj h=>?_⟩ EM;rcases aY (bt.1 hj) with h2|rfl
   ·exact hk2 j h2 h
   ·exact hpk
  ·refine go ?_;exact DW
 ·obtain rfl:k=xs.length:=EM
  refine go ?_;exact BO
structure Aqy where
 i:Nat
 j:Nat
 zs:List Aw
theorem Aih (fid:FuncId) (bd caps:aj) (A:List Pc) (hA:A.all (fun p=>!p.mu)=true) (xs:List Aw) (a:ai) (c:Nat) (F:ak) (p:Aw->Bool) (hb:O2 prog fid=true) (hl:xs.length<=1000000000)
  (hp:∀x∈xs,∀w,Nh A w->Calls prog fid (bd++[(.agg #[aa (x).Ab,aa (x).Dh,aa (x).Bl,aa (x).Ch]:Value)]++caps).toArray w (RB (.bool (p x)) w)) :
  Fn prog 186 [ab a xs.length c,.func (.func fid) bd.toArray caps.toArray] A [.ow A9 161 (ab a xs.length c) xs F] (fun (_:ai × Nat × ak)=>True)
   (fun z=>.slice z.1 (xs.filter fun x=>!p x).length z.2.1) (fun z=>[.ow A9 161 (.slice z.1 (xs.filter fun x=>!p x).length z.2.1) (xs.filter fun x=>!p x) z.2.2]):=by
 refine enter func186 rfl ntmps186 (fun w0=>?_) rfl EY (.cons .nil);refine go ?_;refine cb (fun w st=>by
  obtain ⟨Fw, -,hw⟩:=(st.get (p:=.ow A9 161 (ab a xs.length c) xs F) EO).2.read;refine (Aii fid bd caps A hA xs a c Fw p hb hl hp).val w ?_ EY;intro q hq;rcases aF.1 hq with rfl|hq
  ·exact ⟨EN,hw⟩
  ·exact st.on q FB) ?_
 by_cases hany:xs.any p=true
 ·obtain ⟨i0,hi0,hfx,hpi,hfl⟩:=Wi hany;rw [hfx];refine Ah4 (xs:=xs) Ee (by rintro rfl;simp at hi0) ?_;rintro g rfl rfl - hc1 hc2;refine go ?_;refine Cu [0,1,4] (fun s:Aqy=>[(5,aa (s.i:Nat)),(6,aa (s.j:Nat))]) (fun s=>[.ow A9 161 (ab (some ⟨g,0,none⟩) xs.length c) s.zs [g]]) (fun s=>s.zs.length=xs.length/\s.j<=xs.length/\s.i < s.j/\s.zs.take s.i=(xs.take s.j).filter (fun x=>!p x)/\s.zs.drop s.j=xs.drop s.j) (fun s=>xs.length - s.j) ⟨i0,i0+1,xs⟩ ⟨rfl,hi0,Nat.lt_succ_self _,by rw [Df hi0 (by simp [hpi]),hfl],rfl⟩ fun s hs=>?_;obtain ⟨i,j,zs⟩:=s;obtain ⟨h1,h2,h3,h4,h5⟩:=hs
  dsimp only at h1 h2 h3 h4 h5 ⊢;refine go ?_;refine Bf rfl (fun h6=>?_) (fun h6=>?_)
  ·have hj:j < xs.length:=EM
   have hjz:j < zs.length:=EM
   have hx:zs[j]=xs[j]:=by
    have a1:=bN hjz;have a2:=bN hj;rw [h5,a2] at a1;exact (List.cons.inj a1).1.symm
   have hdz:zs.drop (j+1)=xs.drop (j+1):=by
    rw [<-cD,h5,cD]
   refine go ?_;refine Qq (m:=4) Ee j ?_ EP rfl hjz;rintro _ g2 A2 cs2 B2 e1 e2 hc3 hh;cases e1;obtain ⟨rfl, -⟩:=hc3 w0;refine go ?_;intros;refine Pf zs[j] hh hc3 ?_;rw [bu,hx];apply wO;refine Wn rfl rfl hb Tt ?_;refine cb (fun w st=>hp xs[j] (aE hj) w (fun q hq=>st.on q FB)) ?_;cases hpj:p xs[j]
   ·refine go ?_;refine Qq (m:=4) Ee i ?_ EP rfl EM;rintro _ g3 A3 cs3 B3 e1 e2 hc4 hh3;cases e1;obtain ⟨rfl, -⟩:=hc4 w0;refine go ?_;refine Pf xs[j] hh3 (fun w=>⟨rfl,rfl⟩) ?_;refine Cv (hH:=.cons .here (Aak _)) (⟨i+1,j+1,zs.set i xs[j]⟩:Aqy) ⟨by simp [h1],hj,Nat.succ_lt_succ h3,?_,?_⟩ HS
    ·dsimp only;rw [Gj hj (by simp [hpj]),<-h4,cF,eh EM,fT (aA _)];rfl
    ·dsimp only;rw [fO EM,hdz]
   ·refine go ?_;refine Cv (hH:=.cons .here (Aak _)) (⟨i,j+1,zs⟩:Aqy) ⟨h1,hj,Nat.lt_succ_of_lt h3,?_,hdz⟩ HS;dsimp only;rw [Df hj (by simp [hpj]),h4]
  ·obtain rfl:j=xs.length:=EM
   have h4':zs.take i=xs.filter fun x=>!p x:=by rw [h4,bG]
   have hil:(xs.filter fun x=>!p x).length=i:=by rw [<-h4',aL];omega
   refine go ?_;apply wO;apply oc;rfl;exact Kb (i:=i) rfl rfl rfl EM EM EM;refine go ?_;apply wO;refine Am6 (z0:=⟨0,0,0,0⟩) (n:=xs.length) (cp:=c) (i:=i) (g:=g) Ee (fun w=>⟨rfl,rfl⟩) EN rfl rfl h3 h1.symm EP ?_;refine go ?_;refine Aem (xs:=zs.take i++List.replicate (xs.length - i) ⟨0,0,0,0⟩) i (fun F2=>?_) (by rw [aw,aL,be];omega);rw [bR FK,h4'];apply wO;apply oc;rfl;exact Nv (i:=i) rfl rfl rfl EM EM
   refine go ?_;subst hil;refine ret (_,c,F2) trivial rfl
 ·obtain ⟨hfx,hfl⟩:=Yx hany;rw [hfx,hfl];refine go ?_;refine ret (a,c,F) trivial rfl
theorem Aqw (fid:FuncId) (bd caps:aj) (A:List Pc) (hA:A.all (fun p=>!p.mu)=true) (xs:List Aw) (a:ai) (c:Nat) (F:ak) (p:Aw->Bool) (hb:O2 prog fid=true) (hl:xs.length<=1000000000)
  (hp:∀x∈xs,∀w,Nh A w->Calls prog fid (bd++[(.agg #[aa (x).Ab,aa (x).Dh,aa (x).Bl,aa (x).Ch]:Value)]++caps).toArray w (RB (.bool (p x)) w)) :
  Fn prog 172 [ab a xs.length c,.func (.func fid) bd.toArray caps.toArray] (.sl A9 (ab a xs.length c) xs F::A) [] (fun (_:Unit)=>True) (fun _=>.bool (xs.any p)) (fun _=>[]):=by
 refine enter func172 rfl ntmps172 (fun w0=>?_) rfl EY .nil;refine go ?_;refine cb (fun w st=>(Aii fid bd caps A hA xs a c F p hb hl hp).val w (fun q hq=>st.on q (by simpa using hq)) EY) ?_;refine go ?_;refine ret () trivial ?_;rw [R8];rfl
theorem Awt (x:Ak) (r:Aw) (g:Nat) (b:Bool) (ck:Int) (q:Value) (a1:ai) (c1:Nat) (F:ak) (h0:0<=x.next) (h1:x.next<=65535) (n0:0<=r.Ab) (n1:r.Ab<=65535):FV 173 [.agg #[aa r.Ab,aa r.Dh,aa r.Bl,aa r.Ch],Fv g 0 0] [.cel g 0 [.bool b,aa ck,aa x.next,ab a1 x.Am.length c1,q],.isv Bz (.agg #[aa x.next,ab a1 x.Am.length c1]) x F] (.bool (Ho x r.Ab)):=by
 refine enter func173 rfl ntmps173 fun w0=>?_;refine go ?_;intros;refine Bw (Yl x r.Ab _ F h0 h1 n0 n1) fun _ _=>?_;exact AB
theorem Yk (x:Ay) (v:Value) (F:ak):FV 112 [v] [.isv Cg v x F] (.bool (Dx x)):=by
 refine enter func112 rfl ntmps112 fun w0=>?_;refine Gn ?_;rintro a1 c1 F1 a2 c2 F2 rfl l1 l2;unfold maxLen at l1 l2;refine Cr x.Aa ?_;generalize F1=F3;refine go ?_;intros;refine ce (fun w s=>Ro _ _) ?_;cases g1:J9 x.Ae
 ·refine go ?_;refine ret () trivial ?_;simp [Dx,g1,Sr]
 refine go ?_;cases hs:x.A1
 ·have nog:Ob x=false->Dx x=false:=fun h=>by unfold Dx;rw [g1,hs];simpa using h
  refine go ?_;refine Dm rfl rfl (fun h1=>?_) (fun h1=>?_)
  rotate_left
  ·refine go ?_;refine ret () trivial ?_;rw [nog (by unfold Ob;rw [ay h1];rfl)];rfl
  refine go ?_;refine Dm rfl rfl (fun h2=>?_) (fun h2=>?_)
  rotate_left
  ·refine go ?_;refine ret () trivial ?_;rw [nog (by unfold Ob;rw [ay (show ¬x.Aa.Am.length=0 by omega)];simp)];rfl
  exact CR
 rename_i g;refine Ah5 (cs:=[.bool true,aa x.Ae,aa x.Aa.next,ab a1 x.Aa.Am.length c1,ab a2 x.Aj.length c2]) ?_ EO;refine go ?_;refine Bw (Aq8 x.Aa _ F3) fun _ _=>?_;cases g2:C7 x.Aa
 ·refine go ?_;refine ret () trivial ?_;simp [Dx,g1,g2,hs,Sr]
 obtain ⟨w0_,w1_⟩:=Gg g2;refine go ?_;refine Bw (P9 x.Aj x.Aa.next _ F2) fun _ _=>?_;cases g3:Lh x.Aj x.Aa.next
 ·refine go ?_;refine ret () trivial ?_;simp [Dx,g1,g2,g3,hs,Sr]
 obtain ⟨-,q1,q2, -⟩:=Dv.1 g3;refine go ?_;refine cb (fun w st=>(Aqw 173 [] [Fv g 0 0] [.cel g 0 [.bool true,aa x.Ae,aa x.Aa.next,ab a1 x.Aa.Am.length c1,ab a2 x.Aj.length c2],.isv Bz (.agg #[aa x.Aa.next,ab a1 x.Aa.Am.length c1]) x.Aa F3] rfl x.Aj a2 c2 F2 (fun z=>Ho x.Aa z.Ab) ER EM (fun z hz w hA=>by
  obtain ⟨n0,n1⟩:=Bb.1 (Ep.1 (q2 z hz)).n;exact (Awt x.Aa z g true x.Ae _ a1 c1 F3 w0_ w1_ n0 n1).val w hA)).val w (fun q hq=>by
   simp only [aF,aM,bn] at hq;rcases hq with rfl|rfl|rfl <;> exact st.get EQ)) ?_
 refine go ?_;refine ret () trivial ?_;rw [show Dx x = !(x.Aj.any fun z=>Ho x.Aa z.Ab) by unfold Dx Afs;rw [g1,g2,g3,hs,dy];simp];rfl
theorem Ar3 {x:Ay} {k:Nat} (h:k < x.Aj.length) (hh:Ho x.Aa x.Aj[k].Ab=true):Afs x=false:=cU.2 ⟨_,aE h,by simp [hh]⟩
theorem Asa {w:Ak} {n:Int} (hw:C7 w=true) (hn:Cm n=true) (h8:gp w.next n < 8):(Qa n w.next || Ho w n)=Ho w n:=by
 obtain ⟨w0,w1⟩:=Gg hw;obtain ⟨n0,n1⟩:=Bb.1 hn;have:Qa n w.next=false:=by
  have:¬(1<=gp n w.next/\gp n w.next<=32767):=by unfold gp at *;omega
  unfold Qa Ht;simpa using this
 rw [this];rfl
theorem Apf (x:Ay) (v:Value) (F:ak):FV 136 [v] [.isv Cg v x F] (.bool (Dx x)):=by
 refine enter func136 rfl ntmps136 fun w0=>?_;refine Gn ?_;rintro a1 c1 F1 a2 c2 F2 rfl l1 l2;unfold maxLen at l1 l2;refine Cr x.Aa ?_;generalize F1=F3;refine go ?_;intros;refine ce (fun w s=>Xt _ _) ?_;cases g1:J9 x.Ae
 ·refine go ?_;refine ret () trivial ?_;simp [Dx,g1,Sr]
 refine go ?_;refine Bw (Ao6 x.Aa _ F3) fun _ _=>?_;cases g2:C7 x.Aa
 ·refine go ?_;refine ret () trivial ?_;cases hg:Dx x
  ·rfl
  ·rw [(Gm.1 hg).w] at g2;cases g2
 obtain ⟨w0_,w1_⟩:=Gg g2;refine go ?_;refine Bw (Apc x.Aj x.Aa.next _ F2) fun _ _=>?_;cases g3:Lh x.Aj x.Aa.next
 ·refine go ?_;refine ret () trivial ?_;cases hg:Dx x
  ·rfl
  ·rw [(Gm.1 hg).q] at g3;cases g3
 obtain ⟨-,q1,q2, -⟩:=Dv.1 g3;refine go ?_;cases hs:x.A1
 ·have nog:Ob x=false->Dx x=false:=fun h=>by unfold Dx;rw [g1,hs];simpa using h
  refine go ?_;refine Dm rfl rfl (fun h1=>?_) (fun h1=>?_)
  rotate_left
  ·refine go ?_;refine ret () trivial ?_;rw [nog (by unfold Ob;rw [ay h1];rfl)];rfl
  refine go ?_;refine Dm rfl rfl (fun h2=>?_) (fun h2=>?_)
  rotate_left
  ·refine go ?_;refine ret () trivial ?_;rw [nog (by unfold Ob;rw [ay (show ¬x.Aa.Am.length=0 by omega)];simp)];rfl
  exact CR
 refine go ?_;refine Ei [1,2] (fun k:Nat=>[(3,aa (k:Nat))]) (fun k=>k<=x.Aj.length/\∀j (_:j < k) (h:j < x.Aj.length),Ho x.Aa x.Aj[j].Ab=false) (fun k=>x.Aj.length - k) 0 ⟨aD _,fun j h=>by omega⟩ fun k hk=>?_;obtain ⟨hk1,hk2⟩:=hk;refine go ?_;refine Bf rfl (fun h3=>?_) (fun h3=>?_)
 ·have hk3:k < x.Aj.length:=EM
  have hq:=Ep.1 (q2 _ (aE hk3));obtain ⟨n0,n1⟩:=Bb.1 hq.n;refine Iu (xs:=x.Aj) k ?_;rintro hi b o e;rw [e];refine go ?_;refine As [0,1] [] ?_;refine D7 0 1 2 3 ?_;refine D7 4 5 6 7 ?_;refine dN 8 ?_;refine oC ?_;refine Bw (Aan x.Aa x.Aj[k].Ab _ F3 w0_ w1_ n0 n1) fun _ _=>?_;refine dk ?_;refine dd ?_;rw [show Em x.Aa x.Aj[k].Ab=Ho x.Aa x.Aj[k].Ab from Asa g2 hq.n hq.g];cases g5:Ho x.Aa x.Aj[k].Ab
  ·refine go ?_;refine Cv (k+1) ⟨EM,fun j hj h=>?_⟩ EM;rcases aY (bt.1 hj) with h'|rfl
   ·exact hk2 j h' h
   ·exact g5
  ·refine go ?_;refine ret () trivial ?_;rw [show Dx x=false by unfold Dx;rw [g1,g2,g3,hs,Ar3 hk3 g5];rfl];rfl
 have hkl:k=x.Aj.length:=EM
 refine go ?_;refine ret () trivial ?_;rw [show Dx x=true by
  unfold Dx Afs;rw [g1,g2,g3,hs,aQ.2 fun z hz=>?_];rfl;obtain ⟨i,hi,rfl⟩:=aR hz;rw [hk2 i EM hi];rfl];rfl
theorem Hv {α β:Type} {f:α->Option β} {l:List α} {k:Nat} (h:k < l.length):(l.take (k+1)).filterMap f=(l.take k).filterMap f++(f l[k]).toList:=by
 rw [cF,aB h,List.filterMap_append];cases hf:f l[k] <;> simp [hf]
theorem Aad {α β:Type} (f:α->Option β) (l:List α) (k:Nat):((l.take k).filterMap f).length<=k:=by
 have:=cK f (l.take k);rw [aL] at this;omega
structure TkS where
 k:Nat
 a:ai
 c:Nat
 F:ak
 a2:ai
 c2:Nat
 F2:ak
 a3:ai
 c3:Nat
 F3:ak
theorem Aeq (l:List Aw) (c d:Int) (a0:ai) (c0:Nat) (F:ak) (hl:l.length<=1000000) (ht:∀r∈l,0<=r.Ch/\r.Ch<=3) (c0_:0<=c) (c1_:c<=1000000) (d0_:-1000000<=d) (d1_:d<=1000000) :
  Fn prog 126 [ab a0 l.length c0,aa c,aa d] [.sl A9 (ab a0 l.length c0) l F] [] (fun (_:TkS)=>True) (fun s=>.tuple #[.slice s.a (l.filterMap (Qh c d)).length s.c,.slice s.a2 (l.filterMap (Nq c)).length s.c2,.slice s.a3 (l.filterMap (Sm c)).length s.c3]) (fun s=>[.ow A9 161 (.slice s.a (l.filterMap (Qh c d)).length s.c) (l.filterMap (Qh c d)) s.F,.ow Bi 3 (.slice s.a2 (l.filterMap (Nq c)).length s.c2) (l.filterMap (Nq c)) s.F2,.ow Bi 3 (.slice s.a3 (l.filterMap (Sm c)).length s.c3) (l.filterMap (Sm c)) s.F3]):=by
 refine enter func126 rfl ntmps126 fun w0=>?_;refine go ?_;refine B4 A9 161 ?_;refine B4 Bi 3 ?_;refine B4 Bi 3 ?_
 refine Cu [1,2,6,7,8,14,15] (fun s:TkS=>[(16,aa (s.k:Nat)),(9,.slice s.a ((l.take s.k).filterMap (Qh c d)).length s.c),(10,.slice s.a2 ((l.take s.k).filterMap (Nq c)).length s.c2),(11,.slice s.a3 ((l.take s.k).filterMap (Sm c)).length s.c3)]) (fun s=>[.ow A9 161 (.slice s.a ((l.take s.k).filterMap (Qh c d)).length s.c) ((l.take s.k).filterMap (Qh c d)) s.F,.ow Bi 3 (.slice s.a2 ((l.take s.k).filterMap (Nq c)).length s.c2) ((l.take s.k).filterMap (Nq c)) s.F2,.ow Bi 3 (.slice s.a3 ((l.take s.k).filterMap (Sm c)).length s.c3) ((l.take s.k).filterMap (Sm c)) s.F3]) (fun s=>s.k<=l.length) (fun s=>l.length - s.k) ⟨0,_,_,_,_,_,_,_,_,_⟩ (aD _) fun s hs=>?_
 obtain ⟨k,a4,c4,F4,a5,c5,F5,a6,c6,F6⟩:=s;dsimp only at hs ⊢;have h1:=Aad (Qh c d) l k;have h2:=Aad (Nq c) l k;have h3:=Aad (Sm c) l k;refine go ?_;refine Bf rfl (fun h4=>?_) (fun h4=>?_)
 ·have hk:k < l.length:=EM
  obtain ⟨t0,t1⟩:=ht _ (aE hk);refine Iu (xs:=l) k ?_;rintro hi b o e;rw [e];refine go ?_;intros;refine Bf rfl (fun h5=>?_) (fun h5=>?_)
  ·have h5':c < l[k].Bl:=EM
   refine go ?_;intros;have eo:((l.take (k+1)).filterMap (Qh c d))=((l.take k).filterMap (Qh c d))++[l[k]]:=by rw [Hv hk];simp [Qh,h5']
   have es:((l.take (k+1)).filterMap (Nq c))=((l.take k).filterMap (Nq c)):=by rw [Hv hk];simp [Nq,h5']
   have el:((l.take (k+1)).filterMap (Sm c))=((l.take k).filterMap (Sm c)):=by rw [Hv hk];simp [Sm,h5']
   apply wO;refine No (ys:=[l[k]]) (M2 l[k]) Dg fun a7 c7 F7=>?_;exact AD
  refine go ?_;refine Bf rfl (fun h6=>?_) (fun h6=>?_)
  ·refine go ?_;intros;have eo:((l.take (k+1)).filterMap (Qh c d))=((l.take k).filterMap (Qh c d)):=by rw [Hv hk];simp [Qh,h5,h6]
   have es:((l.take (k+1)).filterMap (Nq c))=((l.take k).filterMap (Nq c)):=by rw [Hv hk];simp [Nq,h5,h6]
   have el:((l.take (k+1)).filterMap (Sm c))=((l.take k).filterMap (Sm c))++[l[k].Ab]:=by rw [Hv hk];simp [Sm,h5,h6]
   apply wO;refine No (ys:=[l[k].Ab]) (U5 _) Dw fun a8 c8 F8=>?_;exact AD
  refine go ?_;refine Bf rfl (fun h7=>?_) (fun h7=>?_)
  ·refine go ?_;intros;have eo:((l.take (k+1)).filterMap (Qh c d))=((l.take k).filterMap (Qh c d))++[(⟨l[k].Ab,2,c+3,l[k].Ch+1⟩:Aw)]:=IB
   have es:((l.take (k+1)).filterMap (Nq c))=((l.take k).filterMap (Nq c))++[l[k].Ab]:=IC
   have el:((l.take (k+1)).filterMap (Sm c))=((l.take k).filterMap (Sm c)):=IA
   exact BZ
  ·refine go ?_;intros;have eo:((l.take (k+1)).filterMap (Qh c d))=((l.take k).filterMap (Qh c d))++[(⟨l[k].Ab,1,c+d,l[k].Ch⟩:Aw)]:=IB
   have es:((l.take (k+1)).filterMap (Nq c))=((l.take k).filterMap (Nq c)):=IC
   have el:((l.take (k+1)).filterMap (Sm c))=((l.take k).filterMap (Sm c)):=IA
   exact DU
 ·obtain rfl:k=l.length:=EM
  rw [bG];refine go ?_;refine ret ⟨0,_,_,_,_,_,_,_,_,_⟩ trivial rfl
theorem Ape (l:List Aw) (c d:Int) (a0:ai) (c0:Nat) (F:ak) (hl:l.length<=1000000) (ht:∀r∈l,0<=r.Ch/\r.Ch<=3) (c0_:0<=c) (c1_:c<=1000000) (d0_:-1000000<=d) (d1_:d<=1000000) :
  Fn prog 195 [ab a0 l.length c0,aa c,aa d] [.sl A9 (ab a0 l.length c0) l F] [] (fun (_:TkS)=>True) (fun s=>.tuple #[.slice s.a (l.filterMap (Qh c d)).length s.c,.slice s.a2 (l.filterMap (Nq c)).length s.c2,.slice s.a3 (l.filterMap (Sm c)).length s.c3]) (fun s=>[.ow A9 161 (.slice s.a (l.filterMap (Qh c d)).length s.c) (l.filterMap (Qh c d)) s.F,.ow Bi 3 (.slice s.a2 (l.filterMap (Nq c)).length s.c2) (l.filterMap (Nq c)) s.F2,.ow Bi 3 (.slice s.a3 (l.filterMap (Sm c)).length s.c3) (l.filterMap (Sm c)) s.F3]):=by
 refine enter func195 rfl ntmps195 fun w0=>?_;refine go ?_;intros;refine Dk Bi ?_;refine Dk Bi ?_;refine Dk A9 ?_
 refine Cu [0,1,2,6,7,8] (fun s:TkS=>[(12,aa (s.k:Nat)),(9,.slice s.a ((l.take s.k).filterMap (Qh c d)).length s.c),(10,.slice s.a2 ((l.take s.k).filterMap (Nq c)).length s.c2),(11,.slice s.a3 ((l.take s.k).filterMap (Sm c)).length s.c3)]) (fun s=>[.ow A9 161 (.slice s.a ((l.take s.k).filterMap (Qh c d)).length s.c) ((l.take s.k).filterMap (Qh c d)) s.F,.ow Bi 3 (.slice s.a2 ((l.take s.k).filterMap (Nq c)).length s.c2) ((l.take s.k).filterMap (Nq c)) s.F2,.ow Bi 3 (.slice s.a3 ((l.take s.k).filterMap (Sm c)).length s.c3) ((l.take s.k).filterMap (Sm c)) s.F3]) (fun s=>s.k<=l.length) (fun s=>l.length - s.k) ⟨0,_,_,_,_,_,_,_,_,_⟩ (aD _) fun s hs=>?_
 obtain ⟨k,a4,c4,F4,a5,c5,F5,a6,c6,F6⟩:=s;dsimp only at hs ⊢;have h1:=Aad (Qh c d) l k;have h2:=Aad (Nq c) l k;have h3:=Aad (Sm c) l k;refine go ?_;refine Bf rfl (fun h4=>?_) (fun h4=>?_)
 ·have hk:k < l.length:=EM
  obtain ⟨t0,t1⟩:=ht _ (aE hk);refine Iu (xs:=l) k ?_;rintro hi b o e;rw [e];refine go ?_;intros;refine Bf rfl (fun h5=>?_) (fun h5=>?_)
  ·have h5':c < l[k].Bl:=EM
   refine go ?_;intros;have eo:((l.take (k+1)).filterMap (Qh c d))=((l.take k).filterMap (Qh c d))++[l[k]]:=by rw [Hv hk];simp [Qh,h5']
   have es:((l.take (k+1)).filterMap (Nq c))=((l.take k).filterMap (Nq c)):=by rw [Hv hk];simp [Nq,h5']
   have el:((l.take (k+1)).filterMap (Sm c))=((l.take k).filterMap (Sm c)):=by rw [Hv hk];simp [Sm,h5']
   apply wO;refine No (ys:=[l[k]]) (M2 l[k]) Dg fun a7 c7 F7=>?_;exact AD
  refine go ?_;refine Bf rfl (fun h6=>?_) (fun h6=>?_)
  ·refine go ?_;intros;have eo:((l.take (k+1)).filterMap (Qh c d))=((l.take k).filterMap (Qh c d)):=by rw [Hv hk];simp [Qh,h5,h6]
   have es:((l.take (k+1)).filterMap (Nq c))=((l.take k).filterMap (Nq c)):=by rw [Hv hk];simp [Nq,h5,h6]
   have el:((l.take (k+1)).filterMap (Sm c))=((l.take k).filterMap (Sm c))++[l[k].Ab]:=by rw [Hv hk];simp [Sm,h5,h6]
   apply wO;refine No (ys:=[l[k].Ab]) (U5 _) Dw fun a8 c8 F8=>?_;exact AD
  refine go ?_;refine Bf rfl (fun h7=>?_) (fun h7=>?_)
  ·refine go ?_;intros;have eo:((l.take (k+1)).filterMap (Qh c d))=((l.take k).filterMap (Qh c d))++[(⟨l[k].Ab,2,c+3,l[k].Ch+1⟩:Aw)]:=IB
   have es:((l.take (k+1)).filterMap (Nq c))=((l.take k).filterMap (Nq c))++[l[k].Ab]:=IC
   have el:((l.take (k+1)).filterMap (Sm c))=((l.take k).filterMap (Sm c)):=IA
   exact BZ
  ·refine go ?_;intros;have eo:((l.take (k+1)).filterMap (Qh c d))=((l.take k).filterMap (Qh c d))++[(⟨l[k].Ab,1,c+d,l[k].Ch⟩:Aw)]:=IB
   have es:((l.take (k+1)).filterMap (Nq c))=((l.take k).filterMap (Nq c)):=IC
   have el:((l.take (k+1)).filterMap (Sm c))=((l.take k).filterMap (Sm c)):=IA
   exact DU
 ·obtain rfl:k=l.length:=EM
  rw [bG];refine go ?_;refine ret ⟨0,_,_,_,_,_,_,_,_,_⟩ trivial rfl
theorem Arb (x:Ay) (v:Value) (F:ak) (hl:x.Aa.Am.length<=1000000000) (hl2:x.Aj.length<=1000000000):Fn prog 58 [v] [.isv Cg v x F] [] (fun (_:Value × ak)=>True) (fun s=>s.1) (fun s=>[.Mw Ca s.1 x s.2]):=by
 refine enter func58 rfl ntmps58 fun w0=>?_;refine Gn ?_;rintro a1 c1 F1 a2 c2 F2 rfl l1 l2;refine Cr x.Aa ?_;generalize F1=F3;refine go ?_;intros;refine Bw (An9 x.Aa _ F3 EM) fun z _=>?_;refine go ?_;refine Bw (Ss x.Aj a2 c2 F2 hl2) fun q _=>?_;refine go ?_;refine Ln x ?_;exact BK
theorem Bbf (r:Aw) (n:Int) (gb:Nat) (h0:Cm r.Ab=true) (h1:0<=n) (h2:n<=65535):FV 187 [.agg #[aa r.Ab,aa r.Dh,aa r.Bl,aa r.Ch],Fv gb 0 0] [.cel gb 0 [aa n]] (.bool (Qa r.Ab n)):=by
 obtain ⟨n0,n1⟩:=Bb.1 h0;refine enter func187 rfl ntmps187 fun w0=>?_;refine go ?_;intros;refine ce (fun w s=>M6 _ _ _ EM EM EM EM) ?_;exact AB
theorem Ab7 (l:List Aw) (n:Int) (a:ai) (c:Nat) (F:ak) (hl:l.length<=1000000000) (hs:∀q∈l,Cm q.Ab=true) (h1:0<=n) (h2:n<=65535):Fn prog 128 [ab a l.length c,aa n] [.sl A9 (ab a l.length c) l F] [] (fun (_:ai × Nat × ak)=>True) (fun z=>.slice z.1 (Vk l n).length z.2.1) (fun z=>[.ow A9 161 (.slice z.1 (Vk l n).length z.2.1) (Vk l n) z.2.2]):=by
 refine enter func128 rfl ntmps128 fun w0=>?_;refine go ?_;intros;rename_i gb;refine Bw (Ss l a c F hl) fun q _=>?_;refine Ah5 (cs:=[aa n]) ?_ EO;refine go ?_;refine Bw (Aih 187 [] [Fv gb 0 0] [.cel gb 0 [aa n]] rfl l q.1 q.2.1 q.2.2 (fun z=>Qa z.Ab n) ER hl (fun z hz w hA=>(Bbf z n gb (hs z hz) h1 h2).val w hA)) fun z _=>?_;refine go ?_;refine ret (z.1,z.2.1,z.2.2) trivial rfl
theorem Aba (r:Ay) (d:Int):(Ir r d).length<=r.Aj.length:=cK _ _
theorem Aes (r:Ay):(Cf r).length<=r.Aj.length:=cK _ _
theorem Aep {r:Ay} {d:Int} (h:Cf r=[]):Bj r d=⟨r.A1,r.Ae+1,r.Aa,Ir r d⟩:=ar h
theorem Aa7 {r:Ay} {d:Int} (h:Cf r≠[]):Bj r d=⟨r.A1,r.Ae+1,Gt r.Aa (Ct (Cf r)),Vk (Ir r d) (Gt r.Aa (Ct (Cf r))).next⟩:=aq h
theorem Akk {r:Ay} (h:Cf r=[]):Gs r=[]:=ar h
theorem Agt {r:Ay} (h:Cf r≠[]):Gs r=Fm r.Aa (Ct (Cf r)):=aq h
theorem Af8 {l:al} (h:l≠[]):Ct l=A8 (l[l.length - 1]'(by have:=cY.2 h;omega)) 1:=by
 unfold Ct;rw [cG,List.getLast?_eq_getElem?,aB (by have:=cY.2 h;omega)];rfl
theorem Kz {x:Ak} (hg:C7 x=true):x.Am.length<=8/\∀s∈x.Am,s.Ea.size<=8:=by
 have hg0:=hg;unfold C7 at hg;simp only [av,aC] at hg;refine ⟨by have:=hg.1.1.2;omega,fun s hs=>?_⟩;have:=aQ.1 hg.1.2 s hs;unfold H9 at this;simp only [av] at this;exact V1 this.1
structure PkS where
 k:Nat
 a:ai
 c:Nat
 F:ak
structure TkR where
 a1:ai
 c1:Nat
 F1:ak
 a2:ai
 c2:Nat
 F2:ak
 a3:ai
 c3:Nat
 F3:ak
 a4:ai
 c4:Nat
 F4:ak
theorem Au8 (r:Ay) (d:Int) (g t o:Nat) (A B:aj) (a1:ai) (c1:Nat) (F1:ak) (a2:ai) (c2:Nat) (F2:ak) (hg:Eu r) (d0:0<=d) (d1:d<=100) :
  Fn prog 64 [Fv g o 0,aa d] [] [.row g t o A [.bool r.A1,aa r.Ae,aa r.Aa.next,ab a1 r.Aa.Am.length c1,ab a2 r.Aj.length c2] B,.ow C5 190 (ab a1 r.Aa.Am.length c1) r.Aa.Am F1,.ow A9 161 (ab a2 r.Aj.length c2) r.Aj F2] (fun (_:TkR)=>True)
   (fun s=>.tuple #[.slice s.a3 (Db r).length s.c3,.slice s.a4 (Gs r).length s.c4]) (fun s=>[.row g t o A [.bool (Bj r d).A1,aa (Bj r d).Ae,aa (Bj r d).Aa.next,.slice s.a1 (Bj r d).Aa.Am.length s.c1,.slice s.a2 (Bj r d).Aj.length s.c2] B,.ow C5 190 (.slice s.a1 (Bj r d).Aa.Am.length s.c1) (Bj r d).Aa.Am s.F1,.ow A9 161 (.slice s.a2 (Bj r d).Aj.length s.c2) (Bj r d).Aj s.F2,.ow Ap 103 (.slice s.a3 (Db r).length s.c3) (Db r) s.F3,.ow Bc 9 (.slice s.a4 (Gs r).length s.c4) (Gs r) s.F4]):=by
 have k0:=hg.k0;have k1:=hg.k1;obtain ⟨-,q1,q2, -⟩:=Dv.1 hg.q;obtain ⟨w0_,w1_⟩:=Gg hg.w;obtain ⟨hw8,hit⟩:=Kz hg.w;have hpl:(r.Aj.filterMap (Nq (r.Ae+1))).length<=8:=bi (cK _ _) q1;refine enter func64 rfl ntmps64 fun w0=>?_;refine go ?_;refine Az (E:=A9) fun F9=>?_;refine As [1] [] ?_;refine D7 0 1 2 3 ?_;refine D7 4 5 6 7 ?_;refine dt 8 ?_;refine dN 9 ?_;refine oC ?_;refine Bw (Aeq r.Aj (r.Ae+1) d a2 c2 F9 EM (fun q hq=>⟨(Ep.1 (q2 q hq)).t0,(Ep.1 (q2 q hq)).t1⟩) EM EM EM EM) fun z _=>?_
 rw [show r.Aj.filterMap (Sm (r.Ae+1))=Cf r from rfl,show r.Aj.filterMap (Qh (r.Ae+1) d)=Ir r d from rfl];refine dk ?_;refine D7 10 11 12 13 ?_;refine Ek 14 15 ?_;refine dt 16 ?_;refine dd ?_;refine Az (E:=Bi) (xs:=r.Aj.filterMap (Nq (r.Ae+1))) fun G2=>?_;refine Az (E:=Bi) (xs:=Cf r) fun G3=>?_;refine B4 Ap 103 ?_;refine go ?_
 refine Cu [0,4,5,6,9,44,45] (fun s:PkS=>[(46,aa (s.k:Nat)),(10,.slice s.a (((r.Aj.filterMap (Nq (r.Ae+1))).take s.k).map (pkR r.Aa.next)).length s.c)]) (fun s=>[.ow Ap 103 (.slice s.a (((r.Aj.filterMap (Nq (r.Ae+1))).take s.k).map (pkR r.Aa.next)).length s.c) (((r.Aj.filterMap (Nq (r.Ae+1))).take s.k).map (pkR r.Aa.next)) s.F]) (fun s=>s.k<=(r.Aj.filterMap (Nq (r.Ae+1))).length) (fun s=>(r.Aj.filterMap (Nq (r.Ae+1))).length - s.k) ⟨0,_,_,_⟩ (aD _) fun s hs=>?_;obtain ⟨k,a4,c4,F4⟩:=s;dsimp only at hs ⊢;generalize hsn:r.Aj.filterMap (Nq (r.Ae+1))=sn at *;refine go ?_
 refine Bf rfl (fun h4=>?_) (fun h4=>?_)
 ·have hk:k < sn.length:=EM
  have hkl:((sn.take k).map (pkR r.Aa.next)).length<=k:=ET
  refine Jg (xs:=sn) k ?_;rintro hi b o2 e;rw [e];refine go ?_;intros;have eo:(sn.take (k+1)).map (pkR r.Aa.next)=(sn.take k).map (pkR r.Aa.next)++[pkR r.Aa.next sn[k]]:=by rw [cF,aB hk,bZ];rfl
  apply wO;refine No (ys:=[pkR r.Aa.next sn[k]]) (Dj (pkR r.Aa.next sn[k]) GQ) Ig fun a7 c7 F7=>?_;exact DI
 have hk:k=sn.length:=EM
 subst hk;rw [bG];have ep:Db r=sn.map (pkR r.Aa.next):=by unfold Db;rw [hsn]
 rw [ep];refine go ?_;by_cases hL:Cf r=[]
 ·refine Bf rfl (fun _=>?_) (fun h=>absurd (show ((Cf r).length:Int)=0 by rw [hL];rfl) h);rw [Aep hL,Akk hL];refine B4 Bc 9 ?_;refine go ?_;refine ret ⟨_,_,_,_,_,_,_,_,_,_,_,_⟩ trivial rfl
 ·have hl0:=cY.2 hL;refine Bf rfl (fun h=>absurd h EM) (fun _=>?_);rw [Aa7 hL,Agt hL];obtain ⟨hs8,hsr⟩:=Ach hg hL;have hll8:=Aes r;obtain ⟨hs0,hs1⟩:=Bb.1 hsr;have hll:=Af8 hL;obtain ⟨l0,l1⟩:=Bb.1 (Aa9 hg (aE (show (Cf r).length - 1 < (Cf r).length by omega))).1;have hi1:((Cf r).length:Int) - 1=(((Cf r).length - 1:Nat):Int):=EM
  refine Jg (xs:=Cf r) ((Cf r).length - 1) ?_;rintro hi b o2 e;rw [e];refine Ans [.bool r.A1,aa (r.Ae+1)] [aa r.Aa.next,ab a1 r.Aa.Am.length c1] [.slice z.a (Ir r d).length z.c] ?_;refine go ?_;refine As [1] [] ?_;refine D7 0 1 2 3 ?_;refine Ek 4 5 ?_;refine dt 6 ?_;rw [hi1];refine Ek 7 8 ?_;refine dN 9 ?_;refine oC ?_;refine ce (fun w s=>Q4 _ _ _ EM EM) ?_;rw [<-hll];refine dk ?_;refine dN 10 ?_;refine oC ?_;refine Bw (Ain r.Aa (Ct (Cf r)) g t (o+2) (A++[.bool r.A1,aa (r.Ae+1)]) _ a1 c1 F1 w0_ w1_ hs0 hs1 hw8 hit) fun y hy=>?_;refine dk ?_
  refine dt 11 ?_;refine dd ?_;obtain ⟨hy1,hy2⟩:=hy;have hmv:=Na (t:=Ct (Cf r)) hg.w;have hm0:0<=y.y.next:=by rw [hy1];show 0<=(Gt r.Aa (Ct (Cf r))).next;rw [hmv.1];exact (Is _ _).1
  have hm1:y.y.next<=65535:=by rw [hy1];show (Gt r.Aa (Ct (Cf r))).next<=65535;rw [hmv.1];exact (Is _ _).2
  refine Ael [.bool r.A1,aa (r.Ae+1)] [aa y.y.next,ab y.a y.y.Am.length y.c] [.slice z.a (Ir r d).length z.c] ?_;refine Az (E:=A9) (xs:=Ir r d) fun F8=>?_;refine go ?_;refine As [1] [13] ?_;refine D7 0 1 2 3 ?_;refine D7 4 5 6 7 ?_;refine Ek 8 9 ?_;refine dN 10 ?_;refine oC ?_;refine Bw (Ab7 (Ir r d) y.y.next z.a z.c F8 (by have:=Aba r d;omega) (fun q hq=>(Zs hg hq).1) hm0 hm1) fun u _=>?_;refine dk ?_;refine Ek 11 12 ?_;refine dN 13 ?_;refine oS ?_;refine Pg ?_;refine dd ?_;refine go ?_
  rw [show Gt r.Aa (Ct (Cf r))=y.y from hy1.symm,show Fm r.Aa (Ct (Cf r))=y.es from hy2.symm];refine ret ⟨_,_,_,_,_,_,_,_,_,_,_,_⟩ trivial rfl
theorem Tm (v:Value) (xs:al) (F:ak) (w:World) (h:Sl Bi w v xs F) (hm:xs.length<=4294967296) :
  Calls prog 36 #[v] w (Z9 Bi 3 xs w):=by
 obtain ⟨ao,c,news,Fy,rfl,hl,hfy,hFy,hsrc⟩:=h.src;have hFl:=hfy.lt;have he:=fun w (a:ai) (n c:Nat)=>Lib.run_eql_slice_nil (P:=prog) w 24 _ a n c 0 0 underlying24
 go_enter func36,ntmps36
 rcases hsrc with ⟨rfl,rfl,rfl⟩|⟨ad,rfl,hn⟩
 ·go_wp2
  go_ret
  exact BW
 ·go_wp2_with (at_builtin;refine P8 Dw EN FC _ _ _ FC 3 (aa 0) 8 underlying24 Ajc rfl (ab (some ⟨w.heap.size,0,none⟩) 0 0) [] [w.heap.size] FC (Ow.empty (Jd.made _ _ _)) (Hd.one _) (some ad) xs c FC news Fy (hfy.frame fun b hb=>Below.heap_alloc _ _ _ (hFl b hb)) (.inr ⟨ad,rfl,fun j u hu=>kc ((Below.refl _ _).alloc (aA _) _) (hn j u hu)⟩) (fun b hb e=>by have:=hFl b hb;simp [Value.ownBlock] at e;omega) FQ GA ?_);intro v2 w2 F2 hA;go_wp2_with fail
  go_ret
  have hB:Below w.heap.size w w2:=((Below.refl _ _).alloc (aA _) _).trans (hA.Nu.below EO EO);have hs:∀b,v2.ownBlock=some b->w.heap.size<=b:=fun b hb=>by rcases hA.Al3 with e|e <;> rw [e] at hb <;> simp [Value.ownBlock] at hb <;> omega
  refine ⟨v2,F2,rfl,HY,hA.ow.scal Eh▸?_,fun b hb=>?_,hB⟩
  ·cases v2.ownBlock <;> simp
  ·rw [hA.ow.scal Eh] at hb;exact hs b IJ
theorem Acg (v:Value) (xs:al) (F:ak) (w:World) (h:Sl Bi w v xs F) (hm:xs.length<=4294967296) :
  Calls prog 95 #[v] w (Z9 Bi 3 xs w):=by
 obtain ⟨ao,c,news,Fy,rfl,hl,hfy,hFy,hsrc⟩:=h.src;have hFl:=hfy.lt;have hsrc2:(ao=none/\c=0/\xs=[])\/∃ad,ao=some ad/\∀j u,news[j]?=some u->(w.alloc (.cells #[] 3)).cell? (ad.add j)=some u:=by
  rcases hsrc with h|⟨ad,h1,h2⟩
  ·exact DS
  ·exact .inr ⟨ad,h1,fun j u hu=>kc ((Below.refl _ _).alloc (aA _) _) (h2 j u hu)⟩
 go_enter func95,ntmps95
 go_wp2_with (at_builtin;refine P8 Dw EN FC _ _ _ FC 3 (aa 0) 8 underlying24 Ajc rfl (ab (some ⟨w.heap.size,0,none⟩) 0 0) [] [w.heap.size] FC (Ow.empty (Jd.made _ _ _)) (Hd.one _) ao xs c FC news Fy (hfy.frame fun b hb=>Below.heap_alloc _ _ _ (hFl b hb)) hsrc2 (fun b hb e=>by have:=hFl b hb;simp [Value.ownBlock] at e;omega) FQ GA ?_);intro v2 w2 F2 hA;go_wp2_with fail
 go_ret
 have hB:Below w.heap.size w w2:=((Below.refl _ _).alloc (aA _) _).trans (hA.Nu.below EO EO);have hs:∀b,v2.ownBlock=some b->w.heap.size<=b:=fun b hb=>by rcases hA.Al3 with e|e <;> rw [e] at hb <;> simp [Value.ownBlock] at hb <;> omega
 refine ⟨v2,F2,rfl,HY,hA.ow.scal Eh▸?_,fun b hb=>?_,hB⟩
 ·cases v2.ownBlock <;> simp
 ·rw [hA.ow.scal Eh] at hb;exact hs b IJ
theorem Ab2 (v:Value) (e:Bg) (F:ak) (w:World) (h:Vf B9 w v e F) (hm:e.Af.length<=4294967296) (hm2:∀x∈e.Af,x.Bp.length<=4294967296) :
  Calls prog 57 #[v] w (Arc Ck e w):=by
 obtain ⟨_,rfl,v1,rfl,h1⟩:=h;obtain ⟨a,cap,rfl⟩:=h1.slice;have hl:=h1.len;unfold maxLen at hl;have hB0:∀A B:Obj,Below w.heap.size w ((w.alloc A).alloc B):=fun A B=>((Below.refl _ _).alloc (aA _) _).alloc EO _;have hFl:=h1.lt EN
 go_enter func57,ntmps57
 go_wp2_with fail;refine (Aif _ e.Af F _ (h1.below EN (hB0 _ _)) hm).mono ?_;rintro e' w1 ⟨v2,F2,rfl,ho,hd,hs,hF2,hb1⟩;obtain ⟨a2,cap2,rfl⟩:=ho.slice;have r0:=Jd.below (g:=w.heap.size) (t:=76) (cs:=[aa e.Ae,ab a e.Af.length cap]) HK hb1;have r1:=Jd.below (g:=w.heap.size+1) (t:=76) (cs:=[aa 0,ab none 0 0]) HK hb1;have hB:=tr (hB0 _ _) hb1 (aA _);have hm1:=Lib.hid (Mix.start (O:=Ew) (R:=Eg) (B1:=w.heap.size) (B0:=w.heap.size+2) rfl ho (by simpa using hs) (fun b hb=>(hF2 b hb).imp id fun hb=>hFl b hb) hd)
 have c0:=r0.cells;have f0:=r0.frozens;have f1:=r1.frozens;have c1:=r1.cells;clear hb1 ho hs hd hF2;go_wp2_with fail;have R0:=r0.set 1 (ab a2 e.Af.length cap2);have R1:=r1.setOther (p:=⟨w.heap.size,1,none⟩) EO (ab a2 e.Af.length cap2);have M1:=Lib.hid (hm1.out.setFar (p:=⟨w.heap.size,1,none⟩) (aA _) EO (ab a2 e.Af.length cap2));clear hm1
 go_loopw [3,11] (fun _ i wr=>∃k:Nat,k<=e.Af.length/\i=aa k/\Hid (Mix Ew Eg 132 w.heap.size (w.heap.size+2) wr (ab a2 e.Af.length cap2) e.Af k)/\Jd wr w.heap.size 76 [aa e.Ae,ab a2 e.Af.length cap2]/\Jd wr (w.heap.size+1) 76 [aa 0,ab none 0 0]/\Below w.heap.size w wr) (fun _ i _=>e.Af.length - (intOf i).toNat)
 case atStart=>exact ⟨0,aD _,rfl,M1,by simpa using R0,R1,hB.setCell (aA _) _⟩
 case round =>
  obtain ⟨k,hk,rfl,hM,hr,hr1,hB⟩:=hrel;have c0:=hr.cells;have f0:=hr.frozens;have hsz:=hr1.lt;by_cases hlt:k < e.Af.length
  ·obtain ⟨g,cap3,A,c,B,Fk,hv,hg,hrow,hA,hcl,hx, -,back⟩:=hM.out.at rfl hlt EM EM;cases hv;obtain ⟨u1,rfl,hf⟩:=id hx;obtain ⟨fa,fc,rfl⟩:=hf.slice;have a1:=hrow.cellMid (p:=k * 3+1) (j:=1) (by rw [hA];rfl) EO;simp only [bH,bE] at a1;have hne:¬g=w.heap.size:=EM
   have hne2:¬w.heap.size=g:=EM
   have hbk:=Lib.hid back;clear back;have hfl:=hm2 e.Af[k] (aE _);go_wp2_with fail
   go_region_law (first|(go_simp;go_at_call 36;refine (Tm _ e.Af[k].Bp Fk wr.drew (hf.frame fun _ _=>rfl) hfl).mono ?_;rintro e' w2 ⟨v3,F3,rfl,o3,n3,g3,hb2⟩;obtain ⟨d3,p3,rfl⟩:=o3.slice;have z3:=kc hb2 (show wr.drew.cell? ⟨w.heap.size,1,none⟩=some (ab (some ⟨g,0,none⟩) e.Af.length cap2) by simpa using c0 1);have z1:=kc hb2 (by simpa using a1);have zf:=((show Jd wr.drew g 132 _ from hrow).below hb2).frozens (k * 3+1)))
   all_goals
    have hr2:=((show Jd wr.drew w.heap.size 76 _ from hr).below hb2).setOther (p:=⟨g,k * 3+1,none⟩) hne (.slice d3 e.Af[k].Bp.length p3);have hr3:=((show Jd wr.drew (w.heap.size+1) 76 _ from hr1).below hb2).setOther (p:=⟨g,k * 3+1,none⟩) ET (.slice d3 e.Af[k].Bp.length p3);have hro:=((show Jd wr.drew g 132 _ from hrow).below hb2).setMid (p:=k * 3+1) (j:=1) (by rw [hA];rfl) EO (.slice d3 e.Af[k].Bp.length p3);have hg3:∀b∈F3,wr.heap.size<=b:=g3;have hgs:=hrow.lt
    have hMk:=Lib.hid (hbk.out _ _ F3 hro ⟨_,rfl,o3.setFar (fun hm=>by have:=hg3 _ hm;simp at this;omega) _⟩ n3 hg3 (fun b hb hbg=>(Below.heap_setCell _ _ _ _ hbg).trans (hb2.block b hb)));have hB3:Below w.heap.size w (w2.setCell ⟨g,k * 3+1,none⟩ (.slice d3 e.Af[k].Bp.length p3)):=(tr (Iv hB 1) hb2 (aA _)).setCell ET _;go_wp2_with fail;exact ⟨⟨k+1,EM,HX,hMk,hr2,hr3,hB3⟩,FP⟩
  ·have hk:k=e.Af.length:=EM
   subst hk;obtain ⟨F4,o4,n4,g4⟩:=hM.out.done;have O4:=Lib.hid o4;clear hM o4;have d1:=hr1.cells;have fd:=hr1.frozens;go_wp2_with fail;refine bodyPost_ret (v:=.agg #[aa e.Ae,ab a2 e.Af.length cap2]) ?_ rfl ?_
   ·simp [results,results57,go_sem,c0,d1,fd]
   ·refine ⟨_,F4,rfl,⟨_,rfl,_,rfl,?_⟩,n4,fun b hb=>by have:=g4 b hb;omega,?_⟩
    ·repeat refine Ow.setFar ?_ (fun hm=>by have:=g4 _ hm;simp at this <;> omega) _
     exact O4.out
    ·repeat refine Below.setCell ?_ (by simp <;> omega) _
     exact hB
section
variable {c:Cx} {fr:Fr} {H:List Pc} {Φ:Gl}
theorem Eb {v:Value} {x:Du} {F:ak} (h:∀(a1:ai) (c1:Nat) (F1:ak) (a2:ai) (c2:Nat) (F2:ak) (a3:ai) (c3:Nat) (F3:ak) (a4:ai) (c4:Nat) (F4:ak) (a5:ai) (c5:Nat) (F5:ak) (a6:ai) (c6:Nat) (F6:ak) (a7:ai) (c7:Nat) (F7:ak),v=.agg #[ab a1 x.Ao.Ad.length c1,aa x.Ac.Aa.Al,aa x.Ac.Aa.size,ab a2 x.Ac.Aa.An.length c2,aa x.Ac.Ae,aa x.Ac.quiet,ab a3 x.Ac.holds.length c3,ab a4 x.Ai.length c4,ab a5 x.Ah.length c5,ab a6 x.down.length c6,ab a7 x.up.length c7]->x.Ao.Ad.length<=maxLen->x.Ac.Aa.An.length<=maxLen->x.Ac.holds.length<=maxLen->x.Ai.length<=maxLen->x.Ah.length<=maxLen->x.down.length<=maxLen->x.up.length<=maxLen->T c fr (.sl Bi (ab a1 x.Ao.Ad.length c1) x.Ao.Ad F1::.sl Bc (ab a2 x.Ac.Aa.An.length c2) x.Ac.Aa.An F2::.sl Bx (ab a3 x.Ac.holds.length c3) x.Ac.holds F3::.sl B9 (ab a4 x.Ai.length c4) x.Ai F4::.sl Cg (ab a5 x.Ah.length c5) x.Ah F5::.sl (Nr Ap EN) (ab a6 x.down.length c6) x.down F6::.sl (Nr Ap EN) (ab a7 x.up.length c7) x.up F7::H) Φ) (hm:.isv Nw v x F∈H:=by exact Cb):T c fr H Φ:=.mk fun a w s g=>by
 obtain ⟨cs,rfl,v1,v2,v3,v4,v5,v6,v7,G1,G2,G3,G4,G5,G6,G7,rfl,h1,h2,h3,h4,h5,h6,h7,rfl⟩:=s.get hm;obtain ⟨a1,c1,rfl⟩:=h1.slice;have l1:=h1.len;obtain ⟨a2,c2,rfl⟩:=h2.slice;have l2:=h2.len;obtain ⟨a3,c3,rfl⟩:=h3.slice;have l3:=h3.len;obtain ⟨a4,c4,rfl⟩:=h4.slice;have l4:=h4.len;obtain ⟨a5,c5,rfl⟩:=h5.slice;have l5:=h5.len;obtain ⟨a6,c6,rfl⟩:=h6.slice;have l6:=h6.len;obtain ⟨a7,c7,rfl⟩:=h7.slice;have l7:=h7.len;have t7:=s.ro (p:=.sl _ _ _ _) hm rfl rfl ⟨EN,h7⟩ FD
 have t6:=t7.ro (p:=.sl _ _ _ _) (aN _ hm) rfl rfl ⟨EN,h6⟩ FD;have t5:=t6.ro (p:=.sl _ _ _ _) (aN _ (aN _ hm)) rfl rfl ⟨EN,h5⟩ FD;have t4:=t5.ro (p:=.sl _ _ _ _) (aN _ (aN _ (aN _ hm))) rfl rfl ⟨EN,h4⟩ FD
 have t3:=t4.ro (p:=.sl _ _ _ _) (aN _ (aN _ (aN _ (aN _ hm)))) rfl rfl ⟨EN,h3⟩ FD;have t2:=t3.ro (p:=.sl _ _ _ _) (aN _ (aN _ (aN _ (aN _ (aN _ hm))))) rfl rfl ⟨EN,h2⟩ FD
 have t1:=t2.ro (p:=.sl _ _ _ _) (aN _ (aN _ (aN _ (aN _ (aN _ (aN _ hm)))))) rfl rfl ⟨EN,h1⟩ FD;exact (h a1 c1 G1 a2 c2 G2 a3 c3 G3 a4 c4 G4 a5 c5 G5 a6 c6 G6 a7 c7 G7 rfl  l1 l2 l3 l4 l5 l6 l7).h a w t1 g
theorem I6 (x:Du) {a1:ai} {c1:Nat} {F1:ak} {a2:ai} {c2:Nat} {F2:ak} {a3:ai} {c3:Nat} {F3:ak} {a4:ai} {c4:Nat} {F4:ak} {a5:ai} {c5:Nat} {F5:ak} {a6:ai} {c6:Nat} {F6:ak} {a7:ai} {c7:Nat} {F7:ak}  (h:T c fr (.isv Nw (.agg #[ab a1 x.Ao.Ad.length c1,aa x.Ac.Aa.Al,aa x.Ac.Aa.size,ab a2 x.Ac.Aa.An.length c2,aa x.Ac.Ae,aa x.Ac.quiet,ab a3 x.Ac.holds.length c3,ab a4 x.Ai.length c4,ab a5 x.Ah.length c5,ab a6 x.down.length c6,ab a7 x.up.length c7]) x (F1++F2++F3++F4++F5++F6++F7)::H) Φ) (m1:.sl Bi (ab a1 x.Ao.Ad.length c1) x.Ao.Ad F1∈H:=by exact Cb) (m2:.sl Bc (ab a2 x.Ac.Aa.An.length c2) x.Ac.Aa.An F2∈H:=by exact Cb) (m3:.sl Bx (ab a3 x.Ac.holds.length c3) x.Ac.holds F3∈H:=by exact Cb) (m4:.sl B9 (ab a4 x.Ai.length c4) x.Ai F4∈H:=by exact Cb) (m5:.sl Cg (ab a5 x.Ah.length c5) x.Ah F5∈H:=by exact Cb) (m6:.sl (Nr Ap EN) (ab a6 x.down.length c6) x.down F6∈H:=by exact Cb) (m7:.sl (Nr Ap EN) (ab a7 x.up.length c7) x.up F7∈H:=by exact Cb):T c fr H Φ:=.mk fun a w s g=>by
 refine h.h a w (s.add (N:=[_]) (Below.refl _ _) (by intro q hq;obtain rfl:=aH.1 hq;exact ⟨_,rfl,_,_,_,_,_,_,_,_,_,_,_,_,_,_,rfl,(s.get m1).2,(s.get m2).2,(s.get m3).2,(s.get m4).2,(s.get m5).2,(s.get m6).2,(s.get m7).2,rfl⟩) ⟨EO,trivial⟩ fun q hq b hb=>?_) g;obtain rfl:=aH.1 hq;simp only [Pc.F,aG] at hb;rcases hb with (((((hb|hb)|hb)|hb)|hb)|hb)|hb
 ·exact .inr ⟨rfl,_,m1,rfl,hb⟩
 ·exact .inr ⟨rfl,_,m2,rfl,hb⟩
 ·exact .inr ⟨rfl,_,m3,rfl,hb⟩
 ·exact .inr ⟨rfl,_,m4,rfl,hb⟩
 ·exact .inr ⟨rfl,_,m5,rfl,hb⟩
 ·exact .inr ⟨rfl,_,m6,rfl,hb⟩
 ·exact .inr ⟨rfl,_,m7,rfl,hb⟩
theorem Ni (x:Du) {a1:ai} {c1:Nat} {F1:ak} {a2:ai} {c2:Nat} {F2:ak} {a3:ai} {c3:Nat} {F3:ak} {a4:ai} {c4:Nat} {F4:ak} {a5:ai} {c5:Nat} {F5:ak} {a6:ai} {c6:Nat} {F6:ak} {a7:ai} {c7:Nat} {F7:ak} {S1 S2 S3 S4 S5 S6 S7:List Pc}  (h:T c fr (.Mw Akz (.agg #[ab a1 x.Ao.Ad.length c1,aa x.Ac.Aa.Al,aa x.Ac.Aa.size,ab a2 x.Ac.Aa.An.length c2,aa x.Ac.Ae,aa x.Ac.quiet,ab a3 x.Ac.holds.length c3,ab a4 x.Ai.length c4,ab a5 x.Ah.length c5,ab a6 x.down.length c6,ab a7 x.up.length c7]) x (F1++F2++F3++F4++F5++F6++F7)::S7) Φ) (m1:De H (.ow Bi 3 (ab a1 x.Ao.Ad.length c1) x.Ao.Ad F1) S1:=by exact En) (m2:De S1 (.ow Bc 9 (ab a2 x.Ac.Aa.An.length c2) x.Ac.Aa.An F2) S2:=by exact En) (m3:De S2 (.ow Bx 130 (ab a3 x.Ac.holds.length c3) x.Ac.holds F3) S3:=by exact En) (m4:De S3 (.ow Ck 76 (ab a4 x.Ai.length c4) x.Ai F4) S4:=by exact En) (m5:De S4 (.ow Ca 83 (ab a5 x.Ah.length c5) x.Ah F5) S5:=by exact En) (m6:De S5 (.ow (Jo Ap 103) 85 (ab a6 x.down.length c6) x.down F6) S6:=by exact En) (m7:De S6 (.ow (Jo Ap 103) 85 (ab a7 x.up.length c7) x.up F7) S7:=by exact En)  : T c fr H Φ:=.mk fun a w s g =>
 h.h a w (s.mer (M:=[.ow Bi _ _ _ F1,.ow Bc _ _ _ F2,.ow Bx _ _ _ F3,.ow Ck _ _ _ F4,.ow Ca _ _ _ F5,.ow (Jo Ap 103) _ _ _ F6,.ow (Jo Ap 103) _ _ _ F7]) (N:=[.Mw Akz _ x (F1++F2++F3++F4++F5++F6++F7)]) (.cons m1 (.cons m2 (.cons m3 (.cons m4 (.cons m5 (.cons m6 (.cons m7 (.nil)))))))) (fun hk hn=>⟨I0 ⟨FO,_,rfl,_,_,_,_,_,_,_,_,_,_,_,_,_,_,rfl,(Vx hk).2,(Vx (M5 hk)).2,(Vx (M5 (M5 hk))).2,(Vx (M5 (M5 (M5 hk)))).2,(Vx (M5 (M5 (M5 (M5 hk))))).2,(Vx (M5 (M5 (M5 (M5 (M5 hk)))))).2,(Vx (M5 (M5 (M5 (M5 (M5 (M5 hk))))))).2,rfl⟩,FO⟩) GC) g
end
section
variable {c:Cx} {fr:Fr} {H:List Pc} {Φ:Gl}
theorem Pa {v:Value} {x:Oc} {F:ak} (h:∀(a1:ai) (c1:Nat) (F1:ak),v=.agg #[ab a1 x.Ad.length c1]->x.Ad.length<=maxLen->T c fr (.sl Bi (ab a1 x.Ad.length c1) x.Ad F1::H) Φ) (hm:.isv Tn v x F∈H:=by exact Cb):T c fr H Φ:=.mk fun a w s g=>by
 exact AH
theorem Mn (x:Oc) {a1:ai} {c1:Nat} {F1:ak}  (h:T c fr (.isv Tn (.agg #[ab a1 x.Ad.length c1]) x (F1)::H) Φ) (m1:.sl Bi (ab a1 x.Ad.length c1) x.Ad F1∈H:=by exact Cb):T c fr H Φ:=.mk fun a w s g=>by
 exact AE
end
structure Ag0 (n:Du):Prop where
 t:n.Ao.Ad.length<=1048576
 i:n.Ac.Aa.An.length<=1048576
 h:n.Ac.holds.length<=1048576
 e:n.Ai.length<=1048576
 e1:∀x∈n.Ai,x.Af.length<=1048576
 e2:∀x∈n.Ai,∀y∈x.Af,y.Bp.length<=1048576
 rl:n.Ah.length<=1048576
 r:∀x∈n.Ah,x.Aa.Am.length<=1048576/\x.Aj.length<=1048576
 d:n.down.length<=1048576
 dq:∀q∈n.down,q.length<=1048576
 u:n.up.length<=1048576
 uq:∀q∈n.up,q.length<=1048576
structure ClN where
 g:Nat
 a1:ai
 c1:Nat
 F1:ak
 a2:ai
 c2:Nat
 F2:ak
 a3:ai
 c3:Nat
 F3:ak
 g6:Nat
 F6:ak
 g7:Nat
 F7:ak
structure NV where
 a1:ai
 c1:Nat
 F1:ak
 a2:ai
 c2:Nat
 F2:ak
 a3:ai
 c3:Nat
 F3:ak
 a4:ai
 c4:Nat
 F4:ak
 a5:ai
 c5:Nat
 F5:ak
 a6:ai
 c6:Nat
 F6:ak
 a7:ai
 c7:Nat
 F7:ak
structure KA where
 k:Nat
 a:ai
 c:Nat
 F:ak
theorem Aik (n:Du) (v:Value) (F:ak) (hs:Ag0 n):Fn prog 20 [v] [.isv Nw v n F] [] (fun (_:NV)=>True) (fun z=>.agg #[ab z.a1 n.Ao.Ad.length z.c1,aa n.Ac.Aa.Al,aa n.Ac.Aa.size,ab z.a2 n.Ac.Aa.An.length z.c2,aa n.Ac.Ae,aa n.Ac.quiet,ab z.a3 n.Ac.holds.length z.c3,ab z.a4 n.Ai.length z.c4,ab z.a5 n.Ah.length z.c5,ab z.a6 n.down.length z.c6,ab z.a7 n.up.length z.c7]) (fun z=>[.ow Bi 3 (ab z.a1 n.Ao.Ad.length z.c1) n.Ao.Ad z.F1,.ow Bc 9 (ab z.a2 n.Ac.Aa.An.length z.c2) n.Ac.Aa.An z.F2,.ow Bx 130 (ab z.a3 n.Ac.holds.length z.c3) n.Ac.holds z.F3,.ow Ck 76 (ab z.a4 n.Ai.length z.c4) n.Ai z.F4,.ow Ca 83 (ab z.a5 n.Ah.length z.c5) n.Ah z.F5,.ow (Jo Ap 103) 85 (ab z.a6 n.down.length z.c6) n.down z.F6,.ow (Jo Ap 103) 85 (ab z.a7 n.up.length z.c7) n.up z.F7]):=by
 refine enter func20 rfl ntmps20 fun w0=>?_;refine Eb ?_;rintro a1 c1 F1 a2 c2 F2 a3 c3 F3 a4 c4 F4 a5 c5 F5 a6 c6 F6 a7 c7 F7 rfl l1 l2 l3 l4 l5 l6 l7;refine Ed n.Ac ?_;refine go ?_;intros
 refine Gw [1,2] [0,1,6,7] (fun z:ClN=>[(3,Fv z.g 0 0)]) (fun z=>[.row z.g 37 0 [] [ab z.a1 n.Ao.Ad.length z.c1,aa n.Ac.Aa.Al,aa n.Ac.Aa.size,ab z.a2 n.Ac.Aa.An.length z.c2,aa n.Ac.Ae,aa n.Ac.quiet,ab z.a3 n.Ac.holds.length z.c3,ab none 0 0,ab none 0 0,ab (some ⟨z.g6,0,none⟩) n.down.length n.down.length,ab (some ⟨z.g7,0,none⟩) n.up.length n.up.length] [],.ow Bi 3 (ab z.a1 n.Ao.Ad.length z.c1) n.Ao.Ad z.F1,.ow Bc 9 (ab z.a2 n.Ac.Aa.An.length z.c2) n.Ac.Aa.An z.F2,.ow Bx 130 (ab z.a3 n.Ac.holds.length z.c3) n.Ac.holds z.F3,.ow (Jo Ap 103) 85 (ab (some ⟨z.g6,0,none⟩) n.down.length n.down.length) n.down z.F6,.ow (Jo Ap 103) 85 (ab (some ⟨z.g7,0,none⟩) n.up.length n.up.length) n.up z.F7]) (fun _=>True) ?_ fun z _=>?_
 ·refine As [1] [] ?_;refine D7 0 1 2 5 ?_;refine D7 6 8 9 11 ?_;refine dt 12 ?_;refine dM 3 15 ?_ ?_
  ·refine oC ?_;refine cn (fun w st=>Tm _ n.Ao.Ad F1 w (st.get (p:=.sl _ _ _ _) EQ).2 (by have:=hs.t;omega)) fun b1 d1 G1=>?_;refine dk ?_;refine dt 4 ?_;refine dM 7 15 ?_ ?_
   ·refine oC ?_;refine Bw (Ac1 n.Ac _ _ (by have:=hs.i;omega) (by have:=hs.h;omega)) fun s2 _=>?_;refine V6 (x:=n.Ac) ?_;rintro b2 d2 G2 b3 d3 G3 e2 - -;rw [e2];refine dk ?_;refine dM 10 15 ?_ ?_
    ·refine oC ?_;refine Bw (Iz n.down _ _ F6 (by have:=hs.d;omega) (fun q hq=>by have:=hs.dq q hq;omega)) fun s6 _=>?_;refine dk ?_;refine dM 13 15 ?_ ?_
     ·refine oC ?_;refine Bw (Iz n.up _ _ F7 (by have:=hs.u;omega) (fun q hq=>by have:=hs.uq q hq;omega)) fun s7 _=>?_;refine dk ?_;refine dt 14 ?_;refine dN 15 ?_;apply Cq;rfl;intro _;refine dk ?_;refine dN 16 ?_;refine oS ?_;refine dk ?_;refine dd ?_;refine Cs (⟨_,b1,d1,G1,b2,d2,G2,b3,d3,G3,_,_,_,_⟩:ClN) trivial
     ·apply Cq;rfl;intro _;refine dk ?_;refine dN 13 ?_;refine oC ?_;exact AO
    ·apply Cq;rfl;intro _;refine dk ?_;refine dN 10 ?_;refine oC ?_;refine Bw (Iz n.down _ _ F6 (by have:=hs.d;omega) (fun q hq=>by have:=hs.dq q hq;omega)) fun s6 _=>?_;refine dk ?_;refine dN 13 ?_;refine oC ?_;exact AO
   ·apply Cq;rfl;intro _;refine dk ?_;refine dN 7 ?_;refine oC ?_;refine Bw (Ac1 n.Ac _ _ (by have:=hs.i;omega) (by have:=hs.h;omega)) fun s2 _=>?_;refine V6 (x:=n.Ac) ?_;rintro b2 d2 G2 b3 d3 G3 e2 - -;rw [e2];refine dk ?_;refine dN 10 ?_;refine oC ?_;refine Bw (Iz n.down _ _ F6 (by have:=hs.d;omega) (fun q hq=>by have:=hs.dq q hq;omega)) fun s6 _=>?_;refine dk ?_;refine dN 13 ?_;refine oC ?_;refine Bw (Iz n.up _ _ F7 (by have:=hs.u;omega) (fun q hq=>by have:=hs.uq q hq;omega)) fun s7 _=>?_;refine dk ?_;refine dt 14 ?_;refine dN 16 ?_;refine oS ?_;refine dk ?_;refine dd ?_
    refine Cs (⟨_,b1,d1,G1,b2,d2,G2,b3,d3,G3,_,_,_,_⟩:ClN) trivial
  ·apply Cq;rfl;intro _;refine dk ?_;refine dN 3 ?_;refine oC ?_;refine cn (fun w st=>Tm _ n.Ao.Ad F1 w (st.get (p:=.sl _ _ _ _) EQ).2 (by have:=hs.t;omega)) fun b1 d1 G1=>?_;refine dk ?_;refine dt 4 ?_;refine dN 7 ?_;refine oC ?_;refine Bw (Ac1 n.Ac _ _ (by have:=hs.i;omega) (by have:=hs.h;omega)) fun s2 _=>?_;refine V6 (x:=n.Ac) ?_;rintro b2 d2 G2 b3 d3 G3 e2 - -;rw [e2];refine dk ?_;refine dN 10 ?_;refine oC ?_;refine Bw (Iz n.down _ _ F6 (by have:=hs.d;omega) (fun q hq=>by have:=hs.dq q hq;omega)) fun s6 _=>?_;refine dk ?_;refine dN 13 ?_;refine oC ?_
   exact AO
 have he:=hs.e;have hr:=hs.rl;refine B4 Ck 76 ?_;refine go ?_
 refine Cu [1,2,3,24,25] (fun y:KA=>[(26,aa (y.k:Nat))]) (fun y=>[.row z.g 37 0 [] [ab z.a1 n.Ao.Ad.length z.c1,aa n.Ac.Aa.Al,aa n.Ac.Aa.size,ab z.a2 n.Ac.Aa.An.length z.c2,aa n.Ac.Ae,aa n.Ac.quiet,ab z.a3 n.Ac.holds.length z.c3,.slice y.a (n.Ai.take y.k).length y.c,ab none 0 0,ab (some ⟨z.g6,0,none⟩) n.down.length n.down.length,ab (some ⟨z.g7,0,none⟩) n.up.length n.up.length] [],.ow Ck 76 (.slice y.a (n.Ai.take y.k).length y.c) (n.Ai.take y.k) y.F]) (fun y=>y.k<=n.Ai.length) (fun y=>n.Ai.length - y.k) ⟨0,none,0,[]⟩ (aD _) fun y hy=>?_
 refine go ?_;refine Bf rfl (fun h1=>?_) (fun h1=>?_)
 ·have hk:y.k < n.Ai.length:=EM
  have htl:(n.Ai.take y.k).length<=1048576:=FK
  refine Rl (xs:=n.Ai) y.k ?_;rintro hi4 b4 o4 a8 c8 F8 e4 l8;rw [e4];refine Gk n.Ai[y.k] ?_;refine go ?_;intros;refine As [0,4] [7] ?_;refine Ek 0 1 ?_;refine dt 2 ?_;refine dN 3 ?_;refine oC ?_;refine cv (fun w st=>Ab2 _ n.Ai[y.k] F8 w (st.get (p:=.isv _ _ _ _) EQ) (by have:=hs.e1 _ (aE hk);omega) (fun x hx=>by have:=hs.e2 _ (aE hk) x hx;omega)) fun v9 F9=>?_;refine Ia (x:=n.Ai[y.k]) ?_;rintro a9 c9 F10 rfl l9;refine Hg n.Ai[y.k] ?_;refine dk ?_;refine dN 4 ?_;apply In;rfl;rfl;rfl;rfl;exact Ik;exact Ie;intro _;refine dk ?_;refine dN 5 ?_
  refine Ag3 U4 n.Ai[y.k] rfl fun a7 c7 F7=>?_;refine dk ?_;refine dt 6 ?_;refine dN 7 ?_;refine oS ?_;refine Pg ?_;refine dd ?_;rw [<-aZ hk];refine go ?_;refine Cv ⟨y.k+1,a7,c7,F7⟩ hk (by show n.Ai.length - (y.k+1) < n.Ai.length - y.k;omega)
 rw [show n.Ai.take y.k=n.Ai from bc EM];obtain ⟨_,ea,ec,eF⟩:=y;dsimp only;refine B4 Ca 83 ?_;refine go ?_
 refine Cu [2,3,39,40] (fun y:KA=>[(41,aa (y.k:Nat))]) (fun y=>[.row z.g 37 0 [] [ab z.a1 n.Ao.Ad.length z.c1,aa n.Ac.Aa.Al,aa n.Ac.Aa.size,ab z.a2 n.Ac.Aa.An.length z.c2,aa n.Ac.Ae,aa n.Ac.quiet,ab z.a3 n.Ac.holds.length z.c3,ab ea n.Ai.length ec,.slice y.a (n.Ah.take y.k).length y.c,ab (some ⟨z.g6,0,none⟩) n.down.length n.down.length,ab (some ⟨z.g7,0,none⟩) n.up.length n.up.length] [],.ow Ca 83 (.slice y.a (n.Ah.take y.k).length y.c) (n.Ah.take y.k) y.F]) (fun y=>y.k<=n.Ah.length) (fun y=>n.Ah.length - y.k) ⟨0,none,0,[]⟩ (aD _) fun y hy=>?_
 refine go ?_;refine Bf rfl (fun h2=>?_) (fun h2=>?_)
 ·have hk:y.k < n.Ah.length:=EM
  have htl:(n.Ah.take y.k).length<=1048576:=FK
  refine Od (xs:=n.Ah) y.k ?_;rintro hi5 b5 o5 a8 c8 F8 a9 c9 F9 e5 l8 l9;rw [e5];refine E8 n.Ah[y.k] ?_;refine go ?_;intros;refine As [0,5] [7] ?_;refine Ek 0 1 ?_;refine dt 2 ?_;refine dN 3 ?_;refine oC ?_;refine Bw (Arb n.Ah[y.k] _ _ (by have:=(hs.r _ (aE hk)).1;omega) (by have:=(hs.r _ (aE hk)).2;omega)) fun s9 _=>?_;refine I3 (x:=n.Ah[y.k]) ?_;rintro a9 c9 G9 a10 c10 G10 e9 l9 l10;rw [e9];refine Ln n.Ah[y.k] ?_;refine dk ?_;refine dN 4 ?_;apply In;rfl;rfl;rfl;rfl;exact Ik;exact Ie;intro _;refine dk ?_;refine dN 5 ?_;refine Ag3 Td n.Ah[y.k] rfl fun a7 c7 F7=>?_
  refine dk ?_;refine dt 6 ?_;refine dN 7 ?_;refine oS ?_;refine Pg ?_;refine dd ?_;rw [<-aZ hk];refine go ?_;refine Cv ⟨y.k+1,a7,c7,F7⟩ hk (by show n.Ah.length - (y.k+1) < n.Ah.length - y.k;omega)
 rw [show n.Ah.take y.k=n.Ah from bc EM];refine go ?_;refine ret ⟨z.a1,z.c1,z.F1,z.a2,z.c2,z.F2,z.a3,z.c3,z.F3,ea,ec,eF,y.a,y.c,y.F,_,_,z.F6,_,_,z.F7⟩ trivial rfl
theorem Ace {v:Int} (h:0<=v):Lib.itoa v=Lib.decDigits v.natAbs:=by unfold Lib.itoa;rw [aq EM,show v.toNat=v.natAbs by omega]
theorem Ay7 (n:Int) (h0:0<=n) (h1:n<=999999) (w:World):Calls prog 198 #[aa n] w (RB (af (bz (Lib.itoa n))) w):=by
 have:=Ba7 n.toNat EM w;rw [show ((n.toNat:Nat):Int)=n by omega,show n.toNat=n.natAbs by omega,<-Ace h0] at this;exact this
theorem Afm (i:Nat) (hi:i<=100):FV 65 [aa (i:Nat)] [] (aa (Ij i)):=by
 refine enter func65 rfl ntmps65 fun w0=>?_;exact AB
theorem Uy (i:Nat) (hi:i<=100):FV 146 [aa (i:Nat)] [] (aa (Ij i)):=by
 refine enter func146 rfl ntmps146 fun w0=>?_;exact AB
theorem Auh (i:Nat) (es:ah) (a:ai) (c:Nat) (F FT:ak) (hi:i<=100) (hl:es.length<=1000000) (hz:∀e∈es,e.size<=1000000):Fn prog 67 [aa (i:Nat),ab a es.length c] [.sl Bc (ab a es.length c) es F,Nx FT] [] (fun (_:KA)=>True) (fun z=>.slice z.a (Q2 i es).length z.c) (fun z=>[.ow Bc 9 (.slice z.a (Q2 i es).length z.c) (Q2 i es) z.F]):=by
 have hs0:(bz (Lib.itoa ((i:Nat):Int))).size<=6:=IN
 refine enter func67 rfl ntmps67 fun w0=>?_;refine B4 Bc 9 ?_;refine go ?_;refine Cu [0,4,8,9] (fun z:KA=>[(5,.slice z.a ((es.take z.k).map (Lf i)).length z.c),(10,aa (z.k:Nat))]) (fun z=>[.ow Bc 9 (.slice z.a ((es.take z.k).map (Lf i)).length z.c) ((es.take z.k).map (Lf i)) z.F]) (fun z=>z.k<=es.length) (fun z=>es.length - z.k) ⟨0,none,0,[]⟩ (aD _) fun z hz0=>?_;have hml:((es.take z.k).map (Lf i)).length=z.k:=by rw [cg,aL];omega
 refine go ?_;refine Bf rfl (fun h1=>?_) (fun h1=>?_)
 ·have hk:z.k < es.length:=EM
  have hse:=hz _ (aE hk);have z1:(⟨#[32]⟩:am).size=1:=rfl;have zs:(bz (Lib.itoa ((i:Nat):Int))++⟨#[32]⟩).size=_:=cH;have zt:(bz (Lib.itoa ((i:Nat):Int))++⟨#[32]⟩++es[z.k]).size=_:=cH;have hst:((es.take z.k).map (Lf i))++[Lf i es[z.k]]=(es.take (z.k+1)).map (Lf i):=by rw [aZ hk,bZ];rfl
  have hte:(Lf i es[z.k]).size<=1000010:=by unfold Lf;omega
  refine Xk (xs:=es) z.k ?_;rintro hi b o e1 s1;rw [e1];refine go ?_;refine cb (fun w st=>Ay2 ((i:Nat):Int) EM EM FT w (st.get (p:=Nx FT) EQ)) ?_;refine Ke ?_;intros;apply wO;refine No (ys:=[Lf i es[z.k]]) (Anh FG) Ej fun a9 c9 F9=>?_;rw [hst];refine go ?_;refine Cv ⟨z.k+1,a9,c9,F9⟩ hk (by show es.length - (z.k+1) < es.length - z.k;omega)
 ·rw [show es.take z.k=es from bc EM];exact CK
theorem Af7 (i:Nat) (es:ah) (a:ai) (c:Nat) (F FT:ak) (hi:i<=100) (hl:es.length<=1000000) (hz:∀e∈es,e.size<=1000000):Fn prog 147 [aa (i:Nat),ab a es.length c] [.sl Bc (ab a es.length c) es F,Nx FT] [] (fun (_:KA)=>True) (fun z=>.slice z.a (Q2 i es).length z.c) (fun z=>[.ow Bc 9 (.slice z.a (Q2 i es).length z.c) (Q2 i es) z.F]):=by
 have hs0:(bz (Lib.itoa ((i:Nat):Int))).size<=6:=IN
 refine enter func147 rfl ntmps147 fun w0=>?_;refine go ?_;intros;refine Dk Bc ?_;refine Cu [0,1,4] (fun z:KA=>[(5,.slice z.a ((es.take z.k).map (Lf i)).length z.c),(6,aa (z.k:Nat))]) (fun z=>[.ow Bc 9 (.slice z.a ((es.take z.k).map (Lf i)).length z.c) ((es.take z.k).map (Lf i)) z.F]) (fun z=>z.k<=es.length) (fun z=>es.length - z.k) ⟨0,_,0,_⟩ (aD _) fun z hz0=>?_;have hml:((es.take z.k).map (Lf i)).length=z.k:=by rw [cg,aL];omega
 refine go ?_;refine Bf rfl (fun h1=>?_) (fun h1=>?_)
 ·have hk:z.k < es.length:=EM
  have hse:=hz _ (aE hk);have z1:(⟨#[32]⟩:am).size=1:=rfl;have zs:(bz (Lib.itoa ((i:Nat):Int))++⟨#[32]⟩).size=_:=cH;have zt:(bz (Lib.itoa ((i:Nat):Int))++⟨#[32]⟩++es[z.k]).size=_:=cH;have hst:((es.take z.k).map (Lf i))++[Lf i es[z.k]]=(es.take (z.k+1)).map (Lf i):=by rw [aZ hk,bZ];rfl
  have hte:(Lf i es[z.k]).size<=1000010:=by unfold Lf;omega
  refine Xk (xs:=es) z.k ?_;rintro hi b o e1 s1;rw [e1];refine go ?_;refine As [0] [] ?_;refine D7 0 1 4 5 ?_;refine Ek 6 7 ?_;refine dN 2 ?_;refine oC ?_;refine cb (fun w st=>Ay7 ((i:Nat):Int) EM EM w) ?_;refine dk ?_;refine Ek 3 8 ?_;refine dN 9 ?_;apply In;rfl;rfl;rfl;rfl;exact Ik;exact Ie;intro _;refine dk ?_;refine dN 10 ?_;refine No (ys:=[Lf i es[z.k]]) (Anh FG) Ej fun a9 c9 F9=>?_;refine dk ?_;refine dt 11 ?_;refine dd ?_;rw [hst];refine go ?_;refine Cv ⟨z.k+1,a9,c9,F9⟩ hk (by show es.length - (z.k+1) < es.length - z.k;omega)
 ·rw [show es.take z.k=es from bc EM];exact CK
end Go.Proofs.YtmckdnddocfodaaGreatDoor
namespace Go.Proofs.YtmckdnddocfodaaGreatDoor

theorem Wa {α:Type} {p:α->Bool}:∀{xs:List α} {k:Nat},k<=xs.length->(∀j (_:j < k) (h:j < xs.length),p xs[j]=true)->(∀h:k < xs.length,p xs[k]=false)->(xs.takeWhile p).length=k
 | [],k,hk,_,_=>by simp at hk;simp [hk]
 | x::r,0,_,_,h2=>by have:=h2 EO;simp at this;simp [this]
 | x::r,k+1,hk,h1,h2=>by
  have hx:p x=true:=h1 0 EM EO;rw [eY hx,aK,Wa (xs:=r) (k:=k) (by simpa using hk) (fun j hj h=>by have:=h1 (j+1) EM EU;simpa using this) (fun h=>by have:=h2 EU;simpa using this)]
theorem Qi {α:Type} {p:α->Bool}:∀{xs:List α},(xs.takeWhile p).length<=xs.length/\(∀j (_:j < (xs.takeWhile p).length) (h:j < xs.length),p xs[j]=true)/\∀h:(xs.takeWhile p).length < xs.length,p xs[(xs.takeWhile p).length]=false
 | []=>by simp
 | x::r=>by
  cases hx:p x
  ·rw [List.takeWhile_cons_of_neg IH];simp [hx]
  ·rw [eY hx];obtain ⟨h1,h2,h3⟩:=Qi (p:=p) (xs:=r);refine ⟨GU,fun j hj h=>?_,fun h=>?_⟩
   ·cases j with
    | zero=>simpa using hx
    | succ j=>simpa using h2 j HO EU
   ·simpa using h3 EU
def Avx {α:Type} (f:α->Int):Option α->Bool
 | some x=>decide (f x=0)
 | none=>false
end Go.Proofs.YtmckdnddocfodaaGreatDoor
namespace Go.Proofs.YtmckdnddocfodaaGreatDoor
open Go.RowKit
theorem Ax2 {t a b:Int} (ha:Cm a=true) (hb:Cm b=true) (h:gp t a=gp t b):a=b:=by
 obtain ⟨a0,a1⟩:=Bb.1 ha;obtain ⟨b0,b1⟩:=Bb.1 hb;unfold gp at h;omega
def D8 (base:Int) (l:List Aw) (n:Int):Nat:=(l.takeWhile fun r=>decide (gp base r.Ab < gp base n)).length
def Km (base:Int) (l:List Aw) (n:Int):Bool:=match l[D8 base l n]? with|some r=>decide (r.Ab=n)|none=>false
def Ast (n u:Int):Aw:=⟨n,1,u,0⟩
def Sb (base:Int) (l:List Aw) (n u:Int):List Aw:=l.take (D8 base l n)++Ast n u::l.drop (D8 base l n)
def Nz (base:Int) (l:List Aw) (n u:Int):List Aw:=if Km base l n || !decide (gp base n < 8) then l else Sb base l n u
def Ok (base:Int) (l:List Aw) (n u:Int):List Aw:=match l[D8 base l n]? with|some r=>if r.Ab=n then l.set (D8 base l n) ⟨n,3,u,r.Ch⟩ else l|none=>l
theorem Rv (base:Int) (l:List Aw) (n:Int):D8 base l n<=l.length:=Qi.1
theorem Ql {base:Int} {l:List Aw} {n:Int} (h:D8 base l n < l.length):Km base l n=decide (l[D8 base l n].Ab=n):=by unfold Km;rw [aB h]
theorem Afe {base:Int} {l:List Aw} {n:Int} (h:¬D8 base l n < l.length):Km base l n=false:=by unfold Km;rw [bf EM]
theorem Qm {base:Int} {l:List Aw} {n:Int} (h:Km base l n=true):D8 base l n < l.length:=by
 by_cases h2:D8 base l n < l.length
 ·exact h2
 ·rw [Afe h2] at h;cases h
theorem Tq {base:Int} {l:List Aw} {n u:Int} (h:Km base l n=false):Ok base l n u=l:=by
 unfold Ok;unfold Km at h;cases hq:l[D8 base l n]? with
 | none=>rfl
 | some r=>rw [hq] at h;dsimp only at h ⊢;rw [aq EU]
theorem Rm {base:Int} {l:List Aw} {n u:Int} (h:Km base l n=true):Ok base l n u=l.set (D8 base l n) ⟨n,3,u,(l[D8 base l n]'(Qm h)).Ch⟩:=by
 have h2:=Qm h;rw [Ql h2] at h;unfold Ok;rw [aB h2];dsimp only;rw [ar EU]
theorem Afk (base:Int) (l:List Aw) (n u:Int):(Ok base l n u).length=l.length:=by
 cases h:Km base l n
 ·rw [Tq h]
 ·rw [Rm h,bw]
theorem Ak5 {base n:Int} {l:List Aw} (hq:Lh l base=true) (hn:Cm n=true) (h:Km base l n=false):∀r∈l,gp base r.Ab≠gp base n:=by
 obtain ⟨-, -,h3,h4⟩:=Dv.1 hq;obtain ⟨t1,t2,t3⟩:=Qi (p:=fun r:Aw=>decide (gp base r.Ab < gp base n)) (xs:=l);intro r hr e;obtain ⟨i,hi,rfl⟩:=aR hr;have e2:=Ax2 (Ep.1 (h3 _ hr)).n hn e;have hk:D8 base l n=i:=Wa EM (fun j hj h=>by
  have:=aX.1 h4 j i h hi hj;simp only [aC];omega) (fun h=>by simp only [bD];omega)
 rw [Ql EM] at h;simp only [hk] at h;simp [e2] at h
theorem Azg {base:Int} {l:List Aw} (hp:l.Pairwise fun a b=>gp base a.Ab < gp base b.Ab) (h8:∀q∈l,gp base q.Ab < 8):l.length<=8:=by
 have key:∀i (h:i < l.length),(i:Int)<=gp base l[i].Ab:=by
  intro i
  induction i with
  | zero=>intro h;exact (Kc _ _).1
  | succ i ih =>
   intro h;have a:=ih EM;have b:=aX.1 hp i (i+1) EM h EM;omega
 by_cases h:l.length<=8
 ·exact h
 ·have a:=key 8 EM;have b:=h8 _ (aE (show 8 < l.length by omega));omega
theorem Ase (base:Int) (l:List Aw) (n u:Int):(Sb base l n u).length=l.length+1:=by
 have:=Rv base l n;unfold Sb;rw [aw,aK,aL,aU];omega
theorem Af0 {base n u:Int} {l:List Aw} (hq:Lh l base=true) (hn:Cm n=true) (h8:gp base n < 8) (u0:0<=u) (u1:u<=10007) (h:Km base l n=false):Lh (Sb base l n u) base=true:=by
 have hne:=Ak5 hq hn h;obtain ⟨h1,h2,h3,h4⟩:=Dv.1 hq;obtain ⟨t1,t2,t3⟩:=Qi (p:=fun r:Aw=>decide (gp base r.Ab < gp base n)) (xs:=l);have hle:=Rv base l n;have hok:∀r∈Sb base l n u,Ml base r=true:=by
  intro r hr;unfold Sb at hr;rcases aG.1 hr with h|h
  ·exact h3 r (bg h)
  ·rcases aF.1 h with rfl|h
   ·exact Ep.2 ⟨hn,h8,by show (1:Int)<=1;decide,by show (1:Int)<=3;decide,u0,u1,by show (0:Int)<=0;decide,by show (0:Int)<=3;decide⟩
   ·exact h3 r (bj h)
 have hpw:(Sb base l n u).Pairwise fun a b=>gp base a.Ab < gp base b.Ab:=by
  unfold Sb;rw [dJ];refine ⟨h4.sublist (dC _ _),?_,?_⟩
  ·rw [ci];refine ⟨fun b hb=>?_,h4.sublist (fh _ _)⟩;obtain ⟨j,hj,rfl⟩:=aR hb;rw [dD];rw [aU] at hj;have hk:D8 base l n < l.length:=EM
   have h0:=t3 hk;simp only [bD,Int.not_lt] at h0;have h00:gp base n<=gp base (l[D8 base l n]'hk).Ab:=h0;have hd:=hne _ (aE hk);show gp base n < _;rcases bQ j with e|e
   ·subst e;simp only [bO];omega
   ·have h5:=aX.1 h4 (D8 base l n) (D8 base l n+j) hk EM EM;omega
  ·intro a ha b hb;obtain ⟨i,hi,rfl⟩:=aR ha;rw [aL] at hi;rw [fl];have ha2:=t2 i (by show i < D8 base l n;omega) EM;simp only [aC] at ha2;rcases aF.1 hb with rfl|hb
   ·exact ha2
   ·obtain ⟨j,hj,rfl⟩:=aR hb;rw [dD];rw [aU] at hj;exact aX.1 h4 i (D8 base l n+j) EM EM EM
 exact Dv.2 ⟨h1,Azg hpw fun q hq=>(Ep.1 (hok q hq)).g,hok,hpw⟩
theorem Aob {base n u:Int} {l:List Aw} (hq:Lh l base=true) (hn:Cm n=true) (u0:0<=u) (u1:u<=10007):Lh (Nz base l n u) base=true:=by
 unfold Nz
 split
 ·exact hq
 ·rename_i h;simp only [bJ,bv,not_or,Bool.not_eq_false,Bool.not_eq_true,aC] at h;exact Af0 hq hn h.2 u0 u1 h.1
theorem Ajn {base n u:Int} {l:List Aw} {q:Aw} (h:q∈Nz base l n u):q∈l\/q.Ab=n:=by
 unfold Nz Sb at h
 split at h
 ·exact DS
 ·rcases aG.1 h with h|h
  ·exact .inl (bg h)
  ·rcases aF.1 h with rfl|h
   ·exact .inr rfl
   ·exact .inl (bj h)
theorem Ak8 {base n u:Int} {l:List Aw} (hq:Lh l base=true) (u0:0<=u) (u1:u<=10007):Lh (Ok base l n u) base=true:=by
 cases h:Km base l n
 ·rw [Tq h];exact hq
 obtain ⟨h1,h2,h3,h4⟩:=Dv.1 hq;have hk:=Qm h;have hn:l[D8 base l n].Ab=n:=by rw [Ql hk] at h;simpa using h
 have ho:=Ep.1 (h3 _ (aE hk));rw [Rm h];have hnum:∀i (h:i < (l.set (D8 base l n) ⟨n,3,u,l[D8 base l n].Ch⟩).length),(l.set (D8 base l n) ⟨n,3,u,l[D8 base l n].Ch⟩)[i].Ab=(l[i]'EU).Ab:=fun i h=>by
  rw [dv]
  split
  ·rename_i e;subst e;exact hn.symm
  ·rfl
 refine Dv.2 ⟨h1,GD,fun r hr=>?_,?_⟩
 ·have gn:=ho.n;have gg:=ho.g;rw [hn] at gn gg;rcases bq hr with h|rfl
  ·exact h3 r h
  ·exact Ep.2 ⟨gn,gg,by show (1:Int)<=3;decide,by show (3:Int)<=3;decide,u0,u1,ho.t0,ho.t1⟩
 ·refine aX.2 fun i j hi hj hij=>?_;rw [hnum i hi,hnum j hj];exact aX.1 h4 i j _ _ hij
theorem Wm {base n u:Int} {l:List Aw} {q:Aw} (h:q∈Ok base l n u):∃r∈l,r.Ab=q.Ab:=by
 cases h2:Km base l n
 ·rw [Tq h2] at h;exact ⟨q,h,rfl⟩
 have hk:=Qm h2;have hn:l[D8 base l n].Ab=n:=by rw [Ql hk] at h2;simpa using h2
 rw [Rm h2] at h;rcases bq h with h|rfl
 ·exact ⟨q,h,rfl⟩
 ·exact ⟨_,aE hk,hn⟩
def C8 (r:Ay) (p:Ar):Ak:=if r.A1 then r.Aa else ⟨if p.Bd=5 then p.Cy else p.Ab,r.Aa.Am⟩
def C0 (r:Ay) (p:Ar):Ak:=if p.Bd=5 then C8 r p else Hy (C8 r p) p.Ab p.data
def Jq (r:Ay) (p:Ar):ah:=if p.Bd=5 then [] else Jb (C8 r p) p.Ab p.data
def Jt (w:Ak) (t:Int):Ak:=if Qa w.next t then (if gp w.next t<=8 then Gt w t else ⟨t,[]⟩) else w
def Np (w:Ak) (t:Int):ah:=if Qa w.next t then (if gp w.next t<=8 then Fm w t else [⟨#[33]⟩]) else []
def Be (r:Ay) (p:Ar):Ak:=Jt (C0 r p) p.Al
def Ls (r:Ay) (p:Ar):ah:=Jq r p++Np (C0 r p) p.Al
def Ii (base u:Int) (l:List Aw) (ns:al):List Aw:=ns.foldl (fun l n=>Nz base l n u) l
def O1 (w:Ak) (Cy:Int):Nat:=(min (gp w.next Cy) 8).toNat
def H8 (w:Ak) (l:List Aw) (Cy u:Int):List Aw:=if Qa w.next Cy then Ii w.next u l (Ko w (O1 w Cy)) else l
def Gb (r:Ay) (p:Ar) (d:Int):Ay:=⟨true,r.Ae,Be r p,H8 (Be r p) (C3 r.Aj (Be r p)) p.Cy (r.Ae+d)⟩
def Dq (p:Ar):Bool:=decide (p.Bd=1) || decide (p.Bd=2) || decide (p.Bd=5)
def Ts (r:Ay) (p:Ar):Ay:=⟨r.A1,r.Ae,r.Aa,Ok r.Aa.next r.Aj p.Ab (r.Ae+4)⟩
def Bt (r:Ay) (p:Ar) (d:Int):Ay:=if Dq p then Gb r p d else if decide (p.Bd=4) && r.A1 then Ts r p else r
def Hp (r:Ay) (p:Ar):ah:=if Dq p then Ls r p else []
theorem Ags {w:Ak} {n:Int} {s:am} (hg:C7 w=true) (hn:Cm n=true) (hs:Qd s=true):C7 (Hy w n s)=true/\(∃m:Nat,m<=8/\(Hy w n s).next=A8 w.next m)/\(Jb w n s).length<=8:=by
 obtain ⟨w0,w1⟩:=Gg hg;cases ht:Ms w n
 ·have e:(Em w n || !decide (gp w.next n < 8))=true:=by unfold Ms at ht;simp only [cS] at ht;rw [ht.1,ht.2];rfl
  have e1:Hy w n s=w:=by unfold Hy;rw [ar e]
  have e2:Jb w n s=[]:=by unfold Jb;rw [ar e]
  rw [e1,e2];exact ⟨hg,⟨0,EM,(Pq w0 w1).symm⟩,EO⟩
 ·have hok:U2 w n s=true:=by unfold U2;rw [hg,hn,hs,ht];rfl
  have h:=Asl w n s (by unfold Ja;rw [hok];rfl);rw [show Ja w n s=(Hy w n s,Jb w n s,true) by unfold Ja;rw [hok];rfl] at h;obtain ⟨-, -,h3,h4, -, -,h7, -⟩:=h;dsimp only at h3 h4 h7;refine ⟨h3,⟨_,h7,?_⟩,h7⟩;obtain ⟨v0,v1⟩:=Gg h3;rw [<-h4];unfold A8 gp at *;omega
theorem Jj {r:Ay} {p:Ar} (hg:Eu r) (hp:Bh p=true):C7 (C8 r p)=true/\(r.A1=true->C8 r p=r.Aa):=by
 unfold C8;unfold Bh at hp;simp only [av] at hp;cases hs:r.A1
 ·refine ⟨?_,fun h=>by cases h⟩;rw [(hg.z hs).1];simp only [dz,if_false];unfold C7
  split
  ·rw [hp.1.1.1.2];rfl
  ·rw [hp.1.1.1.1.1.2];rfl
 ·exact ⟨hg.w,fun _=>rfl⟩
theorem Oh {r:Ay} {p:Ar} (hg:Eu r) (hp:Bh p=true):C7 (C0 r p)=true/\(∃m:Nat,m<=8/\(C0 r p).next=A8 (C8 r p).next m)/\(Jq r p).length<=8:=by
 have h1:=(Jj hg hp).1;obtain ⟨w0,w1⟩:=Gg h1;unfold C0 Jq
 split
 ·exact ⟨h1,⟨0,EM,(Pq w0 w1).symm⟩,EO⟩
 ·unfold Bh at hp;simp only [av] at hp;exact Ags h1 hp.1.1.1.1.1.2 hp.1.1.2
theorem Aqe {w:Ak} {t:Int} (hg:C7 w=true) (ht:Cm t=true):C7 (Jt w t)=true/\(∃m:Nat,m<=32767/\(Jt w t).next=A8 w.next m)/\(Np w t).length<=16:=by
 obtain ⟨w0,w1⟩:=Gg hg;obtain ⟨t0,t1⟩:=Bb.1 ht;unfold Jt Np;cases hb:Qa w.next t
 ·exact ⟨hg,⟨0,EM,(Pq w0 w1).symm⟩,EO⟩
 ·simp only [if_true]
  split
  ·obtain ⟨e1,e2,e3,e4⟩:=Na (t:=t) hg;have:=@Wr w.next t
   exact ⟨Abg _ _ hg,⟨_,EM,e1⟩,EM⟩
  ·refine ⟨by unfold C7;rw [ht];rfl,⟨(gp w.next t).toNat,?_,?_⟩,EO⟩
   ·unfold Qa Ht at hb;simp only [av,aC] at hb;omega
   ·have:=Kc w.next t
    show t=_;unfold A8 gp at *;omega
theorem Abq {l:List Aw} {b:Int} {w:Ak} {m:Nat} (hm:m<=65528) (hq:Lh l b=true) (hw:C7 w=true) (e:w.next=A8 b m):Lh (C3 l w) w.next=true:=by
 obtain ⟨h1,h2,h3,h4⟩:=Dv.1 hq;obtain ⟨b0,b1⟩:=Bb.1 h1;have key:∀q∈l,gp w.next q.Ab < 8->gp w.next q.Ab=gp b q.Ab - m:=fun q hq h=>by
  have ho:=Ep.1 (h3 q hq);obtain ⟨n0,n1⟩:=Bb.1 ho.n;have:=ho.g;rw [e] at h ⊢;unfold gp A8 at *;omega
 have hin:∀q∈C3 l w,q∈l/\gp w.next q.Ab < 8:=fun q hq=>by
  unfold C3 at hq;rw [aO] at hq;simp only [av,aC] at hq;exact ⟨hq.1,hq.2.2⟩
 refine Dv.2 ⟨Bb.2 (Gg hw),bi (bA _ _) h2,fun q hq=>?_,?_⟩
 ·obtain ⟨a,c⟩:=hin q hq;have ho:=Ep.1 (h3 q a);exact Ep.2 ⟨ho.n,c,ho.s0,ho.s1,ho.u0,ho.u1,ho.t0,ho.t1⟩
 ·have h5:(C3 l w).Pairwise fun a b'=>gp b a.Ab < gp b b'.Ab:=h4.sublist cZ;refine h5.imp_of_mem fun ha hb h=>?_;rw [key _ (hin _ ha).1 (hin _ ha).2,key _ (hin _ hb).1 (hin _ hb).2];omega
theorem Oq {l:List Aw} {w:Ak}:∀q∈C3 l w,Ho w q.Ab=false:=fun q hq=>by
 unfold C3 at hq;rw [aO] at hq;simp only [av,bv,cS] at hq;exact hq.2.1.2
theorem N4 {w:Ak} {k:Nat} (hk:k<=8) {n:Int} (h:n∈Ko w k):Cm n=true/\gp w.next n < 8/\Ho w n=false:=by
 unfold Ko Or at h;obtain ⟨h1,h2⟩:=aO.1 h;obtain ⟨i,hi,rfl⟩:=bU.1 h1;rw [bX] at hi;refine ⟨N8 _ _,?_,GD⟩;unfold gp A8;omega
theorem Qk {w:Ak} {u:Int} (u0:0<=u) (u1:u<=10007):∀(ns:al) (l:List Aw),(∀n∈ns,Cm n=true/\Ho w n=false)->Lh l w.next=true->(∀q∈l,Ho w q.Ab=false)->Lh (Ii w.next u l ns) w.next=true/\∀q∈Ii w.next u l ns,Ho w q.Ab=false
 | [],l,_,h2,h3=>⟨h2,h3⟩
 | n::ns,l,h1,h2,h3=>by
  obtain ⟨a,b⟩:=h1 n EO;refine Qk u0 u1 ns (Nz w.next l n u) (fun n hn=>h1 n (by simp [hn])) (Aob h2 a u0 u1) fun q hq=>?_;rcases Ajn hq with h|h
  ·exact h3 q h
  ·rw [h];exact b
theorem Abe {base u:Int} {l:List Aw} {ns:al} {k:Nat} (h:k < ns.length):Ii base u l (ns.take (k+1))=Nz base (Ii base u l (ns.take k)) ns[k] u:=by
 unfold Ii;rw [cF,aB h,List.foldl_append];rfl
theorem Oi (w:Ak) (t:Int):O1 w t<=8:=by unfold O1;omega
theorem T5 {r:Ay} {p:Ar} {d:Int} (hg:Eu r) (hp:Bh p=true) (d0:1<=d) (d1:d<=8) (hk:r.Ae+d<=10007):C7 (Be r p)=true/\Lh (C3 r.Aj (Be r p)) (Be r p).next=true/\Eu (Gb r p d)/\(Ls r p).length<=24:=by
 obtain ⟨a1,a2⟩:=Jj hg hp;obtain ⟨b1,⟨m,hm,em⟩,b3⟩:=Oh hg hp;have htr:Cm p.Al=true:=by unfold Bh at hp;simp only [av] at hp;exact hp.1.1.1.1.2
 obtain ⟨c1,⟨k,hk2,ek⟩,c3⟩:=Aqe b1 htr;have hk0:=hg.k0;have hq:Lh (C3 r.Aj (Be r p)) (Be r p).next=true:=by
  cases hs:r.A1
  ·rw [(hg.z hs).2];exact (Dv (l:=[])).2 ⟨Bb.2 (Gg c1),aD 8,fun r hr=>(by cases hr),List.Pairwise.nil⟩
  ·refine Abq (m:=m+k) EM hg.q c1 ?_;show (Be r p).next=_
   rw [show (Be r p).next=A8 (C0 r p).next k from ek,em,a2 hs,Lm]
 have hn:Be r p=Jt (C0 r p) p.Al:=rfl;refine ⟨c1,hq,⟨hg.k0,hg.k1,c1,?_,?_,fun h=>by cases h⟩,by unfold Ls;rw [aw];omega⟩
 ·show Lh (H8 (Be r p) (C3 r.Aj (Be r p)) p.Cy (r.Ae+d)) (Be r p).next=true
  unfold H8
  split
  ·exact (Qk EM EM _ _ (fun n hn=>⟨(N4 (Oi _ _) hn).1,(N4 (Oi _ _) hn).2.2⟩) hq Oq).1
  ·exact hq
 ·show ∀q∈H8 (Be r p) (C3 r.Aj (Be r p)) p.Cy (r.Ae+d),Ho (Be r p) q.Ab=false;unfold H8
  split
  ·exact (Qk EM EM _ _ (fun n hn=>⟨(N4 (Oi _ _) hn).1,(N4 (Oi _ _) hn).2.2⟩) hq Oq).2
  ·exact Oq
theorem Oo {r:Ay} {p:Ar} {d:Int} (hg:Eu r) (hp:Bh p=true) (d0:1<=d) (d1:d<=8):Eu (Bt r p d)/\(Hp r p).length<=24:=by
 have hk1:=hg.k1;have hk0:=hg.k0;unfold Bt Hp
 split
 ·exact ⟨(T5 hg hp d0 d1 EM).2.2.1,(T5 hg hp d0 d1 EM).2.2.2⟩
 ·refine ⟨?_,EO⟩
  split
  ·rename_i h;simp only [av,aC] at h;refine ⟨hk0,hk1,hg.w,Ak8 hg.q EM EM,fun q hq=>?_,fun hs=>?_⟩
   ·obtain ⟨r',hr,e⟩:=Wm hq;show Ho r.Aa q.Ab=false;rw [<-e];exact hg.f r' hr
   ·have:r.A1=false:=hs;rw [h.2] at this;cases this
  ·exact hg
theorem Q8 (y:Aw) (w:World):C6 A9 w [aa y.Ab,aa y.Dh,aa y.Bl,aa y.Ch] [y] []:=⟨_,[],[],[],EO,EO,⟨rfl,rfl⟩,rfl,rfl⟩
theorem Aq5 (xs:List Aw) (y:Aw) (i:Nat) (a:ai) (c vb:Nat) (F:ak) (hi:i<=xs.length) (hl:xs.length<=1000000) :
  Fn prog 290 [ab a xs.length c,aa i,ab (some ⟨vb,0,none⟩) 1 1] [] [.ow A9 161 (ab a xs.length c) xs F,.row vb 161 0 [] [aa y.Ab,aa y.Dh,aa y.Bl,aa y.Ch] []] (fun (_:ai × Nat × ak)=>True)
   (fun z=>.slice z.1 (xs.take i++y::xs.drop i).length z.2.1) (fun z=>[.ow A9 161 (.slice z.1 (xs.take i++y::xs.drop i).length z.2.1) (xs.take i++y::xs.drop i) z.2.2]):=by
 have hone:∀w':World,∀cs:aj,C6 A9 w' cs xs []->∀u∈cs,u.oneCell'=true:=fun w' cs h=>h.one' Dg;have hy:=Q8 y;have h1y:∀u∈([aa y.Ab,aa y.Dh,aa y.Bl,aa y.Ch]:aj),u.oneCell'=true:=HA
 refine enter func290 rfl ntmps290 fun w0=>?_;refine Anq (E:=A9) fun hc1 hc2=>?_;refine go ?_;apply wO;refine Ahr rfl rfl rfl rfl hi (fun _=>?_) hc1;refine go ?_;refine Bf rfl (fun h1=>?_) (fun h1=>?_)
 ·have hin:i=xs.length:=EM
  subst hin;have e:xs.take xs.length++y::xs.drop xs.length=xs++[y]:=EO
  refine go ?_;apply wO;refine No hy Dg fun a2 c2 F2=>?_;rw [e];exact CY
 ·have hlt:i < xs.length:=EM
  refine Ah6 (xs:=xs) Ee (by rintro rfl;simp at hlt) ?_;rintro g cs rest rfl - - - hcl hcr hfl;rw [show A9.sz=4 from rfl] at hcl hcr;have h1c:=hone w0 cs (hfl w0);obtain ⟨A,B,hcs,hA,hB⟩:∃A B,cs=A++B/\A=cs.take (i * 4)/\B=cs.drop (i * 4):=⟨_,_,(bm _ _).symm,rfl,rfl⟩;have hAl:A.length=i * 4:=by rw [hA,aL];omega
  have hBl:B.length=(xs.length - i) * 4:=by rw [hB,aU];omega
  have hins:∀w,C6 A9 w (A++[aa y.Ab,aa y.Dh,aa y.Bl,aa y.Ch]++B) (xs.take i++y::xs.drop i) []:=fun w=>by rw [hA,hB];exact (hfl w).insL (hy w) i hi
  have h1A:∀u∈A,u.oneCell'=true:=fun u hu=>h1c u HM;have h1B:∀u∈B,u.oneCell'=true:=fun u hu=>h1c u HM;have hlen:(xs.take i++y::xs.drop i).length=xs.length+1:=ET
  clear hA hB hfl hone;subst hcs;have eA:A=((A++B++rest).drop 0).take (i * 4):=by rw [dW,aJ,bR hAl]
  have eB:B=((A++B++rest).drop (0+i * 4)).take ((xs.length - i) * 4):=by rw [dF,aJ,eP hAl,bR hBl]
  rw [hlen];refine go ?_;apply wO;apply oc;rfl;exact Amk rfl;refine go ?_;refine Bf rfl (fun h2=>?_) (fun h2=>?_)
  ·refine go ?_;apply wO;apply oc;rfl;exact Nv (i:=i) rfl rfl rfl EM EM;refine go ?_;apply wO;refine Alt (k:=xs.length+1 - i) (olds:=A) rfl rfl rfl EM (Mj (m:=i * 4) (.head _) eA) EM EN EM EM EM EM fun g' cp' Z rest' h3 h4 h5 h6=>?_;rw [show i+(xs.length+1 - i)=xs.length+1 by omega] at h3 ⊢;obtain ⟨Z1,Z2,rfl,hZ1,hZ2⟩:∃Z1 Z2,Z=Z1++Z2/\Z1.length=4/\Z2.length=B.length:=⟨Z.take 4,Z.drop 4,(bm _ _).symm,FK,by rw [aU];omega⟩;refine go ?_
   apply wO;apply oc;rfl;exact Kb (i:=i) rfl rfl rfl EM EM EM;refine go ?_;apply wO;refine Vl (cs:=[aa y.Ab,aa y.Dh,aa y.Bl,aa y.Ch]) (L':=A++[aa y.Ab,aa y.Dh,aa y.Bl,aa y.Ch]++(Z2++rest')) rfl rfl rfl (Mj (L:=[aa y.Ab,aa y.Dh,aa y.Bl,aa y.Ch]) (o:=0) (m:=4) EQ rfl) .here (Ab3 (M:=Z1) GK EM (by simpa using hZ1)) (by show 4=min 1 (xs.length+1 - i) * 4;omega) FA h1y ?_
   refine go ?_;refine As [] [] ?_;refine D7 0 1 2 3 ?_;refine dt 4 ?_ (hy:=Kb (i:=i+1) rfl rfl EM EM EM EM);refine Ek 5 6 ?_;refine dt 7 ?_ (hy:=Kb (i:=i) rfl rfl EM EM EM EM);refine dN 8 ?_
   refine Vl (cs:=B) (L':=A++[aa y.Ab,aa y.Dh,aa y.Bl,aa y.Ch]++B++rest') rfl rfl rfl (Mj EQ eB) .here (Ab3 (P:=A++[aa y.Ab,aa y.Dh,aa y.Bl,aa y.Ch]) (M:=Z2) GK FA hZ2) GI FA h1B ?_;refine dk ?_;refine dd ?_
   refine Aa4 (cs:=A++[aa y.Ab,aa y.Dh,aa y.Bl,aa y.Ch]++B) (rest:=rest') (xs:=xs.take i++y::xs.drop i) cp' rfl hins EM h4 (by rw [show A9.sz=4 from rfl];simp only [aw,aK,aV] at h6 ⊢;omega) ?_;rw [hlen];refine go ?_;refine ret (_,cp',[g']) trivial rfl
  ·have hcx:xs.length+1<=c:=EM
   obtain ⟨X,Y,hXY,hX,hY⟩:=Al7 (B:=B) (R:=rest) 4 EM;refine go ?_;apply wO;apply oc;rfl;exact Nv (i:=xs.length+1) rfl rfl EM EM EM;refine go ?_;apply wO;apply oc;rfl;exact Kb (i:=i+1) rfl rfl EM EM EM EM;refine Ke ?_;intros;apply wO
   refine Asy rfl Tt (ovl (tS:=81) (tR:=4) (run_callFunc_extern func294 ER ER ER (e:=Extern.SlicesOverlaps.overlaps #[81,81] #[4]) ER) (.there .here) (.head _) GL) ?_;refine go ?_;refine As [] [] ?_;refine D7 0 1 2 3 ?_;refine dt 4 ?_ (hy:=Kb (i:=i+1) rfl rfl EM EM EM EM);refine Ek 5 6 ?_;refine dt 7 ?_ (hy:=Kb (i:=i) rfl rfl EM EM EM EM);refine dN 8 ?_
   refine Vl (cs:=B) (L':=A++X++B++rest.drop 4) rfl rfl rfl (Mj EQ eB) .here (Ab3 (P:=A++X) (M:=Y) JI HG hY) GE HG h1B ?_;refine dk ?_;refine dd ?_;refine go ?_;apply wO;apply oc;rfl;exact Kb (i:=i) rfl rfl rfl EM EM EM;refine go ?_;apply wO
   refine Vl (cs:=[aa y.Ab,aa y.Dh,aa y.Bl,aa y.Ch]) (L':=A++[aa y.Ab,aa y.Dh,aa y.Bl,aa y.Ch]++(B++rest.drop 4)) rfl rfl rfl (Mj (L:=[aa y.Ab,aa y.Dh,aa y.Bl,aa y.Ch]) (o:=0) (m:=4) EQ rfl) .here (Ab3 (M:=X) GK EM (by simpa using hX)) (by show 4=min 1 (xs.length+1 - i) * 4;omega) FA h1y ?_;refine go ?_
   refine Aa4 (L:=A++[aa y.Ab,aa y.Dh,aa y.Bl,aa y.Ch]++(B++rest.drop 4)) (cs:=A++[aa y.Ab,aa y.Dh,aa y.Bl,aa y.Ch]++B) (rest:=rest.drop 4) (xs:=xs.take i++y::xs.drop i) c GK hins EM EM (by rw [show A9.sz=4 from rfl];simp only [aw,aK,aV,aU];omega) ?_;rw [hlen];refine ret (_,c,[g]) trivial rfl
instance:IntC prog 191 .u64:=⟨underlying191⟩
theorem Aoa (fid:FuncId) (caps:aj) (A:List Pc) (hA:A.all (fun p=>!p.mu)=true) (xs:List Aw) (a:ai) (c:Nat) (F:ak) (tv:Value) (f:Aw->Int) (hm:∀i j (_:i<=j) (hj:j < xs.length),f xs[j] < 0->f (xs[i]'EM) < 0) (hb:O2 prog fid=true) (hl:xs.length<=1000000)
  (hp:∀x∈xs,∀w,Nh A w->Calls prog fid ([.agg #[aa x.Ab,aa x.Dh,aa x.Bl,aa x.Ch],tv]++caps).toArray w (RB (aa (f x)) w)) :
  Fn prog 277 [ab a xs.length c,tv,.func (.func fid) #[] caps.toArray] (.sl A9 (ab a xs.length c) xs F::A) [] (fun (_:Unit)=>True) (fun _=>.tuple #[aa ((xs.takeWhile fun x=>decide (f x < 0)).length:Nat),.bool (Avx f xs[(xs.takeWhile fun x=>decide (f x < 0)).length]?)]) (fun _=>[]):=by
 refine enter func277 rfl ntmps277 (fun w0=>?_) rfl EY .nil;refine go ?_;refine Ei [0,1,2,6,7,8] (fun s:Nat × Nat=>[(9,aa (s.1:Nat)),(10,aa (s.2:Nat))]) (fun s=>s.1<=s.2/\s.2<=xs.length/\(∀j (_:j < s.1) (h:j < xs.length),f xs[j] < 0)/\(∀j (_:s.2<=j) (h:j < xs.length),¬f xs[j] < 0)) (fun s=>s.2 - s.1) (0,xs.length) ⟨aD _,aA _,fun j h=>by omega,fun j h1 h2=>by omega⟩ fun s hs=>?_;obtain ⟨i,j⟩:=s;obtain ⟨h1,h2,h3,h4⟩:=hs;dsimp only at h1 h2 h3 h4 ⊢;refine go ?_;refine Bf rfl (fun h5=>?_) (fun h5=>?_)
 ·have hh:(i+j) / 2 < xs.length:=EM
  have e2:((i:Int)+(j:Int)) / 2=(((i+j) / 2:Nat):Int):=EM
  refine go ?_;apply wO;apply oc;rfl;exact Ae0 rfl EM EM;refine go ?_;apply wO;apply oc;rfl;exact Aid rfl;rw [e2];apply wO;apply oc;rfl;exact An3 rfl EM EM;generalize hq:(i+j) / 2=q at hh;refine go ?_;refine Iu (xs:=xs) q ?_;rintro hi b o e;rw [e];refine go ?_;apply wO;refine Ack rfl rfl hb Tt ?_;refine cb (fun w st=>hp xs[q] (aE hh) w (fun p hp=>st.on p HF)) ?_;refine go ?_;refine Bf rfl (fun h6=>?_) (fun h6=>?_)
  ·exact CP
  ·exact CQ
 ·have hij:i=j:=EM
  subst hij;have hk:(xs.takeWhile fun x=>decide (f x < 0)).length=i:=Wa h2 (fun j hj h=>au (h3 j hj h)) (fun h=>ay (h4 i (aA _) h));rw [hk];refine go ?_;refine Dm rfl rfl (fun h6=>?_) (fun h6=>?_)
  ·have hh:i < xs.length:=EM
   rw [aB hh];refine go ?_;refine Iu (xs:=xs) i ?_;exact CX
  ·rw [bf EM];exact AB
theorem At2 {base n:Int} {l:List Aw} (hser:∀q∈l,Cm q.Ab=true) (hn:Cm n=true):(l.takeWhile fun x=>decide (gp base x.Ab - gp base n < 0)).length=D8 base l n /\
  Avx (fun x:Aw=>gp base x.Ab - gp base n) l[(l.takeWhile fun x=>decide (gp base x.Ab - gp base n < 0)).length]?=Km base l n:=by
 have e:(fun x:Aw=>decide (gp base x.Ab - gp base n < 0))=fun h=>decide (gp base h.Ab < gp base n):=by
  funext x;rw [dH];omega
 have e1:(l.takeWhile fun x=>decide (gp base x.Ab - gp base n < 0)).length=D8 base l n:=by unfold D8;rw [e]
 refine ⟨e1,?_⟩;rw [e1];unfold Km;cases hq:l[D8 base l n]? with
 | none=>rfl
 | some z =>
  show decide (gp base z.Ab - gp base n=0)=decide (z.Ab=n);rw [dH];exact ⟨fun h=>Ax2 (t:=base) (hser z (bM hq)) hn EM,fun h=>by rw [h];omega⟩
theorem Baz (r:Aw) (n t:Int) (gb:Nat) (t0:0<=t) (t1:t<=65535) (n0:0<=n) (n1:n<=65535) (m0:0<=r.Ab) (m1:r.Ab<=65535) :
  FV 278 [.agg #[aa r.Ab,aa r.Dh,aa r.Bl,aa r.Ch],aa n,Fv gb 0 0] [.cel gb 0 [aa t]] (aa (gp t r.Ab - gp t n)):=by
 have b1:=Kc t r.Ab;have b2:=Kc t n;refine enter func278 rfl ntmps278 fun w0=>?_;refine go ?_;intros;refine As [0,1] [] ?_;refine D7 0 1 2 4 ?_;refine dt 5 ?_;refine dN 3 ?_;refine oC ?_;refine ce (fun w s=>Om _ _ _ EM EM EM EM) ?_;refine dk ?_;refine dN 6 ?_;exact DQ
theorem W0 (l:List Aw) (base n:Int) (a:ai) (c:Nat) (F:ak) (hq:Lh l base=true) (hn:Cm n=true) :
  FV 256 [ab a l.length c,aa base,aa n] [.sl A9 (ab a l.length c) l F] (.tuple #[aa (D8 base l n:Nat),.bool (Km base l n)]):=by
 obtain ⟨q1,q2,q3,q4⟩:=Dv.1 hq;have hser:∀q∈l,Cm q.Ab=true:=fun q h=>(Ep.1 (q3 q h)).n;obtain ⟨b0,b1⟩:=Bb.1 q1;obtain ⟨n0,n1⟩:=Bb.1 hn;obtain ⟨e1,e2⟩:=At2 (base:=base) hser hn;refine enter func256 rfl ntmps256 fun w0=>?_;refine go ?_;intros;rename_i gb;refine cb (fun w st=>by
  have r1:=st.get (p:=.row gb 3 0 [] [aa base] []) EO;have hw:=(st.get (p:=.sl A9 (ab a l.length c) l F) EO).2;refine (Aoa 278 [Fv gb 0 0] [.cel gb 0 [aa base]] rfl l a c F (aa n) (fun r=>gp base r.Ab - gp base n) (fun i j hij hj h=>?_) ER EM fun x hx w' hA=>?_).val w ?_
  ·rcases aY hij with h2|rfl
   ·have:=aX.1 q4 i j EM hj h2;omega
   ·exact h
  ·obtain ⟨m0,m1⟩:=Bb.1 (hser x hx);exact (Baz x n base gb b0 b1 n0 n1 m0 m1).val w' hA
  ·intro p hp;simp only [aF,aM,bn] at hp;rcases hp with rfl|rfl
   ·exact st.get EO
   ·exact ⟨EO,Hq r1⟩) ?_
 rw [e2,e1];exact AB
theorem Adp (l:List Aw) (base n:Int) (a:ai) (c:Nat) (F:ak) (hq:Lh l base=true) (hn:Cm n=true) :
  FV 219 [ab a l.length c,aa base,aa n] [.sl A9 (ab a l.length c) l F] (.tuple #[aa (D8 base l n:Nat),.bool (Km base l n)]):=by
 obtain ⟨q1,q2,q3,q4⟩:=Dv.1 hq;have hser:∀q∈l,Cm q.Ab=true:=fun q h=>(Ep.1 (q3 q h)).n;obtain ⟨b0,b1⟩:=Bb.1 q1;obtain ⟨n0,n1⟩:=Bb.1 hn;obtain ⟨t1,t2,t3⟩:=Qi (p:=fun r:Aw=>decide (gp base r.Ab < gp base n)) (xs:=l);have hle:=Rv base l n;have hb2:=Kc base n;refine enter func219 rfl ntmps219 fun w0=>?_;refine go ?_;refine Cu [0,1,2,6,7] (fun k:Nat=>[(8,aa (k:Nat))]) (fun _=>[]) (fun k=>k<=D8 base l n) (fun k=>l.length - k) 0 (aD _) fun k hk=>?_;have leaf:∀h:k < l.length,decide (gp base l[k].Ab < gp base n)=decide (k < D8 base l n):=fun h=>by
  by_cases h2:k < D8 base l n
  ·rw [au h2];exact t2 k h2 h
  ·have e:k=D8 base l n:=EM
   subst e;rw [ay h2];exact t3 h
 refine go ?_;refine Dm rfl rfl (fun h4=>?_) (fun h4=>?_)
 ·have hi:k < l.length:=EM
  refine go ?_;refine Iu (xs:=l) k ?_;rintro hi b o e;rw [e];refine go ?_;obtain ⟨m0,m1⟩:=Bb.1 (hser _ (aE hi));have hb1:=Kc base l[k].Ab;refine ce (fun w s=>I1 _ _ _ EM EM) ?_;refine go ?_;refine ce (fun w s=>I1 _ _ _ EM EM) ?_;have lf:=leaf hi;refine go ?_;refine Bf rfl (fun h5=>?_) (fun h5=>?_)
  ·have h6:k < D8 base l n:=by rw [au h5] at lf;simpa using lf.symm
   refine go ?_;refine Cv (k+1) (by show k+1<=D8 base l n;omega) GP
  ·have h6:k=D8 base l n:=by rw [ay h5] at lf;have:¬k < D8 base l n:=(by simpa using lf.symm);omega
   refine go ?_;refine As [0] [] ?_;refine D7 0 1 2 3 ?_;refine dt 4 ?_;rw [au h4];refine dt 5 ?_;refine E6 6 ?_;refine E6 7 ?_;refine E6 8 ?_;refine E6 9 ?_;refine E6 10 ?_;refine E6 11 ?_;refine E6 12 ?_;refine Ek 13 14 ?_;refine dt 15 ?_;refine dd ?_;rw [Ql EM];subst h6;exact AB
 ·have h6:k=D8 base l n:=EM
  refine go ?_;refine As [0] [] ?_;refine D7 0 1 2 3 ?_;refine dt 4 ?_;rw [ay h4];refine dt 5 ?_;refine ds 6 ?_;refine ds 7 ?_;refine ds 8 ?_;refine ds 9 ?_;refine ds 10 ?_;refine ds 11 ?_;refine ds 12 ?_;refine Ek 13 14 ?_;refine dt 15 ?_;refine dd ?_;rw [Afe EM];subst h6;exact AB
def Ag2 (base:Int) (l:List Aw) (n u:Int):List Aw:=if Km base l n then [] else Sb base l n u
structure OwR where
 a:ai
 c:Nat
 F:ak
theorem Agw (l:List Aw) (base n ck d:Int) (a:ai) (c:Nat) (F:ak) (hq:Lh l base=true) (hn:Cm n=true) (h8:gp base n < 8) (k0:0<=ck) (k1:ck<=9999) (d0:1<=d) (d1:d<=8) :
  Fn prog 276 [ab a l.length c,aa base,aa n,aa ck,aa d] [.sl A9 (ab a l.length c) l F] [] (fun (_:OwR)=>True) (fun s=>.tuple #[.slice s.a (Ag2 base l n (ck+d)).length s.c,.bool (!Km base l n)]) (fun s=>[.ow A9 161 (.slice s.a (Ag2 base l n (ck+d)).length s.c) (Ag2 base l n (ck+d)) s.F]):=by
 have hle:=Rv base l n;obtain ⟨q1,q2,q3,q4⟩:=Dv.1 hq;have hck:J9 ck=true:=by unfold J9 Ht;simp;omega
 have hdl:Asf d=true:=by unfold Asf Ht;simp;omega
 refine enter func276 rfl ntmps276 fun w0=>?_;refine go ?_;refine Bw (P9 l base _ F) fun _ _=>?_;rw [hq];refine go ?_;refine ce (fun w s=>Jf _ _) ?_;rw [hn];refine go ?_;refine ce (fun w s=>Ro _ _) ?_;rw [hck];refine go ?_;refine Bw (Ao3 d) fun _ _=>?_;rw [hdl];refine go ?_;refine Bw (W0 l base n a c F hq hn) fun _ _=>?_;cases ho:Km base l n
 ·rw [show Ag2 base l n (ck+d)=Sb base l n (ck+d) by unfold Ag2;rw [ho];rfl];have hln:=Ase base l n (ck+d);refine go ?_;refine Bw (Ss l a c F EM) fun z _=>?_;refine go ?_;intros;refine Bw (Aq5 l ⟨n,1,ck+d,0⟩ (D8 base l n) z.1 z.2.1 _ z.2.2 hle EM) fun y _=>?_;rw [show l.take (D8 base l n)++(⟨n,1,ck+d,0⟩:Aw)::l.drop (D8 base l n)=Sb base l n (ck+d) from rfl];refine go ?_
  refine cb (fun w st=>by obtain ⟨Fw, -,hw⟩:=(st.get (p:=.ow A9 161 (.slice y.1 (Sb base l n (ck+d)).length y.2.1) (Sb base l n (ck+d)) y.2.2) EO).2.read;exact (P9 (Sb base l n (ck+d)) base _ Fw).val w (I0 ⟨EN,hw⟩)) ?_;rw [Af0 hq hn h8 EM EM ho];exact BT
 ·rw [show Ag2 base l n (ck+d)=[] by unfold Ag2;rw [ho];rfl];refine go ?_;refine B4 A9 161 ?_;refine ret ⟨none,0,[]⟩ trivial rfl
theorem Asi (l:List Aw) (base n ck d:Int) (a:ai) (c:Nat) (F:ak) (hq:Lh l base=true) (hn:Cm n=true) (k0:0<=ck) (k1:ck<=9999) (d0:1<=d) (d1:d<=8) :
  Fn prog 224 [ab a l.length c,aa base,aa n,aa ck,aa d] [.sl A9 (ab a l.length c) l F] [] (fun (_:OwR)=>True) (fun s=>.slice s.a (Nz base l n (ck+d)).length s.c) (fun s=>[.ow A9 161 (.slice s.a (Nz base l n (ck+d)).length s.c) (Nz base l n (ck+d)) s.F]):=by
 have hle:=Rv base l n;obtain ⟨q1,q2,q3,q4⟩:=Dv.1 hq;obtain ⟨b0,b1⟩:=Bb.1 q1;obtain ⟨n0,n1⟩:=Bb.1 hn;have hbd:=Kc base n;refine enter func224 rfl ntmps224 fun w0=>?_;refine go ?_;refine Bw (Adp l base n a c F hq hn) fun _ _=>?_;cases ho:Km base l n
 rotate_left
 ·rw [show Nz base l n (ck+d)=l by unfold Nz;rw [ho];rfl];refine Ke ?_;intros;refine Dk A9 ?_;refine go ?_;apply wO;refine M0 Dg Ee fun a5 c5 F5=>?_;rw [bb];exact BT
 refine go ?_;refine ce (fun w s=>I1 _ _ _ EM EM) ?_;refine go ?_;refine Bf rfl (fun h4=>?_) (fun h4=>?_)
 ·rw [show Nz base l n (ck+d)=l by unfold Nz;rw [ho,ay (show ¬gp base n < 8 by omega)];rfl];refine Ke ?_;intros;refine Dk A9 ?_;refine go ?_;apply wO;refine M0 Dg Ee fun a5 c5 F5=>?_;rw [bb];exact BT
 rw [show Nz base l n (ck+d)=Sb base l n (ck+d) by unfold Nz;rw [ho,au (show gp base n < 8 by omega)];rfl];refine Th (E:=A9) (xs:=l) ?_;rintro _ _ e8 c0 c1;cases e8;refine Ant (E:=A9) (xs:=l) (D8 base l n) (fun FT=>?_) hle;obtain ⟨T1,hT1⟩:∃T1,T1=l.take (D8 base l n):=⟨_,rfl⟩;have hT1l:T1.length=D8 base l n:=by rw [hT1,aL];omega
 rw [<-hT1];have hAdd:T1++[(⟨n,1,ck+d,0⟩:Aw)]++l.drop (D8 base l n)=Sb base l n (ck+d):=by rw [hT1];unfold Sb Ast;simp
 refine go ?_;intros;refine As [0,1] [] ?_;refine Ek 1 2 ?_;refine dt 3 ?_ (hy:=Nv (i:=T1.length) rfl rfl (by rw [hT1l]) EM EM);refine Ek 5 8 ?_;refine dt 9 ?_;refine Ala 10 (D8 base l n) (fun a6 c6 F6=>?_);refine dM 0 6 ?_ ?_
 ·apply Lt;rfl;intro _;refine Dk A9 ?_;refine dk ?_;refine dM 4 6 ?_ ?_
  ·refine M0 (ys:=T1) Dg Ee fun a7 c7 F7=>?_;rw [bb];refine dk ?_;refine dN 6 ?_;apply In;rfl;rfl;rfl;rfl;exact Ik;exact Ie;intro _;exact AK
  ·apply In;rfl;rfl;rfl;rfl;exact Ik;exact Ie;intro _;refine dk ?_;refine dN 4 ?_;refine M0 (ys:=T1) Dg Ee fun a7 c7 F7=>?_;rw [bb];exact AK
 ·apply In;rfl;rfl;rfl;rfl;exact Ik;exact Ie;intro _;refine dk ?_;refine dN 0 ?_;apply Lt;rfl;intro _;refine Dk A9 ?_;refine dk ?_;refine dN 4 ?_;refine M0 (ys:=T1) Dg Ee fun a7 c7 F7=>?_;rw [bb];exact AK
theorem Zv (l:List Aw) (base n ck:Int) (a:ai) (c:Nat) (F:ak) (hq:Lh l base=true) (hn:Cm n=true) (k0:0<=ck) (k1:ck<=9999) :
  Fn prog 233 [ab a l.length c,aa base,aa n,aa ck] [.sl A9 (ab a l.length c) l F] [] (fun (_:OwR)=>True) (fun s=>.tuple #[.slice s.a (Ok base l n (ck+4)).length s.c,.bool true]) (fun s=>[.ow A9 161 (.slice s.a (Ok base l n (ck+4)).length s.c) (Ok base l n (ck+4)) s.F]):=by
 have hle:=Rv base l n;obtain ⟨q1,q2,q3,q4⟩:=Dv.1 hq;have hck:J9 ck=true:=by unfold J9 Ht;simp;omega
 refine enter func233 rfl ntmps233 fun w0=>?_;refine go ?_;refine Bw (P9 l base _ F) fun _ _=>?_;rw [hq];refine go ?_;refine ce (fun w s=>Jf _ _) ?_;rw [hn];refine go ?_;refine ce (fun w s=>Ro _ _) ?_;rw [hck];refine go ?_;refine Bw (Ss l a c F EM) fun z _=>?_;refine go ?_;refine cb (fun w st=>by obtain ⟨Fw, -,hw⟩:=(st.get (p:=.ow A9 161 (.slice z.1 (l).length z.2.1) (l) z.2.2) EO).2.read;exact (W0 l base n z.1 z.2.1 Fw hq hn).val w (I0 ⟨EN,hw⟩)) ?_;have hcl:=Afk base l n (ck+4);cases ho:Km base l n
 ·rw [Tq ho];exact BT
 ·have hlt:=Qm ho;refine go ?_;refine Adg (xs:=l) (D8 base l n) ?_ (hi:=hlt);rintro hi g A B ha hF hh;rw [ha];refine go ?_;refine Pf (⟨n,3,ck+4,l[D8 base l n].Ch⟩:Aw) hh (fun w=>?_) ?_
  ·rw [Ql hi] at ho;have e:l[D8 base l n].Ab=n:=by simpa using ho
   rw [e];exact ⟨rfl,rfl⟩
  exact EI
theorem Ahl (l:List Aw) (base n ck:Int) (a:ai) (c:Nat) (F:ak) (hq:Lh l base=true) (hn:Cm n=true) (k0:0<=ck) (k1:ck<=9999) :
  Fn prog 199 [ab a l.length c,aa base,aa n,aa ck] [.sl A9 (ab a l.length c) l F] [] (fun (_:OwR)=>True) (fun s=>.slice s.a (Ok base l n (ck+4)).length s.c) (fun s=>[.ow A9 161 (.slice s.a (Ok base l n (ck+4)).length s.c) (Ok base l n (ck+4)) s.F]):=by
 have hle:=Rv base l n;obtain ⟨q1,q2,q3,q4⟩:=Dv.1 hq;have hcl:=Afk base l n (ck+4);refine enter func199 rfl ntmps199 fun w0=>?_;refine Ke ?_;intros;refine Dk A9 ?_;refine go ?_;apply wO;refine M0 Dg Ee fun a5 c5 F5=>?_;rw [bb];refine go ?_;refine Bw (Adp l base n a c F hq hn) fun _ _=>?_;cases ho:Km base l n
 ·rw [Tq ho];exact BT
 ·have hlt:=Qm ho;refine go ?_;refine Iu (xs:=l) (D8 base l n) ?_;rintro hi b o e;rw [e];refine Adg (xs:=l) (a:=a5) (D8 base l n) ?_ (hi:=hlt);rintro hi g A B ha hF hh;rw [ha];refine go ?_;refine Pf (⟨n,3,ck+4,l[D8 base l n].Ch⟩:Aw) hh (fun w=>⟨rfl,rfl⟩) ?_;exact EI
structure SkS where
 a:ai
 c:Nat
 F:ak
 ae:ai
 ce:Nat
 Fe:ak
theorem Au7 (w:Ak) (st:Bool) (ck tr:Int) (q:Value) (g t o:Nat) (A B:aj) (a1:ai) (c1:Nat) (F1:ak) (hg:C7 w=true) (ht:Cm tr=true) :
  Fn prog 253 [Fv g o 0,aa tr] [] [.row g t o A [.bool st,aa ck,aa (w).next,.slice a1 (w).Am.length c1,q] B,.ow C5 190 (.slice a1 (w).Am.length c1) (w).Am F1] (fun (_:SkS)=>True)
   (fun s=>.slice s.ae (Np w tr).length s.ce) (fun s=>[.row g t o A [.bool st,aa ck,aa (Jt w tr).next,.slice s.a (Jt w tr).Am.length s.c,q] B,.ow C5 190 (.slice s.a (Jt w tr).Am.length s.c) (Jt w tr).Am s.F,.ow Bc 9 (.slice s.ae (Np w tr).length s.ce) (Np w tr) s.Fe]):=by
 obtain ⟨w0_,w1_⟩:=Gg hg;obtain ⟨t0_,t1_⟩:=Bb.1 ht;obtain ⟨hw8,hit⟩:=Kz hg;have hgb:=Kc w.next tr
 refine enter func253 rfl ntmps253 fun w0=>?_;refine go ?_;refine ce (fun w s=>M6 _ _ _ EM EM EM EM) ?_;cases hb:Qa w.next tr
 ·have e1:Jt w tr=w:=by unfold Jt;rw [hb];rfl
  have e2:Np w tr=[]:=by unfold Np;rw [hb];rfl
  rw [e1,e2];refine B4 Bc 9 ?_;exact DC
 refine go ?_;refine ce (fun w s=>Om _ _ _ EM EM EM EM) ?_;refine go ?_;refine Bf rfl (fun h4=>?_) (fun h4=>?_)
 ·have e1:Jt w tr=Gt w tr:=by unfold Jt;rw [hb,ar rfl,ar h4]
  have e2:Np w tr=Fm w tr:=by unfold Np;rw [hb,ar rfl,ar h4]
  rw [e1,e2];refine Ans [.bool st,aa ck] [aa w.next,ab a1 w.Am.length c1] [q] ?_;refine go ?_;refine Bw (Ain w tr g t (o+2) (A++[.bool st,aa ck]) _ a1 c1 F1 w0_ w1_ t0_ t1_ hw8 hit) fun y hy=>?_;obtain ⟨hy1,hy2⟩:=hy;refine Ael [.bool st,aa ck] [aa y.y.next,ab y.a y.y.Am.length y.c] [q] ?_;rw [show Gt w tr=y.y from hy1.symm,show Fm w tr=y.es from hy2.symm];exact DC
 ·have e1:Jt w tr=⟨tr,[]⟩:=by unfold Jt;rw [hb,ar rfl,aq h4]
  have e2:Np w tr=[⟨#[33]⟩]:=by unfold Np;rw [hb,ar rfl,aq h4]
  rw [e1,e2];refine B4 C5 190 ?_;refine Ke ?_;intros;refine Eo (xs:=[(⟨#[33]⟩:am)]) (Sz _ EN) ?_ EO;refine go ?_;refine ret ⟨none,0,[],_,_,_⟩ trivial rfl
structure AwS where
 i:Nat
 a:ai
 c:Nat
 F:ak
theorem Ara (x:Ak) (l:List Aw) (st:Bool) (ck Cy d:Int) (g t o:Nat) (A B:aj) (a1:ai) (c1:Nat) (F1:ak) (a2:ai) (c2:Nat) (F2:ak) (hg:C7 x=true) (hq:Lh l x.next=true) (hf:∀q∈l,Ho x q.Ab=false) (hl:Cm Cy=true) (k0:0<=ck) (k1:ck<=9999) (d0:1<=d) (d1:d<=8) :
  Fn prog 255 [Fv g o 0,aa Cy,aa d] [] [.row g t o A [.bool st,aa ck,aa (x).next,.slice a1 (x).Am.length c1,.slice a2 (l).length c2] B,.ow C5 190 (.slice a1 (x).Am.length c1) (x).Am F1,.ow A9 161 (.slice a2 (l).length c2) (l) F2] (fun (_:OwR)=>True)
   (fun _=>.tuple #[]) (fun s=>[.row g t o A [.bool st,aa ck,aa (x).next,.slice a1 (x).Am.length c1,.slice s.a (H8 x l Cy (ck+d)).length s.c] B,.ow C5 190 (.slice a1 (x).Am.length c1) (x).Am F1,.ow A9 161 (.slice s.a (H8 x l Cy (ck+d)).length s.c) (H8 x l Cy (ck+d)) s.F]):=by
 obtain ⟨w0_,w1_⟩:=Gg hg;obtain ⟨l0_,l1_⟩:=Bb.1 hl;have hgb:=Kc x.next Cy
 refine enter func255 rfl ntmps255 fun w0=>?_;refine go ?_;refine ce (fun w s=>M6 _ _ _ EM EM EM EM) ?_;cases hb:Qa x.next Cy
 ·have e1:H8 x l Cy (ck+d)=l:=by unfold H8;rw [hb];rfl
  rw [e1];exact BT
 obtain ⟨k,hk⟩:∃k,k=O1 x Cy:=⟨_,rfl⟩;have hk8:k<=8:=by rw [hk];exact Oi _ _
 have hkm:((k:Nat):Int)=min (gp x.next Cy) 8:=by rw [hk];unfold O1;omega
 obtain ⟨N,hN⟩:∃N,N=Ko x k:=⟨_,rfl⟩;have hNl:N.length<=8:=by have:=Aat x k;rw [hN];omega
 have e1:H8 x l Cy (ck+d)=Ii x.next (ck+d) l N:=by unfold H8;rw [hb,ar rfl,hN,hk]
 rw [e1];have Vi:=Is x.next (min (gp x.next Cy) 8)
 have hgp:gp x.next (A8 x.next (min (gp x.next Cy) 8))=(k:Nat):=by rw [<-hkm];unfold gp A8;omega
 refine go ?_;refine As [0] [] ?_;refine D7 0 1 2 3 ?_;refine D7 4 5 6 12 ?_;refine dN 7 ?_;refine oC ?_;refine ce (fun w s=>Om _ _ _ EM EM EM EM) ?_;refine dk ?_;refine dt 8 ?_;refine dN 9 ?_;refine oC ?_;refine ce (fun w s=>Q4 _ _ _ EM EM) ?_;refine dk ?_;refine dN 10 ?_;refine oC ?_;refine cfr (fun w st=>by obtain ⟨F9,hF9⟩:=Azh (st.get (p:=.ow C5 190 (.slice a1 (x).Am.length c1) (x).Am F1) EO);exact ⟨_,I0 hF9,rfl,Aio x _ k _ F9 w0_ w1_ EM EM hgp⟩) (fun m _=>?_);refine dk ?_;refine dt 11 ?_;refine dd ?_;rw [<-hN]
 refine Az (E:=Bi) (xs:=N) fun GN=>?_;refine go ?_;refine Cu [0,2,6,30,31] (fun s:AwS=>[(32,aa (s.i:Nat))]) (fun s=>[.row g t o A [.bool st,aa ck,aa (x).next,.slice a1 (x).Am.length c1,.slice s.a (Ii x.next (ck+d) l (N.take s.i)).length s.c] B,.ow A9 161 (.slice s.a (Ii x.next (ck+d) l (N.take s.i)).length s.c) (Ii x.next (ck+d) l (N.take s.i)) s.F]) (fun s=>s.i<=N.length) (fun s=>N.length - s.i) ⟨0,a2,c2,F2⟩ (aD _) fun s hs=>?_;obtain ⟨i,a3,c3,F3⟩:=s;dsimp only at hs ⊢;have hall:=Qk (w:=x) (u:=ck+d) EM EM (N.take i) l (fun n hn=>by
  have:=N4 (w:=x) (n:=n) hk8 (by rw [<-hN];exact bg hn);exact ⟨this.1,this.2.2⟩) hq hf
 have hLs:∀h:i < N.length,Ii x.next (ck+d) l (N.take (i+1))=Nz x.next (Ii x.next (ck+d) l (N.take i)) N[i] (ck+d):=fun h=>Abe h
 generalize hLd:Ii x.next (ck+d) l (N.take i)=L at *
 have hLq:=hall.1;have hL8:=(Dv.1 hLq).2.1;refine go ?_;refine Bf rfl (fun h4=>?_) (fun h4=>?_)
 ·have hi:i < N.length:=EM
  have hni:=N4 (w:=x) (n:=N[i]) hk8 (by rw [<-hN];exact aE hi);refine Jg (xs:=N) i ?_;rintro hi2 b o2 e;rw [e];refine go ?_;refine As [1] [] ?_;refine D7 0 1 2 3 ?_;refine D7 4 5 6 7 ?_;refine Ek 8 9 ?_;refine dt 10 ?_;refine dN 11 ?_;refine oC ?_;refine cfr (fun w st=>by obtain ⟨Fq, -,hq9⟩:=(st.get (p:=.ow A9 161 (.slice a3 (L).length c3) (L) F3) EO).2.read;exact ⟨[.sl A9 (ab a3 L.length c3) L Fq],I0 ⟨EN,hq9⟩,rfl,Agw L x.next N[i] ck d a3 c3 Fq hLq hni.1 hni.2.1 k0 k1 d0 d1⟩) (fun u _=>?_);refine dk ?_;refine D7 12 13 14 15 ?_;refine dt 16 ?_;refine dd ?_
  refine go ?_;cases ho:Km x.next L N[i]
  ·have eA:Ii x.next (ck+d) l (N.take (i+1))=Ag2 x.next L N[i] (ck+d):=by rw [hLs hi];unfold Nz Ag2;rw [ho,au hni.2.1];rfl
   refine go ?_;rw [<-eA];exact CB
  ·have eA:Ii x.next (ck+d) l (N.take (i+1))=L:=by rw [hLs hi];unfold Nz;rw [ho];rfl
   refine go ?_;rw [<-eA];exact CB
 have hi:i=N.length:=EM
 subst hi;rw [bG] at hLd;rw [hLd];refine go ?_;refine Va ?_;refine ret (⟨_,_,_⟩:OwR) trivial rfl
theorem Vg (p:Ar) (hs:p.data.size<=maxLen):FV 168 [.agg #[aa p.Bd,aa p.Ab,aa p.Al,aa p.Cy,af p.data]] [] (.bool (Bh p)):=by
 refine enter func168 rfl ntmps168 fun w0=>?_;refine go ?_;intros;refine ce (fun w s=>Jc _ _ _ _) ?_;cases g1:Ht 1 p.Bd 5
 ·refine go ?_;refine ret () trivial ?_;show Value.bool _=Value.bool _;congr 1;unfold Bh;simp [g1]
 refine go ?_;refine ce (fun w s=>Jf _ _) ?_;cases g2:Cm p.Ab
 ·refine go ?_;refine ret () trivial ?_;show Value.bool _=Value.bool _;congr 1;unfold Bh;simp [g2]
 refine go ?_;refine ce (fun w s=>Jf _ _) ?_;cases g3:Cm p.Al
 ·refine go ?_;refine ret () trivial ?_;show Value.bool _=Value.bool _;congr 1;unfold Bh;simp [g3]
 refine go ?_;refine ce (fun w s=>Jf _ _) ?_;cases g4:Cm p.Cy
 ·refine go ?_;refine ret () trivial ?_;show Value.bool _=Value.bool _;congr 1;unfold Bh;simp [g4]
 refine go ?_;refine cb (fun w s=>Za _ _ hs) ?_;cases g5:Qd p.data
 ·refine go ?_;refine ret () trivial ?_;show Value.bool _=Value.bool _;congr 1;unfold Bh;simp [g5]
 obtain ⟨t0,t1⟩:=Bb.1 g3;obtain ⟨l0,l1⟩:=Bb.1 g4;refine go ?_;refine ce (fun w s=>Om _ _ _ EM EM EM EM) ?_;refine go ?_;refine Dm rfl rfl (fun h6=>?_) (fun h6=>?_)
 ·refine go ?_;refine Dm rfl rfl (fun h7=>?_) (fun h7=>?_)
  ·exact EG
  refine go ?_;refine Dm rfl rfl (fun h8=>?_) (fun h8=>?_)
  ·exact EE
  ·exact DR
 ·refine go ?_;refine ret () trivial ?_;show Value.bool _=Value.bool _;congr 1;unfold Bh;simp [h6]
theorem Ajk (p:Ar) (hs:p.data.size<=maxLen):FV 194 [.agg #[aa p.Bd,aa p.Ab,aa p.Al,aa p.Cy,af p.data]] [] (.bool (Bh p)):=by
 refine enter func194 rfl ntmps194 fun w0=>?_;refine go ?_;intros;refine ce (fun w s=>Mf _ _ _ _) ?_;cases g1:Ht 1 p.Bd 5
 ·refine go ?_;refine ret () trivial ?_;show Value.bool _=Value.bool _;congr 1;unfold Bh;simp [g1]
 refine go ?_;refine ce (fun w s=>N3 _ _) ?_;cases g2:Cm p.Ab
 ·refine go ?_;refine ret () trivial ?_;show Value.bool _=Value.bool _;congr 1;unfold Bh;simp [g2]
 refine go ?_;refine ce (fun w s=>N3 _ _) ?_;cases g3:Cm p.Al
 ·refine go ?_;refine ret () trivial ?_;show Value.bool _=Value.bool _;congr 1;unfold Bh;simp [g3]
 refine go ?_;refine ce (fun w s=>N3 _ _) ?_;cases g4:Cm p.Cy
 ·refine go ?_;refine ret () trivial ?_;show Value.bool _=Value.bool _;congr 1;unfold Bh;simp [g4]
 obtain ⟨t0,t1⟩:=Bb.1 g3;obtain ⟨l0,l1⟩:=Bb.1 g4;refine go ?_;refine ce (fun w s=>I1 _ _ _ EM EM) ?_;refine go ?_;refine Dm rfl rfl (fun h6=>?_) (fun h6=>?_)
 ·refine go ?_;refine ret () trivial ?_;have h6:¬gp p.Al p.Cy<=32767:=EM
  show Value.bool _=Value.bool _;congr 1;unfold Bh;simp [h6]
 have h6:gp p.Al p.Cy<=32767:=EM
 refine go ?_;refine ce (fun w s=>Sy _ _ _ hs) ?_;rw [show (decide ((p.data.size:Int)<=8) && Uz p.data.data.toList)=Qd p.data from rfl];cases g5:Qd p.data
 ·refine go ?_;refine ret () trivial ?_;show Value.bool _=Value.bool _;congr 1;unfold Bh;simp [g5]
 refine go ?_;refine Dm rfl rfl (fun h7=>?_) (fun h7=>?_)
 ·exact EG
 refine go ?_;refine Dm rfl rfl (fun h8=>?_) (fun h8=>?_)
 ·exact EE
 ·exact DR
end Go.Proofs.YtmckdnddocfodaaGreatDoor
