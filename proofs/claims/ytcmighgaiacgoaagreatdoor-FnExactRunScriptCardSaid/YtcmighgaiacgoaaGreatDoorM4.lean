/- Part 4 of the proof: 50 texts, one behind the other. -/
import Derived.BigQuiet
import Derived.Deep.RegionLaw
import Derived.Test.YtcmighgaiacgoaaGreatDoorShelf
import Derived.Lib.RowBridge
import Derived.Test.YtcmighgaiacgoaaGreatDoorM3
open _root_.Go.Proofs.Tryz
set_option maxRecDepth 100000
set_option maxHeartbeats 8000000
set_option linter.all false
set_option linter.unusedVariables false
set_option linter.unusedSimpArgs false
namespace Go.Proofs.YtcmighgaiacgoaaGreatDoor
theorem AC{p:Prop}(h:p:=by refine dk ?_;refine dN 7 ?_;refine Ps (Q3 n) C8 (fun a3 c3 F3=>?_) (h63:=by exact Lk) (hby:=by exact Lk);refine dk ?_;refine dN 11 ?_;refine Pf C8 D5 (fun a4 c4 F4=>?_) (h63:=by exact Lk) (hby:=by exact Lk);refine dk ?_;refine dt 12 ?_;refine dd ?_;rw [e];refine go ?_;refine ret ⟨_,_,_⟩ trivial rfl):p:=h
theorem AJ{p:Prop}(h:p:=by refine dk ?_;refine dN 7 ?_;refine Ps (Tk ⟨n,1,ck+d,0⟩) C0 fun a8 c8 F8=>?_;refine dk ?_;refine dN 11 ?_;refine Pf (ys:=l.drop (Em base l n)) C0 Dl (h63:=by simp;omega) (hby:=by simp;omega) fun a9 c9 F9=>?_;refine dk ?_;refine dt 12 ?_;refine dd ?_;rw [hAdd];refine go ?_;refine ret ⟨_,_,_⟩ trivial rfl):p:=h
theorem AK{p:Prop}(h:p:=by refine dk ?_;refine dt 5 ?_;refine dd ?_;refine go ?_;refine Le (xs:=[S0 x.Aa]) (Dc _ (by show (⟨#[]⟩:ByteArray).size≤maxLen;decide)) ?_ (by simp);refine ret ⟨_,_,_,_,_,_,_,_⟩ trivial rfl):p:=h
theorem AZ{p:Prop}(h:p:=by refine ret ⟨_,_,_⟩ trivial rfl):p:=h
theorem BC{p:Prop}(h:p:=by refine dk ?_;refine dN 4 ?_;refine Pf C8 D5 (fun a2 c2 F2=>?_) (hn:=by rw [List.length_take];omega) (h63:=by exact Lk) (hby:=by exact Lk);exact AC):p:=h
theorem BD{p:Prop}(h:p:=by refine ret () trivial rfl):p:=h
theorem BF{p:Prop}(h:p:=by rw [show Ou x=⟨x.Aa,x.Ai+1,x.quiet+1,Jw x.Aa (x.Ai+1) x.holds⟩ from by unfold Ou Xx;rw [if_pos (by omega)],show Oa x.Aa x.quiet=[] from if_pos (by omega)];refine go ?_;intros;refine C7 Ak ?_;refine A4 (E:=Bm) fun F9=>?_;refine Hf ⟨x.Aa,x.Ai+1,x.quiet+1,Jw x.Aa (x.Ai+1) x.holds⟩ (a1:=a5) ?_;refine ret ⟨_,_,_,_,_,_,_,_⟩ trivial rfl):p:=h
theorem BH{p:Prop}(h:p:=by refine go ?_;refine Ca (Amo r p d g t o A B a1 c1 F1 a2 c2 F2 hg hp d0 d1) fun s _=>?_;refine go ?_;refine ret ⟨s.a1,s.c1,s.F1,s.a2,s.c2,s.F2,s.ae,s.ce,s.Fe⟩ trivial rfl):p:=h
theorem BS{p:Prop}(h:p:=by refine dk ?_;refine dN 8 ?_;refine oC ?_;refine Ca (Uy r.Aa (Dh (C5 r)) _ FW w0_ w1_ hs0 hs1 hw8 hit) fun y hy=>?_;refine dk ?_;refine Ec 9 10 ?_;refine dt 11 ?_;refine dN 13 ?_;refine oS ?_;refine dk ?_;refine dt 14 ?_;refine dd ?_;refine Br (⟨_,y⟩:GvS) hy):p:=h
theorem BX{p:Prop}(h:p:=by refine dk ?_;refine dN 11 ?_;refine Pf (E:=A8) (xs:=[]) (ys:=x.An.drop k) Dx Gz fun a7 c7 F7=>?_;rw [List.nil_append];refine dk ?_;refine dt 12 ?_;refine dN 13 ?_;refine oS ?_;refine dk ?_;refine dd ?_;refine go ?_;refine ret ⟨a7,c7,F7⟩ trivial rfl):p:=h
theorem CG{p:Prop}(h:p:=by refine Cg (⟨k+1,_,_,_⟩:PkS) (by show k+1≤l.length;omega) (by show l.length - (k+1) < l.length - k;omega)):p:=h
theorem CH{p:Prop}(h:p:=by refine Cg (⟨i+1,_,_,_⟩:AwS) (by show i+1≤N.length;omega) (by show N.length - (i+1) < N.length - i;omega)):p:=h
theorem CM{p:Prop}(h:p:=by refine go ?_;refine Br () trivial):p:=h
theorem CQ{p:Prop}(h:p:=by refine dk ?_;refine dN 7 ?_;refine Pf Iq H5 fun a5 c5 F5=>?_;rw [List.nil_append];refine dk ?_;refine dt 8 ?_;refine dN 10 ?_;refine oS ?_;refine dk ?_;refine dd ?_;refine Br (⟨_,_,_,_⟩:Bds) trivial):p:=h
theorem CS{p:Prop}(h:p:=by refine Pf C8 D5 (fun a2 c2 F2=>?_) (hn:=by rw [List.length_take];omega) (h63:=by exact Lk) (hby:=by exact Lk);refine dk ?_;refine dN 6 ?_;apply Lr;rfl;rfl;rfl;rfl;exact Ll;exact Kv;intro _;exact AC):p:=h
theorem DD{p:Prop}(h:p:=by refine go ?_;refine Xg ?_;refine Cg (hH:=Lt _) (q+1,j) ⟨by show q+1≤j;omega,h2,fun k hk h=>hm k q (by have:k < q+1:=hk;omega) hh h6,h4⟩ (by show j - (q+1) < j - i;omega)):p:=h
theorem DE{p:Prop}(h:p:=by rintro hi b o e;rw [e];refine go ?_;apply wO;refine Agn rfl rfl hb X0 ?_;refine cb (fun w st=>hp xs[i] (List.getElem_mem hh) w (fun p hp=>st.on p (by simp [hp]))) ?_;exact AA):p:=h
theorem DF{p:Prop}(h:p:=by refine go ?_;refine Xg ?_;refine Cg (hH:=Lt _) (i,q) ⟨by show i≤q;omega,by show q≤xs.length;omega,h3,fun k hk h hn=>h6 (hm q k hk h hn)⟩ (by show q - i < j - i;omega)):p:=h
theorem DI{p:Prop}(h:p:=by refine go ?_;refine ret () trivial ?_;show Value.bool _=Value.bool _;congr 1;unfold Bt;rw [g1,g2,g3,g4,g5,decide_eq_true h6,decide_eq_false h7,decide_eq_false h8];rfl):p:=h
theorem DS{p:Prop}(h:p:=by refine go ?_;refine ret () trivial ?_;show Value.bool _=Value.bool _;congr 1;unfold Bt;rw [g1,g2,g3,g4,g5,decide_eq_true h6,decide_eq_true h8];simp):p:=h
theorem DU{p:Prop}(h:p:=by refine go ?_;refine ret () trivial ?_;show Value.bool _=Value.bool _;congr 1;unfold Bt;rw [g1,g2,g3,g4,g5,decide_eq_true h6,decide_eq_true h7];rfl):p:=h
theorem DW{p:Prop}(h:p:=by refine go ?_;refine ret ⟨_,_,_,_,_,_⟩ trivial rfl):p:=h
theorem ED{p:Prop}(h:p:=by refine go ?_;exact AZ):p:=h
theorem EN{p:Prop}(h:p:=by refine ret ⟨_,_,_,_,_⟩ trivial rfl):p:=h
theorem EZ{p:Prop}(h:p:=by apply Lr;rfl;rfl;rfl;rfl;exact Ll;exact Kv;intro _;refine dk ?_;refine dN 0 ?_;apply Mp;rfl;intro _;refine C7 Bb ?_;exact BC):p:=h
theorem FG{p:Prop}(h:p:=by refine Og ?_;intros;refine C7 Av ?_;refine go ?_;apply wO;refine Pf C0 Dl fun a5 c5 F5=>?_;rw [List.nil_append];exact ED):p:=h
theorem FP{p:Prop}(h:p:=by simp only [List.length_append,List.length_cons,List.length_nil];omega):p:=h
theorem GM{p:Prop}(h:p:=by simp [List.append_assoc]):p:=h
theorem HA{p:Prop}(h:p:=by intro e;have:=congrArg List.length e;simp only [List.length_append,List.length_nil] at this;omega):p:=h
theorem HD{p:Prop}(h:p:=by simp only [List.length_append];omega):p:=h
theorem HJ{p:Prop}(h:p:=by show l.length - (k+1) < l.length - k;omega):p:=h
theorem HP{p:Prop}(h:p:=by rw [hBl];congr 1;show _=min (xs.length+1 - i) (xs.length+1 - (i+1));omega):p:=h
theorem HR{p:Prop}(h:p:=by rw [Nat.zero_add,List.append_assoc,List.drop_left' hAl,List.take_left' hBl]):p:=h
theorem HT{p:Prop}(h:p:=by rw [hBl];congr 1;show _=min (xs.length - i) (xs.length+1 - (i+1));omega):p:=h
theorem HV{p:Prop}(h:p:=by rw [List.length_drop];omega):p:=h
theorem ID{p:Prop}(h:p:=by show (⟨#[]⟩:ByteArray).size≤maxLen;decide):p:=h
theorem IE{p:Prop}(h:p:=by rw [List.append_assoc A B rest,hXY];simp [List.append_assoc]):p:=h
theorem IL{p:Prop}(h:p:=by intro u hu;simp at hu;rcases hu with rfl|rfl|rfl|rfl <;> rfl):p:=h
theorem IQ{p:Prop}(h:p:=by rw [List.drop_zero,List.append_assoc,List.take_left' hAl]):p:=h
theorem IY{p:Prop}(h:p:=by rw [hcs];simp [hu]):p:=h
theorem KR{p:Prop}(h:p:=by show hs.length - (k+1) < _;omega):p:=h
theorem KX{p:Prop}(h:p:=by simpa [fp,Pc.F,Pc.mu] using hb):p:=h
theorem LN{p:Prop}(h:p:=by rw [hB,List.length_drop];omega):p:=h
theorem LO{p:Prop}(h:p:=by rw [hA,List.length_take];omega):p:=h
end Go.Proofs.YtcmighgaiacgoaaGreatDoor
namespace Go.Proofs.YtcmighgaiacgoaaGreatDoor
open Go.RowKit
theorem Bgg {t a b:Int} (ha:B8 a=true) (hb:B8 b=true) (h:gp t a=gp t b):a=b:=by
 obtain ⟨a0,a1⟩:=Bc.1 ha;obtain ⟨b0,b1⟩:=Bc.1 hb;unfold gp at h;omega
def Em (base:Int) (l:List Ax) (n:Int):Nat:=(l.takeWhile fun r=>decide (gp base r.Ae < gp base n)).length
def Nm (base:Int) (l:List Ax) (n:Int):Bool:=match l[Em base l n]? with|some r=>decide (r.Ae=n)|none=>false
def Bjd (n u:Int):Ax:=⟨n,1,u,0⟩
def X3 (base:Int) (l:List Ax) (n u:Int):List Ax:=l.take (Em base l n)++Bjd n u::l.drop (Em base l n)
def Vi (base:Int) (l:List Ax) (n u:Int):List Ax:=if Nm base l n || !decide (gp base n < 8) then l else X3 base l n u
def Sc (base:Int) (l:List Ax) (n u:Int):List Ax:=match l[Em base l n]? with|some r=>if r.Ae=n then l.set (Em base l n) ⟨n,3,u,r.D6⟩ else l|none=>l
theorem T6 (base:Int) (l:List Ax) (n:Int):Em base l n≤l.length:=Rz.1
theorem Vj {base:Int} {l:List Ax} {n:Int} (h:Em base l n < l.length):Nm base l n=decide (l[Em base l n].Ae=n):=by unfold Nm;rw [List.getElem?_eq_getElem h]
theorem Akn {base:Int} {l:List Ax} {n:Int} (h:¬Em base l n < l.length):Nm base l n=false:=by unfold Nm;rw [List.getElem?_eq_none FH]
theorem Vk {base:Int} {l:List Ax} {n:Int} (h:Nm base l n=true):Em base l n < l.length:=by
 by_cases h2:Em base l n < l.length
 ·exact h2
 ·rw [Akn h2] at h;cases h
theorem Yc {base:Int} {l:List Ax} {n u:Int} (h:Nm base l n=false):Sc base l n u=l:=by
 unfold Sc;unfold Nm at h;cases hq:l[Em base l n]? with
 | none=>rfl
 | some r=>rw [hq] at h;dsimp only at h ⊢;rw [if_neg GA]
theorem Vn {base:Int} {l:List Ax} {n u:Int} (h:Nm base l n=true):Sc base l n u=l.set (Em base l n) ⟨n,3,u,(l[Em base l n]'(Vk h)).D6⟩:=by
 have h2:=Vk h;rw [Vj h2] at h;unfold Sc;rw [List.getElem?_eq_getElem h2];dsimp only;rw [if_pos GA]
theorem Aku (base:Int) (l:List Ax) (n u:Int):(Sc base l n u).length=l.length:=by
 cases h:Nm base l n
 ·rw [Yc h]
 ·rw [Vn h,List.length_set]
theorem Bgz {base n:Int} {l:List Ax} (hq:Ms l base=true) (hn:B8 n=true) (h:Nm base l n=false):∀r∈l,gp base r.Ae≠gp base n:=by
 obtain ⟨-, -,h3,h4⟩:=De.1 hq;obtain ⟨t1,t2,t3⟩:=Rz (p:=fun r:Ax=>decide (gp base r.Ae < gp base n)) (xs:=l);intro r hr e;obtain ⟨i,hi,rfl⟩:=List.getElem_of_mem hr;have e2:=Bgg (Er.1 (h3 _ hr)).n hn e;have hk:Em base l n=i:=Y5 FH (fun j hj h=>by
  have:=List.pairwise_iff_getElem.1 h4 j i h hi hj;simp only [decide_eq_true_eq];omega) (fun h=>by simp only [decide_eq_false_iff_not];omega)
 rw [Vj FH] at h;simp only [hk] at h;simp [e2] at h
theorem Bhq {base:Int} {l:List Ax} (hp:l.Pairwise fun a b=>gp base a.Ae < gp base b.Ae) (h8:∀q∈l,gp base q.Ae < 8):l.length≤8:=by
 have key:∀i (h:i < l.length),(i:Int)≤gp base l[i].Ae:=by
  intro i
  induction i with
  | zero=>intro h;exact (Ly _ _).1
  | succ i ih =>
   intro h;have a:=ih FH;have b:=List.pairwise_iff_getElem.1 hp i (i+1) FH h FH;omega
 by_cases h:l.length≤8
 ·exact h
 ·have a:=key 8 FH;have b:=h8 _ (List.getElem_mem (show 8 < l.length by omega));omega
theorem Bao (base:Int) (l:List Ax) (n u:Int):(X3 base l n u).length=l.length+1:=by
 have:=T6 base l n;unfold X3;rw [List.length_append,List.length_cons,List.length_take,List.length_drop];omega
theorem Ald {base n u:Int} {l:List Ax} (hq:Ms l base=true) (hn:B8 n=true) (h8:gp base n < 8) (u0:0≤u) (u1:u≤10007) (h:Nm base l n=false):Ms (X3 base l n u) base=true:=by
 have hne:=Bgz hq hn h;obtain ⟨h1,h2,h3,h4⟩:=De.1 hq;obtain ⟨t1,t2,t3⟩:=Rz (p:=fun r:Ax=>decide (gp base r.Ae < gp base n)) (xs:=l);have hle:=T6 base l n;have hok:∀r∈X3 base l n u,Np base r=true:=by
  intro r hr;unfold X3 at hr;rcases List.mem_append.1 hr with h|h
  ·exact h3 r (List.mem_of_mem_take h)
  ·rcases List.mem_cons.1 h with rfl|h
   ·exact Er.2 ⟨hn,h8,by show (1:Int)≤1;decide,by show (1:Int)≤3;decide,u0,u1,by show (0:Int)≤0;decide,by show (0:Int)≤3;decide⟩
   ·exact h3 r (List.mem_of_mem_drop h)
 have hpw:(X3 base l n u).Pairwise fun a b=>gp base a.Ae < gp base b.Ae:=by
  unfold X3;rw [List.pairwise_append];refine ⟨h4.sublist (List.take_sublist _ _),?_,?_⟩
  ·rw [List.pairwise_cons];refine ⟨fun b hb=>?_,h4.sublist (List.drop_sublist _ _)⟩;obtain ⟨j,hj,rfl⟩:=List.getElem_of_mem hb;rw [List.getElem_drop];rw [List.length_drop] at hj;have hk:Em base l n < l.length:=FH
   have h0:=t3 hk;simp only [decide_eq_false_iff_not,Int.not_lt] at h0;have h00:gp base n≤gp base (l[Em base l n]'hk).Ae:=h0;have hd:=hne _ (List.getElem_mem hk);show gp base n < _;rcases Nat.eq_zero_or_pos j with e|e
   ·subst e;simp only [Nat.add_zero];omega
   ·have h5:=List.pairwise_iff_getElem.1 h4 (Em base l n) (Em base l n+j) hk FH FH;omega
  ·intro a ha b hb;obtain ⟨i,hi,rfl⟩:=List.getElem_of_mem ha;rw [List.length_take] at hi;rw [List.getElem_take];have ha2:=t2 i (by show i < Em base l n;omega) FH;simp only [decide_eq_true_eq] at ha2;rcases List.mem_cons.1 hb with rfl|hb
   ·exact ha2
   ·obtain ⟨j,hj,rfl⟩:=List.getElem_of_mem hb;rw [List.getElem_drop];rw [List.length_drop] at hj;exact List.pairwise_iff_getElem.1 h4 i (Em base l n+j) FH FH FH
 exact De.2 ⟨h1,Bhq hpw fun q hq=>(Er.1 (hok q hq)).g,hok,hpw⟩
theorem Avy {base n u:Int} {l:List Ax} (hq:Ms l base=true) (hn:B8 n=true) (u0:0≤u) (u1:u≤10007):Ms (Vi base l n u) base=true:=by
 unfold Vi
 split
 ·exact hq
 ·rename_i h;simp only [Bool.or_eq_true,Bool.not_eq_true',not_or,Bool.not_eq_false,Bool.not_eq_true,decide_eq_true_eq] at h;exact Ald hq hn h.2 u0 u1 h.1
theorem Bbc {base n u:Int} {l:List Ax} {q:Ax} (h:q∈Vi base l n u):q∈l∨q.Ae=n:=by
 unfold Vi X3 at h
 split at h
 ·exact .inl h
 ·rcases List.mem_append.1 h with h|h
  ·exact .inl (List.mem_of_mem_take h)
  ·rcases List.mem_cons.1 h with rfl|h
   ·exact .inr rfl
   ·exact .inl (List.mem_of_mem_drop h)
theorem Asa {base n u:Int} {l:List Ax} (hq:Ms l base=true) (u0:0≤u) (u1:u≤10007):Ms (Sc base l n u) base=true:=by
 cases h:Nm base l n
 ·rw [Yc h];exact hq
 obtain ⟨h1,h2,h3,h4⟩:=De.1 hq;have hk:=Vk h;have hn:l[Em base l n].Ae=n:=by rw [Vj hk] at h;simpa using h
 have ho:=Er.1 (h3 _ (List.getElem_mem hk));rw [Vn h];have hnum:∀i (h:i < (l.set (Em base l n) ⟨n,3,u,l[Em base l n].D6⟩).length),(l.set (Em base l n) ⟨n,3,u,l[Em base l n].D6⟩)[i].Ae=(l[i]'GA).Ae:=fun i h=>by
  rw [List.getElem_set]
  split
  ·rename_i e;subst e;exact hn.symm
  ·rfl
 refine De.2 ⟨h1,IH,fun r hr=>?_,?_⟩
 ·have gn:=ho.n;have gg:=ho.g;rw [hn] at gn gg;rcases List.mem_or_eq_of_mem_set hr with h|rfl
  ·exact h3 r h
  ·exact Er.2 ⟨gn,gg,by show (1:Int)≤3;decide,by show (3:Int)≤3;decide,u0,u1,ho.t0,ho.t1⟩
 ·refine List.pairwise_iff_getElem.2 fun i j hi hj hij=>?_;rw [hnum i hi,hnum j hj];exact List.pairwise_iff_getElem.1 h4 i j _ _ hij
theorem Axs {base n u:Int} {l:List Ax} {q:Ax} (h:q∈Sc base l n u):∃r∈l,r.Ae=q.Ae:=by
 cases h2:Nm base l n
 ·rw [Yc h2] at h;exact ⟨q,h,rfl⟩
 have hk:=Vk h2;have hn:l[Em base l n].Ae=n:=by rw [Vj hk] at h2;simpa using h2
 rw [Vn h2] at h;rcases List.mem_or_eq_of_mem_set h with h|rfl
 ·exact ⟨q,h,rfl⟩
 ·exact ⟨_,List.getElem_mem hk,hn⟩
def Eb (r:Ay) (p:Ar):Aj:=if r.Bd then r.Aa else ⟨if p.Cp=5 then p.Fg else p.Ae,r.Aa.Al⟩
def Gf (r:Ay) (p:Ar):Aj:=if p.Cp=5 then Eb r p else Mq (Eb r p) p.Ae p.data
def Lf (r:Ay) (p:Ar):List ByteArray:=if p.Cp=5 then [] else Mf (Eb r p) p.Ae p.data
def Pa (w:Aj) (t:Int):Aj:=if Up w.next t then (if gp w.next t≤8 then Jh w t else ⟨t,[]⟩) else w
def Po (w:Aj) (t:Int):List ByteArray:=if Up w.next t then (if gp w.next t≤8 then Jg w t else [⟨#[33]⟩]) else []
def Cq (r:Ay) (p:Ar):Aj:=Pa (Gf r p) p.Ap
def M7 (r:Ay) (p:Ar):List ByteArray:=Lf r p++Po (Gf r p) p.Ap
def Lp (base u:Int) (l:List Ax) (ns:List Int):List Ax:=ns.foldl (fun l n=>Vi base l n u) l
def Aas (w:Aj) (Fg:Int):Nat:=(min (gp w.next Fg) 8).toNat
def Qg (w:Aj) (l:List Ax) (Fg u:Int):List Ax:=if Up w.next Fg then Lp w.next u l (O8 w (Aas w Fg)) else l
def Lo (r:Ay) (p:Ar) (d:Int):Ay:=⟨true,r.Ai,Cq r p,Qg (Cq r p) (Ei r.Am (Cq r p)) p.Fg (r.Ai+d)⟩
def Mj (p:Ar):Bool:=decide (p.Cp=1) || decide (p.Cp=2) || decide (p.Cp=5)
def Ao2 (r:Ay) (p:Ar):Ay:=⟨r.Bd,r.Ai,r.Aa,Sc r.Aa.next r.Am p.Ae (r.Ai+4)⟩
def Di (r:Ay) (p:Ar) (d:Int):Ay:=if Mj p then Lo r p d else if decide (p.Cp=4) && r.Bd then Ao2 r p else r
def Io (r:Ay) (p:Ar):List ByteArray:=if Mj p then M7 r p else []
theorem Ayq {w:Aj} {n:Int} {s:ByteArray} (hg:Cu w=true) (hn:B8 n=true) (hs:Rs s=true):Cu (Mq w n s)=true∧(∃m:Nat,m≤8∧(Mq w n s).next=Cf w.next m)∧(Mf w n s).length≤8:=by
 obtain ⟨w0,w1⟩:=Ip hg;cases ht:N2 w n
 ·have e:(Hj w n || !decide (gp w.next n < 8))=true:=by unfold N2 at ht;simp only [Bool.or_eq_false_iff] at ht;rw [ht.1,ht.2];rfl
  have e1:Mq w n s=w:=by unfold Mq;rw [if_pos e]
  have e2:Mf w n s=[]:=by unfold Mf;rw [if_pos e]
  rw [e1,e2];exact ⟨hg,⟨0,FH,(Tq w0 w1).symm⟩,FI⟩
 ·have hok:W9 w n s=true:=by unfold W9;rw [hg,hn,hs,ht];rfl
  have h:=Ba5 w n s (by unfold Jy;rw [hok];rfl);rw [show Jy w n s=(Mq w n s,Mf w n s,true) by unfold Jy;rw [hok];rfl] at h;obtain ⟨-, -,h3,h4, -, -,h7, -⟩:=h;dsimp only at h3 h4 h7;refine ⟨h3,⟨_,h7,?_⟩,h7⟩;obtain ⟨v0,v1⟩:=Ip h3;rw [←h4];unfold Cf gp at *;omega
theorem Rm {r:Ay} {p:Ar} (hg:Mn r) (hp:Bt p=true):Cu (Eb r p)=true∧(r.Bd=true→Eb r p=r.Aa):=by
 unfold Eb;unfold Bt at hp;simp only [Bool.and_eq_true] at hp;cases hs:r.Bd
 ·refine ⟨?_,fun h=>by cases h⟩;rw [(hg.z hs).1];simp only [Bool.false_eq_true,if_false];unfold Cu
  split
  ·rw [hp.1.1.1.2];rfl
  ·rw [hp.1.1.1.1.1.2];rfl
 ·exact ⟨hg.w,fun _=>rfl⟩
theorem Un {r:Ay} {p:Ar} (hg:Mn r) (hp:Bt p=true):Cu (Gf r p)=true∧(∃m:Nat,m≤8∧(Gf r p).next=Cf (Eb r p).next m)∧(Lf r p).length≤8:=by
 have h1:=(Rm hg hp).1;obtain ⟨w0,w1⟩:=Ip h1;unfold Gf Lf
 split
 ·exact ⟨h1,⟨0,FH,(Tq w0 w1).symm⟩,FI⟩
 ·unfold Bt at hp;simp only [Bool.and_eq_true] at hp;exact Ayq h1 hp.1.1.1.1.1.2 hp.1.1.2
theorem Ayg {w:Aj} {t:Int} (hg:Cu w=true) (ht:B8 t=true):Cu (Pa w t)=true∧(∃m:Nat,m≤32767∧(Pa w t).next=Cf w.next m)∧(Po w t).length≤16:=by
 obtain ⟨w0,w1⟩:=Ip hg;obtain ⟨t0,t1⟩:=Bc.1 ht;unfold Pa Po;cases hb:Up w.next t
 ·exact ⟨hg,⟨0,FH,(Tq w0 w1).symm⟩,FI⟩
 ·simp only [if_true]
  split
  ·obtain ⟨e1,e2,e3,e4⟩:=Vz (t:=t) hg;have:=@Zs w.next t
   exact ⟨Ae3 _ _ hg,⟨_,FH,e1⟩,FH⟩
  ·refine ⟨by unfold Cu;rw [ht];rfl,⟨(gp w.next t).toNat,?_,?_⟩,FI⟩
   ·unfold Up Ga at hb;simp only [Bool.and_eq_true,decide_eq_true_eq] at hb;omega
   ·have:=Ly w.next t
    show t=_;unfold Cf gp at *;omega
theorem Afj {l:List Ax} {b:Int} {w:Aj} {m:Nat} (hm:m≤65528) (hq:Ms l b=true) (hw:Cu w=true) (e:w.next=Cf b m):Ms (Ei l w) w.next=true:=by
 obtain ⟨h1,h2,h3,h4⟩:=De.1 hq;obtain ⟨b0,b1⟩:=Bc.1 h1;have key:∀q∈l,gp w.next q.Ae < 8→gp w.next q.Ae=gp b q.Ae - m:=fun q hq h=>by
  have ho:=Er.1 (h3 q hq);obtain ⟨n0,n1⟩:=Bc.1 ho.n;have:=ho.g;rw [e] at h ⊢;unfold gp Cf at *;omega
 have hin:∀q∈Ei l w,q∈l∧gp w.next q.Ae < 8:=fun q hq=>by
  unfold Ei at hq;rw [List.mem_filter] at hq;simp only [Bool.and_eq_true,decide_eq_true_eq] at hq;exact ⟨hq.1,hq.2.2⟩
 refine De.2 ⟨Bc.2 (Ip hw),Nat.le_trans (List.length_filter_le _ _) h2,fun q hq=>?_,?_⟩
 ·obtain ⟨a,c⟩:=hin q hq;have ho:=Er.1 (h3 q a);exact Er.2 ⟨ho.n,c,ho.s0,ho.s1,ho.u0,ho.u1,ho.t0,ho.t1⟩
 ·have h5:(Ei l w).Pairwise fun a b'=>gp b a.Ae < gp b b'.Ae:=h4.sublist List.filter_sublist;refine h5.imp_of_mem fun ha hb h=>?_;rw [key _ (hin _ ha).1 (hin _ ha).2,key _ (hin _ hb).1 (hin _ hb).2];omega
theorem P9 {l:List Ax} {w:Aj}:∀q∈Ei l w,I4 w q.Ae=false:=fun q hq=>by
 unfold Ei at hq;rw [List.mem_filter] at hq;simp only [Bool.and_eq_true,Bool.not_eq_true',Bool.or_eq_false_iff] at hq;exact hq.2.1.2
theorem Si {w:Aj} {k:Nat} (hk:k≤8) {n:Int} (h:n∈O8 w k):B8 n=true∧gp w.next n < 8∧I4 w n=false:=by
 unfold O8 So at h;obtain ⟨h1,h2⟩:=List.mem_filter.1 h;obtain ⟨i,hi,rfl⟩:=List.mem_map.1 h1;rw [List.mem_range] at hi;refine ⟨Wo _ _,?_,IH⟩;unfold gp Cf;omega
theorem R7 {w:Aj} {u:Int} (u0:0≤u) (u1:u≤10007):∀(ns:List Int) (l:List Ax),(∀n∈ns,B8 n=true∧I4 w n=false)→Ms l w.next=true→(∀q∈l,I4 w q.Ae=false)→Ms (Lp w.next u l ns) w.next=true∧∀q∈Lp w.next u l ns,I4 w q.Ae=false
 | [],l,_,h2,h3=>⟨h2,h3⟩
 | n::ns,l,h1,h2,h3=>by
  obtain ⟨a,b⟩:=h1 n FI;refine R7 u0 u1 ns (Vi w.next l n u) (fun n hn=>h1 n (by simp [hn])) (Avy h2 a u0 u1) fun q hq=>?_;rcases Bbc hq with h|h
  ·exact h3 q h
  ·rw [h];exact b
theorem Aez {base u:Int} {l:List Ax} {ns:List Int} {k:Nat} (h:k < ns.length):Lp base u l (ns.take (k+1))=Vi base (Lp base u l (ns.take k)) ns[k] u:=by
 unfold Lp;rw [List.take_add_one,List.getElem?_eq_getElem h,List.foldl_append];rfl
theorem Tr (w:Aj) (t:Int):Aas w t≤8:=by unfold Aas;omega
theorem Zm {r:Ay} {p:Ar} {d:Int} (hg:Mn r) (hp:Bt p=true) (d0:1≤d) (d1:d≤8) (hk:r.Ai+d≤10007):Cu (Cq r p)=true∧Ms (Ei r.Am (Cq r p)) (Cq r p).next=true∧Mn (Lo r p d)∧(M7 r p).length≤24:=by
 obtain ⟨a1,a2⟩:=Rm hg hp;obtain ⟨b1,⟨m,hm,em⟩,b3⟩:=Un hg hp;have htr:B8 p.Ap=true:=by unfold Bt at hp;simp only [Bool.and_eq_true] at hp;exact hp.1.1.1.1.2
 obtain ⟨c1,⟨k,hk2,ek⟩,c3⟩:=Ayg b1 htr;have hk0:=hg.k0;have hq:Ms (Ei r.Am (Cq r p)) (Cq r p).next=true:=by
  cases hs:r.Bd
  ·rw [(hg.z hs).2];exact (De (l:=[])).2 ⟨Bc.2 (Ip c1),Nat.zero_le 8,fun r hr=>(by cases hr),List.Pairwise.nil⟩
  ·refine Afj (m:=m+k) FH hg.q c1 ?_;show (Cq r p).next=_
   rw [show (Cq r p).next=Cf (Gf r p).next k from ek,em,a2 hs,Agf]
 have hn:Cq r p=Pa (Gf r p) p.Ap:=rfl;refine ⟨c1,hq,⟨hg.k0,hg.k1,c1,?_,?_,fun h=>by cases h⟩,by unfold M7;rw [List.length_append];omega⟩
 ·show Ms (Qg (Cq r p) (Ei r.Am (Cq r p)) p.Fg (r.Ai+d)) (Cq r p).next=true
  unfold Qg
  split
  ·exact (R7 FH FH _ _ (fun n hn=>⟨(Si (Tr _ _) hn).1,(Si (Tr _ _) hn).2.2⟩) hq P9).1
  ·exact hq
 ·show ∀q∈Qg (Cq r p) (Ei r.Am (Cq r p)) p.Fg (r.Ai+d),I4 (Cq r p) q.Ae=false;unfold Qg
  split
  ·exact (R7 FH FH _ _ (fun n hn=>⟨(Si (Tr _ _) hn).1,(Si (Tr _ _) hn).2.2⟩) hq P9).2
  ·exact P9
theorem Vs {r:Ay} {p:Ar} {d:Int} (hg:Mn r) (hp:Bt p=true) (d0:1≤d) (d1:d≤8):Mn (Di r p d)∧(Io r p).length≤24:=by
 have hk1:=hg.k1;have hk0:=hg.k0;unfold Di Io
 split
 ·exact ⟨(Zm hg hp d0 d1 FH).2.2.1,(Zm hg hp d0 d1 FH).2.2.2⟩
 ·refine ⟨?_,FI⟩
  split
  ·rename_i h;simp only [Bool.and_eq_true,decide_eq_true_eq] at h;refine ⟨hk0,hk1,hg.w,Asa hg.q FH FH,fun q hq=>?_,fun hs=>?_⟩
   ·obtain ⟨r',hr,e⟩:=Axs hq;show I4 r.Aa q.Ae=false;rw [←e];exact hg.f r' hr
   ·have:r.Bd=false:=hs;rw [h.2] at this;cases this
  ·exact hg
theorem Tk (y:Ax) (w:World):Cy Av w [.int .i64 y.Ae,.int .i64 y.state,.int .i64 y.Ce,.int .i64 y.D6] [y] []:=⟨_,[],[],[],FI,FI,⟨rfl,rfl⟩,rfl,rfl⟩
theorem Azd (xs:List Ax) (y:Ax) (i:Nat) (a:Option Addr) (c vb:Nat) (F:List Nat) (hi:i≤xs.length) (hl:xs.length≤1000000) :
  Fn prog 425 [.slice a xs.length c,.int .i64 i,.slice (some ⟨vb,0,none⟩) 1 1] [] [.ow Av 257 (.slice a xs.length c) xs F,.row vb 257 0 [] [.int .i64 y.Ae,.int .i64 y.state,.int .i64 y.Ce,.int .i64 y.D6] []] (fun (_:Option Addr × Nat × List Nat)=>True)
   (fun z=>.slice z.1 (xs.take i++y::xs.drop i).length z.2.1) (fun z=>[.ow Av 257 (.slice z.1 (xs.take i++y::xs.drop i).length z.2.1) (xs.take i++y::xs.drop i) z.2.2]):=by
 have hone:∀w':World,∀cs:List Value,Cy Av w' cs xs []→∀u∈cs,u.oneCell'=true:=fun w' cs h=>h.one' C0;have hy:=Tk y;have h1y:∀u∈([.int .i64 y.Ae,.int .i64 y.state,.int .i64 y.Ce,.int .i64 y.D6]:List Value),u.oneCell'=true:=IL
 refine enter func425 rfl ntmps425 fun w0=>?_;refine Bco (E:=Av) fun hc1 hc2=>?_;refine go ?_;apply wO;refine Ani rfl rfl rfl rfl hi (fun _=>?_) hc1;refine go ?_;refine A1 rfl (fun h1=>?_) (fun h1=>?_)
 ·have hin:i=xs.length:=FH
  subst hin;have e:xs.take xs.length++y::xs.drop xs.length=xs++[y]:=FI
  refine go ?_;apply wO;refine Ps hy C0 fun a2 c2 F2=>?_;rw [e];exact DK
 ·have hlt:i < xs.length:=FH
  refine An5 (xs:=xs) Dl (by rintro rfl;simp at hlt) ?_;rintro g cs rest rfl - - - hcl hcr hfl;rw [show Av.sz=4 from rfl] at hcl hcr;have h1c:=hone w0 cs (hfl w0);obtain ⟨A,B,hcs,hA,hB⟩:∃A B,cs=A++B∧A=cs.take (i * 4)∧B=cs.drop (i * 4):=⟨_,_,(List.take_append_drop _ _).symm,rfl,rfl⟩;have hAl:A.length=i * 4:=LO
  have hBl:B.length=(xs.length - i) * 4:=LN
  have hins:∀w,Cy Av w (A++[.int .i64 y.Ae,.int .i64 y.state,.int .i64 y.Ce,.int .i64 y.D6]++B) (xs.take i++y::xs.drop i) []:=fun w=>by rw [hA,hB];exact (hfl w).insL (hy w) i hi
  have h1A:∀u∈A,u.oneCell'=true:=fun u hu=>h1c u IY;have h1B:∀u∈B,u.oneCell'=true:=fun u hu=>h1c u IY;have hlen:(xs.take i++y::xs.drop i).length=xs.length+1:=FO
  clear hA hB hfl hone;subst hcs;have eA:A=((A++B++rest).drop 0).take (i * 4):=IQ
  have eB:B=((A++B++rest).drop (0+i * 4)).take ((xs.length - i) * 4):=HR
  rw [hlen];refine go ?_;apply wO;apply oc;rfl;exact Aua rfl;refine go ?_;refine A1 rfl (fun h2=>?_) (fun h2=>?_)
  ·refine go ?_;apply wO;apply oc;rfl;exact Pz (i:=i) rfl rfl rfl FH FH;refine go ?_;apply wO;refine As6 (k:=xs.length+1 - i) (olds:=A) rfl rfl rfl FH (Nk (m:=i * 4) (.head _) eA) FH FK FH FH FH FH fun g' cp' Z rest' h3 h4 h5 h6=>?_;rw [show i+(xs.length+1 - i)=xs.length+1 by omega] at h3 ⊢;obtain ⟨Z1,Z2,rfl,hZ1,hZ2⟩:∃Z1 Z2,Z=Z1++Z2∧Z1.length=4∧Z2.length=B.length:=⟨Z.take 4,Z.drop 4,(List.take_append_drop _ _).symm,FY,HV⟩;refine go ?_
   apply wO;apply oc;rfl;exact Lh (i:=i) rfl rfl rfl FH FH FH;refine go ?_;apply wO
   refine Xw (cs:=[.int .i64 y.Ae,.int .i64 y.state,.int .i64 y.Ce,.int .i64 y.D6]) (L':=A++[.int .i64 y.Ae,.int .i64 y.state,.int .i64 y.Ce,.int .i64 y.D6]++(Z2++rest')) rfl rfl rfl (Nk (L:=[.int .i64 y.Ae,.int .i64 y.state,.int .i64 y.Ce,.int .i64 y.D6]) (o:=0) (m:=4) FL rfl) .here (Af2 (M:=Z1) GM FH (by simpa using hZ1)) (by show 4=min 1 (xs.length+1 - i) * 4;omega) FP h1y ?_;refine go ?_;refine As [] [] ?_;refine Dq 0 1 2 3 ?_
   refine dt 4 ?_ (hy:=Lh (i:=i+1) rfl rfl FH FH FH FH);refine Ec 5 6 ?_;refine dt 7 ?_ (hy:=Lh (i:=i) rfl rfl FH FH FH FH);refine dN 8 ?_
   refine Xw (cs:=B) (L':=A++[.int .i64 y.Ae,.int .i64 y.state,.int .i64 y.Ce,.int .i64 y.D6]++B++rest') rfl rfl rfl (Nk FL eB) .here (Af2 (P:=A++[.int .i64 y.Ae,.int .i64 y.state,.int .i64 y.Ce,.int .i64 y.D6]) (M:=Z2) GM FP hZ2) HT FP h1B ?_;refine dk ?_;refine dd ?_
   refine Aeo (cs:=A++[.int .i64 y.Ae,.int .i64 y.state,.int .i64 y.Ce,.int .i64 y.D6]++B) (rest:=rest') (xs:=xs.take i++y::xs.drop i) cp' rfl hins FH h4 (by rw [show Av.sz=4 from rfl];simp only [List.length_append,List.length_cons,List.length_nil] at h6 ⊢;omega) ?_;rw [hlen];refine go ?_;refine ret (_,cp',[g']) trivial rfl
  ·have hcx:xs.length+1≤c:=FH
   obtain ⟨X,Y,hXY,hX,hY⟩:=Atr (B:=B) (R:=rest) 4 FH;refine go ?_;apply wO;apply oc;rfl;exact Pz (i:=xs.length+1) rfl rfl FH FH FH;refine go ?_;apply wO;apply oc;rfl;exact Lh (i:=i+1) rfl rfl FH FH FH FH;refine Og ?_;intros;apply wO
   refine Bbi rfl X0 (ovl (tS:=154) (tR:=4) (run_callFunc_extern func428 FJ FJ FJ (e:=Extern.SlicesOverlaps.overlaps #[154,154] #[4]) FJ) (.there .here) (.head _) HA) ?_;refine go ?_;refine As [] [] ?_;refine Dq 0 1 2 3 ?_;refine dt 4 ?_ (hy:=Lh (i:=i+1) rfl rfl FH FH FH FH);refine Ec 5 6 ?_;refine dt 7 ?_ (hy:=Lh (i:=i) rfl rfl FH FH FH FH);refine dN 8 ?_
   refine Xw (cs:=B) (L':=A++X++B++rest.drop 4) rfl rfl rfl (Nk FL eB) .here (Af2 (P:=A++X) (M:=Y) IE HD hY) HP HD h1B ?_;refine dk ?_;refine dd ?_;refine go ?_;apply wO;apply oc;rfl;exact Lh (i:=i) rfl rfl rfl FH FH FH;refine go ?_;apply wO
   refine Xw (cs:=[.int .i64 y.Ae,.int .i64 y.state,.int .i64 y.Ce,.int .i64 y.D6]) (L':=A++[.int .i64 y.Ae,.int .i64 y.state,.int .i64 y.Ce,.int .i64 y.D6]++(B++rest.drop 4)) rfl rfl rfl (Nk (L:=[.int .i64 y.Ae,.int .i64 y.state,.int .i64 y.Ce,.int .i64 y.D6]) (o:=0) (m:=4) FL rfl) .here (Af2 (M:=X) GM FH (by simpa using hX)) (by show 4=min 1 (xs.length+1 - i) * 4;omega) FP h1y ?_;refine go ?_
   refine Aeo (L:=A++[.int .i64 y.Ae,.int .i64 y.state,.int .i64 y.Ce,.int .i64 y.D6]++(B++rest.drop 4)) (cs:=A++[.int .i64 y.Ae,.int .i64 y.state,.int .i64 y.Ce,.int .i64 y.D6]++B) (rest:=rest.drop 4) (xs:=xs.take i++y::xs.drop i) c GM hins FH FH (by rw [show Av.sz=4 from rfl];simp only [List.length_append,List.length_cons,List.length_nil,List.length_drop];omega) ?_;rw [hlen];refine ret (_,c,[g]) trivial rfl
instance:IntC prog 294 .u64:=⟨underlying294⟩
theorem Avv (fid:FuncId) (caps:List Value) (A:List Pc) (hA:A.all (fun p=>!p.mu)=true) (xs:List Ax) (a:Option Addr) (c:Nat) (F:List Nat) (tv:Value) (f:Ax→Int) (hm:∀i j (_:i≤j) (hj:j < xs.length),f xs[j] < 0→f (xs[i]'FH) < 0) (hb:Sb prog fid=true) (hl:xs.length≤1000000)
  (hp:∀x∈xs,∀w,Od A w→Calls prog fid ([.agg #[.int .i64 x.Ae,.int .i64 x.state,.int .i64 x.Ce,.int .i64 x.D6],tv]++caps).toArray w (RB (.int .i64 (f x)) w)) :
  Fn prog 418 [.slice a xs.length c,tv,.func (.func fid) #[] caps.toArray] (.sl Av (.slice a xs.length c) xs F::A) [] (fun (_:Unit)=>True) (fun _=>.tuple #[.int .i64 ((xs.takeWhile fun x=>decide (f x < 0)).length:Nat),.bool (Bej f xs[(xs.takeWhile fun x=>decide (f x < 0)).length]?)]) (fun _=>[]):=by
 refine enter func418 rfl ntmps418 (fun w0=>?_) rfl GP .nil;refine go ?_;refine Eh [0,1,2,6,7,8] (fun s:Nat × Nat=>[(9,.int .i64 (s.1:Nat)),(10,.int .i64 (s.2:Nat))]) (fun s=>s.1≤s.2∧s.2≤xs.length∧(∀j (_:j < s.1) (h:j < xs.length),f xs[j] < 0)∧(∀j (_:s.2≤j) (h:j < xs.length),¬f xs[j] < 0)) (fun s=>s.2 - s.1) (0,xs.length) ⟨Nat.zero_le _,Nat.le_refl _,fun j h=>by omega,fun j h1 h2=>by omega⟩ fun s hs=>?_;obtain ⟨i,j⟩:=s;obtain ⟨h1,h2,h3,h4⟩:=hs;dsimp only at h1 h2 h3 h4 ⊢;refine go ?_;refine A1 rfl (fun h5=>?_) (fun h5=>?_)
 ·have hh:(i+j) / 2 < xs.length:=FH
  have e2:((i:Int)+(j:Int)) / 2=(((i+j) / 2:Nat):Int):=FH
  refine go ?_;apply wO;apply oc;rfl;exact Aub rfl FH FH;refine go ?_;apply wO;apply oc;rfl;exact Aof rfl;rw [e2];apply wO;apply oc;rfl;exact Ary rfl FH FH;generalize hq:(i+j) / 2=q at hh;refine go ?_;refine Jd (xs:=xs) q ?_;rintro hi b o e;rw [e];refine go ?_;apply wO;refine Agn rfl rfl hb X0 ?_;refine cb (fun w st=>hp xs[q] (List.getElem_mem hh) w (fun p hp=>st.on p IC)) ?_;refine go ?_;refine A1 rfl (fun h6=>?_) (fun h6=>?_)
  ·exact DD
  ·exact DF
 ·have hij:i=j:=FH
  subst hij;have hk:(xs.takeWhile fun x=>decide (f x < 0)).length=i:=Y5 h2 (fun j hj h=>decide_eq_true (h3 j hj h)) (fun h=>decide_eq_false (h4 i (Nat.le_refl _) h));rw [hk];refine go ?_;refine Dy rfl rfl (fun h6=>?_) (fun h6=>?_)
  ·have hh:i < xs.length:=FH
   rw [List.getElem?_eq_getElem hh];refine go ?_;refine Jd (xs:=xs) i ?_;exact DE
  ·rw [List.getElem?_eq_none FH];exact AA
theorem Bci {base n:Int} {l:List Ax} (hser:∀q∈l,B8 q.Ae=true) (hn:B8 n=true):(l.takeWhile fun x=>decide (gp base x.Ae - gp base n < 0)).length=Em base l n ∧
  Bej (fun x:Ax=>gp base x.Ae - gp base n) l[(l.takeWhile fun x=>decide (gp base x.Ae - gp base n < 0)).length]?=Nm base l n:=by
 have e:(fun x:Ax=>decide (gp base x.Ae - gp base n < 0))=fun h=>decide (gp base h.Ae < gp base n):=by
  funext x;rw [decide_eq_decide];omega
 have e1:(l.takeWhile fun x=>decide (gp base x.Ae - gp base n < 0)).length=Em base l n:=by unfold Em;rw [e]
 refine ⟨e1,?_⟩;rw [e1];unfold Nm;cases hq:l[Em base l n]? with
 | none=>rfl
 | some z =>
  show decide (gp base z.Ae - gp base n=0)=decide (z.Ae=n);rw [decide_eq_decide];exact ⟨fun h=>Bgg (t:=base) (hser z (List.mem_of_getElem? hq)) hn FH,fun h=>by rw [h];omega⟩
theorem Bi8 (r:Ax) (n t:Int) (gb:Nat) (t0:0≤t) (t1:t≤65535) (n0:0≤n) (n1:n≤65535) (m0:0≤r.Ae) (m1:r.Ae≤65535) :
  FV 419 [.agg #[.int .i64 r.Ae,.int .i64 r.state,.int .i64 r.Ce,.int .i64 r.D6],.int .i64 n,Il gb 0 0] [.cel gb 0 [.int .i64 t]] (.int .i64 (gp t r.Ae - gp t n)):=by
 have b1:=Ly t r.Ae;have b2:=Ly t n;refine enter func419 rfl ntmps419 fun w0=>?_;refine go ?_;intros;refine As [0,1] [] ?_;refine Dq 0 1 2 4 ?_;refine dt 5 ?_;refine dN 3 ?_;refine oC ?_;refine ce (fun w s=>P7 _ _ _ FH FH FH FH) ?_;refine dk ?_;refine dN 6 ?_;exact EO
theorem Aad (l:List Ax) (base n:Int) (a:Option Addr) (c:Nat) (F:List Nat) (hq:Ms l base=true) (hn:B8 n=true) :
  FV 401 [.slice a l.length c,.int .i64 base,.int .i64 n] [.sl Av (.slice a l.length c) l F] (.tuple #[.int .i64 (Em base l n:Nat),.bool (Nm base l n)]):=by
 obtain ⟨q1,q2,q3,q4⟩:=De.1 hq;have hser:∀q∈l,B8 q.Ae=true:=fun q h=>(Er.1 (q3 q h)).n;obtain ⟨b0,b1⟩:=Bc.1 q1;obtain ⟨n0,n1⟩:=Bc.1 hn;obtain ⟨e1,e2⟩:=Bci (base:=base) hser hn;refine enter func401 rfl ntmps401 fun w0=>?_;refine go ?_;intros;rename_i gb;refine cb (fun w st=>by
  have r1:=st.get (p:=.row gb 3 0 [] [.int .i64 base] []) FI;have hw:=(st.get (p:=.sl Av (.slice a l.length c) l F) FI).2;refine (Avv 419 [Il gb 0 0] [.cel gb 0 [.int .i64 base]] rfl l a c F (.int .i64 n) (fun r=>gp base r.Ae - gp base n) (fun i j hij hj h=>?_) FJ FH fun x hx w' hA=>?_).val w ?_
  ·rcases Nat.lt_or_eq_of_le hij with h2|rfl
   ·have:=List.pairwise_iff_getElem.1 q4 i j FH hj h2;omega
   ·exact h
  ·obtain ⟨m0,m1⟩:=Bc.1 (hser x hx);exact (Bi8 x n base gb b0 b1 n0 n1 m0 m1).val w' hA
  ·intro p hp;simp only [List.mem_cons,List.not_mem_nil,or_false] at hp;rcases hp with rfl|rfl
   ·exact st.get FI
   ·exact ⟨FI,Is r1⟩) ?_
 rw [e2,e1];exact AA
theorem Ahz (l:List Ax) (base n:Int) (a:Option Addr) (c:Nat) (F:List Nat) (hq:Ms l base=true) (hn:B8 n=true) :
  FV 386 [.slice a l.length c,.int .i64 base,.int .i64 n] [.sl Av (.slice a l.length c) l F] (.tuple #[.int .i64 (Em base l n:Nat),.bool (Nm base l n)]):=by
 obtain ⟨q1,q2,q3,q4⟩:=De.1 hq;have hser:∀q∈l,B8 q.Ae=true:=fun q h=>(Er.1 (q3 q h)).n;obtain ⟨b0,b1⟩:=Bc.1 q1;obtain ⟨n0,n1⟩:=Bc.1 hn;obtain ⟨t1,t2,t3⟩:=Rz (p:=fun r:Ax=>decide (gp base r.Ae < gp base n)) (xs:=l);have hle:=T6 base l n;have hb2:=Ly base n;refine enter func386 rfl ntmps386 fun w0=>?_;refine go ?_;refine Cd [0,1,2,6,7] (fun k:Nat=>[(8,.int .i64 (k:Nat))]) (fun _=>[]) (fun k=>k≤Em base l n) (fun k=>l.length - k) 0 (Nat.zero_le _) fun k hk=>?_;have leaf:∀h:k < l.length,decide (gp base l[k].Ae < gp base n)=decide (k < Em base l n):=fun h=>by
  by_cases h2:k < Em base l n
  ·rw [decide_eq_true h2];exact t2 k h2 h
  ·have e:k=Em base l n:=FH
   subst e;rw [decide_eq_false h2];exact t3 h
 refine go ?_;refine Dy rfl rfl (fun h4=>?_) (fun h4=>?_)
 ·have hi:k < l.length:=FH
  refine go ?_;refine Jd (xs:=l) k ?_;rintro hi b o e;rw [e];refine go ?_;obtain ⟨m0,m1⟩:=Bc.1 (hser _ (List.getElem_mem hi));have hb1:=Ly base l[k].Ae;refine ce (fun w s=>Jq _ _ _ FH FH) ?_;refine go ?_;refine ce (fun w s=>Jq _ _ _ FH FH) ?_;have lf:=leaf hi;refine go ?_;refine A1 rfl (fun h5=>?_) (fun h5=>?_)
  ·have h6:k < Em base l n:=by rw [decide_eq_true h5] at lf;simpa using lf.symm
   refine go ?_;refine Cg (k+1) (by show k+1≤Em base l n;omega) HJ
  ·have h6:k=Em base l n:=by rw [decide_eq_false h5] at lf;have:¬k < Em base l n:=by simpa using lf.symm
                             omega
   refine go ?_;refine As [0] [] ?_;refine Dq 0 1 2 3 ?_;refine dt 4 ?_;rw [decide_eq_true h4];refine dt 5 ?_;refine Do 6 ?_;refine Do 7 ?_;refine Do 8 ?_;refine Do 9 ?_;refine Do 10 ?_;refine Do 11 ?_;refine Do 12 ?_;refine Ec 13 14 ?_;refine dt 15 ?_;refine dd ?_;rw [Vj FH];subst h6;exact AA
 ·have h6:k=Em base l n:=FH
  refine go ?_;refine As [0] [] ?_;refine Dq 0 1 2 3 ?_;refine dt 4 ?_;rw [decide_eq_false h4];refine dt 5 ?_;refine ds 6 ?_;refine ds 7 ?_;refine ds 8 ?_;refine ds 9 ?_;refine ds 10 ?_;refine ds 11 ?_;refine ds 12 ?_;refine Ec 13 14 ?_;refine dt 15 ?_;refine dd ?_;rw [Akn FH];subst h6;exact AA
def Amr (base:Int) (l:List Ax) (n u:Int):List Ax:=if Nm base l n then [] else X3 base l n u
structure OwR where
 a:Option Addr
 c:Nat
 F:List Nat
theorem Amk (l:List Ax) (base n ck d:Int) (a:Option Addr) (c:Nat) (F:List Nat) (hq:Ms l base=true) (hn:B8 n=true) (h8:gp base n < 8) (k0:0≤ck) (k1:ck≤9999) (d0:1≤d) (d1:d≤8) :
  Fn prog 417 [.slice a l.length c,.int .i64 base,.int .i64 n,.int .i64 ck,.int .i64 d] [.sl Av (.slice a l.length c) l F] [] (fun (_:OwR)=>True) (fun s=>.tuple #[.slice s.a (Amr base l n (ck+d)).length s.c,.bool (!Nm base l n)]) (fun s=>[.ow Av 257 (.slice s.a (Amr base l n (ck+d)).length s.c) (Amr base l n (ck+d)) s.F]):=by
 have hle:=T6 base l n;obtain ⟨q1,q2,q3,q4⟩:=De.1 hq;have hck:Ky ck=true:=by unfold Ky Ga;simp;omega
 have hdl:Bap d=true:=by unfold Bap Ga;simp;omega
 refine enter func417 rfl ntmps417 fun w0=>?_;refine go ?_;refine Ca (Rq l base _ F) fun _ _=>?_;rw [hq];refine go ?_;refine ce (fun w s=>Jc _ _) ?_;rw [hn];refine go ?_;refine ce (fun w s=>Tv _ _) ?_;rw [hck];refine go ?_;refine Ca (Awu d) fun _ _=>?_;rw [hdl];refine go ?_;refine Ca (Aad l base n a c F hq hn) fun _ _=>?_;cases ho:Nm base l n
 ·rw [show Amr base l n (ck+d)=X3 base l n (ck+d) by unfold Amr;rw [ho];rfl];have hln:=Bao base l n (ck+d);refine go ?_;refine Ca (Ut l a c F FH) fun z _=>?_;refine go ?_;intros;refine Ca (Azd l ⟨n,1,ck+d,0⟩ (Em base l n) z.1 z.2.1 _ z.2.2 hle FH) fun y _=>?_;rw [show l.take (Em base l n)++(⟨n,1,ck+d,0⟩:Ax)::l.drop (Em base l n)=X3 base l n (ck+d) from rfl];refine go ?_
  refine cb (fun w st=>by obtain ⟨Fw, -,hw⟩:=(st.get (p:=.ow Av 257 (.slice y.1 (X3 base l n (ck+d)).length y.2.1) (X3 base l n (ck+d)) y.2.2) FI).2.read;exact (Rq (X3 base l n (ck+d)) base _ Fw).val w (El ⟨FK,hw⟩)) ?_;rw [Ald hq hn h8 FH FH ho];exact ED
 ·rw [show Amr base l n (ck+d)=[] by unfold Amr;rw [ho];rfl];refine go ?_;refine Db Av 257 ?_;refine ret ⟨none,0,[]⟩ trivial rfl
theorem Bax (l:List Ax) (base n ck d:Int) (a:Option Addr) (c:Nat) (F:List Nat) (hq:Ms l base=true) (hn:B8 n=true) (k0:0≤ck) (k1:ck≤9999) (d0:1≤d) (d1:d≤8) :
  Fn prog 391 [.slice a l.length c,.int .i64 base,.int .i64 n,.int .i64 ck,.int .i64 d] [.sl Av (.slice a l.length c) l F] [] (fun (_:OwR)=>True) (fun s=>.slice s.a (Vi base l n (ck+d)).length s.c) (fun s=>[.ow Av 257 (.slice s.a (Vi base l n (ck+d)).length s.c) (Vi base l n (ck+d)) s.F]):=by
 have hle:=T6 base l n;obtain ⟨q1,q2,q3,q4⟩:=De.1 hq;obtain ⟨b0,b1⟩:=Bc.1 q1;obtain ⟨n0,n1⟩:=Bc.1 hn;have hbd:=Ly base n;refine enter func391 rfl ntmps391 fun w0=>?_;refine go ?_;refine Ca (Ahz l base n a c F hq hn) fun _ _=>?_;cases ho:Nm base l n
 rotate_left
 ·rw [show Vi base l n (ck+d)=l by unfold Vi;rw [ho];rfl];exact FG
 refine go ?_;refine ce (fun w s=>Jq _ _ _ FH FH) ?_;refine go ?_;refine A1 rfl (fun h4=>?_) (fun h4=>?_)
 ·rw [show Vi base l n (ck+d)=l by unfold Vi;rw [ho,decide_eq_false (show ¬gp base n < 8 by omega)];rfl];exact FG
 rw [show Vi base l n (ck+d)=X3 base l n (ck+d) by unfold Vi;rw [ho,decide_eq_true (show gp base n < 8 by omega)];rfl];refine Xi (E:=Av) (xs:=l) ?_;rintro _ _ e8 c0 c1;cases e8;refine Avk (E:=Av) (xs:=l) (Em base l n) (fun FT=>?_) hle;obtain ⟨T1,hT1⟩:∃T1,T1=l.take (Em base l n):=⟨_,rfl⟩;have hT1l:T1.length=Em base l n:=by rw [hT1,List.length_take];omega
 rw [←hT1];have hAdd:T1++[(⟨n,1,ck+d,0⟩:Ax)]++l.drop (Em base l n)=X3 base l n (ck+d):=by rw [hT1];unfold X3 Bjd;simp
 refine go ?_;intros;refine As [0,1] [] ?_;refine Ec 1 2 ?_;refine dt 3 ?_ (hy:=Pz (i:=T1.length) rfl rfl (by rw [hT1l]) FH FH);refine Ec 5 8 ?_;refine dt 9 ?_;refine Asf 10 (Em base l n) (fun a6 c6 F6=>?_);refine dM 0 6 ?_ ?_
 ·apply Mp;rfl;intro _;refine C7 Av ?_;refine dk ?_;refine dM 4 6 ?_ ?_
  ·refine Pf (ys:=T1) C0 Dl fun a7 c7 F7=>?_;rw [List.nil_append];refine dk ?_;refine dN 6 ?_;apply Lr;rfl;rfl;rfl;rfl;exact Ll;exact Kv;intro _;exact AJ
  ·apply Lr;rfl;rfl;rfl;rfl;exact Ll;exact Kv;intro _;refine dk ?_;refine dN 4 ?_;refine Pf (ys:=T1) C0 Dl fun a7 c7 F7=>?_;rw [List.nil_append];exact AJ
 ·apply Lr;rfl;rfl;rfl;rfl;exact Ll;exact Kv;intro _;refine dk ?_;refine dN 0 ?_;apply Mp;rfl;intro _;refine C7 Av ?_;refine dk ?_;refine dN 4 ?_;refine Pf (ys:=T1) C0 Dl fun a7 c7 F7=>?_;rw [List.nil_append];exact AJ
theorem Adc (l:List Ax) (base n ck:Int) (a:Option Addr) (c:Nat) (F:List Nat) (hq:Ms l base=true) (hn:B8 n=true) (k0:0≤ck) (k1:ck≤9999) :
  Fn prog 369 [.slice a l.length c,.int .i64 base,.int .i64 n,.int .i64 ck] [.sl Av (.slice a l.length c) l F] [] (fun (_:OwR)=>True) (fun s=>.tuple #[.slice s.a (Sc base l n (ck+4)).length s.c,.bool true]) (fun s=>[.ow Av 257 (.slice s.a (Sc base l n (ck+4)).length s.c) (Sc base l n (ck+4)) s.F]):=by
 have hle:=T6 base l n;obtain ⟨q1,q2,q3,q4⟩:=De.1 hq;have hck:Ky ck=true:=by unfold Ky Ga;simp;omega
 refine enter func369 rfl ntmps369 fun w0=>?_;refine go ?_;refine Ca (Rq l base _ F) fun _ _=>?_;rw [hq];refine go ?_;refine ce (fun w s=>Jc _ _) ?_;rw [hn];refine go ?_;refine ce (fun w s=>Tv _ _) ?_;rw [hck];refine go ?_;refine Ca (Ut l a c F FH) fun z _=>?_;refine go ?_;refine cb (fun w st=>by obtain ⟨Fw, -,hw⟩:=(st.get (p:=.ow Av 257 (.slice z.1 (l).length z.2.1) (l) z.2.2) FI).2.read;exact (Aad l base n z.1 z.2.1 Fw hq hn).val w (El ⟨FK,hw⟩)) ?_;have hcl:=Aku base l n (ck+4);cases ho:Nm base l n
 ·rw [Yc ho];exact ED
 ·have hlt:=Vk ho;refine go ?_;refine Aho (xs:=l) (Em base l n) ?_ (hi:=hlt);rintro hi g A B ha hF hh;rw [ha];refine go ?_;refine O5 (⟨n,3,ck+4,l[Em base l n].D6⟩:Ax) hh (fun w=>?_) ?_
  ·rw [Vj hi] at ho;have e:l[Em base l n].Ae=n:=by simpa using ho
   rw [e];exact EB
  rw [←Vn ho];refine go ?_;rw [show l.length=(Sc base l n (ck+4)).length from hcl.symm];exact AZ
theorem Am9 (l:List Ax) (base n ck:Int) (a:Option Addr) (c:Nat) (F:List Nat) (hq:Ms l base=true) (hn:B8 n=true) (k0:0≤ck) (k1:ck≤9999) :
  Fn prog 346 [.slice a l.length c,.int .i64 base,.int .i64 n,.int .i64 ck] [.sl Av (.slice a l.length c) l F] [] (fun (_:OwR)=>True) (fun s=>.slice s.a (Sc base l n (ck+4)).length s.c) (fun s=>[.ow Av 257 (.slice s.a (Sc base l n (ck+4)).length s.c) (Sc base l n (ck+4)) s.F]):=by
 have hle:=T6 base l n;obtain ⟨q1,q2,q3,q4⟩:=De.1 hq;have hcl:=Aku base l n (ck+4);refine enter func346 rfl ntmps346 fun w0=>?_;refine Og ?_;intros;refine C7 Av ?_;refine go ?_;apply wO;refine Pf C0 Dl fun a5 c5 F5=>?_;rw [List.nil_append];refine go ?_;refine Ca (Ahz l base n a c F hq hn) fun _ _=>?_;cases ho:Nm base l n
 ·rw [Yc ho];exact ED
 ·have hlt:=Vk ho;refine go ?_;refine Jd (xs:=l) (Em base l n) ?_;rintro hi b o e;rw [e];refine Aho (xs:=l) (a:=a5) (Em base l n) ?_ (hi:=hlt);rintro hi g A B ha hF hh;rw [ha];refine go ?_;refine O5 (⟨n,3,ck+4,l[Em base l n].D6⟩:Ax) hh (fun w=>⟨rfl,rfl⟩) ?_;rw [←Vn ho];refine go ?_;rw [show l.length=(Sc base l n (ck+4)).length from hcl.symm];exact AZ
structure SkS where
 a:Option Addr
 c:Nat
 F:List Nat
 ae:Option Addr
 ce:Nat
 Fe:List Nat
theorem Bdu (w:Aj) (st:Bool) (ck tr:Int) (q:Value) (g t o:Nat) (A B:List Value) (a1:Option Addr) (c1:Nat) (F1:List Nat) (hg:Cu w=true) (ht:B8 tr=true) :
  Fn prog 398 [Il g o 0,.int .i64 tr] [] [.row g t o A [.bool st,.int .i64 ck,.int .i64 (w).next,.slice a1 (w).Al.length c1,q] B,.ow Bz 272 (.slice a1 (w).Al.length c1) (w).Al F1] (fun (_:SkS)=>True)
   (fun s=>.slice s.ae (Po w tr).length s.ce) (fun s=>[.row g t o A [.bool st,.int .i64 ck,.int .i64 (Pa w tr).next,.slice s.a (Pa w tr).Al.length s.c,q] B,.ow Bz 272 (.slice s.a (Pa w tr).Al.length s.c) (Pa w tr).Al s.F,.ow A8 9 (.slice s.ae (Po w tr).length s.ce) (Po w tr) s.Fe]):=by
 obtain ⟨w0_,w1_⟩:=Ip hg;obtain ⟨t0_,t1_⟩:=Bc.1 ht;obtain ⟨hw8,hit⟩:=Kx hg;have hgb:=Ly w.next tr
 refine enter func398 rfl ntmps398 fun w0=>?_;refine go ?_;refine ce (fun w s=>Oh _ _ _ FH FH FH FH) ?_;cases hb:Up w.next tr
 ·have e1:Pa w tr=w:=by unfold Pa;rw [hb];rfl
  have e2:Po w tr=[]:=by unfold Po;rw [hb];rfl
  rw [e1,e2];refine Db A8 9 ?_;exact DW
 refine go ?_;refine ce (fun w s=>P7 _ _ _ FH FH FH FH) ?_;refine go ?_;refine A1 rfl (fun h4=>?_) (fun h4=>?_)
 ·have e1:Pa w tr=Jh w tr:=by unfold Pa;rw [hb,if_pos rfl,if_pos h4]
  have e2:Po w tr=Jg w tr:=by unfold Po;rw [hb,if_pos rfl,if_pos h4]
  rw [e1,e2];refine Avj [.bool st,.int .i64 ck] [.int .i64 w.next,.slice a1 w.Al.length c1] [q] ?_;refine go ?_;refine Ca (Aoo w tr g t (o+2) (A++[.bool st,.int .i64 ck]) _ a1 c1 F1 w0_ w1_ t0_ t1_ hw8 hit) fun y hy=>?_;obtain ⟨hy1,hy2⟩:=hy;refine Ajb [.bool st,.int .i64 ck] [.int .i64 y.y.next,.slice y.a y.y.Al.length y.c] [q] ?_;rw [show Jh w tr=y.y from hy1.symm,show Jg w tr=y.es from hy2.symm];exact DW
 ·have e1:Pa w tr=⟨tr,[]⟩:=by unfold Pa;rw [hb,if_pos rfl,if_neg h4]
  have e2:Po w tr=[⟨#[33]⟩]:=by unfold Po;rw [hb,if_pos rfl,if_neg h4]
  rw [e1,e2];refine Db Bz 272 ?_;refine Og ?_;intros;refine Le (xs:=[(⟨#[33]⟩:ByteArray)]) (U1 _ FK) ?_ FI;refine go ?_;refine ret ⟨none,0,[],_,_,_⟩ trivial rfl
structure AwS where
 i:Nat
 a:Option Addr
 c:Nat
 F:List Nat
theorem Azj (x:Aj) (l:List Ax) (st:Bool) (ck Fg d:Int) (g t o:Nat) (A B:List Value) (a1:Option Addr) (c1:Nat) (F1:List Nat) (a2:Option Addr) (c2:Nat) (F2:List Nat) (hg:Cu x=true) (hq:Ms l x.next=true) (hf:∀q∈l,I4 x q.Ae=false) (hl:B8 Fg=true) (k0:0≤ck) (k1:ck≤9999) (d0:1≤d) (d1:d≤8) :
  Fn prog 400 [Il g o 0,.int .i64 Fg,.int .i64 d] [] [.row g t o A [.bool st,.int .i64 ck,.int .i64 (x).next,.slice a1 (x).Al.length c1,.slice a2 (l).length c2] B,.ow Bz 272 (.slice a1 (x).Al.length c1) (x).Al F1,.ow Av 257 (.slice a2 (l).length c2) (l) F2] (fun (_:OwR)=>True)
   (fun _=>.tuple #[]) (fun s=>[.row g t o A [.bool st,.int .i64 ck,.int .i64 (x).next,.slice a1 (x).Al.length c1,.slice s.a (Qg x l Fg (ck+d)).length s.c] B,.ow Bz 272 (.slice a1 (x).Al.length c1) (x).Al F1,.ow Av 257 (.slice s.a (Qg x l Fg (ck+d)).length s.c) (Qg x l Fg (ck+d)) s.F]):=by
 obtain ⟨w0_,w1_⟩:=Ip hg;obtain ⟨l0_,l1_⟩:=Bc.1 hl;have hgb:=Ly x.next Fg
 refine enter func400 rfl ntmps400 fun w0=>?_;refine go ?_;refine ce (fun w s=>Oh _ _ _ FH FH FH FH) ?_;cases hb:Up x.next Fg
 ·have e1:Qg x l Fg (ck+d)=l:=by unfold Qg;rw [hb];rfl
  rw [e1];exact ED
 obtain ⟨k,hk⟩:∃k,k=Aas x Fg:=⟨_,rfl⟩;have hk8:k≤8:=by rw [hk];exact Tr _ _
 have hkm:((k:Nat):Int)=min (gp x.next Fg) 8:=by rw [hk];unfold Aas;omega
 obtain ⟨N,hN⟩:∃N,N=O8 x k:=⟨_,rfl⟩;have hNl:N.length≤8:=by have:=Aea x k;rw [hN];omega
 have e1:Qg x l Fg (ck+d)=Lp x.next (ck+d) l N:=by unfold Qg;rw [hb,if_pos rfl,hN,hk]
 rw [e1];have Vr:=J4 x.next (min (gp x.next Fg) 8)
 have hgp:gp x.next (Cf x.next (min (gp x.next Fg) 8))=(k:Nat):=by rw [←hkm];unfold gp Cf;omega
 refine go ?_;refine As [0] [] ?_;refine Dq 0 1 2 3 ?_;refine Dq 4 5 6 12 ?_;refine dN 7 ?_;refine oC ?_;refine ce (fun w s=>P7 _ _ _ FH FH FH FH) ?_;refine dk ?_;refine dt 8 ?_;refine dN 9 ?_;refine oC ?_;refine ce (fun w s=>Ta _ _ _ FH FH) ?_;refine dk ?_;refine dN 10 ?_;refine oC ?_;refine cfr (fun w st=>by obtain ⟨F9,hF9⟩:=Bhr (st.get (p:=.ow Bz 272 (.slice a1 (x).Al.length c1) (x).Al F1) FI);exact ⟨_,El hF9,rfl,Aop x _ k _ F9 w0_ w1_ FH FH hgp⟩) (fun m _=>?_);refine dk ?_;refine dt 11 ?_;refine dd ?_;rw [←hN]
 refine A4 (E:=Bb) (xs:=N) fun GN=>?_;refine go ?_;refine Cd [0,2,6,30,31] (fun s:AwS=>[(32,.int .i64 (s.i:Nat))]) (fun s=>[.row g t o A [.bool st,.int .i64 ck,.int .i64 (x).next,.slice a1 (x).Al.length c1,.slice s.a (Lp x.next (ck+d) l (N.take s.i)).length s.c] B,.ow Av 257 (.slice s.a (Lp x.next (ck+d) l (N.take s.i)).length s.c) (Lp x.next (ck+d) l (N.take s.i)) s.F]) (fun s=>s.i≤N.length) (fun s=>N.length - s.i) ⟨0,a2,c2,F2⟩ (Nat.zero_le _) fun s hs=>?_;obtain ⟨i,a3,c3,F3⟩:=s;dsimp only at hs ⊢;have hall:=R7 (w:=x) (u:=ck+d) FH FH (N.take i) l (fun n hn=>by
  have:=Si (w:=x) (n:=n) hk8 (by rw [←hN];exact List.mem_of_mem_take hn);exact ⟨this.1,this.2.2⟩) hq hf
 have hLs:∀h:i < N.length,Lp x.next (ck+d) l (N.take (i+1))=Vi x.next (Lp x.next (ck+d) l (N.take i)) N[i] (ck+d):=fun h=>Aez h
 generalize hLd:Lp x.next (ck+d) l (N.take i)=L at *
 have hLq:=hall.1;have hL8:=(De.1 hLq).2.1;refine go ?_;refine A1 rfl (fun h4=>?_) (fun h4=>?_)
 ·have hi:i < N.length:=FH
  have hni:=Si (w:=x) (n:=N[i]) hk8 (by rw [←hN];exact List.getElem_mem hi);refine I6 (xs:=N) i ?_;rintro hi2 b o2 e;rw [e];refine go ?_;refine As [1] [] ?_;refine Dq 0 1 2 3 ?_;refine Dq 4 5 6 7 ?_;refine Ec 8 9 ?_;refine dt 10 ?_;refine dN 11 ?_;refine oC ?_;refine cfr (fun w st=>by obtain ⟨Fq, -,hq9⟩:=(st.get (p:=.ow Av 257 (.slice a3 (L).length c3) (L) F3) FI).2.read;exact ⟨[.sl Av (.slice a3 L.length c3) L Fq],El ⟨FK,hq9⟩,rfl,Amk L x.next N[i] ck d a3 c3 Fq hLq hni.1 hni.2.1 k0 k1 d0 d1⟩) (fun u _=>?_);refine dk ?_;refine Dq 12 13 14 15 ?_;refine dt 16 ?_;refine dd ?_
  refine go ?_;cases ho:Nm x.next L N[i]
  ·have eA:Lp x.next (ck+d) l (N.take (i+1))=Amr x.next L N[i] (ck+d):=by rw [hLs hi];unfold Vi Amr;rw [ho,decide_eq_true hni.2.1];rfl
   refine go ?_;rw [←eA];exact CH
  ·have eA:Lp x.next (ck+d) l (N.take (i+1))=L:=by rw [hLs hi];unfold Vi;rw [ho];rfl
   refine go ?_;rw [←eA];exact CH
 have hi:i=N.length:=FH
 subst hi;rw [List.take_length] at hLd;rw [hLd];refine go ?_;refine Xh ?_;refine ret (⟨_,_,_⟩:OwR) trivial rfl
theorem Xr (p:Ar) (hs:p.data.size≤maxLen):FV 244 [.agg #[.int .i64 p.Cp,.int .i64 p.Ae,.int .i64 p.Ap,.int .i64 p.Fg,.string p.data]] [] (.bool (Bt p)):=by
 refine enter func244 rfl ntmps244 fun w0=>?_;refine go ?_;intros;refine ce (fun w s=>Id _ _ _ _) ?_;cases g1:Ga 1 p.Cp 5
 ·refine go ?_;refine ret () trivial ?_;show Value.bool _=Value.bool _;congr 1;unfold Bt;simp [g1]
 refine go ?_;refine ce (fun w s=>Jc _ _) ?_;cases g2:B8 p.Ae
 ·refine go ?_;refine ret () trivial ?_;show Value.bool _=Value.bool _;congr 1;unfold Bt;simp [g2]
 refine go ?_;refine ce (fun w s=>Jc _ _) ?_;cases g3:B8 p.Ap
 ·refine go ?_;refine ret () trivial ?_;show Value.bool _=Value.bool _;congr 1;unfold Bt;simp [g3]
 refine go ?_;refine ce (fun w s=>Jc _ _) ?_;cases g4:B8 p.Fg
 ·refine go ?_;refine ret () trivial ?_;show Value.bool _=Value.bool _;congr 1;unfold Bt;simp [g4]
 refine go ?_;refine cb (fun w s=>Acb _ _ hs) ?_;cases g5:Rs p.data
 ·refine go ?_;refine ret () trivial ?_;show Value.bool _=Value.bool _;congr 1;unfold Bt;simp [g5]
 obtain ⟨t0,t1⟩:=Bc.1 g3;obtain ⟨l0,l1⟩:=Bc.1 g4;refine go ?_;refine ce (fun w s=>P7 _ _ _ FH FH FH FH) ?_;refine go ?_;refine Dy rfl rfl (fun h6=>?_) (fun h6=>?_)
 ·refine go ?_;refine Dy rfl rfl (fun h7=>?_) (fun h7=>?_)
  ·exact DU
  refine go ?_;refine Dy rfl rfl (fun h8=>?_) (fun h8=>?_)
  ·exact DS
  ·exact DI
 ·refine go ?_;refine ret () trivial ?_;show Value.bool _=Value.bool _;congr 1;unfold Bt;simp [h6]
theorem Ap3 (p:Ar) (hs:p.data.size≤maxLen):FV 220 [.agg #[.int .i64 p.Cp,.int .i64 p.Ae,.int .i64 p.Ap,.int .i64 p.Fg,.string p.data]] [] (.bool (Bt p)):=by
 refine enter func220 rfl ntmps220 fun w0=>?_;refine go ?_;intros;refine ce (fun w s=>Kk _ _ _ _) ?_;cases g1:Ga 1 p.Cp 5
 ·refine go ?_;refine ret () trivial ?_;show Value.bool _=Value.bool _;congr 1;unfold Bt;simp [g1]
 refine go ?_;refine ce (fun w s=>Pi _ _) ?_;cases g2:B8 p.Ae
 ·refine go ?_;refine ret () trivial ?_;show Value.bool _=Value.bool _;congr 1;unfold Bt;simp [g2]
 refine go ?_;refine ce (fun w s=>Pi _ _) ?_;cases g3:B8 p.Ap
 ·refine go ?_;refine ret () trivial ?_;show Value.bool _=Value.bool _;congr 1;unfold Bt;simp [g3]
 refine go ?_;refine ce (fun w s=>Pi _ _) ?_;cases g4:B8 p.Fg
 ·refine go ?_;refine ret () trivial ?_;show Value.bool _=Value.bool _;congr 1;unfold Bt;simp [g4]
 obtain ⟨t0,t1⟩:=Bc.1 g3;obtain ⟨l0,l1⟩:=Bc.1 g4;refine go ?_;refine ce (fun w s=>Jq _ _ _ FH FH) ?_;refine go ?_;refine Dy rfl rfl (fun h6=>?_) (fun h6=>?_)
 ·refine go ?_;refine ret () trivial ?_;have h6:¬gp p.Ap p.Fg≤32767:=FH
  show Value.bool _=Value.bool _;congr 1;unfold Bt;simp [h6]
 have h6:gp p.Ap p.Fg≤32767:=FH
 refine go ?_;refine ce (fun w s=>Sg _ _ _ hs) ?_;rw [show (decide ((p.data.size:Int)≤8) && Abb p.data.data.toList)=Rs p.data from rfl];cases g5:Rs p.data
 ·refine go ?_;refine ret () trivial ?_;show Value.bool _=Value.bool _;congr 1;unfold Bt;simp [g5]
 refine go ?_;refine Dy rfl rfl (fun h7=>?_) (fun h7=>?_)
 ·exact DU
 refine go ?_;refine Dy rfl rfl (fun h8=>?_) (fun h8=>?_)
 ·exact DS
 ·exact DI
def Ajx (x:Aj) (q:Ax):Bool:=Up q.Ae x.next || decide (8≤gp x.next q.Ae) || I4 x q.Ae
theorem Be1 {l:List Ax} {x:Aj}:(l.filter fun q=>!Ajx x q)=Ei l x:=by
 unfold Ei Ajx;refine List.filter_congr fun q _=>?_;have e:decide (8≤gp x.next q.Ae) = !decide (gp x.next q.Ae < 8):=by rw [←decide_not];exact decide_eq_decide.2 FH
 rw [e];cases Up q.Ae x.next <;> cases I4 x q.Ae <;> simp
theorem Be3 (q:Ax) (x:Aj) (nb gb g o:Nat) (st:Bool) (ck:Int) (qv:Value) (a1:Option Addr) (c1:Nat) (F:List Nat) (w0_:0≤x.next) (w1_:x.next≤65535) (hn:B8 q.Ae=true) :
  FV 399 [.agg #[.int .i64 q.Ae,.int .i64 q.state,.int .i64 q.Ce,.int .i64 q.D6],Il nb 0 0,Il gb 0 0] [.cel nb 0 [.int .i64 x.next],.cel gb 0 [Il g o 0],.cel g o [.bool st,.int .i64 ck,.int .i64 x.next,.slice a1 x.Al.length c1,qv],.isv Bg (.agg #[.int .i64 x.next,.slice a1 x.Al.length c1]) x F] (.bool (Ajx x q)):=by
 obtain ⟨n0,n1⟩:=Bc.1 hn;have hgb:=Ly x.next q.Ae
 refine enter func399 rfl ntmps399 fun w0=>?_;refine go ?_;intros;cases hb:Up q.Ae x.next
 rotate_left
 ·rw [show Ajx x q=true by unfold Ajx;rw [hb];rfl];refine As [0,1,2,3,4] [] ?_;refine Ec 0 1 ?_;refine dt 2 ?_;refine dN 3 ?_;refine oC ?_;refine ce (fun w s=>Oh _ _ _ FH FH FH FH) ?_;rw [hb];refine dk ?_;refine dt 4 ?_;refine ds 5 ?_;refine ds 6 ?_;refine ds 7 ?_;refine ds 8 ?_;refine ds 9 ?_;refine Ec 10 11 ?_;refine ds 12 ?_;refine ds 13 ?_;refine ds 14 ?_;refine ds 15 ?_;refine ds 16 ?_;refine ds 17 ?_;refine ds 18 ?_;refine Ec 19 20 ?_;exact CP
 by_cases h8':8≤gp x.next q.Ae
 ·have h8:=decide_eq_true h8';rw [show Ajx x q=true by unfold Ajx;rw [h8];simp];refine As [0,1,2,3,4] [] ?_;refine Ec 0 1 ?_;refine dt 2 ?_;refine dN 3 ?_;refine oC ?_;refine ce (fun w s=>Oh _ _ _ FH FH FH FH) ?_;rw [hb];refine dk ?_;refine dt 4 ?_;refine Do 5 ?_;refine Do 6 ?_;refine Do 7 ?_;refine d1g 8 ?_;apply On.h;refine oC ?_;refine ce (fun w s=>P7 _ _ _ FH FH FH FH) ?_;refine dk ?_;refine Do 9 ?_;rw [h8];refine Ec 10 11 ?_;refine ds 12 ?_;refine ds 13 ?_;refine ds 14 ?_;refine ds 15 ?_;refine ds 16 ?_;refine ds 17 ?_
  refine ds 18 ?_;refine Ec 19 20 ?_;exact CP
 ·have h8:=decide_eq_false h8';rw [show Ajx x q=I4 x q.Ae by unfold Ajx;rw [hb,h8];rfl];refine As [0,1,2,3,4] [] ?_;refine Ec 0 1 ?_;refine dt 2 ?_;refine dN 3 ?_;refine oC ?_;refine ce (fun w s=>Oh _ _ _ FH FH FH FH) ?_;rw [hb];refine dk ?_;refine dt 4 ?_;refine Do 5 ?_;refine Do 6 ?_;refine Do 7 ?_;refine d1g 8 ?_;apply On.h;refine oC ?_;refine ce (fun w s=>P7 _ _ _ FH FH FH FH) ?_;refine dk ?_;refine Do 9 ?_;rw [h8];refine Ec 10 11 ?_;refine Do 12 ?_;refine Do 13 ?_;refine Do 14 ?_;refine Do 15 ?_;refine Do 16 ?_
  refine Do 17 ?_;refine d1g 18 ?_;apply On.h;refine oC ?_;refine Ca (Abs x q.Ae _ F w0_ w1_ n0 n1) fun _ _=>?_;refine dk ?_;refine Ec 19 20 ?_;exact CP
structure NwS where
 a1:Option Addr
 c1:Nat
 F1:List Nat
 a2:Option Addr
 c2:Nat
 F2:List Nat
 ae:Option Addr
 ce:Nat
 Fe:List Nat
theorem Amo (r:Ay) (p:Ar) (d:Int) (g t o:Nat) (A B:List Value) (a1:Option Addr) (c1:Nat) (F1:List Nat) (a2:Option Addr) (c2:Nat) (F2:List Nat) (hg:Mn r) (hp:Bt p=true) (d0:1≤d) (d1:d≤8) :
  Fn prog 368 [Il g o 0,.agg #[.int .i64 p.Cp,.int .i64 p.Ae,.int .i64 p.Ap,.int .i64 p.Fg,.string p.data],.int .i64 d] [] [.row g t o A [.bool r.Bd,.int .i64 r.Ai,.int .i64 (r.Aa).next,.slice a1 (r.Aa).Al.length c1,.slice a2 (r.Am).length c2] B,.ow Bz 272 (.slice a1 (r.Aa).Al.length c1) (r.Aa).Al F1,.ow Av 257 (.slice a2 (r.Am).length c2) (r.Am) F2] (fun (_:NwS)=>True)
   (fun s=>.slice s.ae (M7 r p).length s.ce) (fun s=>[.row g t o A [.bool (Lo r p d).Bd,.int .i64 (Lo r p d).Ai,.int .i64 ((Lo r p d).Aa).next,.slice s.a1 ((Lo r p d).Aa).Al.length s.c1,.slice s.a2 ((Lo r p d).Am).length s.c2] B,.ow Bz 272 (.slice s.a1 ((Lo r p d).Aa).Al.length s.c1) ((Lo r p d).Aa).Al s.F1,.ow Av 257 (.slice s.a2 ((Lo r p d).Am).length s.c2) ((Lo r p d).Am) s.F2,.ow A8 9 (.slice s.ae (M7 r p).length s.ce) (M7 r p) s.Fe]):=by
 have k0:=hg.k0;have k1:=hg.k1;obtain ⟨-,q1,q2, -⟩:=De.1 hg.q;have hser:∀q∈r.Am,B8 q.Ae=true:=fun q hq=>(Yy hg hq).1;obtain ⟨hsg, -⟩:=Rm hg hp;obtain ⟨htg, -,htl⟩:=Un hg hp;obtain ⟨hng,hnq, -,hnl⟩:=Zm hg hp d0 d1 FH;obtain ⟨s0_,s1_⟩:=Ip hsg;obtain ⟨v0_,v1_⟩:=Ip hng;obtain ⟨hw8,hit⟩:=Kx hsg;obtain ⟨n0,n1⟩:=Kw hp;have hp2:=hp;unfold Bt at hp2;simp only [Bool.and_eq_true] at hp2;have htr:B8 p.Ap=true:=hp2.1.1.1.1.2;have hld:B8 p.Fg=true:=hp2.1.1.1.2;have hps:p.data.size≤8:=Vv hp2.1.1.2;refine enter func368 rfl ntmps368 fun w0=>?_;refine go ?_;intros;rename_i g3 g4
 refine Ew [2,3,4,6] [0,1,4] (fun _:Unit=>[]) (fun _=>[.row g t o A [.bool true,.int .i64 r.Ai,.int .i64 (Eb r p).next,.slice a1 (Eb r p).Al.length c1,.slice a2 r.Am.length c2] B,.ow Bz 272 (.slice a1 (Eb r p).Al.length c1) (Eb r p).Al F1]) (fun _=>True) ?_ fun _ _=>?_
 ·cases hs:r.Bd
  ·by_cases hk:p.Cp=5
   ·have e:Eb r p=⟨p.Fg,r.Aa.Al⟩:=by unfold Eb;rw [hs,if_pos hk];rfl
    have hkd:decide (p.Cp=5)=true:=decide_eq_true hk;rw [e];refine go ?_;refine A1 rfl (fun _=>?_) (fun h=>absurd hk h);exact CM
   ·have e:Eb r p=⟨p.Ae,r.Aa.Al⟩:=by unfold Eb;rw [hs,if_neg hk];rfl
    rw [e];refine go ?_;refine A1 rfl (fun h=>absurd h hk) (fun _=>?_);exact CM
  ·have e:Eb r p=r.Aa:=by unfold Eb;rw [hs];rfl
   rw [e];exact CM
 refine go ?_;refine Ew [2,3,4,6] [2,3,4] (fun s:SkS=>[(7,.slice s.ae (Lf r p).length s.ce)]) (fun s=>[.row g t o A [.bool true,.int .i64 r.Ai,.int .i64 (Gf r p).next,.slice s.a (Gf r p).Al.length s.c,.slice a2 r.Am.length c2] B,.ow Bz 272 (.slice s.a (Gf r p).Al.length s.c) (Gf r p).Al s.F,.ow A8 9 (.slice s.ae (Lf r p).length s.ce) (Lf r p) s.Fe]) (fun _=>True) ?_ fun s _=>?_
 ·by_cases hk:p.Cp=5
  ·have e1:Gf r p=Eb r p:=by unfold Gf;rw [if_pos hk]
   have e2:Lf r p=[]:=by unfold Lf;rw [if_pos hk]
   refine A1 rfl (fun h=>absurd hk h) (fun _=>?_);rw [e1,e2];refine Db A8 9 ?_;refine go ?_;refine Br (⟨a1,c1,F1,none,0,[]⟩:SkS) trivial
  ·have e1:Gf r p=Mq (Eb r p) p.Ae p.data:=by unfold Gf;rw [if_neg hk]
   have e2:Lf r p=Mf (Eb r p) p.Ae p.data:=by unfold Lf;rw [if_neg hk]
   refine A1 rfl (fun _=>?_) (fun h=>absurd hk h);rw [e1,e2];refine Avj [.bool true,.int .i64 r.Ai] [.int .i64 (Eb r p).next,.slice a1 (Eb r p).Al.length c1] [.slice a2 r.Am.length c2] ?_;refine go ?_;refine As [2,3] [] ?_;refine Dq 0 1 2 3 ?_;refine Ec 4 5 ?_;refine dt 6 ?_;refine dN 7 ?_;refine oC ?_;refine Ca (Azi (Eb r p) p.Ae p.data g t (o+2) (A++[.bool true,.int .i64 r.Ai]) _ a1 c1 F1 s0_ s1_ n0 n1 hw8 hit hps) fun y hy=>?_;obtain ⟨hy1,hy2⟩:=hy;refine dk ?_;refine Dq 8 9 10 11 ?_;refine dd ?_
   refine Ajb [.bool true,.int .i64 r.Ai] [.int .i64 y.y.next,.slice y.a y.y.Al.length y.c] [.slice a2 r.Am.length c2] ?_;rw [←hy1,←hy2];refine go ?_;refine Br (⟨_,_,_,_,_,_⟩:SkS) trivial
 obtain ⟨a3,c3,F3,ae,ce,Fe⟩:=s;dsimp only;refine go ?_;refine Ca (Bdu (Gf r p) true r.Ai p.Ap _ g t o A B a3 c3 F3 htg htr) fun y _=>?_;have hsl:(Po (Gf r p) p.Ap).length≤24:=by unfold M7 at hnl;rw [List.length_append] at hnl;omega
 refine A4 (E:=A8) (xs:=Po (Gf r p) p.Ap) fun G8=>?_;refine go ?_;apply wO;refine Pf (ys:=Po (Gf r p) p.Ap) Dx Gz fun a9 c9 F9=>?_;rw [show Lf r p++Po (Gf r p) p.Ap=M7 r p from rfl,show Pa (Gf r p) p.Ap=Cq r p from rfl];refine go ?_;intros;rename_i g11;refine As [3,6] [9] ?_;refine Dq 0 1 2 3 ?_;refine Ec 4 5 ?_;refine dN 6 ?_;refine oC ?_;refine cfm (M:=[.ow Av 257 (.slice a2 r.Am.length c2) r.Am F2]) (.cons FM .nil) (fun w st=>by
   have r1:=st.on (.row g11 3 0 [] [.int .i64 (Cq r p).next] []) FI;have r2:=st.on (.row g3 377 0 [] [Il g o 0] []) FI;have r3:=st.on (.row g t o A [.bool true,.int .i64 r.Ai,.int .i64 (Cq r p).next,.slice y.a (Cq r p).Al.length y.c,.slice a2 r.Am.length c2] B) FI;obtain ⟨Fw,hFw,hw⟩:=(st.on (.ow Bz 272 (.slice y.a (Cq r p).Al.length y.c) (Cq r p).Al y.F) FI).2.read
   refine ⟨[.cel g11 0 [.int .i64 (Cq r p).next],.cel g3 0 [Il g o 0],.cel g o [.bool true,.int .i64 r.Ai,.int .i64 (Cq r p).next,.slice y.a (Cq r p).Al.length y.c,.slice a2 r.Am.length c2],.isv Bg (.agg #[.int .i64 (Cq r p).next,.slice y.a (Cq r p).Al.length y.c]) (Cq r p) Fw],?_,rfl,?_,Aoj 399 [] [Il g11 0 0,Il g3 0 0] _ rfl r.Am a2 c2 F2 (fun q=>Ajx (Cq r p) q) FJ FH (fun q hq w' hA=>(Be3 q (Cq r p) g11 g3 g o true r.Ai _ y.a y.c Fw v0_ v1_ (hser q hq)).val w' hA)⟩
   ·intro q hq;simp only [List.mem_cons,List.not_mem_nil,or_false] at hq;rcases hq with rfl|rfl|rfl|rfl
    ·exact ⟨FI,Is r1⟩
    ·exact ⟨FI,Is r2⟩
    ·exact ⟨FI,Is r3⟩
    ·exact ⟨_,rfl,_,rfl,hw⟩
   ·intro q hq b hb;simp only [List.mem_cons,List.not_mem_nil,or_false] at hq;rcases hq with rfl|rfl|rfl|rfl
    ·exact ⟨.row g11 3 0 [] [.int .i64 (Cq r p).next] [],FI,hb⟩
    ·exact ⟨.row g3 377 0 [] [Il g o 0] [],FI,hb⟩
    ·exact ⟨.row g t o A [.bool true,.int .i64 r.Ai,.int .i64 (Cq r p).next,.slice y.a (Cq r p).Al.length y.c,.slice a2 r.Am.length c2] B,FI,hb⟩
    ·exact ⟨.ow Bz 272 (.slice y.a (Cq r p).Al.length y.c) (Cq r p).Al y.F,FI,hFw b hb⟩) (fun z _=>?_)
 rw [Be1];refine dk ?_;refine Ec 7 8 ?_;refine dN 9 ?_;refine oS ?_;refine Tf ?_;refine dd ?_;refine go ?_;refine Ca (Azj (Cq r p) (Ei r.Am (Cq r p)) true r.Ai p.Fg d g t o A B y.a y.c y.F z.1 z.2.1 z.2.2 hng hnq P9 hld k0 k1 d0 d1) fun u _=>?_;refine go ?_;refine ret ⟨_,_,_,_,_,_,_,_,_⟩ trivial rfl
structure Bds where
 g:Nat
 a:Option Addr
 c:Nat
 F:List Nat
theorem Ud (x:Ay) (v:Value) (F:List Nat) (hl:x.Aa.Al.length≤1000000000) (hl2:x.Am.length≤1000000000):Fn prog 143 [v] [.isv Bi v x F] [] (fun (_:Value × List Nat)=>True) (fun s=>s.1) (fun s=>[.own Bx s.1 x s.2]):=by
 refine enter func143 rfl ntmps143 fun w0=>?_;refine En ?_;rintro a1 c1 F1 a2 c2 F2 rfl l1 l2;refine go ?_;intros;refine Ew [1,2] [0,1,2,3,4] (fun s:Bds=>[(3,Il s.g 0 0)]) (fun s=>[.row s.g 153 0 [] [.int .i64 x.Aa.next,.slice s.a x.Aa.Al.length s.c] [],.ow Bz 272 (.slice s.a x.Aa.Al.length s.c) x.Aa.Al s.F]) (fun _=>True) ?_ fun s _=>?_
 ·skip
  refine As [1] [] ?_;refine Dq 0 1 2 4 ?_;refine Ec 5 6 ?_;refine dM 3 9 ?_ ?_
  ·apply Mp;rfl;intro _;refine C7 Bz ?_;refine dk ?_;refine dM 7 9 ?_ ?_
   ·refine Pf Iq H5 fun a5 c5 F5=>?_;rw [List.nil_append];refine dk ?_;refine dt 8 ?_;refine dN 9 ?_;apply Cr;rfl;intro _;refine dk ?_;refine dN 10 ?_;refine oS ?_;refine dk ?_;refine dd ?_;refine Br (⟨_,_,_,_⟩:Bds) trivial
   ·apply Cr;rfl;intro _;exact CQ
  ·apply Cr;rfl;intro _;refine dk ?_;refine dN 3 ?_;apply Mp;rfl;intro _;refine C7 Bz ?_;exact CQ
 obtain ⟨g3,a5,c5,F5⟩:=s;dsimp only;refine go ?_;refine As [0,3] [] ?_;refine Dq 0 1 2 3 ?_;refine Ec 4 6 ?_;refine dt 7 ?_;refine dN 5 ?_;apply Mp;rfl;intro _;refine C7 Av ?_;refine dk ?_;refine dN 8 ?_;refine Pf C0 Dl fun a6 c6 F6=>?_;rw [List.nil_append];refine dk ?_;refine dt 9 ?_;refine dN 10 ?_;refine oS ?_;refine dk ?_;refine dd ?_;refine go ?_;refine Iz x ?_;exact AX
theorem Afb (l:List Ax) (w:Aj) (a:Option Addr) (c:Nat) (F:List Nat) (v:Value) (Fw:List Nat) (hl:l.length≤1000000) (hs:∀q∈l,B8 q.Ae=true) (w0_:0≤w.next) (w1_:w.next≤65535):Fn prog 345 [.slice a l.length c,v] [.sl Av (.slice a l.length c) l F,.isv Bg v w Fw] [] (fun (_:Option Addr × Nat × List Nat)=>True) (fun z=>.slice z.1 (Ei l w).length z.2.1) (fun z=>[.ow Av 257 (.slice z.1 (Ei l w).length z.2.1) (Ei l w) z.2.2]):=by
 refine enter func345 rfl ntmps345 fun w0=>?_;refine B9 ?_;rintro a1 c1 F1 rfl l1;refine go ?_;intros;refine C7 Av ?_;refine Cd [0,3,4] (fun s:PkS=>[(6,.int .i64 (s.k:Nat)),(5,.slice s.a (Ei (l.take s.k) w).length s.c)]) (fun s=>[.ow Av 257 (.slice s.a (Ei (l.take s.k) w).length s.c) (Ei (l.take s.k) w) s.F]) (fun s=>s.k≤l.length) (fun s=>l.length - s.k) ⟨0,_,_,_⟩ (Nat.zero_le _) fun s hk=>?_;obtain ⟨k,a4,c4,F4⟩:=s;dsimp only at hk ⊢;refine go ?_;refine A1 rfl (fun h4=>?_) (fun h4=>?_)
 ·have hk:k < l.length:=FH
  have hkl:(Ei (l.take k) w).length≤k:=Nat.le_trans (List.length_filter_le _ _) FY;have hsk:=hs _ (List.getElem_mem hk);obtain ⟨n0,n1⟩:=Bc.1 hsk;have en:∀b,(!(Up l[k].Ae w.next || I4 w l[k].Ae) && decide (gp w.next l[k].Ae < 8))=b→Ei (l.take (k+1)) w=Ei (l.take k) w++if b then [l[k]] else []:=fun b hb=>by
   unfold Ei;rw [List.take_add_one,List.getElem?_eq_getElem hk,List.filter_append]
   congr 1
   show ([l[k]].filter _)=_;rw [List.filter_cons,List.filter_nil,hb]
  refine Jd (xs:=l) k ?_;rintro hi b o e;rw [e];refine go ?_;cases g5:(Up l[k].Ae w.next || I4 w l[k].Ae)
  ·skip
   refine As [0,2] [] ?_;refine Dq 0 1 2 3 ?_;refine Ec 4 5 ?_;refine dN 6 ?_;refine oC ?_;refine Ca (Adw w l[k].Ae _ Fw w0_ w1_ n0 n1) fun _ _=>?_;rw [show Hj w l[k].Ae=(Up l[k].Ae w.next || I4 w l[k].Ae) from rfl,g5];refine dk ?_;refine Ec 7 8 ?_;refine Do 9 ?_;refine Do 10 ?_;refine Do 11 ?_;refine Do 12 ?_;refine Do 13 ?_;refine Do 14 ?_;refine Do 15 ?_;refine d1g 16 ?_;apply On.h;refine oC ?_;refine ce (fun w s=>Jq _ _ _ FH FH) ?_;refine dk ?_;refine Do 17 ?_;refine dt 18 ?_;refine dd ?_;refine go ?_;refine A1 rfl (fun h6=>?_) (fun h6=>?_)
   ·have e1:=en true (by rw [g5,decide_eq_true h6];rfl);refine go ?_;intros;apply wO;refine Ps (ys:=[l[k]]) (Of l[k]) C0 fun a7 c7 F7=>?_;refine go ?_;rw [show Ei (l.take k) w++[l[k]]=Ei (l.take (k+1)) w from e1.symm];exact CG
   ·have e1:=en false (by rw [g5,decide_eq_false h6];rfl);refine go ?_;rw [show Ei (l.take k) w=Ei (l.take (k+1)) w by rw [e1];simp];exact CG
  ·skip
   refine As [0,2] [] ?_;refine Dq 0 1 2 3 ?_;refine Ec 4 5 ?_;refine dN 6 ?_;refine oC ?_;refine Ca (Adw w l[k].Ae _ Fw w0_ w1_ n0 n1) fun _ _=>?_;rw [show Hj w l[k].Ae=(Up l[k].Ae w.next || I4 w l[k].Ae) from rfl,g5];refine dk ?_;refine Ec 7 8 ?_;refine ds 9 ?_;refine ds 10 ?_;refine ds 11 ?_;refine ds 12 ?_;refine ds 13 ?_;refine ds 14 ?_;refine ds 15 ?_;refine ds 16 ?_;refine ds 17 ?_;refine dt 18 ?_;refine dd ?_;have e1:=en false (by rw [g5];rfl);refine go ?_;rw [show Ei (l.take k) w=Ei (l.take (k+1)) w by rw [e1];simp]
   exact CG
 have hk:k=l.length:=FH
 subst hk;rw [List.take_length];refine go ?_;exact BK
structure GvS where
 g:Nat
 y:Adh
theorem Ady (r:Ay) (d:Int) (v:Value) (F:List Nat) (hg:Mn r) (d0:0≤d) (d1:d≤100) (_hx:r.Ai≤99999) :
  Fn prog 292 [v,.int .i64 d] [.isv Bi v r F] [] (fun (_:TkR)=>True) (fun s=>.tuple #[.agg #[.bool (Cv r d).Bd,.int .i64 (Cv r d).Ai,.int .i64 (Cv r d).Aa.next,.slice s.a1 (Cv r d).Aa.Al.length s.c1,.slice s.a2 (Cv r d).Am.length s.c2],.slice s.a3 (E8 r).length s.c3,.slice s.a4 (Hw r).length s.c4])
   (fun s=>[.isv Bi (.agg #[.bool (Cv r d).Bd,.int .i64 (Cv r d).Ai,.int .i64 (Cv r d).Aa.next,.slice s.a1 (Cv r d).Aa.Al.length s.c1,.slice s.a2 (Cv r d).Am.length s.c2]) (Cv r d) s.F1,.ow Ak 233 (.slice s.a3 (E8 r).length s.c3) (E8 r) s.F3,.ow A8 9 (.slice s.a4 (Hw r).length s.c4) (Hw r) s.F4]):=by
 have k0:=hg.k0;have k1:=hg.k1;obtain ⟨-,q1,q2, -⟩:=De.1 hg.q;obtain ⟨w0_,w1_⟩:=Ip hg.w;obtain ⟨hw8,hit⟩:=Kx hg.w;have hpl:(r.Am.filterMap (Q4 (r.Ai+1))).length≤8:=Nat.le_trans (List.length_filterMap_le _ _) q1;refine enter func292 rfl ntmps292 fun w0=>?_;refine En (v:=v) (x:=r) (F:=F) ?_;rintro a1 c1 F1 a2 c2 F2 rfl l1 l2;refine go ?_;intros;refine Ca (Ud r _ F FH FH) fun u _=>?_;refine Ic ?_;rintro a5 c5 F5 a6 c6 F6 e6 - -;rw [e6];refine A4 (E:=Bz) fun G5=>?_;refine go ?_;intros
 refine Ca (Aw8 r.Am (r.Ai+1) d a2 c2 F2 FH (fun q hq=>⟨(Er.1 (q2 q hq)).t0,(Er.1 (q2 q hq)).t1⟩) FH FH FH FH) fun z _=>?_;rw [show r.Am.filterMap (Vd (r.Ai+1))=C5 r from rfl,show r.Am.filterMap (U3 (r.Ai+1) d)=Ob r d from rfl];refine A4 (E:=Bb) (xs:=r.Am.filterMap (Q4 (r.Ai+1))) fun G2=>?_;refine A4 (E:=Bb) (xs:=C5 r) fun G3=>?_;refine C7 A8 ?_;refine C7 Ak ?_;refine go ?_
 refine Cd [2,4,5,6,7,9,11,12] (fun s:PkS=>[(13,.int .i64 (s.k:Nat)),(8,.slice s.a (((r.Am.filterMap (Q4 (r.Ai+1))).take s.k).map (pkR r.Aa.next)).length s.c)]) (fun s=>[.ow Ak 233 (.slice s.a (((r.Am.filterMap (Q4 (r.Ai+1))).take s.k).map (pkR r.Aa.next)).length s.c) (((r.Am.filterMap (Q4 (r.Ai+1))).take s.k).map (pkR r.Aa.next)) s.F]) (fun s=>s.k≤(r.Am.filterMap (Q4 (r.Ai+1))).length) (fun s=>(r.Am.filterMap (Q4 (r.Ai+1))).length - s.k) ⟨0,_,_,_⟩ (Nat.zero_le _) fun s hs=>?_;obtain ⟨k,a4,c4,F4⟩:=s;dsimp only at hs ⊢;generalize hsn:r.Am.filterMap (Q4 (r.Ai+1))=sn at *;refine go ?_
 refine A1 rfl (fun h4=>?_) (fun h4=>?_)
 ·have hk:k < sn.length:=FH
  have hkl:((sn.take k).map (pkR r.Aa.next)).length≤k:=FO
  refine I6 (xs:=sn) k ?_;rintro hi b o2 e;rw [e];refine go ?_;have eo:(sn.take (k+1)).map (pkR r.Aa.next)=(sn.take k).map (pkR r.Aa.next)++[pkR r.Aa.next sn[k]]:=KS
  refine As [0,10] [] ?_;refine Dq 0 1 2 3 ?_;refine Dq 4 5 6 7 ?_;refine Dq 8 9 10 11 ?_;refine dN 12 ?_;apply Lr;rfl;rfl;rfl;rfl;exact Ll;exact Kv;intro _;refine dk ?_;refine dN 13 ?_;refine Ps (ys:=[pkR r.Aa.next sn[k]]) (Dc (pkR r.Aa.next sn[k]) (by show (0:Nat)≤maxLen;exact Nat.zero_le _)) Hg fun a7 c7 F7=>?_;refine dk ?_;refine dt 14 ?_;refine dd ?_;exact EE
 have hk:k=sn.length:=FH
 subst hk;rw [List.take_length];have ep:E8 r=sn.map (pkR r.Aa.next):=by unfold E8;rw [hsn]
 rw [ep];refine go ?_;by_cases hL:C5 r=[]
 ·refine A1 rfl (fun h=>absurd h (by rw [hL];decide)) (fun _=>?_);rw [Aje hL,Arg hL];refine go ?_;refine A4 (E:=Av) fun F8=>?_;refine Ep (a1:=a5) ⟨r.Bd,r.Ai+1,r.Aa,Ob r d⟩ ?_;refine ret ⟨_,_,_,_,_,[],_,_,_,_,_,_⟩ trivial rfl
 ·have hl0:=List.length_pos_iff.2 hL;refine A1 rfl (fun _=>?_) (fun h=>absurd h FH);rw [Aer hL,Amf hL];obtain ⟨hs8,hsr⟩:=Agl hg hL;have hll8:=Ajg r;obtain ⟨hs0,hs1⟩:=Bc.1 hsr;have hll:=Alr hL;obtain ⟨l0,l1⟩:=Bc.1 (Aes hg (List.getElem_mem (show (C5 r).length - 1 < (C5 r).length by omega))).1;have hi1:((C5 r).length:Int) - 1=(((C5 r).length - 1:Nat):Int):=FH
  refine By (a1:=a5) r.Aa ?_;generalize G5=FW;refine I6 (xs:=C5 r) ((C5 r).length - 1) ?_;rintro hi b o2 e;rw [e];refine go ?_;refine Ew [4,5,6,7,8,9] [2,3,6,7,10,14] (fun s:GvS=>[(15,Il s.g 0 0),(16,.slice s.y.ae s.y.es.length s.y.ce)]) (fun s=>[.row s.g 153 0 [] [.int .i64 s.y.y.next,.slice s.y.a s.y.y.Al.length s.y.c] [],.isv Bg (.agg #[.int .i64 s.y.y.next,.slice s.y.a s.y.y.Al.length s.y.c]) s.y.y s.y.F,.ow A8 9 (.slice s.y.ae s.y.es.length s.y.ce) s.y.es s.y.Fe]) (fun s=>s.y.y=Jh r.Aa (Dh (C5 r))∧s.y.es=Jg r.Aa (Dh (C5 r))) ?_ fun s hy=>?_
  ·skip
   refine As [0,7] [] ?_;refine Dq 0 1 2 3 ?_;refine dt 4 ?_;rw [hi1];refine Ec 5 6 ?_;refine dM 7 12 ?_ ?_
   ·refine oC ?_;refine ce (fun w s=>Lu _ _ _ FH FH) ?_;rw [←hll];refine dk ?_;refine dM 8 12 ?_ ?_
    ·refine oC ?_;refine Ca (Uy r.Aa (Dh (C5 r)) _ FW w0_ w1_ hs0 hs1 hw8 hit) fun y hy=>?_;refine dk ?_;refine Ec 9 10 ?_;refine dt 11 ?_;refine dN 12 ?_;apply Cr;rfl;intro _;refine dk ?_;refine dN 13 ?_;refine oS ?_;refine dk ?_;refine dt 14 ?_;refine dd ?_;refine Br (⟨_,y⟩:GvS) hy
    ·apply Cr;rfl;intro _;exact BS
   ·apply Cr;rfl;intro _;refine dk ?_;refine dN 7 ?_;refine oC ?_;refine ce (fun w s=>Lu _ _ _ FH FH) ?_;rw [←hll];exact BS
  obtain ⟨g15,y⟩:=s;dsimp only at hy ⊢;obtain ⟨hy1,hy2⟩:=hy;have hmv:=Vz (t:=Dh (C5 r)) hg.w;have hm0:0≤y.y.next:=by rw [hy1,hmv.1];exact (J4 _ _).1
  have hm1:y.y.next≤65535:=by rw [hy1,hmv.1];exact (J4 _ _).2
  have hes:y.es.length≤100:=by rw [hy2];have:=hmv.2.2.1;have:=@Zs r.Aa.next (Dh (C5 r));omega
  refine A4 (E:=A8) (xs:=y.es) fun G8=>?_;refine go ?_;apply wO;refine Pf (ys:=y.es) Dx Gz fun a9 c9 F9=>?_;rw [List.nil_append];refine A4 (E:=Av) (xs:=Ob r d) fun F8=>?_;refine go ?_;refine Ca (Afb (Ob r d) y.y z.a z.c F8 _ y.F (by have:=Aet r d;omega) (fun q hq=>(Ac2 hg hq).1) hm0 hm1) fun u2 _=>?_;rw [hy1,Afv hg hL,←hy1];refine go ?_;refine B9 (x:=y.y) ?_;rintro b1 d1 G1 e5 m1;simp only [Value.agg.injEq,Array.mk.injEq,List.cons.injEq,Value.slice.injEq,true_and,and_true] at e5;obtain ⟨rfl,rfl⟩:=e5;refine A4 (E:=Av) (xs:=Aag (Ob r d) y.y.next) fun F10=>?_
  refine Ep ⟨r.Bd,r.Ai+1,y.y,Aag (Ob r d) y.y.next⟩ ?_;rw [←hy2];refine ret ⟨_,_,_,_,_,[],_,_,_,_,_,_⟩ trivial rfl
def Ayy (md:Region.Mode) (ops:Array Oper) (X:Nat→Bool) (listed:Array Bool) (i:Nat):Bool:=(List.range ops.size).all fun j=>!X j || listed.getD j false || T5 md ops i ops.size j
section
variable {P:Program} {md:Region.Mode} {ops:Array Oper} {Q:Exit→Act→World→Prop} {S:World→Prop} {X:Nat→Bool}
theorem E9.firstL {i:Nat} {oi:Oper} {v:Value} (hi:ops[i]?=some oi) (hsel:∀(j:Nat) (o:Oper) cs b,ops[j]?=some o→o.op≠.select cs b)
  (hQ:∀c a w,Q (.panic c) (a.put oi.dst v) w→Q (.panic c) a w) :
  ∀(f:Nat) (listed:Array Bool) (a:Act) (w:World),(∀j,j < ops.size→X j=true→listed.getD j false=false→T5 md ops i ops.size j=true) →
   (∀j oj,ops[j]?=some oj→j≠i→listed.getD j true=false→(∀e∈oj.after,Region.binds md e=true→e.on≠i)→oi.apart ops oj=true) →
   Aan md ops listed→i∈Region.ready md ops listed→YieldsIf P ops S oi v a→S w→E9 P md ops Q S X f (listed.setIfInBounds i true) (a.put oi.dst v) w→E9 P md ops Q S X (f+1) listed a w:=by
 intro f
 induction f with
 | zero =>
  intro listed a w _ _ _ hr hy hS H;refine ⟨fun h=>IJ,fun j hj=>?_⟩;by_cases hji:j=i
  ·exact ET
  ·have:=ready_mono hj hji;rw [H.1] at this;cases this
 | succ f ih =>
  intro listed a w hX hfree hcl hr hy hS H;refine ⟨fun h=>IJ,fun j hj=>?_⟩;by_cases hji:j=i
  ·exact ET
  ·obtain ⟨hju,oj,hoj,hall⟩:=mem_ready.1 hj;have hiu:=Y6 (mem_ready.1 hr).1;have hnot:∀e∈oj.after,Region.binds md e=true→e.on≠i:=fun e he hb heq=>by
    have h1:=hall e he hb;rw [heq,hiu] at h1;cases h1
   have hXj:X j=false:=by
    cases hx:X j
    ·rfl
    ·have h2:=Xl hcl ops.size j (fun o ho=>by obtain rfl:=Option.some.inj (ho.symm.trans hoj);exact hall) (hX j (Array.getElem?_eq_some_iff.1 hoj).1 hx (Y6 hju));rw [hiu] at h2;cases h2
   have h2:=wpOp_putIf hoj (hfree j oj hoj hji hju hnot) (fun cs b=>hsel i oi cs b hi) (fun cs b=>hsel j oj cs b hoj) hQ hy (H.2 j (ready_mono hj hji));refine wpOp_mono (fun a' w' h3=>⟨fun _=>h3.2.1 hXj,ih (listed.setIfInBounds j true) a' w' (fun k hk hx hun=>hX k hk hx ?_) (fun k ok hk hki hun hno=>hfree k ok hk hki ?_ hno) (hcl.set hj) (ready_mono hr (Ne.symm hji)) h3.1 (h3.2.1 hXj) ?_⟩) h2
   ·by_cases hjk:j=k
    ·subst hjk;exact Y6 hju
    ·rw [getD_set_ne false hjk] at hun;exact hun
   ·by_cases hjk:j=k
    ·subst hjk;exact hju
    ·rw [getD_set_ne true hjk] at hun;exact hun
   ·rw [Array.setIfInBounds_comm _ _ hji];exact h3.2.2
end
section
variable {c:Cx} {fr:Fr} {H H0:List Pc} {k:List It} {X:List Nat} {ops:Array Oper} {f:Nat} {listed:Array Bool} {d:Nat} {o:Op} {ty:TypeId} {pos:String} {Cf:Array Edge} {v:Value}
theorem dtl (i:Nat) (h:T c ((d,v)::fr) H (.dx k H0 X ops f (listed.setIfInBounds i true))) (ho:ops[i]?=some ⟨some d,o,ty,pos,Cf,none⟩:=by rw [List.getElem?_toArray];rfl) (hy:Yd c.P c.n fr H0 o ty v:=by exact ydE) (hs:Nc H0 H:=by repeat (first|exact Nc.nil|refine Nc.cons FL ?_))
  (h1:Region.noSelect ops=true:=by kernel_rfl) (h2:Region.free .any ops listed i=true:=by kernel_rfl) (h3:(Region.ready .any ops listed).contains i=true:=by kernel_rfl) (h4:Ayy .any ops (fun i=>X.contains i) listed i=true:=by kernel_rfl) (h5:Ng .any ops listed=true:=by kernel_rfl) (hR:X7 c:=by exact Aai) (hd:Nat.blt d c.n=true:=by rfl) :
  T c fr H (.dx k H0 X ops (f+1) listed):=.mk fun a w s g =>
 E9.firstL ho (Region.noSelect_spec h1) (fun ch a w hp=>by rw [M4] at hp ⊢;exact hR _ _ _ _ _ hp) f listed a w (fun j hj hx hl=>by
   have:=List.all_eq_true.1 h4 j (List.mem_range.2 hj);dsimp only at this;rw [hx,hl] at this;simpa using this) (Region.free_spec ho h2) (Akt h5) IV (.inl ⟨rfl,fun w' hw'=>hy.h a w' _ _ _ _ g hw'⟩) (fun p hp=>s.on p (hs.all p hp)) (h.h _ _ s (g.put hd))
end
theorem Bdp (fid:FuncId) (bd caps:List Value) (A:List Pc) (hA:A.all (fun p=>!p.mu)=true) (xs:List Ar) (a:Option Addr) (c:Nat) (F:List Nat) (p:Ar→Bool) (hb:Sb prog fid=true) (hl:xs.length≤1000000000)
  (hp:∀x∈xs,∀w,Od A w→Calls prog fid (bd++[(.agg #[.int .i64 (x).Cp,.int .i64 (x).Ae,.int .i64 (x).Ap,.int .i64 (x).Fg,.string (x).data]:Value)]++caps).toArray w (RB (.bool (p x)) w)) :
  Fn prog 245 [.slice a xs.length c,.func (.func fid) bd.toArray caps.toArray] (.sl Ak (.slice a xs.length c) xs F::A) [] (fun (_:Unit)=>True) (fun _=>.int .i64 (Ss p xs)) (fun _=>[]):=by
 refine enter func245 rfl ntmps245 (fun w0=>?_) rfl GP .nil;refine go ?_;refine Eh [0,1,4,7] (fun k:Nat=>[(8,.int .i64 (k:Nat))]) (fun k=>k≤xs.length∧∀j (_:j < k) (hj:j < xs.length),p xs[j]=false) (fun k=>xs.length - k) 0 ⟨Nat.zero_le _,fun j h=>by omega⟩ fun k hk=>?_;obtain ⟨hk1,hk2⟩:=hk;refine go ?_;refine A1 rfl (fun h5=>?_) (fun h5=>?_)
 ·have hh:k < xs.length:=FH
  refine go ?_;refine Sa (xs:=xs) k ?_;rintro hi b o e sz;rw [e];refine go ?_;apply wO;refine Acj rfl rfl hb X0 ?_;refine cb (fun w st=>hp xs[k] (List.getElem_mem hh) w (fun q hq=>st.on q GQ)) ?_;cases hpk:p xs[k]
  ·refine go ?_;refine Xg ?_;refine Cg (hH:=Lt _) (k+1) ⟨hh,fun j hj h=>?_⟩ FH;rcases Nat.lt_or_eq_of_le (Nat.lt_succ_iff.1 hj) with h2|rfl
   ·exact hk2 j h2 h
   ·exact hpk
  ·refine go ?_;refine ret () trivial ?_;rw [Ph hh hk2 hpk];rfl
 ·obtain rfl:k=xs.length:=FH
  exact BP
theorem Aud (fid:FuncId) (bd caps:List Value) (A:List Pc) (hA:A.all (fun p=>!p.mu)=true) (xs:List Ar) (a:Option Addr) (c:Nat) (F:List Nat) (p:Ar→Bool) (hb:Sb prog fid=true) (hl:xs.length≤1000000000)
  (hp:∀x∈xs,∀w,Od A w→Calls prog fid (bd++[(.agg #[.int .i64 (x).Cp,.int .i64 (x).Ae,.int .i64 (x).Ap,.int .i64 (x).Fg,.string (x).data]:Value)]++caps).toArray w (RB (.bool (p x)) w)) :
  Fn prog 173 [.slice a xs.length c,.func (.func fid) bd.toArray caps.toArray] (.sl Ak (.slice a xs.length c) xs F::A) [] (fun (_:Unit)=>True) (fun _=>.bool (xs.any p)) (fun _=>[]):=by
 refine enter func173 rfl ntmps173 (fun w0=>?_) rfl GP .nil;refine go ?_;refine cb (fun w st=>(Bdp fid bd caps A hA xs a c F p hb hl hp).val w (fun q hq=>st.on q (by simpa using hq)) GP) ?_;refine go ?_;refine ret () trivial ?_;rw [T9];rfl
theorem Bdt (r:Ay) (p:Ar) (d:Int) (g t o:Nat) (A B:List Value) (a1:Option Addr) (c1:Nat) (F1:List Nat) (a2:Option Addr) (c2:Nat) (F2:List Nat) (hg:Mn r) (hp:Bt p=true) (d0:1≤d) (d1:d≤8) :
  Fn prog 329 [Il g o 0,.agg #[.int .i64 p.Cp,.int .i64 p.Ae,.int .i64 p.Ap,.int .i64 p.Fg,.string p.data],.int .i64 d] [] [.row g t o A [.bool r.Bd,.int .i64 r.Ai,.int .i64 (r.Aa).next,.slice a1 (r.Aa).Al.length c1,.slice a2 (r.Am).length c2] B,.ow Bz 272 (.slice a1 (r.Aa).Al.length c1) (r.Aa).Al F1,.ow Av 257 (.slice a2 (r.Am).length c2) (r.Am) F2] (fun (_:NwS)=>True)
   (fun s=>.slice s.ae (Io r p).length s.ce) (fun s=>[.row g t o A [.bool (Di r p d).Bd,.int .i64 (Di r p d).Ai,.int .i64 ((Di r p d).Aa).next,.slice s.a1 ((Di r p d).Aa).Al.length s.c1,.slice s.a2 ((Di r p d).Am).length s.c2] B,.ow Bz 272 (.slice s.a1 ((Di r p d).Aa).Al.length s.c1) ((Di r p d).Aa).Al s.F1,.ow Av 257 (.slice s.a2 ((Di r p d).Am).length s.c2) ((Di r p d).Am) s.F2,.ow A8 9 (.slice s.ae (Io r p).length s.ce) (Io r p) s.Fe]):=by
 have k0:=hg.k0;have k1:=hg.k1;obtain ⟨-,q1,q2, -⟩:=De.1 hg.q;obtain ⟨n0,n1⟩:=Kw hp;refine enter func329 rfl ntmps329 fun w0=>?_;refine go ?_;intros;by_cases hk1:p.Cp=1
 ·rw [decide_eq_true hk1];rw [show Di r p d=Lo r p d by unfold Di Mj;simp [hk1],show Io r p=M7 r p by unfold Io Mj;simp [hk1]];exact BH
 rw [decide_eq_false hk1];refine go ?_;by_cases hk2:p.Cp=2
 ·rw [decide_eq_true hk2];rw [show Di r p d=Lo r p d by unfold Di Mj;simp [hk2],show Io r p=M7 r p by unfold Io Mj;simp [hk2]];exact BH
 rw [decide_eq_false hk2];refine go ?_;by_cases hk5:p.Cp=5
 ·rw [decide_eq_true hk5];rw [show Di r p d=Lo r p d by unfold Di Mj;simp [hk5],show Io r p=M7 r p by unfold Io Mj;simp [hk5]];exact BH
 rw [decide_eq_false hk5];refine go ?_;refine Db A8 9 ?_;have eE:Io r p=[]:=by unfold Io Mj;simp [hk1,hk2,hk5]
 by_cases hk4:p.Cp=4
 ·rw [decide_eq_true hk4];cases hs:r.Bd
  ·rw [show Di r p d=r by unfold Di Mj;simp [hk1,hk2,hk5,hs],eE,hs];refine go ?_;refine ret ⟨_,_,_,_,_,_,none,0,_⟩ trivial rfl
  ·rw [show Di r p d=Ao2 r p by unfold Di Mj;simp [hk4,hs],eE,show (Ao2 r p).Bd=true from hs];refine go ?_;refine As [0,1,2] [0,18,19,20,21,22] ?_;refine dtp 0 ?_;refine dtl 1 ?_;refine dtl 2 ?_;refine dtl 3 ?_;refine dtl 4 ?_;refine dtl 5 ?_;refine dtl 6 ?_;refine dtl 7 ?_;refine dtl 8 ?_;refine dtl 9 ?_;refine dtl 10 ?_;refine dtl 11 ?_;refine dtl 12 ?_;refine dtl 13 ?_;refine dtl 14 ?_;refine dtl 15 ?_;refine dN 16 ?_;refine oC ?_
   refine cfr (fun w st=>by obtain ⟨Fq, -,hq9⟩:=(st.get (p:=.ow Av 257 (.slice a2 r.Am.length c2) r.Am F2) FI).2.read;exact ⟨[.sl Av (.slice a2 r.Am.length c2) r.Am Fq],El ⟨FK,hq9⟩,rfl,Adc r.Am r.Aa.next p.Ae r.Ai a2 c2 Fq hg.q (Bc.2 ⟨n0,n1⟩) k0 k1⟩) (fun u _=>?_);refine dk ?_;refine dtl 17 ?_;refine dtp 18 ?_;refine dtp 19 ?_;refine dtp 20 ?_;refine dtp 21 ?_;refine dN 22 ?_;refine oS ?_;refine Tf ?_;refine dd ?_;refine go ?_;refine ret ⟨_,_,_,_,_,_,none,0,_⟩ trivial rfl
 rw [decide_eq_false hk4];rw [show Di r p d=r by unfold Di Mj;simp [hk1,hk2,hk5,hk4],eE];refine go ?_;refine ret ⟨_,_,_,_,_,_,none,0,_⟩ trivial rfl
structure HaS where
 k:Nat
 a1:Option Addr
 c1:Nat
 F1:List Nat
 a2:Option Addr
 c2:Nat
 F2:List Nat
 ae:Option Addr
 ce:Nat
 Fe:List Nat
structure EcS where
 k:Nat
 a:Option Addr
 c:Nat
 F:List Nat
theorem Ry {α:Type} {O:Bn α} {P:Program} {f:FuncId} {args:List Value} {x:α} {A:List Pc} (h:Fn P f args A [] (fun (_:Value × List Nat)=>True) (fun z=>z.1) (fun z=>[.own O z.1 x z.2])) (hA:A.all (fun p=>!p.mu)=true) {w:World} (hH:Od A w):Calls P f args.toArray w (Wm O x w):=by
 refine (h.made w hH (fun _=>rfl) hA).mono ?_;rintro e w' ⟨z, -,he,hh,hn,hF,hB⟩;obtain ⟨h1,h2⟩:=hh (.own O z.1 x z.2) FI;exact ⟨z.1,z.2,he,h2,h1,fun b hb=>hF b KX,hB⟩
theorem Axb (v:Value) (e:Bf) (F:List Nat) (hm:e.Ah.length≤4294967296) (hm2:∀x∈e.Ah,x.Bj.length≤4294967296):Fn prog 142 [v] [.isv Bk v e F] [] (fun (_:Value × List Nat)=>True) (fun z=>z.1) (fun z=>[.own B4 z.1 e z.2]):=by
 refine enter func142 rfl ntmps142 fun w0=>?_;refine Fh ?_;rintro a1 c1 F1 rfl l1;refine Db Dz 253 ?_;refine go ?_;intros;rename_i g;refine Cd [1,2,3] (fun y:EcS=>[(4,.int .i64 (y.k:Nat))]) (fun y=>[.row g 149 0 [] [.int .i64 e.Ai,.slice y.a (e.Ah.take y.k).length y.c] [],.ow Dz 253 (.slice y.a (e.Ah.take y.k).length y.c) (e.Ah.take y.k) y.F]) (fun y=>y.k≤e.Ah.length) (fun y=>e.Ah.length - y.k) ⟨0,none,0,[]⟩ (Nat.zero_le _) fun y hy0=>?_;obtain ⟨k,ya,yc,yF⟩:=y;dsimp only at hy0 ⊢;have htk:(e.Ah.take k).length=k:=FY
 refine go ?_;refine A1 rfl (fun h1=>?_) (fun h1=>?_)
 ·have hk:k < e.Ah.length:=FH
  have hfl:=hm2 _ (List.getElem_mem hk);refine Wp (xs:=e.Ah) k ?_;rintro hi b8 o8 a8 c8 F8 e8 l8;rw [e8];refine go ?_;intros;refine As [0,3] [13] ?_;refine Dq 0 1 2 3 ?_;refine Dq 4 5 7 8 ?_;refine dN 6 ?_;refine oC ?_;refine cn (fun w st=>Acf _ e.Ah[k].Bj F8 w (st.get (p:=.sl Bb (.slice a8 e.Ah[k].Bj.length c8) e.Ah[k].Bj F8) FL).2 FH) fun a9 c9 F9=>?_;refine M6 e.Ah[k] ?_;refine dk ?_;refine dt 9 ?_;refine dN 10 ?_;apply Lr;rfl;rfl;rfl;rfl;exact Ll;exact Kv;intro _;refine dk ?_;refine dN 11 ?_;refine Adi Re e.Ah[k] rfl fun x4 d4 G4=>?_;refine dk ?_;refine dt 12 ?_
  refine dN 13 ?_;refine oS ?_;refine Tf ?_;refine dd ?_;rw [←List.take_succ_eq_append_getElem hk];refine go ?_;refine Cg ⟨k+1,x4,d4,G4⟩ hk (by show e.Ah.length - (k+1) < e.Ah.length - k;omega)
 ·rw [show e.Ah.take k=e.Ah from List.take_of_length_le FH];refine go ?_;refine E6 e ?_;exact AX
theorem Ym (v:Value) (e:Bf) (F:List Nat) (w:World) (h:Jz Bk w v e F) (hm:e.Ah.length≤4294967296) (hm2:∀x∈e.Ah,x.Bj.length≤4294967296):Calls prog 142 #[v] w (Wm B4 e w):=Ry (Axb v e F hm hm2) rfl (El h)
def Fj (e:Bf):Bf:=⟨e.Ai+1,e.Ah.filter fun x=>!decide (x.Ce≤e.Ai+1)⟩
theorem Sl.headIn {α:Type} {E:Bn α} {w:World} {b off n cap:Nat} {xs:List α} {F} (h:Sl E w (.slice (some ⟨b,off,none⟩) n cap) xs F) (k:Nat) (hk:k < xs.length):b∈F:=by
 obtain ⟨a',cap',hv,hl,h⟩:=h;cases hv;rcases h with ⟨rfl,_⟩|⟨b,off,F',he,_,rfl,hc⟩
 ·simp at hk
 ·cases he;simp
theorem Axc (v:Value) (e:Bf) (F:List Nat) (w:World) (h:Jz Bk w v e F) (hc:Ky e.Ai=true) (hm:e.Ah.length≤4294967296) (hm2:∀x∈e.Ah,x.Bj.length≤4294967296) :
  Calls prog 291 #[v] w (Bi0 Bk (Fj e) w):=by
 have hcb:=Oz.1 hc;have hm2:=Lib.hid hm2;have h0:=h;obtain ⟨_,rfl,v1,rfl,h1⟩:=h;obtain ⟨a,cap,rfl⟩:=h1.slice;have hB0:∀A B:Obj,Below w.heap.size w ((w.alloc A).alloc B):=fun A B=>((Below.refl _ _).alloc (Nat.le_refl _) _).alloc FI _
 go_enter func291,ntmps291
 go_wp2_with fail;refine (Ym _ e F _ (h0.below (hB0 _ _)) hm hm2.out).mono ?_;rintro e' w1 ⟨_,Fo,rfl,⟨_,rfl,v2,rfl,ho⟩,hn,hFo,hb1⟩;obtain ⟨a2,cap2,rfl⟩:=ho.slice;have r0:=Ii.below (g:=w.heap.size) (t:=149) (cs:=[.int .i64 e.Ai,.slice a e.Ah.length cap]) HE hb1;have r1:=Ii.below (g:=w.heap.size+1) (t:=149) (cs:=[.int .i64 0,.slice none 0 0]) HE hb1;obtain ⟨Fr,hFr,hs⟩:=ho.sl Rn;have hFl:=ho.lt;have hB:=tr (hB0 _ _) hb1 (Nat.le_refl _);have d0:=fun A=>(r0.alloc A).cells;have c0:=r0.cells;clear hb1;go_wp2_with fail
 go_loopw [5] (fun i wr=>∃k:Nat,k≤e.Ah.length∧i=.int .i64 k∧∃oa oc F,Hid (Ow Ds 253 wr (.slice oa ((e.Ah.take k).filter fun x=>!decide (x.Ce≤e.Ai+1)).length oc) ((e.Ah.take k).filter fun x=>!decide (x.Ce≤e.Ai+1)) F)∧Hd F∧(∀b,oa=some b→w1.heap.size+1+1≤b.block)∧(∀c∈F,w.heap.size+2≤c∧c≠w1.heap.size∧c≠w1.heap.size+1) ∧
  Ii wr (w.heap.size+1) 149 [.int .i64 0,.slice none 0 0]∧Ii wr w1.heap.size 149 [.int .i64 e.Ai,.slice a2 e.Ah.length cap2]∧Ii wr (w1.heap.size+1) 149 [.int .i64 (e.Ai+1),.slice oa ((e.Ah.take k).filter fun x=>!decide (x.Ce≤e.Ai+1)).length oc]∧Below w1.heap.size w1 wr) (fun i _=>e.Ah.length - (intOf i).toNat)
 case atStart=>exact ⟨0,Nat.zero_le _,rfl,none,0,[],Lib.hid (.inl ⟨rfl,FI,rfl⟩),Hd.nil,FI,FI,(r1.alloc _).alloc _,by simp [Jk],by simp [Jk],((Below.refl _ _).alloc (Nat.le_refl _) _).alloc FI _⟩
 case round =>
  obtain ⟨k,hk,rfl,oa,oc,F2,hO,hd2,hoa,hF2,hr1,hr2,hr3,hB2⟩:=hrel;have c1:=hr2.cells;have c2:=hr3.cells;have c4:=hr1.cells;have f4:=hr1.frozens;by_cases hlt:k < e.Ah.length
  ·obtain ⟨b,off,_,F1,rfl,hx,hFx,ja⟩:=(hs.below FK hB2).at k hlt;obtain ⟨u1,rfl,hf⟩:=id hx;obtain ⟨fa,fc,rfl⟩:=hf.slice;have a0:=ja 0 FK;have a1:=ja 1 FK;have a2:=ja 2 FK;simp only [show Ds.sz=3 from rfl,Nat.add_zero,List.getElem?_cons_zero,List.getElem?_cons_succ] at a0 a1 a2;clear ja;by_cases hq:e.Ah[k].Ce > e.Ai+1
   ·have hqf:=Lib.hid (Hk (q:=fun x:Gj=>!decide (x.Ce≤e.Ai+1)) hlt FO);generalize hys:((e.Ah.take k).filter fun x=>!decide (x.Ce≤e.Ai+1))=ys at *;have hys:=Lib.hid hys;go_wp2_with fail
    go_quiet (fail)
    go_wp2_with fail;have D1:=show Ii (wr.drewN nq) _ _ _ from hr1;have D2:=show Ii (wr.drewN nq) _ _ _ from hr2;have D3:=show Ii (wr.drewN nq) _ _ _ from hr3;have DO:=Lib.hid (show Ow Ds 253 (wr.drewN nq) _ _ _ from hO.out.frame fun _ _=>rfl);have DX:Ds.Kn (wr.drewN nq) _ _ _:=Ds.frame hx fun _ _=>rfl;have DB:=Dt hB2 nq;have b0:(wr.drewN nq).cell? ⟨b,off+k * 3,none⟩=_:=a0;have b1:(wr.drewN nq).cell? ⟨b,off+k * 3+1,none⟩=_:=a1;have b2:(wr.drewN nq).cell? ⟨b,off+k * 3+2,none⟩=_:=a2;clear hr1 hr2 hr3 hO hx hf hB2 a0 a1 a2 c1 c2 c4 f4;generalize wr.drewN nq=w2 at *
    have hbb:=World.block_lt_of_cell? w2 _ b0;simp only at hbb;have DBs:=DB.size;have t3:=fun A=>(D3.alloc A).cells 1;have t0:=D3.cells 1;have o0:=D2.cells 1;simp only [List.getElem?_cons_zero,List.getElem?_cons_succ] at t3 t0 o0;have hyl:ys.length≤4294967295:=by have:=congrArg List.length hys.out;have:=List.length_filter_le (fun x:Gj=>!decide (x.Ce≤e.Ai+1)) (e.Ah.take k);simp at this;omega
    have hA:=(Below.refl w2.heap.size w2).alloc (Nat.le_refl _) (.cells #[.int .i64 e.Ah[k].Ae,.slice fa e.Ah[k].Bj.length fc,.int .i64 e.Ah[k].Ce] 253);have DOd:=Lib.hid ((DO.out.below hA).frame (w':=(w2.alloc (.cells #[.int .i64 e.Ah[k].Ae,.slice fa e.Ah[k].Bj.length fc,.int .i64 e.Ah[k].Ce] 253)).drew) fun _ _=>rfl);have DXd:=Ds.frame (w':=(w2.alloc (.cells #[.int .i64 e.Ah[k].Ae,.slice fa e.Ah[k].Bj.length fc,.int .i64 e.Ah[k].Ce] 253)).drew) (Ds.below DX hA) fun _ _=>rfl
    have E0':=kc hA o0;have E0:(w2.alloc (.cells #[.int .i64 e.Ah[k].Ae,.slice fa e.Ah[k].Bj.length fc,.int .i64 e.Ah[k].Ce] 253)).drew.cell? _=_:=E0';have E1':=kc hA b0;have E1:(w2.alloc (.cells #[.int .i64 e.Ah[k].Ae,.slice fa e.Ah[k].Bj.length fc,.int .i64 e.Ah[k].Ce] 253)).drew.cell? _=_:=E1';have E2':=kc hA b1;have E2:(w2.alloc (.cells #[.int .i64 e.Ah[k].Ae,.slice fa e.Ah[k].Bj.length fc,.int .i64 e.Ah[k].Ce] 253)).drew.cell? _=_:=E2';have E3':=kc hA b2;have E3:(w2.alloc (.cells #[.int .i64 e.Ah[k].Ae,.slice fa e.Ah[k].Bj.length fc,.int .i64 e.Ah[k].Ce] 253)).drew.cell? _=_:=E3'
    have nob:∀c∈(Value.slice oa ys.length oc).ownBlock.toList,w1.heap.size+1+1≤c:=fun c hc=>by
     cases oa with
     | none=>simp [Value.ownBlock] at hc
     | some b=>simp [Value.ownBlock] at hc;subst hc;exact hoa b rfl
    have D3a:=show Ii (w2.alloc (.cells #[.int .i64 e.Ah[k].Ae,.slice fa e.Ah[k].Bj.length fc,.int .i64 e.Ah[k].Ce] 253)).drew _ _ _ from D3.alloc (.cells #[.int .i64 e.Ah[k].Ae,.slice fa e.Ah[k].Bj.length fc,.int .i64 e.Ah[k].Ce] 253);have hFs:∀c∈F1,c < w1.heap.size:=fun c hc=>hs.lt FK c (hFx c hc);have hbw:b < w1.heap.size:=hs.lt FK b (hs.headIn k hlt);have hn1:¬b=w1.heap.size+1:=FH
    have hn2:¬w1.heap.size+1=b:=FH
    go_region_law (first|((refine Aq6 Aif FK GE _ _ _ GE 253 (.agg #[.int .i64 0,.slice none 0 0,.int .i64 0]) 40 underlying147 Aa4 rfl (.slice oa ys.length oc) ys F2 GE DOd.out hd2 (some ⟨w2.heap.size,0,none⟩) [e.Ah[k]] 1 GE [.int .i64 e.Ah[k].Ae,.slice fa e.Ah[k].Bj.length fc,.int .i64 e.Ah[k].Ce] F1 (Cy.one DXd) (.inr ⟨_,rfl,World.news_of_block (w:=(w2.alloc (.cells #[.int .i64 e.Ah[k].Ae,.slice fa e.Ah[k].Bj.length fc,.int .i64 e.Ah[k].Ce] 253)).drew) (heap_alloc_new w2 _)⟩) (fun c hc he=>by have h1:=nob c (by rw [he];simp);have h2:=hFs c hc;omega) (by unfold maxLen;simp;omega) FO ?_);intro v4 w4 F4 hA4;obtain ⟨oa2,oc2,rfl⟩:=hA4.val;have D4:=D3a.keepK hA4.Auy (fun hm=>by have:=nob _ hm;omega);have t4:=D4.cells 1;have f4:=D4.frozens 1;simp only [List.getElem?_cons_zero,List.getElem?_cons_succ] at t4))
    all_goals
     have hn4:w1.heap.size+1 ∉ F4:=fun hm=>by
      rcases hA4.mem _ hm with h|h|h
      ·exact (hF2 _ h).2.2 rfl
      ·have:=hFs _ h;omega
      ·have:=D3.lt;simp at h;omega
     have P1:=Lib.hid (hA4.ow.setFar (p:=⟨w1.heap.size+1,1,none⟩) hn4 (.slice oa2 (ys.length+1) oc2));have L1:=((show Ii (w2.alloc (.cells #[.int .i64 e.Ah[k].Ae,.slice fa e.Ah[k].Bj.length fc,.int .i64 e.Ah[k].Ce] 253)).drew _ _ _ from D1.alloc (.cells #[.int .i64 e.Ah[k].Ae,.slice fa e.Ah[k].Bj.length fc,.int .i64 e.Ah[k].Ce] 253)).keepK hA4.Auy (fun hm=>by have:=nob _ hm;have:=r1.lt;omega)).setOther (p:=⟨w1.heap.size+1,1,none⟩) (by have:=r1.lt;simp;omega) (.slice oa2 (ys.length+1) oc2)
     have L2:=((show Ii (w2.alloc (.cells #[.int .i64 e.Ah[k].Ae,.slice fa e.Ah[k].Bj.length fc,.int .i64 e.Ah[k].Ce] 253)).drew _ _ _ from D2.alloc (.cells #[.int .i64 e.Ah[k].Ae,.slice fa e.Ah[k].Bj.length fc,.int .i64 e.Ah[k].Ce] 253)).keepK hA4.Auy (fun hm=>by have:=nob _ hm;omega)).setOther (p:=⟨w1.heap.size+1,1,none⟩) FI (.slice oa2 (ys.length+1) oc2);have L3:=D4.set 1 (.slice oa2 (ys.length+1) oc2);have hoa2:∀b,oa2=some b→w1.heap.size+1+1≤b.block:=fun c hc=>by
      subst hc;rcases hA4.Ato with h|h
      ·simp only [Value.ownBlock] at h;exact nob _ (by cases oa <;> simp_all [Value.ownBlock])
      ·simp [Value.ownBlock] at h;have:=D3.lt;omega
     have hF4:∀c∈F4,w.heap.size+2≤c∧c≠w1.heap.size∧c≠w1.heap.size+1:=fun c hc=>by
      have hs3:=D3.lt;have hsw:=r1.lt;rcases hA4.mem _ hc with h|h|h
      ·exact hF2 _ h
      ·have h1:=hFs _ h;have h2:w.heap.size+2≤c:=(by simpa using hFo c (hFr c (hFx c h)));exact ⟨h2,FH,FH⟩
      ·simp at h;exact ⟨FH,FH,FH⟩
     have hB5:Below w1.heap.size w1 (w4.setCell ⟨w1.heap.size+1,1,none⟩ (.slice oa2 (ys.length+1) oc2)) :=
      Below.setCell ((Dt (tr DB hA (Nat.le_refl _)) 1).trans (hA4.Auy.below FO (fun b hb=>by have:=nob b hb;omega))) FI _
     have hd4:=hA4.hd;clear hA4 D1 D2 D3 D4;go_wp2_with fail;exact ⟨⟨k+1,FH,HL,oa2,oc2,F4,by rw [hqf.out,List.length_append];exact P1,hd4,hoa2,hF4,L1,L2,by rw [hqf.out,List.length_append];exact L3,hB5⟩,GO⟩
   ·have hqf:=Lib.hid (C6 (q:=fun x:Gj=>!decide (x.Ce≤e.Ai+1)) hlt FO);generalize hys:((e.Ah.take k).filter fun x=>!decide (x.Ce≤e.Ai+1))=ys at *;have hys:=Lib.hid hys;go_wp2_with fail
    go_quiet (fail)
    go_wp2_with fail;refine ⟨⟨k+1,FH,HL,oa,oc,F2,?_,hd2,hoa,hF2,hr1,hr2,?_,Dt hB2 _⟩,GO⟩
    ·rw [hqf.out];exact Lib.hid (hO.out.frame fun _ _=>rfl)
    ·rw [hqf.out];exact hr3
  ·have hk:k=e.Ah.length:=FH
   subst hk;simp only [List.take_length] at hO hr3 c2;obtain ⟨F3,hF3,hs3⟩:=hO.out.read;have hB3:=tr hB hB2 (Nat.le_refl _);go_wp2_with fail;refine bodyPost_ret (v:=.agg #[.int .i64 (e.Ai+1),.slice oa (e.Ah.filter fun x=>!decide (x.Ce≤e.Ai+1)).length oc]) ?_ rfl ?_
   ·simp [results,results291,go_sem,c4,c2,f4]
   ·refine ⟨_,F3,rfl,⟨_,rfl,_,rfl,?_⟩,fun b hb=>by have:=(hF2 b (hF3 b hb)).1;omega,?_⟩
    ·refine hs3.frame fun b hb=>?_;have h2:=(hF2 b (hF3 b hb)).1;rw [Below.heap_setCell _ _ _ _ FO,Below.heap_setCell _ _ _ _ FO]
    ·repeat refine Below.setCell ?_ GD _
     exact hB3
theorem Atl {lo hi:Int} {zs:List Int} (h:Rl lo hi zs=true):(zs.length:Int)≤hi - lo+1∨zs=[]:=by
 by_cases h0:zs=[]
 ·exact .inr h0
 ·left;have key:∀i (hi':i < zs.length),lo+i≤zs[i]∧zs[i]≤hi:=by
   intro i
   induction i with
   | zero =>
    intro hi';have:=Js h 0 hi';rw [Xc hi'] at this;simp [Ga] at this;exact EM
   | succ i ih =>
    intro hi';have:=Js h (i+1) hi';rw [Uk hi'] at this;have:=ih FH;simp [Ga] at *;omega
  have hp:=List.length_pos_iff.2 h0;have:=key (zs.length - 1) FH;omega
theorem Vq {e:Bf} (h:Ba e=true):Ky e.Ai=true∧e.Ah.length≤5∧∀x∈e.Ah,x.Bj.length≤7:=by
 unfold Ba at h;simp only [Bool.and_eq_true,decide_eq_true_eq] at h;refine ⟨h.1.1,h.1.2,fun x hx=>?_⟩;obtain ⟨i,hi,rfl⟩:=List.getElem_of_mem hx;have:=Js h.2 i hi;rw [Ku hi] at this;simp [Lj] at this;rcases Atl this.1.2.2.1 with h|h
 ·omega
 ·rw [h];simp
def Ls (l:List Int) (n:Int):Nat:=(l.takeWhile fun x=>decide (x < n)).length
def Ur (l:List Int) (n:Int):List Int:=if l[Ls l n]?=some n then l else l.take (Ls l n)++n::l.drop (Ls l n)
def Mo (e:Bf) (n:Int):Nat:=e.Ah.findIdx fun x=>x.Ae == n
def Pd (e:Bf) (n f:Int):Bf:=match e.Ah[Mo e n]? with
 | some x=>⟨e.Ai,e.Ah.set (Mo e n) ⟨x.Ae,Ur x.Bj f,x.Ce⟩⟩
 | none=>if e.Ah.length < 5 then ⟨e.Ai,e.Ah++[⟨n,[f],e.Ai+6⟩]⟩ else e
def Adp (e:Bf) (n:Int):Bool:=!e.Ah.any fun x=>x.Ae == n
def Qr (e:Bf) (n:Int):Bf:=match e.Ah[Mo e n]? with
 | some _=>⟨e.Ai,e.Ah.take (Mo e n)++e.Ah.drop (Mo e n+1)⟩
 | none=>e
def Vp (e:Bf) (n:Int) (below:List Int):List Int:=match e.Ah[Mo e n]? with
 | some x=>x.Bj.filter fun f=>decide (f∈below)
 | none=>if e.Ah.length=5 then below else []
theorem Se (e:Bf) (n:Int):(∃(h:Mo e n < e.Ah.length),Ss (fun x=>x.Ae == n) e.Ah=(Mo e n:Nat)∧e.Ah[Mo e n].Ae=n∧Adp e n=false)∨(Ss (fun x=>x.Ae == n) e.Ah=-1∧e.Ah[Mo e n]?=none∧Adp e n=true∧∀x∈e.Ah,x.Ae≠n):=by
 cases h:e.Ah.any fun x=>x.Ae == n
 ·right;have h':=List.any_eq_false.1 h;refine ⟨by unfold Ss;rw [h];rfl,?_,by simp [Adp,h],fun x hx=>by have:=h' x hx;simpa using this⟩;have:Mo e n=e.Ah.length:=List.findIdx_eq_length.2 (fun x hx=>by have:=h' x hx;simpa using this);rw [this];simp
 ·left;have h2:Mo e n < e.Ah.length:=by
   obtain ⟨x,hx,hp⟩:=List.any_eq_true.1 h;exact List.findIdx_lt_length_of_exists ⟨x,hx,hp⟩
  refine ⟨h2,by unfold Ss;rw [h];rfl,?_,by simp [Adp,h]⟩;have:(e.Ah[Mo e n].Ae == n)=true:=List.findIdx_getElem (p:=fun x:Gj=>x.Ae == n) (xs:=e.Ah) (w:=h2);exact EM
theorem Zp {lo hi:Int} {zs:List Int} (h:Rl lo hi zs=true):zs.Pairwise (· < ·)∧∀z∈zs,lo≤z∧z≤hi:=by
 have hb:∀i (hi':i < zs.length),lo≤zs[i]∧zs[i]≤hi:=fun i hi'=>by
  have:=Js h i hi';unfold Afo Ga at this;simp only [Bool.and_eq_true,decide_eq_true_eq] at this;rw [List.getD_eq_getElem?_getD,List.getElem?_eq_getElem hi'] at this;simpa using this.1
 refine ⟨?_,fun z hz=>by obtain ⟨i,hi',rfl⟩:=List.getElem_of_mem hz;exact hb i hi'⟩;have step:∀i (hi:i+1 < zs.length),zs[i] < zs[i+1]:=fun i hi'=>by
  have:=Js h (i+1) hi';rw [Uk hi'] at this;simp only [Bool.and_eq_true,decide_eq_true_eq] at this;exact this.2
 refine List.pairwise_iff_getElem.2 fun i j hi' hj hij=>?_;obtain ⟨d,rfl⟩:∃d,j=i+1+d:=⟨j - i - 1,FH⟩;clear hij
 induction d with
 | zero=>exact step i hj
 | succ d ih=>exact Int.lt_trans (ih FH) (step (i+1+d) hj)
theorem Al0 {lo hi:Int} {zs:List Int} (h1:zs.Pairwise (· < ·)) (h2:∀z∈zs,lo≤z∧z≤hi):Rl lo hi zs=true:=by
 unfold Rl;refine Lw fun i hi'=>?_;have hb:=h2 zs[i] (List.getElem_mem hi');cases i with
 | zero=>rw [Xc hi'];simp [Ga,hb]
 | succ i =>
  rw [Uk hi'];have:=List.pairwise_iff_getElem.1 h1 i (i+1) FH hi' FH;simp [Ga,hb,this]
theorem Bbr:∀{a b:List Int},a.Pairwise (· < ·)→b.Pairwise (· < ·)→(∀x,x∈a↔x∈b)→a=b
 | [],[],_,_,_=>rfl
 | [],y::b,_,_,h=>absurd ((h y).2 FI) FI
 | x::a,[],_,_,h=>absurd ((h x).1 FI) FI
 | x::a,y::b,h1,h2,h=>by
  have a1:=List.pairwise_cons.1 h1;have b1:=List.pairwise_cons.1 h2;have e:x=y:=by
   rcases List.mem_cons.1 ((h x).1 FI) with e|m
   ·exact e
   ·rcases List.mem_cons.1 ((h y).2 FI) with e|m2
    ·exact e.symm
    ·have:=b1.1 x m;have:=a1.1 y m2;omega
  subst e
  congr 1
  refine Bbr a1.2 b1.2 fun z=>⟨fun hz=>?_,fun hz=>?_⟩
  ·rcases List.mem_cons.1 ((h z).1 JR) with e|m
   ·have:=a1.1 z hz;omega
   ·exact m
  ·rcases List.mem_cons.1 ((h z).2 JR) with e|m
   ·have:=b1.1 z hz;omega
   ·exact m
theorem Api {a b:List Int} (h1:a.Pairwise (· < ·)) (h2:b.Pairwise (· < ·)):(a.filter fun f=>decide (f∈b))=b.filter fun f=>decide (f∈a) :=
 Bbr (h1.filter _) (h2.filter _) fun x=>by simp [and_comm]
theorem Bef (x:Gj) (gb:Nat) (n:Int) (u:Value) (G:List Nat):FV 335 [u,Il gb 0 0] [.isv Ds u x G,.cel gb 0 [.int .i64 n]] (.bool (x.Ae == n)):=by
 refine enter func335 rfl ntmps335 fun w0=>?_;refine T0 ?_;rintro a1 c1 F1 rfl l1;refine go ?_;intros;refine ret () trivial ?_;rfl
theorem Aml (e:Bf) (n:Int) (v:Value) (F:List Nat):FV 278 [v,.int .i64 n] [.isv Bk v e F] (.int .i64 (Ss (fun x=>x.Ae == n) e.Ah)):=by
 refine enter func278 rfl ntmps278 fun w0=>?_;refine Fh ?_;rintro a1 c1 F1 rfl l1;refine go ?_;intros;rename_i gb;refine cb (fun w st=>Sq _ (Wq FJ) #[Il gb 0 0] _ e.Ah _ (fun x=>x.Ae == n) w (st.get (p:=.sl Ds (.slice a1 e.Ah.length c1) e.Ah F1) FI).2 (fun k hk wr u G hB hu=>(Bef e.Ah[k] gb n u G).val wr (Nn hu ⟨FI,Is ((st.below hB).get (p:=.row gb 3 0 [] [.int .i64 n] []) FI)⟩))) ?_;exact AA
theorem Adz (e:Bf) (n:Int) (v:Value) (F:List Nat):FV 231 [v,.int .i64 n] [.isv Bk v e F] (.int .i64 (Ss (fun x=>x.Ae == n) e.Ah)):=by
 refine enter func231 rfl ntmps231 fun w0=>?_;refine Fh ?_;rintro a1 c1 F1 rfl l1;unfold maxLen at l1;refine go ?_;intros;refine Eh [1,2,4] (fun k:Nat=>[(5,.int .i64 (k:Nat))]) (fun k=>k≤e.Ah.length∧∀j (_:j < k) (hj:j < e.Ah.length),(e.Ah[j].Ae == n)=false) (fun k=>e.Ah.length - k) 0 ⟨Nat.zero_le _,fun j h=>by omega⟩ fun k hk=>?_;obtain ⟨hk1,hk2⟩:=hk;refine go ?_;refine A1 rfl (fun h1=>?_) (fun h1=>?_)
 ·have hh:k < e.Ah.length:=FH
  refine go ?_;refine Wp (xs:=e.Ah) k ?_;rintro hi b o a3 c3 F3 e1 l3;rw [e1];refine go ?_;refine A1 rfl (fun h2=>?_) (fun h2=>?_)
  ·refine go ?_;refine ret () trivial ?_;rw [Ph hh hk2 IH];rfl
  ·refine go ?_;refine Cg (k+1) ⟨hh,fun j hj hl=>?_⟩ FH;rcases Nat.lt_or_eq_of_le (Nat.lt_succ_iff.1 hj) with h|rfl
   ·exact hk2 j h hl
   ·simpa using h2
 ·obtain rfl:k=e.Ah.length:=FH
  exact BP
theorem Bet (l:List Int) (n:Int) (a:Option Addr) (c:Nat) (F:List Nat):FV 348 [.slice a l.length c,.int .i64 n] [.sl Bb (.slice a l.length c) l F] (.bool (decide (n∈l))):=by
 refine enter func348 rfl ntmps348 fun w0=>?_;refine Xi (xs:=l) ?_;rintro _ _ _ l2 l3;refine go ?_;refine Eh [0,1,4] (fun k:Nat=>[(5,.int .i64 (k:Nat))]) (fun k=>k≤l.length∧n ∉ l.take k) (fun k=>l.length - k) 0 ⟨Nat.zero_le _,FI⟩ fun k hk=>?_;obtain ⟨hk1,hk2⟩:=hk;refine go ?_;refine A1 rfl (fun h1=>?_) (fun h1=>?_)
 ·have hh:k < l.length:=FH
  refine go ?_;refine I6 (xs:=l) k ?_;rintro hi b o e1;rw [e1];refine go ?_;refine A1 rfl (fun h2=>?_) (fun h2=>?_)
  ·refine go ?_;refine ret () trivial ?_;rw [decide_eq_true (h2▸List.getElem_mem hh:n∈l)];rfl
  ·refine go ?_;refine Cg (k+1) ⟨hh,fun hm=>?_⟩ FH;rw [List.take_add_one,List.getElem?_eq_getElem hh] at hm;rcases List.mem_append.1 hm with h|h
   ·exact hk2 h
   ·simp at h;exact h2 h.symm
 ·obtain rfl:k=l.length:=FH
  rw [List.take_length] at hk2;refine go ?_;refine ret () trivial ?_;rw [decide_eq_false hk2];rfl
theorem Bg1 (n:Int):FV 421 [.int .i64 n] [] (.bool false):=by
 refine enter func421 rfl ntmps421 fun w0=>?_;refine go ?_;refine ret () trivial ?_;simp [Us]
theorem Bh1 (n:Int):FV 408 [.int .i64 n] [] (.bool false):=by
 refine enter func408 rfl ntmps408 fun w0=>?_;refine go ?_;refine ret () trivial ?_;simp [Us]
theorem Bd5 (a b:Int):FV 407 [.int .i64 a,.int .i64 b] [] (.bool (decide (a < b))):=by
 refine enter func407 rfl ntmps407 fun w0=>?_;refine go ?_;refine Ca (Bg1 a) fun _ _=>?_;exact AA
def Azt (l:List Int) (n:Int):Bool:=decide (l[Ls l n]?=some n)
theorem Aef {l:List Int} {n:Int} {k:Nat} (h1:k≤l.length) (h2:∀j (_:j < k) (h:j < l.length),l[j] < n) (h3:∀h:k < l.length,¬l[k] < n):Ls l n=k:=Y5 h1 (fun j hj h=>by simpa using h2 j hj h) (fun h=>by simpa using h3 h)
theorem Bd4 (xs:List Int) (n:Int) (a:Option Addr) (c:Nat) (F:List Nat) (hs:xs.Pairwise (· < ·)) (hl:xs.length≤1000000):FV 376 [.slice a xs.length c,.int .i64 n] [.sl Bb (.slice a xs.length c) xs F] (.tuple #[.int .i64 (Ls xs n:Nat),.bool (Azt xs n)]):=by
 have hm:=List.pairwise_iff_getElem.1 hs;refine enter func376 rfl ntmps376 fun w0=>?_;refine go ?_;refine Eh [0,1,4,5,6] (fun s:Nat × Nat=>[(7,.int .i64 (s.1:Nat)),(8,.int .i64 (s.2:Nat))]) (fun s=>s.1≤s.2∧s.2≤xs.length∧(∀j (_:j < s.1) (h:j < xs.length),xs[j] < n)∧(∀j (_:s.2≤j) (h:j < xs.length),¬xs[j] < n)) (fun s=>s.2 - s.1) (0,xs.length) ⟨Nat.zero_le _,Nat.le_refl _,fun j h=>by omega,fun j h1 h2=>by omega⟩ fun s hs=>?_;obtain ⟨i,j⟩:=s;obtain ⟨h1,h2,h3,h4⟩:=hs;dsimp only at h1 h2 h3 h4 ⊢;refine go ?_;refine A1 rfl (fun h5=>?_) (fun h5=>?_)
 ·have hh:(i+j) / 2 < xs.length:=FH
  have e2:((i:Int)+(j:Int)) / 2=(((i+j) / 2:Nat):Int):=FH
  refine go ?_;apply wO;apply oc;rfl;exact Aub rfl FH FH;refine go ?_;apply wO;apply oc;rfl;exact Aof rfl;rw [e2];apply wO;apply oc;rfl;exact Ary rfl FH FH;generalize hq:(i+j) / 2=q at hh;refine go ?_;refine I6 (xs:=xs) q ?_;rintro hi b o e;rw [e];refine go ?_;refine Ca (Bd5 _ _) fun _ _=>?_;refine go ?_;refine A1 rfl (fun h6=>?_) (fun h6=>?_)
  ·refine go ?_;refine Xg ?_;refine Cg (hH:=Lt _) (q+1,j) ⟨by show q+1≤j;omega,h2,fun k hk h=>?_,h4⟩ (by show j - (q+1) < j - i;omega);rcases Nat.lt_or_eq_of_le (Nat.lt_succ_iff.1 (show k < q+1 from hk)) with hk|rfl
   ·have:=hm k q h hh hk;omega
   ·exact h6
  ·refine go ?_;refine Xg ?_;refine Cg (hH:=Lt _) (i,q) ⟨by show i≤q;omega,by show q≤xs.length;omega,h3,fun k hk h hn=>h6 ?_⟩ (by show q - i < j - i;omega);rcases Nat.lt_or_eq_of_le (show q≤k from hk) with hk|rfl
   ·have:=hm q k hh h hk;omega
   ·exact hn
 ·have hij:i=j:=FH
  subst hij;have hk:Ls xs n=i:=Aef h2 h3 (fun h=>h4 i (Nat.le_refl _) h);unfold Azt;rw [hk];refine go ?_;refine Dy rfl rfl (fun h6=>?_) (fun h6=>?_)
  ·have hh:i < xs.length:=FH
   rw [List.getElem?_eq_getElem hh];refine go ?_;refine I6 (xs:=xs) i ?_;rintro hi b o e;rw [e];refine go ?_;refine Dy rfl rfl (fun h7=>?_) (fun h7=>?_)
   ·refine go ?_;refine ret () trivial ?_;rw [decide_eq_true (by simpa using h7)];rfl
   ·refine go ?_;refine Ca (Bh1 _) fun _ _=>?_;refine go ?_;refine ret () trivial ?_;rw [decide_eq_false (by simpa using h7)];rfl
  ·refine go ?_;refine ret () trivial ?_;rw [List.getElem?_eq_none FH];rfl
theorem Bhh (xs:List Int) (n:Int) (a:Option Addr) (c:Nat) (F:List Nat):FV 183 [.slice a xs.length c,.int .i64 n] [.sl Bb (.slice a xs.length c) xs F] (.int .i64 (Ss (fun x=>x == n) xs)):=by
 refine enter func183 rfl ntmps183 fun w0=>?_;refine Xi (xs:=xs) ?_;rintro _ _ - l2 l3;refine go ?_;refine Eh [0,1,4,7] (fun k:Nat=>[(8,.int .i64 (k:Nat))]) (fun k=>k≤xs.length∧∀j (_:j < k) (hj:j < xs.length),(xs[j] == n)=false) (fun k=>xs.length - k) 0 ⟨Nat.zero_le _,fun j h=>by omega⟩ fun k hk=>?_;obtain ⟨hk1,hk2⟩:=hk;refine go ?_;refine A1 rfl (fun h1=>?_) (fun h1=>?_)
 ·have hh:k < xs.length:=FH
  refine go ?_;refine I6 (xs:=xs) k ?_;rintro hi b o e1;rw [e1];refine go ?_;refine A1 rfl (fun h2=>?_) (fun h2=>?_)
  ·refine go ?_;refine ret () trivial ?_;rw [Ph hh hk2 (by simpa using h2.symm)];rfl
  ·refine go ?_;refine Cg (k+1) ⟨hh,fun j hj hl=>?_⟩ FH;rcases Nat.lt_or_eq_of_le (Nat.lt_succ_iff.1 hj) with h|rfl
   ·exact hk2 j h hl
   ·simpa using fun e=>h2 e.symm
 ·obtain rfl:k=xs.length:=FH
  exact BP
theorem Bd0 (l:List Int) (n:Int):(l.any fun x=>x == n)=decide (n∈l):=by
 rw [Bool.eq_iff_iff,List.any_eq_true,decide_eq_true_eq];exact ⟨fun ⟨x,hx,h⟩=>by simp at h;exact h▸hx,fun h=>⟨n,h,FI⟩⟩
theorem Azz (xs:List Int) (n:Int) (a:Option Addr) (c:Nat) (F:List Nat):FV 93 [.slice a xs.length c,.int .i64 n] [.sl Bb (.slice a xs.length c) xs F] (.bool (decide (n∈xs))):=by
 refine enter func93 rfl ntmps93 fun w0=>?_;refine go ?_;refine Ca (Bhh xs n _ _ F) fun _ _=>?_;refine go ?_;refine ret () trivial ?_;rw [T9,Bd0];rfl
theorem Bbw (y:Int) (w:World):Cy Bb w [.int .i64 y] [y] []:=⟨_,[],[],[],FI,FI,⟨rfl,rfl⟩,rfl,rfl⟩
theorem Azc (xs:List Int) (y:Int) (i:Nat) (a:Option Addr) (c vb:Nat) (F:List Nat) (hi:i≤xs.length) (hl:xs.length≤1000000) :
  Fn prog 377 [.slice a xs.length c,.int .i64 i,.slice (some ⟨vb,0,none⟩) 1 1] [] [.ow Bb 3 (.slice a xs.length c) xs F,.row vb 3 0 [] [.int .i64 y] []] (fun (_:Option Addr × Nat × List Nat)=>True)
   (fun z=>.slice z.1 (xs.take i++y::xs.drop i).length z.2.1) (fun z=>[.ow Bb 3 (.slice z.1 (xs.take i++y::xs.drop i).length z.2.1) (xs.take i++y::xs.drop i) z.2.2]):=by
 have hone:∀w':World,∀cs:List Value,Cy Bb w' cs xs []→∀u∈cs,u.oneCell'=true:=fun w' cs h=>h.one' C8;have hy:=Bbw y;have h1y:∀u∈([.int .i64 y]:List Value),u.oneCell'=true:=IL
 refine enter func377 rfl ntmps377 fun w0=>?_;refine Bco (E:=Bb) fun hc1 hc2=>?_;refine go ?_;apply wO;refine Ani rfl rfl rfl rfl hi (fun _=>?_) hc1;refine go ?_;refine A1 rfl (fun h1=>?_) (fun h1=>?_)
 ·have hin:i=xs.length:=FH
  subst hin;have e:xs.take xs.length++y::xs.drop xs.length=xs++[y]:=FI
  refine go ?_;apply wO;refine Ps hy C8 fun a2 c2 F2=>?_;rw [e];exact DK
 ·have hlt:i < xs.length:=FH
  refine An5 (xs:=xs) D5 (by rintro rfl;simp at hlt) ?_;rintro g cs rest rfl - - - hcl hcr hfl;rw [show Bb.sz=1 from rfl] at hcl hcr;have h1c:=hone w0 cs (hfl w0);obtain ⟨A,B,hcs,hA,hB⟩:∃A B,cs=A++B∧A=cs.take (i * 1)∧B=cs.drop (i * 1):=⟨_,_,(List.take_append_drop _ _).symm,rfl,rfl⟩;have hAl:A.length=i * 1:=LO
  have hBl:B.length=(xs.length - i) * 1:=LN
  have hins:∀w,Cy Bb w (A++[.int .i64 y]++B) (xs.take i++y::xs.drop i) []:=fun w=>by rw [hA,hB];exact (hfl w).insL (hy w) i hi
  have h1A:∀u∈A,u.oneCell'=true:=fun u hu=>h1c u IY;have h1B:∀u∈B,u.oneCell'=true:=fun u hu=>h1c u IY;have hlen:(xs.take i++y::xs.drop i).length=xs.length+1:=FO
  clear hA hB hfl hone;subst hcs;have eA:A=((A++B++rest).drop 0).take (i * 1):=IQ
  have eB:B=((A++B++rest).drop (0+i * 1)).take ((xs.length - i) * 1):=HR
  rw [hlen];refine go ?_;apply wO;apply oc;rfl;exact Aua rfl;refine go ?_;refine A1 rfl (fun h2=>?_) (fun h2=>?_)
  ·refine go ?_;apply wO;apply oc;rfl;exact Pz (i:=i) rfl rfl rfl FH FH;refine go ?_;apply wO;refine As6 (k:=xs.length+1 - i) (olds:=A) rfl rfl rfl FH (Nk (m:=i * 1) (.head _) eA) FH FK FH FH FH FH fun g' cp' Z rest' h3 h4 h5 h6=>?_;rw [show i+(xs.length+1 - i)=xs.length+1 by omega] at h3 ⊢;obtain ⟨Z1,Z2,rfl,hZ1,hZ2⟩:∃Z1 Z2,Z=Z1++Z2∧Z1.length=1∧Z2.length=B.length:=⟨Z.take 1,Z.drop 1,(List.take_append_drop _ _).symm,FY,HV⟩;refine go ?_
   apply wO;apply oc;rfl;exact Lh (i:=i) rfl rfl rfl FH FH FH;refine go ?_;apply wO;refine Xw (cs:=[.int .i64 y]) (L':=A++[.int .i64 y]++(Z2++rest')) rfl rfl rfl (Nk (L:=[.int .i64 y]) (o:=0) (m:=1) FL rfl) .here (Af2 (M:=Z1) GM FH (by simpa using hZ1)) (by show 1=min 1 (xs.length+1 - i) * 1;omega) FP h1y ?_;refine go ?_;refine As [] [] ?_;refine Dq 0 1 2 3 ?_;refine dt 4 ?_ (hy:=Lh (i:=i+1) rfl rfl FH FH FH FH)
   refine Ec 5 6 ?_;refine dt 7 ?_ (hy:=Lh (i:=i) rfl rfl FH FH FH FH);refine dN 8 ?_;refine Xw (cs:=B) (L':=A++[.int .i64 y]++B++rest') rfl rfl rfl (Nk FL eB) .here (Af2 (P:=A++[.int .i64 y]) (M:=Z2) GM FP hZ2) HT FP h1B ?_;refine dk ?_;refine dd ?_
   refine Aeo (cs:=A++[.int .i64 y]++B) (rest:=rest') (xs:=xs.take i++y::xs.drop i) cp' rfl hins FH h4 (by rw [show Bb.sz=1 from rfl];simp only [List.length_append,List.length_cons,List.length_nil] at h6 ⊢;omega) ?_;rw [hlen];refine go ?_;refine ret (_,cp',[g']) trivial rfl
  ·have hcx:xs.length+1≤c:=FH
   obtain ⟨X,Y,hXY,hX,hY⟩:=Atr (B:=B) (R:=rest) 1 FH;refine go ?_;apply wO;apply oc;rfl;exact Pz (i:=xs.length+1) rfl rfl FH FH FH;refine go ?_;apply wO;apply oc;rfl;exact Lh (i:=i+1) rfl rfl FH FH FH FH;refine Og ?_;intros;apply wO
   refine Bbi rfl X0 (ovl (tS:=22) (tR:=4) (run_callFunc_extern func409 FJ FJ FJ (e:=Extern.SlicesOverlaps.overlaps #[22,22] #[4]) FJ) (.there .here) (.head _) HA) ?_;refine go ?_;refine As [] [] ?_;refine Dq 0 1 2 3 ?_;refine dt 4 ?_ (hy:=Lh (i:=i+1) rfl rfl FH FH FH FH);refine Ec 5 6 ?_;refine dt 7 ?_ (hy:=Lh (i:=i) rfl rfl FH FH FH FH);refine dN 8 ?_
   refine Xw (cs:=B) (L':=A++X++B++rest.drop 1) rfl rfl rfl (Nk FL eB) .here (Af2 (P:=A++X) (M:=Y) IE HD hY) HP HD h1B ?_;refine dk ?_;refine dd ?_;refine go ?_;apply wO;apply oc;rfl;exact Lh (i:=i) rfl rfl rfl FH FH FH;refine go ?_;apply wO
   refine Xw (cs:=[.int .i64 y]) (L':=A++[.int .i64 y]++(B++rest.drop 1)) rfl rfl rfl (Nk (L:=[.int .i64 y]) (o:=0) (m:=1) FL rfl) .here (Af2 (M:=X) GM FH (by simpa using hX)) (by show 1=min 1 (xs.length+1 - i) * 1;omega) FP h1y ?_;refine go ?_
   refine Aeo (L:=A++[.int .i64 y]++(B++rest.drop 1)) (cs:=A++[.int .i64 y]++B) (rest:=rest.drop 1) (xs:=xs.take i++y::xs.drop i) c GM hins FH FH (by rw [show Bb.sz=1 from rfl];simp only [List.length_append,List.length_cons,List.length_nil,List.length_drop];omega) ?_;rw [hlen];refine ret (_,c,[g]) trivial rfl
theorem Q3 (n:Int) (w:World):Cy Bb w [.int .i64 n] [n] []:=⟨_,[],[],[],FI,FI,⟨rfl,rfl⟩,rfl,rfl⟩
theorem Ax0 (l:List Int) (n:Int):Ls l n≤l.length:=(Rz (p:=fun x=>decide (x < n)) (xs:=l)).1
structure Bj8 where
 a:Option Addr
 c:Nat
 F:List Nat
theorem Beu (l:List Int) (n:Int) (a:Option Addr) (c:Nat) (F:List Nat) (hl:l.length≤1000000):Fn prog 351 [.slice a l.length c,.int .i64 n] [] [.ow Bb 3 (.slice a l.length c) l F] (fun (_:Bj8)=>True) (fun s=>.slice s.a (Ur l n).length s.c) (fun s=>[.ow Bb 3 (.slice s.a (Ur l n).length s.c) (Ur l n) s.F]):=by
 refine enter func351 rfl ntmps351 fun w0=>?_;refine go ?_;refine Eh [0,1,4] (fun k:Nat=>[(5,.int .i64 (k:Nat))]) (fun k=>k≤l.length∧∀j (_:j < k) (hj:j < l.length),l[j] < n) (fun k=>l.length - k) 0 ⟨Nat.zero_le _,fun j h=>by omega⟩ fun k hk=>?_;obtain ⟨hk1,hk2⟩:=hk;refine go ?_;refine Dy rfl rfl (fun h1=>?_) (fun h1=>?_)
 ·have hh:k < l.length:=FH
  refine go ?_;refine Pv (m:=1) D5 k ?_ FM rfl hh;rintro _ g A cs B rfl rfl hr hH;obtain ⟨rfl, -⟩:=hr w0;refine go ?_;refine O5 l[k] hH hr ?_;rw [List.set_getElem_self];refine A1 rfl (fun h2=>?_) (fun h2=>?_)
  ·refine go ?_;refine Cg (k+1) ⟨hh,fun j hj hl=>?_⟩ FH;rcases Nat.lt_or_eq_of_le (Nat.lt_succ_iff.1 hj) with h|rfl
   ·exact hk2 j h hl
   ·exact h2
  ·have hp:Ls l n=k:=Aef hk1 hk2 (fun _=>h2);refine go ?_;refine Dy rfl rfl (fun h4=>?_) (fun h4=>absurd h1 h4);refine go ?_;refine Pv (m:=1) D5 k ?_ FM rfl hh;rintro _ g A cs B e1 - hr hH;cases e1;obtain ⟨rfl, -⟩:=hr w0;refine go ?_;refine O5 l[k] hH hr ?_;rw [List.set_getElem_self];refine A1 rfl (fun h3=>?_) (fun h3=>?_)
   ·have e:Ur l n=l:=by unfold Ur;rw [hp,List.getElem?_eq_getElem hh,if_pos (by rw [h3])]
    rw [e];exact ED
   ·have e:Ur l n=l.take k++[n]++l.drop k:=by unfold Ur;rw [hp,List.getElem?_eq_getElem hh,if_neg IV];simp
    refine go ?_;refine A4 fun F5=>?_;refine Bct k FH fun F6 hc1 hc2=>?_;refine As [] [] ?_;refine Ec 1 2 ?_;refine dt 3 ?_ (hy:=Pz (i:=k) rfl rfl rfl FH FH);refine Ec 5 8 ?_;refine dt 9 ?_;refine Asf 10 k fun a6 c6 F6=>?_;refine dM 0 6 ?_ ?_
    ·apply Mp;rfl;intro _;refine C7 Bb ?_;refine dk ?_;refine dM 4 6 ?_ ?_
     ·exact CS
     ·apply Lr;rfl;rfl;rfl;rfl;exact Ll;exact Kv;intro _;exact BC
    ·exact EZ
 ·have hp:Ls l n=k:=Aef hk1 hk2 (fun h=>by omega);have e:Ur l n=l.take k++[n]++l.drop k:=by unfold Ur;rw [hp,List.getElem?_eq_none FH];simp
  refine go ?_;refine Dy rfl rfl (fun h4=>absurd h4 h1) (fun h4=>?_);refine go ?_;refine A4 fun F5=>?_;refine Bct k FH fun F6 hc1 hc2=>?_;refine As [] [] ?_;refine Ec 1 2 ?_;refine dt 3 ?_ (hy:=Pz (i:=k) rfl rfl rfl FH FH);refine Ec 5 8 ?_;refine dt 9 ?_;refine Asf 10 k fun a6 c6 F6=>?_;refine dM 0 6 ?_ ?_
  ·apply Mp;rfl;intro _;refine C7 Bb ?_;refine dk ?_;refine dM 4 6 ?_ ?_
   ·exact CS
   ·apply Lr;rfl;rfl;rfl;rfl;exact Ll;exact Kv;intro _;exact BC
  ·exact EZ
theorem Av3 {c:Cx} {fr:Fr} {H S:List Pc} {Φ:Gl} (x:Bf) {a:Option Addr} {n cp:Nat} {F:List Nat} (hn:n=x.Ah.length) (h:T c fr (.own B4 (.agg #[.int .i64 x.Ai,.slice a n cp]) x F::S) Φ) (hp:Cn H (.ow Dz 253 (.slice a n cp) x.Ah F) S:=by exact Da):T c fr H Φ:=by
 subst hn;exact E6 x h hp
theorem Aiu {e:Bf} {n f:Int} (h:Mo e n < e.Ah.length):Pd e n f=⟨e.Ai,e.Ah.set (Mo e n) ⟨e.Ah[Mo e n].Ae,Ur e.Ah[Mo e n].Bj f,e.Ah[Mo e n].Ce⟩⟩:=by unfold Pd;rw [List.getElem?_eq_getElem h]
theorem Ait {e:Bf} {n f:Int} (h:e.Ah[Mo e n]?=none) (hl:e.Ah.length < 5):Pd e n f=⟨e.Ai,e.Ah++[⟨n,[f],e.Ai+6⟩]⟩:=by unfold Pd;rw [h];simp [hl]
theorem Aei {e:Bf} {n f:Int} (h:e.Ah[Mo e n]?=none) (hl:¬e.Ah.length < 5):Pd e n f=e:=by unfold Pd;rw [h];simp [hl]
theorem Ace (e:Bf) (n f:Int) (v:Value) (F:List Nat) (hl:e.Ah.length≤1000000) (hf:∀x∈e.Ah,x.Bj.length≤1000000) (hc0:-1000000≤e.Ai) (hc1:e.Ai≤1000000):Fn prog 298 [v,.int .i64 n,.int .i64 f] [.isv Bk v e F] [] (fun (_:Value × List Nat)=>True) (fun s=>.tuple #[s.1,.bool (Adp e n)]) (fun s=>[.own B4 s.1 (Pd e n f) s.2]):=by
 refine enter func298 rfl ntmps298 fun w0=>?_;refine Fh ?_;rintro a1 c1 F1 rfl l1;refine go ?_;intros;refine cv (fun w st=>Ym _ e _ w (st.get (p:=.isv Bk (.agg #[.int .i64 e.Ai,.slice a1 e.Ah.length c1]) e F) FI) FH (fun x hx=>Nat.le_trans (hf x hx) FK)) fun u FU=>?_;refine Hp ?_;rintro a2 c2 F2 rfl l2;refine go ?_;intros;refine Ca (Adz e n _ F) fun _ _=>?_;rcases Se e n with ⟨h,e1,e2,e3⟩|⟨e1,e2,e3,e4⟩
 ·rw [e1,e3,Aiu h];have hfx:=hf e.Ah[Mo e n] (List.getElem_mem h);refine go ?_;refine Wu (m:=3) (Mo e n) ?_ rfl h;rintro _ g A cs B k1 k2 G1 Gi G2 rfl - hc hH;refine Xa ?_;rintro a5 c5 F5 ev l5;obtain rfl:=Uq ev;refine go ?_;intros;refine Ca (Beu _ f a5 c5 F5 hfx) fun z _=>?_;refine go ?_;refine M6 ⟨e.Ah[Mo e n].Ae,Ur e.Ah[Mo e n].Bj f,e.Ah[Mo e n].Ce⟩ ?_;refine Sw _ hH rfl fun F6=>?_;refine Av3 ⟨e.Ai,_⟩ List.length_set.symm ?_;exact AX
 ·rw [e1,e3];refine go ?_;refine A1 rfl (fun h5=>?_) (fun h5=>?_)
  ·rw [Ait e2 FH];refine go ?_;intros;refine Le (E:=Bb) (xs:=[f]) (Q3 f) ?_ FI;refine M6 ⟨n,[f],e.Ai+6⟩ ?_;apply wO;refine Adi Re ⟨n,[f],e.Ai+6⟩ rfl fun a3 c3 F3=>?_;refine go ?_;refine Av3 ⟨e.Ai,_⟩ rfl ?_;exact AX
  ·rw [Aei e2 FH];refine go ?_;refine Av3 e rfl ?_;exact AX
def Ab3 (e:Bf) (n:Int) (below:List Int):List Int:=match e.Ah[Mo e n]? with
 | some x=>below.filter fun f=>decide (f∈x.Bj)
 | none=>if e.Ah.length=5 then below else []
theorem Aip {e:Bf} {n:Int} (h:Mo e n < e.Ah.length):Qr e n=⟨e.Ai,e.Ah.take (Mo e n)++e.Ah.drop (Mo e n+1)⟩:=by unfold Qr;rw [List.getElem?_eq_getElem h]
theorem Anq {e:Bf} {n:Int} (h:e.Ah[Mo e n]?=none):Qr e n=e:=by unfold Qr;rw [h]
theorem Bad {e:Bf} {n:Int} {l:List Int} (h:Mo e n < e.Ah.length):Ab3 e n l=l.filter fun f=>decide (f∈e.Ah[Mo e n].Bj):=by unfold Ab3;rw [List.getElem?_eq_getElem h]
theorem Bee {e:Bf} {n:Int} {l:List Int} (h:e.Ah[Mo e n]?=none):Ab3 e n l=if e.Ah.length=5 then l else []:=by unfold Ab3;rw [h]
structure Bgt where
 k:Nat
 a:Option Addr
 c:Nat
 F:List Nat
structure Bka where
 v:Value
 F:List Nat
 a:Option Addr
 c:Nat
 G:List Nat
theorem Afc (e:Bf) (n:Int) (below:List Int) (v:Value) (F:List Nat) (a0:Option Addr) (c0:Nat) (F0:List Nat) (hl:e.Ah.length≤1000000) (hf:∀x∈e.Ah,x.Bj.length≤1000000) (hb:below.length≤1000000):Fn prog 296 [v,.int .i64 n,.slice a0 below.length c0] [.isv Bk v e F,.sl Bb (.slice a0 below.length c0) below F0] [] (fun (_:Bka)=>True) (fun s=>.tuple #[s.v,.slice s.a (Ab3 e n below).length s.c]) (fun s=>[.own B4 s.v (Qr e n) s.F,.ow Bb 3 (.slice s.a (Ab3 e n below).length s.c) (Ab3 e n below) s.G]):=by
 refine enter func296 rfl ntmps296 fun w0=>?_;refine Fh ?_;rintro a1 c1 F1 rfl l1;refine go ?_;intros;refine cv (fun w st=>Ym _ e _ w (st.get (p:=.isv Bk (.agg #[.int .i64 e.Ai,.slice a1 e.Ah.length c1]) e F) FI) FH (fun x hx=>Nat.le_trans (hf x hx) FK)) fun u FU=>?_;refine Hp ?_;rintro a2 c2 F2 rfl l2;refine go ?_;intros;refine Ca (Adz e n _ F) fun _ _=>?_;refine C7 Bb ?_;rcases Se e n with ⟨h,e1,e2,e3⟩|⟨e1,e2,e3,e4⟩
 ·rw [e1,Aip h,Bad h];have hfx:=hf e.Ah[Mo e n] (List.getElem_mem h);refine go ?_;refine Wp (xs:=e.Ah) (Mo e n) ?_;rintro hi b o a5 c5 F5 e6 l5;generalize Mo e n=i at *;generalize hx:e.Ah[i]=x at *;rw [e6];refine go ?_;refine Cd [2,3,6,7,8,10] (fun s:Bgt=>[(11,.int .i64 (s.k:Nat)),(9,.slice s.a ((below.take s.k).filter fun f=>decide (f∈x.Bj)).length s.c)]) (fun s=>[.ow Bb 3 (.slice s.a ((below.take s.k).filter fun f=>decide (f∈x.Bj)).length s.c) ((below.take s.k).filter fun f=>decide (f∈x.Bj)) s.F]) (fun s=>s.k≤below.length) (fun s=>below.length - s.k) ⟨0,_,_,_⟩ (Nat.zero_le _) fun s hs=>?_
  obtain ⟨k,a3,c3,F3⟩:=s;dsimp only at hs ⊢;refine go ?_;refine A1 rfl (fun h6=>?_) (fun h6=>?_)
  ·have hk:k < below.length:=FH
   refine I6 (xs:=below) k ?_;rintro hi2 b2 o2 e7;rw [e7];have ht:below.take (k+1)=below.take k++[below[k]]:=by rw [List.take_add_one,List.getElem?_eq_getElem hk];rfl
   have hle:((below.take k).filter fun f=>decide (f∈x.Bj)).length≤k:=Nat.le_trans (List.length_filter_le _ _) FO;refine go ?_;refine As [0,2,7] [] ?_;refine Dq 0 1 2 3 ?_;refine Dq 4 5 6 7 ?_;refine Ec 8 9 ?_;refine dN 10 ?_;refine oC ?_;refine Ca (Bet x.Bj below[k] a5 c5 F5) fun _ _=>?_;refine dk ?_;refine dd ?_;refine go ?_;refine A1 rfl (fun h7=>?_) (fun h7=>?_)
   ·have e8:(below.take (k+1)).filter (fun f=>decide (f∈x.Bj))=((below.take k).filter fun f=>decide (f∈x.Bj))++[below[k]]:=by rw [ht,List.filter_append];simp [h7]
    refine go ?_;intros;apply wO;refine Ps (Q3 _) C8 fun a6 c6 F6=>?_;rw [←e8];refine go ?_;refine Cg (⟨k+1,_,_,_⟩:Bgt) hk JF
   ·have e8:(below.take (k+1)).filter (fun f=>decide (f∈x.Bj))=((below.take k).filter fun f=>decide (f∈x.Bj)):=by rw [ht,List.filter_append];simp [h7]
    refine go ?_;rw [←e8];refine Cg (⟨k+1,_,_,_⟩:Bgt) hk JF
  ·have hk:below.take k=below:=List.take_of_length_le FH;rw [hk];refine go ?_;refine Aep Re rfl fun ys Fy Gy hyl hym=>?_;refine Bcq i hi hyl hym fun G1 Gi G2=>?_;refine A4 (E:=EC 3) (xs:=ys) fun Fr=>?_;refine Bct (E:=EC 3) (xs:=ys) i FH fun F6 hc1 hc2=>?_;refine As [8] [13] ?_;refine Ec 1 2 ?_;refine dt 3 ?_;refine dt 4 ?_ (hy:=Pz (i:=i) rfl rfl rfl FH FH);refine Dq 6 7 8 9 ?_;refine Asf 10 (i+1) fun a7 c7 F7=>?_;refine dN 0 ?_;apply Mp;rfl;intro _;refine C7 (EC 3) ?_;refine dk ?_;refine dN 5 ?_
   refine Pf (Atb 3) (Me 3) (fun a6 c6 F6=>?_) (hn:=FY) (h63:=JO) (hby:=JO);refine dk ?_;refine dN 11 ?_;refine Pf (Atb 3) (Me 3) (fun a8 c8 F8=>?_) (h63:=JO) (hby:=JO);refine dk ?_;refine dt 12 ?_;refine dN 13 ?_;refine oS ?_;refine Tf ?_;refine dd ?_;refine Avi (E:=Dz) ?_;refine Bcp (E:=Dz) (m:=3) (ys:=([]++ys.take i)++ys.drop (i+1)) (cs:=(ys.take i).flatten++(ys.drop (i+1)).flatten) (xs:=e.Ah.take i++e.Ah.drop (i+1)) ?_ rfl FI (by simp [hyl]);refine go ?_
   refine Av3 (n:=(([]++ys.take i)++ys.drop (i+1)).length) ⟨e.Ai,e.Ah.take i++e.Ah.drop (i+1)⟩ (by simp [hyl]) ?_;exact EN
 ·rw [e1,Anq e2,Bee e2];refine go ?_;refine A1 rfl (fun h5=>?_) (fun h5=>?_)
  ·rw [if_pos FH];refine go ?_;apply wO;refine Pf C8 D5 fun a4 c4 F4=>?_;refine go ?_;refine Av3 e rfl ?_;exact EN
  ·rw [if_neg FH];refine go ?_;refine Av3 e rfl ?_;exact EN
theorem Ar1 (e:Bf) (n f:Int) (g t o:Nat) (A B:List Value) (a:Option Addr) (c:Nat) (F:List Nat) (hl:e.Ah.length≤1000000) (hf:∀x∈e.Ah,x.Bj.length≤1000000∧x.Bj.Pairwise (· < ·)) (hc0:-1000000≤e.Ai) (hc1:e.Ai≤1000000) :
  Fn prog 332 [Il g o 0,.int .i64 n,.int .i64 f] [] [.row g t o A [.int .i64 e.Ai,.slice a e.Ah.length c] B,.ow Dz 253 (.slice a e.Ah.length c) e.Ah F] (fun (_:Option Addr × Nat × List Nat)=>True) (fun _=>.bool (Adp e n)) (fun s=>[.row g t o A [.int .i64 (Pd e n f).Ai,.slice s.1 (Pd e n f).Ah.length s.2.1] B,.ow Dz 253 (.slice s.1 (Pd e n f).Ah.length s.2.1) (Pd e n f).Ah s.2.2]):=by
 refine enter func332 rfl ntmps332 fun w0=>?_;refine go ?_;refine cb (fun w st=>by
  obtain ⟨F', -,hs⟩:=(st.get (p:=.ow Dz 253 (.slice a e.Ah.length c) e.Ah F) FI).2.sl Rn;exact (Aml e n _ F').val w (El ⟨_,rfl,_,rfl,hs⟩)) ?_
 rcases Se e n with ⟨h,e1,e2,e3⟩|⟨e1,e2,e3,e4⟩
 ·rw [e1,e3,Aiu h];obtain ⟨hfx,hpw⟩:=hf e.Ah[Mo e n] (List.getElem_mem h);have hsl:∀y,(e.Ah.set (Mo e n) y).length=e.Ah.length:=fun y=>List.length_set;refine go ?_;refine Wu (m:=3) (Mo e n) ?_ rfl h;rintro _ g2 A2 cs B2 k1 k2 G1 Gi G2 rfl - hc hH;refine Xa ?_;rintro a5 c5 F5 ev l5;obtain rfl:=Uq ev;refine go ?_;refine cb (fun w st=>by
   obtain ⟨F', -,hs⟩:=(st.get (p:=.ow Bb 3 (.slice a5 e.Ah[Mo e n].Bj.length c5) e.Ah[Mo e n].Bj F5) FI).2.read;exact (Bd4 _ f a5 c5 F' hpw hfx).val w (El ⟨FK,hs⟩)) ?_
  cases hq:Azt e.Ah[Mo e n].Bj f
  ·have ep:Ur e.Ah[Mo e n].Bj f=e.Ah[Mo e n].Bj.take (Ls e.Ah[Mo e n].Bj f)++f::e.Ah[Mo e n].Bj.drop (Ls e.Ah[Mo e n].Bj f):=by unfold Ur;rw [if_neg (by simpa [Azt] using hq)]
   refine go ?_;intros;refine Ca (Azc e.Ah[Mo e n].Bj f (Ls e.Ah[Mo e n].Bj f) a5 c5 _ F5 (Ax0 _ _) hfx) fun z _=>?_;rw [←ep];refine go ?_;refine M6 ⟨e.Ah[Mo e n].Ae,Ur e.Ah[Mo e n].Bj f,e.Ah[Mo e n].Ce⟩ ?_;refine Sw _ hH rfl fun F6=>?_;dsimp only;rw [←hsl ⟨e.Ah[Mo e n].Ae,Ur e.Ah[Mo e n].Bj f,e.Ah[Mo e n].Ce⟩];exact BK
  ·have ep:Ur e.Ah[Mo e n].Bj f=e.Ah[Mo e n].Bj:=by unfold Ur;rw [if_pos (by simpa [Azt] using hq)]
   rw [ep];refine go ?_;refine M6 ⟨e.Ah[Mo e n].Ae,e.Ah[Mo e n].Bj,e.Ah[Mo e n].Ce⟩ ?_;refine Sw _ hH rfl fun F6=>?_;dsimp only;rw [←hsl ⟨e.Ah[Mo e n].Ae,e.Ah[Mo e n].Bj,e.Ah[Mo e n].Ce⟩];exact BK
 ·rw [e1,e3];refine go ?_;refine A1 rfl (fun h5=>?_) (fun h5=>?_)
  ·rw [Ait e2 FH];refine go ?_;refine As [0] [18] ?_;refine Dq 0 1 2 3 ?_;refine Dq 4 5 6 8 ?_;refine Dq 9 10 11 12 ?_;refine dN 7 ?_;apply Lr;rfl;rfl;rfl;rfl;exact Ll;exact Kv;intro _;refine dk ?_;refine dt 13 ?_;refine dN 14 ?_;apply Lr;rfl;rfl;rfl;rfl;exact Ll;exact Kv;intro _;refine Le (E:=Bb) (xs:=[f]) (Q3 f) ?_ FI;refine M6 ⟨n,[f],e.Ai+6⟩ ?_;refine dk ?_;refine dN 15 ?_;refine Adi Re ⟨n,[f],e.Ai+6⟩ rfl fun a3 c3 F3=>?_;refine dk ?_;refine Ec 16 17 ?_;refine dN 18 ?_;refine oS ?_;refine Tf ?_;refine dd ?_;refine go ?_;exact BK
  ·rw [Aei e2 FH];refine go ?_;exact BK
theorem Bac {e:Bf} {n:Int} {l:List Int} (h:Mo e n < e.Ah.length):Vp e n l=e.Ah[Mo e n].Bj.filter fun f=>decide (f∈l):=by unfold Vp;rw [List.getElem?_eq_getElem h]
theorem Bec {e:Bf} {n:Int} {l:List Int} (h:e.Ah[Mo e n]?=none):Vp e n l=if e.Ah.length=5 then l else []:=by unfold Vp;rw [h]
theorem Aya (x:Int) (gb:Nat) (l:List Int) (a:Option Addr) (c:Nat) (F:List Nat):FV 371 [.int .i64 x,Il gb 0 0] [.cel gb 0 [.slice a l.length c],.sl Bb (.slice a l.length c) l F] (.bool (!decide (x∈l))):=by
 refine enter func371 rfl ntmps371 fun w0=>?_;refine go ?_;refine Ca (Azz l x _ _ F) fun _ _=>?_;refine go ?_;refine ret () trivial ?_;rw [decide_not];rfl
structure Bkb where
 a:Option Addr
 c:Nat
 F:List Nat
 a2:Option Addr
 c2:Nat
 F2:List Nat
theorem Avr (e:Bf) (n:Int) (below:List Int) (g t o:Nat) (A B:List Value) (a:Option Addr) (c:Nat) (F:List Nat) (a0:Option Addr) (c0:Nat) (F0:List Nat) (hl:e.Ah.length≤1000000) (hf:∀x∈e.Ah,x.Bj.length≤1000000) (hb:below.length≤1000000) :
  Fn prog 330 [Il g o 0,.int .i64 n,.slice a0 below.length c0] [.sl Bb (.slice a0 below.length c0) below F0] [.row g t o A [.int .i64 e.Ai,.slice a e.Ah.length c] B,.ow Dz 253 (.slice a e.Ah.length c) e.Ah F] (fun (_:Bkb)=>True) (fun s=>.slice s.a2 (Vp e n below).length s.c2) (fun s=>[.row g t o A [.int .i64 (Qr e n).Ai,.slice s.a (Qr e n).Ah.length s.c] B,.ow Dz 253 (.slice s.a (Qr e n).Ah.length s.c) (Qr e n).Ah s.F,.ow Bb 3 (.slice s.a2 (Vp e n below).length s.c2) (Vp e n below) s.F2]):=by
 refine enter func330 rfl ntmps330 fun w0=>?_;refine go ?_;intros;rename_i gb;refine cb (fun w st=>by
  obtain ⟨F', -,hs⟩:=(st.get (p:=.ow Dz 253 (.slice a e.Ah.length c) e.Ah F) FI).2.sl Rn;exact (Aml e n _ F').val w (El ⟨_,rfl,_,rfl,hs⟩)) ?_
 refine An3 (cs:=[.slice a0 below.length c0]) ?_ FI;rcases Se e n with ⟨h,e1,e2,e3⟩|⟨e1,e2,e3,e4⟩
 ·rw [e1,Aip h,Bac h];have hfx:=hf e.Ah[Mo e n] (List.getElem_mem h);refine go ?_;refine Aep Re rfl fun ys Fy Gy hyl hym=>?_;generalize Mo e n=i at *;generalize hx:e.Ah[i]=x at *;refine Bcq i h hyl hym fun G1 Gi G2=>?_;rw [hx];refine Xa ?_;rintro a5 c5 F5 ev l5;have hyi:ys[i]=[.int .i64 x.Ae,.slice a5 x.Bj.length c5,.int .i64 x.Ce]:=by simpa using ev
  refine Pv (m:=3) (Me 3) i ?_ FM rfl FH;rintro _ g2 A2 cs B2 rfl rfl hr hH;obtain ⟨rfl, -⟩:=hr w0;rw [hyi];refine go ?_;refine Ca (Aoi 371 [] [Il gb 0 0] [.cel gb 0 [.slice a0 below.length c0],.sl Bb (.slice a0 below.length c0) below F0] rfl x.Bj a5 c5 F5 (fun z=>!decide (z∈below)) FJ FH (fun z _ w hA=>(Aya z gb below a0 c0 F0).val w hA)) fun z _=>?_;have e9:(x.Bj.filter fun z=>!!decide (z∈below))=x.Bj.filter fun z=>decide (z∈below):=by simp only [Bool.not_not]
  rw [e9];rw [←hyi];refine O5 ys[i] hH hr ?_;rw [List.set_getElem_self];refine go ?_;refine Ca (Bgr ys e.Ah.length i _ _ _ _ hyl.symm FH rfl FH) fun q _=>?_;refine go ?_;refine Avi (E:=Dz) ?_;refine Bcp (E:=Dz) (m:=3) (ys:=ys.take i++ys.drop (i+1)) (cs:=(ys.take i).flatten++(ys.drop (i+1)).flatten) (xs:=e.Ah.take i++e.Ah.drop (i+1)) ?_ rfl FI (by simp [hyl]);rw [show (ys.take i++ys.drop (i+1)).length=(e.Ah.take i++e.Ah.drop (i+1)).length by simp [hyl]];refine ret ⟨_,_,_,_,_,_⟩ trivial rfl
 ·rw [e1,Anq e2,Bec e2];refine go ?_;refine A1 rfl (fun h5=>?_) (fun h5=>?_)
  ·rw [if_pos FH];refine go ?_;refine cn (fun w st=>Vf _ below F0 w (st.get (p:=.sl Bb (.slice a0 below.length c0) below F0) FI).2 FH) fun a6 c6 F6=>?_;exact DW
  ·rw [if_neg FH];refine Db Bb 3 ?_;exact DW
theorem Ajr (t:Qe) (v:Value) (F:List Nat):FV 89 [v] [.isv P0 v t F] (.bool (Kc t)):=by
 refine enter func89 rfl ntmps89 fun w0=>?_;refine Om ?_;rintro a1 c1 F1 rfl l1;unfold maxLen at l1;refine go ?_;intros;refine Eh [1,2,6,7] (fun k:Nat=>[(8,.int .i64 (k:Nat))]) (fun k=>k≤t.Ad.length∧∀j,j < k→Afl t.Ad j=true) (fun k=>t.Ad.length - k) 0 ⟨Nat.zero_le _,fun j h=>by omega⟩ fun k hk=>?_;obtain ⟨hk1,hk2⟩:=hk;refine go ?_;refine A1 rfl (fun h1=>?_) (fun h1=>?_)
 ·have hh:k < t.Ad.length:=FH
  refine I6 (xs:=t.Ad) k ?_;rintro hi b o e1;rw [e1];refine go ?_;refine Dy rfl rfl (fun h2=>?_) (fun h2=>?_)
  ·obtain rfl:k=0:=FH
   refine go ?_;refine Dy rfl rfl (fun h3=>?_) (fun h3=>?_)
   ·refine go ?_;rw [Ab9 hh (by rw [Ui hh];exact decide_eq_false h3)];exact BD
   ·refine go ?_;refine Cg 1 ⟨hh,fun j hj=>by obtain rfl:j=0:=FH;rw [Ui hh];exact decide_eq_true FH⟩ (by show t.Ad.length - 1 < t.Ad.length - 0;omega)
  ·refine go ?_;refine Dy rfl rfl (fun h3=>?_) (fun h3=>?_)
   ·refine go ?_;refine ce (fun w s=>Id _ _ _ w) ?_;cases g:Ga 0 t.Ad[k] ((k:Int) - 1)
    ·refine go ?_;rw [Ab9 hh (by rw [Wb hh FH];exact g)];exact BD
    ·refine go ?_;refine Cg (k+1) ⟨hh,fun j hj=>?_⟩ (by show t.Ad.length - (k+1) < t.Ad.length - k;omega);rcases Nat.lt_or_eq_of_le (Nat.lt_succ_iff.1 hj) with h|rfl
     ·exact hk2 j h
     ·rw [Wb hh FH];exact g
   ·exact absurd h3 FH
 ·obtain rfl:k=t.Ad.length:=FH
  refine go ?_;refine ce (fun w s=>Id _ _ _ w) ?_;refine go ?_;refine ret () trivial ?_;unfold Kc;rw [Lw hk2,Bool.and_true];rfl
theorem Ba2 (t:Qe) (v:Value) (F:List Nat):FV 67 [v] [.isv P0 v t F] (.bool (Kc t)):=by
 refine enter func67 rfl ntmps67 fun w0=>?_;refine Om ?_;rintro a1 c1 F1 rfl l1;unfold maxLen at l1;refine go ?_;intros;refine ce (fun w s=>Kk _ _ _ w) ?_;cases g0:Ga 2 (t.Ad.length:Int) 8
 ·rw [Awk g0];exact AA
 have hb:2≤t.Ad.length∧t.Ad.length≤8:=by
  unfold Ga at g0;simp only [Bool.and_eq_true,decide_eq_true_eq] at g0;omega
 have h0:0 < t.Ad.length:=FH
 refine I6 (xs:=t.Ad) 0 ?_;rintro hi b o e1;rw [e1];refine go ?_;refine A1 rfl (fun h2=>?_) (fun h2=>?_)
 ·refine go ?_;rw [Ab9 h0 (by rw [Ui h0];exact decide_eq_false h2)];exact BD
 refine go ?_;refine Eh [1,2,3] (fun k:Nat=>[(4,.int .i64 ((k+1:Nat):Int))]) (fun k=>k+1≤t.Ad.length∧∀j,j < k+1→Afl t.Ad j=true) (fun k=>t.Ad.length - k) 0 ⟨FH,fun j h=>by obtain rfl:j=0:=FH;rw [Ui h0];exact decide_eq_true FH⟩ fun k hk=>?_;obtain ⟨hk1,hk2⟩:=hk;refine go ?_;refine A1 rfl (fun h1=>?_) (fun h1=>?_)
 ·have hh:k+1 < t.Ad.length:=FH
  refine I6 (a:=some ⟨b,o,none⟩) (xs:=t.Ad) (k+1) ?_;rintro hi2 _ _ e2;cases e2;refine go ?_;refine ce (fun w s=>Kk _ _ _ w) ?_;cases g:Ga 0 t.Ad[k+1] (((k+1:Nat):Int) - 1)
  ·refine go ?_;rw [Ab9 hh (by rw [Wb hh FH];exact g)];exact BD
  ·refine go ?_;refine Cg (k+1) ⟨hh,fun j hj=>?_⟩ (by show t.Ad.length - (k+1) < t.Ad.length - k;omega);rcases Nat.lt_or_eq_of_le (Nat.lt_succ_iff.1 hj) with h|rfl
   ·exact hk2 j h
   ·rw [Wb hh FH];exact g
 ·have hk:k+1=t.Ad.length:=FH
  refine go ?_;refine ret () trivial ?_;unfold Kc;rw [g0,Lw (fun j hj=>hk2 j FH)];rfl
structure KiS where
 k:Nat
 a:Option Addr
 c:Nat
 F:List Nat
theorem Qm (t:Qe) (node:Int) (v:Value) (F:List Nat) (hz:Kj t.Ad node 1=[]) (hl:1≤t.Ad.length∧t.Ad.length≤1000000):Fn prog 221 [v,.int .i64 node] [.isv P0 v t F] [] (fun (_:KiS)=>True) (fun z=>.slice z.a (Iw t.Ad node).length z.c) (fun z=>[.ow Bb 3 (.slice z.a (Iw t.Ad node).length z.c) (Iw t.Ad node) z.F]):=by
 refine enter func221 rfl ntmps221 fun w0=>?_;refine Om ?_;rintro a1 c1 F1 rfl l1;unfold maxLen at l1;refine go ?_;intros;refine C7 Bb ?_;refine Cd [1,2,4] (fun z:KiS=>[(5,.slice z.a (Ux t.Ad node z.k).length z.c),(6,.int .i64 ((z.k+1:Nat):Int))]) (fun z=>[.ow Bb 3 (.slice z.a (Ux t.Ad node z.k).length z.c) (Ux t.Ad node z.k) z.F]) (fun z=>z.k+1≤t.Ad.length) (fun z=>t.Ad.length - z.k) ⟨0,_,_,_⟩ hl.1 fun z hz2=>?_;have hkl:=Alg t.Ad node z.k;have hl2:=hl.2;refine go ?_;refine A1 rfl (fun h1=>?_) (fun h1=>?_)
 ·have hh:z.k+1 < t.Ad.length:=FH
  refine I6 (xs:=t.Ad) (z.k+1) ?_;rintro hi b o e1;rw [e1];refine go ?_;refine A1 rfl (fun h2=>?_) (fun h2=>?_)
  ·refine Og ?_;intros;apply wO;refine Ps (Q3 _) C8 fun a9 c9 F9=>?_;refine go ?_;rw [←Awx hh h2];refine Cg ⟨z.k+1,a9,c9,F9⟩ (by show z.k+1+1≤t.Ad.length;omega) (by show t.Ad.length - (z.k+1) < t.Ad.length - z.k;omega)
  ·rw [←Bav hh h2];refine go ?_;refine Cg ⟨z.k+1,z.a,z.c,z.F⟩ (by show z.k+1+1≤t.Ad.length;omega) (by show t.Ad.length - (z.k+1) < t.Ad.length - z.k;omega)
 ·have hk:z.k+1=t.Ad.length:=FH
  rw [Alf hz hk];exact CJ
theorem Yi (t:Qe) (node:Int) (v:Value) (F:List Nat):FV 177 [v,.int .i64 node] [.isv P0 v t F] (.bool (Eo t.Ad node)):=by
 refine enter func177 rfl ntmps177 fun w0=>?_;refine Om ?_;rintro a1 c1 F1 rfl l1;refine go ?_;intros;refine Ca (Azz t.Ad node _ _ F1) fun _ _=>?_;refine go ?_;refine ret () trivial ?_;unfold Eo;rw [←decide_not];rfl
theorem O1 (t:Qe) (node:Int) (v:Value) (F:List Nat) (hg:Vg t.Ad) (h0:0 < node):FV 139 [v,.int .i64 node] [.isv P0 v t F] (.bool (Eo t.Ad node)):=by
 refine enter func139 rfl ntmps139 fun w0=>?_;refine Om ?_;rintro a1 c1 F1 rfl l1;refine go ?_;intros;refine Dy rfl rfl (fun h1=>?_) (fun h1=>?_)
 ·refine go ?_;refine Ca (Qm t node _ F (Tw hg.z FH) (by have:=hg.n0;have:=hg.n1;omega)) fun q _=>?_;refine go ?_;refine ret () trivial ?_;rw [Axk];by_cases hk:Iw t.Ad node=[]
  ·rw [hk];rfl
  ·rw [decide_eq_false hk,decide_eq_false fun e=>hk (List.length_eq_zero_iff.1 FH)];rfl
 ·exact absurd h0 h1
theorem Apg {e:Bf} (h:Ba e=true) {x:Gj} (hx:x∈e.Ah):x.Bj.Pairwise (· < ·):=by
 unfold Ba at h;simp only [Bool.and_eq_true] at h;obtain ⟨i,hi,rfl⟩:=List.getElem_of_mem hx;have:=Js h.2 i hi;rw [Ku hi] at this;simp only [Lj,Bool.and_eq_true] at this;exact (Zp this.1.2.2.1).1
theorem Aus {e:Bf} {n:Int} {l:List Int} (h:Ba e=true) (h2:Rl 1 7 l=true):Ab3 e n l=Vp e n l:=by
 unfold Ab3 Vp;cases hx:e.Ah[Mo e n]? with
 | none=>rfl
 | some x=>exact (Api (Apg h (List.mem_of_getElem? hx)) (Zp h2).1).symm
end Go.Proofs.YtcmighgaiacgoaaGreatDoor
namespace Go.Proofs.YtcmighgaiacgoaaGreatDoor

open Go.RowKit
end Go.Proofs.YtcmighgaiacgoaaGreatDoor
namespace Go.Proofs.YtcmighgaiacgoaaGreatDoor
open Go.RowKit
def Lq (e:Bf) (n:Int):List Int:=match e.Ah[Mo e n]? with
 | some x=>x.Bj
 | none=>[]
def Gc (e:Bf) (n:Int):List Int × Bool:=if Ba e && B8 n then (Lq e n,true) else ([],false)
theorem U2 {e:Bf} {n:Int} (h:(Ba e && B8 n)=false):Gc e n=([],false):=by unfold Gc;rw [h];rfl
theorem Ar2 (e:Bf) (n:Int) (v:Value) (F:List Nat):Fn prog 205 [v,.int .i64 n] [.isv Bk v e F] [] (fun (_:Option Addr × Nat × List Nat)=>True) (fun s=>.tuple #[.slice s.1 (Gc e n).1.length s.2.1,.bool (Gc e n).2]) (fun s=>[.ow Bb 3 (.slice s.1 (Gc e n).1.length s.2.1) (Gc e n).1 s.2.2]):=by
 refine enter func205 rfl ntmps205 fun w0=>?_;refine Db Bb 3 ?_;refine Fh ?_;rintro a1 c1 F1 rfl l1;refine go ?_;intros;refine cb (fun w st=>Vh _ e _ w (st.get (p:=.isv Bk (.agg #[.int .i64 e.Ai,.slice a1 e.Ah.length c1]) e F) FI)) ?_;cases g1:Ba e
 ·skip
  rw [U2 (by simp [g1])];refine go ?_;exact BK
 obtain ⟨hck,hl5,hf7⟩:=Vq g1;refine go ?_;refine ce (fun w s=>Jc n _) ?_;cases g2:B8 n
 ·skip
  rw [U2 (by simp [g1,g2])];refine go ?_;exact BK
 refine go ?_;refine Ca (Aml e n _ F) fun _ _=>?_;rw [show Gc e n=(Lq e n,true) by unfold Gc;rw [g1,g2];rfl];rcases Se e n with ⟨h,e1,e2,e3⟩|⟨e1,e2,e3,e4⟩
 ·have hfx:=hf7 e.Ah[Mo e n] (List.getElem_mem h);rw [e1,show Lq e n=e.Ah[Mo e n].Bj by unfold Lq;rw [List.getElem?_eq_getElem h]];refine Wp (xs:=e.Ah) (Mo e n) ?_;rintro hi b o a5 c5 F5 e6 l5;rw [e6];refine go ?_;refine cn (fun w st=>Vf _ e.Ah[Mo e n].Bj F5 w (st.get (p:=.sl Bb (.slice a5 e.Ah[Mo e n].Bj.length c5) e.Ah[Mo e n].Bj F5) FI).2 FH) fun a6 c6 F6=>?_;refine go ?_;exact BK
 ·rw [e1,show Lq e n=[] by unfold Lq;rw [e2]];refine go ?_;exact BK
theorem Ai4 (e:Bf) (n:Int) (v:Value) (F:List Nat):Fn prog 154 [v,.int .i64 n] [.isv Bk v e F] [] (fun (_:Option Addr × Nat × List Nat)=>True) (fun s=>.tuple #[.slice s.1 (Gc e n).1.length s.2.1,.bool (Gc e n).2]) (fun s=>[.ow Bb 3 (.slice s.1 (Gc e n).1.length s.2.1) (Gc e n).1 s.2.2]):=by
 refine enter func154 rfl ntmps154 fun w0=>?_;refine Fh ?_;rintro a1 c1 F1 rfl l1;refine go ?_;intros;refine cb (fun w st=>Ali _ e _ w (st.get (p:=.isv Bk (.agg #[.int .i64 e.Ai,.slice a1 e.Ah.length c1]) e F) FI)) ?_;cases g1:Ba e
 ·skip
  rw [U2 (by simp [g1])];refine go ?_;intros;refine C7 Bb ?_;exact BK
 obtain ⟨hck,hl5,hf7⟩:=Vq g1;refine go ?_;refine ce (fun w s=>Pi n _) ?_;cases g2:B8 n
 ·skip
  rw [U2 (by simp [g1,g2])];refine go ?_;intros;refine C7 Bb ?_;exact BK
 refine go ?_;refine Ca (Adz e n _ F) fun _ _=>?_;rw [show Gc e n=(Lq e n,true) by unfold Gc;rw [g1,g2];rfl];rcases Se e n with ⟨h,e1,e2,e3⟩|⟨e1,e2,e3,e4⟩
 ·have hfx:=hf7 e.Ah[Mo e n] (List.getElem_mem h);rw [e1,show Lq e n=e.Ah[Mo e n].Bj by unfold Lq;rw [List.getElem?_eq_getElem h]];refine Wp (xs:=e.Ah) (Mo e n) ?_;rintro hi b o a5 c5 F5 e6 l5;rw [e6];refine go ?_;refine cn (fun w st=>Acf _ e.Ah[Mo e n].Bj F5 w (st.get (p:=.sl Bb (.slice a5 e.Ah[Mo e n].Bj.length c5) e.Ah[Mo e n].Bj F5) FI).2 FH) fun a6 c6 F6=>?_;refine go ?_;exact BK
 ·rw [e1,show Lq e n=[] by unfold Lq;rw [e2]];refine go ?_;intros;refine C7 Bb ?_;exact BK
end Go.Proofs.YtcmighgaiacgoaaGreatDoor
namespace Go.Proofs.YtcmighgaiacgoaaGreatDoor

theorem Aum {α:Type} (f:α→Nat) (B:Nat):∀xs:List α,(∀x∈xs,f x≤B)→Dj f xs≤xs.length * B
 | [],_=>by simp [Dj]
 | x::r,h=>by
  have h1:=h x FI;have h2:=Aum f B r fun y hy=>h y LL;have e:Dj f (x::r)=f x+Dj f r:=by simp [Dj]
  rw [e,List.length_cons,Nat.add_mul];omega
open Go.RowKit
end Go.Proofs.YtcmighgaiacgoaaGreatDoor
namespace Go.Proofs.YtcmighgaiacgoaaGreatDoor
open Go.RowKit
theorem Hm {e:Bf}:Ba e=true↔Ky e.Ai=true∧e.Ah.length≤5∧(∀x∈e.Ah,Lj e.Ai x=true)∧e.Ah.Pairwise fun a b=>a.Ae≠b.Ae:=by
 unfold Ba;simp only [Bool.and_eq_true,decide_eq_true_eq];constructor
 ·rintro ⟨⟨h1,h2⟩,h3⟩;refine ⟨h1,h2,fun x hx=>?_,List.pairwise_iff_getElem.2 fun i j hi hj hij=>?_⟩
  ·obtain ⟨i,hi,rfl⟩:=List.getElem_of_mem hx;have:=Js h3 i hi;rw [Ku hi,Bool.and_eq_true] at this;exact this.1
  ·have:=Js h3 j hj;rw [Ku hj,Bool.and_eq_true,Bool.not_eq_true',List.any_eq_false] at this;have:=this.2 e.Ah[i] (List.mem_take_iff_getElem.2 ⟨i,FH,rfl⟩);exact EM
 ·rintro ⟨h1,h2,h3,h4⟩;refine ⟨⟨h1,h2⟩,Lw fun i hi=>?_⟩;rw [Ku hi,h3 _ (List.getElem_mem hi),Bool.true_and,Bool.not_eq_true',List.any_eq_false];intro x hx;obtain ⟨j,hj,rfl⟩:=List.mem_take_iff_getElem.1 hx;have:=List.pairwise_iff_getElem.1 h4 j i FH hi FH;exact EM
theorem Qa {c:Int} {x:Gj}:Lj c x=true↔B8 x.Ae=true∧0 < x.Bj.length∧(x.Bj.Pairwise (· < ·)∧∀z∈x.Bj,1≤z∧z≤7)∧c+1≤x.Ce∧x.Ce≤c+6:=by
 unfold Lj Ga;simp only [Bool.and_eq_true,decide_eq_true_eq];exact ⟨fun ⟨a,b,c,d⟩=>⟨a,b,Zp c,d⟩,fun ⟨a,b,c,d⟩=>⟨a,b,Al0 c.1 c.2,d⟩⟩
theorem Aqo (l:List Int) (n:Int):(∀j (_:j < Ls l n) (h:j < l.length),l[j] < n)∧∀h:Ls l n < l.length,¬l[Ls l n] < n:=by
 have:=Rz (p:=fun x=>decide (x < n)) (xs:=l);exact ⟨fun j hj h=>of_decide_eq_true (this.2.1 j hj h),fun h=>of_decide_eq_false (this.2.2 h)⟩
theorem Aqp {l:List Int} {n x:Int}:x∈Ur l n↔x=n∨x∈l:=by
 unfold Ur
 split
 ·rename_i h;have:=List.mem_of_getElem? h;exact ⟨fun h=>.inr h,fun h=>by rcases h with rfl|h;exact this;exact h⟩
 ·rw [List.mem_append,List.mem_cons];constructor
  ·rintro (h|h|h)
   ·exact .inr (List.mem_of_mem_take h)
   ·exact .inl h
   ·exact .inr (List.mem_of_mem_drop h)
  ·rintro (h|h)
   ·exact .inr (.inl h)
   ·rw [←List.take_append_drop (Ls l n) l,List.mem_append] at h;rcases h with h|h
    ·exact .inl h
    ·exact .inr (.inr h)
theorem Be9 {l:List Int} {n:Int} (h:l.Pairwise (· < ·)):(Ur l n).Pairwise (· < ·):=by
 obtain ⟨s1,s2⟩:=Aqo l n;have hp:=List.pairwise_iff_getElem.1 h;unfold Ur
 split
 ·exact h
 ·rename_i hne;refine List.pairwise_append.2 ⟨h.sublist (List.take_sublist _ _),List.pairwise_cons.2 ⟨fun z hz=>?_,h.sublist (List.drop_sublist _ _)⟩,fun a ha b hb=>?_⟩
  ·obtain ⟨j,hj,rfl⟩:=List.mem_drop_iff_getElem.1 hz;have hk:Ls l n < l.length:=FH
   have h1:=s2 hk;have h2:l[Ls l n]≠n:=fun e=>hne (by rw [List.getElem?_eq_getElem hk,e]);rcases Nat.eq_zero_or_pos j with rfl|hj0
   ·simp only [Nat.add_zero];omega
   ·have:=hp (Ls l n) (Ls l n+j) hk FH FH;omega
  ·obtain ⟨i,hi,rfl⟩:=List.mem_take_iff_getElem.1 ha;have h1:=s1 i FH FH;rcases List.mem_cons.1 hb with rfl|hb
   ·exact h1
   ·obtain ⟨j,hj,rfl⟩:=List.mem_drop_iff_getElem.1 hb;exact hp i (Ls l n+j) FH FH FH
theorem O0 {f:Int}:Q0 f=true↔1≤f∧f≤7:=by unfold Q0 Ga;simp
theorem Awn {e:Bf} {n f:Int} (hg:Ba e=true) (hn:B8 n=true) (hf:Q0 f=true):Ba (Pd e n f)=true:=by
 obtain ⟨h1,h2,h3,h4⟩:=Hm.1 hg;obtain ⟨f1,f2⟩:=O0.1 hf;rcases Se e n with ⟨h, -,e2, -⟩|⟨-,e2, -,e4⟩
 ·rw [Aiu h];have hx:=Qa.1 (h3 _ (List.getElem_mem h));refine Hm.2 ⟨h1,IH,fun x hx'=>?_,?_⟩
  ·rcases List.mem_or_eq_of_mem_set hx' with h'|rfl
   ·exact h3 x h'
   ·refine Qa.2 ⟨hx.1,?_,⟨Be9 hx.2.2.1.1,fun z hz=>?_⟩,hx.2.2.2⟩
    ·exact List.length_pos_of_mem (Aqp.2 (.inl rfl))
    ·rcases Aqp.1 hz with rfl|hz
     ·exact ⟨f1,f2⟩
     ·exact hx.2.2.1.2 z hz
  ·refine List.pairwise_iff_getElem.2 fun i j hi hj hij=>?_;have hp:=List.pairwise_iff_getElem.1 h4 i j IZ IR hij;simp only [List.getElem_set]
   split <;> split <;> simp_all
 ·by_cases hl:e.Ah.length < 5
  ·rw [Ait e2 hl];refine Hm.2 ⟨h1,FO,fun x hx=>?_,?_⟩
   ·rcases List.mem_append.1 hx with h'|h'
    ·exact h3 x h'
    ·simp only [List.mem_cons,List.not_mem_nil,or_false] at h';subst h';exact Qa.2 ⟨hn,FI,⟨FI,by simp [f1,f2]⟩,by show e.Ai+1≤e.Ai+6;omega,by show e.Ai+6≤e.Ai+6;omega⟩
   ·refine List.pairwise_append.2 ⟨h4,FI,fun a ha b hb=>?_⟩;simp only [List.mem_cons,List.not_mem_nil,or_false] at hb;subst hb;exact e4 a ha
  ·rw [Aei e2 hl];exact hg
theorem Awm {e:Bf} {n:Int} (hg:Ba e=true):Ba (Qr e n)=true:=by
 obtain ⟨h1,h2,h3,h4⟩:=Hm.1 hg;rcases Se e n with ⟨h, -,e2, -⟩|⟨-,e2, -,e4⟩
 ·rw [Aip h];have hs:(e.Ah.take (Mo e n)++e.Ah.drop (Mo e n+1)).Sublist e.Ah:=by
   have:=List.Sublist.append (List.Sublist.refl (e.Ah.take (Mo e n))) (List.drop_sublist_drop_left e.Ah (Nat.le_succ (Mo e n)))
   rwa [List.take_append_drop] at this
  exact Hm.2 ⟨h1,Nat.le_trans hs.length_le h2,fun x hx=>h3 x (hs.subset hx),h4.sublist hs⟩
 ·rw [Anq e2];exact hg
theorem Ab2 {e:Bf} {n:Int} {l:List Int}:∀z∈Vp e n l,z∈l:=fun z hz=>by
 unfold Vp at hz
 split at hz
 ·have:=(List.mem_filter.1 hz).2;exact EM
 ·split at hz
  ·exact hz
  ·simp at hz
theorem At2 {r:Ay} {d:Int} (hg:Mn r) (hk:r.Ai < 9999) (d0:1≤d) (d1:d≤8):Ms (Ob r d) r.Aa.next=true∧∀q∈Ob r d,I4 r.Aa q.Ae=false:=by
 have k0:=hg.k0;obtain ⟨h1,h2,h3,h4⟩:=De.1 hg.q;refine ⟨De.2 ⟨h1,Nat.le_trans (Aet r d) h2,fun q hq=>?_,?_⟩,fun q hq=>(Ac2 hg hq).2.2⟩
 ·obtain ⟨q',hq',h⟩:=List.mem_filterMap.1 hq;have ho:=Er.1 (h3 q' hq');unfold U3 at h
  split at h
  ·cases h;exact h3 q hq'
  ·split at h
   ·cases h
   ·rename_i hn;have t0:=ho.t0;have t1:=ho.t1
    split at h
    ·cases h;exact Er.2 ⟨ho.n,ho.g,by show (1:Int)≤2;decide,by show (2:Int)≤3;decide,by show 0≤r.Ai+1+3;omega,by show r.Ai+1+3≤10007;omega,by show 0≤q'.D6+1;omega,by show q'.D6+1≤3;omega⟩
    ·cases h;exact Er.2 ⟨ho.n,ho.g,by show (1:Int)≤1;decide,by show (1:Int)≤3;decide,by show 0≤r.Ai+1+d;omega,by show r.Ai+1+d≤10007;omega,t0,t1⟩
 ·unfold Ob;refine List.Pairwise.filterMap _ (fun a a' h b hb b' hb'=>?_) h4;rw [An8 hb,An8 hb'];exact h
theorem Ays {r:Ay} {d:Int} (hg:Mn r) (hk:r.Ai < 9999) (d0:1≤d) (d1:d≤8):Mn (Cv r d):=by
 have k0:=hg.k0;obtain ⟨hq,hf⟩:=At2 hg hk d0 d1;by_cases hL:C5 r=[]
 ·rw [Aje hL];refine ⟨by show 0≤r.Ai+1;omega,by show r.Ai+1≤9999;omega,hg.w,hq,hf,fun hs=>?_⟩;obtain ⟨e1,e2⟩:=hg.z hs;refine ⟨e1,?_⟩;show Ob r d=[];unfold Ob;rw [e2];rfl
 ·have hst:r.Bd=true:=by
   cases hs:r.Bd
   ·exfalso;apply hL;unfold C5;rw [(hg.z hs).2];rfl
   ·rfl
  rw [Aer hL];obtain ⟨e1, -,e3, -⟩:=Vz (t:=Dh (C5 r)) hg.w;have hs8:=(Agl hg hL).1;have hgp:=@Zs r.Aa.next (Dh (C5 r))
  have hw:Cu (Jh r.Aa (Dh (C5 r)))=true:=Ae3 _ _ hg.w;rw [←Afv hg hL];refine ⟨by show 0≤r.Ai+1;omega,by show r.Ai+1≤9999;omega,hw,Afj (m:=(Jg r.Aa (Dh (C5 r))).length) FH hq hw e1,P9,fun hs=>?_⟩;have:r.Bd=false:=hs;rw [hst] at this;cases this
end Go.Proofs.YtcmighgaiacgoaaGreatDoor
namespace Go.Proofs.YtcmighgaiacgoaaGreatDoor

def Bkn:Cj:=⟨⟨0,0,[]⟩,0,0,[]⟩
end Go.Proofs.YtcmighgaiacgoaaGreatDoor
namespace Go.Proofs.YtcmighgaiacgoaaGreatDoor
open Go.RowKit
structure Amp where
 a:Option Addr
 c:Nat
 a2:Option Addr
 c2:Nat
 F:List Nat
def Arw (x:Cj) (W:Aw):Cj:=⟨W,x.Ai,x.quiet,Oi W x.holds⟩
structure Biz (x:Cj):Prop where
 w:D8 x.Aa=true
 l:x.Aa.An.length≤6
 t0:0≤x.Aa.Ap
 t1:x.Aa.Ap≤65535
 k0:0≤x.Ai
 k1:x.Ai≤9999
 m:x.holds.length≤6
 n:∀h∈x.holds,B8 h.Ae=true
 u:∀h∈x.holds,x.Ai+1≤h.Ce
 b:∀h∈x.holds,h.Ce≤x.Ai+3
theorem Lx {x:Cj} (h:Cz x=true):Biz x:=by
 unfold Cz at h;simp only [Bool.and_eq_true] at h;obtain ⟨⟨⟨h1,h2⟩,h3⟩,h4⟩:=h;obtain ⟨⟨t0,t1⟩,⟨s0,s1⟩,s2, -⟩:=Ea.1 h1;obtain ⟨k0,k1⟩:=Amu h2;have hc:∀h∈x.holds,B8 h.Ae=true∧x.Ai+1≤h.Ce∧h.Ce≤x.Ai+3:=fun h hh=>by
  obtain ⟨i,hi,rfl⟩:=List.getElem_of_mem hh;have:=List.all_eq_true.1 h4 i IZ;rw [Qh hi] at this;simp only [Bool.and_eq_true,Ga,decide_eq_true_eq] at this;exact ⟨this.1.1.1,this.1.2.1,this.1.2.2⟩
 have hg:∀i,(hi:i < x.holds.length)→(i:Int)≤gp x.Aa.Ap x.holds[i].Ae∧gp x.Aa.Ap x.holds[i].Ae < 6:=by
  intro i
  induction i with
  | zero =>
   intro hi;have:=List.all_eq_true.1 h4 0 IZ;rw [Qh hi] at this;simp only [Bool.and_eq_true,Jb,decide_eq_true_eq] at this;have b:=Ly x.Aa.Ap x.holds[0].Ae;exact ⟨FH,by have:=this.1.1.2;omega⟩
  | succ i ih =>
   intro hi;have p:=ih FH;have:=List.all_eq_true.1 h4 (i+1) IZ;rw [Qh hi] at this;simp only [Bool.and_eq_true,Jb,decide_eq_true_eq,Bool.or_eq_true,Bool.not_eq_true',decide_eq_false_iff_not] at this;have q:=this.2;have q2:=this.1.1.2;simp only [Nat.add_sub_cancel] at q;rcases q with q|q
   ·omega
   ·exact ⟨FH,FH⟩
 have hm:x.holds.length≤6:=by
  by_cases h0:x.holds.length≤6
  ·exact h0
  ·have:=hg 6 FH;omega
 exact ⟨h1,FH,t0,t1,k0,k1,hm,fun h hh=>(hc h hh).1,fun h hh=>(hc h hh).2.1,fun h hh=>(hc h hh).2.2⟩
def Ajl (hs:List Hx):Prop:=∀h∈hs, -1≤h.Ae∧h.Ae≤65536
theorem Agt {hs:List Hx} (hn:∀h∈hs,B8 h.Ae=true):Ajl hs:=fun h hh=>by have:=Bc.1 (hn h hh);omega
def Jw (W:Aw) (cl:Int) (hs:List Hx):List Hx:=hs.filter fun h=>Jb W h.Ae && decide (cl < h.Ce)
theorem Yl {W:Aw} {cl:Int} {hs:List Hx} (h:∀z∈hs,cl+1≤z.Ce):Jw W cl hs=Oi W hs:=by
 unfold Jw Oi;refine List.filter_congr fun z hz=>?_;rw [decide_eq_true (show cl < z.Ce by have:=h z hz;omega),Bool.and_true]
theorem Bbx (h:Hx) (w:World):Cy Bm w [.int .i64 h.Ae,.int .i64 h.Ce] [h] []:=⟨_,[],[],[],FI,FI,⟨rfl,rfl⟩,rfl,rfl⟩
structure HoS where
 k:Nat
 a:Option Addr
 c:Nat
 F:List Nat
theorem Afa (W:Aw) (hs:List Hx) (cl:Int) (v:Value) (a2:Option Addr) (c2:Nat) (F G:List Nat) (t0:0≤W.Ap) (t1:W.Ap≤65535) (hl:hs.length≤1000) (hn:Ajl hs) :
  Fn prog 341 [.slice a2 hs.length c2,v,.int .i64 cl] [.isv Bw v W F,.sl Bm (.slice a2 hs.length c2) hs G] [] (fun (_:Option Addr × Nat × List Nat)=>True)
   (fun z=>.slice z.1 (Jw W cl hs).length z.2.1) (fun z=>[.ow Bm 203 (.slice z.1 (Jw W cl hs).length z.2.1) (Jw W cl hs) z.2.2]):=by
 refine enter func341 rfl ntmps341 fun w0=>?_;refine Ez ?_;rintro a1 c1 F1 rfl l1;refine go ?_;intros;refine C7 Bm ?_;refine Cd [0,2,4,6] (fun s:HoS=>[(7,.slice s.a (Jw W cl (hs.take s.k)).length s.c),(8,.int .i64 s.k)]) (fun s=>[.ow Bm 203 (.slice s.a (Jw W cl (hs.take s.k)).length s.c) (Jw W cl (hs.take s.k)) s.F]) (fun s=>s.k≤hs.length) (fun s=>hs.length - s.k) ⟨0,_,0,_⟩ (Nat.zero_le _) fun s hk=>?_;obtain ⟨k,a5,c5,F5⟩:=s;dsimp only at hk ⊢;refine go ?_;refine A1 rfl (fun h3=>?_) (fun h3=>?_)
 ·have hk3:k < hs.length:=FH
  obtain ⟨n0,n1⟩:=hn hs[k] (List.getElem_mem hk3);have hkl:(Jw W cl (hs.take k)).length≤1000:=by have:=List.length_filter_le (fun h:Hx=>Jb W h.Ae && decide (cl < h.Ce)) (hs.take k);unfold Jw;simp only [List.length_take] at this;omega
  refine X8 (xs:=hs) k ?_;rintro hi b o e;rw [e];cases g5:Jb W hs[k].Ae
  ·refine Og ?_;intros;refine As [0,2] [] ?_;refine Dq 0 1 2 3 ?_;refine Ec 4 5 ?_;refine dN 6 ?_;refine oC ?_;refine cb (fun w st=>(Zj W hs[k].Ae _ _ t0 t1 n0 n1).val w (El (st.get (p:=.isv Bw (.agg #[.int .i64 W.Ap,.int .i64 W.size,.slice a1 W.An.length c1]) W F) FI))) ?_;rw [g5];refine dk ?_;refine dt 7 ?_;refine ds 8 ?_;refine ds 9 ?_;refine ds 10 ?_;refine ds 11 ?_;refine ds 12 ?_;refine ds 13 ?_;refine ds 14 ?_;refine dt 15 ?_;refine dd ?_;refine go ?_;have hf:Jw W cl (hs.take (k+1))=Jw W cl (hs.take k):=C6 hk3 (by rw [g5];rfl);rw [←hf]
   refine Cg ⟨k+1,a5,c5,F5⟩ hk3 KR
  ·refine Og ?_;intros;refine As [0,2] [] ?_;refine Dq 0 1 2 3 ?_;refine Ec 4 5 ?_;refine dN 6 ?_;refine oC ?_;refine cb (fun w st=>(Zj W hs[k].Ae _ _ t0 t1 n0 n1).val w (El (st.get (p:=.isv Bw (.agg #[.int .i64 W.Ap,.int .i64 W.size,.slice a1 W.An.length c1]) W F) FI))) ?_;rw [g5];refine dk ?_;refine dt 7 ?_;refine Do 8 ?_;refine Do 9 ?_;refine Do 10 ?_;refine Do 11 ?_;refine Do 12 ?_;refine Do 13 ?_;refine Do 14 ?_;refine dt 15 ?_;refine dd ?_;refine go ?_;refine A1 rfl (fun h5=>?_) (fun h5=>?_)
   ·refine go ?_;intros;apply wO;refine Ps (Bbx hs[k]) Jj fun a6 c6 F6=>?_;have hf:Jw W cl (hs.take (k+1))=Jw W cl (hs.take k)++[hs[k]]:=Hk hk3 (by rw [g5,decide_eq_true h5];rfl);rw [←hf];refine go ?_;refine Cg ⟨k+1,a6,c6,F6⟩ hk3 KR
   ·refine go ?_;have hf:Jw W cl (hs.take (k+1))=Jw W cl (hs.take k):=C6 hk3 (by rw [g5,decide_eq_false h5];rfl);rw [←hf];refine Cg ⟨k+1,a5,c5,F5⟩ hk3 KR
 ·have hkl:k=hs.length:=FH
  subst hkl;rw [List.take_length];refine go ?_;refine ret (a5,c5,F5) trivial rfl
def Y8 (x:Cj) (W:Aw):Cj:=⟨W,x.Ai,x.quiet,Jw W x.Ai x.holds⟩
theorem Bdg {x:Cj} {W:Aw} (h:∀z∈x.holds,x.Ai+1≤z.Ce):Y8 x W=Arw x W:=by unfold Y8 Arw;rw [Yl h]
theorem Uc (x:Cj) (W:Aw) (v vw:Value) (F Fw:List Nat) (y0:0≤W.Ap) (y1:W.Ap≤65535) (hl:x.holds.length≤1000) (hn:Ajl x.holds) :
  Fn prog 286 [v,vw] [.isv Dp v x F,.isv Bw vw W Fw] [] (fun (_:Amp)=>True) (fun s=>.agg #[.int .i64 W.Ap,.int .i64 W.size,.slice s.a W.An.length s.c,.int .i64 x.Ai,.int .i64 x.quiet,.slice s.a2 (Jw W x.Ai x.holds).length s.c2])
   (fun s=>[.isv Dp (.agg #[.int .i64 W.Ap,.int .i64 W.size,.slice s.a W.An.length s.c,.int .i64 x.Ai,.int .i64 x.quiet,.slice s.a2 (Jw W x.Ai x.holds).length s.c2]) (Y8 x W) s.F]):=by
 refine enter func286 rfl ntmps286 fun w0=>?_;refine H3 ?_;rintro a1 c1 F1 a2 c2 F2 rfl l1 l2;refine Ez (x:=W) (F:=Fw) ?_;rintro a3 c3 F3 rfl l3;refine go ?_;intros;refine As [1,2] [] ?_;refine Dq 0 1 2 3 ?_;refine Dq 4 5 6 7 ?_;refine Ec 8 9 ?_;refine dN 10 ?_;refine oC ?_;refine Ca (Afa W x.holds x.Ai _ a2 c2 Fw F2 y0 y1 FH hn) fun z _=>?_;refine dk ?_;refine dt 11 ?_;refine dN 12 ?_;refine oS ?_;refine dk ?_;refine dd ?_;refine go ?_;refine A4 (E:=Bm) fun F9=>?_;refine Hf (Y8 x W) ?_;exact EN
theorem Aw6 (x:Cj) (W:Aw) (v vw:Value) (F Fw:List Nat) (y0:0≤W.Ap) (y1:W.Ap≤65535) (hl:x.holds.length≤1000) (hn:∀h∈x.holds,B8 h.Ae=true) (hu:∀h∈x.holds,x.Ai+1≤h.Ce) :
  Fn prog 286 [v,vw] [.isv Dp v x F,.isv Bw vw W Fw] [] (fun (_:Amp)=>True) (fun s=>.agg #[.int .i64 W.Ap,.int .i64 W.size,.slice s.a W.An.length s.c,.int .i64 x.Ai,.int .i64 x.quiet,.slice s.a2 (Oi W x.holds).length s.c2])
   (fun s=>[.isv Dp (.agg #[.int .i64 W.Ap,.int .i64 W.size,.slice s.a W.An.length s.c,.int .i64 x.Ai,.int .i64 x.quiet,.slice s.a2 (Oi W x.holds).length s.c2]) (Arw x W) s.F]):=by
 have h:=Uc x W v vw F Fw y0 y1 hl (Agt hn);rw [Bdg hu,Yl hu] at h;exact h
end Go.Proofs.YtcmighgaiacgoaaGreatDoor
namespace Go.Proofs.YtcmighgaiacgoaaGreatDoor

open Go.RowKit Go.Shelf
end Go.Proofs.YtcmighgaiacgoaaGreatDoor
namespace Go.Proofs.YtcmighgaiacgoaaGreatDoor
open Go.RowKit
theorem Jz.frame {α:Type} {E:Bn α} {w w':World} {v x F} (h:Jz E w v x F) (hF:∀b∈F,w'.heap[b]?=w.heap[b]?):Jz E w' v x F:=by
 obtain ⟨cs,hv,h⟩:=h;exact ⟨cs,hv,E.frame h hF⟩
theorem Auj (t n:Int):Cf (Cf t 1) (n - 1)=Cf t n:=by unfold Cf;omega
def Dk (x:Aw):Aw:=if (x.An.length:Int)=x.size then ⟨Cf x.Ap 1,x.size,x.An.drop 1⟩ else x
def Df (x:Aw) (s:ByteArray):Aw:=⟨(Dk x).Ap,x.size,(Dk x).An++[s]⟩
def Du (x:Aw) (s:ByteArray):Ar:=⟨1,Cf x.Ap x.An.length,(Dk x).Ap,Cf (Dk x).Ap ((Dk x).An.length+1),s⟩
theorem Iy (t z:Int) (a:Option Addr) (n c:Nat) (w:World) (h0:0≤t) (h1:t≤65535) (hn:n≤4294967296) :
  Calls prog 200 #[.agg #[.int .i64 t,.int .i64 z,.slice a n c]] w (RB (.int .i64 (Cf t n)) w):=by
 go_enter func200,ntmps200
 go_wp2_with fail;refine (Ta _ _ _ FH FH).mono ?_;rintro e w' ⟨rfl,rfl⟩;go_wp2_with fail
 go_ret
 exact ⟨rfl,(Below.refl _ _).alloc (Nat.le_refl _) _⟩
theorem Ue (t z:Int) (a:Option Addr) (n c:Nat) (w:World) (h0:0≤t) (h1:t≤65535) (hn:n≤4294967296) :
  Calls prog 147 #[.agg #[.int .i64 t,.int .i64 z,.slice a n c]] w (RB (.int .i64 (Cf t n)) w):=by
 go_enter func147,ntmps147
 go_wp2_with fail;refine (Lu _ _ _ FH FH).mono ?_;rintro e w' ⟨rfl,rfl⟩;go_wp2_with fail
 go_ret
 exact ⟨rfl,(Below.refl _ _).alloc (Nat.le_refl _) _⟩
structure Bj6 where
 Bgl:List ByteArray
 Bgf:ByteArray
 Bjo:Int
end Go.Proofs.YtcmighgaiacgoaaGreatDoor
namespace Go.Proofs.YtcmighgaiacgoaaGreatDoor

open Go.RowKit Go.Shelf
end Go.Proofs.YtcmighgaiacgoaaGreatDoor
namespace Go.Proofs.YtcmighgaiacgoaaGreatDoor
open Go.RowKit
structure Bko (x:Bj6):Prop where
 l:x.Bgl.length≤8
 q:∀s∈x.Bgl,s.size≤60
 f:x.Bgf.size≤40
 u0:0≤x.Bjo
 u1:x.Bjo≤x.Bgf.size
end Go.Proofs.YtcmighgaiacgoaaGreatDoor
namespace Go.Proofs.YtcmighgaiacgoaaGreatDoor

open Go.RowKit Go.Shelf
end Go.Proofs.YtcmighgaiacgoaaGreatDoor
namespace Go.Proofs.YtcmighgaiacgoaaGreatDoor
open Go.RowKit
section
variable {c:Cx} {fr:Fr} {H:List Pc} {Φ:Gl}
end
end Go.Proofs.YtcmighgaiacgoaaGreatDoor
namespace Go.Proofs.YtcmighgaiacgoaaGreatDoor

open Go.RowKit
end Go.Proofs.YtcmighgaiacgoaaGreatDoor
namespace Go.Proofs.YtcmighgaiacgoaaGreatDoor
open Go.RowKit
structure PuS where
 a:Option Addr
 c:Nat
 F:List Nat
theorem T3 {x:Aw} (t0:0≤x.Ap) (t1:x.Ap≤65535):0≤(Dk x).Ap∧(Dk x).Ap≤65535:=by
 unfold Dk
 split
 ·exact J4 _ _
 ·exact ⟨t0,t1⟩
theorem Bdy (x:Aw) (k:Nat) (g t o:Nat) (A B:List Value) (r1 r2 r3:Value) (a:Option Addr) (c:Nat) (F:List Nat) (hl:x.An.length≤6) (hk:k≤x.An.length) (t0:0≤x.Ap) (t1:x.Ap≤65535) :
  Fn prog 318 [Il g o 0,.int .i64 (k:Nat)] [] [.row g t o A [.int .i64 x.Ap,.int .i64 x.size,.slice a x.An.length c,r1,r2,r3] B,.ow A8 9 (.slice a x.An.length c) x.An F] (fun (_:PuS)=>True) (fun _=>.tuple #[]) (fun z=>[.row g t o A [.int .i64 (Cf x.Ap k),.int .i64 x.size,.slice z.a (x.An.drop k).length z.c,r1,r2,r3] B,.ow A8 9 (.slice z.a (x.An.drop k).length z.c) (x.An.drop k) z.F]):=by
 refine enter func318 rfl ntmps318 fun w0=>?_;refine A4 (E:=A8) (xs:=x.An) fun Fr=>?_;refine go ?_;apply wO;refine sld k fun a2 c2 F2=>?_;refine go ?_;refine cn (fun w st=>Abo _ _ _ _ (st.get (p:=.sl A8 (.slice a2 (x.An.drop k).length c2) (x.An.drop k) F2) FL).2 HV) fun a6 c6 F6=>?_;refine go ?_;refine ce (fun w st=>Ta x.Ap k w FH FH) ?_;refine go ?_;refine Xh ?_;refine ret ⟨a6,c6,F6⟩ trivial rfl
theorem Bhp (x:Aw) (s:ByteArray) (g t o:Nat) (A B:List Value) (r1 r2 r3:Value) (a:Option Addr) (c:Nat) (F:List Nat) (hl:x.An.length≤6) (ht:B8 x.Ap=true) (hs:s.size≤maxLen) (hz:1≤x.size) :
  Fn prog 262 [Il g o 0,.string s] [] [.row g t o A [.int .i64 x.Ap,.int .i64 x.size,.slice a x.An.length c,r1,r2,r3] B,.ow A8 9 (.slice a x.An.length c) x.An F] (fun (_:PuS)=>True) (fun _=>.agg #[.int .i64 1,.int .i64 (Du x s).Ae,.int .i64 (Du x s).Ap,.int .i64 (Du x s).Fg,.string s])
   (fun z=>[.row g t o A [.int .i64 (Df x s).Ap,.int .i64 (Df x s).size,.slice z.a (Df x s).An.length z.c,r1,r2,r3] B,.ow A8 9 (.slice z.a (Df x s).An.length z.c) (Df x s).An z.F]):=by
 obtain ⟨t0,t1⟩:=Bc.1 ht;obtain ⟨R,hR⟩:∃R,Dk x=R:=⟨_,rfl⟩;have hb:=T3 t0 t1;have hRl:R.An.length≤6:=by
  rw [←hR];unfold Dk
  split
  ·show (x.An.drop 1).length≤6;rw [List.length_drop];omega
  ·exact hl
 have hnum:Cf R.Ap R.An.length=Cf x.Ap x.An.length:=by
  rw [←hR];unfold Dk
  split
  ·rename_i h;show Cf (Cf x.Ap 1) ((x.An.drop 1).length:Nat)=_;rw [List.length_drop,show ((x.An.length - 1:Nat):Int)=(x.An.length:Int) - 1 by omega,Auj]
  ·rfl
 rw [show Df x s=⟨R.Ap,x.size,R.An++[s]⟩ by unfold Df;rw [hR],show Du x s=⟨1,Cf x.Ap x.An.length,R.Ap,Cf R.Ap (R.An.length+1),s⟩ by unfold Du;rw [hR]];dsimp only;rw [hR] at hb;refine enter func262 rfl ntmps262 fun w0=>?_;refine go ?_;intros;refine cb (fun w st=>Iy _ _ _ _ _ w t0 t1 FH) ?_;refine go ?_;refine As [1] [] ?_;refine Dq 0 1 2 3 ?_;refine Dq 4 5 6 7 ?_;refine Ec 8 9 ?_;refine dd ?_;refine go ?_
 refine Ew [0,1,4,5] [0] (fun _:PuS=>[]) (fun z=>[.row g t o A [.int .i64 R.Ap,.int .i64 x.size,.slice z.a R.An.length z.c,r1,r2,r3] B,.ow A8 9 (.slice z.a R.An.length z.c) R.An z.F]) (fun _=>True) ?_ fun z _=>?_
 ·refine A1 rfl (fun h1=>?_) (fun h1=>?_)
  ·have e:R=⟨Cf x.Ap 1,x.size,x.An.drop 1⟩:=by rw [←hR];unfold Dk;rw [if_pos h1]
   rw [e];refine go ?_;refine Ca (Bdy x 1 g t o A B _ _ _ a c F hl FH t0 t1) fun z _=>?_;refine go ?_;refine Br z trivial
  ·have e:R=x:=by rw [←hR];unfold Dk;rw [if_neg h1]
   rw [e];refine go ?_;refine Br ⟨a,c,F⟩ trivial
 refine go ?_;intros;apply wO;refine Ps (E:=A8) (ys:=[s]) (fun w=>⟨[.string s],[],[],[],rfl,rfl,⟨rfl,hs,rfl⟩,rfl,rfl⟩) Dx fun a7 c7 F7=>?_;have hla:((R.An++[s]).length:Int)=R.An.length+1:=FI
 refine go ?_;dsimp only [List.append];refine As [1] [] ?_;refine Dq 0 1 2 3 ?_;refine Dq 4 5 6 7 ?_;refine dt 9 ?_;refine dN 8 ?_;refine oC ?_;refine cb (fun w st=>Iy _ _ _ _ _ w hb.1 hb.2 FH) ?_;refine dk ?_;refine dt 10 ?_;refine dN 11 ?_;refine oS ?_;refine dk ?_;refine dd ?_;refine go ?_;refine ret ⟨a7,c7,F7⟩ trivial ?_;rw [hla];rfl
theorem Ad4 (x:Aw) (k:Nat) (v:Value) (F:List Nat) (hl:x.An.length≤4294967296) (hk:k≤x.An.length) (t0:0≤x.Ap) (t1:x.Ap≤65535) :
  Fn prog 287 [v,.int .i64 (k:Nat)] [.isv Bw v x F] [] (fun (_:PuS)=>True) (fun z=>.agg #[.int .i64 (Cf x.Ap k),.int .i64 x.size,.slice z.a (x.An.drop k).length z.c]) (fun z=>[.ow A8 9 (.slice z.a (x.An.drop k).length z.c) (x.An.drop k) z.F]):=by
 refine enter func287 rfl ntmps287 fun w0=>?_;refine Ez ?_;rintro a1 c1 F1 rfl l1;have hdk:(x.An.drop k).length=x.An.length - k:=List.length_drop;refine go ?_;intros;refine As [1,2] [] ?_;refine Dq 0 1 2 4 ?_;refine Dq 5 7 8 9 ?_;refine Asf 10 k fun a5 c5 F5=>?_;refine dM 3 6 ?_ ?_
 ·refine oC ?_;refine ce (fun w st=>Lu x.Ap k w FH FH) ?_;refine dk ?_;refine dN 6 ?_;apply Mp;rfl;intro _;refine C7 A8 ?_;exact BX
 ·apply Mp;rfl;intro _;refine C7 A8 ?_;refine dk ?_;refine dN 3 ?_;refine oC ?_;refine ce (fun w st=>Lu x.Ap k w FH FH) ?_;exact BX
theorem Ba3 (x:Aw) (s:ByteArray) (v:Value) (F:List Nat) (hl:x.An.length≤6) (t0:0≤x.Ap) (t1:x.Ap≤65535) (hs:s.size≤maxLen) (hz:1≤x.size) :
  Fn prog 288 [v,.string s] [.isv Bw v x F] [] (fun (_:Value × List Nat)=>True) (fun z=>.tuple #[z.1,.agg #[.int .i64 1,.int .i64 (Du x s).Ae,.int .i64 (Du x s).Ap,.int .i64 (Du x s).Fg,.string s]]) (fun z=>[.isv Bw z.1 (Df x s) z.2]):=by
 have e0:Cf x.Ap ((0:Nat):Int)=x.Ap:=by unfold Cf;omega
 obtain ⟨R,hR⟩:∃R,Dk x=R:=⟨_,rfl⟩;have hb:=T3 t0 t1;have hRl:R.An.length≤6:=by
  rw [←hR];unfold Dk
  split
  ·show (x.An.drop 1).length≤6;rw [List.length_drop];omega
  ·exact hl
 have hnum:Cf R.Ap R.An.length=Cf x.Ap x.An.length:=by
  rw [←hR];unfold Dk
  split
  ·rename_i h;show Cf (Cf x.Ap 1) ((x.An.drop 1).length:Nat)=_;rw [List.length_drop,show ((x.An.length - 1:Nat):Int)=(x.An.length:Int) - 1 by omega,Auj]
  ·rfl
 rw [show Df x s=⟨R.Ap,x.size,R.An++[s]⟩ by unfold Df;rw [hR],show Du x s=⟨1,Cf x.Ap x.An.length,R.Ap,Cf R.Ap (R.An.length+1),s⟩ by unfold Du;rw [hR]];dsimp only;rw [hR] at hb;refine enter func288 rfl ntmps288 fun w0=>?_;refine Ez ?_;rintro a1 c1 F1 rfl l1;refine go ?_;intros;refine Ca (Ad4 x 0 _ F FH (Nat.zero_le _) t0 t1) fun y _=>?_;rw [e0,List.drop_zero];refine go ?_;intros;rename_i g
 refine Ew [1,2,4,5,6] [2,3,4,5,6] (fun _:PuS=>[]) (fun z=>[.row g 44 0 [] [.int .i64 R.Ap,.int .i64 x.size,.slice z.a R.An.length z.c] [],.ow A8 9 (.slice z.a R.An.length z.c) R.An z.F]) (fun _=>True) ?_ fun z _=>?_
 ·refine A1 rfl (fun h1=>?_) (fun h1=>?_)
  ·have e:R=⟨Cf x.Ap 1,x.size,x.An.drop 1⟩:=by rw [←hR];unfold Dk;rw [if_pos h1]
   rw [e];refine go ?_;refine Ca (Ad4 x 1 _ F FH FH t0 t1) fun z _=>?_;refine go ?_;refine Br z trivial
  ·have e:R=x:=by rw [←hR];unfold Dk;rw [if_neg h1]
   rw [e];refine go ?_;refine Br ⟨y.a,y.c,y.F⟩ trivial
 refine go ?_;refine cb (fun w st=>Ue _ _ _ _ _ w hb.1 hb.2 FH) ?_;rw [hnum];refine go ?_;intros;apply wO;refine Ps (E:=A8) (ys:=[s]) (fun w=>⟨[.string s],[],[],[],rfl,rfl,⟨rfl,hs,rfl⟩,rfl,rfl⟩) Dx fun a7 c7 F7=>?_;have hla:((R.An++[s]).length:Int)=R.An.length+1:=FI
 refine go ?_;dsimp only [List.append];refine As [1] [] ?_;refine Dq 0 1 2 3 ?_;refine Ec 4 6 ?_;refine dN 5 ?_;refine oC ?_;refine cb (fun w st=>Ue _ _ _ _ _ w hb.1 hb.2 FH) ?_;refine dk ?_;refine dt 7 ?_;refine dN 8 ?_;refine oS ?_;refine dk ?_;refine dN 9 ?_;refine oS ?_;refine dk ?_;refine dd ?_;refine A4 (E:=A8) (xs:=R.An++[s]) fun F8=>?_;refine C3 ⟨R.Ap,x.size,R.An++[s]⟩ ?_;refine go ?_;refine ret (_,_) trivial ?_;rw [hla];rfl
structure SeS where
 a:Option Addr
 c:Nat
 F:List Nat
 a2:Option Addr
 c2:Nat
 F2:List Nat
theorem Bdw (x:Aw) (s:ByteArray) (hs:List Hx) (g t o:Nat) (A B:List Value) (a a2:Option Addr) (c c2:Nat) (cl q:Int) (F F2:List Nat) (hl:x.An.length≤6) (t0:0≤x.Ap) (t1:x.Ap≤65535) (hss:s.size≤maxLen) (hz:1≤x.size) (hn:∀h∈hs,B8 h.Ae=true) :
  Fn prog 195 [Il g o 0,.string s] [] [.row g t o A [.int .i64 x.Ap,.int .i64 x.size,.slice a x.An.length c,.int .i64 cl,.int .i64 q,.slice a2 hs.length c2] B,.ow Bm 203 (.slice a2 hs.length c2) hs F2,.ow A8 9 (.slice a x.An.length c) x.An F] (fun (_:SeS)=>True) (fun _=>.agg #[.int .i64 1,.int .i64 (Du x s).Ae,.int .i64 (Du x s).Ap,.int .i64 (Du x s).Fg,.string s])
   (fun z=>[.row g t o A [.int .i64 (Df x s).Ap,.int .i64 (Df x s).size,.slice z.a (Df x s).An.length z.c,.int .i64 cl,.int .i64 0,.slice z.a2 (Oi (Df x s) hs).length z.c2] B,.ow Bm 203 (.slice z.a2 (Oi (Df x s) hs).length z.c2) (Oi (Df x s) hs) z.F2,.ow A8 9 (.slice z.a (Df x s).An.length z.c) (Df x s).An z.F]):=by
 have hb:=T3 t0 t1;refine enter func195 rfl ntmps195 fun w0=>?_;refine go ?_;intros;refine Ca (Bhp x s g t o A B _ _ _ a c F hl (Bc.2 ⟨t0,t1⟩) hss hz) fun z _=>?_;refine go ?_;intros;refine Ca (Apw (Df x s) hs g t o A B z.a a2 z.c c2 cl 0 z.F F2 hb.1 hb.2 hn) fun y _=>?_;refine go ?_;refine ret ⟨z.a,z.c,z.F,y.1,y.2.1,y.2.2⟩ trivial rfl
def Sn (x:Cj) (s:ByteArray):Cj:=⟨Df x.Aa s,x.Ai,0,Oi (Df x.Aa s) x.holds⟩
def zPk:Ar:=⟨0,0,0,0,⟨#[]⟩⟩
def Abe (x:Aw) (s:ByteArray):Bool:=D8 x && Rs s
end Go.Proofs.YtcmighgaiacgoaaGreatDoor
namespace Go.Proofs.YtcmighgaiacgoaaGreatDoor

open Go.RowKit
end Go.Proofs.YtcmighgaiacgoaaGreatDoor
namespace Go.Proofs.YtcmighgaiacgoaaGreatDoor
open Go.RowKit
def L8 (x:Aw):Int:=Cf x.Ap x.An.length
def Adv (x:Aw) (n:Int):ByteArray:=x.An.getD (gp x.Ap n).toNat ⟨#[]⟩
def Bbj (x:Aw) (n:Int):Bool:=D8 x && B8 n && Jb x n
def S0 (x:Aw):Ar:=⟨5,x.Ap,x.Ap,L8 x,⟨#[]⟩⟩
def La (x:Aw) (p:Ar):Bool:=D8 x && Bt p && decide (p.Cp=3) && Jb x p.Ae
def Aou (x:Aw) (n:Int):Ar:=⟨2,n,x.Ap,L8 x,Adv x n⟩
def D0 (x:Aw) (p:Ar):Ar × Bool:=if La x p then (Aou x p.Ae,true) else (zPk,false)
theorem Acg (x:Aw):0≤L8 x∧L8 x≤65535:=J4 _ _
theorem Aq1 {x:Aw} (h1:1≤x.size):L8 (Dk x)=L8 x:=by
 unfold Dk
 split
 ·rename_i h;unfold L8;simp only [List.length_drop];unfold Cf;omega
 ·rfl
theorem Atd {x:Aw} {s:ByteArray} (h:Abe x s=true):D8 x=true∧D8 (Df x s)=true∧Bbj (Df x s) (Du x s).Ae=true∧Adv (Df x s) (Du x s).Ae=s∧(Du x s).Ae=L8 x∧gp (L8 x) (L8 (Df x s))=1∧(Du x s).Fg=L8 (Df x s)∧(Du x s).Ap=(Df x s).Ap:=by
 unfold Abe at h;simp only [Bool.and_eq_true] at h;obtain ⟨hg,hs⟩:=h;obtain ⟨⟨t0,t1⟩,⟨z0,z1⟩,hl,hi⟩:=Ea.1 hg;have hr:0≤(Dk x).Ap∧(Dk x).Ap≤65535:=T3 t0 t1;have hn:((Dk x).An.length:Int)+1≤x.size∧(Dk x).An.all Rs=true:=by
  unfold Dk
  split
  ·rename_i h;refine ⟨by simp only [List.length_drop];omega,?_⟩;rw [List.all_eq_true] at hi ⊢;exact fun z hz=>hi z (List.mem_of_mem_drop hz)
  ·exact ⟨FH,hi⟩
 have hlead:=Aq1 (x:=x) z0;have hgo:D8 (Df x s)=true:=by
  refine Ea.2 ⟨hr,⟨z0,z1⟩,?_,?_⟩
  ·show (((Dk x).An++[s]).length:Int)≤x.size;simp only [List.length_append,List.length_cons,List.length_nil];omega
  ·show ((Dk x).An++[s]).all Rs=true;simp [hn.2,hs]
 have hnum:(Du x s).Ae=L8 x:=rfl;have hgap:gp (Df x s).Ap (L8 x)=((Dk x).An.length:Nat):=by
  rw [←hlead];show gp (Dk x).Ap (L8 (Dk x))=_;unfold L8 gp Cf;omega
 have b:=Acg x;refine ⟨hg,hgo,?_,?_,rfl,?_,?_,rfl⟩
 ·unfold Bbj;rw [hgo,hnum,Bc.2 b,Jb,hgap];show decide (((Dk x).An.length:Int) < (((Dk x).An++[s]).length:Nat))=true;simp only [List.length_append,List.length_cons,List.length_nil,decide_eq_true_eq];omega
 ·unfold Adv;rw [hnum,hgap];show ((Dk x).An++[s]).getD _ _=s;simp
 ·rw [←hlead];show gp (L8 (Dk x)) (Cf (Dk x).Ap (((Dk x).An++[s]).length:Nat))=1;unfold L8 gp Cf;simp only [List.length_append,List.length_cons,List.length_nil];omega
 ·show Cf (Dk x).Ap (((Dk x).An.length:Nat)+1)=Cf (Dk x).Ap ((((Dk x).An++[s]).length:Nat));simp
theorem Aq4 (t z:Int) (a:Option Addr) (n c:Nat) (h0:0≤t) (h1:t≤65535) (hn:n≤4294967296):FV 322 [.agg #[.int .i64 t,.int .i64 z,.slice a n c]] [] (.agg #[.int .i64 5,.int .i64 t,.int .i64 t,.int .i64 (Cf t n),.string ⟨#[]⟩]):=by
 refine enter func322 rfl ntmps322 fun w0=>?_;refine go ?_;intros;refine As [1] [7] ?_;refine Dq 0 1 2 3 ?_;refine dt 4 ?_;refine dN 5 ?_;refine oC ?_;refine cb (fun w _=>Iy t z a n c w h0 h1 hn) ?_;refine dk ?_;refine dt 6 ?_;refine dN 7 ?_;refine oS ?_;refine Tf ?_;exact CP
theorem Aa9 (t z:Int) (a:Option Addr) (n c:Nat) (h0:0≤t) (h1:t≤65535) (hn:n≤4294967296):FV 342 [.agg #[.int .i64 t,.int .i64 z,.slice a n c]] [] (.agg #[.int .i64 5,.int .i64 t,.int .i64 t,.int .i64 (Cf t n),.string ⟨#[]⟩]):=by
 refine enter func342 rfl ntmps342 fun w0=>?_;refine go ?_;intros;refine As [1] [7] ?_;refine Dq 0 1 2 3 ?_;refine dt 4 ?_;refine dN 5 ?_;refine oC ?_;refine cb (fun w _=>Ue t z a n c w h0 h1 hn) ?_;refine dk ?_;refine dt 6 ?_;refine dN 7 ?_;refine oS ?_;refine Tf ?_;exact CP
def Vw (cl:Int) (hs:List Hx):List Hx:=hs.filter fun h=>!decide (h.Ce≤cl)
def Xx (q:Int):Int:=if q+1 < 4 then q+1 else 0
def Oa (x:Aw) (q:Int):List Ar:=if q+1 < 4 then [] else [S0 x]
def Nr (x:Cj):Cj:=⟨x.Aa,x.Ai+1,Xx x.quiet,Vw (x.Ai+1) x.holds⟩
theorem Aqt {x:Cj} (h:Cz x=true):0≤x.quiet∧x.quiet≤3:=by
 unfold Cz Ga at h;simp only [Bool.and_eq_true,decide_eq_true_eq] at h;exact h.1.2
theorem Awl {x:Cj} (h:Cz x=true):∀z∈x.holds,Jb x.Aa z.Ae=true:=fun z hz=>by
 unfold Cz at h;simp only [Bool.and_eq_true] at h;obtain ⟨i,hi,rfl⟩:=List.getElem_of_mem hz;have:=List.all_eq_true.1 h.2 i IZ;rw [Qh hi] at this;simp only [Bool.and_eq_true] at this;exact this.1.1.2
structure TiS where
 a:Option Addr
 c:Nat
 a2:Option Addr
 c2:Nat
 F:List Nat
 ae:Option Addr
 ce:Nat
 Fe:List Nat
theorem Bfr (h:Hx) (gb g o:Nat) (u v0 v1 v2 q Hs:Value) (cl:Int) (G:List Nat) :
  FV 321 [u,Il gb 0 0] [.isv Bm u h G,.cel gb 0 [Il g o 0],.cel g o [v0,v1,v2,.int .i64 cl,q,Hs]] (.bool (decide (h.Ce≤cl))):=by
 refine enter func321 rfl ntmps321 fun w0=>?_;refine Aqj ?_;rintro _ rfl;refine go ?_;intros;refine As [0,2,3] [] ?_;refine Dq 0 1 2 3 ?_;refine Dq 4 5 6 7 ?_;exact CP
theorem Bfs (hs:List Hx) (gb tb g t o:Nat) (A B:List Value) (v0 v1 v2:Value) (v3:Value) (a2:Option Addr) (c2:Nat) (cl q:Int) (F2:List Nat) :
  Fn prog 319 [.slice a2 hs.length c2,.func (.func 321) #[] #[Il gb 0 0]] [] [.ow Bm 203 (.slice a2 hs.length c2) hs F2,.row gb tb 0 [] [Il g o 0] [],.row g t o A [v0,v1,v2,.int .i64 cl,.int .i64 q,v3] B] (fun (_:Option Addr × Nat × List Nat)=>True)
   (fun z=>.slice z.1 (Vw cl hs).length z.2.1) (fun z=>[.ow Bm 203 (.slice z.1 (Vw cl hs).length z.2.1) (Vw cl hs) z.2.2,.row gb tb 0 [] [Il g o 0] [],.row g t o A [v0,v1,v2,.int .i64 cl,.int .i64 q,v3] B]):=by
 refine Aso rfl fun w ⟨hnd,ho⟩ _ hk=>?_;refine (Xq _ (Wq FJ) #[Il gb 0 0] _ hs F2 (fun h=>decide (h.Ce≤cl)) w ho hnd fun k hk2 wr u G hK hu=>?_).mono ?_
 ·have hr:=hk wr hK;have r1:=hr (.row gb tb 0 [] [Il g o 0] []) FI;have r2:=hr (.row g t o A [v0,v1,v2,.int .i64 cl,.int .i64 q,v3] B) FI;refine (Bfr hs[k] gb g o u v0 v1 v2 (.int .i64 q) v3 cl G).val wr ?_;intro p hp;simp only [List.mem_cons,List.not_mem_nil,or_false] at hp;rcases hp with rfl|rfl|rfl
  ·exact hu
  ·exact ⟨FI,Is r1⟩
  ·exact ⟨FI,Is r2⟩
 ·rintro e w' ⟨v',F',rfl,h1,h2,h3,h4⟩;have e:(hs.filter fun x=>!(fun h:Hx=>decide (h.Ce≤cl)) x)=Vw cl hs:=rfl;rw [e] at h1;exact CN
theorem Bdx (W:Aw) (hs:List Hx) (g t o:Nat) (A B:List Value) (a a2:Option Addr) (c c2:Nat) (cl q:Int) (F2:List Nat) (t0:0≤W.Ap) (t1:W.Ap≤65535) (hl:W.An.length≤6) (k0:0≤cl) (k1:cl≤9999) (q0:0≤q) (q3:q≤3) :
  Fn prog 264 [Il g o 0] [] [.row g t o A [.int .i64 W.Ap,.int .i64 W.size,.slice a W.An.length c,.int .i64 cl,.int .i64 q,.slice a2 hs.length c2] B,.ow Bm 203 (.slice a2 hs.length c2) hs F2] (fun (_:TiS)=>True)
   (fun z=>.slice z.ae (Oa W q).length z.ce) (fun z=>[.row g t o A [.int .i64 W.Ap,.int .i64 W.size,.slice a W.An.length c,.int .i64 (cl+1),.int .i64 (Xx q),.slice z.a2 (Vw (cl+1) hs).length z.c2] B,.ow Bm 203 (.slice z.a2 (Vw (cl+1) hs).length z.c2) (Vw (cl+1) hs) z.F,.ow Ak 233 (.slice z.ae (Oa W q).length z.ce) (Oa W q) z.Fe]):=by
 refine enter func264 rfl ntmps264 fun w0=>?_;refine go ?_;intros;refine As [0,1] [9] ?_;refine Dq 0 1 2 3 ?_;refine Ec 4 5 ?_;refine dN 6 ?_;refine oC ?_;refine Ca (Bfs hs _ _ g t o A B _ _ _ _ a2 c2 (cl+1) q F2) fun z _=>?_;refine dk ?_;refine Ec 7 8 ?_;refine dN 9 ?_;refine oS ?_;refine Tf ?_;refine dd ?_;refine go ?_;refine A1 rfl (fun h1=>?_) (fun h1=>?_)
 ·refine Db Ak 233 ?_;refine go ?_;rw [show Xx q=q+1 from if_pos h1,show Oa W q=[] from if_pos h1];refine ret ⟨none,0,z.1,z.2.1,z.2.2,none,0,[]⟩ trivial rfl
 ·refine go ?_;refine Ca (Aq4 W.Ap W.size a W.An.length c t0 t1 FH) fun _ _=>?_;refine go ?_;intros;refine Le (xs:=[S0 W]) (Dc _ ID) ?_ FI;rw [show Xx q=0 from if_neg h1,show Oa W q=[S0 W] from if_neg h1];refine ret ⟨none,0,z.1,z.2.1,z.2.2,_,_,_⟩ trivial rfl
theorem Tx (x:Aw) (v:Value) (F:List Nat) (t0:0≤x.Ap) (t1:x.Ap≤65535) (hl:x.An.length≤4294967296):Fn prog 287 [v,.int .i64 0] [.isv Bw v x F] [] (fun (_:Value × List Nat)=>True) (fun s=>s.1) (fun s=>[.own Km s.1 x s.2]):=by
 have e0:Cf x.Ap ((0:Nat):Int)=x.Ap:=by unfold Cf;omega
 have h:=Ad4 x 0 v F hl (Nat.zero_le _) t0 t1;rw [e0,List.drop_zero] at h;refine Beg fun w hA=>(h.made w hA (fun _=>rfl)).mono ?_;rintro e w' ⟨z, -,he,hh,hn,hF,hB⟩;obtain ⟨h1,h2⟩:=hh (.ow A8 9 (.slice z.a x.An.length z.c) x.An z.F) FI;exact ⟨(_,z.F),trivial,he,⟨h1,_,rfl,_,rfl,h2⟩,fun b hb=>hF b KX,hB⟩
theorem Beq {W:Aw} {cl:Int} {hs:List Hx} (h:∀z∈hs,Jb W z.Ae=true):Jw W cl hs=Vw cl hs:=by
 unfold Jw Vw;refine List.filter_congr fun z hz=>?_;rw [h z hz,Bool.true_and];by_cases hc:cl < z.Ce
 ·rw [decide_eq_true hc,decide_eq_false FH];rfl
 ·rw [decide_eq_false hc,decide_eq_true FH];rfl
def Ou (x:Cj):Cj:=⟨x.Aa,x.Ai+1,Xx x.quiet,Jw x.Aa (x.Ai+1) x.holds⟩
theorem Asw (x:Cj) (v:Value) (F:List Nat) (t0:0≤x.Aa.Ap) (t1:x.Aa.Ap≤65535) (hl:x.Aa.An.length≤6) (k0:0≤x.Ai) (k1:x.Ai≤99999) (q0:0≤x.quiet) (q3:x.quiet≤3) (hm:x.holds.length≤1000) (hn:Ajl x.holds) :
  Fn prog 290 [v] [.isv Dp v x F] [] (fun (_:TiS)=>True) (fun s=>.tuple #[.agg #[.int .i64 (Ou x).Aa.Ap,.int .i64 (Ou x).Aa.size,.slice s.a (Ou x).Aa.An.length s.c,.int .i64 (Ou x).Ai,.int .i64 (Ou x).quiet,.slice s.a2 (Ou x).holds.length s.c2],.slice s.ae (Oa x.Aa x.quiet).length s.ce])
   (fun s=>[.isv Dp (.agg #[.int .i64 (Ou x).Aa.Ap,.int .i64 (Ou x).Aa.size,.slice s.a (Ou x).Aa.An.length s.c,.int .i64 (Ou x).Ai,.int .i64 (Ou x).quiet,.slice s.a2 (Ou x).holds.length s.c2]) (Ou x) s.F,.ow Ak 233 (.slice s.ae (Oa x.Aa x.quiet).length s.ce) (Oa x.Aa x.quiet) s.Fe]):=by
 refine enter func290 rfl ntmps290 fun w0=>?_;refine H3 ?_;rintro a1 c1 F1 a2 c2 F2 rfl l1 l2;refine C3 x.Aa (a1:=a1) ?_;refine go ?_;intros;refine Ca (Tx x.Aa _ F1 t0 t1 FH) fun y _=>?_;refine Hl ?_;rintro a5 c5 F5 e5 l5;rw [e5];have hH:=fun v a c F G=>Afa x.Aa x.holds (x.Ai+1) v a c F G t0 t1 FH hn;refine go ?_;intros;refine A4 (xs:=x.Aa.An) fun F8=>?_;refine C3 x.Aa (a1:=a5) ?_;refine As [2,4] [] ?_;refine Dq 0 1 2 3 ?_;refine Dq 4 5 6 7 ?_;refine Dq 8 9 10 11 ?_;refine dt 12 ?_;refine dM 13 15 ?_ ?_
 ·refine oC ?_;refine Ca (hH _ a2 c2 _ _) fun z _=>?_;refine dk ?_;refine dt 14 ?_;refine dN 15 ?_;apply Cr;rfl;intro _;refine dk ?_;refine dN 16 ?_;refine oS ?_;refine dk ?_;refine dd ?_;refine go ?_;refine A1 rfl (fun h1=>?_) (fun h1=>?_)
  ·rw [show Ou x=⟨x.Aa,x.Ai+1,0,Jw x.Aa (x.Ai+1) x.holds⟩ from by unfold Ou Xx;rw [if_neg FH],show Oa x.Aa x.quiet=[S0 x.Aa] from if_neg FH];refine go ?_;refine A4 (E:=Bm) fun F9=>?_;refine Hf ⟨x.Aa,x.Ai+1,0,Jw x.Aa (x.Ai+1) x.holds⟩ (a1:=a5) ?_;refine As [2,5] [] ?_;refine Ec 0 1 ?_;refine dN 2 ?_;refine oC ?_;refine Ca (Aa9 x.Aa.Ap x.Aa.size _ x.Aa.An.length _ t0 t1 FH) fun _ _=>?_;refine dk ?_;refine dM 3 4 ?_ ?_
   ·apply Lr;rfl;rfl;rfl;rfl;exact Ll;exact Kv;intro _;refine dk ?_;refine dN 4 ?_;refine oS ?_;exact AK
   ·refine oS ?_;refine dk ?_;refine dN 3 ?_;apply Lr;rfl;rfl;rfl;rfl;exact Ll;exact Kv;intro _;exact AK
  ·exact BF
 ·apply Cr;rfl;intro _;refine dk ?_;refine dN 13 ?_;refine oC ?_;refine Ca (hH _ a2 c2 _ _) fun z _=>?_;refine dk ?_;refine dt 14 ?_;refine dN 16 ?_;refine oS ?_;refine dk ?_;refine dd ?_;refine go ?_;refine A1 rfl (fun h1=>?_) (fun h1=>?_)
  ·rw [show Ou x=⟨x.Aa,x.Ai+1,0,Jw x.Aa (x.Ai+1) x.holds⟩ from by unfold Ou Xx;rw [if_neg FH],show Oa x.Aa x.quiet=[S0 x.Aa] from if_neg FH];refine go ?_;refine A4 (E:=Bm) fun F9=>?_;refine Hf ⟨x.Aa,x.Ai+1,0,Jw x.Aa (x.Ai+1) x.holds⟩ (a1:=a5) ?_;refine As [2,5] [] ?_;refine Ec 0 1 ?_;refine dN 2 ?_;refine oC ?_;refine Ca (Aa9 x.Aa.Ap x.Aa.size _ x.Aa.An.length _ t0 t1 FH) fun _ _=>?_;refine dk ?_;refine dM 3 4 ?_ ?_
   ·apply Lr;rfl;rfl;rfl;rfl;exact Ll;exact Kv;intro _;refine dk ?_;refine dN 4 ?_;refine oS ?_;exact AK
   ·refine oS ?_;refine dk ?_;refine dN 3 ?_;apply Lr;rfl;rfl;rfl;rfl;exact Ll;exact Kv;intro _;exact AK
  ·exact BF
theorem Bcx {x:Cj} (hg:Cz x=true):Ou x=Nr x:=by unfold Ou Nr;rw [Beq (Awl hg)]
theorem Aw5 (x:Cj) (v:Value) (F:List Nat) (hg:Cz x=true) :
  Fn prog 290 [v] [.isv Dp v x F] [] (fun (_:TiS)=>True) (fun s=>.tuple #[.agg #[.int .i64 (Nr x).Aa.Ap,.int .i64 (Nr x).Aa.size,.slice s.a (Nr x).Aa.An.length s.c,.int .i64 (Nr x).Ai,.int .i64 (Nr x).quiet,.slice s.a2 (Nr x).holds.length s.c2],.slice s.ae (Oa x.Aa x.quiet).length s.ce])
   (fun s=>[.isv Dp (.agg #[.int .i64 (Nr x).Aa.Ap,.int .i64 (Nr x).Aa.size,.slice s.a (Nr x).Aa.An.length s.c,.int .i64 (Nr x).Ai,.int .i64 (Nr x).quiet,.slice s.a2 (Nr x).holds.length s.c2]) (Nr x) s.F,.ow Ak 233 (.slice s.ae (Oa x.Aa x.quiet).length s.ce) (Oa x.Aa x.quiet) s.Fe]):=by
 obtain ⟨gw,hl,t0,t1,k0,k1,hm,hn,hu,hb⟩:=Lx hg;obtain ⟨q0,q3⟩:=Aqt hg;have h:=Asw x v F t0 t1 hl k0 FH q0 q3 FH (Agt hn);rw [Bcx hg] at h;exact h
theorem Mc {x:Aw} {p:Ar} (h:La x p=false):D0 x p=(zPk,false):=by unfold D0;rw [h];rfl
theorem Aaj {x:Aw} {p:Ar} (h:La x p=true):D0 x p=(Aou x p.Ae,true):=by unfold D0;rw [h];rfl
theorem Agj {x:Aw} {n:Int} (h:Jb x n=true):(gp x.Ap n).toNat < x.An.length:=by
 have b:=Ly x.Ap n;unfold Jb at h;simp only [decide_eq_true_eq] at h;omega
theorem Zh {x:Aw} {n:Int} (h:(gp x.Ap n).toNat < x.An.length):Adv x n=x.An[(gp x.Ap n).toNat]:=by
 unfold Adv;rw [List.getD_eq_getElem?_getD,List.getElem?_eq_getElem h];rfl
theorem Agu (x:Aw) (p:Ar) (v:Value) (F:List Nat) (hs:p.data.size≤maxLen):FV 375 [v,.agg #[.int .i64 p.Cp,.int .i64 p.Ae,.int .i64 p.Ap,.int .i64 p.Fg,.string p.data]] [.isv Bw v x F] (.tuple #[.agg #[.int .i64 (D0 x p).1.Cp,.int .i64 (D0 x p).1.Ae,.int .i64 (D0 x p).1.Ap,.int .i64 (D0 x p).1.Fg,.string (D0 x p).1.data],.bool (D0 x p).2]):=by
 refine enter func375 rfl ntmps375 fun w0=>?_;refine Ez ?_;rintro a1 c1 F1 rfl l1;refine go ?_;intros;refine cb (fun w st=>Sx _ x _ w (st.get (p:=.isv Bw (.agg #[.int .i64 x.Ap,.int .i64 x.size,.slice a1 x.An.length c1]) x F) FI)) ?_;cases g1:D8 x
 ·refine go ?_;rw [Mc (by unfold La;rw [g1];rfl)];exact BD
 obtain ⟨⟨t0,t1⟩,⟨z0,z1⟩,hl,hi⟩:=Ea.1 g1;have hl6:x.An.length≤6:=FH
 refine go ?_;refine Ca (Xr p hs) fun _ _=>?_;cases g2:Bt p
 ·refine go ?_;rw [Mc (by unfold La;rw [g1,g2];rfl)];exact BD
 obtain ⟨n0,n1⟩:=Kw g2;refine go ?_;refine Dy rfl rfl (fun h3=>?_) (fun h3=>?_)
 ·refine go ?_;rw [Mc (by unfold La;rw [g1,g2,decide_eq_false h3];rfl)];exact BD
 have h3:=Decidable.not_not.1 h3;refine go ?_;refine cb (fun w st=>(Yh x p.Ae _ F t0 t1 n0 n1).val w (El (st.get (p:=.isv Bw (.agg #[.int .i64 x.Ap,.int .i64 x.size,.slice a1 x.An.length c1]) x F) FI))) ?_;cases g3:Jb x p.Ae
 ·refine go ?_;rw [Mc (by unfold La;rw [g1,g2,g3];simp)];exact BD
 rw [Aaj (by unfold La;rw [g1,g2,g3,decide_eq_true h3];rfl)];have b:=Ly x.Ap p.Ae;have hk3:=Agj g3;rw [show Aou x p.Ae=⟨2,p.Ae,x.Ap,L8 x,x.An[(gp x.Ap p.Ae).toNat]⟩ by unfold Aou;rw [Zh hk3]];refine Mx (xs:=x.An) (gp x.Ap p.Ae).toNat ?_;rintro hi b2 o2 e s1;rw [e];refine Og ?_;intros;refine As [0,2,3] [] ?_;refine Dq 0 1 2 3 ?_;refine Dq 4 6 7 8 ?_;refine Ec 9 10 ?_;refine dt 11 ?_;refine dN 5 ?_;refine oC ?_;refine cb (fun w _=>Iy _ _ _ _ _ w t0 t1 FH) ?_;refine dk ?_;refine dN 12 ?_;refine oC ?_;refine ce (fun w s=>P7 _ _ _ FH FH FH FH) ?_;refine dk ?_
 refine Ec 13 14 ?_;refine dt 15 ?_;refine dN 16 ?_;refine oS ?_;refine dk ?_;refine dt 17 ?_;exact CP
theorem Ai3 (x:Aw) (p:Ar) (v:Value) (F:List Nat) (hs:p.data.size≤maxLen):FV 350 [v,.agg #[.int .i64 p.Cp,.int .i64 p.Ae,.int .i64 p.Ap,.int .i64 p.Fg,.string p.data]] [.isv Bw v x F] (.tuple #[.agg #[.int .i64 (D0 x p).1.Cp,.int .i64 (D0 x p).1.Ae,.int .i64 (D0 x p).1.Ap,.int .i64 (D0 x p).1.Fg,.string (D0 x p).1.data],.bool (D0 x p).2]):=by
 refine enter func350 rfl ntmps350 fun w0=>?_;refine Ez ?_;rintro a1 c1 F1 rfl l1;refine go ?_;intros;refine cb (fun w st=>Ap4 _ x _ w (st.get (p:=.isv Bw (.agg #[.int .i64 x.Ap,.int .i64 x.size,.slice a1 x.An.length c1]) x F) FI)) ?_;cases g1:D8 x
 ·refine go ?_;rw [Mc (by unfold La;rw [g1];rfl)];exact BD
 obtain ⟨⟨t0,t1⟩,⟨z0,z1⟩,hl,hi⟩:=Ea.1 g1;have hl6:x.An.length≤6:=FH
 refine go ?_;refine Ca (Ap3 p hs) fun _ _=>?_;cases g2:Bt p
 ·refine go ?_;rw [Mc (by unfold La;rw [g1,g2];rfl)];exact BD
 obtain ⟨n0,n1⟩:=Kw g2;refine go ?_;refine Dy rfl rfl (fun h3=>?_) (fun h3=>?_)
 ·refine go ?_;rw [Mc (by unfold La;rw [g1,g2,decide_eq_false h3];rfl)];exact BD
 have h3:=Decidable.not_not.1 h3;refine go ?_;refine cb (fun w st=>(Ap5 x p.Ae _ F t0 t1 n0 n1).val w (El (st.get (p:=.isv Bw (.agg #[.int .i64 x.Ap,.int .i64 x.size,.slice a1 x.An.length c1]) x F) FI))) ?_;cases g3:Jb x p.Ae
 ·refine go ?_;rw [Mc (by unfold La;rw [g1,g2,g3];simp)];exact BD
 rw [Aaj (by unfold La;rw [g1,g2,g3,decide_eq_true h3];rfl)];have b:=Ly x.Ap p.Ae;have hk3:=Agj g3;rw [show Aou x p.Ae=⟨2,p.Ae,x.Ap,L8 x,x.An[(gp x.Ap p.Ae).toNat]⟩ by unfold Aou;rw [Zh hk3]];refine Mx (xs:=x.An) (gp x.Ap p.Ae).toNat ?_;rintro hi b2 o2 e s1;rw [e];refine Og ?_;intros;refine As [0,2,3] [] ?_;refine Dq 0 1 2 3 ?_;refine Dq 4 6 7 8 ?_;refine Ec 9 10 ?_;refine dt 11 ?_;refine dN 5 ?_;refine oC ?_;refine cb (fun w _=>Ue _ _ _ _ _ w t0 t1 FH) ?_;refine dk ?_;refine dN 12 ?_;refine oC ?_;refine ce (fun w s=>Jq _ _ _ FH FH) ?_;refine dk ?_;refine Ec 13 14 ?_
 refine dt 15 ?_;refine dN 16 ?_;refine oS ?_;refine dk ?_;refine dt 17 ?_;exact CP
end Go.Proofs.YtcmighgaiacgoaaGreatDoor
