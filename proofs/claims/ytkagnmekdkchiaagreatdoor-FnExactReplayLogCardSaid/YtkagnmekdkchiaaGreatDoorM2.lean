/- Part 2 of the proof: 42 texts, one behind the other. -/
import Derived.Test.YtkagnmekdkchiaaGreatDoorShelf
import Derived.Lib.Overlaps
import Derived.Lib.AppendZerosOnto
import Derived.Laws.IdiomCopy
import Derived.Test.YtkagnmekdkchiaaGreatDoorM1
open _root_.Go.Proofs.Tryz
set_option maxRecDepth 100000
set_option maxHeartbeats 8000000
set_option linter.all false
set_option linter.unusedVariables false
set_option linter.unusedSimpArgs false
namespace Go.Proofs.YtkagnmekdkchiaaGreatDoor
theorem AB{p:Prop}(h:p:=by refine go ?_;intros;refine ret () trivial rfl):p:=h
theorem AI{p:Prop}(h:p:=by refine dk ?_;refine dN 5 ?_;refine N3 Id Ht fun a2 c2 F2=>?_;refine dk ?_;refine dt 6 ?_;refine dN 8 ?_;refine oS ?_;refine Rn ?_;refine dd ?_;refine Bw (⟨_,a2,c2,F2⟩:CpS) trivial):p:=h
theorem BE{p:Prop}(h:p:=by refine N3 Id Ht fun a2 c2 F2=>?_;refine dk ?_;refine dt 6 ?_;refine dN 7 ?_;apply Co;rfl;intro _;refine dk ?_;refine dN 8 ?_;refine oS ?_;refine Rn ?_;refine dd ?_;refine Bw (⟨_,a2,c2,F2⟩:CpS) trivial):p:=h
theorem BH{p:Prop}(h:p:=by refine go ?_;intros;refine ret () trivial ?_;rw [bad (by rw [hck,decide_eq_true h6,decide_eq_false (show ¬k=0 by omega)];simp)];rfl):p:=h
theorem BI{p:Prop}(h:p:=by have hps:=Y8 (x:=x) (k:=k) hs (s:=⟨true,De⟩) hi;refine A4 (xs:=Lv x k ⟨true,De⟩) fun F4=>?_;refine Ci ⟨x.next,Lv x k ⟨true,De⟩⟩ ?_;refine go ?_;intros;refine cf (Uw ⟨x.next,Lv x k ⟨true,De⟩⟩ _ _ h0 h1 (by show (Lv x k ⟨true,De⟩).length≤_;omega) hps) fun z hz=>?_;refine Ar ?_;refine go ?_;intros;refine ret z ⟨by rw [hz.1,hW],by rw [hz.2,hE]⟩ rfl):p:=h
theorem BP{p:Prop}(h:p:=by refine go ?_;intros;refine ret () trivial ?_;rw [Mt (fun j hj=>hk2 j hj hj)];rfl):p:=h
theorem BY{p:Prop}(h:p:=by simp at hq;subst hq;simp only [Pc.F,List.mem_append] at hb;exact .inr ⟨rfl,_,m1,rfl,hb⟩):p:=h
theorem BZ{p:Prop}(h:p:=by refine Cu ⟨s.es++[Fj s.y.Ap],X3 s.y,a5,c5,F5,a',c',F'⟩ ⟨(Je _ _).1,(Je _ _).2,fun z hz=>hit z (List.mem_of_mem_drop hz),by simp [X3];omega,by simp [X3];omega,by rw [hw,hst];rfl,by rw [he,hst];simp [Nw,X3]⟩ (by show Em (Ce s.y.next 1) n < _;omega)):p:=h
theorem CB{p:Prop}(h:p:=by exact ⟨.slice none 0 0,[],rfl,.inl ⟨rfl,rfl,rfl⟩,by simp,by simp,Below.refl _ _⟩):p:=h
theorem CP{p:Prop}(h:p:=by obtain ⟨b,o,cs,G,ha,hrep,hG,hb,hne,hr⟩:=Wv (s.get hm) i hi;obtain ⟨rfl,s1,rfl⟩:=hrep;exact (h hi b o  ha s1 ).h ac w (s.ro hm rfl rfl ⟨hne,hr⟩ (by intro x hx;simp [Pc.F] at hx;subst hx;exact hb)) g):p:=h
theorem CR{p:Prop}(h:p:=by obtain ⟨b,o,cs,G,ha,hrep,hG,hb,hne,hr⟩:=Wv (s.get hm) i hi;obtain ⟨rfl,rfl⟩:=hrep;exact (h hi b o  ha  ).h ac w (s.ro hm rfl rfl ⟨hne,hr⟩ (by intro x hx;simp [Pc.F] at hx;subst hx;exact hb)) g):p:=h
theorem CS{p:Prop}(h:p:=by exact .inr (.inl ⟨_,List.mem_singleton.2 rfl,rfl,hb⟩)):p:=h
theorem CT{p:Prop}(h:p:=by refine dd ?_;exact AB):p:=h
theorem CX{p:Prop}(h:p:=by intro q hq b hb;refine .inr (.inl ⟨_,List.mem_singleton.2 rfl,rfl,?_⟩);simp only [List.mem_cons,List.not_mem_nil,or_false] at hq;rcases hq with rfl|rfl <;> simp only [Pc.F] at hb ⊢ <;> simp [hb]):p:=h
theorem DD{p:Prop}(h:p:=by rw [e];refine Cu ⟨s.j+1,a',c',F'⟩ (by show s.j+1≤_;omega) (by show _ - (s.j+1) < _;omega)):p:=h
theorem DH{p:Prop}(h:p:=by apply Co;rfl;intro _;refine dk ?_;refine dN 2 ?_;apply Lr;rfl;intro _;refine C4 Cm ?_;exact AI):p:=h
theorem DZ{p:Prop}(h:p:=by intro q hq _ b hb hb2;simp only [List.mem_cons,List.not_mem_nil,or_false] at hq;rcases hq with rfl <;> simp only [Pc.F] at hb hb2 <;> exact Ca hn hb hb2):p:=h
theorem EB{p:Prop}(h:p:=by have:=h.h a w.drew (s.below (Dl (Below.refl _ _) 1)) g;simpa [Gl.sem] using this):p:=h
theorem EE{p:Prop}(h:p:=by refine go ?_;intros;refine ret () trivial ?_;rw [bad (by rw [hck,g4];rfl)];rfl):p:=h
theorem EP{p:Prop}(h:p:=by dsimp only;rw [Gm hj (by simp [hpj]),←h4,List.take_add_one,List.getElem?_set_self (by omega),List.take_set_of_le (Nat.le_refl _)];rfl):p:=h
theorem EQ{p:Prop}(h:p:=by refine go ?_;intros;refine ret ⟨s.es++z.es,z.y,z.a,z.c,z.F,a',c',F2⟩ ⟨by rw [hz.1,hw];rfl,by rw [hz.2,he,hw];simp [Nw,If]⟩ rfl):p:=h
theorem EV{p:Prop}(h:p:=by exact ⟨B8 (by simp only [Dv,decide_eq_false (show ¬(x.Ak.length:Int)≤x.size by omega),Bool.and_false,Bool.false_and]),hB0 _⟩):p:=h
theorem FE{p:Prop}(h:p:=by refine oC ?_;refine ce (fun w s=>Om _ _ _ (by omega) (by omega) (by omega) (by omega)) ?_;refine dk ?_;refine Dy 7 8 ?_;exact CT):p:=h
theorem FI{p:Prop}(h:p:=by refine go ?_;intros;refine ret () trivial ?_;rw [N6 hh hk2 hpk];rfl):p:=h
theorem FM{p:Prop}(h:p:=by have a1:=List.drop_eq_getElem_cons hjz;have a2:=List.drop_eq_getElem_cons hj;rw [h5,a2] at a1;exact (List.cons.inj a1).1.symm):p:=h
theorem FP{p:Prop}(h:p:=by simp only [execOp,Option.map_none,Option.map_some,hA.ev hx,hA.ev hy,hA.ev hz,Sem.run_bind,h3,Result.andThen_ok,Sem.run_pure]):p:=h
theorem GA{p:Prop}(h:p:=by rw [hl];refine go ?_;intros;refine ret () trivial ?_;rw [g3];unfold Vt;rw [Kz hi,Kz hi2,g4,decide_eq_false (by omega)];rfl):p:=h
theorem GI{p:Prop}(h:p:=by exact (h a1 c1 F rfl  l1).h a w t1 g):p:=h
theorem GO{p:Prop}(h:p:=by exact Bp):p:=h
theorem GQ{p:Prop}(h:p:=by rw [List.getElem?_toArray];rfl):p:=h
theorem GR{p:Prop}(h:p:=by intro b hb;simp only [Pc.F] at hb ⊢;simp [hb]):p:=h
theorem HD{p:Prop}(h:p:=by simpa [Pc.mu] using hA):p:=h
theorem HP{p:Prop}(h:p:=by intro q hq;simp at hq;subst hq;exact hP):p:=h
theorem HR{p:Prop}(h:p:=by intro x hx;simp [Pc.F] at hx;subst hx;exact hb):p:=h
theorem HW{p:Prop}(h:p:=by rw [List.length_take];omega):p:=h
theorem II{p:Prop}(h:p:=by simpa [List.filter,Pc.mu,fp,Pc.F] using hk):p:=h
theorem IN{p:Prop}(h:p:=by simp only [Ly,List.replicate_zero,List.append_nil];exact Afr):p:=h
theorem IQ{p:Prop}(h:p:=by intro q hq b hb;simp at hq;subst hq;exact .inl (hF b hb)):p:=h
theorem IS{p:Prop}(h:p:=by simp [X3];omega):p:=h
theorem IZ{p:Prop}(h:p:=by dsimp only;omega):p:=h
theorem JH{p:Prop}(h:p:=by simp [hz]):p:=h
theorem JI{p:Prop}(h:p:=by intro q hq;simp at hq;subst hq;exact hv):p:=h
theorem JQ{p:Prop}(h:p:=by show De.size≤maxLen;unfold maxLen;omega):p:=h
theorem JW{p:Prop}(h:p:=by rw [List.length_append,List.length_take,List.length_replicate];omega):p:=h
theorem KB{p:Prop}(h:p:=by simpa using hb):p:=h
theorem KD{p:Prop}(h:p:=by intro q hq;simp at hq;subst hq;exact ⟨hN,_,rfl,_,_,_,_,rfl,k1,k2,rfl⟩):p:=h
theorem KI{p:Prop}(h:p:=by rcases List.mem_cons.1 hq with rfl|hq;simp;simp [hp2.sub q hq]):p:=h
theorem KN{p:Prop}(h:p:=by show n - (j+1) < n - j;omega):p:=h
theorem KP{p:Prop}(h:p:=by intro q hq;rw [List.mem_singleton] at hq;subst hq;exact hW):p:=h
end Go.Proofs.YtkagnmekdkchiaaGreatDoor
namespace Go.Proofs.YtkagnmekdkchiaaGreatDoor
open Go.RowKit
theorem Bp {p:Pc} {H:List Pc} (h:p∈H:=by (repeat (first|exact .head _|apply List.Mem.tail));first|done|fail):p∈H:=h
theorem Bbv {l:List Value} {j m:Nat} {r:List Value} (h:Cut l j m r:=by repeat constructor):Cut l j m r:=h
theorem Azy {l r s:List Value} {j:Nat} (h:Put l j r s:=by first|exact .one .zero|repeat constructor):Put l j r s:=h
theorem Tw {fr:Fr} {aS:List Operand} {vs:List Value} (h:Evs fr aS vs:=by repeat (first|exact Evs.nil|apply Evs.cons GV)):Evs fr aS vs:=h
theorem Aj4 {H S:List Pc} {p q:Pc} (h:Rpl H p q S:=by (repeat (first|exact .here|apply Rpl.there));first|done|fail):Rpl H p q S:=h
theorem Df {H R:List Pc} {p:Pc} (h:Cz H p R:=by (repeat (first|exact .here|apply Cz.there));first|done|fail):Cz H p R:=h
theorem Afr {H M R:List Pc} (h:Ex H M R:=by repeat (first|exact Ex.nil|apply Ex.cons (by exact Df))):Ex H M R:=h
theorem hsE {A H:List Pc} (h:Ku A H:=by repeat (first|exact Ku.nil|refine Ku.cons (by exact Df) ?_)):Ku A H:=h
theorem frE {a b:Fr} (h:L9 a b:=by repeat (first|exact L9.nil|refine L9.cons GV ?_)):L9 a b:=h
theorem Aro (l:List Value):∀(k off:Nat) (A o B:List Value),A.length=off+k→o.length=l.length→(l.zipIdx k).foldl (fun (cs:Array Value) (x:Value × Nat)=>cs.setIfInBounds (off+x.2) x.1) (A++o++B).toArray=(A++l++B).toArray:=by
 induction l with
 | nil=>intro k off A o B _ ho;simp at ho;subst ho;simp
 | cons u r ih =>
  intro k off A o B hA ho;cases o with
  | nil=>simp at ho
  | cons z o =>
   rw [List.zipIdx_cons,List.foldl_cons];have h4:(A++(z::o)++B).toArray.setIfInBounds (off+k) u=((A++[u])++o++B).toArray:=by
    rw [←hA];simp [List.set_append]
   show List.foldl _ ((A++(z::o)++B).toArray.setIfInBounds (off+k) u) _=_;rw [h4,ih (k+1) off (A++[u]) o B GU (by simpa using ho)];simp
inductive Fil (pl:Nat→Option (Nat × Nat)) (fr:Fr):List Value→List (Nat × Operand)→List Value→Prop
 | nil {cs}:Fil pl fr cs [] cs
 | cons {cs i x ps v l off r q}:ev fr x=some v→v.cells=l.toArray→pl i=some (off,l.length)→Put cs off l r→Fil pl fr r ps q→Fil pl fr cs ((i,x)::ps) q
theorem Fil.run {pl:Nat→Option (Nat × Nat)} {fr:Fr} {n:Nat} {cs q:List Value} {ps:List (Nat × Operand)} (h:Fil pl fr cs ps q) {a:Act} (g:Ag n fr a):Instr.fill pl cs.toArray (ps.map fun (i,x)=>(i,a.eval x))=some q.toArray:=by
 induction h with
 | nil=>rfl
 | @cons cs i x ps v l off r q hx hv hp hput _ ih =>
  obtain ⟨A,o,B,rfl,rfl,rfl,ho⟩:=hput.parts;rw [List.map_cons];unfold Instr.fill;simp only [hp,g.ev hx,hv];have h1:¬((l.toArray.size≠l.length)∨(A.length+l.toArray.size > (A++o++B).toArray.size)):=by simp;omega
  rw [if_neg JM];have h2:l.toArray.zipIdx.foldl (fun (cs:Array Value) (x:Value × Nat)=>cs.setIfInBounds (A.length+x.2) x.1) (A++o++B).toArray=(A++l++B).toArray:=by
   rw [←Array.foldl_toList];have:=Aro l 0 A.length A o B rfl ho;exact GF
  rw [h2];exact ih
theorem Jy {pl:Nat→Option (Nat × Nat)} {fr:Fr} {cs q:List Value} {ps:List (Nat × Operand)} (h:Fil pl fr cs ps q:=by repeat (first|exact Fil.nil|apply Fil.cons GV GV GV (by repeat constructor))):Fil pl fr cs ps q:=h
theorem Bek {P:Program} {n:Nat} {fr:Fr} {H:List Pc} {ty:TypeId} {t:Nat} {pl:List (Nat × Nat)} {zs q:List Value} {ps:List (Nat × Operand)} [hB:BldC P t pl zs] (hf:Fil (pl.toArray[·]?) fr zs ps q):Yd P n fr H (.build t ps.toArray) ty (.agg q.toArray):=.mk fun a w d pos Ce gd g _=>by
 have h3:=hf.run g;have h4:=run_build (P:=P) w t (ps.map fun (i,x)=>(i,a.eval x)).toArray q.toArray (by rw [hB.b];exact h3);simp only [List.map_toArray] at h4;simp [execOp,h4]
theorem ydE {P:Program} {n:Nat} {fr:Fr} {H:List Pc} {o:Op} {ty:TypeId} {v:Value} (h:Yd P n fr H o ty v:=by first|(apply Bav;rfl)|(apply Atv;rfl)|(apply Bdi;rfl)|(apply Ben;rfl)|(apply Bes;rfl;exact Bp;rfl)|(apply Bc9;rfl;exact Bp;rfl)|(apply Ayc;rfl;exact Bp;exact Bbv)|(apply Bat;rfl;exact Bp;exact Bbv)|(apply Atx;rfl;rfl)|(apply Atw;rfl;rfl)|(apply Bda;rfl)|(apply Bau;rfl)|(apply Bem;rfl;rfl)|(apply Bc6;rfl;rfl)|(apply Bas;rfl;exact Bbv)|(apply Bev;rfl;rfl)|(apply Bet;rfl;rfl)|(apply Beq;rfl;rfl)|(apply Bep;rfl;rfl)|(apply Bel;rfl;rfl)|(apply Bew;rfl;rfl)|(apply Bc3;rfl;rfl;omega;omega)|(apply Bdo;rfl;rfl;omega;omega)|(apply Bc5;rfl;rfl)|(apply Bdh;rfl;rfl)|(apply M2;rfl;rfl;omega)|(apply Bax;rfl)|(apply Bdj;rfl)|(apply Bdf;rfl;omega;omega)|(apply Ber;rfl;rfl;omega;omega)|(apply Bc8;rfl;rfl;omega;omega)|(apply Bdk;rfl;rfl;omega;omega;omega)|(apply Bdl;rfl;rfl;omega;omega)|(apply Bdd;rfl;rfl;omega;omega)|(apply Agq;rfl;omega;omega)|(apply Bc4;rfl;rfl)|(apply Bde;rfl;rfl)|(apply Beo;exact Tw)|(apply Baw;rfl)|(apply Bdc;rfl;rfl)|(apply Bdb;rfl;rfl)|(apply Bek;exact Jy)):Yd P n fr H o ty v:=h
section
variable {c:Cx} {fr:Fr} {H:List Pc} {k:List It} {Φ:Gl} {ops:Array Oper} {rest:List Oper} {d:Nat} {o:Op} {ty:TypeId} {pos:String} {Ce:Array Edge} {v u:Value} {x y:Operand}
theorem st {t g tt o' j m:Nat} {A cs B l r:List Value} {S:List Pc} {gd:Option (Nat × Bool)} (h:T c fr S Φ) (hx:ev fr x=some (Hm g o' j):=by rfl) (hy:ev fr y=some v:=by rfl) (hv:v.cells=l.toArray:=by rfl) (hs:(c.P.info? t).map (·.size)=some m:=by first|exact AggC.s|exact OneC.s) (hl:l.length=m:=by rfl)
  (hr:Rpl H (.row g tt o' A cs B) (.row g tt o' A r B) S:=by (repeat (first|exact .here|apply Rpl.there));first|done|fail) (hp:Put cs j l r:=by first|exact .one .zero|repeat constructor) (h1:l.all (·.oneCell')=true:=by rfl):Ef c fr H ⟨none,.store t x y,ty,pos,Ce,gd⟩ Φ:=Alb hs hx hy hv hl h1 hp hr h
theorem ca {f:Nat} {aS:List Operand} {ts:Array TypeId} {vs:List Value} {gd:Option (Nat × Bool)} (h:Cl c fr H d f vs Φ) (ha:Evs fr aS vs:=by repeat (first|exact Evs.nil|apply Evs.cons GV)) (hb:Qi c.P f=true:=by kernel_rfl) (hd:Nat.blt d c.n=true:=by rfl):Ef c fr H ⟨some d,.call { callee:=.value (.func f),args:=aS.toArray,argTypes:=ts },ty,pos,Ce,gd⟩ Φ:=Ba3 h ha hb hd
theorem cf {f:Nat} {vs:List Value} {A M R:List Pc} {σ:Type} {C:σ→Prop} {vv:σ→Value} {N:σ→List Pc} (hf:Fn c.P f vs A M C vv N) (h:∀s,C s→T c ((d,vv s)::fr) (N s++R) Φ)
  (hM:Ex H M R:=by repeat (first|exact Ex.nil|apply Ex.cons (by exact Df))) (hA:M6 A R:=by repeat (first|exact M6.nil|refine M6.cons GO ?_)) (hmM:M.all (·.mu)=true:=by rfl) (hmA:A.all (fun p=>!p.mu)=true:=by rfl):Cl c fr H d f vs Φ:=cf_ hf h hM hA hmM hmA
inductive Ani:List Pc→List Pc→List Pc→Prop
 | nil {R}:Ani [] R R
 | cons {p N R X}:Ani N R X→Ani (p::N) R (p::X)
theorem Ani.eq {N R X} (h:Ani N R X):N++R=X:=by
 induction h with
 | nil=>rfl
 | cons _ ih=>simp [ih]
theorem Ar {N R X:List Pc} (h:T c fr X Φ) (hX:Ani N R X:=by repeat constructor):T c fr (N++R) Φ:=by rw [hX.eq];exact h
theorem St.ro {G D w0 w} {p q:Pc} (s:St G D w0 H w) (hq:q∈H) (hm:q.mu=false) (hpm:p.mu=false) (hp:p.P w) (hF:∀b∈p.F,b∈q.F):St G D w0 (p::H) w :=
 s.add (N:=[p]) (Below.refl _ _) (by intro x hx;simp at hx;subst hx;exact hp) ⟨GL,trivial⟩ (by intro x hx b hb;simp at hx;subst hx;exact .inr ⟨hpm,q,hq,hm,hF b hb⟩)
theorem St.conv {G D w0 w} {p q:Pc} {S:List Pc} (s:St G D w0 (p::S) w) (hm:p.mu=true) (hq:q.P w) (hF:∀b∈q.F,b∈p.F):St G D w0 (q::S) w :=
 St.turn (M:=[p]) (N:=[q]) s (Dn.refl _ w) (by intro x hx;simp at hx;subst hx;exact hq) ⟨GL,trivial⟩ (by intro x hx b hb;simp at hx;subst hx;exact .inr (.inl ⟨p,GL,hm,hF b hb⟩))
/-! elements, parts of slices that read -/
theorem Wv {α:Type} {E:Bx α} {w:World} {a:Option Addr} {n cp:Nat} {xs:List α} {F:List Nat} (h:(Pc.sl E (.slice a n cp) xs F).P w) (i:Nat) (hi:i < xs.length) :
  ∃b o cs G,a=some ⟨b,o,none⟩∧E.Lo w cs xs[i] G∧(∀x∈G,x∈F)∧b∈F∧cs≠[]∧w.rangeAt b (o+i * E.sz) cs:=by
 obtain ⟨hz,a',cap,hv,hl,h|⟨b,o,F',rfl,hne,rfl,hc⟩⟩:=h
 ·rw [h.1] at hi;simp at hi
 ·simp only [Value.slice.injEq] at hv;obtain ⟨rfl, -, -⟩:=hv;obtain ⟨cs,F1,h1,h2,h3⟩:=hc.get i hi;have hl:=E.len h1;refine ⟨b,o,cs,F1,rfl,h1,fun x hx=>by simp [h3 x hx],GL,fun e=>by subst e;simp at hl;omega,fun j u hu=>?_⟩;have hj:j < E.sz:=by have:=(List.getElem?_eq_some_iff.1 hu).1;omega
  rw [h2 j hj];exact hu
theorem Io {a:Option Addr} {n cp:Nat} {xs:List Int} {F:List Nat} (i:Nat) (h:∀(hi:i < xs.length) b o,a=some ⟨b,o,none⟩→T c fr (.cel b (o+i * 1) [.int .i64 xs[i]]::H) Φ) (hm:.sl Bc (.slice a n cp) xs F∈H:=by exact Bp) (hi:i < xs.length:=by omega):T c fr H Φ:=.mk fun ac w s g=>by
 obtain ⟨b,o,cs,G,ha,⟨rfl,rfl⟩, -,hb,hne,hr⟩:=Wv (s.get hm) i hi;exact (h hi b o ha).h ac w (s.ro hm rfl rfl ⟨hne,hr⟩ HR) g
theorem M9 {a:Option Addr} {n cp:Nat} {xs:List ByteArray} {F:List Nat} (i:Nat) (h:∀(hi:i < xs.length) b o,a=some ⟨b,o,none⟩→xs[i].size≤maxLen→T c fr (.cel b (o+i * 1) [.string xs[i]]::H) Φ) (hm:.sl A8 (.slice a n cp) xs F∈H:=by exact Bp) (hi:i < xs.length:=by omega):T c fr H Φ:=.mk fun ac w s g=>by
 obtain ⟨b,o,cs,G,ha,⟨rfl,hs,rfl⟩, -,hb,hne,hr⟩:=Wv (s.get hm) i hi;exact (h hi b o ha hs).h ac w (s.ro hm rfl rfl ⟨hne,hr⟩ HR) g
theorem A4 {α:Type} {E:Bx α} {t:TypeId} {v:Value} {xs:List α} {F:List Nat} {S:List Pc} (h:∀F',T c fr (.sl E v xs F'::S) Φ) (hp:Cz H (.ow E t v xs F) S:=by exact Df) (hz:0 < E.sz:=by decide):T c fr H Φ:=.mk fun a w s g=>by
 have s1:=s.pick hp;obtain ⟨-,ho⟩:=s1.on (.ow E t v xs F) GL;obtain ⟨F',hF,hs⟩:=ho.read;exact (h F').h a w (s1.conv rfl ⟨hz,hs⟩ hF) g
theorem Ow.takeO {α:Type} {E:Bx α} {t:TypeId} {w:World} {a:Option Addr} {n cp:Nat} {xs:List α} {F:List Nat} (h:Ow E t w (.slice a n cp) xs F) (k:Nat) (hk:k≤xs.length):∃F',F'.Sublist F∧Ow E t w (.slice a k cp) (xs.take k) F':=by
 rcases h with ⟨h1,rfl,rfl⟩|⟨g,cap,cs,rest,G,h1,h2,h3,h4,h5,h6,rfl⟩
 ·cases h1;have:k=0:=by simpa using hk
  subst this;exact ⟨[],.slnil,.inl ⟨rfl,rfl,rfl⟩⟩
 ·cases h1;rw [←List.take_append_drop k xs] at h6;obtain ⟨c1,c2,G1,G2,rfl,rfl,f1,f2⟩:=h6.split;have hl:(xs.take k).length=k:=by simp [Nat.min_eq_left hk]
  refine ⟨g::G1,(List.sublist_append_left G1 G2).cons_cons g,.inr ⟨g,cp,c1,c2++rest,G1,by rw [hl],by rw [←List.append_assoc];exact h2,GJ,h4,by simp only [List.length_append] at h5 ⊢;omega,f1,rfl⟩⟩
theorem Akh {α:Type} {E:Bx α} {t:TypeId} {a:Option Addr} {n cp:Nat} {xs:List α} {F:List Nat} {S:List Pc} (k:Nat) (h:∀F',T c fr (.ow E t (.slice a k cp) (xs.take k) F'::S) Φ) (hk:k≤xs.length:=by omega) (hp:Cz H (.ow E t (.slice a n cp) xs F) S:=by exact Df):T c fr H Φ:=.mk fun ac w s g=>by
 have s1:=s.pick hp;obtain ⟨hn,ho⟩:=s1.on (.ow E t (.slice a n cp) xs F) GL;obtain ⟨F',hF,hs⟩:=ho.takeO k hk;exact (h F').h ac w (s1.conv rfl ⟨hn.sublist hF,hs⟩ hF.subset) g
theorem Axj {α:Type} {E:Bx α} {t:TypeId} {a:Option Addr} {n cp:Nat} {xs:List α} {F:List Nat} (h:n≤cp→cp≤9223372036854775807→T c fr H Φ) (hm:.ow E t (.slice a n cp) xs F∈H:=by exact Bp):T c fr H Φ:=.mk fun ac w s g=>by
 obtain ⟨-,h'|⟨g',cap,cs,rest,G,h1,h2,h3,h4, -⟩⟩:=s.get hm
 ·obtain ⟨h1,h2, -⟩:=h';cases h1;exact (h GL GM).h ac w s g
 ·cases h1;exact (h h3 (by unfold maxLen at h4;omega)).h ac w s g
theorem Br {α:Type} (E:Bx α) (t:TypeId) (h:T c fr (.ow E t (.slice none 0 0) [] []::H) Φ):T c fr H Φ:=.mk fun a w s g =>
 h.h a w (s.add (N:=[.ow E t (.slice none 0 0) [] []]) (Below.refl _ _) (by intro p hp;simp at hp;subst hp;exact ⟨GL,.inl ⟨rfl,rfl,rfl⟩⟩) ⟨GL,trivial⟩ (by intro p hp b hb;simp at hp;subst hp;simp [Pc.F] at hb)) g
theorem Cf {α:Type} (E:Bx α) (hz:0 < E.sz) (h:T c fr (.sl E (.slice none 0 0) [] []::H) Φ):T c fr H Φ:=.mk fun a w s g =>
 h.h a w (s.add (N:=[.sl E (.slice none 0 0) [] []]) (Below.refl _ _) (by intro p hp;simp at hp;subst hp;exact ⟨hz,none,0,rfl,⟨Nat.le_refl _,GZ⟩,.inl ⟨rfl,rfl,fun _=>rfl⟩⟩) ⟨GL,trivial⟩ (by intro p hp b hb;simp at hp;subst hp;simp [Pc.F] at hb)) g
theorem C4 {α:Type} (E:Bx α) {t g:Nat} {S:List Pc} (h:T c fr (.ow E t (.slice (some ⟨g,0,none⟩) 0 0) [] [g]::S) Φ) (hp:Cz H (.row g t 0 [] [] []) S:=by exact Df):T c fr H Φ:=.mk fun a w s ag=>by
 have s1:=s.pick hp;obtain ⟨-,hr⟩:=s1.on (.row g t 0 [] [] []) GL;exact h.h a w (s1.conv rfl ⟨GL,Ow.empty HY⟩ (fun b hb=>hb)) ag
theorem bs0 {t e m:Nat} {gd:Option (Nat × Bool)} [hS:SlC c.P t e m] (h:∀g,T c ((d,.slice (some ⟨g,0,none⟩) 0 0)::fr) (.row g e 0 [] [] []::H) Φ) (hd:Nat.blt d c.n=true:=by rfl):Ef c fr H ⟨some d,.buildSlice t 0 #[],ty,pos,Ce,gd⟩ Φ:=Ok fun Q a w s g=>by
 have e1:(execOp a.eval ⟨some d,.buildSlice t 0 #[],ty,pos,Ce,gd⟩).run c.P w=.ok (.value (.slice (some ⟨w.heap.size,0,none⟩) 0 0)) (w.alloc (.cells #[] e)):=by
  simp [execOp,Instr.buildSlice,run_underlying hS.u,Mk hS.s,Instr.fill,newRow,Array.range_zero']
 rw [e1];exact (h _).h _ _ (s.new e []) (g.put hd)
inductive Aqx:List Value→List Value→List Value→Prop
 | nil {r}:Aqx [] r r
 | cons {u l r q}:Aqx l r q→Aqx (u::l) r (u::q)
theorem Aqx.eq {l r q} (h:Aqx l r q):l++r=q:=by
 induction h with
 | nil=>rfl
 | cons _ ih=>simp [ih]
inductive Rpt (zs:List Value):Nat→List Value→Prop
 | zero:Rpt zs 0 []
 | succ {n r q}:Rpt zs n r→Aqx zs r q→Rpt zs (n+1) q
theorem Rpt.eq {zs:List Value} {n q} (h:Rpt zs n q):q=(List.replicate n zs).flatten:=by
 induction h with
 | zero=>rfl
 | succ _ h2 ih=>rw [←h2.eq,ih,List.replicate_succ,List.flatten_cons]
theorem bs {t e m b len:Nat} {z:Value} {zs cs q:List Value} {ps:List (Nat × Operand)} {gd:Option (Nat × Bool)} [hS:SlC c.P t e m] [hE:ElT c.P e z m b] [hZ:ZC c.P e zs] (h:∀g,T c ((d,.slice (some ⟨g,0,none⟩) len len)::fr) (.row g e 0 [] q []::H) Φ)
  (hc:Rpt zs len cs:=by repeat constructor) (hf:Fil (fun i=>some (i * m,m)) fr cs ps q:=by repeat (first|exact Fil.nil|apply Fil.cons GV GV GV (by repeat constructor))) (hl:Nat.ble (len * m) 1000=true:=by rfl) (hm:Nat.blt 0 m=true:=by rfl) (hlen:Nat.blt 0 len=true:=by rfl) (hd:Nat.blt d c.n=true:=by rfl) :
  Ef c fr H ⟨some d,.buildSlice t len ps.toArray,ty,pos,Ce,gd⟩ Φ:=Ok fun Q a w s g=>by
 have hm0:m≠0:=by have:0 < m:=by simpa using hm
                  omega
 have hlen0:len≠0:=by have:0 < len:=by simpa using hlen
                      omega
 have hl2:len * m≤1000:=by simpa using hl
 obtain ⟨i,hi,hz⟩:=Option.map_eq_some_iff.1 hE.i;simp only [Prod.mk.injEq] at hz;obtain ⟨hz,hs, -⟩:=hz;obtain ⟨z',hz',hzc⟩:=hZ.z;obtain rfl:z'=z:=by rw [hi] at hz';simp [hz] at hz';exact hz'.symm
 have hzl:zs.length=m:=by have:=hE.s;rw [hzc] at this;simpa using this
 have e2:((Array.range (len * m)).map (zs.toArray[· % zs.toArray.size]!))=cs.toArray:=by
  have:=Nh zs.toArray len;rw [hc.eq];apply Array.ext';rw [show zs.toArray.size=m from by simp [hzl]] at this;simpa [madeCells] using this
 have e1:(execOp a.eval ⟨some d,.buildSlice t len ps.toArray,ty,pos,Ce,gd⟩).run c.P w=.ok (.value (.slice (some ⟨w.heap.size,0,none⟩) len len)) (w.alloc (.cells q.toArray e)):=by
  have h3:=hf.run g;have hne:¬(len * m=0):=Nat.mul_ne_zero hlen0 hm0;have hns:¬(len * m > 2 ^ 24):=by omega
  have hzv:(zeroValue e).run c.P w=.ok z' w:=by simp [zeroValue,typeInfo,hi,hz]
  simp only [execOp,Instr.buildSlice,Sem.run_bind,run_underlying hS.u,Mk hS.s,Result.andThen_ok,if_neg hns,if_neg hne,hzv,hzc,Sem.run_pure,Sem.run_ite,e2];simp only [List.map_toArray,h3,newRow,Sem.run_bind,run_newObj_alloc,Result.andThen_ok,Sem.run_pure]
 rw [e1];exact (h _).h _ _ (s.new e q) (g.put hd)
theorem Lr {t e m:Nat} [SlC c.P t e m] (hd:Nat.blt d c.n=true) (h:∀g,T c ((d,.slice (some ⟨g,0,none⟩) 0 0)::fr) (.row g e 0 [] [] []::H) Φ):On c fr H (some d) (.buildSlice t 0 #[]) ty Φ:=⟨fun _ _ _=>bs0 h hd⟩
theorem Ke {zs:List Value} {n:Nat} {q:List Value} (h:Rpt zs n q:=by repeat constructor):Rpt zs n q:=h
theorem Km {t e m b len:Nat} {z:Value} {zs cs q:List Value} {ps:List (Nat × Operand)} [SlC c.P t e m] [ElT c.P e z m b] [ZC c.P e zs] (hd:Nat.blt d c.n=true) (hlen:Nat.blt 0 len=true) (hm:Nat.blt 0 m=true) (hl:Nat.ble (len * m) 1000=true) (hc:Rpt zs len cs) (hf:Fil (fun i=>some (i * m,m)) fr cs ps q) (h:∀g,T c ((d,.slice (some ⟨g,0,none⟩) len len)::fr) (.row g e 0 [] q []::H) Φ) :
  On c fr H (some d) (.buildSlice t len ps.toArray) ty Φ:=⟨fun _ _ _=>bs h hc hf hl hm hlen hd⟩
end
theorem Ca {A B:List Nat} (h:(A++B).Nodup) {b:Nat} (ha:b∈A) (hb:b∈B):False:=(List.nodup_append.1 h).2.2 b ha b hb rfl
section
variable {c:Cx} {fr:Fr} {H:List Pc} {k:List It} {Φ:Gl} {ops:Array Oper} {rest:List Oper} {d:Nat} {o:Op} {ty:TypeId} {pos:String} {Ce:Array Edge} {v u:Value} {x y:Operand}
theorem ap {α:Type} {E:Bx α} {t e m b:Nat} {z:Value} [hS:SlC c.P t e m] [hE:ElT c.P e z m b] {xs ys:List α} {F Fy:List Nat} {ao:Option Addr} {n cp:Nat} {gd:Option (Nat × Bool)} {R S:List Pc} (one:One E) (hz:0 < E.sz) (hm:E.sz=m)
  (hp:Cz H (.ow E e v xs F) R) (hx:ev fr x=some v) (hy:ev fr y=some (.slice ao n cp)) (hn:n=ys.length)
  (hsrc:∀w,St c.G c.D c.w0 (.ow E e v xs F::R) w→∃news,Cw E w news ys Fy∧((ao=none∧cp=0∧ys=[])∨∃ad,ao=some ad∧∀j u,news[j]?=some u→w.cell? (ad.add j)=some u)∧(∀b∈Fy,b ∉ F)∧Fy.Nodup)
  (hFy:∀w v' F',St c.G c.D c.w0 (.ow E e v xs F::R) w→(∀b∈F',b∈F∨b∈Fy∨b=w.heap.size)→∀w',Dn F w w'→(Pc.ow E e v' (xs++ys) F').P w'→St c.G c.D c.w0 (.ow E e v' (xs++ys) F'::S) w')
  (h63:xs.length+ys.length≤maxLen) (hby:(xs.length+ys.length) * b≤140737488355328)
  (h:∀a' c' F',T c ((d,.slice a' (xs++ys).length c')::fr) (.ow E e (.slice a' (xs++ys).length c') (xs++ys) F'::S) Φ) (hd:Nat.blt d c.n=true) :
  Ef c fr H ⟨some d,.call { callee:=.builtin .append,args:=#[x,y],argTypes:=#[t,t] },ty,pos,Ce,gd⟩ Φ:=.mk fun Q a w s g=>by
 have s1:=s.pick hp;obtain ⟨hnd,how⟩:=s1.on (.ow E e v xs F) GL;obtain ⟨news,hfl,hsr,hdis,hny⟩:=hsrc w s1;subst hn;refine Apk (P:=c.P) one hz x y t rfl e z b hS.u (by rw [hE.i,hm]) (by rw [hE.s,hm]) v xs F (g.ev hx) how (Hd.of hnd) ao ys cp (g.ev hy) news Fy hfl hsr (fun b hb e=>hdis b hb (how.own_mem b e)) h63 hby fun v' w' F' hA=>?_;obtain ⟨a',c',rfl⟩:=hA.val;rw [←List.length_append] at hA ⊢;have hw:=hA.ow;exact (h a' c' F').h _ _ (hFy w _ F' s1 hA.mem w' hA.H8 ⟨hA.Al7 hnd hny hdis,hw⟩) (g.put hd)
theorem Oh {α:Type} {E:Bx α} {t e m b:Nat} {z:Value} [hS:SlC c.P t e m] [hE:ElT c.P e z m b] {xs ys:List α} {F:List Nat} {g n cp tt:Nat} {cs:List Value} {R S:List Pc}
  (hfl:∀w,Cw E w cs ys []) (one:One E) (h:∀a' c' F',T c ((d,.slice a' (xs++ys).length c')::fr) (.ow E e (.slice a' (xs++ys).length c') (xs++ys) F'::S) Φ)
  (hx:ev fr x=some v:=by rfl) (hy:ev fr y=some (.slice (some ⟨g,0,none⟩) n cp):=by rfl) (hp:Cz H (.ow E e v xs F) R:=by exact Df) (hp2:Cz R (.row g tt 0 [] cs []) S:=by exact Df) (hn:n=ys.length:=by rfl) (hz:0 < E.sz:=by decide) (hm:E.sz=m:=by rfl)
  (h63:xs.length+ys.length≤9223372036854775807:=by simp only [List.length_cons,List.length_nil];omega) (hby:(xs.length+ys.length) * b≤140737488355328:=by simp only [List.length_cons,List.length_nil];omega) (hd:Nat.blt d c.n=true:=by rfl) :
  On c fr H (some d) (.call { callee:=.builtin .append,args:=#[x,y],argTypes:=#[t,t] }) ty Φ :=
 ⟨fun _ _ _=>ap one hz hm hp hx hy hn (Fy:=[]) (fun w s=>⟨cs,hfl w,.inr ⟨_,rfl,fun j u hu=>by
   have hr:=(s.on (.row g tt 0 [] cs []) (by simp [hp2.mem])).2;have:=hr.cell j;simp only [List.nil_append,List.append_nil] at this;rw [hu] at this;unfold Addr.add
   split
   ·rename_i e;subst e;exact this
   ·simpa using this⟩,GL,GL⟩)
  (fun w v' F' s hF w' hk hv=>by
   have s2:St c.G c.D c.w0 (.ow E e v xs F::S) w:=⟨s.H8,fun q hq=>s.on q KI,⟨fun q hq=>s.sep.1 q (hp2.sub q hq),(hp2.sep s.sep.2).2⟩,fun q hq=>s.Abs q KI⟩;exact St.turn (M:=[.ow E e v xs F]) (N:=[.ow E e v' (xs++ys) F']) s2 II JI ⟨GL,trivial⟩ (by
    intro q hq b hb;simp at hq;subst hq;rcases hF b hb with h|h|h
    ·exact .inr (.inl ⟨.ow E e v xs F,GL,rfl,h⟩)
    ·simp at h
    ·exact .inl GJ))
  (by unfold maxLen;exact h63) hby h hd⟩
theorem N3 {α:Type} {E:Bx α} {t e m b:Nat} {z:Value} [hS:SlC c.P t e m] [hE:ElT c.P e z m b] {xs ys:List α} {F G:List Nat} {ao:Option Addr} {n cp:Nat} {R:List Pc}
  (one:One E) (sc:∀{w cs x F},E.Lo w cs x F→F=[]) (h:∀a' c' F',T c ((d,.slice a' (xs++ys).length c')::fr) (.ow E e (.slice a' (xs++ys).length c') (xs++ys) F'::R) Φ)
  (hx:ev fr x=some v:=by rfl) (hy:ev fr y=some (.slice ao n cp):=by rfl) (hp:Cz H (.ow E e v xs F) R:=by exact Df) (hp2:.sl E (.slice ao n cp) ys G∈R:=by exact Bp) (hn:n=ys.length:=by rfl) (hz:0 < E.sz:=by decide) (hm:E.sz=m:=by rfl)
  (h63:xs.length+ys.length≤9223372036854775807:=by first|omega|(simp only [List.length_cons,List.length_nil];omega)) (hby:(xs.length+ys.length) * b≤140737488355328:=by first|omega|(simp only [List.length_cons,List.length_nil];omega)) (hd:Nat.blt d c.n=true:=by rfl) :
  On c fr H (some d) (.call { callee:=.builtin .append,args:=#[x,y],argTypes:=#[t,t] }) ty Φ :=
 have flat0:∀{w cs zs G},Cw E w cs zs G→G=[]:=fun {w cs zs G}=>by
  induction zs generalizing cs G with
  | nil=>intro h;exact h.2
  | cons z r ih=>intro h;obtain ⟨c1,c2,F1,F2,_,rfl,h1,h2⟩:=h;rw [sc h1,ih h2];rfl
 ⟨fun _ _ _=>ap one hz hm hp hx hy hn (Fy:=[]) (fun w s=>by
   obtain ⟨-,hs⟩:=s.on (.sl E (.slice ao n cp) ys G) (by simp [hp2]);obtain ⟨ao',cc,news,Fy,he, -,hfy, -,hsrc⟩:=hs.src;simp only [Value.slice.injEq] at he;obtain ⟨rfl, -,rfl⟩:=he;obtain rfl:=flat0 hfy;exact ⟨news,hfy,hsrc,GL,GL⟩)
  (fun w v' F' s hF w' hk hv=>St.turn (M:=[.ow E e v xs F]) (N:=[.ow E e v' (xs++ys) F']) s II JI ⟨GL,trivial⟩ (by
    intro q hq b hb;simp at hq;subst hq;rcases hF b hb with h|h|h
    ·exact .inr (.inl ⟨.ow E e v xs F,GL,rfl,h⟩)
    ·simp at h
    ·exact .inl GJ))
  (by unfold maxLen;exact h63) hby h hd⟩
/-! parts of slices that read -/
theorem Ady {P:Program} {t e m:Nat} (hS:SlC P t e m):P.elem t=e:=by simp [Program.elem,hS.u]
theorem sld {α:Type} {E:Bx α} {t e m:Nat} [hS:SlC c.P t e m] {a:Option Addr} {n cp:Nat} {xs:List α} {F:List Nat} {i:Int} (j:Nat) (h:∀a' c' F',T c ((d,.slice a' (xs.drop j).length c')::fr) (.sl E (.slice a' (xs.drop j).length c') (xs.drop j) F'::H) Φ)
  (hx:ev fr x=some (.slice a n cp):=by rfl) (hy:ev fr y=some (.int .i64 i):=by rfl) (hm:.sl E (.slice a n cp) xs F∈H:=by exact Bp) (hi:i=(j:Int):=by first|rfl|omega) (hj:j≤xs.length:=by omega) (he:E.sz=m:=by rfl) (hd:Nat.blt d c.n=true:=by rfl):On c fr H (some d) (.slice t x (some y) none none) ty Φ:=⟨fun pos Ce gd=>Ok fun Q ac w s g=>by
 subst hi;obtain ⟨hz,hs⟩:=s.get hm;have he2:=Ady hS;obtain ⟨a2,c2,F',hr,hF,h2⟩:=hs.dropS t HH j hj (fun W=>by rw [he2,he];exact Mk hS.s W);have e1:(execOp ac.eval ⟨some d,.slice t x (some y) none none,ty,pos,Ce,gd⟩).run c.P w=.ok (.value (.slice a2 (xs.drop j).length c2)) w:=by
  simp [execOp,g.ev hx,g.ev hy,hr]
 rw [e1];rw [←List.length_drop] at h2;exact (h a2 c2 F').h _ w (s.ro hm rfl rfl ⟨hz,h2⟩ hF) (g.put hd)⟩
/-! one element of an owned slice, of elements without blocks of their own -/
def At4 {α:Type} (E:Bx α) (t:TypeId) (g:Nat) (v:Value) (xs:List α) (i:Nat) (A B:List Value):Prop:=∀w cs y,Ha w g t (A++cs++B)→E.Lo w cs y []→Ow E t w v (xs.set i y) [g]
theorem R5 {α:Type} {E:Bx α} {t:TypeId} {a:Option Addr} {n cp m:Nat} {xs:List α} {F:List Nat} {S:List Pc} (sc:Zp E) (i:Nat) (h:∀(_:i < xs.length) g A cs B,a=some ⟨g,0,none⟩→F=[g]→(∀w,E.Lo w cs xs[i] [])→At4 E t g (.slice (some ⟨g,0,none⟩) n cp) xs i A B→T c fr (.row g t (0+i * m) A cs B::S) Φ)
  (hp:Cz H (.ow E t (.slice a n cp) xs F) S) (hm:E.sz=m) (hi:i < xs.length):T c fr H Φ:=.mk fun ac w s g=>by
 have z1:=s.pick hp;obtain ⟨-,ho⟩:=z1.on (.ow E t (.slice a n cp) xs F) GL;obtain ⟨g0,cap,A,cs,B,G1,Fi,G2,hv,hr,hA, -,hx,rfl, -,hW⟩:=ho.focus i hi;cases hv;obtain rfl:=sc hx;have hG:∀b,b ∉ G1++G2:=by
  intro b hb;have:=ho.scal sc;simp only [Value.ownBlock,Option.toList_some,List.append_nil,List.cons.injEq,true_and] at this;rw [this] at hb;simp at hb
 have hG0:G1++G2=[]:=List.eq_nil_iff_forall_not_mem.2 hG;subst hm;refine (h hi g0 A cs B rfl (by simpa using hG0) (fun w'=>E.frame hx GL) (fun w' c' y hr' hy=>?_)).h ac w (z1.conv rfl ⟨GJ,hr⟩ (by intro b hb;simp [Pc.F] at hb;subst hb;simp [Pc.F])) g;have:=hW w' c' y [] hr' hy (fun b hb=>absurd hb (hG b));simpa [hG0] using this
theorem Qv {α:Type} {E:Bx α} {t:TypeId} {g o:Nat} {v:Value} {xs:List α} {i:Nat} {A cs B:List Value} {S:List Pc} (y:α) (hh:At4 E t g v xs i A B) (hy:∀w,E.Lo w cs y []) (h:T c fr (.ow E t v (xs.set i y) [g]::S) Φ) (hp:Cz H (.row g t o A cs B) S:=by exact Df):T c fr H Φ:=.mk fun ac w s ag=>by
 have z1:=s.pick hp;obtain ⟨-,hr⟩:=z1.on (.row g t o A cs B) GL;exact h.h ac w (z1.conv rfl ⟨GL,hh w cs y hr (hy w)⟩ (fun b hb=>hb)) ag
/-! calls by the elder contracts -/
theorem cn {α:Type} {E:Bx α} {t:TypeId} {xs:List α} {f:Nat} {vs:List Value} (hc:∀w,St c.G c.D c.w0 H w→Calls c.P f vs.toArray w (Ul E t xs w)) (h:∀a cp F,T c ((d,.slice a xs.length cp)::fr) (.ow E t (.slice a xs.length cp) xs F::H) Φ):Cl c fr H d f vs Φ :=
 Zr hc (fun w e w' s hR=>by
  obtain ⟨v,F,he,ho,hn,hF,hB⟩:=hR;obtain ⟨a,cp,rfl⟩:=ho.slice;exact ⟨_,he,fun ac g=>(h a cp F).h ac w' (s.add (N:=[.ow E t (.slice a xs.length cp) xs F]) hB (by intro q hq;simp at hq;subst hq;exact ⟨hn,ho⟩) ⟨GL,trivial⟩ IQ) g⟩)
theorem cr {α:Type} {E:Bx α} {z:α} {f:Nat} {vs:List Value} (hc:∀w,St c.G c.D c.w0 H w→Calls c.P f vs.toArray w (Bdu E z w)) (h:∀v F,T c ((d,v)::fr) (.isv E v z F::H) Φ):Cl c fr H d f vs Φ :=
 Zr hc (fun w e w' s hR=>by
  obtain ⟨v,F,he,ho,hF,hB⟩:=hR;exact ⟨_,he,fun ac g=>(h v F).h ac w' (s.add (N:=[.isv E v z F]) hB (by intro q hq;simp at hq;subst hq;exact ho) ⟨GL,trivial⟩ IQ) g⟩)
theorem cv {α:Type} {E:Bx α} {z:α} {f:Nat} {vs:List Value} (hc:∀w,St c.G c.D c.w0 H w→Calls c.P f vs.toArray w (Anm E z w)) (h:∀v F,T c ((d,v)::fr) (.own E v z F::H) Φ):Cl c fr H d f vs Φ :=
 Zr hc (fun w e w' s hR=>by
  obtain ⟨v,F,he,ho,hn,hF,hB⟩:=hR;exact ⟨_,he,fun ac g=>(h v F).h ac w' (s.add (N:=[.own E v z F]) hB (by intro q hq;simp at hq;subst hq;exact ⟨hn,ho⟩) ⟨GL,trivial⟩ IQ) g⟩)
/-! regions that draw their order -/
inductive Nth:List Pc→Nat→Pc→Prop
 | zero {p R}:Nth (p::R) 0 p
 | succ {x p R i}:Nth R i p→Nth (x::R) (i+1) p
inductive Sel (H:List Pc):List Nat→List Pc→Prop
 | nil:Sel H [] []
 | cons {i is p R}:Nth H i p→Sel H is R→Sel H (i::is) (p::R)
theorem Nth.mem {H i p} (h:Nth H i p):p∈H:=by
 induction h with
 | zero=>simp
 | succ _ ih=>simp [ih]
variable {H0:List Pc} {X:List Nat} {f:Nat} {listed:Array Bool}
theorem At {id:Nat} {l:List Oper} (is X:List Nat) (h:T c fr H (.dx k H0 X l.toArray l.length (Array.replicate l.length false))) (_hsel:Sel H is H0:=by repeat constructor) (hm:c.P.follows .mixedOrders=true:=by kernel_rfl):T c fr H (.code k (Code.region id l.toArray true)):=.mk fun a w s g=>by
 refine En.start (S:=O2 H0) (X:=fun i=>X.contains i) hm ?_;exact EB
def Vz (c:Cx):Prop:=∀ch d v a w,c.R (.panic ch) (Act.put a d v) w→c.R (.panic ch) a w
theorem Ya {P:Program} {D G:List Nat} {w0:World} {n:Nat} {fn:Func} {R:Ending→World→Prop}:Vz ⟨P,G,D,w0,n,bodyPost P fn R⟩:=fun ch d v a w h=>by
 cases d <;> exact h
theorem dt (i:Nat) (h:T c ((d,v)::fr) H (.dx k H0 X ops f (listed.setIfInBounds i true))) (ho:ops[i]?=some ⟨some d,o,ty,pos,Ce,none⟩:=by rw [List.getElem?_toArray];rfl) (hy:Yd c.P c.n fr H0 o ty v:=by exact ydE) (hs:M6 H0 H:=by repeat (first|exact M6.nil|refine M6.cons GO ?_))
  (h1:Region.noSelect ops=true:=by kernel_rfl) (h2:Region.free .any ops listed i=true:=by kernel_rfl) (h3:(Region.ready .any ops listed).contains i=true:=by kernel_rfl) (h4:Lj .any ops (fun i=>X.contains i) i=true:=by kernel_rfl) (h5:Mh .any ops listed=true:=by kernel_rfl) (hR:Vz c:=by exact Ya) (hd:Nat.blt d c.n=true:=by rfl) :
  T c fr H (.dx k H0 X ops (f+1) listed):=.mk fun a w s g =>
 En.take (v:=v) ho h1 h2 h3 h4 h5 (fun ch a w hp=>by rw [L8] at hp ⊢;exact hR _ _ _ _ _ hp) (.inl ⟨rfl,fun w' hw'=>hy.h a w' _ _ _ _ g hw'⟩) (fun p hp=>s.on p (hs.all p hp)) (h.h _ _ s (g.put hd))
theorem Anx (i j:Nat) {α:Type} {E:Bx α} {t e m:Nat} [hS:SlC c.P t e m] {a:Option Addr} {n cp:Nat} {xs:List α} {F:List Nat} {z:Int} (h:∀a' c' F',T c ((d,.slice a' (xs.drop j).length c')::fr) (.sl E (.slice a' (xs.drop j).length c') (xs.drop j) F'::H) (.dx k H0 X ops f (listed.setIfInBounds i true))) (ho:ops[i]?=some ⟨some d,.slice t x (some y) none none,ty,pos,Ce,none⟩:=by rw [List.getElem?_toArray];rfl)
  (hx:ev fr x=some (.slice a n cp):=by rfl) (hy:ev fr y=some (.int .i64 z):=by rfl) (hm:.sl E (.slice a n cp) xs F∈H:=by exact Bp) (hi:z=(j:Int):=by first|rfl|omega) (hj:j≤xs.length:=by omega) (he:E.sz=m:=by rfl) (hs:M6 H0 H:=by repeat (first|exact M6.nil|refine M6.cons GO ?_))
  (h1:Region.noSelect ops=true:=by kernel_rfl) (h2:Region.free .any ops listed i=true:=by kernel_rfl) (h3:(Region.ready .any ops listed).contains i=true:=by kernel_rfl) (h4:Lj .any ops (fun i=>X.contains i) i=true:=by kernel_rfl) (h5:Mh .any ops listed=true:=by kernel_rfl) (hR:Vz c:=by exact Ya) (hd:Nat.blt d c.n=true:=by rfl) :
  T c fr H (.dx k H0 X ops (f+1) listed):=.mk fun ac w s g=>by
 subst hi;obtain ⟨hz,hs'⟩:=s.get hm;have he2:=Ady hS;obtain ⟨a2,c2,F',hr,hF,h2'⟩:=hs'.dropS t HH j hj (fun W=>by rw [he2,he];exact Mk hS.s W);rw [←List.length_drop] at h2' hr;refine En.take (v:=.slice a2 (xs.drop j).length c2) ho h1 h2 h3 h4 h5 (fun ch a w hp=>by rw [L8] at hp ⊢;exact hR _ _ _ _ _ hp) (.inl ⟨rfl,fun w' _=>?_⟩) (fun p hp=>s.on p (hs.all p hp)) ((h a2 c2 F').h _ w (s.ro hm rfl rfl ⟨hz,h2'⟩ hF) (g.put hd));simp only [execOp,Option.map_none,Option.map_some,g.ev hx,g.ev hy,Sem.run_bind,hr,Result.andThen_ok,Sem.run_pure]
theorem Di (i:Nat) {j t:Nat} {b:Bool} (h:T c ((d,v)::fr) H (.dx k H0 X ops f (listed.setIfInBounds i true))) (ho:ops[i]?=some ⟨some d,o,ty,pos,Ce,some (j,b)⟩:=by rw [List.getElem?_toArray];rfl) (ht:(ops[j]?).bind (·.dst)=some t:=by rfl) (hl:Qz fr t=some (.bool b):=by rfl) (hy:Yd c.P c.n fr H0 o ty v:=by exact ydE) (hs:M6 H0 H:=by repeat (first|exact M6.nil|refine M6.cons GO ?_))
  (h1:Region.noSelect ops=true:=by kernel_rfl) (h2:Region.free .any ops listed i=true:=by kernel_rfl) (h3:(Region.ready .any ops listed).contains i=true:=by kernel_rfl) (h4:Lj .any ops (fun i=>X.contains i) i=true:=by kernel_rfl) (h5:Mh .any ops listed=true:=by kernel_rfl) (hR:Vz c:=by exact Ya) (hd:Nat.blt d c.n=true:=by rfl) :
  T c fr H (.dx k H0 X ops (f+1) listed):=.mk fun a w s g =>
 En.take (v:=v) ho h1 h2 h3 h4 h5 (fun ch a w hp=>by rw [L8] at hp ⊢;exact hR _ _ _ _ _ hp) (.inl ⟨by rw [Uh (c:=c) ht hl g];simp,fun w' hw'=>hy.h a w' _ _ _ _ g hw'⟩) (fun p hp=>s.on p (hs.all p hp)) (h.h _ _ s (g.put hd))
theorem ds (i:Nat) {j t:Nat} {b b':Bool} (h:T c ((d,undef)::fr) H (.dx k H0 X ops f (listed.setIfInBounds i true))) (ho:ops[i]?=some ⟨some d,o,ty,pos,Ce,some (j,b)⟩:=by rw [List.getElem?_toArray];rfl) (ht:(ops[j]?).bind (·.dst)=some t:=by rfl) (hl:Qz fr t=some (.bool b'):=by rfl) (hb:(b' == b)=false:=by rfl) (hs:M6 H0 H:=by repeat (first|exact M6.nil|refine M6.cons GO ?_))
  (h1:Region.noSelect ops=true:=by kernel_rfl) (h2:Region.free .any ops listed i=true:=by kernel_rfl) (h3:(Region.ready .any ops listed).contains i=true:=by kernel_rfl) (h4:Lj .any ops (fun i=>X.contains i) i=true:=by kernel_rfl) (h5:Mh .any ops listed=true:=by kernel_rfl) (hR:Vz c:=by exact Ya) (hd:Nat.blt d c.n=true:=by rfl) :
  T c fr H (.dx k H0 X ops (f+1) listed):=.mk fun a w s g =>
 En.take (v:=undef) ho h1 h2 h3 h4 h5 (fun ch a w hp=>by rw [L8] at hp ⊢;exact hR _ _ _ _ _ hp) (.inr ⟨by rw [Uh (c:=c) ht hl g];exact hb,rfl⟩) (fun p hp=>s.on p (hs.all p hp)) (h.h _ _ s (g.put hd))
theorem Zf (i:Nat) {j t:Nat} {b:Bool} (h:T c ((d,undef)::fr) H (.dx k H0 X ops f (listed.setIfInBounds i true))) (ho:ops[i]?=some ⟨some d,o,ty,pos,Ce,some (j,b)⟩:=by rw [List.getElem?_toArray];rfl) (ht:(ops[j]?).bind (·.dst)=some t:=by rfl) (hl:Qz fr t=some undef:=by rfl) (hs:M6 H0 H:=by repeat (first|exact M6.nil|refine M6.cons GO ?_))
  (h1:Region.noSelect ops=true:=by kernel_rfl) (h2:Region.free .any ops listed i=true:=by kernel_rfl) (h3:(Region.ready .any ops listed).contains i=true:=by kernel_rfl) (h4:Lj .any ops (fun i=>X.contains i) i=true:=by kernel_rfl) (h5:Mh .any ops listed=true:=by kernel_rfl) (hR:Vz c:=by exact Ya) (hd:Nat.blt d c.n=true:=by rfl) :
  T c fr H (.dx k H0 X ops (f+1) listed):=.mk fun a w s g =>
 En.take (v:=undef) ho h1 h2 h3 h4 h5 (fun ch a w hp=>by rw [L8] at hp ⊢;exact hR _ _ _ _ _ hp) (.inr ⟨by simp only [Region.wanted,yielded,ht,Option.bind_some,g.at_ t _ hl];rfl,rfl⟩) (fun p hp=>s.on p (hs.all p hp)) (h.h _ _ s (g.put hd))
theorem dk {i:Nat} (h:T c fr H (.dx k H0 X ops f listed)) (hs:M6 H0 H:=by repeat (first|exact M6.nil|refine M6.cons GO ?_)):T c fr H (.dk i k H0 X ops f listed):=.mk fun a w s g=>⟨fun _ p hp=>s.on p (hs.all p hp),h.h a w s g⟩
theorem Rn {i:Nat} (h:T c fr H (.dx k H0 X ops f listed)) (hi:X.contains i=true:=by rfl):T c fr H (.dk i k H0 X ops f listed):=.mk fun a w s g=>⟨fun h0=>(by rw [hi] at h0;cases h0),h.h a w s g⟩
theorem d1 (i:Nat) {o:Oper} (h:Ef c fr H o (.dk i k H0 X ops f (listed.setIfInBounds i true))) (hr:Region.ready .any ops listed=[i]:=by kernel_rfl) (ho:ops[i]?=some o:=by rw [List.getElem?_toArray];rfl) (hg:o.guard=none:=by rfl):T c fr H (.dx k H0 X ops (f+1) listed):=.mk fun a w s g =>
 En.only hr ho fun K hK=>by
  rw [if_pos (by simp [Region.wanted,hg])];exact Oper.wp_mono (fun a' w' h'=>hK a' w' h'.1 h'.2) (h.h _ a w s g)
theorem d1g (i:Nat) {od:Option Tmp} {j t:Nat} {b:Bool} (h:Ef c fr H ⟨od,o,ty,pos,Ce,some (j,b)⟩ (.dk i k H0 X ops f (listed.setIfInBounds i true))) (hr:Region.ready .any ops listed=[i]:=by kernel_rfl) (ho:ops[i]?=some ⟨od,o,ty,pos,Ce,some (j,b)⟩:=by rw [List.getElem?_toArray];rfl) (ht:(ops[j]?).bind (·.dst)=some t:=by rfl) (hl:Qz fr t=some (.bool b):=by rfl):T c fr H (.dx k H0 X ops (f+1) listed):=.mk fun a w s g =>
 En.only hr ho fun K hK=>by
  rw [if_pos (by rw [Uh (c:=c) ht hl g];simp)];exact Oper.wp_mono (fun a' w' h'=>hK a' w' h'.1 h'.2) (h.h _ a w s g)
theorem d2 (i j:Nat) {o o2:Oper} (h:Ef c fr H o (.dk i k H0 X ops f (listed.setIfInBounds i true))) (h':Ef c fr H o2 (.dk j k H0 X ops f (listed.setIfInBounds j true)))
  (hr:Region.ready .any ops listed=[i,j]:=by kernel_rfl) (ho:ops[i]?=some o:=by rw [List.getElem?_toArray];rfl) (ho2:ops[j]?=some o2:=by rw [List.getElem?_toArray];rfl) (hg:o.guard=none:=by rfl) (hg2:o2.guard=none:=by rfl):T c fr H (.dx k H0 X ops (f+1) listed):=.mk fun a w s g =>
 En.two hr ho ho2 (fun K hK=>by
  rw [if_pos (by simp [Region.wanted,hg])];exact Oper.wp_mono (fun a' w' h'=>hK a' w' h'.1 h'.2) (h.h _ a w s g)) (fun K hK=>by
  rw [if_pos (by simp [Region.wanted,hg2])];exact Oper.wp_mono (fun a' w' h''=>hK a' w' h''.1 h''.2) (h'.h _ a w s g))
theorem dO (i:Nat) {od:Option Tmp} (hr:Region.ready .any ops listed=[i]) (ho:ops[i]?=some ⟨od,o,ty,pos,Ce,none⟩) (h:On c fr H od o ty (.dk i k H0 X ops f (listed.setIfInBounds i true))):T c fr H (.dx k H0 X ops (f+1) listed):=d1 i (h.h pos Ce none) hr ho rfl
theorem dO2 (i j:Nat) {od od2:Option Tmp} {o2:Op} {ty2:TypeId} {pos2:String} {aft2:Array Edge} (hr:Region.ready .any ops listed=[i,j]) (ho:ops[i]?=some ⟨od,o,ty,pos,Ce,none⟩) (ho2:ops[j]?=some ⟨od2,o2,ty2,pos2,aft2,none⟩) (h:On c fr H od o ty (.dk i k H0 X ops f (listed.setIfInBounds i true))) (h':On c fr H od2 o2 ty2 (.dk j k H0 X ops f (listed.setIfInBounds j true))):T c fr H (.dx k H0 X ops (f+1) listed):=d2 i j (h.h pos Ce none) (h'.h pos2 aft2 none) hr ho ho2 rfl rfl
theorem dd (h:T c fr H (.norm k)) (hr:Region.ready .any ops listed=[]:=by kernel_rfl):T c fr H (.dx k H0 X ops f listed):=.mk fun a w s g=>En.done hr (h.h a w s g) f
theorem ey {gd:Option (Nat × Bool)} (h:T c ((d,v)::fr) H Φ) (hy:Yd c.P c.n fr H o ty v:=by exact ydE) (hd:Nat.blt d c.n=true:=by rfl):Ef c fr H ⟨some d,o,ty,pos,Ce,gd⟩ Φ:=Ba4 hy hd h
end
inductive Kf (fr:Fr):List Nat→Fr→Prop
 | nil:Kf fr [] []
 | cons {t v ts r}:Qz fr t=some v→Kf fr ts r→Kf fr (t::ts) ((t,v)::r)
theorem Kf.sub {fr ts r} (h:Kf fr ts r):L9 fr r:=by
 induction h with
 | nil=>exact .nil
 | cons h _ ih=>exact .cons h ih
theorem L9.app {fr a b:Fr} (h:L9 fr a) (h2:L9 fr b):L9 fr (a++b):=by
 induction h with
 | nil=>exact h2
 | cons h _ ih=>exact .cons h ih
theorem Ex.hsub {H M R:List Pc} (h:Ex H M R):Ku H (M++R):=by
 have all:∀(H:List Pc),Ku H H:=by
  intro H
  induction H with
  | nil=>exact .nil
  | cons p H ih=>exact .cons .here ih
 induction h with
 | nil=>exact all _
 | cons hp _ ih=>exact .cons hp ih
theorem Ck {c:Cx} {fr:Fr} {H:List Pc} {k:List It} {x:Code} {σ:Type} {cst:Fr} {rest:List Pc} (ks:List Nat) (upd:σ→Fr) (chg:σ→List Pc) (C:σ→Prop) (μ:σ→Nat) (s0:σ) (h0:C s0)
  (round:∀s,C s→T c (upd s++cst) (chg s++rest) (.code (.lp (LpN c (fun s=>upd s++cst) (fun s=>chg s++rest) C μ (μ s))::k) x)) (hk:Kf fr ks cst:=by repeat (first|exact Kf.nil|apply Kf.cons GV)) (hf:L9 fr (upd s0):=by exact frE) (hH:Ex H (chg s0) rest:=by exact Afr):T c fr H (.code k (Code.loop x)) :=
 Aus (fun s=>upd s++cst) (fun s=>chg s++rest) C μ s0 h0 round (hf.app hk.sub) hH.hsub
theorem Ev {c:Cx} {fr:Fr} {H:List Pc} {k:List It} {x:Code} {σ:Type} {cst:Fr} (ks:List Nat) (upd:σ→Fr) (C:σ→Prop) (μ:σ→Nat) (s0:σ) (h0:C s0)
  (round:∀s,C s→T c (upd s++cst) H (.code (.lp (LpN c (fun s=>upd s++cst) (fun _=>H) C μ (μ s))::k) x)) (hk:Kf fr ks cst:=by repeat (first|exact Kf.nil|apply Kf.cons GV)) (hf:L9 fr (upd s0):=by exact frE):T c fr H (.code k (Code.loop x)) :=
 Aus (fun s=>upd s++cst) (fun _=>H) C μ s0 h0 round (hf.app hk.sub) (by
  have all:∀(H:List Pc),Ku H H:=by
   intro H
   induction H with
   | nil=>exact .nil
   | cons p H ih=>exact .cons .here ih
  exact all _)
def Jn {σ:Type} (c:Cx) (fr':σ→Fr) (H':σ→List Pc) (C:σ→Prop) (a:Act) (w:World):Prop:=∃s,C s∧St c.G c.D c.w0 (H' s) w∧Ag c.n (fr' s) a
theorem Aur {c:Cx} {fr:Fr} {H:List Pc} {k:List It} {x:Code} {σ:Type} (fr':σ→Fr) (H':σ→List Pc) (C:σ→Prop) (h:T c fr H (.code (.lp (Jn c fr' H' C)::k) x)) (h2:∀s,C s→T c (fr' s) (H' s) (.norm k)):T c fr H (.code k x):=.mk fun a w s g =>
 wp_mono (h.h a w s g) fun e a' w' he=>by
  cases e with
  | normal=>obtain ⟨z,hz,hs,hg⟩:=he;exact (h2 z hz).h a' w' hs hg
  | _=>exact he
theorem Bw {c:Cx} {fr:Fr} {H:List Pc} {k:List It} {σ:Type} {fr':σ→Fr} {H':σ→List Pc} {C:σ→Prop} (s:σ) (hC:C s) (hf:L9 fr (fr' s):=by repeat (first|exact L9.nil|refine L9.cons GV ?_)) (hH:Ku H (H' s):=by repeat (first|exact Ku.nil|refine Ku.cons (by exact Df) ?_)):T c fr H (.norm (.lp (Jn c fr' H' C)::k)) :=
 .mk fun _ _ st g=>⟨s,hC,st.sub hH,g.sub hf⟩
theorem Eg {c:Cx} {fr:Fr} {H:List Pc} {k:List It} {x:Code} {σ:Type} {cst:Fr} {rest:List Pc} (ks rs:List Nat) (upd:σ→Fr) (chg:σ→List Pc) (C:σ→Prop) (h:T c fr H (.code (.lp (Jn c (fun s=>upd s++cst) (fun s=>chg s++rest) C)::k) x)) (h2:∀s,C s→T c (upd s++cst) (chg s++rest) (.norm k)) (_hk:Kf fr ks cst:=by repeat (first|exact Kf.nil|apply Kf.cons GV)) (_hr:Sel H rs rest:=by repeat constructor):T c fr H (.code k x) :=
 Aur _ _ C h h2
theorem enter {P:Program} {f:FuncId} {fn:Func} {cd:Code} {args:List Value} {A M H:List Pc} {σ:Type} {C:σ→Prop} {v:σ→Value} {N:σ→List Pc} {n:Nat} (hf:P.funcs[f]?=some fn) (hb:fn.body=some cd) (hn:fn.ntmps=n)
  (h:∀w,T ⟨P,fp M,fp A,w,n,bodyPost P fn (Aja P w A M C v N)⟩ (Ak5 0 args) H (.code [] cd))
  (hl:Nat.ble args.length n=true:=by rfl) (hmA:A.all (fun p=>!p.mu)=true:=by rfl) (hH:Ani M A H:=by repeat constructor):Fn P f args A M C v N:=by
 subst hn;exact Avb hf hb (fun w=>by rw [hH.eq];exact h w) IH hmA
theorem ret {P:Program} {fn:Func} {G D:List Nat} {w0:World} {n:Nat} {A M:List Pc} {σ:Type} {C:σ→Prop} {v:σ→Value} {N:σ→List Pc} {fr:Fr} {H:List Pc} {rs:List ResultVar} {vs:List Value} (s:σ) (hC:C s) (hv:Ss vs=v s)
  (hr:fn.results=rs.toArray:=by rfl) (h:Res P fr H rs vs:=by repeat (first|exact Res.nil|apply Res.tmp GV|apply Res.agg inferInstance GV GO GV|apply Res.one inferInstance GV GO)) (hN:Ku H (N s):=by repeat (first|exact Ku.nil|refine Ku.cons (by exact Df) ?_)) (hG:G=fp M:=by rfl) (hD:D=fp A:=by rfl):T ⟨P,G,D,w0,n,bodyPost P fn (Aja P w0 A M C v N)⟩ fr H (.fin .ret):=Bb3 s hC hr h hv hN hG hD
theorem Fn.val {P:Program} {f:FuncId} {args:List Value} {A:List Pc} {C:Unit→Prop} {v:Value} (h:Fn P f args A [] C (fun _=>v) (fun _=>[])) (w:World) (hA:O2 A w) (hm:A.all (fun p=>!p.mu)=true:=by rfl):Calls P f args.toArray w fun e w'=>e=.returned v∧Below w.heap.size w w' :=
 have hs:∀(A:List Pc),A.all (fun p=>!p.mu)=true→Sq A:=by
  intro A
  induction A with
  | nil=>intro _;trivial
  | cons p A ih =>
   intro h;simp only [List.all_cons,Bool.and_eq_true,Bool.not_eq_true'] at h;exact ⟨fun q hq hm=>by have:=List.all_eq_true.1 h.2 q hq;simp [h.1] at hm;simp [hm] at this,ih h.2⟩
 (h w JJ (by simpa using hs A hm)).mono fun e w' ⟨_,_,he,_,_,hk,_⟩=>⟨he,hk.below (Nat.le_refl _) (by simp [fp])⟩
theorem Ao2:∀(A:List Pc),A.all (fun p=>!p.mu)=true→Sq A
 | [],_=>trivial
 | p::A,h=>by
  simp only [List.all_cons,Bool.and_eq_true,Bool.not_eq_true'] at h;exact ⟨fun q hq hm=>by have:=List.all_eq_true.1 h.2 q hq;simp [h.1] at hm;simp [hm] at this,Ao2 A h.2⟩
theorem Pc.nd {p:Pc} (hm:p.mu=true) {w:World} (h:p.P w):p.F.Nodup:=by
 cases p with
 | row g t o A cs B=>simp [Pc.F]
 | ow E t v xs F=>exact h.1
 | own E v x F=>exact h.1
 | flat E cs xs F=>exact h.1
 | _=>cases hm
theorem Ap3 {w:World}:∀{N:List Pc},N.all (·.mu)=true→O2 N w→Sq N→(fp N).Nodup
 | [],_,_,_=>by simp [fp]
 | p::N,hm,hH,hs=>by
  simp only [List.all_cons,Bool.and_eq_true] at hm;refine List.nodup_append.2 ⟨Pc.nd hm.1 (hH p GL),Ap3 hm.2 (fun q hq=>hH q HG) hs.2,fun b hb b' hb' e=>?_⟩;subst e;obtain ⟨q,hq,hqb⟩:=Q0.1 hb';exact hs.1 q hq (by simp [hm.1]) b hb hqb
theorem Fn.made {P:Program} {f:FuncId} {args:List Value} {A:List Pc} {σ:Type} {C:σ→Prop} {v:σ→Value} {N:σ→List Pc} (h:Fn P f args A [] C v N) (w:World) (hA:O2 A w) (hN:∀s,(N s).all (·.mu)=true) (hm:A.all (fun p=>!p.mu)=true:=by rfl) :
  Calls P f args.toArray w fun e w'=>∃s,C s∧e=.returned (v s)∧O2 (N s) w'∧(fp (N s)).Nodup∧(∀b∈fp (N s),w.heap.size≤b)∧Below w.heap.size w w' :=
 (h w JJ (by simpa using Ao2 A hm)).mono fun e w' ⟨s,hC,he,hH,hS,hk,hF⟩=>⟨s,hC,he,hH,Ap3 (hN s) hH hS,(fun b hb=>by
  obtain ⟨p,hp,hpb⟩:=Q0.1 hb;rcases hF p hp b hpb with h|⟨q,hq,_⟩|⟨h,_⟩
  ·exact h
  ·simp at hq
  ·have:=List.all_eq_true.1 (hN s) p hp;rw [h] at this;cases this),hk.below (Nat.le_refl _) (by simp [fp])⟩
theorem Fn.read {P:Program} {f:FuncId} {args:List Value} {A:List Pc} {σ:Type} {C:σ→Prop} {v:σ→Value} {N:σ→List Pc} (h:Fn P f args A [] C v N) (w:World) (hA:O2 A w) (hm:A.all (fun p=>!p.mu)=true:=by rfl) :
  Calls P f args.toArray w fun e w'=>∃s,C s∧e=.returned (v s)∧O2 (N s) w'∧Below w.heap.size w w' :=
 (h w JJ (by simpa using Ao2 A hm)).mono fun e w' ⟨s,hC,he,hH,hS,hk,hF⟩=>⟨s,hC,he,hH,hk.below (Nat.le_refl _) (by simp [fp])⟩
theorem Uv {p q:Pc} {w:World} (h:p.P w) (h2:q.P w):O2 [p,q] w:=fun r hr=>by
 simp only [List.mem_cons,List.not_mem_nil,or_false] at hr;rcases hr with rfl|rfl <;> assumption
structure Kp (X:Prop):Prop where
 h:X
section
variable {c:Cx} {fr:Fr} {H:List Pc} {d:Nat} {ty:TypeId} {v:Value} {x:Operand} {Φ:Gl}
theorem Aom {Y:Nat→Prop} {t:TypeId} {l:List Value} (hd:Nat.blt d c.n=true) (hx:ev fr x=some v) (hv:v.cells=l.toArray) (hX:Kp (∀g,Y g)) (h:∀g,Kp (Y g)→T c ((d,Hm g 0 0)::fr) (.row g t 0 [] l []::H) Φ):On c fr H (some d) (.box t x) ty Φ:=Bea hd hx hv fun g=>h g ⟨hX.h g⟩
theorem Afm {Y:Nat→Prop} {t:TypeId} {zs:List Value} [ZC c.P t zs] (hd:Nat.blt d c.n=true) (hX:Kp (∀g,Y g)) (h:∀g,Kp (Y g)→T c ((d,Hm g 0 0)::fr) (.row g t 0 [] zs []::H) Φ):On c fr H (some d) (.alloc t) ty Φ:=Co hd fun g=>h g ⟨hX.h g⟩
theorem Awb {Y:Nat→Prop} {t e m:Nat} [SlC c.P t e m] (hd:Nat.blt d c.n=true) (hX:Kp (∀g,Y g)) (h:∀g,Kp (Y g)→T c ((d,.slice (some ⟨g,0,none⟩) 0 0)::fr) (.row g e 0 [] [] []::H) Φ):On c fr H (some d) (.buildSlice t 0 #[]) ty Φ:=Lr hd fun g=>h g ⟨hX.h g⟩
theorem Bba {Y:Nat→Prop} {t e m b len:Nat} {z:Value} {zs cs q:List Value} {ps:List (Nat × Operand)} [SlC c.P t e m] [ElT c.P e z m b] [ZC c.P e zs] (hd:Nat.blt d c.n=true) (hlen:Nat.blt 0 len=true) (hm:Nat.blt 0 m=true) (hl:Nat.ble (len * m) 1000=true) (hc:Rpt zs len cs) (hf:Fil (fun i=>some (i * m,m)) fr cs ps q) (hX:Kp (∀g,Y g)) (h:∀g,Kp (Y g)→T c ((d,.slice (some ⟨g,0,none⟩) len len)::fr) (.row g e 0 [] q []::H) Φ) :
  On c fr H (some d) (.buildSlice t len ps.toArray) ty Φ:=Km hd hlen hm hl hc hf fun g=>h g ⟨hX.h g⟩
end
theorem go {X:Prop} {c:Cx} {fr:Fr} {H:List Pc} {Φ:Gl} (h:X) (hs:Kp X→T c fr H Φ:=by intro hX;(repeat (first|apply Sx|apply Apv|(apply wO;apply oc;rfl;exact ydE)|apply Aav|apply Adm|(apply Aph;rfl;rfl)|(apply Apg;rfl;rfl;rfl;rfl)|(apply Api;rfl;rfl;rfl)|(apply c_t;rfl)|(apply c_f;rfl)|apply V9|apply Sw|apply Afk|apply Anq|apply Au0|apply Bby|apply Bbz|(apply Anz;rfl)|apply Aut|(apply wO;apply Aom;rfl;rfl;rfl;exact hX;clear hX;intro _ hX)|(apply wO;apply Afm;rfl;exact hX;clear hX;intro _ hX)|(apply wO;apply Awd;rfl;rfl;rfl;(first|exact AggC.s|exact OneC.s);rfl;exact Aj4;exact Azy;rfl)|(apply wO;apply Awb;rfl;exact hX;clear hX;intro _ hX)|(apply wO;apply Bba;rfl;rfl;rfl;rfl;exact Ke;exact Jy;exact hX;clear hX;intro _ hX)|(apply wO;apply Afn;rfl;kernel_rfl;exact Tw)));exact hX.h):T c fr H Φ:=hs ⟨h⟩
theorem M7 {X:Prop} {c:Cx} {fr:Fr} {H:List Pc} {Φ:Gl} (h:X) (hs:Kp X→T c fr H Φ:=by intro hX;(repeat (first|apply Sx|apply Apv|(apply wO;apply oc;rfl;exact ydE)|apply Aav|apply Adm|(apply Aph;rfl;rfl)|(apply Apg;rfl;rfl;rfl;rfl)|(apply Api;rfl;rfl;rfl)|(apply c_t;rfl)|(apply c_f;rfl)|apply V9|apply Sw|apply Afk|apply Anq|apply Au0|apply Bby|apply Bbz|(apply Anz;rfl)|apply Aut|(apply wO;apply Aom;rfl;rfl;rfl;exact hX;clear hX;intro _ hX)|(apply wO;apply Afm;rfl;exact hX;clear hX;intro _ hX)|(apply wO;apply Awd;rfl;rfl;rfl;(first|exact AggC.s|exact OneC.s);rfl;exact Aj4;exact Azy;rfl)|(apply wO;apply Awb;rfl;exact hX;clear hX;intro _ hX)|(apply wO;apply Bba;rfl;rfl;rfl;rfl;exact Ke;exact Jy;exact hX;clear hX;intro _ hX)));exact hX.h):T c fr H Φ:=hs ⟨h⟩
section
variable {c:Cx} {fr:Fr} {H:List Pc} {k:List It} {Φ:Gl} {ops:Array Oper} {rest:List Oper} {d:Nat} {o:Op} {ty:TypeId} {pos:String} {Ce:Array Edge} {v u:Value} {x y:Operand} {H0:List Pc} {X:List Nat} {f:Nat} {listed:Array Bool}
theorem oC {f:Nat} {aS:List Operand} {ts:Array TypeId} {vs:List Value} (h:Cl c fr H d f vs Φ) (hd:Nat.blt d c.n=true:=by rfl) (hb:Qi c.P f=true:=by kernel_rfl) (ha:Evs fr aS vs:=by exact Tw):On c fr H (some d) (.call { callee:=.value (.func f),args:=aS.toArray,argTypes:=ts }) ty Φ:=Afn hd hb ha h
theorem oS {t g tt o' j m:Nat} {A cs B l r:List Value} {S:List Pc} (h:T c fr S Φ) (hx:ev fr x=some (Hm g o' j):=by rfl) (hy:ev fr y=some v:=by rfl) (hv:v.cells=l.toArray:=by rfl) (hs:(c.P.info? t).map (·.size)=some m:=by first|exact AggC.s|exact OneC.s) (hl:l.length=m:=by rfl) (hr:Rpl H (.row g tt o' A cs B) (.row g tt o' A r B) S:=by exact Aj4) (hp:Put cs j l r:=by exact Azy) (h1:l.all (·.oneCell')=true:=by rfl):On c fr H none (.store t x y) ty Φ:=Awd hx hy hv hs hl hr hp h1 h
theorem dN (i:Nat) {od:Option Tmp} (h:On c fr H od o ty (.dk i k H0 X ops f (listed.setIfInBounds i true))) (hr:Region.ready .any ops listed=[i]:=by kernel_rfl) (ho:ops[i]?=some ⟨od,o,ty,pos,Ce,none⟩:=by rw [List.getElem?_toArray];rfl):T c fr H (.dx k H0 X ops (f+1) listed):=dO i hr ho h
theorem dM (i j:Nat) {od od2:Option Tmp} {o2:Op} {ty2:TypeId} {pos2:String} {aft2:Array Edge} (h:On c fr H od o ty (.dk i k H0 X ops f (listed.setIfInBounds i true))) (h':On c fr H od2 o2 ty2 (.dk j k H0 X ops f (listed.setIfInBounds j true))) (hr:Region.ready .any ops listed=[i,j]:=by kernel_rfl) (ho:ops[i]?=some ⟨od,o,ty,pos,Ce,none⟩:=by rw [List.getElem?_toArray];rfl) (ho2:ops[j]?=some ⟨od2,o2,ty2,pos2,aft2,none⟩:=by rw [List.getElem?_toArray];rfl):T c fr H (.dx k H0 X ops (f+1) listed):=dO2 i j hr ho ho2 h h'
theorem Dy (i0 i1:Nat) {d0:Nat} {o0:Op} {t0:TypeId} {p0:String} {a0:Array Edge} {v0:Value} {d1:Nat} {o1:Op} {t1:TypeId} {p1:String} {a1:Array Edge} {v1:Value} (h:T c ((d1,v1)::((d0,v0)::fr)) H (.dx k H0 X ops f ((listed.setIfInBounds i0 true).setIfInBounds i1 true))) (hs:M6 H0 H:=by repeat (first|exact M6.nil|refine M6.cons GO ?_)) (h1:Region.noSelect ops=true:=by kernel_rfl) (hR:Vz c:=by exact Ya) (ho0:ops[i0]?=some ⟨some d0,o0,t0,p0,a0,none⟩:=by rw [List.getElem?_toArray];rfl) (hy0:Yd c.P c.n fr H0 o0 t0 v0:=by exact ydE) (w0:Region.free .any ops listed i0=true:=by kernel_rfl) (x0:(Region.ready .any ops listed).contains i0=true:=by kernel_rfl) (y0:Lj .any ops (fun i=>X.contains i) i0=true:=by kernel_rfl) (z0:Mh .any ops listed=true:=by kernel_rfl) (e0:Nat.blt d0 c.n=true:=by rfl) (ho1:ops[i1]?=some ⟨some d1,o1,t1,p1,a1,none⟩:=by rw [List.getElem?_toArray];rfl) (hy1:Yd c.P c.n ((d0,v0)::fr) H0 o1 t1 v1:=by exact ydE) (w1:Region.free .any ops (listed.setIfInBounds i0 true) i1=true:=by kernel_rfl) (x1:(Region.ready .any ops (listed.setIfInBounds i0 true)).contains i1=true:=by kernel_rfl) (y1:Lj .any ops (fun i=>X.contains i) i1=true:=by kernel_rfl) (z1:Mh .any ops (listed.setIfInBounds i0 true)=true:=by kernel_rfl) (e1:Nat.blt d1 c.n=true:=by rfl):T c fr H (.dx k H0 X ops (f+1+1) listed):=dt i0 (dt i1 h ho1 hy1 hs h1 w1 x1 y1 z1 hR e1) ho0 hy0 hs h1 w0 x0 y0 z0 hR e0
theorem Dk (i0 i1 i2 i3:Nat) {d0:Nat} {o0:Op} {t0:TypeId} {p0:String} {a0:Array Edge} {v0:Value} {d1:Nat} {o1:Op} {t1:TypeId} {p1:String} {a1:Array Edge} {v1:Value} {d2:Nat} {o2:Op} {t2:TypeId} {p2:String} {a2:Array Edge} {v2:Value} {d3:Nat} {o3:Op} {t3:TypeId} {p3:String} {a3:Array Edge} {v3:Value} (h:T c ((d3,v3)::((d2,v2)::((d1,v1)::((d0,v0)::fr)))) H (.dx k H0 X ops f ((((listed.setIfInBounds i0 true).setIfInBounds i1 true).setIfInBounds i2 true).setIfInBounds i3 true))) (hs:M6 H0 H:=by repeat (first|exact M6.nil|refine M6.cons GO ?_)) (h1:Region.noSelect ops=true:=by kernel_rfl) (hR:Vz c:=by exact Ya) (ho0:ops[i0]?=some ⟨some d0,o0,t0,p0,a0,none⟩:=by rw [List.getElem?_toArray];rfl) (hy0:Yd c.P c.n fr H0 o0 t0 v0:=by exact ydE) (w0:Region.free .any ops listed i0=true:=by kernel_rfl) (x0:(Region.ready .any ops listed).contains i0=true:=by kernel_rfl) (y0:Lj .any ops (fun i=>X.contains i) i0=true:=by kernel_rfl) (z0:Mh .any ops listed=true:=by kernel_rfl) (e0:Nat.blt d0 c.n=true:=by rfl) (ho1:ops[i1]?=some ⟨some d1,o1,t1,p1,a1,none⟩:=by rw [List.getElem?_toArray];rfl) (hy1:Yd c.P c.n ((d0,v0)::fr) H0 o1 t1 v1:=by exact ydE) (w1:Region.free .any ops (listed.setIfInBounds i0 true) i1=true:=by kernel_rfl) (x1:(Region.ready .any ops (listed.setIfInBounds i0 true)).contains i1=true:=by kernel_rfl) (y1:Lj .any ops (fun i=>X.contains i) i1=true:=by kernel_rfl) (z1:Mh .any ops (listed.setIfInBounds i0 true)=true:=by kernel_rfl) (e1:Nat.blt d1 c.n=true:=by rfl) (ho2:ops[i2]?=some ⟨some d2,o2,t2,p2,a2,none⟩:=by rw [List.getElem?_toArray];rfl) (hy2:Yd c.P c.n ((d1,v1)::((d0,v0)::fr)) H0 o2 t2 v2:=by exact ydE) (w2:Region.free .any ops ((listed.setIfInBounds i0 true).setIfInBounds i1 true) i2=true:=by kernel_rfl) (x2:(Region.ready .any ops ((listed.setIfInBounds i0 true).setIfInBounds i1 true)).contains i2=true:=by kernel_rfl) (y2:Lj .any ops (fun i=>X.contains i) i2=true:=by kernel_rfl) (z2:Mh .any ops ((listed.setIfInBounds i0 true).setIfInBounds i1 true)=true:=by kernel_rfl) (e2:Nat.blt d2 c.n=true:=by rfl) (ho3:ops[i3]?=some ⟨some d3,o3,t3,p3,a3,none⟩:=by rw [List.getElem?_toArray];rfl) (hy3:Yd c.P c.n ((d2,v2)::((d1,v1)::((d0,v0)::fr))) H0 o3 t3 v3:=by exact ydE) (w3:Region.free .any ops (((listed.setIfInBounds i0 true).setIfInBounds i1 true).setIfInBounds i2 true) i3=true:=by kernel_rfl) (x3:(Region.ready .any ops (((listed.setIfInBounds i0 true).setIfInBounds i1 true).setIfInBounds i2 true)).contains i3=true:=by kernel_rfl) (y3:Lj .any ops (fun i=>X.contains i) i3=true:=by kernel_rfl) (z3:Mh .any ops (((listed.setIfInBounds i0 true).setIfInBounds i1 true).setIfInBounds i2 true)=true:=by kernel_rfl) (e3:Nat.blt d3 c.n=true:=by rfl):T c fr H (.dx k H0 X ops (f+1+1+1+1) listed):=dt i0 (dt i1 (dt i2 (dt i3 h ho3 hy3 hs h1 w3 x3 y3 z3 hR e3) ho2 hy2 hs h1 w2 x2 y2 z2 hR e2) ho1 hy1 hs h1 w1 x1 y1 z1 hR e1) ho0 hy0 hs h1 w0 x0 y0 z0 hR e0
end
section
variable {c:Cx} {fr:Fr} {H:List Pc} {Φ:Gl}
theorem Cp {v:Value} {x:An} {F:List Nat} (h:∀(a1:Option Addr) (c1:Nat) (F1:List Nat),v=.agg #[.int .i64 x.next,.slice a1 x.Ap.length c1]→x.Ap.length≤maxLen→T c fr (.sl Cm (.slice a1 x.Ap.length c1) x.Ap F1::H) Φ) (hm:.isv Bv v x F∈H:=by exact Bp):T c fr H Φ:=.mk fun a w s g=>by
 obtain ⟨cs,rfl,v1,rfl,h1⟩:=s.get hm;obtain ⟨a1,c1,rfl⟩:=h1.slice;have l1:=h1.len;have t1:=s.ro (p:=.sl Cm (.slice a1 x.Ap.length c1) x.Ap F) hm rfl rfl ⟨GM,h1⟩ fun b hb=>hb;exact GI
theorem Ci (x:An) {a1:Option Addr} {c1:Nat} {F1:List Nat}  (h:T c fr (.isv Bv (.agg #[.int .i64 x.next,.slice a1 x.Ap.length c1]) x (F1)::H) Φ) (m1:.sl Cm (.slice a1 x.Ap.length c1) x.Ap F1∈H:=by exact Bp):T c fr H Φ:=.mk fun a w s g=>by
 have hP:N0 Bv w (.agg #[.int .i64 x.next,.slice a1 x.Ap.length c1]) x (F1):=⟨_,rfl,_,rfl,(s.get m1).2⟩;refine h.h a w (s.add (N:=[.isv Bv (.agg #[.int .i64 x.next,.slice a1 x.Ap.length c1]) x (F1)]) (Below.refl _ _) HP ⟨GL,trivial⟩ fun q hq b hb=>?_) g;exact BY
end
section
variable {c:Cx} {fr:Fr} {H:List Pc} {Φ:Gl}
theorem Awi {v:Value} {x:Hv} {F:List Nat} (h:∀(_:Unit),v=.agg #[.bool x.Vv,.string x.De]→x.De.size≤maxLen→T c fr (H) Φ) (hm:.isv Cm v x F∈H:=by exact Bp):T c fr H Φ:=.mk fun a w s g=>by
 obtain ⟨cs,rfl,rfl,s1,rfl⟩:=s.get hm;exact (h () rfl s1 ).h a w s g
theorem O5 {a:Option Addr} {n cp:Nat} {xs:List Hv} {F:List Nat} (i:Nat) (h:∀(hi:i < xs.length) (b o:Nat),a=some ⟨b,o,none⟩→xs[i].De.size≤maxLen→T c fr (.cel b (o+i * 2) [.bool xs[i].Vv,.string xs[i].De]::H) Φ) (hm:.sl Cm (.slice a n cp) xs F∈H:=by exact Bp) (hi:i < xs.length:=by omega):T c fr H Φ:=.mk fun ac w s g=>by
 exact CP
theorem Ajp {t:TypeId} {a:Option Addr} {n cp:Nat} {xs:List Hv} {F:List Nat} {S:List Pc} (i:Nat) (h:∀(_:i < xs.length) g A B,a=some ⟨g,0,none⟩→F=[g]→xs[i].De.size≤maxLen→At4 Cm t g (.slice (some ⟨g,0,none⟩) n cp) xs i A B→T c fr (.row g t (0+i * 2) A [.bool xs[i].Vv,.string xs[i].De] B::S) Φ) (hp:Cz H (.ow Cm t (.slice a n cp) xs F) S:=by exact Df) (hi:i < xs.length:=by omega):T c fr H Φ :=
 R5 Ht i (fun hi g A cs B ha hF hr hh=>by obtain ⟨rfl,s1, -⟩:=hr default;exact h hi g A B ha hF s1 hh) hp rfl hi
end
theorem Bb {x:Int}:B9 x=true↔0≤x∧x≤65535:=by unfold B9 Eu;simp
def Ce (x n:Int):Int:=(x+n) % 65536
def gp (a b:Int):Int:=(b - a) % 65536
def Sp (a b:Int):Bool:=Eu 1 (gp a b) 32767
theorem Ky (a b:Int):0≤gp a b∧gp a b≤65535:=by unfold gp;omega
theorem Je (a b:Int):0≤Ce a b∧Ce a b≤65535:=by unfold Ce;omega
theorem Un (a b:Int):B9 (Ce a b)=true:=Bb.2 (Je a b)
theorem Ape (z:Int):((z.tmod 65536)+65536).tmod 65536=z % 65536:=by
 rw [Int.tmod_eq_emod (a:=z.tmod 65536+65536),Int.tmod_eq_emod]
 split <;> split <;> omega
theorem Ban (z:Int):-65535≤z.tmod 65536∧z.tmod 65536≤65535:=by
 rw [Int.tmod_eq_emod]
 split <;> omega
theorem Q5 (x n:Int) (w:World) (h0:-4611686018427387904≤x+n) (h1:x+n≤4611686018427387904) :
  Calls prog 174 #[.int .i64 x,.int .i64 n] w fun e w'=>e=.returned (.int .i64 (Ce x n))∧w=w':=by
 have hb:=Ban (x+n);have hb1:=hb.1;have hb2:=hb.2;clear hb;by_cases hz:0≤x+n
 ·go_enter func174,ntmps174
  go_wp2
  go_ret
  exact ⟨I2 (by unfold Ce;omega),rfl⟩
 ·have ht:=Ape (x+n);have ht:=Lib.hid ht
  go_enter func174,ntmps174
  go_wp2
  go_ret
  refine ⟨I2 ?_,rfl⟩;have:=ht.out;rw [Int.tmod_eq_emod (a:=(x+n).tmod 65536+65536)] at this;unfold Ce
  split at this <;> omega
theorem Om (a b:Int) (w:World) (h0:-4611686018427387904≤b - a) (h1:b - a≤4611686018427387904) (ha:-4611686018427387904≤a) (ha':a≤4611686018427387904) :
  Calls prog 151 #[.int .i64 a,.int .i64 b] w fun e w'=>e=.returned (.int .i64 (gp a b))∧w=w':=by
 go_enter func151,ntmps151
 go_wp2_with fail;refine (Q5 b (-a) _ GJ GJ).mono ?_;rintro e w' ⟨rfl,rfl⟩;go_wp2_with fail
 go_ret
 exact ⟨I2 (by unfold Ce gp;omega),rfl⟩
theorem Nb (a b:Int) (w:World) (h0:-4611686018427387904≤b - a) (h1:b - a≤4611686018427387904) (ha:-4611686018427387904≤a) (ha':a≤4611686018427387904) :
  Calls prog 276 #[.int .i64 a,.int .i64 b] w fun e w'=>e=.returned (.bool (Sp a b))∧w=w':=by
 go_enter func276,ntmps276
 go_wp2_with fail;refine (Om a b _ h0 h1 ha ha').mono ?_;rintro e w' ⟨rfl,rfl⟩;go_wp2_with fail;refine (Hk _ _ _ _).mono ?_;rintro e w' ⟨rfl,rfl⟩;go_wp2_with fail
 go_ret
 exact EM
theorem Ks (x n:Int) (w:World) (h0:-131072≤x+n) (h1:x+n≤4611686018427387904) :
  Calls prog 135 #[.int .i64 x,.int .i64 n] w fun e w'=>e=.returned (.int .i64 (Ce x n))∧w=w':=by
 have h2:0≤x+n+131072:=by omega
 go_enter func135,ntmps135
 go_wp2
 go_ret
 exact ⟨I2 (by unfold Ce;omega),rfl⟩
theorem I1 (a b:Int) (w:World) (h0:-65536≤b - a) (h1:b - a≤4611686018427387904) :
  Calls prog 130 #[.int .i64 a,.int .i64 b] w fun e w'=>e=.returned (.int .i64 (gp a b))∧w=w':=by
 have h2:0≤b - a+65536:=by omega
 go_enter func130,ntmps130
 go_wp2
 go_ret
 exact ⟨I2 (by unfold gp;omega),rfl⟩
theorem Px (a b:Int) (w:World) (h0:-65536≤b - a) (h1:b - a≤4611686018427387904) :
  Calls prog 251 #[.int .i64 a,.int .i64 b] w fun e w'=>e=.returned (.bool (Sp a b))∧w=w':=by
 go_enter func251,ntmps251
 go_wp2_with fail;refine (I1 a b _ h0 h1).mono ?_;rintro e w' ⟨rfl,rfl⟩;go_wp2_with fail;refine (Iq _ _ _ _).mono ?_;rintro e w' ⟨rfl,rfl⟩;go_wp2_with fail
 go_ret
 exact EM
end Go.Proofs.YtkagnmekdkchiaaGreatDoor
namespace Go.Proofs.YtkagnmekdkchiaaGreatDoor
open Go.RowKit Go.Shelf
def low (b:UInt8):Bool:=Eu 97 b.toNat 122
def Y4 (l:List UInt8):Bool:=l.all low
def P9 (s:ByteArray):Bool:=decide ((s.size:Int)≤8) && Y4 s.data.toList
def abc:List UInt8:=[97,98,99,100,101,102,103,104,105,106,107,108,109,110,111,112,113,114,115,116,117,118,119,120,121,122]
theorem Ayr (b:UInt8):abc.contains b=low b:=by
 have h:∀n:Fin 256,abc.contains (UInt8.ofNat n.val)=low (UInt8.ofNat n.val):=by decide +kernel
 have:=h ⟨b.toNat,b.toNat_lt⟩;exact GF
theorem dropWhile_nil {α:Type} (p:α→Bool) (l:List α):l.dropWhile p=[]↔l.all p=true:=by
 induction l with
 | nil=>simp
 | cons x r ih=>rw [List.dropWhile_cons];cases h:p x <;> simp [h,ih]
theorem Agv {α:Type} (p:α→Bool) (l:List α):(l.dropWhile p).all p=l.all p:=by
 induction l with
 | nil=>simp
 | cons x r ih=>rw [List.dropWhile_cons];cases h:p x <;> simp [h,ih]
theorem Atq (l cs:List UInt8):(Lib.trimS l cs=[])↔l.all (cs.contains ·)=true:=by
 unfold Lib.trimS Lib.trimLeftS Lib.trimRightS;rw [dropWhile_nil,List.all_reverse,Agv,List.all_reverse]
theorem Axw (l:List UInt8):(Lib.trimS l abc == [])=Y4 l:=by
 rw [Bool.eq_iff_iff,beq_iff_eq,Atq];unfold Y4;rw [show (fun b=>abc.contains b)=low from funext Ayr]
theorem Z4 (s:ByteArray) (w:World) (hs:s.size≤maxLen) :
  Calls prog 108 #[.string s] w fun e w'=>e=.returned (.bool (P9 s))∧Below w.heap.size w w':=by
 unfold maxLen at hs;have hc:=fun w=>Any.strings_Trim_laid Tryz.lays160 GK s ⟨abc.toArray⟩ w hs GM (ascii_of_all GM);change ∀w,Calls prog 159 #[.string s,.string ⟨abc.toArray⟩] w (fun e w'=>e=.returned (.string ⟨(Lib.trimS s.data.toList abc).toArray⟩)∧Below w.heap.size w w') at hc;have ht:=Axw s.data.toList;replace hc:=Lib.hid hc;by_cases h8:s.size≤8
 ·generalize Lib.trimS s.data.toList abc=t at *;have hi:P9 s=(t == []):=by unfold P9;rw [ht,decide_eq_true GJ];rfl
  replace hi:=Lib.hid hi;clear ht;cases t with
  | nil =>
   go_enter func108,ntmps108
   go_wp2_with fail;refine (hc.out _).mono ?_;rintro e w1 ⟨rfl,hb⟩;go_wp2_with fail
   go_ret
   exact ⟨B8 hi.out.symm,hb⟩
  | cons a r =>
   go_enter func108,ntmps108
   go_wp2_with fail;refine (hc.out _).mono ?_;rintro e w1 ⟨rfl,hb⟩;go_wp2_with fail
   go_ret
   exact ⟨B8 hi.out.symm,hb⟩
 ·have hi:P9 s=false:=by unfold P9;rw [decide_eq_false GJ];rfl
  replace hi:=Lib.hid hi
  go_enter func108,ntmps108
  go_wp2_with fail
  go_ret
  exact ⟨B8 hi.out.symm,Below.refl _ _⟩
theorem Ast (s:ByteArray) (k:Nat) (h:k < s.size):Y4 (s.data.toList.drop k)=(low s[k] && Y4 (s.data.toList.drop (k+1))):=by rw [Adw s k h];rfl
theorem Qn (s:ByteArray) (n:Int) (w:World) (hs:s.size≤maxLen) :
  Calls prog 136 #[.string s,.int .i64 n] w fun e w'=>e=.returned (.bool (decide ((s.size:Int)≤n) && Y4 s.data.toList))∧w=w':=by
 unfold maxLen at hs
 go_enter func136,ntmps136
 go_wp2
 go_loop [5] (fun i=>∃k:Nat,k≤s.size∧i=.int .i64 k∧Hid (Y4 s.data.toList=Y4 (s.data.toList.drop k))) (fun i=>s.size - (intOf i).toNat)
 case atStart=>exact ⟨0,Nat.zero_le _,rfl,rfl⟩
 case round =>
  obtain ⟨k,hk,rfl,hz⟩:=hrel;by_cases hlt:k < s.size
  ·have hz:=Lib.hid (hz.out.trans (Ast s k hlt));have hb:(s[k].toNat:Int)≤255:=by have:=s[k].toNat_lt;omega
   cases hl:low s[k]
   ·have hl1:low s[k]=false:=hl;unfold low Eu at hl;by_cases h1:(s[k].toNat:Int) < 97
    ·clear hl
     go_wp2
     go_ret
     exact ⟨B8 (by rw [hz.out,hl1];simp),rfl⟩
    ·have h2:(122:Int) < s[k].toNat:=by simp at hl;omega
     clear hl
     go_wp2
     go_ret
     exact ⟨B8 (by rw [hz.out,hl1];simp),rfl⟩
   ·have hl1:low s[k]=true:=hl;unfold low Eu at hl;simp only [Bool.and_eq_true,decide_eq_true_eq] at hl;have h1:¬(s[k].toNat:Int) < 97:=by omega
    have h2:¬(122:Int) < s[k].toNat:=by omega
    clear hl;replace hl1:=Lib.hid hl1
    go_wp2
    go_round
    case rel=>exact ⟨k+1,GJ,HZ,by refine Lib.hid ?_;rw [hz.out,hl1.out];rfl⟩
    case measure=>simp [intOf];omega
  ·go_wp2
   go_ret
   exact ⟨B8 (by rw [hz.out,Zu s k hlt];simp [Y4]),rfl⟩
end Go.Proofs.YtkagnmekdkchiaaGreatDoor
namespace Go.Proofs.YtkagnmekdkchiaaGreatDoor
open Go.RowKit
theorem Aef (fid:FuncId) (hbd:Xv prog fid) (caps:Array Value) (v:Value) (xs:List Hv) (F:List Nat) (p:Hv→Bool) (w:World) (h:Sl Cm w v xs F)
  (hp:∀(k:Nat) (hk:k < xs.length) (wr:World) (u:Value) (G:List Nat),Below w.heap.size w wr→N0 Cm wr u xs[k] G→Calls prog fid (#[u]++caps) wr fun e w'=>e=.returned (.bool (p xs[k]))∧Below wr.heap.size wr w') :
  Calls prog 337 #[v,.func (.func fid) #[] caps] w fun e w'=>e=.returned (.int .i64 (Qy p xs))∧Below w.heap.size w w':=by
 obtain ⟨a,cap,rfl⟩:=h.slice;have hl:=h.len;unfold maxLen at hl
 go_enter func337,ntmps337
 go_wp2
 go_loopw [5,8] (fun _ i wr=>∃k:Nat,k≤xs.length∧i=.int .i64 k∧Hid (∀j,j < k→∀hj:j < xs.length,p xs[j]=false)∧Below w.heap.size w wr) (fun _ i _=>xs.length - (intOf i).toNat)
 case atStart=>exact ⟨0,Nat.zero_le _,rfl,fun j hj=>by omega,Below.refl _ _⟩
 case round =>
  obtain ⟨k,hk,rfl,hz,hB⟩:=hrel;by_cases hlt:k < xs.length
  ·have hz0:=hz;clear hz;obtain ⟨b,off,_,F1,rfl,hx, -,ja⟩:=(h.below GM hB).at k hlt;obtain ⟨rfl,s1,rfl⟩:=id hx;have a0:=ja 0 GM;have a1:=ja 1 GM;simp only [show Cm.sz=2 from rfl,Nat.mul_one,Nat.add_zero,List.getElem?_cons_zero,List.getElem?_cons_succ] at a0 a1;clear ja;have hr:=hp k hlt wr _ _ hB ⟨_,rfl,hx⟩;have hp:=Lib.hid hp;cases hpk:p xs[k]
   all_goals
    rw [hpk] at hr;have hpk:=Lib.hid hpk;have hr:=Lib.hid hr;go_wp2_with fail;refine hbd.upon hr.out ?_;rintro e w1 ⟨rfl,hb1⟩;refine ⟨_,rfl,?_⟩;have hB:=tr hB hb1 (Nat.le_refl _);clear hb1;go_wp2_with fail
   ·exact AS
   ·go_ret
    exact FO
  ·go_wp2
   go_ret
   exact DN
theorem Zj (fid:FuncId) (hbd:Xv prog fid) (caps:Array Value) (v:Value) (xs:List Hv) (F:List Nat) (p:Hv→Bool) (w:World) (h:Sl Cm w v xs F)
  (hp:∀(k:Nat) (hk:k < xs.length) (wr:World) (u:Value) (G:List Nat),Below w.heap.size w wr→N0 Cm wr u xs[k] G→Calls prog fid (#[u]++caps) wr fun e w'=>e=.returned (.bool (p xs[k]))∧Below wr.heap.size wr w') :
  Calls prog 298 #[v,.func (.func fid) #[] caps] w fun e w'=>e=.returned (.bool (xs.any p))∧Below w.heap.size w w':=by
 have hp:=Lib.hid hp
 go_enter func298,ntmps298
 go_wp2_with fail;refine (Aef fid hbd caps v xs F p _ h hp.out).mono ?_;rintro e w1 ⟨rfl,hb1⟩;go_wp2_with fail
 go_ret
 exact ⟨B8 (Rz p xs),hb1⟩
theorem Yg (v:Value) (xs:List Hv) (F:List Nat) (w:World) (h:Sl Cm w v xs F) (hm:xs.length≤4294967296) :
  Calls prog 155 #[v] w (Ul Cm 196 xs w):=by
 obtain ⟨ao,c,news,Fy,rfl,hl,hfy,hFy,hsrc⟩:=h.src;have hFl:=hfy.lt;have he:=fun w (a:Option Addr) (n c:Nat)=>Lib.run_eql_slice_nil (P:=prog) w 112 _ a n c 0 0 underlying112
 go_enter func155,ntmps155
 rcases hsrc with ⟨rfl,rfl,rfl⟩|⟨ad,rfl,hn⟩
 ·go_wp2
  go_ret
  exact CB
 ·go_wp2_with (at_builtin;refine Mn Id GM GV _ _ _ GV 196 (.agg #[.bool false,.string ⟨#[]⟩]) 24 underlying112 Arx rfl (.slice (some ⟨w.heap.size,0,none⟩) 0 0) [] [w.heap.size] GV (Ow.empty (Ha.made _ _ _)) (Hd.one _) (some ad) xs c GV news Fy (hfy.frame fun b hb=>Below.heap_alloc _ _ _ (hFl b hb)) (.inr ⟨ad,rfl,fun j u hu=>kc ((Below.refl _ _).alloc (Nat.le_refl _) _) (hn j u hu)⟩) (fun b hb e=>by have:=hFl b hb;simp [Value.ownBlock] at e;omega) IH IA ?_);intro v2 w2 F2 hA;go_wp2_with fail
  go_ret
  have hB:Below w.heap.size w w2:=((Below.refl _ _).alloc (Nat.le_refl _) _).trans (hA.H8.below GL GL);have hs:∀b,v2.ownBlock=some b→w.heap.size≤b:=fun b hb=>by rcases hA.Ao1 with e|e <;> rw [e] at hb <;> simp [Value.ownBlock] at hb <;> omega
  refine ⟨v2,F2,rfl,JF,hA.ow.scal Ht▸?_,fun b hb=>?_,hB⟩
  ·cases v2.ownBlock <;> simp
  ·rw [hA.ow.scal Ht] at hb;exact hs b KB
def Gs (s:Hv):Bool:=P9 s.De && (s.Vv || decide (s.De=⟨#[]⟩))
def I6 (l:List Hv) (k:Nat):Bool:=match l[k]? with|some s=>s.Vv|none=>false
def Vt (l:List Hv):Bool:=decide (l.length=0) || (!I6 l 0 && I6 l (l.length - 1))
def Cs (x:An):Bool:=B9 x.next && decide ((x.Ap.length:Int)≤8) && x.Ap.all Gs && Vt x.Ap
theorem Kz {l:List Hv} {k:Nat} (h:k < l.length):I6 l k=l[k].Vv:=by unfold I6;rw [List.getElem?_eq_getElem h]
theorem Qm {l:List Hv} {k:Nat} (h:l.length≤k):I6 l k=false:=by unfold I6;rw [List.getElem?_eq_none h]
def Ie (x:An) (k:Int):Bool:=I6 x.Ap (gp x.next k).toNat
theorem Zn (x:An) (k:Int) (v:Value) (F:List Nat) (h0:0≤x.next) (h1:x.next≤65535) (h2:0≤k) (h3:k≤65535) :
  Fn prog 240 [v,.int .i64 k] [.isv Bv v x F] [] (fun (_:Unit)=>True) (fun _=>.bool (Ie x k)) (fun _=>[]):=by
 refine enter func240 rfl ntmps240 fun w0=>?_;refine Cp ?_;rintro a1 c1 F1 rfl l1;unfold maxLen at l1;have hg:=Ky x.next k;refine go ?_;intros;refine ce (fun w s=>Om _ _ _ GJ GJ GJ GJ) ?_;refine go ?_;intros;refine Dj rfl rfl (fun h=>?_) (fun h=>?_)
 ·refine O5 (gp x.next k).toNat ?_;rintro hi b o rfl s1;refine go ?_;intros;refine ret () trivial ?_;unfold Ie;rw [Kz hi];rfl
 ·refine go ?_;intros;refine ret () trivial ?_;unfold Ie;rw [Qm GJ];rfl
theorem Bbo (x:Hv) (v:Value) (F:List Nat):Fn prog 299 [v] [.isv Cm v x F] [] (fun (_:Unit)=>True) (fun _=>.bool (!Gs x)) (fun _=>[]):=by
 refine enter func299 rfl ntmps299 fun w0=>?_;refine Awi ?_;rintro _ rfl s1;refine go ?_;intros;refine cb (fun w s=>Z4 _ _ s1) ?_;cases g:P9 x.De
 ·refine go ?_;intros;refine ret () trivial ?_;simp [Gs,g,Ss]
 refine go ?_;intros;cases g2:x.Vv
 ·refine go ?_;intros;refine ret () trivial ?_;simp [Gs,g,g2,Ss]
 ·refine go ?_;intros;refine ret () trivial ?_;simp [Gs,g,g2,Ss]
theorem Aud (x:An) (v:Value) (F:List Nat):Fn prog 236 [v] [.isv Bv v x F] [] (fun (_:Unit)=>True) (fun _=>.bool (Cs x)) (fun _=>[]):=by
 refine enter func236 rfl ntmps236 fun w0=>?_;refine Cp ?_;rintro a1 c1 F1 rfl l1;unfold maxLen at l1;refine go ?_;intros;refine ce (fun w s=>Il _ _) ?_;cases g1:B9 x.next
 ·refine go ?_;intros;refine ret () trivial ?_;simp [Cs,g1,Ss]
 refine go ?_;intros;refine Be rfl (fun h=>?_) (fun h=>?_)
 ·refine go ?_;intros;refine ret () trivial ?_;simp [Cs,g1,Ss];omega
 refine go ?_;intros;refine cb (fun w s=>Zj _ (.mk' func299 rfl rfl) #[] _ x.Ap F1 (fun s=>!Gs s) _ (s.get (p:=.sl Cm (.slice a1 x.Ap.length c1) x.Ap F1) GL).2 ?_) ?_
 ·intro k hk wr u G _ hu;exact (Bbo x.Ap[k] u G).val wr (I9 hu)
 cases g2:x.Ap.all Gs
 ·have:(x.Ap.any fun s=>!Gs s)=true:=by rw [←List.not_all_eq_any_not,g2];rfl
  rw [this];refine go ?_;intros;refine ret () trivial ?_;simp [Cs,g2,Ss]
 have hx:(x.Ap.any fun s=>!Gs s)=false:=by rw [←List.not_all_eq_any_not,g2];rfl
 rw [hx];refine go ?_;intros;have g3:Cs x=Vt x.Ap:=by simp [Cs,g1,g2];omega
 refine Dj rfl rfl (fun h=>?_) (fun h=>?_)
 ·refine go ?_;intros;refine ret () trivial ?_;rw [g3];have:x.Ap.length=0:=by omega
  simp [Vt,this,Ss]
 refine O5 0 ?_;rintro hi b o rfl s1;refine go ?_;intros;cases g4:x.Ap[0].Vv
 rotate_left
 ·refine go ?_;intros;refine ret () trivial ?_;rw [g3];unfold Vt;rw [Kz hi,g4,decide_eq_false GJ];rfl
 refine O5 (x.Ap.length - 1) ?_;rintro hi2 b2 o2 e s2;cases e;refine go ?_;intros;have hl:((x.Ap.length:Int) - 1).toNat=x.Ap.length - 1:=by omega
 exact GA
theorem Bd3 (s:ByteArray):(decide ((s.size:Int)≤8) && Y4 s.data.toList)=P9 s:=rfl
theorem X5 {α:Type} {p:α→Bool} {l:List α} {k:Nat} (h:k < l.length):(l.take (k+1)).all p=((l.take k).all p && p l[k]):=by
 rw [List.take_succ_eq_append_getElem h,List.all_append];simp
theorem Aek {α:Type} {p:α→Bool} {l:List α} {k:Nat} (h:k < l.length) (hp:p l[k]=false):l.all p=false:=by
 rw [List.all_eq_false];exact ⟨l[k],List.getElem_mem h,IR⟩
theorem Ar4 (x:An) (v:Value) (F:List Nat):Fn prog 184 [v] [.isv Bv v x F] [] (fun (_:Unit)=>True) (fun _=>.bool (Cs x)) (fun _=>[]):=by
 refine enter func184 rfl ntmps184 fun w0=>?_;refine Cp ?_;rintro a1 c1 F1 rfl l1;unfold maxLen at l1;refine go ?_;intros;refine ce (fun w s=>Ng _ _) ?_;cases g1:B9 x.next
 ·refine go ?_;intros;refine ret () trivial ?_;simp [Cs,g1,Ss]
 refine go ?_;intros;refine Be rfl (fun h=>?_) (fun h=>?_)
 ·refine go ?_;intros;refine ret () trivial ?_;simp [Cs,g1,Ss];omega
 refine go ?_;intros;refine Ev [1,2,3] (fun k:Nat=>[(4,.int .i64 k)]) (fun k=>k≤x.Ap.length∧(x.Ap.take k).all Gs=true) (fun k=>x.Ap.length - k) 0 ⟨Nat.zero_le _,rfl⟩ fun k hk=>?_;obtain ⟨hk1,hk2⟩:=hk;refine go ?_;intros;refine Be rfl (fun h3=>?_) (fun h3=>?_)
 ·have hk3:k < x.Ap.length:=by omega
  refine O5 k ?_;rintro hi b o e s1;cases e;refine go ?_;intros;refine ce (fun w s=>Qn _ _ _ s1) ?_;rw [Bd3];cases g2:P9 x.Ap[k].De
  ·refine go ?_;intros;refine ret () trivial ?_;have:x.Ap.all Gs=false:=Aek hk3 (by simp [Gs,g2]);simp [Cs,this,Ss]
  refine go ?_;intros;cases g3:x.Ap[k].Vv
  rotate_left
  ·refine go ?_;intros;refine Cu (k+1) ⟨GJ,by rw [X5 hk3,hk2];simp [Gs,g2,g3]⟩ GJ
  refine go ?_;intros;refine Be rfl (fun g4=>?_) (fun g4=>?_)
  ·refine go ?_;intros;refine ret () trivial ?_;have:x.Ap.all Gs=false:=Aek hk3 (by simp [Gs,g2,g3,g4]);simp [Cs,this,Ss]
  ·refine go ?_;intros;simp only [Decidable.not_not] at g4;have ho:Gs x.Ap[k]=true:=by unfold Gs;rw [g2,g3,decide_eq_true g4];rfl
   refine Cu (k+1) ⟨GJ,by rw [X5 hk3,hk2,ho];rfl⟩ GJ
 have hkl:k=x.Ap.length:=by omega
 subst hkl;rw [List.take_length] at hk2;have g3:Cs x=Vt x.Ap:=by simp [Cs,g1,hk2];omega
 refine go ?_;intros;refine Dj rfl rfl (fun h4=>?_) (fun h4=>?_)
 ·refine go ?_;intros;refine ret () trivial ?_;rw [g3];have:x.Ap.length=0:=by omega
  simp [Vt,this,Ss]
 refine O5 0 ?_;rintro hi b o e s1;cases e;refine go ?_;intros;cases g4:x.Ap[0].Vv
 rotate_left
 ·refine go ?_;intros;refine ret () trivial ?_;rw [g3];unfold Vt;rw [Kz hi,g4,decide_eq_false GJ];rfl
 refine O5 (x.Ap.length - 1) ?_;rintro hi2 b2 o2 e s2;cases e;refine go ?_;intros;have hl:((x.Ap.length:Int) - 1).toNat=x.Ap.length - 1:=by omega
 exact GA
def Aft (s:ByteArray):ByteArray:=⟨#[43]⟩++s
def Al2:ByteArray:=⟨#[45]⟩
def Fj (l:List Hv):ByteArray:=match l with|[]=>Al2|s::_=>if s.Vv then Aft s.De else Al2
theorem Ab0 {l:List Hv} (hi:0 < l.length) (h:l[0].Vv=true):Fj l=Aft l[0].De:=by
 cases l with
 | nil=>simp at hi
 | cons s r=>simp at h;simp [Fj,h]
theorem Aiv {l:List Hv} (hi:0 < l.length) (h:l[0].Vv=false):Fj l=Al2:=by
 cases l with
 | nil=>simp at hi
 | cons s r=>simp at h;simp [Fj,h]
def rel:Int→List Hv→Int × List Hv × List ByteArray
 | n,[]=>(n,[],[])
 | n,s::r=>if s.Vv then ((rel (Ce n 1) r).1,(rel (Ce n 1) r).2.1,Aft s.De::(rel (Ce n 1) r).2.2) else (n,s::r,[])
theorem Bcl {n:Int} {l:List Hv} (h:I6 l 0=false):rel n l=(n,l,[]):=by
 cases l with
 | nil=>rfl
 | cons s r=>have:s.Vv=false:=h;simp [rel,this]
theorem Az7 {n:Int} {l:List Hv} (h:I6 l 0=true):rel n l=((rel (Ce n 1) (l.drop 1)).1,(rel (Ce n 1) (l.drop 1)).2.1,Fj l::(rel (Ce n 1) (l.drop 1)).2.2):=by
 cases l with
 | nil=>cases h
 | cons s r=>have:s.Vv=true:=h;simp [rel,Fj,this]
theorem Bch {w:World} {a:Option Addr} {c:Nat} {x:An} {F:List Nat} (h:(Pc.ow Cm 196 (.slice a x.Ap.length c) x.Ap F).P w):∃F',(Pc.isv Bv (.agg #[.int .i64 x.next,.slice a x.Ap.length c]) x F').P w:=by
 obtain ⟨F', -,hs⟩:=h.2.read;exact ⟨F',_,rfl,_,rfl,hs⟩
theorem Aq1 (x:An) (v:Value) (F:List Nat) (hl:x.Ap.length≤4294967296):Fn prog 104 [v] [.isv Bv v x F] [] (fun (_:Option Addr × Nat × List Nat)=>True)
  (fun s=>.agg #[.int .i64 x.next,.slice s.1 x.Ap.length s.2.1]) (fun s=>[.ow Cm 196 (.slice s.1 x.Ap.length s.2.1) x.Ap s.2.2]):=by
 refine enter func104 rfl ntmps104 fun w0=>?_;refine Cp ?_;rintro a1 c1 F1 rfl l1;refine go ?_;intros;refine cn (fun w s=>Yg _ _ _ _ (s.get (p:=.sl Cm (.slice a1 x.Ap.length c1) x.Ap F1) GL).2 hl) fun a cp F'=>?_;refine go ?_;intros;refine ret (a,cp,F') trivial rfl
theorem Ahb (x:An) (g t o:Nat) (A B:List Value) (a:Option Addr) (cc:Nat) (F:List Nat) (h0:0≤x.next) (h1:x.next≤65535) (hl:x.Ap.length≤4294967296) (hs:∀s∈x.Ap,s.De.size≤8) :
  Fn prog 277 [Hm g o 0] [] [.row g t o A [.int .i64 x.next,.slice a x.Ap.length cc] B,.ow Cm 196 (.slice a x.Ap.length cc) x.Ap F] (fun (_:Option Addr × Nat × List Nat)=>True)
   (fun _=>.string (Fj x.Ap)) (fun s=>[.row g t o A [.int .i64 (Ce x.next 1),.slice s.1 (x.Ap.drop 1).length s.2.1] B,.ow Cm 196 (.slice s.1 (x.Ap.drop 1).length s.2.1) (x.Ap.drop 1) s.2.2]):=by
 refine enter func277 rfl ntmps277 fun w0=>?_;refine go ?_;intros;refine Be rfl (fun h=>?_) (fun h=>?_)
 ·refine A4 fun F'=>?_;refine O5 0 ?_;rintro hi b o2 e s1;cases e;refine go ?_;intros;have s8:=hs _ (List.getElem_mem hi);have s9:(⟨#[43]⟩:ByteArray).size=1:=rfl;cases g1:x.Ap[0].Vv
  ·refine go ?_;intros;apply wO;refine sld 1 fun a2 c2 F2=>?_;refine go ?_;intros;refine cn (fun w s=>Yg _ _ _ _ (s.get (p:=.sl Cm (.slice a2 (x.Ap.drop 1).length c2) (x.Ap.drop 1) F2) GL).2 GU) fun a3 c3 F3=>?_;refine go ?_;intros;refine ce (fun w s=>Q5 _ _ _ GJ GJ) ?_;refine go ?_;intros;refine ret (a3,c3,F3) trivial ?_;rw [Aiv hi g1];rfl
  ·refine go ?_;intros;apply wO;refine sld 1 fun a2 c2 F2=>?_;refine go ?_;intros;refine cn (fun w s=>Yg _ _ _ _ (s.get (p:=.sl Cm (.slice a2 (x.Ap.drop 1).length c2) (x.Ap.drop 1) F2) GL).2 GU) fun a3 c3 F3=>?_;refine go ?_;intros;refine ce (fun w s=>Q5 _ _ _ GJ GJ) ?_;refine go ?_;intros;refine ret (a3,c3,F3) trivial ?_;rw [Ab0 hi g1];rfl
 ·obtain ⟨n,l⟩:=x;obtain rfl:l=[]:=List.eq_nil_of_length_eq_zero GW;refine go ?_;intros;refine ce (fun w s=>Q5 _ _ _ GJ GJ) ?_;refine go ?_;intros;refine ret (a,cc,F) trivial rfl
def O0 (x:An):An:=⟨(rel x.next x.Ap).1,(rel x.next x.Ap).2.1⟩
def Qs (x:An):List ByteArray:=(rel x.next x.Ap).2.2
def X3 (x:An):An:=⟨Ce x.next 1,x.Ap.drop 1⟩
theorem Aah {x:An} (h:I6 x.Ap 0=false):O0 x=x∧Qs x=[]:=by unfold O0 Qs;rw [Bcl h];exact ⟨rfl,rfl⟩
theorem Aj2 {x:An} (h:I6 x.Ap 0=true):O0 x=O0 (X3 x)∧Qs x=Fj x.Ap::Qs (X3 x):=by unfold O0 Qs;rw [Az7 h];exact ⟨rfl,rfl⟩
theorem Rg {l:List Hv} (h:∀s∈l,s.De.size≤8):(Fj l).size≤9:=by
 cases l with
 | nil=>decide
 | cons s r =>
  have:=h s GL;unfold Fj;dsimp only
  split
  ·unfold Aft;rw [ByteArray.size_append];show 1+s.De.size≤9;omega
  ·decide
theorem Arw (y:An):Ie y y.next=I6 y.Ap 0:=by
 unfold Ie gp;rw [Int.sub_self];rfl
theorem S9 (s:ByteArray) (h:s.size≤maxLen) (w:World):Cw A8 w [.string s] [s] []:=⟨_,[],[],[],GL,GL,⟨rfl,h,rfl⟩,rfl,rfl⟩
structure Aa3 where
 es:List ByteArray
 y:An
 a:Option Addr
 c:Nat
 F:List Nat
 ae:Option Addr
 ce:Nat
 Fe:List Nat
structure Ba2 (x:An) (s:Aa3):Prop where
 n0:0≤s.y.next
 n1:s.y.next≤65535
 it:∀z∈s.y.Ap,z.De.size≤8
 ln:s.es.length+s.y.Ap.length≤x.Ap.length
 w:O0 x=O0 s.y
 e:Qs x=s.es++Qs s.y
theorem Acf (x:An) (g t o:Nat) (A B:List Value) (a:Option Addr) (cc:Nat) (F:List Nat) (h0:0≤x.next) (h1:x.next≤65535) (hl:x.Ap.length≤1000000) (hs:∀s∈x.Ap,s.De.size≤8) :
  Fn prog 278 [Hm g o 0] [] [.row g t o A [.int .i64 x.next,.slice a x.Ap.length cc] B,.ow Cm 196 (.slice a x.Ap.length cc) x.Ap F] (fun (s:Aa3)=>s.y=O0 x∧s.es=Qs x)
   (fun s=>.slice s.ae s.es.length s.ce) (fun s=>[.row g t o A [.int .i64 s.y.next,.slice s.a s.y.Ap.length s.c] B,.ow Cm 196 (.slice s.a s.y.Ap.length s.c) s.y.Ap s.F,.ow A8 9 (.slice s.ae s.es.length s.ce) s.es s.Fe]):=by
 refine enter func278 rfl ntmps278 fun w0=>?_;refine go ?_;intros;refine Br A8 9 ?_;refine Ck [0,2] (fun s:Aa3=>[(3,.slice s.ae s.es.length s.ce)]) (fun s=>[.row g t o A [.int .i64 s.y.next,.slice s.a s.y.Ap.length s.c] B,.ow Cm 196 (.slice s.a s.y.Ap.length s.c) s.y.Ap s.F,.ow A8 9 (.slice s.ae s.es.length s.ce) s.es s.Fe]) (Ba2 x) (fun s=>s.y.Ap.length) ⟨[],x,a,cc,F,none,0,[]⟩ ⟨h0,h1,hs,GL,rfl,rfl⟩ fun s hC=>?_;obtain ⟨n0,n1,hit,hln,hw,he⟩:=hC;refine go ?_;intros;refine At [0] [] ?_;refine Dk 0 1 2 3 ?_;refine Dy 4 5 ?_;refine dt 6 ?_;refine dN 7 ?_;refine oC ?_;refine cb (fun w st=>by
  obtain ⟨F',h⟩:=Bch (st.get (p:=.ow Cm 196 (.slice s.a s.y.Ap.length s.c) s.y.Ap s.F) GL);exact (Zn s.y s.y.next _ F' n0 n1 n0 n1).val w (I9 h)) ?_
 refine dk ?_;refine dd ?_;rw [Arw];cases hv:I6 s.y.Ap 0
 ·refine go ?_;intros;refine ret s ⟨by rw [hw,(Aah hv).1],by rw [he,(Aah hv).2,List.append_nil]⟩ rfl
 refine go ?_;intros;refine cf (Ahb s.y g t o A B s.a s.c s.F n0 n1 GJ hit) fun z _=>?_;obtain ⟨az,cz,Fz⟩:=z;refine Ar ?_;have hsz:=Rg hit;have hmx:(Fj s.y.Ap).size≤maxLen:=by unfold maxLen;omega
 have hlt:0 < s.y.Ap.length:=by
  rcases Nat.eq_zero_or_pos s.y.Ap.length with h|h
  ·rw [Qm GJ] at hv;cases hv
  ·exact h
 have hll:s.es.length+1≤1000000:=by omega
 refine go ?_;intros;apply wO;refine Oh (S9 _ hmx) Dp fun a' c' F'=>?_;refine go ?_;intros;refine Cu ⟨s.es++[Fj s.y.Ap],X3 s.y,az,cz,Fz,a',c',F'⟩ ⟨(Je _ _).1,(Je _ _).2,fun z hz=>hit z (List.mem_of_mem_drop hz),IS,by rw [hw,(Aj2 hv).1],by rw [he,(Aj2 hv).2];simp⟩ IS
def zsl:Hv:=⟨false,⟨#[]⟩⟩
def Ly (x:An) (j:Nat):List Hv:=x.Ap++List.replicate j zsl
theorem N7 (x:An) (j:Nat):(Ly x j).length=x.Ap.length+j:=by simp [Ly]
def Lv (x:An) (k:Nat) (s:Hv):List Hv:=(Ly x (k+1 - x.Ap.length)).set k s
def Gj (x:An) (n:Int):Bool:=Sp n x.next || Ie x n
def Mz (x:An) (n:Int):Bool:=Gj x n || decide (gp x.next n < 8)
def X2 (x:An) (n:Int) (s:ByteArray):An:=⟨x.next,Lv x (gp x.next n).toNat ⟨true,s⟩⟩
def Ls (x:An) (n:Int) (s:ByteArray):An:=if Gj x n || !decide (gp x.next n < 8) then x else O0 (X2 x n s)
def Li (x:An) (n:Int) (s:ByteArray):List ByteArray:=if Gj x n || !decide (gp x.next n < 8) then [] else Qs (X2 x n s)
def Em (a b:Int):Nat:=if Sp a b then (gp a b).toNat else 0
def If:Nat→An→An
 | 0,y=>y
 | k+1,y=>If k (X3 y)
def Nw:Nat→An→List ByteArray
 | 0,_=>[]
 | k+1,y=>Fj y.Ap::Nw k (X3 y)
theorem Aiz {a b:Int} (h:Sp a b=false):Em a b=0:=by unfold Em;rw [h];rfl
theorem Agc {a b:Int} (h:Sp a b=true):Em a b=Em (Ce a 1) b+1:=by
 unfold Em;rw [h];unfold Sp Eu gp Ce at *;simp only [Bool.and_eq_true,decide_eq_true_eq,if_true] at h ⊢
 split <;> omega
theorem Aiy (a b:Int):Em a b≤32767:=by
 unfold Em
 split
 ·rename_i h;unfold Sp Eu at h;simp only [Bool.and_eq_true,decide_eq_true_eq] at h;omega
 ·omega
theorem Afy (s:Hv) (h:s.De.size≤maxLen) (w:World):Cw Cm w [.bool s.Vv,.string s.De] [s] []:=⟨_,[],[],[],GL,GL,⟨rfl,h,rfl⟩,rfl,rfl⟩
theorem Y8 {x:An} {k:Nat} (hs:∀s∈x.Ap,s.De.size≤8) {s:Hv} (hi:s.De.size≤8):∀z∈Lv x k s,z.De.size≤8:=fun z hz=>by
 unfold Lv at hz;rcases List.mem_or_eq_of_mem_set hz with h|rfl
 ·unfold Ly at h;rcases List.mem_append.1 h with h|h
  ·exact hs z h
  ·rw [(List.mem_replicate.1 h).2];decide
 ·exact hi
structure Bbn where
 j:Nat
 a:Option Addr
 c:Nat
 F:List Nat
theorem Aue (x:An) (n:Int) (De:ByteArray) (g t o:Nat) (A B:List Value) (a:Option Addr) (cc:Nat) (F:List Nat) (h0:0≤x.next) (h1:x.next≤65535) (h2:0≤n) (h3:n≤65535) (hl:x.Ap.length≤8) (hs:∀s∈x.Ap,s.De.size≤8) (hi:De.size≤8) :
  Fn prog 320 [Hm g o 0,.int .i64 n,.string De] [] [.row g t o A [.int .i64 x.next,.slice a x.Ap.length cc] B,.ow Cm 196 (.slice a x.Ap.length cc) x.Ap F] (fun (s:Aa3)=>s.y=Ls x n De∧s.es=Li x n De)
   (fun s=>.tuple #[.slice s.ae s.es.length s.ce,.bool (Mz x n)]) (fun s=>[.row g t o A [.int .i64 s.y.next,.slice s.a s.y.Ap.length s.c] B,.ow Cm 196 (.slice s.a s.y.Ap.length s.c) s.y.Ap s.F,.ow A8 9 (.slice s.ae s.es.length s.ce) s.es s.Fe]):=by
 have hg:=Ky x.next n;refine enter func320 rfl ntmps320 fun w0=>?_;refine go ?_;intros;refine ce (fun w s=>Nb _ _ _ GJ GJ GJ GJ) ?_;cases g1:Sp n x.next
 rotate_left
 ·refine go ?_;intros;refine Br A8 9 ?_;refine ret ⟨[],x,a,cc,F,none,0,[]⟩ ⟨by simp [Ls,Gj,g1],by simp [Li,Gj,g1]⟩ ?_;simp [Mz,Gj,g1,Ss]
 refine go ?_;intros;refine cb (fun w st=>by
  obtain ⟨F',h⟩:=Bch (st.get (p:=.ow Cm 196 (.slice a x.Ap.length cc) x.Ap F) GL);exact (Zn x n _ F' h0 h1 h2 h3).val w (I9 h)) ?_
 cases g2:Ie x n
 rotate_left
 ·refine go ?_;intros;refine Br A8 9 ?_;refine ret ⟨[],x,a,cc,F,none,0,[]⟩ ⟨by simp [Ls,Gj,g1,g2],by simp [Li,Gj,g1,g2]⟩ ?_;simp [Mz,Gj,g1,g2,Ss]
 refine go ?_;intros;refine ce (fun w s=>Om _ _ _ GJ GJ GJ GJ) ?_;refine go ?_;intros;refine Be rfl (fun h8=>?_) (fun h8=>?_)
 ·refine go ?_;intros;refine Br A8 9 ?_;have h9:¬gp x.next n < 8:=by omega
  refine ret ⟨[],x,a,cc,F,none,0,[]⟩ ⟨by simp [Ls,h9],by simp [Li,h9]⟩ ?_;simp [Mz,Gj,g1,g2,h9,Ss]
 have hW:Ls x n De=O0 (X2 x n De):=by unfold Ls Gj;rw [g1,g2,decide_eq_true GJ];rfl
 have hE:Li x n De=Qs (X2 x n De):=by unfold Li Gj;rw [g1,g2,decide_eq_true GJ];rfl
 have hO:Mz x n=true:=by unfold Mz;rw [decide_eq_true (show gp x.next n < 8 by omega)];simp
 unfold X2 at hW hE;obtain ⟨k,hk⟩:∃k:Nat,gp x.next n=k:=⟨(gp x.next n).toNat,GJ⟩;rw [hk] at hW hE ⊢;rw [Int.toNat_natCast] at hW hE;refine go ?_;intros;refine Ck [0,2,6,7,8] (fun s:Bbn=>[]) (fun s=>[.row g t o A [.int .i64 x.next,.slice s.a (Ly x s.j).length s.c] B,.ow Cm 196 (.slice s.a (Ly x s.j).length s.c) (Ly x s.j) s.F]) (fun s=>s.j≤k+1 - x.Ap.length) (fun s=>k+1 - x.Ap.length - s.j) ⟨0,a,cc,F⟩ (Nat.zero_le _) (fun s hj=>?_) (hH:=IN);have hpl:=N7 x s.j;refine go ?_;intros;refine Be rfl (fun h9=>?_) (fun h9=>?_)
 ·refine go ?_;intros;apply wO;refine Oh (Afy zsl GM) Id fun a' c' F'=>?_;refine go ?_;intros;have e:Ly x s.j++[zsl]=Ly x (s.j+1):=by simp [Ly,List.replicate_succ']
  exact DD
 have hjk:s.j=k+1 - x.Ap.length:=by omega
 refine go ?_;intros;have hkl:k < (Ly x s.j).length:=by omega
 refine Ajp k ?_;rintro hi2 g2 A2 B2 e eF hs2 hh;rw [e];refine M7 ?_;intros;refine Qv (⟨true,De⟩:Hv) hh (fun w=>⟨rfl,JQ,rfl⟩) ?_;have hsl:(Ly x s.j).length=((Ly x s.j).set k ⟨true,De⟩).length:=by rw [List.length_set]
 rw [hsl];have hpu:(Ly x s.j).set k ⟨true,De⟩=Lv x k ⟨true,De⟩:=by unfold Lv;rw [hjk]
 rw [hpu];have hpl2:(Lv x k ⟨true,De⟩).length≤1000:=by unfold Lv;rw [List.length_set,N7];omega
 have hps:=Y8 (x:=x) (k:=k) hs (s:=⟨true,De⟩) hi;refine go ?_;intros;refine cf (Acf ⟨x.next,Lv x k ⟨true,De⟩⟩ g t o A B _ _ _ h0 h1 (by show (Lv x k ⟨true,De⟩).length≤_;omega) hps) fun z hz=>?_;refine Ar ?_;refine go ?_;intros;refine ret z ⟨by rw [hz.1,hW],by rw [hz.2,hE]⟩ ?_;rw [hO];rfl
structure At3 (x:An) (n:Int) (s:Aa3):Prop where
 n0:0≤s.y.next
 n1:s.y.next≤65535
 it:∀z∈s.y.Ap,z.De.size≤8
 ln:s.y.Ap.length≤x.Ap.length
 le:s.es.length+Em s.y.next n≤Em x.next n
 w:If (Em x.next n) x=If (Em s.y.next n) s.y
 e:Nw (Em x.next n) x=s.es++Nw (Em s.y.next n) s.y
theorem Amn (x:An):(Qs x).length≤x.Ap.length:=by
 unfold Qs;have:∀(l:List Hv) n,(rel n l).2.2.length≤l.length:=by
  intro l
  induction l with
  | nil=>intro n;simp [rel]
  | cons s r ih=>intro n;unfold rel;split;simp;exact ih _;simp
 exact this _ _
theorem Akv (x:An) (n:Int) (g t o:Nat) (A B:List Value) (a:Option Addr) (cc:Nat) (F:List Nat) (h0:0≤x.next) (h1:x.next≤65535) (h2:0≤n) (h3:n≤65535) (hl:x.Ap.length≤8) (hs:∀s∈x.Ap,s.De.size≤8) :
  Fn prog 226 [Hm g o 0,.int .i64 n] [] [.row g t o A [.int .i64 x.next,.slice a x.Ap.length cc] B,.ow Cm 196 (.slice a x.Ap.length cc) x.Ap F] (fun (s:Aa3)=>s.y=O0 (If (Em x.next n) x)∧s.es=Nw (Em x.next n) x++Qs (If (Em x.next n) x))
   (fun s=>.slice s.ae s.es.length s.ce) (fun s=>[.row g t o A [.int .i64 s.y.next,.slice s.a s.y.Ap.length s.c] B,.ow Cm 196 (.slice s.a s.y.Ap.length s.c) s.y.Ap s.F,.ow A8 9 (.slice s.ae s.es.length s.ce) s.es s.Fe]):=by
 have hgn:=Aiy x.next n;refine enter func226 rfl ntmps226 fun w0=>?_;refine go ?_;intros;refine Br A8 9 ?_;refine Ck [0,1,4] (fun s:Aa3=>[(5,.slice s.ae s.es.length s.ce)]) (fun s=>[.row g t o A [.int .i64 s.y.next,.slice s.a s.y.Ap.length s.c] B,.ow Cm 196 (.slice s.a s.y.Ap.length s.c) s.y.Ap s.F,.ow A8 9 (.slice s.ae s.es.length s.ce) s.es s.Fe]) (At3 x n) (fun s=>Em s.y.next n) ⟨[],x,a,cc,F,none,0,[]⟩ ⟨h0,h1,hs,Nat.le_refl _,GL,rfl,rfl⟩ fun s hC=>?_;obtain ⟨n0,n1,hit,hln,hle,hw,he⟩:=hC;refine go ?_;intros;refine ce (fun w s=>Nb _ _ _ GJ GJ GJ GJ) ?_
 cases hb:Sp s.y.next n
 ·refine go ?_;intros;rw [Aiz hb] at hw he;refine cf (Acf s.y g t o A B s.a s.c s.F n0 n1 GJ hit) fun z hz=>?_;refine Ar ?_;refine go ?_;intros;have hr:=Amn s.y;have hzl:z.es.length≤s.y.Ap.length:=by rw [hz.2];exact hr
  refine A4 (xs:=z.es) fun F'=>?_;apply wO;refine N3 Dp Hi fun a' c' F2=>?_;exact EQ
 have hst:=Agc hb;refine go ?_;intros;refine cf (Ahb s.y g t o A B s.a s.c s.F n0 n1 GJ hit) fun z _=>?_;obtain ⟨az,cz,Fz⟩:=z;refine Ar ?_;have hsz:=Rg hit;have hmx:(Fj s.y.Ap).size≤maxLen:=by unfold maxLen;omega
 refine go ?_;intros;apply wO;refine Oh (S9 _ hmx) Dp fun a' c' F'=>?_;refine go ?_;intros;refine Cu ⟨s.es++[Fj s.y.Ap],X3 s.y,az,cz,Fz,a',c',F'⟩ ⟨(Je _ _).1,(Je _ _).2,fun z hz=>hit z (List.mem_of_mem_drop hz),IS,IS,by rw [hw,hst];rfl,by rw [he,hst];simp [Nw,X3]⟩ (by show Em (Ce s.y.next 1) n < _;omega)
def zRW:An:=⟨0,[]⟩
def U3 (x:An) (n:Int) (s:ByteArray):Bool:=Cs x && B9 n && P9 s && Mz x n
def I8 (x:An) (n:Int) (s:ByteArray):An × List ByteArray × Bool:=if U3 x n s then (Ls x n s,Li x n s,true) else (zRW,[],false)
theorem Al9 {s:Hv} (h:Gs s=true):s.De.size≤8:=by
 unfold Gs P9 at h;simp only [Bool.and_eq_true,decide_eq_true_eq] at h;omega
structure Bbl (x:An):Prop where
 n0:0≤x.next
 n1:x.next≤65535
 l:x.Ap.length≤8
 it:∀s∈x.Ap,s.De.size≤8
theorem Q8 {x:An} (h:Cs x=true):Bbl x:=by
 unfold Cs at h;simp only [Bool.and_eq_true,decide_eq_true_eq] at h;have hs:=Bb.1 h.1.1.1;exact ⟨hs.1,hs.2,GJ,fun s hs=>Al9 (List.all_eq_true.1 h.1.2 s hs)⟩
theorem T4 {s:ByteArray} (h:P9 s=true):s.size≤8:=by unfold P9 at h;simp only [Bool.and_eq_true,decide_eq_true_eq] at h;omega
structure CpS where
 g:Nat
 a:Option Addr
 c:Nat
 F:List Nat
theorem Uw (x:An) (v:Value) (F:List Nat) (h0:0≤x.next) (h1:x.next≤65535) (hl:x.Ap.length≤1000000) (hs:∀s∈x.Ap,s.De.size≤8) :
  Fn prog 307 [v] [.isv Bv v x F] [] (fun (s:Aa3)=>s.y=O0 x∧s.es=Qs x)
   (fun s=>.tuple #[.agg #[.int .i64 s.y.next,.slice s.a s.y.Ap.length s.c],.slice s.ae s.es.length s.ce]) (fun s=>[.isv Bv (.agg #[.int .i64 s.y.next,.slice s.a s.y.Ap.length s.c]) s.y s.F,.ow A8 9 (.slice s.ae s.es.length s.ce) s.es s.Fe]):=by
 refine enter func307 rfl ntmps307 fun w0=>?_;refine Cp ?_;rintro a1 c1 F1 rfl l1;unfold maxLen at l1;refine go ?_;intros;refine Eg [2,3] [0] (fun s:CpS=>[(4,Hm s.g 0 0)]) (fun s=>[.row s.g 114 0 [] [.int .i64 x.next,.slice s.a x.Ap.length s.c] [],.ow Cm 196 (.slice s.a x.Ap.length s.c) x.Ap s.F]) (fun _=>True) ?_ fun s _=>?_
 ·refine At [0,1] [8] ?_;refine Dk 0 1 3 4 ?_;refine dM 2 7 ?_ ?_
  ·apply Lr;rfl;intro _;refine C4 Cm ?_;refine dk ?_;refine dM 5 7 ?_ ?_
   ·exact BE
   ·apply Co;rfl;intro _;exact AI
  ·exact DH
 obtain ⟨gg,a2,c2,F2⟩:=s;refine A4 (xs:=x.Ap) fun F3=>?_;refine go ?_;intros;refine C4 A8 ?_;refine Ck [2,3,4] (fun s:Aa3=>[(5,.slice s.ae s.es.length s.ce)]) (fun s=>[.row gg 114 0 [] [.int .i64 s.y.next,.slice s.a s.y.Ap.length s.c] [],.sl Cm (.slice s.a s.y.Ap.length s.c) s.y.Ap s.F,.ow A8 9 (.slice s.ae s.es.length s.ce) s.es s.Fe]) (Ba2 x) (fun s=>s.y.Ap.length) ⟨[],x,a2,c2,F3,_,0,_⟩ ⟨h0,h1,hs,GL,rfl,rfl⟩ fun s hC=>?_;obtain ⟨n0,n1,hit,hln,hw,he⟩:=hC;have stop:I6 s.y.Ap 0=false→s.y=O0 x∧s.es=Qs x:=fun h=>⟨by rw [hw,(Aah h).1],by rw [he,(Aah h).2,List.append_nil]⟩;refine go ?_;intros
 refine Dj rfl rfl (fun h4=>?_) (fun h4=>?_)
 rotate_left
 ·refine go ?_;intros;have hv:I6 s.y.Ap 0=false:=Qm GJ;refine Ci s.y ?_;refine ret s (stop hv) rfl
 refine O5 0 ?_;rintro hi b o e s1;rw [e];refine go ?_;intros;cases g1:s.y.Ap[0].Vv
 ·refine go ?_;intros;rw [←e];refine Ci s.y ?_;refine ret s (stop (by rw [Kz hi,g1])) rfl
 have hv:I6 s.y.Ap 0=true:=by rw [Kz hi,g1]
 have hz:=hit _ (List.getElem_mem hi);have h43:(⟨#[43]⟩:ByteArray).size=1:=rfl;have hpl:(⟨#[43]⟩++s.y.Ap[0].De:ByteArray)=Fj s.y.Ap:=(Ab0 hi g1).symm;have hmx:(Fj s.y.Ap).size≤maxLen:=by have:=Rg hit;unfold maxLen;omega
 have hll:s.es.length+1≤1000000:=by omega
 refine go ?_;intros;rw [hpl];apply wO;refine Oh (S9 _ hmx) Dp fun a' c' F'=>?_;refine go ?_;intros;refine At [1,2] [7] ?_;refine Dk 0 1 3 4 ?_;refine Anx 5 1 fun a5 c5 F5=>?_;refine dN 2 ?_;refine oC ?_;refine ce (fun w s=>Ks _ _ _ GJ GJ) ?_;refine dk ?_;refine dt 6 ?_;refine dN 7 ?_;refine oS ?_;refine Rn ?_;refine dd ?_;refine go ?_;intros;refine Cu ⟨s.es++[Fj s.y.Ap],X3 s.y,a5,c5,F5,a',c',F'⟩ ⟨(Je _ _).1,(Je _ _).2,fun z hz=>hit z (List.mem_of_mem_drop hz),IS,by rw [hw,(Aj2 hv).1],by rw [he,(Aj2 hv).2];simp⟩ IS
theorem Aoa (x:An) (n:Int) (v:Value) (F:List Nat) (h0:0≤x.next) (h1:x.next≤65535) (h2:0≤n) (h3:n≤65535) (hl:x.Ap.length≤8) :
  Fn prog 309 [v,.int .i64 n] [.isv Bv v x F] [] (fun (_:Unit)=>True) (fun _=>.bool (Mz x n)) (fun _=>[]):=by
 have hg:=Ky x.next n;have hh:¬gp x.next n < 8→Ie x n=false:=fun h=>Qm GJ;refine enter func309 rfl ntmps309 fun w0=>?_;refine Cp ?_;rintro a1 c1 F1 rfl l1;refine go ?_;intros;refine ce (fun w s=>Px _ _ _ GJ GJ) ?_;cases g1:Sp n x.next
 ·refine go ?_;intros;refine ce (fun w s=>I1 _ _ _ GJ GJ) ?_;refine go ?_;intros;refine ret () trivial ?_;unfold Mz Gj;rw [g1];by_cases h8:gp x.next n < 8
  ·simp [h8,Ss]
  ·simp [h8,hh h8,Ss]
 ·refine go ?_;intros;refine ret () trivial ?_;simp [Mz,Gj,g1,Ss]
theorem Ar5 (x:An) (n:Int) (De:ByteArray) (v:Value) (F:List Nat) (h0:0≤x.next) (h1:x.next≤65535) (h2:0≤n) (h3:n≤65535) (hl:x.Ap.length≤8) (hs:∀s∈x.Ap,s.De.size≤8) (hi:De.size≤8) (hok:Mz x n=true) :
  Fn prog 310 [v,.int .i64 n,.string De] [.isv Bv v x F] [] (fun (s:Aa3)=>s.y=Ls x n De∧s.es=Li x n De)
   (fun s=>.tuple #[.agg #[.int .i64 s.y.next,.slice s.a s.y.Ap.length s.c],.slice s.ae s.es.length s.ce]) (fun s=>[.isv Bv (.agg #[.int .i64 s.y.next,.slice s.a s.y.Ap.length s.c]) s.y s.F,.ow A8 9 (.slice s.ae s.es.length s.ce) s.es s.Fe]):=by
 have hg:=Ky x.next n;refine enter func310 rfl ntmps310 fun w0=>?_;refine Cp ?_;rintro a1 c1 F1 rfl l1;refine go ?_;intros;refine ce (fun w s=>I1 _ _ _ GJ GJ) ?_;obtain ⟨k,hk⟩:∃k:Nat,gp x.next n=k:=⟨(gp x.next n).toNat,GJ⟩;rw [hk];refine go ?_;intros;refine Eg [1,2,3,6,7,8] [0,1,2] (fun s:CpS=>[(9,Hm s.g 0 0)]) (fun s=>[.row s.g 114 0 [] [.int .i64 x.next,.slice s.a x.Ap.length s.c] [],.ow Cm 196 (.slice s.a x.Ap.length s.c) x.Ap s.F]) (fun _=>True) ?_ fun s _=>?_
 ·refine At [0,1] [8] ?_;refine Dk 0 1 3 4 ?_;refine dM 2 7 ?_ ?_
  ·apply Lr;rfl;intro _;refine C4 Cm ?_;refine dk ?_;refine dM 5 7 ?_ ?_
   ·exact BE
   ·apply Co;rfl;intro _;exact AI
  ·exact DH
 obtain ⟨gg,a2,c2,F2⟩:=s;refine go ?_;intros;refine ce (fun w s=>Px _ _ _ GJ GJ) ?_;cases g1:Sp n x.next
 rotate_left
 ·refine go ?_;intros;refine C4 A8 ?_;refine A4 (xs:=x.Ap) fun F3=>?_;refine Ci x ?_;refine ret ⟨[],x,a2,c2,F3,_,0,_⟩ ⟨by simp [Ls,Gj,g1],by simp [Li,Gj,g1]⟩ rfl
 refine go ?_;intros;refine Dj rfl rfl (fun h4=>?_) (fun h4=>?_)
 ·refine O5 k ?_;rintro hi2 b2 o2 e s1;cases e;refine go ?_;intros;cases g4:x.Ap[k].Vv
  rotate_left
  ·have hb:Ie x n=true:=by unfold Ie;rw [hk,Int.toNat_natCast,Kz hi2];exact g4
   refine go ?_;intros;refine C4 A8 ?_;refine A4 (xs:=x.Ap) fun F3=>?_;refine Ci x ?_;refine ret ⟨[],x,a2,c2,F3,_,0,_⟩ ⟨by simp [Ls,Gj,hb],by simp [Li,Gj,hb]⟩ rfl
  have hpad:Ie x n=false:=by unfold Ie;rw [hk,Int.toNat_natCast,Kz hi2];exact g4
  have hno:Gj x n=false:=by unfold Gj;rw [g1,hpad];rfl
  have h8:gp x.next n < 8:=by unfold Mz at hok;rw [hno] at hok;simpa using hok
  have hW:Ls x n De=O0 (X2 x n De):=by unfold Ls;rw [hno,decide_eq_true h8];rfl
  have hE:Li x n De=Qs (X2 x n De):=by unfold Li;rw [hno,decide_eq_true h8];rfl
  unfold X2 at hW hE;rw [hk,Int.toNat_natCast] at hW hE;refine go ?_;intros;refine Ck [2,6,7,8,9] (fun s:Bbn=>[]) (fun s=>[.row gg 114 0 [] [.int .i64 x.next,.slice s.a (Ly x s.j).length s.c] [],.ow Cm 196 (.slice s.a (Ly x s.j).length s.c) (Ly x s.j) s.F]) (fun s=>s.j≤k+1 - x.Ap.length) (fun s=>k+1 - x.Ap.length - s.j) ⟨0,a2,c2,F2⟩ (Nat.zero_le _) (fun s hj=>?_) (hH:=IN);have hpl:=N7 x s.j;refine go ?_;intros;refine Be rfl (fun h9=>?_) (fun h9=>?_)
  ·refine go ?_;intros;apply wO;refine Oh (Afy zsl GM) Id fun a' c' F'=>?_;refine go ?_;intros;have e:Ly x s.j++[zsl]=Ly x (s.j+1):=by simp [Ly,List.replicate_succ']
   exact DD
  have hjk:s.j=k+1 - x.Ap.length:=by omega
  refine go ?_;intros;have hkl:k < (Ly x s.j).length:=by omega
  refine Ajp k ?_;rintro hi2 g2 A2 B2 e eF hs2 hh;rw [e];refine M7 ?_;intros;refine Qv (⟨true,De⟩:Hv) hh (fun w=>⟨rfl,JQ,rfl⟩) ?_;have hsl:(Ly x s.j).length=((Ly x s.j).set k ⟨true,De⟩).length:=by rw [List.length_set]
  rw [hsl];have hpu:(Ly x s.j).set k ⟨true,De⟩=Lv x k ⟨true,De⟩:=by unfold Lv;rw [hjk]
  rw [hpu];have hpl2:(Lv x k ⟨true,De⟩).length≤1000:=by unfold Lv;rw [List.length_set,N7];omega
  exact BI
 ·have hpad:Ie x n=false:=Qm GJ;have hno:Gj x n=false:=by unfold Gj;rw [g1,hpad];rfl
  have h8:gp x.next n < 8:=by unfold Mz at hok;rw [hno] at hok;simpa using hok
  have hW:Ls x n De=O0 (X2 x n De):=by unfold Ls;rw [hno,decide_eq_true h8];rfl
  have hE:Li x n De=Qs (X2 x n De):=by unfold Li;rw [hno,decide_eq_true h8];rfl
  unfold X2 at hW hE;rw [hk,Int.toNat_natCast] at hW hE;refine go ?_;intros;refine Ck [2,6,7,8,9] (fun s:Bbn=>[]) (fun s=>[.row gg 114 0 [] [.int .i64 x.next,.slice s.a (Ly x s.j).length s.c] [],.ow Cm 196 (.slice s.a (Ly x s.j).length s.c) (Ly x s.j) s.F]) (fun s=>s.j≤k+1 - x.Ap.length) (fun s=>k+1 - x.Ap.length - s.j) ⟨0,a2,c2,F2⟩ (Nat.zero_le _) (fun s hj=>?_) (hH:=IN);have hpl:=N7 x s.j;refine go ?_;intros;refine Be rfl (fun h9=>?_) (fun h9=>?_)
  ·refine go ?_;intros;apply wO;refine Oh (Afy zsl GM) Id fun a' c' F'=>?_;refine go ?_;intros;have e:Ly x s.j++[zsl]=Ly x (s.j+1):=by simp [Ly,List.replicate_succ']
   exact DD
  have hjk:s.j=k+1 - x.Ap.length:=by omega
  refine go ?_;intros;have hkl:k < (Ly x s.j).length:=by omega
  refine Ajp k ?_;rintro hi2 g2 A2 B2 e eF hs2 hh;rw [e];refine M7 ?_;intros;refine Qv (⟨true,De⟩:Hv) hh (fun w=>⟨rfl,JQ,rfl⟩) ?_;have hsl:(Ly x s.j).length=((Ly x s.j).set k ⟨true,De⟩).length:=by rw [List.length_set]
  rw [hsl];have hpu:(Ly x s.j).set k ⟨true,De⟩=Lv x k ⟨true,De⟩:=by unfold Lv;rw [hjk]
  rw [hpu];have hpl2:(Lv x k ⟨true,De⟩).length≤1000:=by unfold Lv;rw [List.length_set,N7];omega
  exact BI
theorem S0 (x:An) (n:Int) (v:Value) (F:List Nat) (h0:0≤x.next) (h1:x.next≤65535) (h2:0≤n) (h3:n≤65535) (hl:x.Ap.length≤8) (hs:∀s∈x.Ap,s.De.size≤8) :
  Fn prog 255 [v,.int .i64 n] [.isv Bv v x F] [] (fun (s:Aa3)=>s.y=O0 (If (Em x.next n) x)∧s.es=Nw (Em x.next n) x++Qs (If (Em x.next n) x))
   (fun s=>.tuple #[.agg #[.int .i64 s.y.next,.slice s.a s.y.Ap.length s.c],.slice s.ae s.es.length s.ce]) (fun s=>[.isv Bv (.agg #[.int .i64 s.y.next,.slice s.a s.y.Ap.length s.c]) s.y s.F,.ow A8 9 (.slice s.ae s.es.length s.ce) s.es s.Fe]):=by
 have hgn:=Aiy x.next n;refine enter func255 rfl ntmps255 fun w0=>?_;refine Cp ?_;rintro a1 c1 F1 rfl l1;refine go ?_;intros;refine Eg [1,4,5] [0] (fun s:CpS=>[(6,Hm s.g 0 0)]) (fun s=>[.row s.g 114 0 [] [.int .i64 x.next,.slice s.a x.Ap.length s.c] [],.ow Cm 196 (.slice s.a x.Ap.length s.c) x.Ap s.F]) (fun _=>True) ?_ fun s _=>?_
 ·refine At [0,1] [8] ?_;refine Dk 0 1 3 4 ?_;refine dM 2 7 ?_ ?_
  ·apply Lr;rfl;intro _;refine C4 Cm ?_;refine dk ?_;refine dM 5 7 ?_ ?_
   ·exact BE
   ·apply Co;rfl;intro _;exact AI
  ·exact DH
 obtain ⟨gg,a2,c2,F2⟩:=s;refine A4 (xs:=x.Ap) fun F3=>?_;refine go ?_;intros;refine C4 A8 ?_;refine Ck [1,4,5,6] (fun s:Aa3=>[(7,.slice s.ae s.es.length s.ce)]) (fun s=>[.row gg 114 0 [] [.int .i64 s.y.next,.slice s.a s.y.Ap.length s.c] [],.sl Cm (.slice s.a s.y.Ap.length s.c) s.y.Ap s.F,.ow A8 9 (.slice s.ae s.es.length s.ce) s.es s.Fe]) (At3 x n) (fun s=>Em s.y.next n) ⟨[],x,a2,c2,F3,_,0,_⟩ ⟨h0,h1,hs,Nat.le_refl _,GL,rfl,rfl⟩ fun s hC=>?_;obtain ⟨n0,n1,hit,hln,hle,hw,he⟩:=hC;refine go ?_;intros;refine ce (fun w s=>Px _ _ _ GJ GJ) ?_;cases hb:Sp s.y.next n
 ·refine M7 ?_;intros;refine Ci s.y ?_;refine go ?_;intros;rw [Aiz hb] at hw he;refine cf (Uw s.y _ _ n0 n1 GJ hit) fun z hz=>?_;refine Ar ?_;refine go ?_;intros;have hr:=Amn s.y;have hzl:z.es.length≤s.y.Ap.length:=by rw [hz.2];exact hr
  refine A4 (xs:=z.es) fun F'=>?_;refine At [1] [] ?_;refine Dy 0 1 ?_;refine dt 2 ?_;refine dN 3 ?_;refine N3 Dp Hi fun a' c' F2=>?_;refine dk ?_;refine dN 4 ?_;refine oS ?_;refine dk ?_;refine dt 5 ?_;refine dd ?_;exact EQ
 have hst:=Agc hb;have hmx:(Fj s.y.Ap).size≤maxLen:=by have:=Rg hit;unfold maxLen;omega
 refine go ?_;intros;refine C4 Cm ?_;refine Be rfl (fun h4=>?_) (fun h4=>?_)
 ·refine O5 0 ?_;rintro hi b o e s1;rw [e];refine go ?_;intros;cases g1:s.y.Ap[0].Vv
  ·have hpl1:(⟨#[45]⟩:ByteArray)=Fj s.y.Ap:=(Aiv hi g1).symm;refine go ?_;intros;apply wO;refine sld 1 fun a5 c5 F5=>?_;refine go ?_;intros;rw [hpl1];apply wO;refine Oh (S9 _ hmx) Dp fun a' c' F'=>?_;refine go ?_;intros;refine ce (fun w s=>Ks _ _ _ GJ GJ) ?_;refine go ?_;intros;exact BZ
  ·have hz:=hit _ (List.getElem_mem hi);have h43:(⟨#[43]⟩:ByteArray).size=1:=rfl;have hpl2:(⟨#[43]⟩++s.y.Ap[0].De:ByteArray)=Fj s.y.Ap:=(Ab0 hi g1).symm;refine go ?_;intros;apply wO;refine sld 1 fun a5 c5 F5=>?_;refine go ?_;intros;rw [hpl2];apply wO;refine Oh (S9 _ hmx) Dp fun a' c' F'=>?_;refine go ?_;intros;refine ce (fun w s=>Ks _ _ _ GJ GJ) ?_;refine go ?_;intros
   exact BZ
 ·have hnil:s.y.Ap=[]:=List.eq_nil_of_length_eq_zero GJ;have hpl3:(⟨#[45]⟩:ByteArray)=Fj s.y.Ap:=by rw [hnil];rfl
  have hd:([]:List Hv)=s.y.Ap.drop 1:=by rw [hnil];rfl
  ·refine go ?_;intros;refine A4 (E:=Cm) (xs:=[]) fun F6=>?_;rw [show (Value.slice (some _) 0 0:Value)=Value.slice _ ([]:List Hv).length 0 from rfl];rw [hpl3];apply wO;refine Oh (S9 _ hmx) Dp fun a' c' F'=>?_;refine go ?_;intros;refine ce (fun w s=>Ks _ _ _ GJ GJ) ?_;refine go ?_;intros;rw [hd];refine Cu ⟨s.es++[Fj s.y.Ap],X3 s.y,_,0,F6,a',c',F'⟩ ⟨(Je _ _).1,(Je _ _).2,fun z hz=>hit z (List.mem_of_mem_drop hz),IS,IS,by rw [hw,hst];rfl,by rw [he,hst];simp [Nw,X3]⟩ (by show Em (Ce s.y.next 1) n < _;omega)
end Go.Proofs.YtkagnmekdkchiaaGreatDoor
namespace Go.Proofs.YtkagnmekdkchiaaGreatDoor

open Go.RowKit
end Go.Proofs.YtkagnmekdkchiaaGreatDoor
namespace Go.Proofs.YtkagnmekdkchiaaGreatDoor
open Go.RowKit
theorem Abh (x:An) (n:Int) (v:Value) (F:List Nat) (h0:0≤x.next) (h1:x.next≤65535) (h2:0≤n) (h3:n≤65535) :
  Fn prog 186 [v,.int .i64 n] [.isv Bv v x F] [] (fun (_:Unit)=>True) (fun _=>.bool (Gj x n)) (fun _=>[]):=by
 have hg:=Ky x.next n;refine enter func186 rfl ntmps186 fun w0=>?_;refine Cp ?_;rintro a1 c1 F1 rfl l1;refine go ?_;intros;refine ce (fun w s=>I1 _ _ _ GJ GJ) ?_;obtain ⟨k,hk⟩:∃k:Nat,gp x.next n=k:=⟨(gp x.next n).toNat,GJ⟩;have hh:Ie x n=I6 x.Ap k:=by unfold Ie;rw [hk,Int.toNat_natCast]
 rw [hk];refine go ?_;intros;refine ce (fun w s=>Px _ _ _ GJ GJ) ?_;cases g1:Sp n x.next
 ·refine go ?_;intros;refine Dj rfl rfl (fun h4=>?_) (fun h4=>?_)
  ·refine O5 (xs:=x.Ap) k ?_;rintro hi2 b2 o2 e s1;rw [e];refine go ?_;intros;refine ret () trivial ?_;simp [Gj,g1,hh,Kz hi2,Ss]
  ·refine go ?_;intros;refine ret () trivial ?_;simp [Gj,g1,hh,Qm (show x.Ap.length≤k by omega),Ss]
 ·refine go ?_;intros;refine ret () trivial ?_;simp [Gj,g1,Ss]
theorem Ak0 (n:Int) (j:Nat):Ce (Ce n 1) j=Ce n ((j+1:Nat):Int):=by unfold Ce;omega
theorem Rk {n:Int} (h0:0≤n) (h1:n≤65535):Ce n ((0:Nat):Int)=n:=by unfold Ce;omega
theorem Aag:∀(l:List Hv) (n:Int),0≤n→n≤65535→(rel n l).1=Ce n ((rel n l).2.2.length:Nat)
 | [],n,h0,h1=>(Rk h0 h1).symm
 | s::r,n,h0,h1=>by
  have ih:=Aag r (Ce n 1) (Je _ _).1 (Je _ _).2;unfold rel
  split
  ·dsimp only;rw [ih,Ak0,List.length_cons]
  ·exact (Rk h0 h1).symm
theorem Ahy:∀(k:Nat) (x:An),0≤x.next→x.next≤65535→(If k x).next=Ce x.next (k:Nat)∧0≤(If k x).next∧(If k x).next≤65535
 | 0,x,h0,h1=>⟨(Rk h0 h1).symm,h0,h1⟩
 | k+1,x,h0,h1=>by
  obtain ⟨a,b,c⟩:=Ahy k (X3 x) (Je _ _).1 (Je _ _).2;unfold If;exact ⟨by rw [a];show Ce (Ce x.next 1) k=_;rw [Ak0],b,c⟩
theorem Adu (n:Int) (i j:Nat):Ce (Ce n i) j=Ce n ((i+j:Nat):Int):=by unfold Ce;omega
theorem Acl (k:Nat) (x:An) (h0:0≤x.next) (h1:x.next≤65535):(O0 (If k x)).next=Ce x.next ((Nw k x++Qs (If k x)).length:Nat):=by
 obtain ⟨a,b,c⟩:=Ahy k x h0 h1;have d:(O0 (If k x)).next=Ce (If k x).next ((Qs (If k x)).length:Nat):=Aag (If k x).Ap (If k x).next b c;have e:∀(k:Nat) (x:An),(Nw k x).length=k:=by
  intro k
  induction k with
  | zero=>intro x;rfl
  | succ k ih=>intro x;unfold Nw;rw [List.length_cons,ih]
 rw [d,a,Adu,List.length_append,e]
theorem Bb4 (n:Int) (j:Nat) (hj:j≤65535):gp n (Ce n j)=j:=by unfold gp Ce;omega
theorem Wt:∀(l:List Hv) (n:Int),(rel n l).2.1=l.drop (rel n l).2.2.length∧I6 (rel n l).2.1 0=false
 | [],n=>⟨rfl,rfl⟩
 | s::r,n=>by
  have ih:=Wt r (Ce n 1);unfold rel
  split
  ·dsimp only;rw [List.length_cons,List.drop_succ_cons];exact ih
  ·rename_i h;exact ⟨rfl,by simpa [I6] using h⟩
theorem R6:∀(k:Nat) (x:An),(If k x).Ap=x.Ap.drop k
 | 0,_=>rfl
 | k+1,x=>by unfold If;rw [R6 k (X3 x)];simp [X3,Nat.add_comm]
theorem Uu (l:List Hv) (m i:Nat):I6 (l.drop m) i=I6 l (m+i):=by unfold I6;rw [List.getElem?_drop]
theorem Ack (k:Nat) (x:An) (hg:Cs x=true):Cs (O0 (If k x))=true:=by
 have g:=Q8 hg;unfold Cs at hg;simp only [Bool.and_eq_true,decide_eq_true_eq] at hg;obtain ⟨⟨⟨h1,h2⟩,h3⟩,h4⟩:=hg;obtain ⟨d1,d2⟩:=Wt (If k x).Ap (If k x).next;rw [R6,List.drop_drop] at d1;have hs:(O0 (If k x)).Ap=x.Ap.drop (k+(rel (If k x).next (x.Ap.drop k)).2.2.length):=by
  unfold O0;dsimp only;rw [R6,d1]
 have hn:=Acl k x g.n0 g.n1;generalize k+(rel (If k x).next (x.Ap.drop k)).2.2.length=m at hs;have h0:I6 (O0 (If k x)).Ap 0=false:=d2;rw [hs] at h0;have e1:B9 (O0 (If k x)).next=true:=by rw [hn];exact Un _ _
 have e2:(x.Ap.drop m).all Gs=true:=List.all_eq_true.2 fun z hz=>List.all_eq_true.1 h3 z (List.mem_of_mem_drop hz);have e3:Vt (x.Ap.drop m)=true:=by
  unfold Vt;by_cases hz:(x.Ap.drop m).length=0
  ·rw [decide_eq_true hz];rfl
  ·rw [decide_eq_false hz,h0,Uu];unfold Vt at h4;rw [List.length_drop] at hz ⊢;rw [decide_eq_false (show ¬x.Ap.length=0 by omega)] at h4;simp only [Bool.false_or,Bool.and_eq_true] at h4;rw [show m+(x.Ap.length - m - 1)=x.Ap.length - 1 by omega,h4.2];rfl
 unfold Cs;rw [e1,hs,e2,e3,decide_eq_true GU];rfl
theorem An6 {x:An} (hg:Cs x=true):I6 x.Ap 0=false:=by
 unfold Cs Vt at hg;simp only [Bool.and_eq_true,Bool.or_eq_true,decide_eq_true_eq,Bool.not_eq_true'] at hg;rcases hg.2 with h|h
 ·exact Qm GJ
 ·exact h.1
theorem Aqk (x:An):(Qs x).length≤x.Ap.length:=by
 unfold Qs;have:∀(l:List Hv) n,(rel n l).2.2.length≤l.length:=by
  intro l
  induction l with
  | nil=>intro n;exact Nat.le_refl _
  | cons s r ih =>
   intro n;unfold rel
   split
   ·dsimp only;rw [List.length_cons,List.length_cons];exact Nat.succ_le_succ (ih _)
   ·exact Nat.zero_le _
 exact this _ _
theorem Ahz (l:List Hv) (k i:Nat) (s:Hv) (hk:k < l.length):I6 (l.set k s) i=if i=k then s.Vv else I6 l i:=by
 unfold I6;rw [List.getElem?_set];by_cases h:k=i
 ·subst h;simp [hk]
 ·rw [if_neg h,if_neg (fun e=>h e.symm)]
theorem Amh (x:An) (k:Nat) (s:Hv):(Lv x k s).length=max x.Ap.length (k+1):=by
 unfold Lv;rw [List.length_set,N7];omega
theorem Aqh (x:An) (k:Nat) (s:Hv):I6 (Lv x k s) k=s.Vv:=by
 unfold Lv;rw [Ahz _ _ _ _ (by rw [N7];omega),if_pos rfl]
theorem Awj (x:An) (k:Nat) (s:Hv):(Lv x k s)[k]?=some s:=by
 unfold Lv;rw [List.getElem?_set_self (by rw [N7];omega)]
theorem Az0 {x:An} {k:Nat} {s:Hv} (hx:x.Ap.all Gs=true) (hs:Gs s=true):(Lv x k s).all Gs=true:=by
 rw [List.all_eq_true] at hx ⊢;intro z hz;unfold Lv at hz;rcases List.mem_or_eq_of_mem_set hz with h|rfl
 ·unfold Ly at h;rcases List.mem_append.1 h with h|h
  ·exact hx z h
  ·rw [(List.mem_replicate.1 h).2];decide
 ·exact hs
theorem As4 {x:An} {k:Nat} {s:Hv} (hx:Vt x.Ap=true) (hs:s.Vv=true):I6 (Lv x k s) ((Lv x k s).length - 1)=true:=by
 rw [Amh];by_cases h:x.Ap.length≤k+1
 ·rw [show max x.Ap.length (k+1) - 1=k by omega,Aqh];exact hs
 ·unfold Lv;rw [Ahz _ _ _ _ (by rw [N7];omega),if_neg GJ];unfold Vt at hx;rw [decide_eq_false GJ] at hx;simp only [Bool.false_or,Bool.and_eq_true] at hx;rw [show max x.Ap.length (k+1) - 1=x.Ap.length - 1 by omega];unfold Ly;rw [show k+1 - x.Ap.length=0 by omega];simpa using hx.2
theorem Awp {n:Int} {L:List Hv} (hn:B9 n=true) (ho:L.all Gs=true) (hl:L.length≤8) (he:I6 L (L.length - 1)=true∨L=[]):Cs (O0 ⟨n,L⟩)=true:=by
 obtain ⟨d1,d2⟩:=Wt L n;have hs:(O0 ⟨n,L⟩).Ap=L.drop (rel n L).2.2.length:=d1;obtain ⟨p0,p1⟩:=Bb.1 hn;have hnx:(O0 ⟨n,L⟩).next=Ce n ((rel n L).2.2.length:Nat):=Aag L n p0 p1;generalize (rel n L).2.2.length=m at hs hnx;have h0:I6 (O0 ⟨n,L⟩).Ap 0=false:=d2;rw [hs] at h0;have e1:B9 (O0 ⟨n,L⟩).next=true:=by rw [hnx];exact Un _ _
 have e2:(L.drop m).all Gs=true:=List.all_eq_true.2 fun z hz=>List.all_eq_true.1 ho z (List.mem_of_mem_drop hz);have e3:Vt (L.drop m)=true:=by
  unfold Vt;by_cases hz:(L.drop m).length=0
  ·rw [decide_eq_true hz];rfl
  ·rw [decide_eq_false hz,h0,Uu];rw [List.length_drop] at hz ⊢;rcases he with he|he
   ·rw [show m+(L.length - m - 1)=L.length - 1 by omega,he];rfl
   ·subst he;simp at hz
 unfold Cs;rw [e1,hs,e2,e3,decide_eq_true GU];rfl
theorem Av0 (x:An) (n:Int) (s:ByteArray):(I8 x n s).2.2=true→Cs x=true∧B9 n=true∧Cs (I8 x n s).1=true∧gp x.next (I8 x n s).1.next=((I8 x n s).2.1.length:Nat)∧Gj (I8 x n s).1 n=true∧(n=x.next→∃r,(I8 x n s).2.1=Aft s::r)∧(I8 x n s).2.1.length≤8∧s.size≤8:=by
 unfold I8
 split
 rotate_left
 ·intro h;cases h
 rename_i h;intro _;unfold U3 at h;simp only [Bool.and_eq_true] at h;obtain ⟨⟨⟨h1,h2⟩,h3⟩,h4⟩:=h;have g:=Q8 h1;have p0:=g.n0;have p1:=g.n1;have pl:=g.l;obtain ⟨n0,n1⟩:=Bb.1 h2;refine ⟨h1,h2,?_⟩;dsimp only;cases ht:Gj x n with
 | true =>
  have eW:Ls x n s=x:=by unfold Ls;rw [ht];rfl
  have eE:Li x n s=[]:=by unfold Li;rw [ht];rfl
  rw [eW,eE];refine ⟨h1,?_,ht,fun e=>?_,GL,T4 h3⟩
  ·unfold gp;simp
  ·subst e;exfalso;unfold Gj at ht;rw [Bool.or_eq_true] at ht;rcases ht with h|h
   ·unfold Sp gp at h;simp at h;exact absurd h GM
   ·unfold Ie at h;rw [show gp x.next x.next=0 by unfold gp;omega] at h;rw [show (0:Int).toNat=0 from rfl,An6 h1] at h;cases h
 | false =>
  have hk8:gp x.next n < 8:=by unfold Mz at h4;rw [ht] at h4;simpa using h4
  have hgb:=Ky x.next n;obtain ⟨k,hk⟩:∃k:Nat,gp x.next n=k:=⟨(gp x.next n).toNat,GJ⟩;have eW:Ls x n s=O0 ⟨x.next,Lv x k ⟨true,s⟩⟩:=by unfold Ls;rw [ht,decide_eq_true hk8];unfold X2;rw [hk,Int.toNat_natCast];rfl
  have eE:Li x n s=(rel x.next (Lv x k ⟨true,s⟩)).2.2:=by unfold Li;rw [ht,decide_eq_true hk8];unfold X2;rw [hk,Int.toNat_natCast];rfl
  have hx:x.Ap.all Gs=true∧Vt x.Ap=true:=by
   unfold Cs at h1;simp only [Bool.and_eq_true] at h1;exact ⟨h1.1.2,h1.2⟩
  have hos:Gs ⟨true,s⟩=true:=by unfold Gs;rw [h3];rfl
  have hL:=Amh x k ⟨true,s⟩;have hat:=Aqh x k ⟨true,s⟩;have hget:=Awj x k ⟨true,s⟩;have ho:=Az0 (k:=k) hx.1 hos;have hla:=As4 (k:=k) (s:=⟨true,s⟩) hx.2 rfl;rw [eW,eE];generalize Lv x k ⟨true,s⟩=L at *;have hl8:L.length≤8:=by omega
  have hrl:(rel x.next L).2.2.length≤L.length:=by
   have:=Aqk ⟨x.next,L⟩;unfold Qs at this;dsimp only at this;omega
  obtain ⟨d1,d2⟩:=Wt L x.next;have hnx:=Aag L x.next p0 p1;have hn:n=Ce x.next (k:Nat):=by rw [←hk];unfold gp Ce;omega
  refine ⟨Awp (Bb.2 ⟨p0,p1⟩) ho hl8 (.inl hla),?_,?_,?_,GJ,T4 h3⟩
  ·show gp x.next (rel x.next L).1=_;rw [hnx];exact Bb4 _ _ GJ
  ·unfold Gj;show (Sp n (rel x.next L).1 || I6 (rel x.next L).2.1 (gp (rel x.next L).1 n).toNat)=true;rw [hnx,d1];generalize (rel x.next L).2.2.length=m at *;by_cases hkm:k < m
   ·rw [show Sp n (Ce x.next (m:Nat))=true by rw [hn];unfold Sp Eu gp Ce;rw [Bool.and_eq_true];simp only [decide_eq_true_eq];omega];rfl
   ·rw [show gp (Ce x.next (m:Nat)) n=((k - m:Nat):Int) by rw [hn];unfold gp Ce;omega,Int.toNat_natCast,Uu,show m+(k - m)=k by omega,hat];simp
  ·intro e;have hk0:k=0:=by rw [e] at hk;unfold gp at hk;omega
   subst hk0;cases L with
   | nil=>simp at hget
   | cons z r =>
    simp at hget;subst hget;exact ⟨(rel (Ce x.next 1) r).2.2,by simp [rel]⟩
theorem Amo {s:ByteArray} (h:s.size≤maxLen) (w:World):Cw A8 w [.string s] [s] []:=⟨_,[],[],[],GL,GL,⟨rfl,h,rfl⟩,rfl,rfl⟩
theorem Akg {c:Cx} {fr:Fr} {H:List Pc} {Φ:Gl} {α:Type} {E:Bx α} {v:Value} {xs:List α} {F:List Nat} (h:∀a cp,v=.slice a xs.length cp→xs.length≤cp→cp≤9223372036854775807→T c fr H Φ) (hm:.sl E v xs F∈H:=by exact Bp):T c fr H Φ:=.mk fun ac w s g=>by
 obtain ⟨-,hs⟩:=s.get hm;obtain ⟨a,cp,rfl⟩:=hs.slice;obtain ⟨-,h2,h3⟩:=hs.caps;exact (h a cp rfl h2 (by unfold maxLen at h3;omega)).h ac w s g
theorem Ic {c:Cx} {fr:Fr} {H:List Pc} {Φ:Gl} {α:Type} {E:Bx α} {t g:Nat} {cs:List Value} {xs:List α} {S:List Pc} (hfl:∀w,Cw E w cs xs []) (h:T c fr (.ow E t (.slice (some ⟨g,0,none⟩) xs.length xs.length) xs [g]::S) Φ) (hl:xs.length≤1048576) (hp:Cz H (.row g t 0 [] cs []) S:=by exact Df):T c fr H Φ:=.mk fun a w s g'=>by
 have s1:=s.pick hp;have hr:=(s1.on (.row g t 0 [] cs []) GL).2;have hlen:=(hfl w).len;refine h.h a w (s1.conv rfl ⟨GL,.inr ⟨g,xs.length,cs,[],[],rfl,HY,Nat.le_refl _,GZ,by simpa using hlen,hfl w,rfl⟩⟩ JK) g'
theorem Ay6 {P:Program} {f:FuncId} {args:List Value} {A:List Pc} {σ:Type} {C:σ→Prop} {v:σ→Value} {N:σ→Pc}
  (h:∀w,O2 A w→Calls P f args.toArray w fun e w'=>∃s,C s∧e=.returned (v s)∧(N s).P w'∧(∀b∈(N s).F,w.heap.size≤b)∧Below w.heap.size w w'):Fn P f args A [] C v (fun s=>[N s]):=fun w hA _=>by
 refine (h w JJ).mono ?_;rintro e w' ⟨s,hC,he,hN,hF,hB⟩;refine ⟨s,hC,he,I9 hN,⟨GL,trivial⟩,Dn.ofBelow hB,fun p hp b hb=>?_⟩;simp at hp;subst hp;exact .inl (hF b hb)
def Qu (t:Int) (k:Nat):List Int:=(List.range k).map fun i=>Ce t (i:Nat)
theorem Za (t:Int) (k:Nat):Qu t (k+1)=Qu t k++[Ce t (k:Nat)]:=by unfold Qu;rw [List.range_succ,List.map_append];rfl
theorem Ab2 (t:Int) (k:Nat):(Qu t k).length=k:=by unfold Qu;simp
theorem Rd (n:Int) (w:World):Cw Bc w [.int .i64 n] [n] []:=⟨_,[],[],[],GL,GL,⟨rfl,rfl⟩,rfl,rfl⟩
structure SpS where
 k:Nat
 a:Option Addr
 c:Nat
 F:List Nat
theorem Bcu (t:Int) (n:Nat) (t0:0≤t) (t1:t≤65535) (hn:n≤65536):Fn prog 350 [.int .i64 t,.int .i64 (n:Nat)] [] [] (fun (_:Option Addr × Nat × List Nat)=>True) (fun s=>.slice s.1 (Qu t n).length s.2.1) (fun s=>[.ow Bc 3 (.slice s.1 (Qu t n).length s.2.1) (Qu t n) s.2.2]):=by
 refine enter func350 rfl ntmps350 fun w0=>?_;refine go ?_;intros;refine Br Bc 3 ?_;refine Ck [0,4,7] (fun s:SpS=>[(5,.slice s.a (Qu t s.k).length s.c),(8,.int .i64 (s.k:Nat))]) (fun s=>[.ow Bc 3 (.slice s.a (Qu t s.k).length s.c) (Qu t s.k) s.F]) (fun s=>s.k≤n) (fun s=>n - s.k) ⟨0,none,0,[]⟩ (Nat.zero_le _) fun s hs=>?_;obtain ⟨k,a,c,F⟩:=s;dsimp only at hs ⊢;have hl:=Ab2 t k;refine go ?_;intros;refine Be rfl (fun h1=>?_) (fun h1=>?_)
 ·refine go ?_;intros;refine ce (fun w s=>Q5 _ _ _ GJ GJ) ?_;refine go ?_;intros;apply wO;refine Oh (Rd _) C5 fun a2 c2 F2=>?_;refine go ?_;intros;rw [←Za];refine Cu ⟨k+1,a2,c2,F2⟩ (by show k+1≤n;omega) (by show n - (k+1) < n - k;omega)
 ·have hk:k=n:=by omega
  subst hk;refine go ?_;intros;refine ret (a,c,F) trivial rfl
section
variable {P:Program} {n:Nat} {fr:Fr} {H:List Pc} {ty:TypeId} {x y z:Operand}
theorem Agr {t:TypeId} {s:ByteArray} {kd:IntKind} {i:Int} [hS:StrC P t] (hx:ev fr x=some (.string s)) (hy:ev fr y=some (.int kd i)) (h0:0≤i) (h1:i≤s.size):Yd P n fr H (.slice t x (some y) none none) ty (.string (s.extract i.toNat s.size)):=.mk fun a w d pos Ce g hA _=>by
 have h3:(Instr.sliceAt t (.string s) (some (.int kd i)) none none).run P w=.ok (.string (s.extract i.toNat s.size)) w:=by
  rw [run_sliceAt_string (h:=hS.u),run_slice_string_l (ht:=hS.u) (h0:=h0) (h1:=h1)]
 exact AY
theorem Bdn {t:TypeId} {s:ByteArray} {kd:IntKind} {i:Int} [hS:StrC P t] (hx:ev fr x=some (.string s)) (hy:ev fr y=some (.int kd i)) (h0:0≤i) (h1:i≤s.size):Yd P n fr H (.slice t x none (some y) none) ty (.string (s.extract 0 i.toNat)):=.mk fun a w d pos Ce g hA _=>by
 have h3:(Instr.sliceAt t (.string s) none (some (.int kd i)) none).run P w=.ok (.string (s.extract 0 i.toNat)) w:=by
  rw [run_sliceAt_string (h:=hS.u),run_slice_string_h (ht:=hS.u) (h0:=h0) (h2:=h1)]
 exact AY
theorem Bdm {t:TypeId} {s:ByteArray} {kd kd2:IntKind} {i j:Int} [hS:StrC P t] (hx:ev fr x=some (.string s)) (hy:ev fr y=some (.int kd i)) (hz:ev fr z=some (.int kd2 j)) (h0:0≤i) (h1:i≤j) (h2:j≤s.size):Yd P n fr H (.slice t x (some y) (some z) none) ty (.string (s.extract i.toNat j.toNat)):=.mk fun a w d pos Ce g hA _=>by
 have h3:(Instr.sliceAt t (.string s) (some (.int kd i)) (some (.int kd2 j)) none).run P w=.ok (.string (s.extract i.toNat j.toNat)) w:=by
  rw [run_sliceAt_string (h:=hS.u),run_slice_string (h:=hS.u) (h0:=h0) (h1:=h1) (h2:=h2)]
 exact FP
end
section
variable {c:Cx} {fr:Fr} {H:List Pc} {k:List It} {Φ:Gl} {ops:Array Oper} {rest:List Oper} {d:Nat} {o:Op} {ty:TypeId} {v u:Value} {x y:Operand}
theorem Ag4 {t e m b:Nat} {z:Value} [hS:SlC c.P t e m] [hE:ElT c.P e z m b] (k:Nat) {kl kc:IntKind} {cs:List Value} (hd:Nat.blt d c.n=true) (hx:ev fr x=some (.int kl (k:Nat))) (hy:ev fr y=some (.int kc (k:Nat))) (hcs:madeCells z.cells (k * m)=cs.toArray) (hb:b * k≤281474976710656) (h63:k≤9223372036854775807)
  (h:∀g,T c ((d,.slice (some ⟨g,0,none⟩) k k)::fr) (.row g e 0 [] cs []::H) Φ):On c fr H (some d) (.makeSlice t x y) ty Φ:=⟨fun _ _ _=>Ok fun Q a w s g=>by
 obtain ⟨i,hi,hiz⟩:=Option.map_eq_some_iff.1 hE.i;simp only [Prod.mk.injEq] at hiz;obtain ⟨i1,i2,i3⟩:=hiz
 have hb':(i.bytes:Int) * ((k:Nat):Int)≤281474976710656:=by rw [i3];have:((b * k:Nat):Int)≤281474976710656:=by omega
                                                            rwa [Int.natCast_mul] at this
 have hr:=run_make (P:=c.P) w t e i z hS.u hi i1 kl kc (k:Nat) (k:Nat) GJ GJ hb' GJ;simp only [Int.toNat_natCast,i2,hcs] at hr;have e1:∀pos Ce gd,(execOp a.eval ⟨some d,.makeSlice t x y,ty,pos,Ce,gd⟩).run c.P w=.ok (.value (.slice (some ⟨w.heap.size,0,none⟩) k k)) (w.alloc (.cells cs.toArray e)):=by
  intro pos Ce gd;simp [execOp,g.ev hx,g.ev hy,hr]
 rw [e1];exact (h _).h _ _ (s.new e cs) (g.put hd)⟩
theorem Ad3 {fo:Operand} {f:Nat} {caps:List Value} {aS:List Operand} {ts:Array TypeId} {vs:List Value} (hd:Nat.blt d c.n=true) (hf:ev fr fo=some (.func (.func f) #[] caps.toArray)) (hb:Qi c.P f=true) (ha:Evs fr aS vs) (h:Cl c fr H d f (vs++caps) Φ):On c fr H (some d) (.call { callee:=.value fo,args:=aS.toArray,argTypes:=ts }) ty Φ:=⟨fun _ _ _=>Ok fun Q a w s g=>by
 have e:∀pos Ce gd,(execOp a.eval ⟨some d,.call { callee:=.value fo,args:=aS.toArray,argTypes:=ts },ty,pos,Ce,gd⟩).run c.P w=(callFunc f (vs++caps).toArray).run c.P w:=by
  intro pos Ce gd;simp [execOp,resolve,Deferred.ofValue,g.ev hf,invoke,g.evs ha]
 rw [e];obtain ⟨R,hc,hk⟩:=h.h w s;refine (Uo hb).upon hc fun e w' hR=>?_;obtain ⟨v,he,hv⟩:=hk e w' hR;exact ⟨v,he,hv _ (g.put hd)⟩⟩
theorem Aqr {α:Type} {E:Bx α} {a:Option Addr} {n cp:Nat} {xs:List α} {F:List Nat} (k:Nat) (h:∀F',T c fr (.sl E (.slice a (xs.take k).length cp) (xs.take k) F'::H) Φ) (hk:k≤xs.length) (hm:.sl E (.slice a n cp) xs F∈H:=by exact Bp):T c fr H Φ:=.mk fun ac w s g=>by
 obtain ⟨hz,hs⟩:=s.get hm;obtain ⟨F',hF,h2⟩:=hs.takeS k hk;have hl:(xs.take k).length=k:=by simp [Nat.min_eq_left hk]
 have h':=h F';rw [hl] at h';exact h'.h _ w (s.ro hm rfl rfl ⟨hz,h2⟩ hF) g
end
theorem Kr:∀(H:List Pc),Ku H H
 | []=>.nil
 | _::R=>.cons .here (Kr R)
theorem Cw.all {α:Type} {E:Bx α} {w:World} {cs:List Value} {xs:List α} (h:Cw E w cs xs []) (w':World):Cw E w' cs xs []:=h.frame GL
theorem Cw.cutL {α:Type} {E:Bx α} {w:World} {cs:List Value} {xs:List α} (h:Cw E w cs xs []) (i:Nat) (hi:i≤xs.length):Cw E w (cs.take (i * E.sz)) (xs.take i) []∧Cw E w (cs.drop (i * E.sz)) (xs.drop i) []:=by
 rw [←List.take_append_drop i xs] at h;obtain ⟨c1,c2,G1,G2,rfl,hG,h1,h2⟩:=h.split;obtain ⟨rfl,rfl⟩:=List.append_eq_nil_iff.1 hG.symm;have hl:=h1.len;rw [List.length_take,Nat.min_eq_left hi] at hl;rw [List.take_left' hl,List.drop_left' hl];exact ⟨h1,h2⟩
theorem Cw.insL {α:Type} {E:Bx α} {w:World} {cs c1:List Value} {xs:List α} {x:α} (h:Cw E w cs xs []) (h1:Cw E w c1 [x] []) (i:Nat) (hi:i≤xs.length):Cw E w (cs.take (i * E.sz)++c1++cs.drop (i * E.sz)) (xs.take i++x::xs.drop i) []:=by
 obtain ⟨ha,hb⟩:=h.cutL i hi;have:=(ha.append h1).append hb;exact GF
section
variable {P:Program} {n:Nat} {fr:Fr} {H:List Pc} {ty:TypeId} {x y z:Operand}
theorem Kb {t e m i g o len cp:Nat} {kd:IntKind} {q:Int} [hS:SlC P t e m] (hx:ev fr x=some (.slice (some ⟨g,o,none⟩) len cp)) (hy:ev fr y=some (.int kd q)) (hq:q=(i:Int)) (hi:i≤len) (hc:i < cp) (hlc:len≤cp):Yd P n fr H (.slice t x (some y) none none) ty (.slice (some ⟨g,o+i * m,none⟩) (len - i) (cp - i)):=.mk fun ac w d pos Ce gd hA _=>by
 subst hq;have he2:P.elem t=e:=by simp [Program.elem,hS.u]
 have h3:(Instr.sliceAt t (.slice (some ⟨g,o,none⟩) len cp) (some (.int kd (i:Int))) none none).run P w=.ok (.slice (some ⟨g,o+i * m,none⟩) (len - i) (cp - i)) w:=by
  rw [run_sliceAt_slice (h:=HH),run_slice_l (ht:=HH) (h0:=GJ) (h1:=GJ),he2,Mk hS.s];have h0:¬(cp - i=0):=by omega
  have h0':¬(cp=i):=by omega
  simp [Result.andThen,sliced,h0,h0',Addr.add_lit]
 exact AY
theorem Apm {k:IntKind} {a:Int} {s t:TypeId} [hS:IntC P s k] [hD:IntC P t .u64] (hx:ev fr x=some (.int k a)) (h0:0≤a) (h1:a≤18446744073709551615):Yd P n fr H (.convert s t x) ty (.int .u64 a):=.mk fun c w d pos Ce gd hA _=>by
 simp [execOp,hA.ev hx,convert,run_underlying hS.u,run_underlying hD.u,Conv.intToInt,IntWalk.u64_in _ ⟨h0,h1⟩]
theorem Akn {a:Int} {t t':TypeId} (hx:ev fr x=some (.int .u64 a)):Yd P n fr H (.binOp .shr t x (.const (.int .u64 1)) t') ty (.int .u64 (a / 2)):=.mk fun c w d pos Ce gd hA _=>by
 have e:Op.shift .shr .u64 a .u64 1=pure (.int .u64 (a / 2)):=by rw [shift_shr .u64 .u64 a 1 GM GM];rfl
 have e2:binOp .shr t (.int .u64 a) (.int .u64 1)=Op.shift .shr .u64 a .u64 1:=rfl;have e3:c.eval (.const (.int .u64 1))=.int .u64 1:=rfl;simp only [execOp,hA.ev hx,e3,eqGuard_shr,e2,e,Sem.run_bind,Sem.run_pure,Result.andThen_ok]
theorem Apl {a:Option Addr} {len cp t e m:Nat} [hS:SlC P t e m] (hx:ev fr x=some (.slice a len cp)):Yd P n fr H (.call { callee:=.builtin .cap,args:=#[x],argTypes:=#[t] }) ty (.int .i64 cp):=.mk fun ac w d pos Ce gd hA _=>by
 simp [execOp,hA.ev hx,resolve,invoke,builtin,Builtin.cap_,run_underlying hS.u,goInt]
end
section
variable {c:Cx} {fr:Fr} {H k':List Pc} {k:List It} {Φ:Gl} {d:Nat} {o:Op} {ty:TypeId} {v u:Value} {x y:Operand}
theorem Akf {α:Type} {E:Bx α} (sc:Zp E) {t n cp:Nat} {a:Option Addr} {xs:List α} {F:List Nat} {S:List Pc} (h0:xs≠[])
  (h:∀g cs rest,a=some ⟨g,0,none⟩→n=xs.length→xs.length≤cp→cp≤9223372036854775807→cs.length=xs.length * E.sz→cs.length+rest.length=cp * E.sz→(∀w,Cw E w cs xs [])→T c fr (.row g t 0 [] (cs++rest) []::S) Φ)
  (hp:Cz H (.ow E t (.slice a n cp) xs F) S:=by exact Df):T c fr H Φ:=.mk fun ac w s g'=>by
 have s1:=s.pick hp;obtain ⟨hnd,ho⟩:=s1.on (.ow E t (.slice a n cp) xs F) GL;have hF:=ho.scal sc;rcases ho with ⟨-,h2, -⟩|⟨g,cap,cs,rest,G,h1,h2,h3,h4,h5,h6,h7⟩
 ·exact absurd h2 h0
 ·cases h1;have hG:G=[]:=by rw [h7] at hF;simpa [Value.ownBlock] using hF
  subst hG h7;have hl:=h6.len;refine (h g cs rest rfl rfl h3 (by unfold maxLen at h4;omega) hl h5 (fun w'=>h6.all w')).h ac w (s1.conv rfl ⟨rfl,JC⟩ JK) g'
theorem Ab5 {α:Type} {E:Bx α} {t g:Nat} {L cs rest:List Value} {xs:List α} {S:List Pc} (cp:Nat) (hL:L=cs++rest) (hf:∀w,Cw E w cs xs []) (h1:xs.length≤cp) (h2:cp≤9223372036854775807) (h3:L.length=cp * E.sz)
  (h:T c fr (.ow E t (.slice (some ⟨g,0,none⟩) xs.length cp) xs [g]::S) Φ) (hp:Cz H (.row g t 0 [] L []) S:=by exact Df):T c fr H Φ:=.mk fun ac w s g'=>by
 subst hL;have s1:=s.pick hp;have hr:=(s1.on (.row g t 0 [] (cs++rest) []) GL).2;exact h.h ac w (s1.conv rfl ⟨GL,.inr ⟨g,cp,cs,rest,[],rfl,HY,h1,GZ,JO,hf w,rfl⟩⟩ JK) g'
theorem Awc {f:Nat} {aS:List Operand} {ts:Array TypeId} {vs:List Value} (hd:Nat.blt d c.n=true) (ha:Evs fr aS vs) (hv:∀w,St c.G c.D c.w0 H w→(callFunc f vs.toArray).run c.P w=.ok (.value v) w) (h:T c ((d,v)::fr) H Φ):On c fr H (some d) (.call { callee:=.value (.func f),args:=aS.toArray,argTypes:=ts }) ty Φ:=⟨fun _ _ _=>Ok fun Q a w s g=>by
 have e:∀pos Ce gd,(execOp a.eval ⟨some d,.call { callee:=.value (.func f),args:=aS.toArray,argTypes:=ts },ty,pos,Ce,gd⟩).run c.P w=.ok (.value v) w:=by
  intro pos Ce gd;simp [execOp,resolve,Deferred.ofValue,Act.eval,invoke,g.evs ha,hv w s]
 rw [e];exact h.h _ _ s (g.put hd)⟩
theorem Aiu {w:World} {g:Nat} {t:TypeId} {cs:List Value} (h:Ha w g t cs):w.shape? g=some (t,cs.length):=by
 unfold World.shape?;rw [show w.heap[g]?=_ from h];simp
theorem ovl {f:Nat} {tS tR e m:Nat} [hS:SlC c.P tS e m] {g o g2 o2 la ca lb cb t1 t2:Nat} {L L2:List Value}
  (he:∀(args:Array Value) (w:World),(callFunc f args).run c.P w=((Extern.SlicesOverlaps.overlaps #[tS,tS] #[tR] args).run c.P w).andThen fun v w=>.ok (.value v) w)
  (h1:Cz H (.row g t1 0 [] L []) k') (h2:.row g2 t2 0 [] L2 []∈k') (hL:L2≠[]) (w:World) (s:St c.G c.D c.w0 H w) :
  (callFunc f [Value.slice (some ⟨g,o,none⟩) la ca,.slice (some ⟨g2,o2,none⟩) lb cb].toArray).run c.P w=.ok (.value (.bool false)) w:=by
 have s1:=s.pick h1;have r1:=(s1.on (.row g t1 0 [] L []) GL).2;have r2:=(s1.on (.row g2 t2 0 [] L2 []) (by simp [h2])).2;have hne:g≠g2:=fun e'=>s1.sep.1 (.row g2 t2 0 [] L2 []) h2 (by simp [Pc.mu]) g JK (by simp [Pc.F,e']);simp only [List.nil_append,List.append_nil] at r1 r2;rw [he,Lib.run_overlaps_apart w tS tR e hS.u m (fun w=>Mk hS.s w) ⟨g,o,none⟩ ⟨g2,o2,none⟩ la ca lb cb hne t1 t2 L.length L2.length (Aiu r1) (Aiu r2) (by simpa using hL) (r1.frozen _) (r1.frozen _)];rfl
theorem Adh {P M Q d L:List Value} {o:Nat} (hL:L=P++M++Q) (ho:o=P.length) (hd:M.length=d.length):P++d++Q=L.take o++d++L.drop (o+d.length):=by
 subst hL ho;rw [List.append_assoc P M Q,List.take_left,←hd,←List.append_assoc,←List.length_append,List.drop_left]
theorem Ao4 {B R:List Value} (m:Nat) (h:m≤R.length):∃X Y,B++R=X++Y++R.drop m∧X.length=m∧Y.length=B.length:=by
 refine ⟨(B++R).take m,((B++R).drop m).take B.length,?_,GU,GU⟩;have:R.drop m=((B++R).drop m).drop B.length:=by rw [List.drop_drop,Nat.add_comm,←List.drop_drop,List.drop_left]
 rw [this,List.append_assoc,List.take_append_drop,List.take_append_drop]
theorem Ml {g t o m:Nat} {L cs:List Value} (h1:.row g t 0 [] L []∈H) (hc:cs=(L.drop o).take m) (w:World) (s:St c.G c.D c.w0 H w):∀j u,cs[j]?=some u→w.cell? ((⟨g,o,none⟩:Addr).add j)=some u:=fun j u hu=>by
 subst hc;have r1:=(s.on (.row g t 0 [] L []) h1).2;simp only [List.nil_append,List.append_nil] at r1;rw [Addr.add_lit,r1.cell];rw [List.getElem?_take] at hu
 split at hu
 ·rw [List.getElem?_drop] at hu;exact hu
 ·cases hu
theorem Atf {P:Program} (w:World) (dT sT ty elem m:TypeId) (b o dLen dCap:Nat) (a:Addr) (sLen sCap:Nat) (cs:List Value)
  (hu:P.underlying dT=some (.slice elem)) (hs:(P.info? elem).map (·.size)=some m) (hn:cs.length=Nat.min sLen dLen * m)
  (hsrc:∀j v,cs[j]?=some v→w.cell? (a.add j)=some v) (hc:∀j,j < cs.length→(w.cell? ⟨b,o+j,none⟩).isSome=true) (hf:∀j,j < cs.length→w.frozen? ⟨b,o+j,none⟩=false) (h1:∀v∈cs,v.oneCell'=true) :
  (Builtin.copy_ #[dT,sT] ty #[.slice (some ⟨b,o,none⟩) dLen dCap,.slice (some a) sLen sCap]).run P w=.ok (goInt (Nat.min sLen dLen:Nat)) (w.setCells b o cs):=by
 have hl:=run_loadCells_list (P:=P) w a cs hsrc;have hst:=run_storeCells_cells (P:=P) b o cs 0 w (by simpa using hc) (by simpa using hf) h1;cases hq:P.info? elem with
 | none=>simp [hq] at hs
 | some i =>
  have hi:i.size=m:=by simpa [hq] using hs
  simp [Builtin.copy_,run_underlying hu,Builtin.lenOf,Builtin.firstCells,sizeOf,typeInfo,hq,hi,←hn,hl,hst]
theorem Vr {dT sT e m g t oo dn dc sn sc:Nat} {ad:Addr} {L L' cs:List Value} {S:List Pc} [hS:SlC c.P dT e m] (hd:Nat.blt d c.n=true) (hx:ev fr x=some (.slice (some ⟨g,oo,none⟩) dn dc)) (hy:ev fr y=some (.slice (some ad) sn sc))
  (hsrc:∀w,St c.G c.D c.w0 H w→∀j u,cs[j]?=some u→w.cell? (ad.add j)=some u) (hr:Rpl H (.row g t 0 [] L []) (.row g t 0 [] L' []) S)
  (hL:L'=L.take oo++cs++L.drop (oo+cs.length)) (hn:cs.length=Nat.min sn dn * m) (hfit:oo+cs.length≤L.length) (h1:∀v∈cs,v.oneCell'=true) (h:T c ((d,.int .i64 (Nat.min sn dn:Nat))::fr) S Φ) :
  On c fr H (some d) (.call { callee:=.builtin .copy,args:=#[x,y],argTypes:=#[dT,sT] }) ty Φ:=⟨fun _ _ _=>Ok fun Q a w s ag=>by
 have hP:(Pc.row g t 0 [] L []).P w:=by obtain ⟨R,h1,_⟩:=hr.picks;exact s.on _ h1.mem
 have r1:=hP.2;simp only [List.nil_append,List.append_nil] at r1;have hrun:=fun ty=>Atf (P:=c.P) w dT sT ty e m g oo dn dc ad sn sc cs hS.u hS.s hn (hsrc w s) (fun j hj=>by rw [r1.cell,List.getElem?_eq_getElem GJ];rfl) (fun j hj=>r1.frozen _) h1;have e1:∀pos Ce gd,(execOp a.eval ⟨some d,.call { callee:=.builtin .copy,args:=#[x,y],argTypes:=#[dT,sT] },ty,pos,Ce,gd⟩).run c.P w=.ok (.value (goInt (Nat.min sn dn:Nat))) (w.setCells g oo cs):=by
  intro pos Ce gd;simp only [execOp,resolve,invoke,builtin,Sem.run_bind,Sem.run_pure,Result.andThen_ok,List.map_toArray,List.map_cons,List.map_nil,ag.ev hx,ag.ev hy,hrun]
 rw [e1];have hsplit:L=L.take oo++(L.drop oo).take cs.length++L.drop (oo+cs.length):=by
  rw [←List.drop_drop,List.append_assoc,List.take_append_drop,List.take_append_drop]
 have r2:=r1;rw [hsplit] at r2;have r3:=Ha.put cs _ r2 (p:=oo) GU GU;have hk:=Ln (g:=g) cs w oo;rw [Mb w g cs w] at r3 hk;rw [←hL] at r3;refine h.h _ _ (s.rpl hr rfl (fun b hb=>.inl hb) hk ⟨rfl,by simpa using r3⟩) (ag.put hd)⟩
theorem Aol {t tn e m b g oo n cp k:Nat} {zv:Value} {olds:List Value} {q:Int} [hS:SlC c.P t e m] [hE:ElT c.P e zv m b] [hI:IntC c.P tn .i64] (hd:Nat.blt d c.n=true) (hx:ev fr x=some (.slice (some ⟨g,oo,none⟩) n cp)) (hy:ev fr y=some (.int .i64 q)) (hq:q=(k:Int))
  (hso:∀w,St c.G c.D c.w0 H w→∀j u,olds[j]?=some u→w.cell? ((⟨g,oo,none⟩:Addr).add j)=some u)
  (hlo:olds.length=n * m) (hm:0 < m) (hk:0 < k) (hg:cp < n+k) (h63:n+k≤4294967296) (hby:(n+k) * b≤140737488355328)
  (h:∀g' cp' Z rest,n+k≤cp'→cp'≤9223372036854775807→Z.length=k * m→(olds++Z++rest).length=cp' * m→T c ((d,.slice (some ⟨g',0,none⟩) ((n+k:Nat)) cp')::fr) (.row g' e 0 [] (olds++Z++rest) []::H) Φ) :
  On c fr H (some d) (.call { callee:=.builtin .append,args:=#[x,y],argTypes:=#[t,tn] }) ty Φ:=⟨fun _ _ _=>Ok fun Q a w s ag=>by
 subst hq;obtain ⟨i,hi,hiz⟩:=Option.map_eq_some_iff.1 hE.i;simp only [Prod.mk.injEq] at hiz;obtain ⟨i1,i2,i3⟩:=hiz;subst i2 i3;have hold:(Builtin.firstCells i.size n (.slice (some ⟨g,oo,none⟩) n cp)).run c.P w.drew=.ok olds.toArray w.drew:=run_firstCells_some w.drew i.size n ⟨g,oo,none⟩ n cp olds hlo (fun j v hj=>hso w s j v hj);have hr:=fun ty=>Lib.run_append_grow_zeros (P:=c.P) w t tn ty e i zv .i64 .i64 hS.u hI.u hi i1 (some ⟨g,oo,none⟩) n cp olds hold k hk hm hg GJ (Nat.le_trans (Nat.mul_le_mul_right _ GJ) (Nat.le_trans hby GM)) (growslice_fits hg hby)
 have e1:∀pos Ce gd,(execOp a.eval ⟨some d,.call { callee:=.builtin .append,args:=#[x,y],argTypes:=#[t,tn] },ty,pos,Ce,gd⟩).run c.P w=.ok (.value (.slice (some ⟨w.heap.size,0,none⟩) (n+k) (grownCap w (n+k) cp e))) (w.drew.alloc (.cells (olds.toArray++Builtin.zeroCells zv.cells k++Builtin.zeroCells zv.cells (grownCap w (n+k) cp e - (n+k))) e)):=by
  intro pos Ce gd;simp only [execOp,resolve,invoke,builtin,Sem.run_bind,Sem.run_pure,Result.andThen_ok,List.map_toArray,List.map_cons,List.map_nil,ag.ev hx,ag.ev hy,hr]
 rw [e1];have hge:=grownCap_ge w (n+k) cp e;have hle:=grownCap_le_maxLen w (n+k) cp e GZ;have hBel:Below w.heap.size w (w.drew.alloc (.cells (olds.toArray++Builtin.zeroCells zv.cells k++Builtin.zeroCells zv.cells (grownCap w (n+k) cp e - (n+k))) e)):=(Dl (Below.refl w.heap.size w) 1).alloc (Nat.le_refl _) _;have hz:∀q,(Builtin.zeroCells zv.cells q).toList.length=q * i.size:=fun q=>by rw [Mx,hE.s]
 refine (h w.heap.size (grownCap w (n+k) cp e) (Builtin.zeroCells zv.cells k).toList (Builtin.zeroCells zv.cells (grownCap w (n+k) cp e - (n+k))).toList hge (by unfold maxLen at hle;omega) (hz k) ?_).h _ _ (s.add (N:=[.row w.heap.size e 0 [] (olds++(Builtin.zeroCells zv.cells k).toList++(Builtin.zeroCells zv.cells (grownCap w (n+k) cp e - (n+k))).toList) []]) hBel ?_ ⟨GL,trivial⟩ ?_) (ag.put hd)
 ·rw [List.length_append,List.length_append,hz,hz,hlo,←Nat.add_mul,←Nat.add_mul];congr 1;omega
 ·intro p hp;rw [List.mem_singleton] at hp;subst hp;refine ⟨rfl,?_⟩;have:=Ha.made w.drew e (olds++(Builtin.zeroCells zv.cells k).toList++(Builtin.zeroCells zv.cells (grownCap w (n+k) cp e - (n+k))).toList);rw [List.nil_append,List.append_nil];have e2:(olds++(Builtin.zeroCells zv.cells k).toList++(Builtin.zeroCells zv.cells (grownCap w (n+k) cp e - (n+k))).toList).toArray=olds.toArray++Builtin.zeroCells zv.cells k++Builtin.zeroCells zv.cells (grownCap w (n+k) cp e - (n+k)):=by apply Array.ext';simp
  rw [e2] at this;exact this
 ·intro p hp b hb;rw [List.mem_singleton] at hp;subst hp;simp [Pc.F] at hb;subst hb;exact .inl (Nat.le_refl _)⟩
theorem Ajz {t e m n cp i:Nat} {a:Option Addr} {q:Int} [hS:SlC c.P t e m] (hd:Nat.blt d c.n=true) (hx:ev fr x=some (.slice a n cp)) (hy:ev fr y=some (.int .i64 q)) (hq:q=(i:Int)) (hi:i≤n) (h:∀v,T c ((d,v)::fr) H Φ) (hlc:n≤cp:=by omega):On c fr H (some d) (.slice t x (some y) none none) ty Φ:=⟨fun _ _ _=>Ok fun Q ac w s g=>by
 subst hq;have he2:=Ady hS;obtain ⟨v,h3⟩:∃v,(Instr.sliceAt t (.slice a n cp) (some (.int .i64 (i:Int))) none none).run c.P w=.ok v w:=by
  rw [run_sliceAt_slice (h:=HH),run_slice_l (ht:=HH) (h0:=GJ) (h1:=GJ),he2,Mk hS.s];exact ⟨_,rfl⟩
 have e1:∀pos Ce gd,(execOp ac.eval ⟨some d,.slice t x (some y) none none,ty,pos,Ce,gd⟩).run c.P w=.ok (.value v) w:=by
  intro pos Ce gd;simp only [execOp,Option.map_none,Option.map_some,g.ev hx,g.ev hy,Sem.run_bind,h3,Result.andThen_ok,Sem.run_pure]
 rw [e1];exact (h v).h _ w s (g.put hd)⟩
end
section
variable {P:Program} {n:Nat} {fr:Fr} {H:List Pc} {ty:TypeId}
theorem Bc7 {f:Nat} {bs caps:List Operand} {us vs:List Value} (hb:Evs fr bs us) (hc:Evs fr caps vs):Yd P n fr H (.makeFunc (.func f) bs.toArray caps.toArray) ty (.func (.func f) us.toArray vs.toArray):=.mk fun c w d pos Ce gd hA _=>by
 simp [execOp,Instr.makeFunc,hA.evs hb,hA.evs hc]
end
section
variable {c:Cx} {fr:Fr} {H:List Pc} {k:List It} {Φ:Gl} {d:Nat} {ty:TypeId} {x:Operand}
theorem Aab {fo:Operand} {f:Nat} {bd caps:List Value} {aS:List Operand} {ts:Array TypeId} {vs:List Value} (hd:Nat.blt d c.n=true) (hf:ev fr fo=some (.func (.func f) bd.toArray caps.toArray)) (hb:Qi c.P f=true) (ha:Evs fr aS vs) (h:Cl c fr H d f (bd++vs++caps) Φ):On c fr H (some d) (.call { callee:=.value fo,args:=aS.toArray,argTypes:=ts }) ty Φ:=⟨fun _ _ _=>Ok fun Q a w s g=>by
 have e:∀pos Ce gd,(execOp a.eval ⟨some d,.call { callee:=.value fo,args:=aS.toArray,argTypes:=ts },ty,pos,Ce,gd⟩).run c.P w=(callFunc f (bd++vs++caps).toArray).run c.P w:=by
  intro pos Ce gd;simp [execOp,resolve,Deferred.ofValue,g.ev hf,invoke,g.evs ha]
 rw [e];obtain ⟨R,hc,hk⟩:=h.h w s;refine (Uo hb).upon hc fun e w' hR=>?_;obtain ⟨v,he,hv⟩:=hk e w' hR;exact ⟨v,he,hv _ (g.put hd)⟩⟩
theorem Akd {α:Type} {E:Bx α} (sc:Zp E) {t n cp:Nat} {a:Option Addr} {xs:List α} {F:List Nat} (h0:xs≠[])
  (h:∀g,a=some ⟨g,0,none⟩→F=[g]→n=xs.length→n≤cp→cp≤9223372036854775807→T c fr H Φ) (hm:.ow E t (.slice a n cp) xs F∈H:=by exact Bp):T c fr H Φ:=.mk fun ac w s g'=>by
 obtain ⟨hnd,ho⟩:=s.get hm;have hF:=ho.scal sc;rcases ho with ⟨-,h2, -⟩|⟨g,cap,cs,rest,G,h1,h2,h3,h4,h5,h6,h7⟩
 ·exact absurd h2 h0
 ·cases h1;exact (h g rfl (by simpa [Value.ownBlock] using hF) rfl h3 (by unfold maxLen at h4;omega)).h ac w s g'
theorem Cw.rep0 {α:Type} {E:Bx α} {w:World} {zs:List Value} {z:α} (h:E.Lo w zs z []):∀n,Cw E w (List.replicate n zs).flatten (List.replicate n z) []
 | 0=>⟨rfl,rfl⟩
 | n+1=>⟨zs,(List.replicate n zs).flatten,[],[],by simp [List.replicate_succ],GL,h,Cw.rep0 h n⟩
theorem Agt (z:Array Value) (n:Nat):(Builtin.zeroCells z n).toList=(List.replicate n z.toList).flatten:=by
 have:=Nh z n;exact this
theorem Aqd {α:Type} {E:Bx α} (sc:Zp E) {t e m b g n cp i:Nat} {zv:Value} {z0:α} [hS:SlC c.P t e m] [hE:ElT c.P e zv m b] (hz:∀w,E.Lo w zv.cells.toList z0 []) (one:∀u∈zv.cells,u.oneCell'=true) (hm:E.sz=m) {xs:List α} {F:List Nat} {S:List Pc}
  (hx:ev fr x=some (.slice (some ⟨g,0+i * m,none⟩) (n - i) (cp - i))) (hi:i < n) (hn:n=xs.length) (hp:Cz H (.ow E e (.slice (some ⟨g,0,none⟩) n cp) xs F) S) (h:T c fr (.ow E e (.slice (some ⟨g,0,none⟩) n cp) (xs.take i++List.replicate (n - i) z0) F::S) Φ) :
  On c fr H none (.call { callee:=.builtin .clear,args:=#[x],argTypes:=#[t] }) ty Φ:=⟨fun _ _ _=>Ok fun Q a w s ag=>by
 subst hm;have s1:=s.pick hp;obtain ⟨hnd,ho⟩:=s1.on (.ow E e (.slice (some ⟨g,0,none⟩) n cp) xs F) GL;have hF:=ho.scal sc;rcases ho with ⟨h1, -, -⟩|⟨g2,cap,cs,rest,G,h1,h2,h3,h4,h5,h6,h7⟩
 ·cases h1
 cases h1;have hG:G=[]:=by rw [h7] at hF;simpa [Value.ownBlock] using hF
 subst hG h7;have hl:=h6.len;obtain ⟨f1,f2⟩:=h6.cutL i GJ;have hcs:=List.take_append_drop (i * E.sz) cs;have hd1:(cs.take (i * E.sz)).length=i * E.sz:=by have:=f1.len;rw [List.length_take (l:=xs),Nat.min_eq_left GJ] at this;exact this
 have hd2:(cs.drop (i * E.sz)).length=(xs.length - i) * E.sz:=by have:=f2.len;rwa [List.length_drop (l:=xs)] at this
 have hr:=fun ty=>Sk (P:=c.P) w t e ty zv hS.u (Vh hE.i) one g (0+i * E.sz) (xs.length - i) (cp - i) GJ
  (fun j hj=>by rw [hE.s] at hj;rw [h2.cell,List.getElem?_eq_getElem (by rw [List.length_append,←hcs,List.length_append,hd1,hd2];omega)];rfl) (fun j _=>h2.frozen _)
 have e1:∀pos Ce gd,(execOp a.eval ⟨none,.call { callee:=.builtin .clear,args:=#[x],argTypes:=#[t] },ty,pos,Ce,gd⟩).run c.P w=.ok (.value (.tuple #[])) (w.setCells g (0+i * E.sz) (Builtin.zeroCells zv.cells (xs.length - i)).toList):=by
  intro pos Ce gd;simp only [execOp,resolve,invoke,builtin,Sem.run_bind,Sem.run_pure,Result.andThen_ok,List.map_toArray,List.map_cons,List.map_nil,ag.ev hx,hr]
 rw [e1];have hzl:(Builtin.zeroCells zv.cells (xs.length - i)).toList.length=(xs.length - i) * E.sz:=by rw [Mx,hE.s]
 have R0:Ha w g e (cs.take (i * E.sz)++cs.drop (i * E.sz)++rest):=by rw [hcs];exact h2
 have R1:=Ha.put (Builtin.zeroCells zv.cells (xs.length - i)).toList _ R0 (p:=0+i * E.sz) GJ (by rw [hzl,hd2]);have hk:=Ln (g:=g) (Builtin.zeroCells zv.cells (xs.length - i)).toList w (0+i * E.sz);rw [Mb w g] at R1 hk;have hW:(Pc.ow E e (.slice (some ⟨g,0,none⟩) xs.length cp) (xs.take i++List.replicate (xs.length - i) z0) [g]).P (w.setCells g (0+i * E.sz) (Builtin.zeroCells zv.cells (xs.length - i)).toList):=by
  have hll:(xs.take i++List.replicate (xs.length - i) z0).length=xs.length:=by rw [List.length_append,List.length_take,List.length_replicate];omega
  have hfl:Cw E (w.setCells g (0+i * E.sz) (Builtin.zeroCells zv.cells (xs.length - i)).toList) (cs.take (i * E.sz)++(Builtin.zeroCells zv.cells (xs.length - i)).toList) (xs.take i++List.replicate (xs.length - i) z0) []:=by
   rw [Agt];exact (f1.all _).append (Cw.rep0 (hz _) _)
  refine ⟨GL,.inr ⟨g,cp,cs.take (i * E.sz)++(Builtin.zeroCells zv.cells (xs.length - i)).toList,rest,[],by rw [hll],R1,by rw [hll];exact h3,h4,?_,hfl,rfl⟩⟩;rw [List.length_append,hzl,hd1,←Nat.add_mul];rw [←h5,hl]
  congr 2
  omega
 exact h.h _ _ (St.turn (M:=[.ow E e (.slice (some ⟨g,0,none⟩) xs.length cp) xs [g]]) (N:=[.ow E e (.slice (some ⟨g,0,none⟩) xs.length cp) (xs.take i++List.replicate (xs.length - i) z0) [g]]) s1 II KP ⟨GL,trivial⟩ (by
   intro q hq b hb;rw [List.mem_singleton] at hq;subst hq;exact .inr (.inl ⟨_,List.mem_singleton.2 rfl,rfl,hb⟩))) ag⟩
end
theorem At5 (fid:FuncId) (bd caps:List Value) (A:List Pc) (hA:A.all (fun p=>!p.mu)=true) (xs:List Int) (a:Option Addr) (c:Nat) (F:List Nat) (p:Int→Bool) (hb:Qi prog fid=true) (hl:xs.length≤1000000000)
  (hp:∀x∈xs,∀w,O2 A w→Calls prog fid (bd++[(.int .i64 x:Value)]++caps).toArray w fun e w'=>e=.returned (.bool (p x))∧Below w.heap.size w w') :
  Fn prog 325 [.slice a xs.length c,.func (.func fid) bd.toArray caps.toArray] (.sl Bc (.slice a xs.length c) xs F::A) [] (fun (_:Unit)=>True) (fun _=>.int .i64 (Qy p xs)) (fun _=>[]):=by
 refine enter func325 rfl ntmps325 (fun w0=>?_) rfl HD .nil;refine go ?_;intros;refine Ev [0,1,4,7] (fun k:Nat=>[(8,.int .i64 (k:Nat))]) (fun k=>k≤xs.length∧∀j (_:j < k) (hj:j < xs.length),p xs[j]=false) (fun k=>xs.length - k) 0 ⟨Nat.zero_le _,fun j h=>by omega⟩ fun k hk=>?_;obtain ⟨hk1,hk2⟩:=hk;refine go ?_;intros;refine Be rfl (fun h5=>?_) (fun h5=>?_)
 ·have hh:k < xs.length:=by omega
  refine go ?_;intros;refine Io (xs:=xs) k ?_;rintro hi b o e;rw [e];refine go ?_;intros;apply wO;refine Aab rfl rfl hb Tw ?_;refine cb (fun w st=>hp xs[k] (List.getElem_mem hh) w (fun q hq=>st.on q HG)) ?_;cases hpk:p xs[k]
  ·refine go ?_;intros;refine Vb ?_;refine Cu (hH:=Kr _) (k+1) ⟨hh,fun j hj h=>?_⟩ GJ;rcases Nat.lt_or_eq_of_le (Nat.lt_succ_iff.1 hj) with h2|rfl
   ·exact hk2 j h2 h
   ·exact hpk
  ·exact FI
 ·obtain rfl:k=xs.length:=by omega
  exact BP
structure At1 where
 i:Nat
 j:Nat
 zs:List Int
theorem Akp (fid:FuncId) (bd caps:List Value) (A:List Pc) (hA:A.all (fun p=>!p.mu)=true) (xs:List Int) (a:Option Addr) (c:Nat) (F:List Nat) (p:Int→Bool) (hb:Qi prog fid=true) (hl:xs.length≤1000000000)
  (hp:∀x∈xs,∀w,O2 A w→Calls prog fid (bd++[(.int .i64 x:Value)]++caps).toArray w fun e w'=>e=.returned (.bool (p x))∧Below w.heap.size w w') :
  Fn prog 283 [.slice a xs.length c,.func (.func fid) bd.toArray caps.toArray] A [.ow Bc 3 (.slice a xs.length c) xs F] (fun (_:Option Addr × Nat × List Nat)=>True)
   (fun z=>.slice z.1 (xs.filter fun x=>!p x).length z.2.1) (fun z=>[.ow Bc 3 (.slice z.1 (xs.filter fun x=>!p x).length z.2.1) (xs.filter fun x=>!p x) z.2.2]):=by
 refine enter func283 rfl ntmps283 (fun w0=>?_) rfl HD (.cons .nil);refine go ?_;intros;refine cb (fun w st=>by
  obtain ⟨Fw, -,hw⟩:=(st.get (p:=.ow Bc 3 (.slice a xs.length c) xs F) GL).2.read;refine (At5 fid bd caps A hA xs a c Fw p hb hl hp).val w ?_ HD;intro q hq;rcases List.mem_cons.1 hq with rfl|hq
  ·exact ⟨GM,hw⟩
  ·exact st.on q HG) ?_
 by_cases hany:xs.any p=true
 ·obtain ⟨i0,hi0,hfx,hpi,hfl⟩:=Xd hany;rw [hfx];refine Akd (xs:=xs) Ea (by rintro rfl;simp at hi0) ?_;rintro g rfl rfl - hc1 hc2;refine go ?_;intros;refine Ck [0,1,4] (fun s:At1=>[(5,.int .i64 (s.i:Nat)),(6,.int .i64 (s.j:Nat))]) (fun s=>[.ow Bc 3 (.slice (some ⟨g,0,none⟩) xs.length c) s.zs [g]]) (fun s=>s.zs.length=xs.length∧s.j≤xs.length∧s.i < s.j∧s.zs.take s.i=(xs.take s.j).filter (fun x=>!p x)∧s.zs.drop s.j=xs.drop s.j) (fun s=>xs.length - s.j) ⟨i0,i0+1,xs⟩ ⟨rfl,hi0,Nat.lt_succ_self _,by rw [C2 hi0 (by simp [hpi]),hfl],rfl⟩ fun s hs=>?_;obtain ⟨i,j,zs⟩:=s;obtain ⟨h1,h2,h3,h4,h5⟩:=hs
  dsimp only at h1 h2 h3 h4 h5 ⊢;refine go ?_;intros;refine Be rfl (fun h6=>?_) (fun h6=>?_)
  ·have hj:j < xs.length:=by omega
   have hjz:j < zs.length:=by omega
   have hx:zs[j]=xs[j]:=by
    exact FM
   have hdz:zs.drop (j+1)=xs.drop (j+1):=by
    rw [←List.drop_drop,h5,List.drop_drop]
   refine go ?_;intros;refine R5 (m:=1) Ea j ?_ GP rfl hjz;rintro _ g2 A2 cs2 B2 e1 e2 hc3 hh;cases e1;obtain ⟨rfl, -⟩:=hc3 w0;refine go ?_;intros;refine Qv zs[j] hh hc3 ?_;rw [List.set_getElem_self,hx];apply wO;refine Aab rfl rfl hb Tw ?_;refine cb (fun w st=>hp xs[j] (List.getElem_mem hj) w (fun q hq=>st.on q HG)) ?_;cases hpj:p xs[j]
   ·refine go ?_;intros;refine R5 (m:=1) Ea i ?_ GP rfl GJ;rintro _ g3 A3 cs3 B3 e1 e2 hc4 hh3;cases e1;obtain ⟨rfl, -⟩:=hc4 w0;refine go ?_;intros;refine Qv xs[j] hh3 (fun w=>⟨rfl,rfl⟩) ?_;refine Cu (hH:=Kr _) (⟨i+1,j+1,zs.set i xs[j]⟩:At1) ⟨by simp [h1],hj,Nat.succ_lt_succ h3,?_,?_⟩ IZ
    ·exact EP
    ·dsimp only;rw [List.drop_set_of_lt GJ,hdz]
   ·refine go ?_;intros;refine Cu (hH:=Kr _) (⟨i,j+1,zs⟩:At1) ⟨h1,hj,Nat.lt_succ_of_lt h3,?_,hdz⟩ IZ;dsimp only;rw [C2 hj (by simp [hpj]),h4]
  ·obtain rfl:j=xs.length:=by omega
   have h4':zs.take i=xs.filter fun x=>!p x:=by rw [h4,List.take_length]
   have hil:(xs.filter fun x=>!p x).length=i:=by rw [←h4',List.length_take];omega
   refine go ?_;intros;apply wO;apply oc;rfl;exact Kb (i:=i) rfl rfl rfl GJ GJ GJ;refine go ?_;intros;apply wO;refine Aqd (z0:=0) (n:=xs.length) (cp:=c) (i:=i) (g:=g) Ea (fun w=>⟨rfl,rfl⟩) GM rfl rfl h3 h1.symm GP ?_;refine go ?_;intros;refine Akh (xs:=zs.take i++List.replicate (xs.length - i) 0) i (fun F2=>?_) JW;rw [List.take_left' HW,h4'];apply wO;apply oc;rfl;exact Og (i:=i) rfl rfl rfl GJ GJ
   refine go ?_;intros;subst hil;refine ret (_,c,F2) trivial rfl
 ·obtain ⟨hfx,hfl⟩:=Zy hany;rw [hfx,hfl];refine go ?_;intros;refine ret (a,c,F) trivial rfl
def Nx (x:An) (n:Nat):List Int:=(Qu x.next n).filter fun k=>!Ie x k
theorem Aif {t k:Int} {n:Nat} (h:k∈Qu t n):0≤k∧k≤65535:=by
 unfold Qu at h;obtain ⟨i, -,rfl⟩:=List.mem_map.1 h;unfold Ce;omega
theorem Akw (x:An) (k:Int) (n:Nat) (v:Value) (F:List Nat) (h0:0≤x.next) (h1:x.next≤65535) (h2:0≤k) (h3:k≤65535) (hn:gp x.next k=n) :
  Fn prog 343 [v,.int .i64 k] [.isv Bv v x F] [] (fun (_:Option Addr × Nat × List Nat)=>True) (fun s=>.slice s.1 (Nx x n).length s.2.1) (fun s=>[.ow Bc 3 (.slice s.1 (Nx x n).length s.2.1) (Nx x n) s.2.2]):=by
 have hg:=Ky x.next k;refine enter func343 rfl ntmps343 fun w0=>?_;refine Cp ?_;rintro a1 c1 F1 rfl l1;refine go ?_;intros;refine At [0] [] ?_;refine Dk 0 1 2 3 ?_;refine Dy 4 7 ?_;refine dt 8 ?_ (hy:=Bc7 Tw Tw);refine dN 5 ?_;refine oC ?_;refine ce (fun w s=>Om _ _ _ GJ GJ GJ GJ) ?_;refine dk ?_;refine dN 6 ?_;refine oC ?_;rw [hn];refine cf (Bcu x.next n GJ GJ GJ) fun s _=>?_;refine Ar ?_;refine dk ?_;refine dN 9 ?_;refine oC ?_
 refine cf (Akp 240 [_] [] [.isv Bv (.agg #[.int .i64 x.next,.slice a1 x.Ap.length c1]) x F] rfl (Qu x.next n) s.1 s.2.1 s.2.2 (fun k=>Ie x k) rfl (by rw [Ab2];omega) (fun k hk w hw=>?_)) fun q _=>?_;exact (Zn x k _ F h0 h1 (Aif hk).1 (Aif hk).2).val w hw;refine Ar ?_;refine dk ?_;refine dt 10 ?_;refine dd ?_;refine go ?_;intros;refine ret q trivial rfl
theorem Asw {x:An} {k:Nat} (hk:k≤65535) (h:I6 x.Ap k=true):Nx x (k+1)=Nx x k:=by
 have e:Ie x (Ce x.next k)=true:=by unfold Ie;rw [show gp x.next (Ce x.next k)=k by unfold gp Ce;omega,Int.toNat_natCast,h]
 unfold Nx;rw [Za,List.filter_append,List.filter_cons];simp [e]
theorem Al3 {x:An} {k:Nat} (hk:k≤65535) (h:I6 x.Ap k=false):Nx x (k+1)=Nx x k++[Ce x.next k]:=by
 have e:Ie x (Ce x.next k)=false:=by unfold Ie;rw [show gp x.next (Ce x.next k)=k by unfold gp Ce;omega,Int.toNat_natCast,h]
 unfold Nx;rw [Za,List.filter_append,List.filter_cons];simp [e]
theorem Abt (x:An) (k:Nat):(Nx x k).length≤k:=by
 unfold Nx;have:=List.length_filter_le (fun k=>!Ie x k) (Qu x.next k);rw [Ab2] at this;exact this
theorem Ajt (x:An) (k:Int) (n:Nat) (v:Value) (F:List Nat) (h0:0≤x.next) (h1:x.next≤65535) (h2:0≤k) (h3:k≤65535) (hn:gp x.next k=n) :
  Fn prog 312 [v,.int .i64 k] [.isv Bv v x F] [] (fun (_:Option Addr × Nat × List Nat)=>True) (fun s=>.slice s.1 (Nx x n).length s.2.1) (fun s=>[.ow Bc 3 (.slice s.1 (Nx x n).length s.2.1) (Nx x n) s.2.2]):=by
 have hg:=Ky x.next k;refine enter func312 rfl ntmps312 fun w0=>?_;refine Cp ?_;rintro a1 c1 F1 rfl l1;unfold maxLen at l1;refine M7 ?_;intros;refine C4 Bc ?_;refine go ?_;intros;refine Ck [1,2,4] (fun s:SpS=>[(5,.slice s.a (Nx x s.k).length s.c),(6,.int .i64 (s.k:Nat))]) (fun s=>[.ow Bc 3 (.slice s.a (Nx x s.k).length s.c) (Nx x s.k) s.F]) (fun s=>s.k≤n) (fun s=>n - s.k) ⟨0,_,_,_⟩ (Nat.zero_le _) fun s hs=>?_;obtain ⟨j,a,c,F5⟩:=s;dsimp only at hs ⊢;have hlk:=Abt x j;refine go ?_;intros;refine ce (fun w s=>I1 _ _ _ GJ GJ) ?_;rw [hn];refine go ?_;intros
 refine Be rfl (fun h4=>?_) (fun h4=>?_)
 ·refine go ?_;intros;refine Dj rfl rfl (fun h5=>?_) (fun h5=>?_)
  ·refine go ?_;intros;refine ce (fun w s=>Ks _ _ _ GJ GJ) ?_;refine go ?_;intros;apply wO;refine Oh (Rd _) C5 fun a2 c2 F2=>?_;refine go ?_;intros;rw [←Al3 GJ (Qm GJ)];refine Cu ⟨j+1,a2,c2,F2⟩ (by show j+1≤n;omega) KN
  ·refine O5 (xs:=x.Ap) j ?_;rintro hi2 b2 o2 e s1;rw [e];refine go ?_;intros;cases g2:x.Ap[j].Vv
   ·refine go ?_;intros;refine ce (fun w s=>Ks _ _ _ GJ GJ) ?_;refine go ?_;intros;apply wO;refine Oh (Rd _) C5 fun a2 c2 F2=>?_;refine go ?_;intros;rw [←Al3 GJ (by rw [Kz hi2];exact g2)];refine Cu ⟨j+1,a2,c2,F2⟩ (by show j+1≤n;omega) KN
   ·refine go ?_;intros;rw [←Asw (x:=x) (k:=j) GJ (by rw [Kz hi2];exact g2)];refine Cu ⟨j+1,a,c,F5⟩ (by show j+1≤n;omega) KN
 ·obtain rfl:j=n:=by omega
  refine go ?_;intros;refine ret (a,c,F5) trivial rfl
def Avl (d:Int):Bool:=Eu 1 d 8
def Mp (base:Int) (r:A1):Bool:=B9 r.Af && decide (gp base r.Af < 8) && Eu 1 r.state 3 && Eu 0 r.Cg 10007 && Eu 0 r.D6 3
def Agx (l:List A1) (base:Int) (i:Nat):Bool:=match l[i]? with
 | none=>true
 | some r=>Mp base r && (decide (i=0) || match l[i - 1]? with|none=>true|some p=>!decide (gp base r.Af≤gp base p.Af))
theorem Up {l:List A1} {base:Int} {i:Nat} (h:i < l.length):Agx l base i=(Mp base l[i] && (decide (i=0) || !decide (gp base l[i].Af≤gp base (l[i - 1]'GJ).Af))):=by
 unfold Agx;rw [List.getElem?_eq_getElem h,List.getElem?_eq_getElem (show i - 1 < l.length by omega)]
def Lu (l:List A1) (base:Int):Bool:=B9 base && decide ((l.length:Int)≤8) && (List.range l.length).all (Agx l base)
theorem Apt {l:List A1} {base:Int} {i:Nat} (h:i < l.length) (hc:Agx l base i=false):Lu l base=false:=by
 have:(List.range l.length).all (Agx l base)=false:=List.all_eq_false.2 ⟨i,GW,JN⟩;simp [Lu,this]
theorem Ak4 {l:List A1} {base:Int} (h1:B9 base=true) (h2:(l.length:Int)≤8) (h:∀j,j < l.length→Agx l base j=true):Lu l base=true:=by
 unfold Lu;rw [h1,decide_eq_true h2,List.all_eq_true.2 fun j hj=>h j JL];rfl
theorem C9 {l:List A1} {base:Int}:Lu l base=true↔B9 base=true∧l.length≤8∧(∀r∈l,Mp base r=true)∧l.Pairwise fun a b=>gp base a.Af < gp base b.Af:=by
 unfold Lu;simp only [Bool.and_eq_true,List.all_eq_true,List.mem_range,decide_eq_true_eq];constructor
 ·rintro ⟨⟨h1,h2⟩,h4⟩;refine ⟨h1,GJ,fun r hr=>?_,?_⟩
  ·obtain ⟨i,hi,rfl⟩:=List.getElem_of_mem hr;have:=h4 i hi;rw [Up hi] at this;simp only [Bool.and_eq_true] at this;exact this.1
  ·have step:∀i (hi:i+1 < l.length),gp base l[i].Af < gp base l[i+1].Af:=fun i hi=>by
    have:=h4 (i+1) hi;rw [Up hi] at this;simp only [Bool.and_eq_true,Bool.or_eq_true,decide_eq_true_eq,Bool.not_eq_true',decide_eq_false_iff_not] at this;have h:=this.2;rcases h with h|h
    ·omega
    ·simpa using h
   refine List.pairwise_iff_getElem.2 fun i j hi hj hij=>?_;obtain ⟨d,rfl⟩:∃d,j=i+1+d:=⟨j - i - 1,GJ⟩;clear hij
   induction d with
   | zero=>exact step i hj
   | succ d ih=>exact Int.lt_trans (ih GJ) (step (i+1+d) hj)
 ·rintro ⟨h1,h2,h4,h5⟩;refine ⟨⟨h1,GJ⟩,fun i hi=>?_⟩;rw [Up hi,h4 l[i] (List.getElem_mem hi)];simp only [Bool.true_and,Bool.or_eq_true,decide_eq_true_eq,Bool.not_eq_true',decide_eq_false_iff_not];rcases Nat.eq_zero_or_pos i with h0|h0
  ·exact .inl h0
  ·have:=List.pairwise_iff_getElem.1 h5 (i - 1) i GJ hi GJ;right;omega
structure Auc (base:Int) (r:A1):Prop where
 n:B9 r.Af=true
 g:gp base r.Af < 8
 s0:1≤r.state
 s1:r.state≤3
 u0:0≤r.Cg
 u1:r.Cg≤10007
 t0:0≤r.D6
 t1:r.D6≤3
theorem Ei {base:Int} {r:A1}:Mp base r=true↔Auc base r:=by
 unfold Mp Eu;simp only [Bool.and_eq_true,decide_eq_true_eq];exact ⟨fun ⟨⟨⟨⟨a,b⟩,c,d⟩,e,f⟩,g,h⟩=>⟨a,b,c,d,e,f,g,h⟩,fun ⟨a,b,c,d,e,f,g,h⟩=>⟨⟨⟨⟨a,b⟩,c,d⟩,e,f⟩,g,h⟩⟩
def Od (r:A9):Bool:=decide (r.Ab.next=0) && decide (r.Ab.Ap.length=0) && decide (r.Am.length=0)
def Ahx (r:A9):Bool:=r.Am.all fun q=>!Ie r.Ab q.Af
def Bz (r:A9):Bool:=J3 r.Ai && (if r.Bd then Cs r.Ab && Lu r.Am r.Ab.next && Ahx r else Od r)
def Tb (c d:Int) (r:A1):Option A1:=if c < r.Cg then some r else if r.D6=3 then none else if r.state=1 then some ⟨r.Af,2,c+3,r.D6+1⟩ else some ⟨r.Af,1,c+d,r.D6⟩
def Pq (c:Int) (r:A1):Option Int:=if c < r.Cg then none else if r.D6=3 then none else if r.state=1 then some r.Af else none
def Tk (c:Int) (r:A1):Option Int:=if c < r.Cg then none else if r.D6=3 then some r.Af else none
def pkR (n k:Int):Av:=⟨3,k,n,n,⟨#[]⟩⟩
def Db (l:List Int):Int:=Ce (l.getLastD 0) 1
def Iu (w:An) (t:Int):An:=O0 (If (Em w.next t) w)
def Is (w:An) (t:Int):List ByteArray:=Nw (Em w.next t) w++Qs (If (Em w.next t) w)
def X8 (l:List A1) (n:Int):List A1:=l.filter fun q=>!Sp q.Af n
def D8 (l:List A1) (w:An):List A1:=l.filter fun q=>!(Sp q.Af w.next || Ie w q.Af) && decide (gp w.next q.Af < 8)
def M5 (r:A9) (d:Int):List A1:=r.Am.filterMap (Tb (r.Ai+1) d)
def C1 (r:A9):List Int:=r.Am.filterMap (Tk (r.Ai+1))
def Cy (r:A9) (d:Int):A9:=if C1 r=[] then ⟨r.Bd,r.Ai+1,r.Ab,M5 r d⟩ else ⟨r.Bd,r.Ai+1,Iu r.Ab (Db (C1 r)),X8 (M5 r d) (Iu r.Ab (Db (C1 r))).next⟩
def Ew (r:A9):List Av:=(r.Am.filterMap (Pq (r.Ai+1))).map (pkR r.Ab.next)
def Gz (r:A9):List ByteArray:=if C1 r=[] then [] else Is r.Ab (Db (C1 r))
def Aty:A9:=⟨false,0,⟨0,[]⟩,[]⟩
structure Lq (r:A9):Prop where
 k0:0≤r.Ai
 k1:r.Ai≤9999
 w:Cs r.Ab=true
 q:Lu r.Am r.Ab.next=true
 f:∀z∈r.Am,Ie r.Ab z.Af=false
 z:r.Bd=false→r.Ab=⟨0,[]⟩∧r.Am=[]
theorem D9 {r:A9}:Bz r=true↔Lq r:=by
 have hc:J3 r.Ai=true↔0≤r.Ai∧r.Ai≤9999:=by unfold J3 Eu;simp
 have hf:Ahx r=true↔∀z∈r.Am,Ie r.Ab z.Af=false:=by unfold Ahx;simp
 have hz:Od r=true↔r.Ab=⟨0,[]⟩∧r.Am=[]:=by
  unfold Od;obtain ⟨st,ck,⟨n,s⟩,q⟩:=r;simp [and_assoc]
 unfold Bz;constructor
 ·intro h;rw [Bool.and_eq_true,hc] at h;obtain ⟨⟨c0,c1⟩,h⟩:=h;cases hs:r.Bd
  ·rw [hs] at h;obtain ⟨e1,e2⟩:=hz.1 GW;refine ⟨c0,c1,by rw [e1];decide,by rw [e1,e2];decide,by rw [e2];simp,fun _=>⟨e1,e2⟩⟩
  ·rw [hs] at h;simp only [if_true,Bool.and_eq_true] at h;exact ⟨c0,c1,h.1.1,h.1.2,hf.1 h.2,fun h'=>by rw [hs] at h';cases h'⟩
 ·rintro ⟨c0,c1,h1,h2,h3,h4⟩;rw [Bool.and_eq_true,hc];refine ⟨⟨c0,c1⟩,?_⟩;cases hs:r.Bd
  ·simpa using hz.2 (h4 hs)
  ·simp [h1,h2,hf.2 h3]
def By (p:Av):Bool:=Eu 1 p.Ct 5 && B9 p.Af && B9 p.Ao && B9 p.Ff && P9 p.data && decide (gp p.Ao p.Ff≤32767) && (decide (p.data=⟨#[]⟩) || decide (p.Ct=1) || decide (p.Ct=2))
theorem Jz {p:Av} (h:By p=true):0≤p.Af∧p.Af≤65535:=by
 unfold By at h;simp only [Bool.and_eq_true] at h;exact Bb.1 h.1.1.1.1.1.2
theorem Aa2 (fid:FuncId) (hbd:Xv prog fid) (caps:Array Value) (v:Value) (xs:List ByteArray) (F:List Nat) (p:ByteArray→Bool) (w:World) (h:Sl A8 w v xs F)
  (hp:∀(k:Nat) (hk:k < xs.length) (wr:World) (u:Value) (G:List Nat),Below w.heap.size w wr→IsC A8 wr u xs[k] G→Calls prog fid (#[u]++caps) wr fun e w'=>e=.returned (.bool (p xs[k]))∧Below wr.heap.size wr w') :
  Calls prog 314 #[v,.func (.func fid) #[] caps] w fun e w'=>e=.returned (.int .i64 (Qy p xs))∧Below w.heap.size w w':=by
 obtain ⟨a,cap,rfl⟩:=h.slice;have hl:=h.len;unfold maxLen at hl
 go_enter func314,ntmps314
 go_wp2
 go_loopw [5,8] (fun _ i wr=>∃k:Nat,k≤xs.length∧i=.int .i64 k∧Hid (∀j,j < k→∀hj:j < xs.length,p xs[j]=false)∧Below w.heap.size w wr) (fun _ i _=>xs.length - (intOf i).toNat)
 case atStart=>exact ⟨0,Nat.zero_le _,rfl,fun j hj=>by omega,Below.refl _ _⟩
 case round =>
  obtain ⟨k,hk,rfl,hz,hB⟩:=hrel;by_cases hlt:k < xs.length
  ·have hz0:=hz;clear hz;obtain ⟨b,off,_,F1,rfl,hx, -,ja⟩:=(h.below GM hB).at k hlt;obtain ⟨rfl, -, -⟩:=id hx;have a0:=ja 0 GM;simp only [show A8.sz=1 from rfl,Nat.mul_one,Nat.add_zero,List.getElem?_cons_zero,List.getElem?_cons_succ] at a0;clear ja;have hr:=hp k hlt wr _ F1 hB ⟨_,rfl,hx⟩;have hp:=Lib.hid hp;cases hpk:p xs[k]
   all_goals
    rw [hpk] at hr;have hpk:=Lib.hid hpk;have hr:=Lib.hid hr;go_wp2_with fail;refine hbd.upon hr.out ?_;rintro e w1 ⟨rfl,hb1⟩;refine ⟨_,rfl,?_⟩;have hB:=tr hB hb1 (Nat.le_refl _);clear hb1;go_wp2_with fail
   ·exact AS
   ·go_ret
    exact FO
  ·go_wp2
   go_ret
   exact DN
theorem Xw (fid:FuncId) (hbd:Xv prog fid) (caps:Array Value) (v:Value) (xs:List ByteArray) (F:List Nat) (p:ByteArray→Bool) (w:World) (h:Sl A8 w v xs F)
  (hp:∀(k:Nat) (hk:k < xs.length) (wr:World) (u:Value) (G:List Nat),Below w.heap.size w wr→IsC A8 wr u xs[k] G→Calls prog fid (#[u]++caps) wr fun e w'=>e=.returned (.bool (p xs[k]))∧Below wr.heap.size wr w') :
  Calls prog 263 #[v,.func (.func fid) #[] caps] w fun e w'=>e=.returned (.bool (xs.any p))∧Below w.heap.size w w':=by
 have hp:=Lib.hid hp
 go_enter func263,ntmps263
 go_wp2_with fail;refine (Aa2 fid hbd caps v xs F p _ h hp.out).mono ?_;rintro e w1 ⟨rfl,hb1⟩;go_wp2_with fail
 go_ret
 exact ⟨B8 (Rz p xs),hb1⟩
theorem Zi (v:Value) (xs:List ByteArray) (F:List Nat) (w:World) (h:Sl A8 w v xs F) (hm:xs.length≤4294967296) :
  Calls prog 154 #[v] w (Ul A8 9 xs w):=by
 obtain ⟨ao,c,news,Fy,rfl,hl,hfy,hFy,hsrc⟩:=h.src;have hFl:=hfy.lt;have he:=fun w (a:Option Addr) (n c:Nat)=>Lib.run_eql_slice_nil (P:=prog) w 38 _ a n c 0 0 underlying38
 go_enter func154,ntmps154
 rcases hsrc with ⟨rfl,rfl,rfl⟩|⟨ad,rfl,hn⟩
 ·go_wp2
  go_ret
  exact CB
 ·go_wp2_with (at_builtin;refine Mn Dp GM GV _ _ _ GV 9 (.string ⟨#[]⟩) 16 underlying38 We rfl (.slice (some ⟨w.heap.size,0,none⟩) 0 0) [] [w.heap.size] GV (Ow.empty (Ha.made _ _ _)) (Hd.one _) (some ad) xs c GV news Fy (hfy.frame fun b hb=>Below.heap_alloc _ _ _ (hFl b hb)) (.inr ⟨ad,rfl,fun j u hu=>kc ((Below.refl _ _).alloc (Nat.le_refl _) _) (hn j u hu)⟩) (fun b hb e=>by have:=hFl b hb;simp [Value.ownBlock] at e;omega) IH IA ?_);intro v2 w2 F2 hA;go_wp2_with fail
  go_ret
  have hB:Below w.heap.size w w2:=((Below.refl _ _).alloc (Nat.le_refl _) _).trans (hA.H8.below GL GL);have hs:∀b,v2.ownBlock=some b→w.heap.size≤b:=fun b hb=>by rcases hA.Ao1 with e|e <;> rw [e] at hb <;> simp [Value.ownBlock] at hb <;> omega
  refine ⟨v2,F2,rfl,JF,hA.ow.scal Hi▸?_,fun b hb=>?_,hB⟩
  ·cases v2.ownBlock <;> simp
  ·rw [hA.ow.scal Hi] at hb;exact hs b KB
def Dv (x:Az):Bool:=B9 x.Ao && Eu 1 x.size 6 && decide ((x.Ak.length:Int)≤x.size) && x.Ak.all P9
theorem Dz {x:Az}:Dv x=true↔(0≤x.Ao∧x.Ao≤65535)∧(1≤x.size∧x.size≤6)∧(x.Ak.length:Int)≤x.size∧x.Ak.all P9=true:=by
 unfold Dv;simp only [Bool.and_eq_true,Bb,Eu,decide_eq_true_eq,and_assoc]
theorem Ajj (s:ByteArray) (w:World) (hs:s.size≤maxLen) :
  Calls prog 264 #[.string s] w fun e w'=>e=.returned (.bool (!P9 s))∧Below w.heap.size w w':=by
 go_enter func264,ntmps264
 go_wp2_with fail;refine (Z4 s _ hs).mono ?_;rintro e w1 ⟨rfl,hb⟩;go_wp2_with fail
 go_ret
 exact ⟨rfl,hb⟩
theorem Anp (v:Value) (xs:List ByteArray) (F:List Nat) (w:World) (h:Sl A8 w v xs F) :
  Calls prog 201 #[v] w fun e w'=>e=.returned (.bool (xs.all P9))∧Below w.heap.size w w':=by
 have hq:(!xs.any fun s=>!P9 s)=xs.all P9:=by rw [List.not_any_eq_all_not];simp
 replace hq:=Lib.hid hq
 go_enter func201,ntmps201
 go_wp2_with fail;refine (Xw _ (.mk' func264 rfl rfl) _ _ xs F (fun s=>!P9 s) _ h ?_).mono ?_
 ·rintro k hk wr u G hb ⟨_,rfl,hu⟩;obtain ⟨hu,hsz, -⟩:=hu;cases hu;exact Ajj _ _ hsz
 rintro e w1 ⟨rfl,hb⟩;go_wp2_with fail
 go_ret
 exact ⟨B8 hq.out,hb⟩
theorem Q2 (v:Value) (x:Az) (F:List Nat) (w:World) (h:N0 Cd w v x F) :
  Calls prog 147 #[v] w fun e w'=>e=.returned (.bool (Dv x))∧Below w.heap.size w w':=by
 obtain ⟨_,rfl,v1,rfl,h1⟩:=h;obtain ⟨a,c,rfl⟩:=h1.slice;have hl:=h1.len;unfold maxLen at hl;have hB0:∀A:Obj,Below w.heap.size w (w.alloc A):=fun A=>(Below.refl _ _).alloc (Nat.le_refl _) _
 go_enter func147,ntmps147
 go_wp2_with fail;refine (Il _ _).mono ?_;rintro e w' ⟨rfl,rfl⟩;cases g1:B9 x.Ao
 ·go_wp2_with fail
  go_ret
  exact ⟨B8 (by simp [Dv,g1]),hB0 _⟩
 go_wp2_with fail;refine (Hk _ _ _ _).mono ?_;rintro e w' ⟨rfl,rfl⟩;cases g2:Eu 1 x.size 6
 ·go_wp2_with fail
  go_ret
  exact ⟨B8 (by simp [Dv,g2]),hB0 _⟩
 by_cases g3:(x.Ak.length:Int)≤x.size
 ·go_wp2_with fail;refine (Anp _ x.Ak F _ (h1.below GM (hB0 _))).mono ?_;rintro e w1 ⟨rfl,hb⟩;go_wp2_with fail
  go_ret
  exact ⟨B8 (by simp [Dv,g1,g2,g3]),tr (hB0 _) hb (Nat.le_refl _)⟩
 ·go_wp2_with fail
  go_ret
  exact EV
theorem Yl (v:Value) (x:Az) (F:List Nat) (w:World) (h:N0 Cd w v x F) (hm:x.Ak.length≤4294967296) :
  Calls prog 100 #[v] w (Anm Qf x w):=by
 obtain ⟨_,rfl,v1,rfl,h1⟩:=h;obtain ⟨a,c,rfl⟩:=h1.slice;have hB0:∀A B:Obj,Below w.heap.size w ((w.alloc A).alloc B):=fun A B=>((Below.refl _ _).alloc (Nat.le_refl _) _).alloc GL _
 go_enter func100,ntmps100
 go_wp2_with fail;refine (Zi _ x.Ak F _ (h1.below GM (hB0 _ _)) hm).mono ?_;rintro e w1 ⟨v2,F2,rfl,o,n,g,hb⟩;obtain ⟨a2,c2,rfl⟩:=o.slice;have r0:=Ha.below (g:=w.heap.size) (t:=40) (cs:=[.int .i64 x.Ao,.int .i64 x.size,.slice a x.Ak.length c]) HN hb;have r1:=Ha.below (g:=w.heap.size+1) (t:=40) (cs:=[.int .i64 0,.int .i64 0,.slice none 0 0]) HN hb;have hB:=tr (hB0 _ _) hb (Nat.le_refl _);have c0:=r0.cells;have f0:=r0.frozens;have c1:=r1.cells;have f1:=r1.frozens;clear hb;replace o:=Lib.hid o;go_wp2_with fail
 refine bodyPost_ret (v:=.agg #[.int .i64 x.Ao,.int .i64 x.size,.slice a2 x.Ak.length c2]) ?_ rfl ?_
 ·simp [results,results100,go_sem,c0,c1,f1]
 ·refine ⟨_,F2,rfl,⟨_,rfl,_,rfl,?_⟩,n,fun b hb=>by have:=g b hb;simp at this;omega,?_⟩
  ·repeat refine Ow.setFar ?_ (fun hm=>by have:=g _ hm;simp at this <;> omega) _
   exact o.out
  ·repeat refine Below.setCell ?_ HI _
   exact hB
theorem Alx (v:Value) (x:Az) (F:List Nat) (w:World) (h:N0 Cd w v x F) :
  Calls prog 126 #[v] w fun e w'=>e=.returned (.bool (Dv x))∧Below w.heap.size w w':=by
 obtain ⟨_,rfl,v1,rfl,h1⟩:=h;obtain ⟨a,c,rfl⟩:=h1.slice;have hl:=h1.len;unfold maxLen at hl;have hB0:∀A:Obj,Below w.heap.size w (w.alloc A):=fun A=>(Below.refl _ _).alloc (Nat.le_refl _) _
 go_enter func126,ntmps126
 go_wp2_with fail;refine (Ng _ _).mono ?_;rintro e w' ⟨rfl,rfl⟩;cases g1:B9 x.Ao
 ·go_wp2_with fail
  go_ret
  exact ⟨B8 (by simp [Dv,g1]),hB0 _⟩
 go_wp2_with fail;refine (Iq _ _ _ _).mono ?_;rintro e w' ⟨rfl,rfl⟩;cases g2:Eu 1 x.size 6
 ·go_wp2_with fail
  go_ret
  exact ⟨B8 (by simp [Dv,g2]),hB0 _⟩
 by_cases g3:x.size < (x.Ak.length:Int)
 ·go_wp2_with fail
  go_ret
  exact EV
 have hg:Dv x=x.Ak.all P9:=by unfold Dv;rw [g1,g2,decide_eq_true GJ];simp
 replace hg:=Lib.hid hg;go_wp2_with fail;have r0:=Ha.made w 40 [.int .i64 x.Ao,.int .i64 x.size,.slice a x.Ak.length c];have h2:=h1.below GM (hB0 (.cells #[.int .i64 x.Ao,.int .i64 x.size,.slice a x.Ak.length c] 40));have hB:=hB0 (.cells #[.int .i64 x.Ao,.int .i64 x.size,.slice a x.Ak.length c] 40);generalize w.alloc (.cells #[.int .i64 x.Ao,.int .i64 x.size,.slice a x.Ak.length c] 40)=w1 at *;have c0:=r0.cells
 go_loop [3] (fun i=>∃k:Nat,k≤x.Ak.length∧i=.int .i64 k∧Hid (∀j,j < k→∀hj:j < x.Ak.length,P9 x.Ak[j]=true)) (fun i=>x.Ak.length - (intOf i).toNat)
 case atStart=>exact ⟨0,Nat.zero_le _,rfl,fun j hj=>by omega⟩
 case round =>
  obtain ⟨k,hk,rfl,hz⟩:=hrel;by_cases hlt:k < x.Ak.length
  ·obtain ⟨hsz,b,off,rfl,hc⟩:=h2.str.2.2 k hlt;cases hi:P9 x.Ak[k]
   ·have hi2:(decide ((x.Ak[k].size:Int)≤8) && Y4 x.Ak[k].data.toList)=false:=hi;go_wp2_with fail;refine (Qn _ _ _ hsz).mono ?_;rintro e w' ⟨rfl,rfl⟩;go_wp2_with fail
    go_ret
    refine ⟨B8 ?_,hB⟩;rw [hg.out];exact (List.all_eq_false.2 ⟨x.Ak[k],List.getElem_mem _,by simp [hi]⟩).symm
   ·have hi2:(decide ((x.Ak[k].size:Int)≤8) && Y4 x.Ak[k].data.toList)=true:=hi;go_wp2_with fail;refine (Qn _ _ _ hsz).mono ?_;rintro e w' ⟨rfl,rfl⟩;go_wp2_with fail;exact ⟨⟨k+1,GJ,HZ,fun j hj hl=>by rcases Nat.lt_or_eq_of_le (Nat.le_of_lt_succ hj) with h|h;exact hz.out j h hl;subst h;exact hi⟩,HA⟩
  ·have hk:k=x.Ak.length:=by omega
   go_wp2_with fail
   go_ret
   refine ⟨B8 ?_,hB⟩;rw [hg.out];refine (List.all_eq_true.2 fun s hs=>?_).symm;obtain ⟨j,hj,rfl⟩:=List.getElem_of_mem hs;exact hz.out j GJ hj
section
variable {c:Cx} {fr:Fr} {H:List Pc} {Φ:Gl}
theorem Jh {v:Value} {x:Cr} {F:List Nat} (h:∀(a1:Option Addr) (c1:Nat) (F1:List Nat) (a2:Option Addr) (c2:Nat) (F2:List Nat),v=.agg #[.int .i64 x.Ab.Ao,.int .i64 x.Ab.size,.slice a1 x.Ab.Ak.length c1,.int .i64 x.Ai,.int .i64 x.quiet,.slice a2 x.holds.length c2]→x.Ab.Ak.length≤maxLen→x.holds.length≤maxLen→T c fr (.sl A8 (.slice a1 x.Ab.Ak.length c1) x.Ab.Ak F1::.sl Bi (.slice a2 x.holds.length c2) x.holds F2::H) Φ) (hm:.isv D7 v x F∈H:=by exact Bp):T c fr H Φ:=.mk fun a w s g=>by
 obtain ⟨cs,rfl,v1,v2,G1,G2,rfl,h1,h2,rfl⟩:=s.get hm;obtain ⟨a1,c1,rfl⟩:=h1.slice;have l1:=h1.len;obtain ⟨a2,c2,rfl⟩:=h2.slice;have l2:=h2.len;have t2:=s.ro (p:=.sl Bi (.slice a2 x.holds.length c2) x.holds G2) hm rfl rfl ⟨GM,h2⟩ GR;have t1:=t2.ro (p:=.sl A8 (.slice a1 x.Ab.Ak.length c1) x.Ab.Ak G1) (List.mem_cons_of_mem _ hm) rfl rfl ⟨GM,h1⟩ GR;exact (h a1 c1 G1 a2 c2 G2 rfl  l1 l2).h a w t1 g
theorem Gf (x:Cr) {a1:Option Addr} {c1:Nat} {F1:List Nat} {a2:Option Addr} {c2:Nat} {F2:List Nat}  (h:T c fr (.isv D7 (.agg #[.int .i64 x.Ab.Ao,.int .i64 x.Ab.size,.slice a1 x.Ab.Ak.length c1,.int .i64 x.Ai,.int .i64 x.quiet,.slice a2 x.holds.length c2]) x (F1++F2)::H) Φ) (m1:.sl A8 (.slice a1 x.Ab.Ak.length c1) x.Ab.Ak F1∈H:=by exact Bp) (m2:.sl Bi (.slice a2 x.holds.length c2) x.holds F2∈H:=by exact Bp):T c fr H Φ:=.mk fun a w s g=>by
 have hP:N0 D7 w (.agg #[.int .i64 x.Ab.Ao,.int .i64 x.Ab.size,.slice a1 x.Ab.Ak.length c1,.int .i64 x.Ai,.int .i64 x.quiet,.slice a2 x.holds.length c2]) x (F1++F2):=⟨_,rfl,_,_,_,_,rfl,(s.get m1).2,(s.get m2).2,rfl⟩;refine h.h a w (s.add (N:=[.isv D7 (.agg #[.int .i64 x.Ab.Ao,.int .i64 x.Ab.size,.slice a1 x.Ab.Ak.length c1,.int .i64 x.Ai,.int .i64 x.quiet,.slice a2 x.holds.length c2]) x (F1++F2)]) (Below.refl _ _) HP ⟨GL,trivial⟩ fun q hq b hb=>?_) g;simp at hq;subst hq;simp only [Pc.F,List.mem_append] at hb;rcases hb with hb|hb
 ·exact .inr ⟨rfl,_,m1,rfl,hb⟩
 ·exact .inr ⟨rfl,_,m2,rfl,hb⟩
theorem Wo {v:Value} {x:Cr} {F:List Nat} {S:List Pc} (h:∀(a1:Option Addr) (c1:Nat) (F1:List Nat) (a2:Option Addr) (c2:Nat) (F2:List Nat),v=.agg #[.int .i64 x.Ab.Ao,.int .i64 x.Ab.size,.slice a1 x.Ab.Ak.length c1,.int .i64 x.Ai,.int .i64 x.quiet,.slice a2 x.holds.length c2]→x.Ab.Ak.length≤maxLen→x.holds.length≤maxLen→T c fr (.ow A8 9 (.slice a1 x.Ab.Ak.length c1) x.Ab.Ak F1::.ow Bi 156 (.slice a2 x.holds.length c2) x.holds F2::S) Φ) (hp:Cz H (.own W9 v x F) S:=by exact Df):T c fr H Φ:=.mk fun a w s g=>by
 have z1:=s.pick hp;obtain ⟨hn,cs,rfl,v1,v2,G1,G2,rfl,h1,h2,rfl⟩:=z1.on (.own W9 v x F) GL;obtain ⟨a1,c1,rfl⟩:=h1.slice;have l1:=h1.len;obtain ⟨a2,c2,rfl⟩:=h2.slice;have l2:=h2.len;have hn2:=hn;simp only [List.nodup_append,List.mem_append] at hn2
 refine (h a1 c1 G1 a2 c2 G2 rfl  l1 l2).h a w (St.turn (M:=[.own W9 (.agg #[.int .i64 x.Ab.Ao,.int .i64 x.Ab.size,.slice a1 x.Ab.Ak.length c1,.int .i64 x.Ai,.int .i64 x.quiet,.slice a2 x.holds.length c2]) x _]) (N:=[.ow A8 9 (.slice a1 x.Ab.Ak.length c1) x.Ab.Ak G1,.ow Bi 156 (.slice a2 x.holds.length c2) x.holds G2]) z1 (Dn.refl _ w) ?_ ?_ ?_) g
 ·intro q hq;simp only [List.mem_cons,List.not_mem_nil,or_false] at hq;rcases hq with rfl|rfl
  ·exact ⟨(List.nodup_append.1 hn).1,h1⟩
  ·exact ⟨(List.nodup_append.1 hn).2.1,h2⟩
 ·refine ⟨?_,⟨?_,trivial⟩⟩
  ·exact DZ
  ·intro q hq _ b hb hb2;simp at hq
 ·exact CX
theorem Ajm (x:Cr) {a1:Option Addr} {c1:Nat} {F1:List Nat} {a2:Option Addr} {c2:Nat} {F2:List Nat} {S1 S2:List Pc}  (h:T c fr (.own W9 (.agg #[.int .i64 x.Ab.Ao,.int .i64 x.Ab.size,.slice a1 x.Ab.Ak.length c1,.int .i64 x.Ai,.int .i64 x.quiet,.slice a2 x.holds.length c2]) x (F1++F2)::S2) Φ) (m1:Cz H (.ow A8 9 (.slice a1 x.Ab.Ak.length c1) x.Ab.Ak F1) S1:=by exact Df) (m2:Cz S1 (.ow Bi 156 (.slice a2 x.holds.length c2) x.holds F2) S2:=by exact Df)  : T c fr H Φ:=.mk fun a w s g=>by
 have z1:St c.G c.D c.w0 ([.ow A8 9 (.slice a1 x.Ab.Ak.length c1) x.Ab.Ak F1,.ow Bi 156 (.slice a2 x.holds.length c2) x.holds F2]++S2) w:=by simpa using (show Ex H [.ow A8 9 (.slice a1 x.Ab.Ak.length c1) x.Ab.Ak F1,.ow Bi 156 (.slice a2 x.holds.length c2) x.holds F2] S2 from Ex.cons m1 (Ex.cons m2 (Ex.nil))).st (X:=[]) IB
 obtain ⟨n1,k1⟩:=z1.on (.ow A8 9 (.slice a1 x.Ab.Ak.length c1) x.Ab.Ak F1) GL;obtain ⟨n2,k2⟩:=z1.on (.ow Bi 156 (.slice a2 x.holds.length c2) x.holds F2) GL;have hsp:=z1.sep;have p1_2:∀b∈F1,b ∉ F2:=hsp.1 (.ow Bi 156 (.slice a2 x.holds.length c2) x.holds F2) GL rfl;have hN:(F1++F2).Nodup:=by
  simp only [List.nodup_append,List.mem_append]
  grind
 refine h.h a w (St.turn (M:=[.ow A8 9 (.slice a1 x.Ab.Ak.length c1) x.Ab.Ak F1,.ow Bi 156 (.slice a2 x.holds.length c2) x.holds F2]) (N:=[.own W9 (.agg #[.int .i64 x.Ab.Ao,.int .i64 x.Ab.size,.slice a1 x.Ab.Ak.length c1,.int .i64 x.Ai,.int .i64 x.quiet,.slice a2 x.holds.length c2]) x (F1++F2)]) z1 (Dn.refl _ w) KD ⟨GL,trivial⟩ fun q hq b hb=>?_) g;simp at hq;subst hq;simp only [Pc.F,List.mem_append] at hb;rcases hb with hb|hb
 ·exact .inr (.inl ⟨.ow A8 9 (.slice a1 x.Ab.Ak.length c1) x.Ab.Ak F1,GL,rfl,hb⟩)
 ·exact .inr (.inl ⟨.ow Bi 156 (.slice a2 x.holds.length c2) x.holds F2,GL,rfl,hb⟩)
end
section
variable {c:Cx} {fr:Fr} {H:List Pc} {Φ:Gl}
theorem Ama {v:Value} {x:Iw} {F:List Nat} (h:∀(_:Unit),v=.agg #[.int .i64 x.Af,.int .i64 x.Cg]→T c fr (H) Φ) (hm:.isv Bi v x F∈H:=by exact Bp):T c fr H Φ:=.mk fun a w s g=>by
 obtain ⟨cs,rfl,rfl,rfl⟩:=s.get hm;exact (h () rfl  ).h a w s g
theorem V1 {a:Option Addr} {n cp:Nat} {xs:List Iw} {F:List Nat} (i:Nat) (h:∀(hi:i < xs.length) (b o:Nat),a=some ⟨b,o,none⟩→T c fr (.cel b (o+i * 2) [.int .i64 xs[i].Af,.int .i64 xs[i].Cg]::H) Φ) (hm:.sl Bi (.slice a n cp) xs F∈H:=by exact Bp) (hi:i < xs.length:=by omega):T c fr H Φ:=.mk fun ac w s g=>by
 exact CR
end
section
variable {c:Cx} {fr:Fr} {H:List Pc} {Φ:Gl}
theorem Ib {v:Value} {x:Az} {F:List Nat} (h:∀(a1:Option Addr) (c1:Nat) (F1:List Nat),v=.agg #[.int .i64 x.Ao,.int .i64 x.size,.slice a1 x.Ak.length c1]→x.Ak.length≤maxLen→T c fr (.sl A8 (.slice a1 x.Ak.length c1) x.Ak F1::H) Φ) (hm:.isv Cd v x F∈H:=by exact Bp):T c fr H Φ:=.mk fun a w s g=>by
 obtain ⟨cs,rfl,v1,rfl,h1⟩:=s.get hm;obtain ⟨a1,c1,rfl⟩:=h1.slice;have l1:=h1.len;have t1:=s.ro (p:=.sl A8 (.slice a1 x.Ak.length c1) x.Ak F) hm rfl rfl ⟨GM,h1⟩ fun b hb=>hb;exact GI
theorem Ds (x:Az) {a1:Option Addr} {c1:Nat} {F1:List Nat}  (h:T c fr (.isv Cd (.agg #[.int .i64 x.Ao,.int .i64 x.size,.slice a1 x.Ak.length c1]) x (F1)::H) Φ) (m1:.sl A8 (.slice a1 x.Ak.length c1) x.Ak F1∈H:=by exact Bp):T c fr H Φ:=.mk fun a w s g=>by
 have hP:N0 Cd w (.agg #[.int .i64 x.Ao,.int .i64 x.size,.slice a1 x.Ak.length c1]) x (F1):=⟨_,rfl,_,rfl,(s.get m1).2⟩;refine h.h a w (s.add (N:=[.isv Cd (.agg #[.int .i64 x.Ao,.int .i64 x.size,.slice a1 x.Ak.length c1]) x (F1)]) (Below.refl _ _) HP ⟨GL,trivial⟩ fun q hq b hb=>?_) g;exact BY
theorem Jg {v:Value} {x:Az} {F:List Nat} {S:List Pc} (h:∀(a1:Option Addr) (c1:Nat) (F1:List Nat),v=.agg #[.int .i64 x.Ao,.int .i64 x.size,.slice a1 x.Ak.length c1]→x.Ak.length≤maxLen→T c fr (.ow A8 9 (.slice a1 x.Ak.length c1) x.Ak F1::S) Φ) (hp:Cz H (.own Qf v x F) S:=by exact Df):T c fr H Φ:=.mk fun a w s g=>by
 have z1:=s.pick hp;obtain ⟨hn,cs,rfl,v1,rfl,h1⟩:=z1.on (.own Qf v x F) GL;obtain ⟨a1,c1,rfl⟩:=h1.slice;have l1:=h1.len;refine (h a1 c1 F rfl  l1).h a w (St.turn (M:=[.own Qf (.agg #[.int .i64 x.Ao,.int .i64 x.size,.slice a1 x.Ak.length c1]) x _]) (N:=[.ow A8 9 (.slice a1 x.Ak.length c1) x.Ak F]) z1 (Dn.refl _ w) ?_ ?_ ?_) g
 ·intro q hq;simp at hq;subst hq;exact ⟨hn,h1⟩
 ·exact ⟨GL,trivial⟩
 ·intro q hq b hb;simp at hq;subst hq;exact CS
end
def Ik (w:Az) (n:Int):Bool:=decide (gp w.Ao n < (w.Ak.length:Int))
theorem Ajl {n:Int} (h:J3 n=true):0≤n∧n≤9999:=by unfold J3 Eu at h;simpa using h
def Agw (x:Cr) (i:Nat):Bool:=match x.holds[i]? with
 | none=>true
 | some h=>B9 h.Af && Ik x.Ab h.Af && Eu (x.Ai+1) h.Cg (x.Ai+3) && (decide (i=0) || match x.holds[i - 1]? with|none=>true|some p=>!decide (gp x.Ab.Ao h.Af≤gp x.Ab.Ao p.Af))
theorem O8 {x:Cr} {i:Nat} (h:i < x.holds.length):Agw x i=(B9 x.holds[i].Af && Ik x.Ab x.holds[i].Af && Eu (x.Ai+1) x.holds[i].Cg (x.Ai+3) && (decide (i=0) || !decide (gp x.Ab.Ao x.holds[i].Af≤gp x.Ab.Ao (x.holds[i - 1]'GJ).Af))):=by
 unfold Agw;rw [List.getElem?_eq_getElem h,List.getElem?_eq_getElem (show i - 1 < x.holds.length by omega)]
def Ch (x:Cr):Bool:=Dv x.Ab && J3 x.Ai && Eu 0 x.quiet 3 && (List.range x.holds.length).all (Agw x)
theorem Ae4 {x:Cr} {i:Nat} (h:i < x.holds.length) (hc:Agw x i=false):Ch x=false:=by
 have:(List.range x.holds.length).all (Agw x)=false:=List.all_eq_false.2 ⟨i,GW,JN⟩;simp [Ch,this]
theorem Acn {x:Cr} (h1:Dv x.Ab=true) (h2:J3 x.Ai=true) (h3:Eu 0 x.quiet 3=true) (h:∀j,j < x.holds.length→Agw x j=true):Ch x=true:=by
 unfold Ch;rw [h1,h2,h3,List.all_eq_true.2 fun j hj=>h j JL];rfl
theorem Wf (x:Az) (n:Int) (v:Value) (F:List Nat) (h0:0≤x.Ao) (h1:x.Ao≤65535) (h2:0≤n) (h3:n≤65535) :
  Fn prog 150 [v,.int .i64 n] [.isv Cd v x F] [] (fun (_:Unit)=>True) (fun _=>.bool (Ik x n)) (fun _=>[]):=by
 refine enter func150 rfl ntmps150 fun w0=>?_;refine Ib ?_;rintro a1 c1 F1 rfl l1;refine go ?_;intros;refine At [0] [] ?_;refine Dk 0 1 2 4 ?_;refine Dy 5 6 ?_;refine dN 3 ?_;exact FE
theorem Xk (x:Az) (n:Int) (v:Value) (F:List Nat) (h0:0≤x.Ao) (h1:x.Ao≤65535) (h2:-1≤n) (h3:n≤65536) :
  Fn prog 129 [v,.int .i64 n] [.isv Cd v x F] [] (fun (_:Unit)=>True) (fun _=>.bool (Ik x n)) (fun _=>[]):=by
 refine enter func129 rfl ntmps129 fun w0=>?_;refine Ib ?_;rintro a1 c1 F1 rfl l1;refine go ?_;intros;refine At [0] [] ?_;refine Dk 0 1 2 4 ?_;refine Dy 5 6 ?_;refine dN 3 ?_;refine oC ?_;refine ce (fun w s=>I1 _ _ _ GJ GJ) ?_;refine dk ?_;refine Dy 7 8 ?_;exact CT
theorem Aly (x:Az) (n:Int) (v:Value) (F:List Nat) (h0:0≤x.Ao) (h1:x.Ao≤65535) (h2:0≤n) (h3:n≤65535) :
  Fn prog 129 [v,.int .i64 n] [.isv Cd v x F] [] (fun (_:Unit)=>True) (fun _=>.bool (Ik x n)) (fun _=>[]):=Xk x n v F h0 h1 GJ GJ
theorem Vm (x:Cr) (v:Value) (F:List Nat):Fn prog 94 [v] [.isv D7 v x F] [] (fun (_:Unit)=>True) (fun _=>.bool (Ch x)) (fun _=>[]):=by
 refine enter func94 rfl ntmps94 fun w0=>?_;refine Jh ?_;rintro a1 c1 F1 a2 c2 F2 rfl l1 l2;unfold maxLen at l1 l2;refine Ds x.Ab ?_;generalize F1=F3;refine go ?_;intros;refine cb (fun w st=>Q2 _ x.Ab _ w (st.get (p:=.isv Cd (.agg #[.int .i64 x.Ab.Ao,.int .i64 x.Ab.size,.slice a1 x.Ab.Ak.length c1]) x.Ab F3) GL)) ?_;cases g1:Dv x.Ab
 ·refine go ?_;intros;refine ret () trivial ?_;simp [Ch,g1,Ss]
 obtain ⟨⟨t0,t1⟩, -⟩:=Dz.1 g1;refine go ?_;intros;refine ce (fun w s=>Rp _ _) ?_;cases g2:J3 x.Ai
 ·refine go ?_;intros;refine ret () trivial ?_;simp [Ch,g2,Ss]
 obtain ⟨k0,k1⟩:=Ajl g2;refine go ?_;intros;refine ce (fun w s=>Hk _ _ _ _) ?_;cases g3:Eu 0 x.quiet 3
 ·refine go ?_;intros;refine ret () trivial ?_;simp [Ch,g3,Ss]
 refine go ?_;intros;refine Ev [1,2,22,23] (fun k:Nat=>[(24,.int .i64 k)]) (fun k=>k≤x.holds.length∧∀j,j < k→Agw x j=true) (fun k=>x.holds.length - k) 0 ⟨Nat.zero_le _,fun j h=>by omega⟩ fun k hk=>?_;obtain ⟨hk1,hk2⟩:=hk;refine go ?_;intros;refine Be rfl (fun h3=>?_) (fun h3=>?_)
 ·have hk3:k < x.holds.length:=by omega
  have bad:Agw x k=false→Ch x=false:=fun h=>Ae4 hk3 h;have hck:=O8 hk3;refine V1 (xs:=x.holds) k ?_;rintro hi b o e;rw [e];refine go ?_;intros;refine ce (fun w s=>Il _ _) ?_;cases g4:B9 x.holds[k].Af
  ·exact EE
  obtain ⟨m0,m1⟩:=Bb.1 g4;refine go ?_;intros;refine cb (fun w st=>(Wf x.Ab x.holds[k].Af _ _ t0 t1 m0 m1).val w (I9 (st.get (p:=.isv Cd (.agg #[.int .i64 x.Ab.Ao,.int .i64 x.Ab.size,.slice a1 x.Ab.Ak.length c1]) x.Ab F3) GL))) ?_;cases g5:Ik x.Ab x.holds[k].Af
  ·refine go ?_;intros;refine ret () trivial ?_;rw [bad (by rw [hck,g4,g5];rfl)];rfl
  refine go ?_;intros;refine ce (fun w s=>Hk _ _ _ _) ?_;cases g6:Eu (x.Ai+1) x.holds[k].Cg (x.Ai+3)
  ·refine go ?_;intros;refine ret () trivial ?_;rw [bad (by rw [hck,g4,g5,g6];rfl)];rfl
  refine go ?_;intros;by_cases hk0:0 < k
  ·have hk4:k - 1 < x.holds.length:=by omega
   have hp:=hk2 (k - 1) GJ;rw [O8 hk4] at hp;simp only [Bool.and_eq_true] at hp;obtain ⟨p0,p1⟩:=Bb.1 hp.1.1.1;rw [←e];refine V1 (xs:=x.holds) (k - 1) ?_;rintro hi5 b5 o5 e5;rw [e5];refine At [0,1,3] [] ?_;refine Dy 0 1 ?_;rw [decide_eq_true (show (0:Int) < k by omega)];refine dt 2 ?_;refine Di 3 ?_;refine Di 4 ?_;refine Di 5 ?_;refine Di 6 ?_;refine Di 7 ?_;refine Di 8 ?_;refine Di 9 ?_;rw [show (k:Int) - 1=((k - 1:Nat):Int) by omega];refine Di 10 ?_;refine Di 11 ?_;refine Di 12 ?_;refine Di 14 ?_;refine Di 15 ?_;refine Di 16 ?_;refine Di 17 ?_;refine Di 18 ?_;refine d1g 13 ?_
   apply On.h;refine oC ?_;refine ce (fun w s=>Om _ _ _ GJ GJ GJ GJ) ?_;refine dk ?_;refine d1g 19 ?_;apply On.h;refine oC ?_;refine ce (fun w s=>Om _ _ _ GJ GJ GJ GJ) ?_;refine dk ?_;refine Di 20 ?_;refine dt 21 ?_;refine dd ?_;refine go ?_;intros;refine Be rfl (fun h6=>?_) (fun h6=>?_)
   ·exact BH
   ·refine go ?_;intros;refine Cu (k+1) ⟨GJ,fun j hj=>?_⟩ GJ;rcases Nat.lt_or_eq_of_le (Nat.lt_succ_iff.1 hj) with h|rfl
    ·exact hk2 j h
    ·rw [hck,g4,g5,g6,decide_eq_false h6];simp
  ·have hz:k=0:=by omega
   refine At [0,2] [] ?_;refine Dy 0 1 ?_;rw [decide_eq_false (show ¬(0:Int) < k by omega)];refine dt 2 ?_;refine ds 3 ?_;refine ds 4 ?_;refine ds 5 ?_;refine ds 6 ?_;refine ds 7 ?_;refine ds 8 ?_;refine ds 9 ?_;refine ds 10 ?_;refine ds 11 ?_;refine ds 12 ?_;refine ds 13 ?_;refine ds 14 ?_;refine ds 15 ?_;refine ds 16 ?_;refine ds 17 ?_;refine ds 18 ?_;refine ds 19 ?_;refine ds 20 ?_;refine dt 21 ?_;refine dd ?_;refine go ?_;intros;refine Cu (k+1) ⟨GJ,fun j hj=>?_⟩ GJ;rcases Nat.lt_or_eq_of_le (Nat.lt_succ_iff.1 hj) with h|rfl
   ·exact hk2 j h
   ·rw [hck,g4,g5,g6,decide_eq_true hz];simp
 have hkl:k=x.holds.length:=by omega
 refine go ?_;intros;refine ret () trivial ?_;rw [Acn g1 g2 g3 (hkl▸hk2)];rfl
theorem Ah5 (x:Cr) (v:Value) (F:List Nat):Fn prog 75 [v] [.isv D7 v x F] [] (fun (_:Unit)=>True) (fun _=>.bool (Ch x)) (fun _=>[]):=by
 refine enter func75 rfl ntmps75 fun w0=>?_;refine Jh ?_;rintro a1 c1 F1 a2 c2 F2 rfl l1 l2;unfold maxLen at l1 l2;refine Ds x.Ab ?_;generalize F1=F3;refine go ?_;intros;refine cb (fun w st=>Alx _ x.Ab _ w (st.get (p:=.isv Cd (.agg #[.int .i64 x.Ab.Ao,.int .i64 x.Ab.size,.slice a1 x.Ab.Ak.length c1]) x.Ab F3) GL)) ?_;cases g1:Dv x.Ab
 ·refine go ?_;intros;refine ret () trivial ?_;simp [Ch,g1,Ss]
 obtain ⟨⟨t0,t1⟩, -⟩:=Dz.1 g1;refine go ?_;intros;refine ce (fun w s=>Sa _ _) ?_;cases g2:J3 x.Ai
 ·refine go ?_;intros;refine ret () trivial ?_;simp [Ch,g2,Ss]
 obtain ⟨k0,k1⟩:=Ajl g2;refine go ?_;intros;refine ce (fun w s=>Iq _ _ _ _) ?_;cases g3:Eu 0 x.quiet 3
 ·refine go ?_;intros;refine ret () trivial ?_;simp [Ch,g3,Ss]
 refine go ?_;intros;refine Ev [1,2] (fun k:Nat=>[(3,.int .i64 k)]) (fun k=>k≤x.holds.length∧∀j,j < k→Agw x j=true) (fun k=>x.holds.length - k) 0 ⟨Nat.zero_le _,fun j h=>by omega⟩ fun k hk=>?_;obtain ⟨hk1,hk2⟩:=hk;refine go ?_;intros;refine Be rfl (fun h3=>?_) (fun h3=>?_)
 ·have hk3:k < x.holds.length:=by omega
  have bad:Agw x k=false→Ch x=false:=fun h=>Ae4 hk3 h;have hck:=O8 hk3;refine V1 (xs:=x.holds) k ?_;rintro hi b o e;rw [e];refine go ?_;intros;refine ce (fun w s=>Ng _ _) ?_;cases g4:B9 x.holds[k].Af
  ·exact EE
  obtain ⟨m0,m1⟩:=Bb.1 g4;refine go ?_;intros;refine cb (fun w st=>(Aly x.Ab x.holds[k].Af _ _ t0 t1 m0 m1).val w (I9 (st.get (p:=.isv Cd (.agg #[.int .i64 x.Ab.Ao,.int .i64 x.Ab.size,.slice a1 x.Ab.Ak.length c1]) x.Ab F3) GL))) ?_;cases g5:Ik x.Ab x.holds[k].Af
  ·refine go ?_;intros;refine ret () trivial ?_;rw [bad (by rw [hck,g4,g5];rfl)];rfl
  refine go ?_;intros;refine ce (fun w s=>Iq _ _ _ _) ?_;cases g6:Eu (x.Ai+1) x.holds[k].Cg (x.Ai+3)
  ·refine go ?_;intros;refine ret () trivial ?_;rw [bad (by rw [hck,g4,g5,g6];rfl)];rfl
  refine go ?_;intros;by_cases hk0:0 < k
  ·have hk4:k - 1 < x.holds.length:=by omega
   have hp:=hk2 (k - 1) GJ;rw [O8 hk4] at hp;simp only [Bool.and_eq_true] at hp;obtain ⟨p0,p1⟩:=Bb.1 hp.1.1.1;rw [←e];refine V1 (xs:=x.holds) (k - 1) ?_;rintro hi5 b5 o5 e5;rw [e5];refine At [0,1,3] [] ?_;refine Dy 0 1 ?_;rw [decide_eq_true (show (0:Int) < k by omega)];refine dt 2 ?_;refine Di 3 ?_;refine Di 4 ?_;refine Di 5 ?_;refine Di 6 ?_;refine Di 7 ?_;refine Di 8 ?_;refine Di 9 ?_;rw [show (k:Int) - 1=((k - 1:Nat):Int) by omega];refine Di 10 ?_;refine Di 11 ?_;refine Di 12 ?_;refine Di 14 ?_;refine Di 15 ?_;refine Di 16 ?_;refine Di 17 ?_;refine Di 18 ?_;refine d1g 13 ?_
   apply On.h;refine oC ?_;refine ce (fun w s=>I1 _ _ _ GJ GJ) ?_;refine dk ?_;refine d1g 19 ?_;apply On.h;refine oC ?_;refine ce (fun w s=>I1 _ _ _ GJ GJ) ?_;refine dk ?_;refine Di 20 ?_;refine dt 21 ?_;refine dd ?_;refine go ?_;intros;refine Be rfl (fun h6=>?_) (fun h6=>?_)
   ·exact BH
   ·refine go ?_;intros;refine Cu (k+1) ⟨GJ,fun j hj=>?_⟩ GJ;rcases Nat.lt_or_eq_of_le (Nat.lt_succ_iff.1 hj) with h|rfl
    ·exact hk2 j h
    ·rw [hck,g4,g5,g6,decide_eq_false h6];simp
  ·have hz:k=0:=by omega
   refine At [0,2] [] ?_;refine Dy 0 1 ?_;rw [decide_eq_false (show ¬(0:Int) < k by omega)];refine dt 2 ?_;refine ds 3 ?_;refine ds 4 ?_;refine ds 5 ?_;refine ds 6 ?_;refine ds 7 ?_;refine ds 8 ?_;refine ds 9 ?_;refine ds 10 ?_;refine ds 11 ?_;refine ds 12 ?_;refine ds 13 ?_;refine ds 14 ?_;refine ds 15 ?_;refine ds 16 ?_;refine ds 17 ?_;refine ds 18 ?_;refine ds 19 ?_;refine ds 20 ?_;refine dt 21 ?_;refine dd ?_;refine go ?_;intros;refine Cu (k+1) ⟨GJ,fun j hj=>?_⟩ GJ;rcases Nat.lt_or_eq_of_le (Nat.lt_succ_iff.1 hj) with h|rfl
   ·exact hk2 j h
   ·rw [hck,g4,g5,g6,decide_eq_true hz];simp
 have hkl:k=x.holds.length:=by omega
 refine go ?_;intros;refine ret () trivial ?_;rw [Acn g1 g2 g3 (hkl▸hk2)];rfl
def Ey (l:List Av):Bool:=decide (l.length≤6) && l.all By
def Zg (l:List Av):Bool:=l.all fun p=>decide (p.Ct=3)
def Md (e:Bl):Bool:=decide (e.Ai=0) && decide (e.Ah.length=0)
def So (r:A9):Bool:=!r.Bd && decide (r.Ai=0) && Od r
def P2 (par:List Int) (clk:Int) (i:Nat) (e:Bl) (r:A9) (d u:List Av):Bool:=Ey d && Ey u && Zg u &&
 (if i=0 then Md e && So r && decide (d.length=0) && decide (u.length=0)
  else if Ed par i then Md e && Bz r && decide (r.Ai=clk) else Ba e && decide (e.Ai=clk) && So r)
def Rx (n:Dt) (i:Nat):Bool:=match n.Ae[i]?,n.Ac[i]?,n.down[i]?,n.up[i]? with
 | some e,some r,some d,some u=>P2 n.Al.Ad n.Aa.Ai i e r d u
 | _,_,_,_=>true
def Lc (n:Dt):Bool:=decide (n.Ae.length=n.Al.Ad.length) && decide (n.Ac.length=n.Al.Ad.length) && decide (n.down.length=n.Al.Ad.length) && decide (n.up.length=n.Al.Ad.length)
def Aw (n:Dt):Bool:=Gg n.Al && Ch n.Aa && Lc n && O3 (Rx n) n.Al.Ad.length
theorem Tt {n:Dt} {i:Nat} (h1:i < n.Ae.length) (h2:i < n.Ac.length) (h3:i < n.down.length) (h4:i < n.up.length):Rx n i=P2 n.Al.Ad n.Aa.Ai i n.Ae[i] n.Ac[i] n.down[i] n.up[i]:=by
 unfold Rx;rw [List.getElem?_eq_getElem h1,List.getElem?_eq_getElem h2,List.getElem?_eq_getElem h3,List.getElem?_eq_getElem h4]
theorem Bk {n:Dt}:Lc n=true↔n.Ae.length=n.Al.Ad.length∧n.Ac.length=n.Al.Ad.length∧n.down.length=n.Al.Ad.length∧n.up.length=n.Al.Ad.length:=by
 unfold Lc;simp only [Bool.and_eq_true,decide_eq_true_eq];exact ⟨fun ⟨⟨⟨a,b⟩,c⟩,d⟩=>⟨a,b,c,d⟩,fun ⟨a,b,c,d⟩=>⟨⟨⟨a,b⟩,c⟩,d⟩⟩
theorem Sy {n:Dt}:Aw n=true↔Gg n.Al=true∧Ch n.Aa=true∧Lc n=true∧∀i,i < n.Al.Ad.length→Rx n i=true:=by
 unfold Aw;simp only [Bool.and_eq_true];exact ⟨fun ⟨⟨⟨a,b⟩,c⟩,d⟩=>⟨a,b,c,I4 d⟩,fun ⟨a,b,c,d⟩=>⟨⟨⟨a,b⟩,c⟩,Kw d⟩⟩
theorem Ae2 {n:Dt} {i:Nat} (hi:i < n.Al.Ad.length) (h:Rx n i=false):Aw n=false:=by unfold Aw;rw [Mf hi h,Bool.and_false]
theorem Ang {r:A9} (h:Bz r=true):So r=(!r.Bd && decide (r.Ai=0)):=by
 unfold So;cases hs:r.Bd
 ·unfold Bz at h;rw [hs] at h;simp only [Bool.and_eq_true,Bool.false_eq_true,if_false] at h;rw [h.2,Bool.and_true]
 ·rfl
theorem Ut {r:A9} (h:So r=true):Bz r=true:=by
 unfold So at h;simp only [Bool.and_eq_true,Bool.not_eq_true',decide_eq_true_eq] at h;unfold Bz;rw [h.1.1,h.2,h.1.2];rfl
theorem Us {e:Bl} (h:Md e=true):Ba e=true:=by
 unfold Md at h;simp only [Bool.and_eq_true,decide_eq_true_eq] at h;unfold Ba;rw [h.1,h.2];rfl
def Af1 (par:List Int) (clk:Int) (i:Nat) (e:Bl) (r:A9) (d u:List Av):Bool:=Ba e && Bz r && Ey d && (Ey u && Zg u) &&
 (if i=0 then Md e && (!r.Bd && decide (r.Ai=0)) && decide (d.length+u.length=0)
  else if Ed par i then Md e && decide (r.Ai=clk) else (!r.Bd && decide (r.Ai=0)) && decide (e.Ai=clk))
theorem Aby (par:List Int) (clk:Int) (i:Nat) (e:Bl) (r:A9) (d u:List Av):Af1 par clk i e r d u=P2 par clk i e r d u:=by
 have hz:(decide (d.length+u.length=0))=(decide (d.length=0) && decide (u.length=0)):=by
  by_cases a:d.length=0 <;> by_cases b:u.length=0 <;> simp [a,b]
 unfold Af1 P2;rw [hz];cases gq:Ey d <;> cases gu:Ey u <;> cases gk:Zg u <;> simp only [Bool.and_false,Bool.false_and,Bool.and_true,Bool.true_and]
 split
 ·cases he:Md e
  ·simp
  ·rw [Us he];cases hr:Bz r
   ·cases hr2:So r
    ·simp
    ·rw [Ut hr2] at hr;cases hr
   ·rw [Ang hr];simp [Bool.and_assoc]
 ·split
  ·cases he:Md e
   ·simp
   ·rw [Us he];simp
  ·cases hr:Bz r
   ·cases hr2:So r
    ·simp
    ·rw [Ut hr2] at hr;cases hr
   ·rw [Ang hr];cases Ba e <;> cases (!r.Bd && decide (r.Ai=0)) <;> simp
def Ue (q:List Av) (p:Av):List Av:=if q.length < 6 then q++[p] else q
def Gw (q ps:List Av):List Av:=q++ps.take (6 - q.length)
theorem Amj (q:List Av):Gw q []=q:=by unfold Gw;simp
theorem As5 (q:List Av) (p:Av) (ps:List Av):Gw (Ue q p) ps=Gw q (p::ps):=by
 unfold Gw Ue;by_cases h:q.length < 6
 ·rw [if_pos h,show 6 - q.length=(6 - (q.length+1))+1 by omega,List.take_succ_cons];simp
 ·rw [if_neg h,show 6 - q.length=0 by omega];simp
theorem Awk (q:List Av) (p:Av):Gw q [p]=Ue q p:=by rw [←As5,Amj]
theorem Ami (q ps:List Av):(Gw q ps).length≤q.length+ps.length∧(q.length≤6→(Gw q ps).length≤6):=by
 unfold Gw;rw [List.length_append,List.length_take];omega
theorem Abw {q ps:List Av} (hq:Ey q=true) (hp:∀p∈ps,By p=true):Ey (Gw q ps)=true:=by
 unfold Ey at *;simp only [Bool.and_eq_true,decide_eq_true_eq] at hq ⊢;refine ⟨(Ami q ps).2 hq.1,?_⟩;unfold Gw;rw [List.all_append,hq.2,Bool.true_and,List.all_eq_true];exact fun p h=>hp p (List.mem_of_mem_take h)
def Dg (d:List (List Av)) (nodes:List Int) (ps:List Av):List (List Av):=nodes.foldl (fun d x=>d.modify x.toNat fun q=>Gw q ps) d
theorem Zb (ps:List Av):∀(nodes:List Int) (d:List (List Av)),(Dg d nodes ps).length=d.length
 | [],_=>rfl
 | x::r,d=>by
  show (Dg (d.modify x.toNat fun q=>Gw q ps) r ps).length=d.length;rw [Zb ps r,List.length_modify]
theorem Amv (d:List (List Av)) (nodes:List Int) (x:Int) (ps:List Av):Dg d (nodes++[x]) ps=(Dg d nodes ps).modify x.toNat fun q=>Gw q ps:=by
 unfold Dg;rw [List.foldl_append];rfl
def Lw (f:Nat→Nat):Nat→List (List Av)→Nat
 | _,[]=>0
 | k,x::r=>x.length * f k+Lw f (k+1) r
theorem Agp (f:Nat→Nat):∀(l:List (List Av)) (k i:Nat) (h:i < l.length) (x:List Av),Lw f k (l.set i x)+l[i].length * f (k+i)=Lw f k l+x.length * f (k+i)
 | [],_,_,h,_=>absurd h GL
 | y::r,k,0,_,x=>by
  show x.length * f k+Lw f (k+1) r+y.length * f k=y.length * f k+Lw f (k+1) r+x.length * f k;omega
 | y::r,k,i+1,h,x=>by
  have hr:i < r.length:=by simpa using h
  have ih:=Agp f r (k+1) i hr x;show y.length * f k+Lw f (k+1) (r.set i x)+r[i].length * f (k+(i+1))=y.length * f k+Lw f (k+1) r+x.length * f (k+(i+1));rw [show k+(i+1)=k+1+i by omega];omega
theorem Hq {l:List (List Av)} {i:Nat} {g:List Av→List Av} (h:i < l.length):l.modify i g=l.set i (g l[i]):=by
 refine List.ext_getElem? fun j=>?_;rw [List.getElem?_modify,List.getElem?_set];by_cases e:i=j
 ·subst e;simp [h]
 ·simp [e]
theorem Y5 {l:List (List Av)} {i:Nat} {g:List Av→List Av} (h:¬i < l.length):l.modify i g=l:=by
 refine List.ext_getElem? fun j=>?_;rw [List.getElem?_modify];by_cases e:i=j
 ·subst e;simp [List.getElem?_eq_none (show l.length≤i by omega)]
 ·simp [e]
theorem Ane (f:Nat→Nat) (l:List (List Av)) (i:Nat) (ps:List Av):Lw f 0 (l.modify i fun q=>Gw q ps)≤Lw f 0 l+ps.length * f i:=by
 by_cases h:i < l.length
 ·have h1:=Agp f l 0 i h (Gw l[i] ps);have h2:=Nat.mul_le_mul_right (f i) (Ami l[i] ps).1;rw [Nat.zero_add,Nat.add_mul] at *;rw [Hq h];omega
 ·rw [Y5 h];omega
def Zc (f:Nat→Nat) (nodes:List Int):Nat:=(nodes.map fun x=>f x.toNat).sum
theorem Tc (f:Nat→Nat) (ps:List Av):∀(nodes:List Int) (d:List (List Av)),Lw f 0 (Dg d nodes ps)≤Lw f 0 d+ps.length * Zc f nodes
 | [],d=>by show Lw f 0 d≤_;omega
 | x::r,d=>by
  have ih:=Tc f ps r (d.modify x.toNat fun q=>Gw q ps);have h1:=Ane f d x.toNat ps;show Lw f 0 (Dg (d.modify x.toNat fun q=>Gw q ps) r ps)≤Lw f 0 d+ps.length * (f x.toNat+Zc f r);rw [Nat.mul_add];omega
theorem Ayb (f:Nat→Nat) (l:List (List Av)) (i:Nat) (h:i < l.length) (h0:0 < l[i].length):Lw f 0 (l.set i (l[i].drop 1))+f i=Lw f 0 l:=by
 have h1:=Agp f l 0 i h (l[i].drop 1);rw [List.length_drop,Nat.zero_add] at h1;have h2:l[i].length * f i=(l[i].length - 1) * f i+f i:=by
  obtain ⟨m,hm⟩:∃m,l[i].length=m+1:=⟨l[i].length - 1,GJ⟩;rw [hm,Nat.succ_mul,Nat.add_sub_cancel]
 omega
theorem Ai5 (f:Nat→Nat) (b:Nat):∀nodes:List Int,(∀x∈nodes,f x.toNat≤b)→Zc f nodes≤nodes.length * b
 | [],_=>by simp [Zc]
 | x::r,h=>by
  have ih:=Ai5 f b r fun y hy=>h y (by simp [hy]);have:=h x GL;show f x.toNat+Zc f r≤(r.length+1) * b;rw [Nat.succ_mul];omega
theorem La {l:List Int} (hg:Tn l) {i:Nat} {x:Int} (h:x∈H3 l (i:Int)):i < x.toNat∧x.toNat < l.length∧0≤x:=by
 obtain ⟨j,hj,rfl,e⟩:=Als h;rcases Nat.eq_zero_or_pos j with rfl|h0
 ·have:=hg.z hj;omega
 ·have:=(hg.p j hj h0).2;simp only [Int.toNat_natCast];omega
theorem T6 (l:List Int) (node:Int):(H3 l node).length≤l.length:=Afa l node l.length
end Go.Proofs.YtkagnmekdkchiaaGreatDoor
