/- Part 2 of the proof: 41 texts, one behind the other. -/
import Derived.Test.YtcmighgaiacgoaaGreatDoorProg
import Derived.Test.YtcmighgaiacgoaaGreatDoorShelf
import Derived.Lib.Overlaps
import Derived.Lib.AppendZerosOnto
import Derived.Laws.IdiomCopy
import Derived.Test.YtcmighgaiacgoaaGreatDoorM1
open _root_.Go.Proofs.Tryz
set_option maxRecDepth 100000
set_option maxHeartbeats 8000000
set_option linter.all false
set_option linter.unusedVariables false
set_option linter.unusedSimpArgs false
namespace Go.Proofs.YtcmighgaiacgoaaGreatDoor
theorem AA{p:Prop}(h:p:=by refine go ?_;refine ret () trivial rfl):p:=h
theorem AE{p:Prop}(h:p:=by refine dk ?_;refine dN 5 ?_;refine Pf Iq H5 fun a2 c2 F2=>?_;refine dk ?_;refine dt 6 ?_;refine dN 8 ?_;refine oS ?_;refine Tf ?_;refine dd ?_;refine Br (⟨_,a2,c2,F2⟩:CpS) trivial):p:=h
theorem AG{p:Prop}(h:p:=by obtain ⟨cs,rfl,v1,rfl,h1⟩:=s.get hm;obtain ⟨a1,c1,rfl⟩:=h1.slice;have l1:=h1.len;have t1:=s.ro (p:=.sl _ _ _ _) hm rfl rfl ⟨by decide,h1⟩ fun b hb=>hb;exact (h a1 c1 F rfl  l1).h a w t1 g):p:=h
theorem AH{p:Prop}(h:p:=by refine h.h a w (s.add (N:=[_]) (Below.refl _ _) (by intro q hq;simp at hq;subst hq;exact ⟨_,rfl,_,rfl,(s.get m1).2⟩) ⟨by simp,trivial⟩ fun q hq b hb=>?_) g;simp at hq;subst hq;simp only [Pc.F,List.mem_append] at hb;exact .inr ⟨rfl,_,m1,rfl,hb⟩):p:=h
theorem AR{p:Prop}(h:p:=by exact .inr (.inl ⟨_,List.mem_singleton.2 rfl,rfl,hb⟩)):p:=h
theorem AU{p:Prop}(h:p:=by obtain ⟨b,o,cs,G,ha,hrep,hG,hb,hne,hr⟩:=Yz (s.get hm) i hi;obtain ⟨v1,rfl,h1⟩:=hrep;obtain ⟨a1,c1,rfl⟩:=h1.slice;have l1:=h1.len;have t1:=s.ro (p:=.sl _ _ _ _) hm rfl rfl ⟨by decide,h1⟩ (by intro b hb;simp only [Pc.F] at hb ⊢;exact hG b (by simp [hb]));exact (h hi b o a1 c1 G ha  l1).h ac w (t1.ro (List.mem_cons_of_mem _ hm) rfl rfl ⟨hne,hr⟩ (by intro x hx;simp [Pc.F] at hx;subst hx;exact hb)) g):p:=h
theorem AV{p:Prop}(h:p:=by refine Pf Iq H5 fun a2 c2 F2=>?_;refine dk ?_;refine dt 6 ?_;refine dN 7 ?_;apply Cr;rfl;intro _;refine dk ?_;refine dN 8 ?_;refine oS ?_;refine Tf ?_;refine dd ?_;refine Br (⟨_,a2,c2,F2⟩:CpS) trivial):p:=h
theorem BE{p:Prop}(h:p:=by have hps:=Abh (x:=x) (k:=k) hs (s:=⟨true,Dg⟩) hi;refine A4 (xs:=Mt x k ⟨true,Dg⟩) fun F4=>?_;refine By ⟨x.next,Mt x k ⟨true,Dg⟩⟩ ?_;refine go ?_;refine Ca (Wy ⟨x.next,Mt x k ⟨true,Dg⟩⟩ _ _ h0 h1 (by show (Mt x k ⟨true,Dg⟩).length≤_;omega) hps) fun z hz=>?_;refine go ?_;refine ret z ⟨by rw [hz.1,hW],by rw [hz.2,hE]⟩ rfl):p:=h
theorem BO{p:Prop}(h:p:=by have s1:=s.pick hp;have hr:=(s1.on (.row g t 0 [] cs []) (by simp)).2;have hlen:=(hfl w).len;refine h.h a w (s1.conv rfl ⟨by simp,.inr ⟨g,xs.length,cs,[],[],rfl,by simpa using hr,Nat.le_refl _,by unfold maxLen;omega,by simpa using hlen,hfl w,rfl⟩⟩ (by simp [Pc.F])) g'):p:=h
theorem BP{p:Prop}(h:p:=by refine go ?_;refine ret () trivial ?_;rw [Nt (fun j hj=>hk2 j hj hj)];rfl):p:=h
theorem BW{p:Prop}(h:p:=by refine Cg ⟨s.es++[Gn s.y.Al],Z7 s.y,a5,c5,F5,a',c',F'⟩ ⟨(J4 _ _).1,(J4 _ _).2,fun z hz=>hit z (List.mem_of_mem_drop hz),by simp [Z7];omega,by simp [Z7];omega,by rw [hw,hst];rfl,by rw [he,hst];simp [O7,Z7]⟩ (by show Eu (Cf s.y.next 1) n < _;omega)):p:=h
theorem BY{p:Prop}(h:p:=by exact ⟨.slice none 0 0,[],rfl,.inl ⟨rfl,rfl,rfl⟩,by simp,by simp,Below.refl _ _⟩):p:=h
theorem BZ{p:Prop}(h:p:=by simp at hq;subst hq;simp only [Pc.F,List.mem_append] at hb;exact AR):p:=h
theorem CL{p:Prop}(h:p:=by obtain ⟨b,o,cs,G,ha,hrep,hG,hb,hne,hr⟩:=Yz (s.get hm) i hi;obtain ⟨rfl,s1,rfl⟩:=hrep;exact (h hi b o  ha s1 ).h ac w (s.ro hm rfl rfl ⟨hne,hr⟩ (by intro x hx;simp [Pc.F] at hx;subst hx;exact hb)) g):p:=h
theorem CV{p:Prop}(h:p:=by simp only [List.singleton_append,List.append_nil,List.append_assoc];refine List.Perm.cons _ ?_;rw [←List.append_assoc,←List.append_assoc];exact (List.perm_append_comm).append_right _):p:=h
theorem CW{p:Prop}(h:p:=by rw [e];refine Cg ⟨s.j+1,a',c',F'⟩ (by show s.j+1≤_;omega) (by show _ - (s.j+1) < _;omega)):p:=h
theorem CX{p:Prop}(h:p:=by apply Cr;rfl;intro _;refine dk ?_;refine dN 2 ?_;apply Mp;rfl;intro _;refine C7 Bz ?_;exact AE):p:=h
theorem DH{p:Prop}(h:p:=by intro q hq;simp at hq;subst hq;exact ⟨hn,h1⟩):p:=h
theorem DN{p:Prop}(h:p:=by intro q hq b hb;simp at hq;subst hq;exact AR):p:=h
theorem DP{p:Prop}(h:p:=by have:=h.h a w.drew (s.below (Dt (Below.refl _ _) 1)) g;simpa [Gl.sem] using this):p:=h
theorem DV{p:Prop}(h:p:=by have s1:=s.pick hp;obtain ⟨-,ho⟩:=s1.on (.own O v x F) (by simp);obtain ⟨F',hF,hs⟩:=Jz.weak hW ho;exact (h F').h a w (s1.conv rfl hs hF) g):p:=h
theorem EG{p:Prop}(h:p:=by dsimp only;rw [Hk hj (by simp [hpj]),←h4,List.take_add_one,List.getElem?_set_self (by omega),List.take_set_of_le (Nat.le_refl _)];rfl):p:=h
theorem EK{p:Prop}(h:p:=by exact ⟨Ci (by simp only [D8,decide_eq_false (show ¬(x.An.length:Int)≤x.size by omega),Bool.and_false,Bool.false_and]),hB0 _⟩):p:=h
theorem EP{p:Prop}(h:p:=by refine go ?_;refine ret ⟨s.es++z.es,z.y,z.a,z.c,z.F,a',c',F2⟩ ⟨by rw [hz.1,hw];rfl,by rw [hz.2,he,hw];simp [O7,I5]⟩ rfl):p:=h
theorem EU{p:Prop}(h:p:=by have a1:=List.drop_eq_getElem_cons hjz;have a2:=List.drop_eq_getElem_cons hj;rw [h5,a2] at a1;exact (List.cons.inj a1).1.symm):p:=h
theorem EW{p:Prop}(h:p:=by simp only [execOp,Option.map_none,Option.map_some,hA.ev hx,hA.ev hy,hA.ev hz,Sem.run_bind,h3,Result.andThen_ok,Sem.run_pure]):p:=h
theorem FQ{p:Prop}(h:p:=by rw [List.getElem?_toArray];rfl):p:=h
theorem FY{p:Prop}(h:p:=by rw [List.length_take];omega):p:=h
theorem GP{p:Prop}(h:p:=by simpa [Pc.mu] using hA):p:=h
theorem GU{p:Prop}(h:p:=by intro q hq;simp at hq;subst hq;exact ⟨hN,_,rfl,_,rfl,k1⟩):p:=h
theorem GZ{p:Prop}(h:p:=by simp [fp,Pc.F]):p:=h
theorem HE{p:Prop}(h:p:=by simp [Jk] <;> omega):p:=h
theorem HX{p:Prop}(h:p:=by rw [List.length_append,List.length_take,List.length_replicate];omega):p:=h
theorem HY{p:Prop}(h:p:=by simpa [List.filter,Pc.mu,fp,Pc.F] using hk):p:=h
theorem II{p:Prop}(h:p:=by simp only [Mz,List.replicate_zero,List.append_nil];exact Abg):p:=h
theorem IM{p:Prop}(h:p:=by intro q hq b hb;simp at hq;subst hq;exact .inl (hF b hb)):p:=h
theorem IP{p:Prop}(h:p:=by simp [Z7];omega):p:=h
theorem IT{p:Prop}(h:p:=by intro p hp;simp at hp;subst hp;rfl):p:=h
theorem JF{p:Prop}(h:p:=by dsimp only;omega):p:=h
theorem JI{p:Prop}(h:p:=by rw [h7] at hF;simpa [Value.ownBlock] using hF):p:=h
theorem JP{p:Prop}(h:p:=by unfold I4;rw [show gp x.next (Cf x.next k)=k by unfold gp Cf;omega,Int.toNat_natCast,h]):p:=h
theorem JT{p:Prop}(h:p:=by intro q hq;simp at hq;subst hq;exact hv):p:=h
theorem JV{p:Prop}(h:p:=by simpa using hb):p:=h
theorem KB{p:Prop}(h:p:=by unfold Mt;rw [List.length_set,Pk];omega):p:=h
theorem KD{p:Prop}(h:p:=by show Dg.size≤maxLen;unfold maxLen;omega):p:=h
theorem LA{p:Prop}(h:p:=by rcases List.mem_cons.1 hq with rfl|hq;simp;simp [hp2.sub q hq]):p:=h
theorem LG{p:Prop}(h:p:=by show n - (j+1) < n - j;omega):p:=h
theorem LK{p:Prop}(h:p:=by intro q hq;rw [List.mem_singleton] at hq;subst hq;exact hW):p:=h
theorem LM{p:Prop}(h:p:=by simp [Mz,List.replicate_succ']):p:=h
end Go.Proofs.YtcmighgaiacgoaaGreatDoor
namespace Go.Proofs.YtcmighgaiacgoaaGreatDoor
open Go.RowKit
abbrev FV (f:FuncId) (a:List Value) (A:List Pc) (v:Value):Prop:=Fn prog f a A [] (fun (_:Unit)=>True) (fun _=>v) (fun _=>[])
end Go.Proofs.YtcmighgaiacgoaaGreatDoor
namespace Go.Proofs.YtcmighgaiacgoaaGreatDoor
open Go.RowKit
theorem Axw {A B:List Nat} (h:(A++B).Nodup) {b:Nat} (ha:b∈A) (hb:b∈B):False:=(List.nodup_append.1 h).2.2 b ha b hb rfl
section
variable {c:Cx} {fr:Fr} {H:List Pc} {k:List It} {Φ:Gl} {ops:Array Oper} {rest:List Oper} {d:Nat} {o:Op} {ty:TypeId} {pos:String} {Cf:Array Edge} {v u:Value} {x y:Operand}
theorem ap {α:Type} {E:Bn α} {t e m b:Nat} {z:Value} [hS:SlC c.P t e m] [hE:ElT c.P e z m b] {xs ys:List α} {F Fy:List Nat} {ao:Option Addr} {n cp:Nat} {gd:Option (Nat × Bool)} {R S:List Pc} (one:X6 E) (hz:0 < E.sz) (hm:E.sz=m)
  (hp:Cn H (.ow E e v xs F) R) (hx:ev fr x=some v) (hy:ev fr y=some (.slice ao n cp)) (hn:n=ys.length)
  (hsrc:∀w,St c.G c.D c.w0 (.ow E e v xs F::R) w→∃news,Cy E w news ys Fy∧((ao=none∧cp=0∧ys=[])∨∃ad,ao=some ad∧∀j u,news[j]?=some u→w.cell? (ad.add j)=some u)∧(∀b∈Fy,b ∉ F)∧Fy.Nodup)
  (hFy:∀w v' F',St c.G c.D c.w0 (.ow E e v xs F::R) w→(∀b∈F',b∈F∨b∈Fy∨b=w.heap.size)→∀w',Dr F w w'→(Pc.ow E e v' (xs++ys) F').P w'→St c.G c.D c.w0 (.ow E e v' (xs++ys) F'::S) w')
  (h63:xs.length+ys.length≤maxLen) (hby:(xs.length+ys.length) * b≤140737488355328)
  (h:∀a' c' F',T c ((d,.slice a' (xs++ys).length c')::fr) (.ow E e (.slice a' (xs++ys).length c') (xs++ys) F'::S) Φ) (hd:Nat.blt d c.n=true) :
  Ef c fr H ⟨some d,.call { callee:=.builtin .append,args:=#[x,y],argTypes:=#[t,t] },ty,pos,Cf,gd⟩ Φ:=.mk fun Q a w s g=>by
 have s1:=s.pick hp;obtain ⟨hnd,how⟩:=s1.on (.ow E e v xs F) FI;obtain ⟨news,hfl,hsr,hdis,hny⟩:=hsrc w s1;subst hn;refine At9 (P:=c.P) one hz x y t rfl e z b hS.u (by rw [hE.i,hm]) (by rw [hE.s,hm]) v xs F (g.ev hx) how (Hd.of hnd) ao ys cp (g.ev hy) news Fy hfl hsr (fun b hb e=>hdis b hb (how.own_mem b e)) h63 hby fun v' w' F' hA=>?_;obtain ⟨a',c',rfl⟩:=hA.val;rw [←List.length_append] at hA ⊢;have hw:=hA.ow;exact (h a' c' F').h _ _ (hFy w _ F' s1 hA.mem w' hA.I7 ⟨hA.Bbd hnd hny hdis,hw⟩) (g.put hd)
theorem Ps {α:Type} {E:Bn α} {t e m b:Nat} {z:Value} [hS:SlC c.P t e m] [hE:ElT c.P e z m b] {xs ys:List α} {F:List Nat} {g n cp tt:Nat} {cs:List Value} {R S:List Pc}
  (hfl:∀w,Cy E w cs ys []) (one:X6 E) (h:∀a' c' F',T c ((d,.slice a' (xs++ys).length c')::fr) (.ow E e (.slice a' (xs++ys).length c') (xs++ys) F'::S) Φ)
  (hx:ev fr x=some v:=by rfl) (hy:ev fr y=some (.slice (some ⟨g,0,none⟩) n cp):=by rfl) (hp:Cn H (.ow E e v xs F) R:=by exact Da) (hp2:Cn R (.row g tt 0 [] cs []) S:=by exact Da) (hn:n=ys.length:=by rfl) (hz:0 < E.sz:=by decide) (hm:E.sz=m:=by rfl)
  (h63:xs.length+ys.length≤9223372036854775807:=by simp only [List.length_cons,List.length_nil];omega) (hby:(xs.length+ys.length) * b≤140737488355328:=by simp only [List.length_cons,List.length_nil];omega) (hd:Nat.blt d c.n=true:=by rfl) :
  On c fr H (some d) (.call { callee:=.builtin .append,args:=#[x,y],argTypes:=#[t,t] }) ty Φ :=
 ⟨fun _ _ _=>ap one hz hm hp hx hy hn (Fy:=[]) (fun w s=>⟨cs,hfl w,.inr ⟨_,rfl,fun j u hu=>by
   have hr:=(s.on (.row g tt 0 [] cs []) (by simp [hp2.mem])).2;have:=hr.cell j;simp only [List.nil_append,List.append_nil] at this;rw [hu] at this;unfold Addr.add
   split
   ·rename_i e;subst e;exact this
   ·simpa using this⟩,FI,FI⟩)
  (fun w v' F' s hF w' hk hv=>by
   have s2:St c.G c.D c.w0 (.ow E e v xs F::S) w:=⟨s.I7,fun q hq=>s.on q LA,⟨fun q hq=>s.sep.1 q (hp2.sub q hq),(hp2.sep s.sep.2).2⟩,fun q hq=>s.Ad9 q LA⟩;exact St.turn (M:=[.ow E e v xs F]) (N:=[.ow E e v' (xs++ys) F']) s2 HY JT ⟨FI,trivial⟩ (by
    intro q hq b hb;simp at hq;subst hq;rcases hF b hb with h|h|h
    ·exact .inr (.inl ⟨.ow E e v xs F,FI,rfl,h⟩)
    ·simp at h
    ·exact .inl FH))
  (by unfold maxLen;exact h63) hby h hd⟩
theorem Pf {α:Type} {E:Bn α} {t e m b:Nat} {z:Value} [hS:SlC c.P t e m] [hE:ElT c.P e z m b] {xs ys:List α} {F G:List Nat} {ao:Option Addr} {n cp:Nat} {R:List Pc}
  (one:X6 E) (sc:∀{w cs x F},E.Kn w cs x F→F=[]) (h:∀a' c' F',T c ((d,.slice a' (xs++ys).length c')::fr) (.ow E e (.slice a' (xs++ys).length c') (xs++ys) F'::R) Φ)
  (hx:ev fr x=some v:=by rfl) (hy:ev fr y=some (.slice ao n cp):=by rfl) (hp:Cn H (.ow E e v xs F) R:=by exact Da) (hp2:.sl E (.slice ao n cp) ys G∈R:=by exact A9) (hn:n=ys.length:=by rfl) (hz:0 < E.sz:=by decide) (hm:E.sz=m:=by rfl)
  (h63:xs.length+ys.length≤9223372036854775807:=by first|omega|(simp only [List.length_cons,List.length_nil];omega)) (hby:(xs.length+ys.length) * b≤140737488355328:=by first|omega|(simp only [List.length_cons,List.length_nil];omega)) (hd:Nat.blt d c.n=true:=by rfl) :
  On c fr H (some d) (.call { callee:=.builtin .append,args:=#[x,y],argTypes:=#[t,t] }) ty Φ :=
 have flat0:∀{w cs zs G},Cy E w cs zs G→G=[]:=fun {w cs zs G}=>by
  induction zs generalizing cs G with
  | nil=>intro h;exact h.2
  | cons z r ih=>intro h;obtain ⟨c1,c2,F1,F2,_,rfl,h1,h2⟩:=h;rw [sc h1,ih h2];rfl
 ⟨fun _ _ _=>ap one hz hm hp hx hy hn (Fy:=[]) (fun w s=>by
   obtain ⟨-,hs⟩:=s.on (.sl E (.slice ao n cp) ys G) (by simp [hp2]);obtain ⟨ao',cc,news,Fy,he, -,hfy, -,hsrc⟩:=hs.src;simp only [Value.slice.injEq] at he;obtain ⟨rfl, -,rfl⟩:=he;obtain rfl:=flat0 hfy;exact ⟨news,hfy,hsrc,FI,FI⟩)
  (fun w v' F' s hF w' hk hv=>St.turn (M:=[.ow E e v xs F]) (N:=[.ow E e v' (xs++ys) F']) s HY JT ⟨FI,trivial⟩ (by
    intro q hq b hb;simp at hq;subst hq;rcases hF b hb with h|h|h
    ·exact .inr (.inl ⟨.ow E e v xs F,FI,rfl,h⟩)
    ·simp at h
    ·exact .inl FH))
  (by unfold maxLen;exact h63) hby h hd⟩
/-! parts of slices that read -/
theorem Agi {P:Program} {t e m:Nat} (hS:SlC P t e m):P.elem t=e:=by simp [Program.elem,hS.u]
theorem sld {α:Type} {E:Bn α} {t e m:Nat} [hS:SlC c.P t e m] {a:Option Addr} {n cp:Nat} {xs:List α} {F:List Nat} {i:Int} (j:Nat) (h:∀a' c' F',T c ((d,.slice a' (xs.drop j).length c')::fr) (.sl E (.slice a' (xs.drop j).length c') (xs.drop j) F'::H) Φ)
  (hx:ev fr x=some (.slice a n cp):=by rfl) (hy:ev fr y=some (.int .i64 i):=by rfl) (hm:.sl E (.slice a n cp) xs F∈H:=by exact A9) (hi:i=(j:Int):=by first|rfl|omega) (hj:j≤xs.length:=by omega) (he:E.sz=m:=by rfl) (hd:Nat.blt d c.n=true:=by rfl):On c fr H (some d) (.slice t x (some y) none none) ty Φ:=⟨fun pos Cf gd=>P4 fun Q ac w s g=>by
 subst hi;obtain ⟨hz,hs⟩:=s.get hm;have he2:=Agi hS;obtain ⟨a2,c2,F',hr,hF,h2⟩:=hs.dropS t GS j hj (fun W=>by rw [he2,he];exact Nj hS.s W);have e1:(execOp ac.eval ⟨some d,.slice t x (some y) none none,ty,pos,Cf,gd⟩).run c.P w=.ok (.value (.slice a2 (xs.drop j).length c2)) w:=by
  simp [execOp,g.ev hx,g.ev hy,hr]
 rw [e1];rw [←List.length_drop] at h2;exact (h a2 c2 F').h _ w (s.ro hm rfl rfl ⟨hz,h2⟩ hF) (g.put hd)⟩
/-! one element of an owned slice, of elements without blocks of their own -/
def Aza {α:Type} (E:Bn α) (t:TypeId) (g:Nat) (v:Value) (xs:List α) (i:Nat) (A B:List Value):Prop:=∀w cs y,Ii w g t (A++cs++B)→E.Kn w cs y []→Ow E t w v (xs.set i y) [g]
theorem Pv {α:Type} {E:Bn α} {t:TypeId} {a:Option Addr} {n cp m:Nat} {xs:List α} {F:List Nat} {S:List Pc} (sc:Abt E) (i:Nat) (h:∀(_:i < xs.length) g A cs B,a=some ⟨g,0,none⟩→F=[g]→(∀w,E.Kn w cs xs[i] [])→Aza E t g (.slice (some ⟨g,0,none⟩) n cp) xs i A B→T c fr (.row g t (0+i * m) A cs B::S) Φ)
  (hp:Cn H (.ow E t (.slice a n cp) xs F) S) (hm:E.sz=m) (hi:i < xs.length):T c fr H Φ:=.mk fun ac w s g=>by
 have z1:=s.pick hp;obtain ⟨-,ho⟩:=z1.on (.ow E t (.slice a n cp) xs F) FI;obtain ⟨g0,cap,A,cs,B,G1,Fi,G2,hv,hr,hA, -,hx,rfl, -,hW⟩:=ho.focus i hi
 cases hv;obtain rfl:=sc hx;have hG:∀b,b ∉ G1++G2:=by
  intro b hb;have:=ho.scal sc;simp only [Value.ownBlock,Option.toList_some,List.append_nil,List.cons.injEq,true_and] at this;rw [this] at hb;simp at hb
 have hG0:G1++G2=[]:=List.eq_nil_iff_forall_not_mem.2 hG;subst hm;refine (h hi g0 A cs B rfl (by simpa using hG0) (fun w'=>E.frame hx FI) (fun w' c' y hr' hy=>?_)).h ac w (z1.conv rfl ⟨FH,hr⟩ (by intro b hb;simp [Pc.F] at hb;subst hb;simp [Pc.F])) g;have:=hW w' c' y [] hr' hy (fun b hb=>absurd hb (hG b));simpa [hG0] using this
theorem O5 {α:Type} {E:Bn α} {t:TypeId} {g o:Nat} {v:Value} {xs:List α} {i:Nat} {A cs B:List Value} {S:List Pc} (y:α) (hh:Aza E t g v xs i A B) (hy:∀w,E.Kn w cs y []) (h:T c fr (.ow E t v (xs.set i y) [g]::S) Φ) (hp:Cn H (.row g t o A cs B) S:=by exact Da):T c fr H Φ:=.mk fun ac w s ag=>by
 have z1:=s.pick hp;obtain ⟨-,hr⟩:=z1.on (.row g t o A cs B) FI;exact h.h ac w (z1.conv rfl ⟨FI,hh w cs y hr (hy w)⟩ (fun b hb=>hb)) ag
/-! calls by the elder contracts -/
theorem cn {α:Type} {E:Bn α} {t:TypeId} {xs:List α} {f:Nat} {vs:List Value} (hc:∀w,St c.G c.D c.w0 H w→Calls c.P f vs.toArray w (Nd E t xs w)) (h:∀a cp F,T c ((d,.slice a xs.length cp)::fr) (.ow E t (.slice a xs.length cp) xs F::H) Φ):Cl c fr H d f vs Φ :=
 Aaa hc (fun w e w' s hR=>by
  obtain ⟨v,F,he,ho,hn,hF,hB⟩:=hR;obtain ⟨a,cp,rfl⟩:=ho.slice;exact ⟨_,he,fun ac g=>(h a cp F).h ac w' (s.add (N:=[.ow E t (.slice a xs.length cp) xs F]) hB (by intro q hq;simp at hq;subst hq;exact ⟨hn,ho⟩) ⟨FI,trivial⟩ IM) g⟩)
theorem cr {α:Type} {E:Bn α} {z:α} {f:Nat} {vs:List Value} (hc:∀w,St c.G c.D c.w0 H w→Calls c.P f vs.toArray w (Bi0 E z w)) (h:∀v F,T c ((d,v)::fr) (.isv E v z F::H) Φ):Cl c fr H d f vs Φ :=
 Aaa hc (fun w e w' s hR=>by
  obtain ⟨v,F,he,ho,hF,hB⟩:=hR;exact ⟨_,he,fun ac g=>(h v F).h ac w' (s.add (N:=[.isv E v z F]) hB (by intro q hq;simp at hq;subst hq;exact ho) ⟨FI,trivial⟩ IM) g⟩)
theorem cv {α:Type} {E:Bn α} {z:α} {f:Nat} {vs:List Value} (hc:∀w,St c.G c.D c.w0 H w→Calls c.P f vs.toArray w (Wm E z w)) (h:∀v F,T c ((d,v)::fr) (.own E v z F::H) Φ):Cl c fr H d f vs Φ :=
 Aaa hc (fun w e w' s hR=>by
  obtain ⟨v,F,he,ho,hn,hF,hB⟩:=hR;exact ⟨_,he,fun ac g=>(h v F).h ac w' (s.add (N:=[.own E v z F]) hB (by intro q hq;simp at hq;subst hq;exact ⟨hn,ho⟩) ⟨FI,trivial⟩ IM) g⟩)
/-! regions that draw their order -/
inductive Nth:List Pc→Nat→Pc→Prop
 | zero {p R}:Nth (p::R) 0 p
 | succ {x p R i}:Nth R i p→Nth (x::R) (i+1) p
inductive Sel (H:List Pc):List Nat→List Pc→Prop
 | nil:Sel H [] []
 | cons {i is p R}:Nth H i p→Sel H is R→Sel H (i::is) (p::R)
theorem Nth.mem {H i p} (h:Nth H i p):p∈H:=by
 induction h with
 | zero=>simp
 | succ _ ih=>simp [ih]
variable {H0:List Pc} {X:List Nat} {f:Nat} {listed:Array Bool}
theorem As {id:Nat} {l:List Oper} (is X:List Nat) (h:T c fr H (.dx k H0 X l.toArray l.length (Array.replicate l.length false))) (_hsel:Sel H is H0:=by repeat constructor) (hm:c.P.follows .mixedOrders=true:=by kernel_rfl):T c fr H (.code k (Code.region id l.toArray true)):=.mk fun a w s g=>by
 refine E9.start (S:=Od H0) (X:=fun i=>X.contains i) hm ?_;exact DP
def X7 (c:Cx):Prop:=∀ch d v a w,c.R (.panic ch) (Act.put a d v) w→c.R (.panic ch) a w
theorem Aai {P:Program} {D G:List Nat} {w0:World} {n:Nat} {fn:Func} {R:Ending→World→Prop}:X7 ⟨P,G,D,w0,n,bodyPost P fn R⟩:=fun ch d v a w h=>by
 cases d <;> exact h
theorem dt (i:Nat) (h:T c ((d,v)::fr) H (.dx k H0 X ops f (listed.setIfInBounds i true))) (ho:ops[i]?=some ⟨some d,o,ty,pos,Cf,none⟩:=by rw [List.getElem?_toArray];rfl) (hy:Yd c.P c.n fr H0 o ty v:=by exact ydE) (hs:Nc H0 H:=by repeat (first|exact Nc.nil|refine Nc.cons FL ?_))
  (h1:Region.noSelect ops=true:=by kernel_rfl) (h2:Region.free .any ops listed i=true:=by kernel_rfl) (h3:(Region.ready .any ops listed).contains i=true:=by kernel_rfl) (h4:Mg .any ops (fun i=>X.contains i) i=true:=by kernel_rfl) (h5:Ng .any ops listed=true:=by kernel_rfl) (hR:X7 c:=by exact Aai) (hd:Nat.blt d c.n=true:=by rfl) :
  T c fr H (.dx k H0 X ops (f+1) listed):=.mk fun a w s g =>
 E9.take (v:=v) ho h1 h2 h3 h4 h5 (fun ch a w hp=>by rw [M4] at hp ⊢;exact hR _ _ _ _ _ hp) (.inl ⟨rfl,fun w' hw'=>hy.h a w' _ _ _ _ g hw'⟩) (fun p hp=>s.on p (hs.all p hp)) (h.h _ _ s (g.put hd))
theorem Asf (i j:Nat) {α:Type} {E:Bn α} {t e m:Nat} [hS:SlC c.P t e m] {a:Option Addr} {n cp:Nat} {xs:List α} {F:List Nat} {z:Int} (h:∀a' c' F',T c ((d,.slice a' (xs.drop j).length c')::fr) (.sl E (.slice a' (xs.drop j).length c') (xs.drop j) F'::H) (.dx k H0 X ops f (listed.setIfInBounds i true))) (ho:ops[i]?=some ⟨some d,.slice t x (some y) none none,ty,pos,Cf,none⟩:=by rw [List.getElem?_toArray];rfl)
  (hx:ev fr x=some (.slice a n cp):=by rfl) (hy:ev fr y=some (.int .i64 z):=by rfl) (hm:.sl E (.slice a n cp) xs F∈H:=by exact A9) (hi:z=(j:Int):=by first|rfl|omega) (hj:j≤xs.length:=by omega) (he:E.sz=m:=by rfl) (hs:Nc H0 H:=by repeat (first|exact Nc.nil|refine Nc.cons FL ?_))
  (h1:Region.noSelect ops=true:=by kernel_rfl) (h2:Region.free .any ops listed i=true:=by kernel_rfl) (h3:(Region.ready .any ops listed).contains i=true:=by kernel_rfl) (h4:Mg .any ops (fun i=>X.contains i) i=true:=by kernel_rfl) (h5:Ng .any ops listed=true:=by kernel_rfl) (hR:X7 c:=by exact Aai) (hd:Nat.blt d c.n=true:=by rfl) :
  T c fr H (.dx k H0 X ops (f+1) listed):=.mk fun ac w s g=>by
 subst hi;obtain ⟨hz,hs'⟩:=s.get hm;have he2:=Agi hS;obtain ⟨a2,c2,F',hr,hF,h2'⟩:=hs'.dropS t GS j hj (fun W=>by rw [he2,he];exact Nj hS.s W);rw [←List.length_drop] at h2' hr;refine E9.take (v:=.slice a2 (xs.drop j).length c2) ho h1 h2 h3 h4 h5 (fun ch a w hp=>by rw [M4] at hp ⊢;exact hR _ _ _ _ _ hp) (.inl ⟨rfl,fun w' _=>?_⟩) (fun p hp=>s.on p (hs.all p hp)) ((h a2 c2 F').h _ w (s.ro hm rfl rfl ⟨hz,h2'⟩ hF) (g.put hd));simp only [execOp,Option.map_none,Option.map_some,g.ev hx,g.ev hy,Sem.run_bind,hr,Result.andThen_ok,Sem.run_pure]
theorem Do (i:Nat) {j t:Nat} {b:Bool} (h:T c ((d,v)::fr) H (.dx k H0 X ops f (listed.setIfInBounds i true))) (ho:ops[i]?=some ⟨some d,o,ty,pos,Cf,some (j,b)⟩:=by rw [List.getElem?_toArray];rfl) (ht:(ops[j]?).bind (·.dst)=some t:=by rfl) (hl:Su fr t=some (.bool b):=by rfl) (hy:Yd c.P c.n fr H0 o ty v:=by exact ydE) (hs:Nc H0 H:=by repeat (first|exact Nc.nil|refine Nc.cons FL ?_))
  (h1:Region.noSelect ops=true:=by kernel_rfl) (h2:Region.free .any ops listed i=true:=by kernel_rfl) (h3:(Region.ready .any ops listed).contains i=true:=by kernel_rfl) (h4:Mg .any ops (fun i=>X.contains i) i=true:=by kernel_rfl) (h5:Ng .any ops listed=true:=by kernel_rfl) (hR:X7 c:=by exact Aai) (hd:Nat.blt d c.n=true:=by rfl) :
  T c fr H (.dx k H0 X ops (f+1) listed):=.mk fun a w s g =>
 E9.take (v:=v) ho h1 h2 h3 h4 h5 (fun ch a w hp=>by rw [M4] at hp ⊢;exact hR _ _ _ _ _ hp) (.inl ⟨by rw [Wj (c:=c) ht hl g];simp,fun w' hw'=>hy.h a w' _ _ _ _ g hw'⟩) (fun p hp=>s.on p (hs.all p hp)) (h.h _ _ s (g.put hd))
theorem ds (i:Nat) {j t:Nat} {b b':Bool} (h:T c ((d,undef)::fr) H (.dx k H0 X ops f (listed.setIfInBounds i true))) (ho:ops[i]?=some ⟨some d,o,ty,pos,Cf,some (j,b)⟩:=by rw [List.getElem?_toArray];rfl) (ht:(ops[j]?).bind (·.dst)=some t:=by rfl) (hl:Su fr t=some (.bool b'):=by rfl) (hb:(b' == b)=false:=by rfl) (hs:Nc H0 H:=by repeat (first|exact Nc.nil|refine Nc.cons FL ?_))
  (h1:Region.noSelect ops=true:=by kernel_rfl) (h2:Region.free .any ops listed i=true:=by kernel_rfl) (h3:(Region.ready .any ops listed).contains i=true:=by kernel_rfl) (h4:Mg .any ops (fun i=>X.contains i) i=true:=by kernel_rfl) (h5:Ng .any ops listed=true:=by kernel_rfl) (hR:X7 c:=by exact Aai) (hd:Nat.blt d c.n=true:=by rfl) :
  T c fr H (.dx k H0 X ops (f+1) listed):=.mk fun a w s g =>
 E9.take (v:=undef) ho h1 h2 h3 h4 h5 (fun ch a w hp=>by rw [M4] at hp ⊢;exact hR _ _ _ _ _ hp) (.inr ⟨by rw [Wj (c:=c) ht hl g];exact hb,rfl⟩) (fun p hp=>s.on p (hs.all p hp)) (h.h _ _ s (g.put hd))
theorem dsu (i:Nat) {j t:Nat} {b:Bool} (h:T c ((d,undef)::fr) H (.dx k H0 X ops f (listed.setIfInBounds i true))) (ho:ops[i]?=some ⟨some d,o,ty,pos,Cf,some (j,b)⟩:=by rw [List.getElem?_toArray];rfl) (ht:(ops[j]?).bind (·.dst)=some t:=by rfl) (hl:Su fr t=some undef:=by rfl) (hs:Nc H0 H:=by repeat (first|exact Nc.nil|refine Nc.cons FL ?_))
  (h1:Region.noSelect ops=true:=by kernel_rfl) (h2:Region.free .any ops listed i=true:=by kernel_rfl) (h3:(Region.ready .any ops listed).contains i=true:=by kernel_rfl) (h4:Mg .any ops (fun i=>X.contains i) i=true:=by kernel_rfl) (h5:Ng .any ops listed=true:=by kernel_rfl) (hR:X7 c:=by exact Aai) (hd:Nat.blt d c.n=true:=by rfl) :
  T c fr H (.dx k H0 X ops (f+1) listed):=.mk fun a w s g =>
 E9.take (v:=undef) ho h1 h2 h3 h4 h5 (fun ch a w hp=>by rw [M4] at hp ⊢;exact hR _ _ _ _ _ hp) (.inr ⟨by simp only [Region.wanted,yielded,ht,Option.bind_some,g.at_ t _ hl];rfl,rfl⟩) (fun p hp=>s.on p (hs.all p hp)) (h.h _ _ s (g.put hd))
theorem dk {i:Nat} (h:T c fr H (.dx k H0 X ops f listed)) (hs:Nc H0 H:=by repeat (first|exact Nc.nil|refine Nc.cons FL ?_)):T c fr H (.dk i k H0 X ops f listed):=.mk fun a w s g=>⟨fun _ p hp=>s.on p (hs.all p hp),h.h a w s g⟩
theorem Tf {i:Nat} (h:T c fr H (.dx k H0 X ops f listed)) (hi:X.contains i=true:=by rfl):T c fr H (.dk i k H0 X ops f listed):=.mk fun a w s g=>⟨fun h0=>(by rw [hi] at h0;cases h0),h.h a w s g⟩
theorem d1 (i:Nat) {o:Oper} (h:Ef c fr H o (.dk i k H0 X ops f (listed.setIfInBounds i true))) (hr:Region.ready .any ops listed=[i]:=by kernel_rfl) (ho:ops[i]?=some o:=by rw [List.getElem?_toArray];rfl) (hg:o.guard=none:=by rfl):T c fr H (.dx k H0 X ops (f+1) listed):=.mk fun a w s g =>
 E9.only hr ho fun K hK=>by
  rw [if_pos (by simp [Region.wanted,hg])];exact Oper.wp_mono (fun a' w' h'=>hK a' w' h'.1 h'.2) (h.h _ a w s g)
theorem d1g (i:Nat) {od:Option Tmp} {j t:Nat} {b:Bool} (h:Ef c fr H ⟨od,o,ty,pos,Cf,some (j,b)⟩ (.dk i k H0 X ops f (listed.setIfInBounds i true))) (hr:Region.ready .any ops listed=[i]:=by kernel_rfl) (ho:ops[i]?=some ⟨od,o,ty,pos,Cf,some (j,b)⟩:=by rw [List.getElem?_toArray];rfl) (ht:(ops[j]?).bind (·.dst)=some t:=by rfl) (hl:Su fr t=some (.bool b):=by rfl):T c fr H (.dx k H0 X ops (f+1) listed):=.mk fun a w s g =>
 E9.only hr ho fun K hK=>by
  rw [if_pos (by rw [Wj (c:=c) ht hl g];simp)];exact Oper.wp_mono (fun a' w' h'=>hK a' w' h'.1 h'.2) (h.h _ a w s g)
theorem d2 (i j:Nat) {o o2:Oper} (h:Ef c fr H o (.dk i k H0 X ops f (listed.setIfInBounds i true))) (h':Ef c fr H o2 (.dk j k H0 X ops f (listed.setIfInBounds j true)))
  (hr:Region.ready .any ops listed=[i,j]:=by kernel_rfl) (ho:ops[i]?=some o:=by rw [List.getElem?_toArray];rfl) (ho2:ops[j]?=some o2:=by rw [List.getElem?_toArray];rfl) (hg:o.guard=none:=by rfl) (hg2:o2.guard=none:=by rfl):T c fr H (.dx k H0 X ops (f+1) listed):=.mk fun a w s g =>
 E9.two hr ho ho2 (fun K hK=>by
  rw [if_pos (by simp [Region.wanted,hg])];exact Oper.wp_mono (fun a' w' h'=>hK a' w' h'.1 h'.2) (h.h _ a w s g)) (fun K hK=>by
  rw [if_pos (by simp [Region.wanted,hg2])];exact Oper.wp_mono (fun a' w' h''=>hK a' w' h''.1 h''.2) (h'.h _ a w s g))
theorem dO (i:Nat) {od:Option Tmp} (hr:Region.ready .any ops listed=[i]) (ho:ops[i]?=some ⟨od,o,ty,pos,Cf,none⟩) (h:On c fr H od o ty (.dk i k H0 X ops f (listed.setIfInBounds i true))):T c fr H (.dx k H0 X ops (f+1) listed):=d1 i (h.h pos Cf none) hr ho rfl
theorem dO2 (i j:Nat) {od od2:Option Tmp} {o2:Op} {ty2:TypeId} {pos2:String} {aft2:Array Edge} (hr:Region.ready .any ops listed=[i,j]) (ho:ops[i]?=some ⟨od,o,ty,pos,Cf,none⟩) (ho2:ops[j]?=some ⟨od2,o2,ty2,pos2,aft2,none⟩) (h:On c fr H od o ty (.dk i k H0 X ops f (listed.setIfInBounds i true))) (h':On c fr H od2 o2 ty2 (.dk j k H0 X ops f (listed.setIfInBounds j true))):T c fr H (.dx k H0 X ops (f+1) listed):=d2 i j (h.h pos Cf none) (h'.h pos2 aft2 none) hr ho ho2 rfl rfl
theorem dd (h:T c fr H (.norm k)) (hr:Region.ready .any ops listed=[]:=by kernel_rfl):T c fr H (.dx k H0 X ops f listed):=.mk fun a w s g=>E9.done hr (h.h a w s g) f
theorem ey {gd:Option (Nat × Bool)} (h:T c ((d,v)::fr) H Φ) (hy:Yd c.P c.n fr H o ty v:=by exact ydE) (hd:Nat.blt d c.n=true:=by rfl):Ef c fr H ⟨some d,o,ty,pos,Cf,gd⟩ Φ:=Bge hy hd h
end
inductive Kf (fr:Fr):List Nat→Fr→Prop
 | nil:Kf fr [] []
 | cons {t v ts r}:Su fr t=some v→Kf fr ts r→Kf fr (t::ts) ((t,v)::r)
theorem Kf.sub {fr ts r} (h:Kf fr ts r):Mm fr r:=by
 induction h with
 | nil=>exact .nil
 | cons h _ ih=>exact .cons h ih
theorem Mm.app {fr a b:Fr} (h:Mm fr a) (h2:Mm fr b):Mm fr (a++b):=by
 induction h with
 | nil=>exact h2
 | cons h _ ih=>exact .cons h ih
theorem Ih.hsub {H M R:List Pc} (h:Ih H M R):Lv H (M++R):=by
 have all:∀(H:List Pc),Lv H H:=by
  intro H
  induction H with
  | nil=>exact .nil
  | cons p H ih=>exact .cons .here ih
 induction h with
 | nil=>exact all _
 | cons hp _ ih=>exact .cons hp ih
theorem Cd {c:Cx} {fr:Fr} {H:List Pc} {k:List It} {x:Code} {σ:Type} {cst:Fr} {rest:List Pc} (ks:List Nat) (upd:σ→Fr) (chg:σ→List Pc) (C:σ→Prop) (μ:σ→Nat) (s0:σ) (h0:C s0)
  (round:∀s,C s→T c (upd s++cst) (chg s++rest) (.code (.lp (LpN c (fun s=>upd s++cst) (fun s=>chg s++rest) C μ (μ s))::k) x)) (hk:Kf fr ks cst:=by repeat (first|exact Kf.nil|apply Kf.cons GE)) (hf:Mm fr (upd s0):=by exact frE) (hH:Ih H (chg s0) rest:=by exact Abg):T c fr H (.code k (Code.loop x)) :=
 Azw (fun s=>upd s++cst) (fun s=>chg s++rest) C μ s0 h0 round (hf.app hk.sub) hH.hsub
theorem Eh {c:Cx} {fr:Fr} {H:List Pc} {k:List It} {x:Code} {σ:Type} {cst:Fr} (ks:List Nat) (upd:σ→Fr) (C:σ→Prop) (μ:σ→Nat) (s0:σ) (h0:C s0)
  (round:∀s,C s→T c (upd s++cst) H (.code (.lp (LpN c (fun s=>upd s++cst) (fun _=>H) C μ (μ s))::k) x)) (hk:Kf fr ks cst:=by repeat (first|exact Kf.nil|apply Kf.cons GE)) (hf:Mm fr (upd s0):=by exact frE):T c fr H (.code k (Code.loop x)) :=
 Azw (fun s=>upd s++cst) (fun _=>H) C μ s0 h0 round (hf.app hk.sub) (by
  have all:∀(H:List Pc),Lv H H:=by
   intro H
   induction H with
   | nil=>exact .nil
   | cons p H ih=>exact .cons .here ih
  exact all _)
def Jn {σ:Type} (c:Cx) (fr':σ→Fr) (H':σ→List Pc) (C:σ→Prop) (a:Act) (w:World):Prop:=∃s,C s∧St c.G c.D c.w0 (H' s) w∧Ag c.n (fr' s) a
theorem Bg3 {c:Cx} {fr:Fr} {H:List Pc} {k:List It} {x:Code} {σ:Type} (fr':σ→Fr) (H':σ→List Pc) (C:σ→Prop) (h:T c fr H (.code (.lp (Jn c fr' H' C)::k) x)) (h2:∀s,C s→T c (fr' s) (H' s) (.norm k)):T c fr H (.code k x):=.mk fun a w s g =>
 wp_mono (h.h a w s g) fun e a' w' he=>by
  cases e with
  | normal=>obtain ⟨z,hz,hs,hg⟩:=he;exact (h2 z hz).h a' w' hs hg
  | _=>exact he
theorem Br {c:Cx} {fr:Fr} {H:List Pc} {k:List It} {σ:Type} {fr':σ→Fr} {H':σ→List Pc} {C:σ→Prop} (s:σ) (hC:C s) (hf:Mm fr (fr' s):=by repeat (first|exact Mm.nil|refine Mm.cons GE ?_)) (hH:Lv H (H' s):=by repeat (first|exact Lv.nil|refine Lv.cons (by exact Da) ?_)):T c fr H (.norm (.lp (Jn c fr' H' C)::k)) :=
 .mk fun _ _ st g=>⟨s,hC,st.sub hH,g.sub hf⟩
theorem Ew {c:Cx} {fr:Fr} {H:List Pc} {k:List It} {x:Code} {σ:Type} {cst:Fr} {rest:List Pc} (ks rs:List Nat) (upd:σ→Fr) (chg:σ→List Pc) (C:σ→Prop) (h:T c fr H (.code (.lp (Jn c (fun s=>upd s++cst) (fun s=>chg s++rest) C)::k) x)) (h2:∀s,C s→T c (upd s++cst) (chg s++rest) (.norm k)) (_hk:Kf fr ks cst:=by repeat (first|exact Kf.nil|apply Kf.cons GE)) (_hr:Sel H rs rest:=by repeat constructor):T c fr H (.code k x) :=
 Bg3 _ _ C h h2
theorem enter {P:Program} {f:FuncId} {fn:Func} {cd:Code} {args:List Value} {A M H:List Pc} {σ:Type} {C:σ→Prop} {v:σ→Value} {N:σ→List Pc} {n:Nat} (hf:P.funcs[f]?=some fn) (hb:fn.body=some cd) (hn:fn.ntmps=n)
  (h:∀w,T ⟨P,fp M,fp A,w,n,bodyPost P fn (Amm P w A M C v N)⟩ (Aoy 0 args) H (.code [] cd))
  (hl:Nat.ble args.length n=true:=by rfl) (hmA:A.all (fun p=>!p.mu)=true:=by rfl) (hH:Aog M A H:=by repeat constructor):Fn P f args A M C v N:=by
 subst hn;exact Bae hf hb (fun w=>by rw [hH.eq];exact h w) HQ hmA
theorem ret {P:Program} {fn:Func} {G D:List Nat} {w0:World} {n:Nat} {A M:List Pc} {σ:Type} {C:σ→Prop} {v:σ→Value} {N:σ→List Pc} {fr:Fr} {H:List Pc} {rs:List ResultVar} {vs:List Value} (s:σ) (hC:C s) (hv:Us vs=v s)
  (hr:fn.results=rs.toArray:=by rfl) (h:Res P fr H rs vs:=by repeat (first|exact Res.nil|apply Res.tmp GE|apply Res.agg inferInstance GE FL GE|apply Res.one inferInstance GE FL)) (hN:Lv H (N s):=by repeat (first|exact Lv.nil|refine Lv.cons (by exact Da) ?_)) (hG:G=fp M:=by rfl) (hD:D=fp A:=by rfl):T ⟨P,G,D,w0,n,bodyPost P fn (Amm P w0 A M C v N)⟩ fr H (.fin .ret):=Bhe s hC hr h hv hN hG hD
theorem Fn.val {P:Program} {f:FuncId} {args:List Value} {A:List Pc} {C:Unit→Prop} {v:Value} (h:Fn P f args A [] C (fun _=>v) (fun _=>[])) (w:World) (hA:Od A w) (hm:A.all (fun p=>!p.mu)=true:=by rfl):Calls P f args.toArray w (RB v w) :=
 have hs:∀(A:List Pc),A.all (fun p=>!p.mu)=true→S9 A:=by
  intro A
  induction A with
  | nil=>intro _;trivial
  | cons p A ih =>
   intro h;simp only [List.all_cons,Bool.and_eq_true,Bool.not_eq_true'] at h;exact ⟨fun q hq hm=>by have:=List.all_eq_true.1 h.2 q hq;simp [h.1] at hm;simp [hm] at this,ih h.2⟩
 (h w JW (by simpa using hs A hm)).mono fun e w' ⟨_,_,he,_,_,hk,_⟩=>⟨he,hk.below (Nat.le_refl _) (by simp [fp])⟩
theorem Atp:∀(A:List Pc),A.all (fun p=>!p.mu)=true→S9 A
 | [],_=>trivial
 | p::A,h=>by
  simp only [List.all_cons,Bool.and_eq_true,Bool.not_eq_true'] at h;exact ⟨fun q hq hm=>by have:=List.all_eq_true.1 h.2 q hq;simp [h.1] at hm;simp [hm] at this,Atp A h.2⟩
theorem Pc.nd {p:Pc} (hm:p.mu=true) {w:World} (h:p.P w):p.F.Nodup:=by
 cases p with
 | row g t o A cs B=>simp [Pc.F]
 | ow E t v xs F=>exact h.1
 | own E v x F=>exact h.1
 | flat E cs xs F=>exact h.1
 | _=>cases hm
theorem Apm {w:World}:∀{N:List Pc},N.all (·.mu)=true→Od N w→S9 N→(fp N).Nodup
 | [],_,_,_=>by simp [fp]
 | p::N,hm,hH,hs=>by
  simp only [List.all_cons,Bool.and_eq_true] at hm;refine List.nodup_append.2 ⟨Pc.nd hm.1 (hH p FI),Apm hm.2 (fun q hq=>hH q GQ) hs.2,fun b hb b' hb' e=>?_⟩;subst e;obtain ⟨q,hq,hqb⟩:=Qp.1 hb';exact hs.1 q hq (by simp [hm.1]) b hb hqb
theorem Fn.made {P:Program} {f:FuncId} {args:List Value} {A:List Pc} {σ:Type} {C:σ→Prop} {v:σ→Value} {N:σ→List Pc} (h:Fn P f args A [] C v N) (w:World) (hA:Od A w) (hN:∀s,(N s).all (·.mu)=true) (hm:A.all (fun p=>!p.mu)=true:=by rfl) :
  Calls P f args.toArray w fun e w'=>∃s,C s∧e=.returned (v s)∧Od (N s) w'∧(fp (N s)).Nodup∧(∀b∈fp (N s),w.heap.size≤b)∧Below w.heap.size w w' :=
 (h w JW (by simpa using Atp A hm)).mono fun e w' ⟨s,hC,he,hH,hS,hk,hF⟩=>⟨s,hC,he,hH,Apm (hN s) hH hS,(fun b hb=>by
  obtain ⟨p,hp,hpb⟩:=Qp.1 hb;rcases hF p hp b hpb with h|⟨q,hq,_⟩|⟨h,_⟩
  ·exact h
  ·simp at hq
  ·have:=List.all_eq_true.1 (hN s) p hp;rw [h] at this;cases this),hk.below (Nat.le_refl _) (by simp [fp])⟩
theorem Fn.read {P:Program} {f:FuncId} {args:List Value} {A:List Pc} {σ:Type} {C:σ→Prop} {v:σ→Value} {N:σ→List Pc} (h:Fn P f args A [] C v N) (w:World) (hA:Od A w) (hm:A.all (fun p=>!p.mu)=true:=by rfl) :
  Calls P f args.toArray w fun e w'=>∃s,C s∧e=.returned (v s)∧Od (N s) w'∧Below w.heap.size w w' :=
 (h w JW (by simpa using Atp A hm)).mono fun e w' ⟨s,hC,he,hH,hS,hk,hF⟩=>⟨s,hC,he,hH,hk.below (Nat.le_refl _) (by simp [fp])⟩
theorem Nn {p q:Pc} {w:World} (h:p.P w) (h2:q.P w):Od [p,q] w:=fun r hr=>by
 simp only [List.mem_cons,List.not_mem_nil,or_false] at hr;rcases hr with rfl|rfl <;> assumption
structure Kp (X:Prop):Prop where
 h:X
section
variable {c:Cx} {fr:Fr} {H:List Pc} {d:Nat} {ty:TypeId} {v:Value} {x:Operand} {Φ:Gl}
theorem As7 {Y:Nat→Prop} {t:TypeId} {l:List Value} (hd:Nat.blt d c.n=true) (hx:ev fr x=some v) (hv:v.cells=l.toArray) (hX:Kp (∀g,Y g)) (h:∀g,Kp (Y g)→T c ((d,Il g 0 0)::fr) (.row g t 0 [] l []::H) Φ):On c fr H (some d) (.box t x) ty Φ:=Bjg hd hx hv fun g=>h g ⟨hX.h g⟩
theorem Aie {Y:Nat→Prop} {t:TypeId} {zs:List Value} [ZC c.P t zs] (hd:Nat.blt d c.n=true) (hX:Kp (∀g,Y g)) (h:∀g,Kp (Y g)→T c ((d,Il g 0 0)::fr) (.row g t 0 [] zs []::H) Φ):On c fr H (some d) (.alloc t) ty Φ:=Cr hd fun g=>h g ⟨hX.h g⟩
theorem Bbh {Y:Nat→Prop} {t e m:Nat} [SlC c.P t e m] (hd:Nat.blt d c.n=true) (hX:Kp (∀g,Y g)) (h:∀g,Kp (Y g)→T c ((d,.slice (some ⟨g,0,none⟩) 0 0)::fr) (.row g e 0 [] [] []::H) Φ):On c fr H (some d) (.buildSlice t 0 #[]) ty Φ:=Mp hd fun g=>h g ⟨hX.h g⟩
theorem Bgj {Y:Nat→Prop} {t e m b len:Nat} {z:Value} {zs cs q:List Value} {ps:List (Nat × Operand)} [SlC c.P t e m] [ElT c.P e z m b] [ZC c.P e zs] (hd:Nat.blt d c.n=true) (hlen:Nat.blt 0 len=true) (hm:Nat.blt 0 m=true) (hl:Nat.ble (len * m) 1000=true) (hc:Rpt zs len cs) (hf:Fil (fun i=>some (i * m,m)) fr cs ps q) (hX:Kp (∀g,Y g)) (h:∀g,Kp (Y g)→T c ((d,.slice (some ⟨g,0,none⟩) len len)::fr) (.row g e 0 [] q []::H) Φ) :
  On c fr H (some d) (.buildSlice t len ps.toArray) ty Φ:=Lr hd hlen hm hl hc hf fun g=>h g ⟨hX.h g⟩
end
theorem go {X:Prop} {c:Cx} {fr:Fr} {H:List Pc} {Φ:Gl} (h:X) (hs:Kp X→T c fr H Φ:=by intro hX;(repeat (first|apply Qx|apply Aks|(apply wO;apply oc;rfl;exact ydE)|apply Xy|apply Abd|(apply Aru;rfl;rfl)|(apply Art;rfl;rfl;rfl;rfl)|(apply Arv;rfl;rfl;rfl)|(apply c_t;rfl)|(apply c_f;rfl)|apply Wr|apply Tc|apply Afh|apply Ar6|apply Az3|apply Bg7|apply Bg8|(apply Asg;rfl)|apply Azx|(apply wO;apply As7;rfl;rfl;rfl;exact hX;clear hX;intro _ hX)|(apply wO;apply Aie;rfl;exact hX;clear hX;intro _ hX)|(apply wO;apply Axy;rfl;rfl;rfl;(first|exact AggC.s|exact OneC.s);rfl;exact Akd;exact Be8;rfl)|(apply wO;apply Bbh;rfl;exact hX;clear hX;intro _ hX)|(apply wO;apply Bgj;rfl;rfl;rfl;rfl;exact Ll;exact Kv;exact hX;clear hX;intro _ hX)|(apply wO;apply As8;rfl;kernel_rfl;exact X0)));exact hX.h):T c fr H Φ:=hs ⟨h⟩
theorem Og {X:Prop} {c:Cx} {fr:Fr} {H:List Pc} {Φ:Gl} (h:X) (hs:Kp X→T c fr H Φ:=by intro hX;(repeat (first|apply Qx|apply Aks|(apply wO;apply oc;rfl;exact ydE)|apply Xy|apply Abd|(apply Aru;rfl;rfl)|(apply Art;rfl;rfl;rfl;rfl)|(apply Arv;rfl;rfl;rfl)|(apply c_t;rfl)|(apply c_f;rfl)|apply Wr|apply Tc|apply Afh|apply Ar6|apply Az3|apply Bg7|apply Bg8|(apply Asg;rfl)|apply Azx|(apply wO;apply As7;rfl;rfl;rfl;exact hX;clear hX;intro _ hX)|(apply wO;apply Aie;rfl;exact hX;clear hX;intro _ hX)|(apply wO;apply Axy;rfl;rfl;rfl;(first|exact AggC.s|exact OneC.s);rfl;exact Akd;exact Be8;rfl)|(apply wO;apply Bbh;rfl;exact hX;clear hX;intro _ hX)|(apply wO;apply Bgj;rfl;rfl;rfl;rfl;exact Ll;exact Kv;exact hX;clear hX;intro _ hX)));exact hX.h):T c fr H Φ:=hs ⟨h⟩
section
variable {c:Cx} {fr:Fr} {H:List Pc} {k:List It} {Φ:Gl} {ops:Array Oper} {rest:List Oper} {d:Nat} {o:Op} {ty:TypeId} {pos:String} {Cf:Array Edge} {v u:Value} {x y:Operand} {H0:List Pc} {X:List Nat} {f:Nat} {listed:Array Bool}
theorem oC {f:Nat} {aS:List Operand} {ts:Array TypeId} {vs:List Value} (h:Cl c fr H d f vs Φ) (hd:Nat.blt d c.n=true:=by rfl) (hb:Sb c.P f=true:=by kernel_rfl) (ha:Evs fr aS vs:=by exact X0):On c fr H (some d) (.call { callee:=.value (.func f),args:=aS.toArray,argTypes:=ts }) ty Φ:=As8 hd hb ha h
theorem oS {t g tt o' j m:Nat} {A cs B l r:List Value} {S:List Pc} (h:T c fr S Φ) (hx:ev fr x=some (Il g o' j):=by rfl) (hy:ev fr y=some v:=by rfl) (hv:v.cells=l.toArray:=by rfl) (hs:(c.P.info? t).map (·.size)=some m:=by first|exact AggC.s|exact OneC.s) (hl:l.length=m:=by rfl) (hr:Rpl H (.row g tt o' A cs B) (.row g tt o' A r B) S:=by exact Akd) (hp:Put cs j l r:=by exact Be8) (h1:l.all (·.oneCell')=true:=by rfl):On c fr H none (.store t x y) ty Φ:=Axy hx hy hv hs hl hr hp h1 h
theorem dN (i:Nat) {od:Option Tmp} (h:On c fr H od o ty (.dk i k H0 X ops f (listed.setIfInBounds i true))) (hr:Region.ready .any ops listed=[i]:=by kernel_rfl) (ho:ops[i]?=some ⟨od,o,ty,pos,Cf,none⟩:=by rw [List.getElem?_toArray];rfl):T c fr H (.dx k H0 X ops (f+1) listed):=dO i hr ho h
theorem dM (i j:Nat) {od od2:Option Tmp} {o2:Op} {ty2:TypeId} {pos2:String} {aft2:Array Edge} (h:On c fr H od o ty (.dk i k H0 X ops f (listed.setIfInBounds i true))) (h':On c fr H od2 o2 ty2 (.dk j k H0 X ops f (listed.setIfInBounds j true))) (hr:Region.ready .any ops listed=[i,j]:=by kernel_rfl) (ho:ops[i]?=some ⟨od,o,ty,pos,Cf,none⟩:=by rw [List.getElem?_toArray];rfl) (ho2:ops[j]?=some ⟨od2,o2,ty2,pos2,aft2,none⟩:=by rw [List.getElem?_toArray];rfl):T c fr H (.dx k H0 X ops (f+1) listed):=dO2 i j hr ho ho2 h h'
theorem Ec (i0 i1:Nat) {d0:Nat} {o0:Op} {t0:TypeId} {p0:String} {a0:Array Edge} {v0:Value} {d1:Nat} {o1:Op} {t1:TypeId} {p1:String} {a1:Array Edge} {v1:Value} (h:T c ((d1,v1)::((d0,v0)::fr)) H (.dx k H0 X ops f ((listed.setIfInBounds i0 true).setIfInBounds i1 true))) (hs:Nc H0 H:=by repeat (first|exact Nc.nil|refine Nc.cons FL ?_)) (h1:Region.noSelect ops=true:=by kernel_rfl) (hR:X7 c:=by exact Aai) (ho0:ops[i0]?=some ⟨some d0,o0,t0,p0,a0,none⟩:=by rw [List.getElem?_toArray];rfl) (hy0:Yd c.P c.n fr H0 o0 t0 v0:=by exact ydE) (w0:Region.free .any ops listed i0=true:=by kernel_rfl) (x0:(Region.ready .any ops listed).contains i0=true:=by kernel_rfl) (y0:Mg .any ops (fun i=>X.contains i) i0=true:=by kernel_rfl) (z0:Ng .any ops listed=true:=by kernel_rfl) (e0:Nat.blt d0 c.n=true:=by rfl) (ho1:ops[i1]?=some ⟨some d1,o1,t1,p1,a1,none⟩:=by rw [List.getElem?_toArray];rfl) (hy1:Yd c.P c.n ((d0,v0)::fr) H0 o1 t1 v1:=by exact ydE) (w1:Region.free .any ops (listed.setIfInBounds i0 true) i1=true:=by kernel_rfl) (x1:(Region.ready .any ops (listed.setIfInBounds i0 true)).contains i1=true:=by kernel_rfl) (y1:Mg .any ops (fun i=>X.contains i) i1=true:=by kernel_rfl) (z1:Ng .any ops (listed.setIfInBounds i0 true)=true:=by kernel_rfl) (e1:Nat.blt d1 c.n=true:=by rfl):T c fr H (.dx k H0 X ops (f+1+1) listed):=dt i0 (dt i1 h ho1 hy1 hs h1 w1 x1 y1 z1 hR e1) ho0 hy0 hs h1 w0 x0 y0 z0 hR e0
theorem Dq (i0 i1 i2 i3:Nat) {d0:Nat} {o0:Op} {t0:TypeId} {p0:String} {a0:Array Edge} {v0:Value} {d1:Nat} {o1:Op} {t1:TypeId} {p1:String} {a1:Array Edge} {v1:Value} {d2:Nat} {o2:Op} {t2:TypeId} {p2:String} {a2:Array Edge} {v2:Value} {d3:Nat} {o3:Op} {t3:TypeId} {p3:String} {a3:Array Edge} {v3:Value} (h:T c ((d3,v3)::((d2,v2)::((d1,v1)::((d0,v0)::fr)))) H (.dx k H0 X ops f ((((listed.setIfInBounds i0 true).setIfInBounds i1 true).setIfInBounds i2 true).setIfInBounds i3 true))) (hs:Nc H0 H:=by repeat (first|exact Nc.nil|refine Nc.cons FL ?_)) (h1:Region.noSelect ops=true:=by kernel_rfl) (hR:X7 c:=by exact Aai) (ho0:ops[i0]?=some ⟨some d0,o0,t0,p0,a0,none⟩:=by rw [List.getElem?_toArray];rfl) (hy0:Yd c.P c.n fr H0 o0 t0 v0:=by exact ydE) (w0:Region.free .any ops listed i0=true:=by kernel_rfl) (x0:(Region.ready .any ops listed).contains i0=true:=by kernel_rfl) (y0:Mg .any ops (fun i=>X.contains i) i0=true:=by kernel_rfl) (z0:Ng .any ops listed=true:=by kernel_rfl) (e0:Nat.blt d0 c.n=true:=by rfl) (ho1:ops[i1]?=some ⟨some d1,o1,t1,p1,a1,none⟩:=by rw [List.getElem?_toArray];rfl) (hy1:Yd c.P c.n ((d0,v0)::fr) H0 o1 t1 v1:=by exact ydE) (w1:Region.free .any ops (listed.setIfInBounds i0 true) i1=true:=by kernel_rfl) (x1:(Region.ready .any ops (listed.setIfInBounds i0 true)).contains i1=true:=by kernel_rfl) (y1:Mg .any ops (fun i=>X.contains i) i1=true:=by kernel_rfl) (z1:Ng .any ops (listed.setIfInBounds i0 true)=true:=by kernel_rfl) (e1:Nat.blt d1 c.n=true:=by rfl) (ho2:ops[i2]?=some ⟨some d2,o2,t2,p2,a2,none⟩:=by rw [List.getElem?_toArray];rfl) (hy2:Yd c.P c.n ((d1,v1)::((d0,v0)::fr)) H0 o2 t2 v2:=by exact ydE) (w2:Region.free .any ops ((listed.setIfInBounds i0 true).setIfInBounds i1 true) i2=true:=by kernel_rfl) (x2:(Region.ready .any ops ((listed.setIfInBounds i0 true).setIfInBounds i1 true)).contains i2=true:=by kernel_rfl) (y2:Mg .any ops (fun i=>X.contains i) i2=true:=by kernel_rfl) (z2:Ng .any ops ((listed.setIfInBounds i0 true).setIfInBounds i1 true)=true:=by kernel_rfl) (e2:Nat.blt d2 c.n=true:=by rfl) (ho3:ops[i3]?=some ⟨some d3,o3,t3,p3,a3,none⟩:=by rw [List.getElem?_toArray];rfl) (hy3:Yd c.P c.n ((d2,v2)::((d1,v1)::((d0,v0)::fr))) H0 o3 t3 v3:=by exact ydE) (w3:Region.free .any ops (((listed.setIfInBounds i0 true).setIfInBounds i1 true).setIfInBounds i2 true) i3=true:=by kernel_rfl) (x3:(Region.ready .any ops (((listed.setIfInBounds i0 true).setIfInBounds i1 true).setIfInBounds i2 true)).contains i3=true:=by kernel_rfl) (y3:Mg .any ops (fun i=>X.contains i) i3=true:=by kernel_rfl) (z3:Ng .any ops (((listed.setIfInBounds i0 true).setIfInBounds i1 true).setIfInBounds i2 true)=true:=by kernel_rfl) (e3:Nat.blt d3 c.n=true:=by rfl):T c fr H (.dx k H0 X ops (f+1+1+1+1) listed):=dt i0 (dt i1 (dt i2 (dt i3 h ho3 hy3 hs h1 w3 x3 y3 z3 hR e3) ho2 hy2 hs h1 w2 x2 y2 z2 hR e2) ho1 hy1 hs h1 w1 x1 y1 z1 hR e1) ho0 hy0 hs h1 w0 x0 y0 z0 hR e0
theorem Ca {f:Nat} {vs:List Value} {A M R:List Pc} {σ:Type} {C:σ→Prop} {vv:σ→Value} {N K:σ→List Pc} (hf:Fn c.P f vs A M C vv N) (h:∀s,C s→T c ((d,vv s)::fr) (K s) Φ) (hM:Ih H M R:=by repeat (first|exact Ih.nil|apply Ih.cons (by exact Da))) (hA:Nc A R:=by repeat (first|exact Nc.nil|refine Nc.cons FL ?_)) (hmM:M.all (·.mu)=true:=by rfl) (hmA:A.all (fun p=>!p.mu)=true:=by rfl) (hK:∀s,Aog (N s) R (K s):=by intro _;repeat constructor):Cl c fr H d f vs Φ:=cf_ hf (fun s hs=>Ot (h s hs) (hK s)) hM hA hmM hmA
end
section
variable {c:Cx} {fr:Fr} {H:List Pc} {Φ:Gl}
theorem Fh {v:Value} {x:Bf} {F:List Nat} (h:∀(a1:Option Addr) (c1:Nat) (F1:List Nat),v=.agg #[.int .i64 x.Ai,.slice a1 x.Ah.length c1]→x.Ah.length≤maxLen→T c fr (.sl Ds (.slice a1 x.Ah.length c1) x.Ah F1::H) Φ) (hm:.isv Bk v x F∈H:=by exact A9):T c fr H Φ:=.mk fun a w s g=>by
 exact AG
theorem Nf (x:Bf) {a1:Option Addr} {c1:Nat} {F1:List Nat}  (h:T c fr (.isv Bk (.agg #[.int .i64 x.Ai,.slice a1 x.Ah.length c1]) x (F1)::H) Φ) (m1:.sl Ds (.slice a1 x.Ah.length c1) x.Ah F1∈H:=by exact A9):T c fr H Φ:=.mk fun a w s g=>by
 exact AH
theorem Hp {v:Value} {x:Bf} {F:List Nat} {S:List Pc} (h:∀(a1:Option Addr) (c1:Nat) (F1:List Nat),v=.agg #[.int .i64 x.Ai,.slice a1 x.Ah.length c1]→x.Ah.length≤maxLen→T c fr (.ow Dz 253 (.slice a1 x.Ah.length c1) x.Ah F1::S) Φ) (hp:Cn H (.own B4 v x F) S:=by exact Da):T c fr H Φ:=.mk fun a w s g=>by
 have z1:=s.pick hp;obtain ⟨hn,cs,rfl,v1,rfl,h1⟩:=z1.on (.own B4 v x F) FI;obtain ⟨a1,c1,rfl⟩:=h1.slice;have l1:=h1.len;refine (h a1 c1 F rfl  l1).h a w (St.turn (M:=[.own B4 (.agg #[.int .i64 x.Ai,.slice a1 x.Ah.length c1]) x _]) (N:=[.ow Dz 253 (.slice a1 x.Ah.length c1) x.Ah F]) z1 (Dr.refl _ w) ?_ ?_ ?_) g
 ·exact DH
 ·exact ⟨FI,trivial⟩
 ·exact DN
theorem E6 (x:Bf) {a1:Option Addr} {c1:Nat} {F1:List Nat} {S1:List Pc}  (h:T c fr (.own B4 (.agg #[.int .i64 x.Ai,.slice a1 x.Ah.length c1]) x (F1)::S1) Φ) (m1:Cn H (.ow Dz 253 (.slice a1 x.Ah.length c1) x.Ah F1) S1:=by exact Da)  : T c fr H Φ:=.mk fun a w s g=>by
 have z1:St c.G c.D c.w0 ([.ow Dz 253 (.slice a1 x.Ah.length c1) x.Ah F1]++S1) w:=by simpa using (show Ih H [.ow Dz 253 (.slice a1 x.Ah.length c1) x.Ah F1] S1 from Ih.cons m1 (Ih.nil)).st (X:=[]) HN
 obtain ⟨n1,k1⟩:=z1.on (.ow Dz 253 (.slice a1 x.Ah.length c1) x.Ah F1) FI;have hN:=n1;refine h.h a w (St.turn (M:=[.ow Dz 253 (.slice a1 x.Ah.length c1) x.Ah F1]) (N:=[.own B4 (.agg #[.int .i64 x.Ai,.slice a1 x.Ah.length c1]) x (F1)]) z1 (Dr.refl _ w) GU ⟨FI,trivial⟩ fun q hq b hb=>?_) g;exact BZ
theorem Q6 {a:Option Addr} {n cp:Nat} {xs:List Bf} {F:List Nat} (i:Nat) (h:∀(hi:i < xs.length) (b o:Nat) (a1:Option Addr) (c1:Nat) (F1:List Nat),a=some ⟨b,o,none⟩→xs[i].Ah.length≤maxLen→T c fr (.cel b (o+i * 2) [.int .i64 xs[i].Ai,.slice a1 xs[i].Ah.length c1]::.sl Ds (.slice a1 xs[i].Ah.length c1) xs[i].Ah F1::H) Φ) (hm:.sl Bk (.slice a n cp) xs F∈H:=by exact A9) (hi:i < xs.length:=by omega):T c fr H Φ:=.mk fun ac w s g=>by
 exact AU
end
section
variable {c:Cx} {fr:Fr} {H:List Pc} {Φ:Gl}
theorem T0 {v:Value} {x:Gj} {F:List Nat} (h:∀(a1:Option Addr) (c1:Nat) (F1:List Nat),v=.agg #[.int .i64 x.Ae,.slice a1 x.Bj.length c1,.int .i64 x.Ce]→x.Bj.length≤maxLen→T c fr (.sl Bb (.slice a1 x.Bj.length c1) x.Bj F1::H) Φ) (hm:.isv Ds v x F∈H:=by exact A9):T c fr H Φ:=.mk fun a w s g=>by
 exact AG
theorem Xa {v:Value} {x:Gj} {F:List Nat} {S:List Pc} (h:∀(a1:Option Addr) (c1:Nat) (F1:List Nat),v=.agg #[.int .i64 x.Ae,.slice a1 x.Bj.length c1,.int .i64 x.Ce]→x.Bj.length≤maxLen→T c fr (.ow Bb 3 (.slice a1 x.Bj.length c1) x.Bj F1::S) Φ) (hp:Cn H (.own Dz v x F) S:=by exact Da):T c fr H Φ:=.mk fun a w s g=>by
 have z1:=s.pick hp;obtain ⟨hn,cs,rfl,v1,rfl,h1⟩:=z1.on (.own Dz v x F) FI;obtain ⟨a1,c1,rfl⟩:=h1.slice;have l1:=h1.len;refine (h a1 c1 F rfl  l1).h a w (St.turn (M:=[.own Dz (.agg #[.int .i64 x.Ae,.slice a1 x.Bj.length c1,.int .i64 x.Ce]) x _]) (N:=[.ow Bb 3 (.slice a1 x.Bj.length c1) x.Bj F]) z1 (Dr.refl _ w) ?_ ?_ ?_) g
 ·exact DH
 ·exact ⟨FI,trivial⟩
 ·exact DN
theorem M6 (x:Gj) {a1:Option Addr} {c1:Nat} {F1:List Nat} {S1:List Pc}  (h:T c fr (.own Dz (.agg #[.int .i64 x.Ae,.slice a1 x.Bj.length c1,.int .i64 x.Ce]) x (F1)::S1) Φ) (m1:Cn H (.ow Bb 3 (.slice a1 x.Bj.length c1) x.Bj F1) S1:=by exact Da)  : T c fr H Φ:=.mk fun a w s g=>by
 have z1:St c.G c.D c.w0 ([.ow Bb 3 (.slice a1 x.Bj.length c1) x.Bj F1]++S1) w:=by simpa using (show Ih H [.ow Bb 3 (.slice a1 x.Bj.length c1) x.Bj F1] S1 from Ih.cons m1 (Ih.nil)).st (X:=[]) HN
 obtain ⟨n1,k1⟩:=z1.on (.ow Bb 3 (.slice a1 x.Bj.length c1) x.Bj F1) FI;have hN:=n1;refine h.h a w (St.turn (M:=[.ow Bb 3 (.slice a1 x.Bj.length c1) x.Bj F1]) (N:=[.own Dz (.agg #[.int .i64 x.Ae,.slice a1 x.Bj.length c1,.int .i64 x.Ce]) x (F1)]) z1 (Dr.refl _ w) GU ⟨FI,trivial⟩ fun q hq b hb=>?_) g;exact BZ
theorem Wp {a:Option Addr} {n cp:Nat} {xs:List Gj} {F:List Nat} (i:Nat) (h:∀(hi:i < xs.length) (b o:Nat) (a1:Option Addr) (c1:Nat) (F1:List Nat),a=some ⟨b,o,none⟩→xs[i].Bj.length≤maxLen→T c fr (.cel b (o+i * 3) [.int .i64 xs[i].Ae,.slice a1 xs[i].Bj.length c1,.int .i64 xs[i].Ce]::.sl Bb (.slice a1 xs[i].Bj.length c1) xs[i].Bj F1::H) Φ) (hm:.sl Ds (.slice a n cp) xs F∈H:=by exact A9) (hi:i < xs.length:=by omega):T c fr H Φ:=.mk fun ac w s g=>by
 exact AU
end
set_option maxRecDepth 100000
theorem fI {p:Prop} (h:p:=by exact ⟨⟨_,_,rfl,rfl,rfl,rfl⟩,FJ,FK⟩):p:=h
theorem aI {p:Prop} (h:p:=by exact ⟨⟨_,rfl,rfl⟩,FJ⟩):p:=h
theorem sI {p:Prop} (h:p:=by exact ⟨rfl,FJ⟩):p:=h
theorem bI {p:Prop} (h:p:=by exact ⟨fun parts=>by kernel_rfl⟩):p:=h
theorem eI {p:Prop} (h:p:=by exact ⟨FJ,rfl⟩):p:=h
theorem zI {p:Prop} (h:p:=by exact ⟨⟨_,rfl,rfl⟩⟩):p:=h
theorem iI {p:Prop} (h:p:=by exact ⟨rfl⟩):p:=h
instance:OneC prog 3:=aI
instance:IntC prog 3 .i64:=iI
instance:ZC prog 3 [.int .i64 0]:=zI
instance:ElT prog 3 (.int .i64 0) 1 8:=eI
instance:IntC prog 5 .u8:=iI
instance:IntC prog 294 .u64:=iI
instance:OneC prog 4:=aI
instance:BoolC prog 4:=iI
instance:OneC prog 9:=aI
instance:StrC prog 9:=iI
instance:ZC prog 9 [.string ⟨#[]⟩]:=zI
instance:ElT prog 9 (.string ⟨#[]⟩) 1 16:=eI
instance:AggC prog 24 1:=aI
instance:FldC prog 24 0 0 22 1:=fI
instance:AggC prog 27 3:=aI
instance:FldC prog 27 0 0 3 1:=fI
instance:FldC prog 27 1 1 3 1:=fI
instance:FldC prog 27 2 2 25 1:=fI
instance:AggC prog 30 6:=aI
instance:FldC prog 30 0 0 27 3:=fI
instance:FldC prog 30 1 3 3 1:=fI
instance:FldC prog 30 2 4 3 1:=fI
instance:FldC prog 30 3 5 28 1:=fI
instance:AggC prog 35 11:=aI
instance:FldC prog 35 0 0 24 1:=fI
instance:FldC prog 35 1 1 30 6:=fI
instance:FldC prog 35 2 7 31 1:=fI
instance:FldC prog 35 3 8 32 1:=fI
instance:FldC prog 35 4 9 33 1:=fI
instance:FldC prog 35 5 10 33 1:=fI
instance:AggC prog 37 3:=aI
instance:AggC prog 39 14:=aI
instance:FldC prog 39 0 0 35 11:=fI
instance:FldC prog 39 1 11 37 3:=fI
instance:AggC prog 43 1:=aI
instance:FldC prog 43 0 0 22 1:=fI
instance:ZC prog 43 [.slice none 0 0]:=zI
instance:BldC prog 43 [(0,1)] [.slice none 0 0]:=bI
instance:AggC prog 44 3:=aI
instance:FldC prog 44 0 0 3 1:=fI
instance:FldC prog 44 1 1 3 1:=fI
instance:FldC prog 44 2 2 25 1:=fI
instance:ZC prog 44 [.int .i64 0,.int .i64 0,.slice none 0 0]:=zI
instance:BldC prog 44 [(0,1),(1,1),(2,1)] [.int .i64 0,.int .i64 0,.slice none 0 0]:=bI
instance:AggC prog 47 6:=aI
instance:FldC prog 47 0 0 44 3:=fI
instance:FldC prog 47 1 3 3 1:=fI
instance:FldC prog 47 2 4 3 1:=fI
instance:FldC prog 47 3 5 45 1:=fI
instance:ZC prog 47 [.int .i64 0,.int .i64 0,.slice none 0 0,.int .i64 0,.int .i64 0,.slice none 0 0]:=zI
instance:BldC prog 47 [(0,3),(3,1),(4,1),(5,1)] [.int .i64 0,.int .i64 0,.slice none 0 0,.int .i64 0,.int .i64 0,.slice none 0 0]:=bI
instance:AggC prog 52 11:=aI
instance:FldC prog 52 0 0 43 1:=fI
instance:FldC prog 52 1 1 47 6:=fI
instance:FldC prog 52 2 7 48 1:=fI
instance:FldC prog 52 3 8 49 1:=fI
instance:FldC prog 52 4 9 50 1:=fI
instance:FldC prog 52 5 10 50 1:=fI
instance:ZC prog 52 [.slice none 0 0,.int .i64 0,.int .i64 0,.slice none 0 0,.int .i64 0,.int .i64 0,.slice none 0 0,.slice none 0 0,.slice none 0 0,.slice none 0 0,.slice none 0 0]:=zI
instance:BldC prog 52 [(0,1),(1,6),(7,1),(8,1),(9,1),(10,1)] [.slice none 0 0,.int .i64 0,.int .i64 0,.slice none 0 0,.int .i64 0,.int .i64 0,.slice none 0 0,.slice none 0 0,.slice none 0 0,.slice none 0 0,.slice none 0 0]:=bI
instance:AggC prog 53 3:=aI
instance:FldC prog 53 0 0 9 1:=fI
instance:FldC prog 53 1 1 9 1:=fI
instance:FldC prog 53 2 2 3 1:=fI
instance:ZC prog 53 [.string ⟨#[]⟩,.string ⟨#[]⟩,.int .i64 0]:=zI
instance:BldC prog 53 [(0,1),(1,1),(2,1)] [.string ⟨#[]⟩,.string ⟨#[]⟩,.int .i64 0]:=bI
instance:AggC prog 55 14:=aI
instance:FldC prog 55 0 0 52 11:=fI
instance:FldC prog 55 1 11 53 3:=fI
instance:ZC prog 55 [.slice none 0 0,.int .i64 0,.int .i64 0,.slice none 0 0,.int .i64 0,.int .i64 0,.slice none 0 0,.slice none 0 0,.slice none 0 0,.slice none 0 0,.slice none 0 0,.string ⟨#[]⟩,.string ⟨#[]⟩,.int .i64 0]:=zI
instance:BldC prog 55 [(0,11),(11,3)] [.slice none 0 0,.int .i64 0,.int .i64 0,.slice none 0 0,.int .i64 0,.int .i64 0,.slice none 0 0,.slice none 0 0,.slice none 0 0,.slice none 0 0,.slice none 0 0,.string ⟨#[]⟩,.string ⟨#[]⟩,.int .i64 0]:=bI
instance:AggC prog 87 2:=aI
instance:FldC prog 87 0 0 9 1:=fI
instance:FldC prog 87 1 1 9 1:=fI
instance:ZC prog 87 [.string ⟨#[]⟩,.string ⟨#[]⟩]:=zI
instance:ElT prog 87 (.agg #[.string ⟨#[]⟩,.string ⟨#[]⟩]) 2 32:=eI
instance:BldC prog 87 [(0,1),(1,1)] [.string ⟨#[]⟩,.string ⟨#[]⟩]:=bI
instance:AggC prog 118 2:=aI
instance:FldC prog 118 0 0 3 1:=fI
instance:FldC prog 118 1 1 116 1:=fI
instance:AggC prog 122 2:=aI
instance:FldC prog 122 0 0 3 1:=fI
instance:FldC prog 122 1 1 120 1:=fI
instance:AggC prog 125 5:=aI
instance:FldC prog 125 0 0 4 1:=fI
instance:FldC prog 125 1 1 3 1:=fI
instance:FldC prog 125 2 2 122 2:=fI
instance:FldC prog 125 3 4 123 1:=fI
instance:AggC prog 139 3:=aI
instance:FldC prog 139 0 0 3 1:=fI
instance:FldC prog 139 1 1 3 1:=fI
instance:FldC prog 139 2 2 9 1:=fI
instance:ZC prog 139 [.int .i64 0,.int .i64 0,.string ⟨#[]⟩]:=zI
instance:BldC prog 139 [(0,1),(1,1),(2,1)] [.int .i64 0,.int .i64 0,.string ⟨#[]⟩]:=bI
instance:AggC prog 149 2:=aI
instance:FldC prog 149 0 0 3 1:=fI
instance:FldC prog 149 1 1 147 1:=fI
instance:ZC prog 149 [.int .i64 0,.slice none 0 0]:=zI
instance:ElT prog 149 (.agg #[.int .i64 0,.slice none 0 0]) 2 32:=eI
instance:BldC prog 149 [(0,1),(1,1)] [.int .i64 0,.slice none 0 0]:=bI
instance:AggC prog 153 2:=aI
instance:FldC prog 153 0 0 3 1:=fI
instance:FldC prog 153 1 1 151 1:=fI
instance:ZC prog 153 [.int .i64 0,.slice none 0 0]:=zI
instance:BldC prog 153 [(0,1),(1,1)] [.int .i64 0,.slice none 0 0]:=bI
instance:AggC prog 156 5:=aI
instance:FldC prog 156 0 0 4 1:=fI
instance:FldC prog 156 1 1 3 1:=fI
instance:FldC prog 156 2 2 153 2:=fI
instance:FldC prog 156 3 4 154 1:=fI
instance:ZC prog 156 [.bool false,.int .i64 0,.int .i64 0,.slice none 0 0,.slice none 0 0]:=zI
instance:ElT prog 156 (.agg #[.bool false,.int .i64 0,.int .i64 0,.slice none 0 0,.slice none 0 0]) 5 72:=eI
instance:BldC prog 156 [(0,1),(1,1),(2,2),(4,1)] [.bool false,.int .i64 0,.int .i64 0,.slice none 0 0,.slice none 0 0]:=bI
instance:AggC prog 200 5:=aI
instance:AggC prog 203 2:=aI
instance:FldC prog 203 0 0 3 1:=fI
instance:FldC prog 203 1 1 3 1:=fI
instance:ZC prog 203 [.int .i64 0,.int .i64 0]:=zI
instance:ElT prog 203 (.agg #[.int .i64 0,.int .i64 0]) 2 16:=eI
instance:BldC prog 203 [(0,1),(1,1)] [.int .i64 0,.int .i64 0]:=bI
instance:AggC prog 229 2:=aI
instance:AggC prog 233 5:=aI
instance:FldC prog 233 0 0 3 1:=fI
instance:FldC prog 233 1 1 3 1:=fI
instance:FldC prog 233 2 2 3 1:=fI
instance:FldC prog 233 3 3 3 1:=fI
instance:FldC prog 233 4 4 9 1:=fI
instance:ZC prog 233 [.int .i64 0,.int .i64 0,.int .i64 0,.int .i64 0,.string ⟨#[]⟩]:=zI
instance:ElT prog 233 (.agg #[.int .i64 0,.int .i64 0,.int .i64 0,.int .i64 0,.string ⟨#[]⟩]) 5 48:=eI
instance:BldC prog 233 [(0,1),(1,1),(2,1),(3,1),(4,1)] [.int .i64 0,.int .i64 0,.int .i64 0,.int .i64 0,.string ⟨#[]⟩]:=bI
instance:AggC prog 253 3:=aI
instance:FldC prog 253 0 0 3 1:=fI
instance:FldC prog 253 1 1 22 1:=fI
instance:FldC prog 253 2 2 3 1:=fI
instance:ZC prog 253 [.int .i64 0,.slice none 0 0,.int .i64 0]:=zI
instance:ElT prog 253 (.agg #[.int .i64 0,.slice none 0 0,.int .i64 0]) 3 40:=eI
instance:BldC prog 253 [(0,1),(1,1),(2,1)] [.int .i64 0,.slice none 0 0,.int .i64 0]:=bI
instance:AggC prog 257 4:=aI
instance:FldC prog 257 0 0 3 1:=fI
instance:FldC prog 257 1 1 3 1:=fI
instance:FldC prog 257 2 2 3 1:=fI
instance:FldC prog 257 3 3 3 1:=fI
instance:ZC prog 257 [.int .i64 0,.int .i64 0,.int .i64 0,.int .i64 0]:=zI
instance:ElT prog 257 (.agg #[.int .i64 0,.int .i64 0,.int .i64 0,.int .i64 0]) 4 32:=eI
instance:BldC prog 257 [(0,1),(1,1),(2,1),(3,1)] [.int .i64 0,.int .i64 0,.int .i64 0,.int .i64 0]:=bI
instance:AggC prog 272 2:=aI
instance:FldC prog 272 0 0 4 1:=fI
instance:FldC prog 272 1 1 9 1:=fI
instance:ZC prog 272 [.bool false,.string ⟨#[]⟩]:=zI
instance:ElT prog 272 (.agg #[.bool false,.string ⟨#[]⟩]) 2 24:=eI
instance:BldC prog 272 [(0,1),(1,1)] [.bool false,.string ⟨#[]⟩]:=bI
instance:AggC prog 274 3:=aI
instance:FldC prog 274 0 0 3 1:=fI
instance:FldC prog 274 1 1 22 1:=fI
instance:FldC prog 274 2 2 3 1:=fI
instance:AggC prog 292 4:=aI
instance:AggC prog 330 2:=aI
instance:OneC prog 22:=aI
instance:SlC prog 22 3 1:=sI
instance:OneC prog 25:=aI
instance:SlC prog 25 9 1:=sI
instance:OneC prog 28:=aI
instance:SlC prog 28 229 2:=sI
instance:OneC prog 31:=aI
instance:SlC prog 31 118 2:=sI
instance:OneC prog 32:=aI
instance:SlC prog 32 125 5:=sI
instance:OneC prog 33:=aI
instance:SlC prog 33 127 1:=sI
instance:OneC prog 45:=aI
instance:SlC prog 45 203 2:=sI
instance:OneC prog 48:=aI
instance:SlC prog 48 149 2:=sI
instance:OneC prog 49:=aI
instance:SlC prog 49 156 5:=sI
instance:OneC prog 50:=aI
instance:SlC prog 50 158 1:=sI
instance:OneC prog 116:=aI
instance:SlC prog 116 274 3:=sI
instance:OneC prog 120:=aI
instance:SlC prog 120 330 2:=sI
instance:OneC prog 123:=aI
instance:SlC prog 123 292 4:=sI
instance:OneC prog 127:=aI
instance:SlC prog 127 200 5:=sI
instance:SlC prog 131 87 2:=sI
instance:OneC prog 147:=aI
instance:SlC prog 147 253 3:=sI
instance:OneC prog 151:=aI
instance:SlC prog 151 272 2:=sI
instance:OneC prog 154:=aI
instance:SlC prog 154 257 4:=sI
instance:OneC prog 158:=aI
instance:SlC prog 158 233 5:=sI
instance:ZC prog 158 [.slice none 0 0]:=zI
instance:ElT prog 158 (.slice none 0 0) 1 24:=eI
instance:OneC prog 308:=aI
instance:OneC prog 375:=aI
instance:OneC prog 377:=aI
section
variable {c:Cx} {fr:Fr} {H:List Pc} {k:List It} {Φ:Gl} {ops:Array Oper} {o:Op} {d:Nat} {v:Value} {ty:TypeId} {pos:String} {Cf:Array Edge} {H0:List Pc} {X:List Nat} {f:Nat} {listed:Array Bool}
theorem dsI {id:Nat} {l:List Oper} (H0:List Pc) (X:List Nat) (h:T c fr H (.dx k H0 X l.toArray l.length (Array.replicate l.length false))) (hm:c.P.follows .mixedOrders=true:=by kernel_rfl):T c fr H (.code k (Code.region id l.toArray true)):=.mk fun a w s g=>by
 refine E9.start (S:=Od H0) (X:=fun i=>X.contains i) hm ?_;exact DP
theorem dtI (i:Nat) (hI:∀w,Od H w→Od H0 w) (h:T c ((d,v)::fr) H (.dx k H0 X ops f (listed.setIfInBounds i true))) (ho:ops[i]?=some ⟨some d,o,ty,pos,Cf,none⟩:=by rw [List.getElem?_toArray];rfl) (hy:Yd c.P c.n fr H0 o ty v:=by exact ydE)
  (h1:Region.noSelect ops=true:=by kernel_rfl) (h2:Region.free .any ops listed i=true:=by kernel_rfl) (h3:(Region.ready .any ops listed).contains i=true:=by kernel_rfl) (h4:Mg .any ops (fun i=>X.contains i) i=true:=by kernel_rfl) (h5:Ng .any ops listed=true:=by kernel_rfl) (hR:X7 c:=by exact Aai) (hd:Nat.blt d c.n=true:=by rfl) :
  T c fr H (.dx k H0 X ops (f+1) listed):=.mk fun a w s g =>
 E9.take (v:=v) ho h1 h2 h3 h4 h5 (fun ch a w hp=>by rw [M4] at hp ⊢;exact hR _ _ _ _ _ hp) (.inl ⟨rfl,fun w' hw'=>hy.h a w' _ _ _ _ g hw'⟩) (hI w s.on) (h.h _ _ s (g.put hd))
theorem dkI {i:Nat} (hI:∀w,Od H w→Od H0 w) (h:T c fr H (.dx k H0 X ops f listed)):T c fr H (.dk i k H0 X ops f listed):=.mk fun a w s g=>⟨fun _=>hI w s.on,h.h a w s g⟩
end
theorem If {g t:Nat} {x:Value} {r:List Value} {w:World} (h:(Pc.row g t 0 [] (x::r) []).P w):(Pc.cel g 0 [x]).P w:=⟨FI,fun j u hu=>by
 cases j with
 | zero=>exact Is h 0 u (by simpa using hu)
 | succ j=>simp at hu⟩
def Lj (c:Int) (x:Gj):Bool:=B8 x.Ae && (decide (0 < x.Bj.length) && (Rl 1 7 x.Bj && Ga (c+1) x.Ce (c+6)))
def Aac (c:Int) (es:List Gj) (i:Nat):Bool:=match es[i]? with
 | none=>true
 | some x=>Lj c x && !((es.take i).any fun o=>o.Ae == x.Ae)
theorem Ku {c:Int} {es:List Gj} {i:Nat} (h:i < es.length):Aac c es i=(Lj c es[i] && !((es.take i).any fun o=>o.Ae == es[i].Ae)):=by
 simp [Aac,h]
def Ba (e:Bf):Bool:=Ky e.Ai && decide (e.Ah.length≤5) && Pr (Aac e.Ai e.Ah) e.Ah.length
theorem Oz {c:Int}:Ky c=true↔0≤c∧c≤9999:=by unfold Ky Ga;simp
theorem Azq {es:List Gj} {m k:Nat} {p:Gj→Bool} (h:m < es.length) (hk:m < k) (hp:p es[m]=true):(es.take k).any p=true:=by
 rw [List.any_eq_true];exact ⟨es[m],List.mem_take_iff_getElem.2 ⟨m,FH,rfl⟩,hp⟩
theorem Aov {es:List Gj} {k:Nat} {n:Int} (h:∀q,q < k→∀hq:q < es.length,es[q].Ae≠n):((es.take k).any fun o=>o.Ae == n)=false:=by
 rw [List.any_eq_false];intro x hx;obtain ⟨i,hi,rfl⟩:=List.mem_take_iff_getElem.1 hx;simpa using h i FH FH
theorem Ac9 {c d:Int} (h:Ky c=true) (h1:0≤d) (h2:d≤100):wrap64 (c+d)=c+d:=by
 have:=Oz.1 h;unfold wrap64;omega
theorem Aca {e:Bf} {k:Nat} (hk:k < e.Ah.length) (h:Ky e.Ai=true→Aac e.Ai e.Ah k=false):Ba e=false:=by
 unfold Ba;cases hc:Ky e.Ai
 ·rfl
 ·rw [Mi hk (h hc)];simp
theorem Aap (x:Gj) (num:Int) (b:Nat) (G:List Nat) (u:Value) (w:World) (h:Jz Ds w u x G) (hc:w.cell? ⟨b,0,none⟩=some (.int .i64 num)) :
  Calls prog 253 #[u,.pointer (some ⟨b,0,none⟩)] w (RB (.bool (x.Ae == num)) w):=by
 obtain ⟨_,rfl,v1,rfl, -⟩:=h;have hc1:=fun o:Obj=>kc ((Below.refl w.heap.size w).alloc (Nat.le_refl _) o) hc
 go_enter func253,ntmps253
 go_wp2
 go_ret
 exact ⟨Ci rfl,(Below.refl _ _).alloc (Nat.le_refl _) _⟩
theorem Vh (v:Value) (e:Bf) (F:List Nat) (w:World) (h:Jz Bk w v e F) :
  Calls prog 179 #[v] w (RB (.bool (Ba e)) w):=by
 obtain ⟨_,rfl,v1,rfl,h1⟩:=h;obtain ⟨a,cap,rfl⟩:=h1.slice;have hl:=h1.len;unfold maxLen at hl;have hB0:∀A:Obj,Below w.heap.size w (w.alloc A):=fun A=>(Below.refl _ _).alloc (Nat.le_refl _) _
 go_enter func179,ntmps179
 go_wp2
 go_loopw [3,4,8] (fun _ _ i wr=>∃k:Nat,k≤e.Ah.length∧i=.int .i64 k∧Hid (Ky e.Ai=true→∀j,j < k→Aac e.Ai e.Ah j=true)∧Ii wr w.heap.size 149 [.int .i64 e.Ai,.slice a e.Ah.length cap]∧Below w.heap.size w wr) (fun _ _ i _=>e.Ah.length - (intOf i).toNat)
 case atStart=>exact ⟨0,Nat.zero_le _,rfl,fun _ j hj=>by omega,by simp [Jk],hB0 _⟩
 case round =>
  obtain ⟨k,hk,rfl,hz,hr,hB⟩:=hrel;have c0:=hr.cells;by_cases hlt:k < e.Ah.length
  ·have hz0:=hz;clear hz;obtain ⟨b,off,_,F1,rfl,hx, -,ja⟩:=(h1.below FK hB).at k hlt;obtain ⟨u1,rfl,hf⟩:=id hx;obtain ⟨fa,fc,rfl⟩:=hf.slice;have a0:=ja 0 FK;have a1:=ja 1 FK;have a2:=ja 2 FK;simp only [show Ds.sz=3 from rfl,Nat.mul_one,Nat.add_zero,List.getElem?_cons_zero,List.getElem?_cons_succ] at a0 a1 a2;clear ja;have d0:=fun A=>(hr.alloc A).cells;have hf1:=fun A:Obj=>hf.below FK ((Below.refl wr.heap.size wr).alloc (Nat.le_refl _) A);have hB1:=fun A:Obj=>tr hB ((Below.refl wr.heap.size wr).alloc (Nat.le_refl _) A) (Nat.le_refl _)
   have hcp:=h1.caps;by_cases hfe:e.Ah[k].Bj=[]
   ·have hE:((e.Ah[k].Bj.length:Int) == 0)=true:=by simp [hfe]
    have hno:=Lib.hid (Aca hlt (fun _=>by rw [Ku hlt];simp [Lj,hfe]))
    go_wp2_with (first
     | (go_at_call 169;refine (Jc _ _).mono ?_;rintro e' w' ⟨rfl,rfl⟩)
     | (go_at_call 251;refine (Ag3 _ _ _ _ (hf1 _)).mono ?_;rintro e' w' ⟨rfl,rfl⟩)
     | (go_at_call 99;refine (Id _ _ _ _).mono ?_;rintro e' w' ⟨rfl,rfl⟩))
    all_goals go_ret
    all_goals exact ⟨Ci hno.out.symm,hB1 _⟩
   ·have hE:((e.Ah[k].Bj.length:Int) == 0)=false:=by simp [hfe]
    have hfe:=Lib.hid hfe
    go_wp2_with (first
     | (go_at_call 169;refine (Jc _ _).mono ?_;rintro e' w' ⟨rfl,rfl⟩)
     | (go_at_call 251;refine (Ag3 _ _ _ _ (hf1 _)).mono ?_;rintro e' w' ⟨rfl,rfl⟩)
     | (go_at_call 99;refine (Id _ _ _ _).mono ?_;rintro e' w' ⟨rfl,rfl⟩))
    ·have t:(!Ga (wrap64 (e.Ai+1)) e.Ah[k].Ce (wrap64 (e.Ai+6)))=true:=GI
     go_ret
     refine ⟨Ci (Aca hlt fun hc=>?_).symm,hB1 _⟩;rw [Ac9 hc FH FH,Ac9 hc FH FH] at t;rw [Ku hlt];simp only [Lj];simp at t;simp [t]
    ·have t1:B8 e.Ah[k].Ae=true:=GI
     have t2:Rl 1 7 e.Ah[k].Bj=true:=GI
     have t:(!Ga (wrap64 (e.Ai+1)) e.Ah[k].Ce (wrap64 (e.Ai+6)))=false:=GI
     obtain ⟨G, -,hs⟩:=h1.takeS k hk;refine (Aao _ (.mk' func253 rfl rfl) _ _ _ _ (fun o=>o.Ae == e.Ah[k].Ae) _ (hs.below FK (hB1 _)) ?_).mono ?_
     ·intro j hj w2 u G2 hb2 hu;exact Aap _ _ _ _ _ _ hu (kc hb2 FI)
     rintro e' w2 ⟨rfl,hb2⟩;have hr2:=(hr.alloc _).below hb2;have hB2:=tr (hB1 _) hb2 (Nat.le_refl _);have hc2:=hr2.cells;have hAt:=Lib.hid (Ku (c:=e.Ai) hlt);cases hany:(e.Ah.take k).any fun o=>o.Ae == e.Ah[k].Ae
     ·rw [hany] at hAt;have hany:=Lib.hid hany;go_wp2_with fail;refine ⟨⟨k+1,FH,HL,fun hc=>Wi (hz0.out hc) ?_,hr2,hB2⟩,GO⟩;rw [Ac9 hc FH FH,Ac9 hc FH FH] at t;rw [hAt.out];simp only [Lj,t1,t2];simp at t;simp [t,List.length_pos_iff,hfe.out]
     ·rw [hany] at hAt;have hany:=Lib.hid hany;go_wp2_with fail
      go_ret
      exact ⟨Ci (Aca hlt fun _=>by rw [hAt.out];simp).symm,hB2⟩
    ·have t:¬Rl 1 7 e.Ah[k].Bj=true:=GI
     go_ret
     refine ⟨Ci (Aca hlt fun hc=>?_).symm,hB1 _⟩;rw [Ku hlt];simp [Lj,t]
    ·have t:¬B8 e.Ah[k].Ae=true:=GI
     go_ret
     refine ⟨Ci (Aca hlt fun hc=>?_).symm,hB1 _⟩;rw [Ku hlt];simp [Lj,t]
  ·have hk:k=e.Ah.length:=FH
   subst hk;have hz0:=hz;clear hz;cases hck:Ky e.Ai
   ·have hn:=Lib.hid (show Ba e=false by unfold Ba;rw [hck];rfl);have hck:=Lib.hid hck;go_wp2_with (go_at_call 168;refine (Tv _ _).mono ?_;rintro e' w' ⟨rfl,rfl⟩;rw [hck.out])
    go_ret
    exact ⟨Ci hn.out.symm,hB⟩
   ·have hn:=Lib.hid (show Ba e=decide ((e.Ah.length:Int)≤5) by unfold Ba;rw [hck,Lw (hz0.out hck)];simp;omega);have hck:=Lib.hid hck;go_wp2_with (go_at_call 168;refine (Tv _ _).mono ?_;rintro e' w' ⟨rfl,rfl⟩;rw [hck.out])
    go_ret
    exact ⟨Ci hn.out.symm,hB⟩
theorem Axa (e:Bf) (v:Value) (F:List Nat):FV 136 [v] [.isv Bk v e F] (.bool (Ba e)):=by
 refine enter func136 rfl ntmps136 fun w0=>?_;refine Fh ?_;rintro a c F1 rfl hl;refine go ?_;intros;refine ce (fun w s=>Aa8 _ _) ?_;cases hck:Ky e.Ai
 ·rw [show Ba e=false by unfold Ba;rw [hck];rfl];exact AA
 have hcb:=Oz.1 hck;refine go ?_;refine A1 rfl (fun h5=>?_) (fun h5=>?_)
 ·rw [show Ba e=false by unfold Ba;rw [hck,decide_eq_false FH];rfl];exact AA
 rw [show Ba e=Pr (Aac e.Ai e.Ah) e.Ah.length by unfold Ba;rw [hck,decide_eq_true FH];rfl];refine go ?_;refine Eh [1,2] (fun k:Nat=>[(3,.int .i64 (k:Nat))]) (fun k=>k≤e.Ah.length∧∀j,j < k→Aac e.Ai e.Ah j=true) (fun k=>e.Ah.length - k) 0 ⟨Nat.zero_le _,fun j hj=>by omega⟩ fun k hz=>?_;obtain ⟨hk0,hy⟩:=hz;refine go ?_;refine A1 rfl (fun h6=>?_) (fun h6=>?_)
 rotate_left
 ·rw [Lw (fun j hj=>hy j FH)];exact AA
 have hk:k < e.Ah.length:=FH
 have hno:Aac e.Ai e.Ah k=false→Pr (Aac e.Ai e.Ah) e.Ah.length=false:=fun h=>Mi hk h;refine Wp (xs:=e.Ah) k ?_;rintro hi b o a1 c1 F2 rfl hfl;refine go ?_;intros;refine ce (fun w s=>Pi _ _) ?_;cases t1:B8 e.Ah[k].Ae
 ·skip
  rw [hno (by rw [Ku hk];simp [Lj,t1])];exact AA
 refine go ?_;by_cases hfe:e.Ah[k].Bj.length=0
 ·rw [show decide (((e.Ah[k].Bj.length:Nat):Int)=0)=true from decide_eq_true FH];rw [hno (by rw [Ku hk];simp [Lj,t1,List.length_eq_zero_iff.1 hfe])];exact AA
 rw [show decide (((e.Ah[k].Bj.length:Nat):Int)=0)=false from decide_eq_false FH];refine go ?_;refine cb (fun w st=>Asx _ _ _ w (st.get (p:=.sl Bb (.slice a1 e.Ah[k].Bj.length c1) e.Ah[k].Bj F2) FL).2) ?_;cases t2:Rl 1 7 e.Ah[k].Bj
 ·skip
  rw [hno (by rw [Ku hk];simp [Lj,t1,t2])];exact AA
 refine go ?_;refine ce (fun w s=>Kk _ _ _ _) ?_;cases t3:Ga (e.Ai+1) e.Ah[k].Ce (e.Ai+6)
 ·skip
  rw [hno (by rw [Ku hk];simp [Lj,t1,t2,t3])];exact AA
 have hAt:Aac e.Ai e.Ah k = !((e.Ah.take k).any fun o=>o.Ae == e.Ah[k].Ae):=by rw [Ku hk];unfold Lj;rw [t1,decide_eq_true (show 0 < e.Ah[k].Bj.length by omega),t2,t3];rfl
 refine go ?_;refine Eh [1,2,3,4,16,17,18,19,20,23,24,25,26,27,28,29,30,31,32,33,34,35,36,37,38,39,40,41,42,43,44,45,46,47,48,49,50,51,52,53,54,55] (fun m:Nat=>[(5,.int .i64 (m:Nat))]) (fun m=>m≤k∧∀q,q < m→∀hq:q < e.Ah.length,e.Ah[q].Ae≠e.Ah[k].Ae) (fun m=>k - m) 0 ⟨Nat.zero_le _,fun q hq=>by omega⟩ fun m hm=>?_;obtain ⟨hm0,hx⟩:=hm;refine go ?_;refine A1 rfl (fun h7=>?_) (fun h7=>?_)
 ·have hmk:m < k:=FH
  refine Wp (xs:=e.Ah) m ?_;rintro hi2 b2 o2 a2 c2 F3 e2 -;cases e2
  repeat (first|apply Qx|(apply wO;apply oc;rfl;exact ydE)|apply Xy|apply Abd|(apply Aru;rfl;rfl)|(apply Art;rfl;rfl;rfl;rfl)|(apply Arv;rfl;rfl;rfl)|(apply c_t;rfl)|(apply c_f;rfl)|apply Wr|apply Tc|apply Afh)
  refine As [0,2,5] [] ?_;refine Dq 0 1 2 3 ?_;refine Dq 4 5 6 7 ?_;refine dt 8 ?_;refine dd ?_;refine go ?_;refine A1 rfl (fun h8=>?_) (fun h8=>?_)
  ·rw [hno (by rw [hAt,Azq FH hmk (by simpa using h8)];rfl)];exact AA
  refine go ?_;refine Cg (m+1) ⟨FH,fun q hq hql=>by
   rcases Nat.lt_or_eq_of_le (Nat.le_of_lt_succ hq) with h|h
   ·exact hx q h hql
   ·subst h;exact h8⟩ (by show k - (m+1) < k - m;omega)
 ·refine go ?_;refine Cg (k+1) ⟨FH,fun j hj=>by
   rcases Nat.lt_or_eq_of_le (Nat.le_of_lt_succ hj) with h|h
   ·exact hy j h
   ·subst h;rw [hAt,Aov (fun q hq=>hx q FH)];rfl⟩ (by show e.Ah.length - (k+1) < e.Ah.length - k;omega)
theorem Ali (v:Value) (e:Bf) (F:List Nat) (w:World) (h:Jz Bk w v e F) :
  Calls prog 136 #[v] w (RB (.bool (Ba e)) w):=(Axa e v F).val w (El h)
section
variable {c:Cx} {fr:Fr} {H:List Pc} {Φ:Gl}
theorem B9 {v:Value} {x:Aj} {F:List Nat} (h:∀(a1:Option Addr) (c1:Nat) (F1:List Nat),v=.agg #[.int .i64 x.next,.slice a1 x.Al.length c1]→x.Al.length≤maxLen→T c fr (.sl Bz (.slice a1 x.Al.length c1) x.Al F1::H) Φ) (hm:.isv Bg v x F∈H:=by exact A9):T c fr H Φ:=.mk fun a w s g=>by
 exact AG
theorem By (x:Aj) {a1:Option Addr} {c1:Nat} {F1:List Nat}  (h:T c fr (.isv Bg (.agg #[.int .i64 x.next,.slice a1 x.Al.length c1]) x (F1)::H) Φ) (m1:.sl Bz (.slice a1 x.Al.length c1) x.Al F1∈H:=by exact A9):T c fr H Φ:=.mk fun a w s g=>by
 exact AH
theorem Abf {v:Value} {x:Aj} {F:List Nat} {S:List Pc} (h:∀(a1:Option Addr) (c1:Nat) (F1:List Nat),v=.agg #[.int .i64 x.next,.slice a1 x.Al.length c1]→x.Al.length≤maxLen→T c fr (.ow Bz 272 (.slice a1 x.Al.length c1) x.Al F1::S) Φ) (hp:Cn H (.own Mw v x F) S:=by exact Da):T c fr H Φ:=.mk fun a w s g=>by
 have z1:=s.pick hp;obtain ⟨hn,cs,rfl,v1,rfl,h1⟩:=z1.on (.own Mw v x F) FI;obtain ⟨a1,c1,rfl⟩:=h1.slice;have l1:=h1.len;refine (h a1 c1 F rfl  l1).h a w (St.turn (M:=[.own Mw (.agg #[.int .i64 x.next,.slice a1 x.Al.length c1]) x _]) (N:=[.ow Bz 272 (.slice a1 x.Al.length c1) x.Al F]) z1 (Dr.refl _ w) ?_ ?_ ?_) g
 ·exact DH
 ·exact ⟨FI,trivial⟩
 ·exact DN
theorem Zy (x:Aj) {a1:Option Addr} {c1:Nat} {F1:List Nat} {S1:List Pc}  (h:T c fr (.own Mw (.agg #[.int .i64 x.next,.slice a1 x.Al.length c1]) x (F1)::S1) Φ) (m1:Cn H (.ow Bz 272 (.slice a1 x.Al.length c1) x.Al F1) S1:=by exact Da)  : T c fr H Φ:=.mk fun a w s g=>by
 have z1:St c.G c.D c.w0 ([.ow Bz 272 (.slice a1 x.Al.length c1) x.Al F1]++S1) w:=by simpa using (show Ih H [.ow Bz 272 (.slice a1 x.Al.length c1) x.Al F1] S1 from Ih.cons m1 (Ih.nil)).st (X:=[]) HN
 obtain ⟨n1,k1⟩:=z1.on (.ow Bz 272 (.slice a1 x.Al.length c1) x.Al F1) FI;have hN:=n1;refine h.h a w (St.turn (M:=[.ow Bz 272 (.slice a1 x.Al.length c1) x.Al F1]) (N:=[.own Mw (.agg #[.int .i64 x.next,.slice a1 x.Al.length c1]) x (F1)]) z1 (Dr.refl _ w) GU ⟨FI,trivial⟩ fun q hq b hb=>?_) g;exact BZ
end
section
variable {c:Cx} {fr:Fr} {H:List Pc} {Φ:Gl}
theorem Bbn {v:Value} {x:Gb} {F:List Nat} (h:∀(_:Unit),v=.agg #[.bool x.Vr,.string x.Dg]→x.Dg.size≤maxLen→T c fr (H) Φ) (hm:.isv Bz v x F∈H:=by exact A9):T c fr H Φ:=.mk fun a w s g=>by
 obtain ⟨cs,rfl,rfl,s1,rfl⟩:=s.get hm;exact (h () rfl s1 ).h a w s g
theorem Qf {a:Option Addr} {n cp:Nat} {xs:List Gb} {F:List Nat} (i:Nat) (h:∀(hi:i < xs.length) (b o:Nat),a=some ⟨b,o,none⟩→xs[i].Dg.size≤maxLen→T c fr (.cel b (o+i * 2) [.bool xs[i].Vr,.string xs[i].Dg]::H) Φ) (hm:.sl Bz (.slice a n cp) xs F∈H:=by exact A9) (hi:i < xs.length:=by omega):T c fr H Φ:=.mk fun ac w s g=>by
 exact CL
theorem Am3 {t:TypeId} {a:Option Addr} {n cp:Nat} {xs:List Gb} {F:List Nat} {S:List Pc} (i:Nat) (h:∀(_:i < xs.length) g A B,a=some ⟨g,0,none⟩→F=[g]→xs[i].Dg.size≤maxLen→Aza Bz t g (.slice (some ⟨g,0,none⟩) n cp) xs i A B→T c fr (.row g t (0+i * 2) A [.bool xs[i].Vr,.string xs[i].Dg] B::S) Φ) (hp:Cn H (.ow Bz t (.slice a n cp) xs F) S:=by exact Da) (hi:i < xs.length:=by omega):T c fr H Φ :=
 Pv H5 i (fun hi g A cs B ha hF hr hh=>by obtain ⟨rfl,s1, -⟩:=hr default;exact h hi g A B ha hF s1 hh) hp rfl hi
end
theorem Bc {x:Int}:B8 x=true↔0≤x∧x≤65535:=by unfold B8 Ga;simp
def Cf (x n:Int):Int:=(x+n) % 65536
def gp (a b:Int):Int:=(b - a) % 65536
def Up (a b:Int):Bool:=Ga 1 (gp a b) 32767
theorem Ly (a b:Int):0≤gp a b∧gp a b≤65535:=by unfold gp;omega
theorem J4 (a b:Int):0≤Cf a b∧Cf a b≤65535:=by unfold Cf;omega
theorem Wo (a b:Int):B8 (Cf a b)=true:=Bc.2 (J4 a b)
theorem At3 (z:Int):((z.tmod 65536)+65536).tmod 65536=z % 65536:=by
 rw [Int.tmod_eq_emod (a:=z.tmod 65536+65536),Int.tmod_eq_emod]
 split <;> split <;> omega
theorem Bfu (z:Int):-65535≤z.tmod 65536∧z.tmod 65536≤65535:=by
 rw [Int.tmod_eq_emod]
 split <;> omega
theorem Ta (x n:Int) (w:World) (h0:-4611686018427387904≤x+n) (h1:x+n≤4611686018427387904) :
  Calls prog 242 #[.int .i64 x,.int .i64 n] w fun e w'=>e=.returned (.int .i64 (Cf x n))∧w=w':=by
 have hb:=Bfu (x+n);have hb1:=hb.1;have hb2:=hb.2;clear hb;by_cases hz:0≤x+n
 ·go_enter func242,ntmps242
  go_wp2
  go_ret
  exact ⟨Hv (by unfold Cf;omega),rfl⟩
 ·have ht:=At3 (x+n);have ht:=Lib.hid ht
  go_enter func242,ntmps242
  go_wp2
  go_ret
  refine ⟨Hv ?_,rfl⟩;have:=ht.out;rw [Int.tmod_eq_emod (a:=(x+n).tmod 65536+65536)] at this;unfold Cf
  split at this <;> omega
theorem P7 (a b:Int) (w:World) (h0:-4611686018427387904≤b - a) (h1:b - a≤4611686018427387904) (ha:-4611686018427387904≤a) (ha':a≤4611686018427387904) :
  Calls prog 171 #[.int .i64 a,.int .i64 b] w fun e w'=>e=.returned (.int .i64 (gp a b))∧w=w':=by
 go_enter func171,ntmps171
 go_wp2_with fail;refine (Ta b (-a) _ FH FH).mono ?_;rintro e w' ⟨rfl,rfl⟩;go_wp2_with fail
 go_ret
 exact ⟨Hv (by unfold Cf gp;omega),rfl⟩
theorem Oh (a b:Int) (w:World) (h0:-4611686018427387904≤b - a) (h1:b - a≤4611686018427387904) (ha:-4611686018427387904≤a) (ha':a≤4611686018427387904) :
  Calls prog 363 #[.int .i64 a,.int .i64 b] w fun e w'=>e=.returned (.bool (Up a b))∧w=w':=by
 go_enter func363,ntmps363
 go_wp2_with fail;refine (P7 a b _ h0 h1 ha ha').mono ?_;rintro e w' ⟨rfl,rfl⟩;go_wp2_with fail;refine (Id _ _ _ _).mono ?_;rintro e w' ⟨rfl,rfl⟩;go_wp2_with fail
 go_ret
 exact EB
theorem Lu (x n:Int) (w:World) (h0:-131072≤x+n) (h1:x+n≤4611686018427387904) :
  Calls prog 223 #[.int .i64 x,.int .i64 n] w fun e w'=>e=.returned (.int .i64 (Cf x n))∧w=w':=by
 have h2:0≤x+n+131072:=FH
 go_enter func223,ntmps223
 go_wp2
 go_ret
 exact ⟨Hv (by unfold Cf;omega),rfl⟩
theorem Jq (a b:Int) (w:World) (h0:-65536≤b - a) (h1:b - a≤4611686018427387904) :
  Calls prog 135 #[.int .i64 a,.int .i64 b] w fun e w'=>e=.returned (.int .i64 (gp a b))∧w=w':=by
 have h2:0≤b - a+65536:=FH
 go_enter func135,ntmps135
 go_wp2
 go_ret
 exact ⟨Hv (by unfold gp;omega),rfl⟩
theorem Rb (a b:Int) (w:World) (h0:-65536≤b - a) (h1:b - a≤4611686018427387904) :
  Calls prog 285 #[.int .i64 a,.int .i64 b] w fun e w'=>e=.returned (.bool (Up a b))∧w=w':=by
 go_enter func285,ntmps285
 go_wp2_with fail;refine (Jq a b _ h0 h1).mono ?_;rintro e w' ⟨rfl,rfl⟩;go_wp2_with fail;refine (Kk _ _ _ _).mono ?_;rintro e w' ⟨rfl,rfl⟩;go_wp2_with fail
 go_ret
 exact EB
end Go.Proofs.YtcmighgaiacgoaaGreatDoor
namespace Go.Proofs.YtcmighgaiacgoaaGreatDoor
open Go.RowKit Go.Shelf
def low (b:UInt8):Bool:=Ga 97 b.toNat 122
def Abb (l:List UInt8):Bool:=l.all low
def Rs (s:ByteArray):Bool:=decide ((s.size:Int)≤8) && Abb s.data.toList
def abc:List UInt8:=[97,98,99,100,101,102,103,104,105,106,107,108,109,110,111,112,113,114,115,116,117,118,119,120,121,122]
theorem Bdz (b:UInt8):abc.contains b=low b:=by
 have h:∀n:Fin 256,abc.contains (UInt8.ofNat n.val)=low (UInt8.ofNat n.val):=by decide +kernel
 have:=h ⟨b.toNat,b.toNat_lt⟩;exact EM
theorem dropWhile_nil {α:Type} (p:α→Bool) (l:List α):l.dropWhile p=[]↔l.all p=true:=by
 induction l with
 | nil=>simp
 | cons x r ih=>rw [List.dropWhile_cons];cases h:p x <;> simp [h,ih]
theorem Ajs {α:Type} (p:α→Bool) (l:List α):(l.dropWhile p).all p=l.all p:=by
 induction l with
 | nil=>simp
 | cons x r ih=>rw [List.dropWhile_cons];cases h:p x <;> simp [h,ih]
theorem Ayw (l cs:List UInt8):(Lib.trimS l cs=[])↔l.all (cs.contains ·)=true:=by
 unfold Lib.trimS Lib.trimLeftS Lib.trimRightS;rw [dropWhile_nil,List.all_reverse,Ajs,List.all_reverse]
theorem Bc3 (l:List UInt8):(Lib.trimS l abc == [])=Abb l:=by
 rw [Bool.eq_iff_iff,beq_iff_eq,Ayw];unfold Abb;rw [show (fun b=>abc.contains b)=low from funext Bdz]
theorem Acb (s:ByteArray) (w:World) (hs:s.size≤maxLen) :
  Calls prog 191 #[.string s] w (RB (.bool (Rs s)) w):=by
 unfold maxLen at hs;have hc:=fun w=>Any.strings_Trim_laid Tryz.lays160 FJ s ⟨abc.toArray⟩ w hs FK (ascii_of_all FK);change ∀w,Calls prog 260 #[.string s,.string ⟨abc.toArray⟩] w (RB (.string ⟨(Lib.trimS s.data.toList abc).toArray⟩) w) at hc;have ht:=Bc3 s.data.toList;replace hc:=Lib.hid hc;by_cases h8:s.size≤8
 ·generalize Lib.trimS s.data.toList abc=t at *;have hi:Rs s=(t == []):=by unfold Rs;rw [ht,decide_eq_true FH];rfl
  replace hi:=Lib.hid hi;clear ht;cases t with
  | nil =>
   go_enter func191,ntmps191
   go_wp2_with fail;refine (hc.out _).mono ?_;rintro e w1 ⟨rfl,hb⟩;go_wp2_with fail
   go_ret
   exact ⟨Ci hi.out.symm,hb⟩
  | cons a r =>
   go_enter func191,ntmps191
   go_wp2_with fail;refine (hc.out _).mono ?_;rintro e w1 ⟨rfl,hb⟩;go_wp2_with fail
   go_ret
   exact ⟨Ci hi.out.symm,hb⟩
 ·have hi:Rs s=false:=by unfold Rs;rw [decide_eq_false FH];rfl
  replace hi:=Lib.hid hi
  go_enter func191,ntmps191
  go_wp2_with fail
  go_ret
  exact ⟨Ci hi.out.symm,Below.refl _ _⟩
theorem Axp (s:ByteArray) (k:Nat) (h:k < s.size):Abb (s.data.toList.drop k)=(low s[k] && Abb (s.data.toList.drop (k+1))):=by rw [Agh s k h];rfl
theorem Sg (s:ByteArray) (n:Int) (w:World) (hs:s.size≤maxLen) :
  Calls prog 215 #[.string s,.int .i64 n] w fun e w'=>e=.returned (.bool (decide ((s.size:Int)≤n) && Abb s.data.toList))∧w=w':=by
 unfold maxLen at hs
 go_enter func215,ntmps215
 go_wp2
 go_loop [5] (fun i=>∃k:Nat,k≤s.size∧i=.int .i64 k∧Hid (Abb s.data.toList=Abb (s.data.toList.drop k))) (fun i=>s.size - (intOf i).toNat)
 case atStart=>exact ⟨0,Nat.zero_le _,rfl,rfl⟩
 case round =>
  obtain ⟨k,hk,rfl,hz⟩:=hrel;by_cases hlt:k < s.size
  ·have hz:=Lib.hid (hz.out.trans (Axp s k hlt));have hb:(s[k].toNat:Int)≤255:=JA
   cases hl:low s[k]
   ·have hl1:low s[k]=false:=hl;unfold low Ga at hl;by_cases h1:(s[k].toNat:Int) < 97
    ·clear hl
     go_wp2
     go_ret
     exact ⟨Ci (by rw [hz.out,hl1];simp),rfl⟩
    ·have h2:(122:Int) < s[k].toNat:=by simp at hl;omega
     clear hl
     go_wp2
     go_ret
     exact ⟨Ci (by rw [hz.out,hl1];simp),rfl⟩
   ·have hl1:low s[k]=true:=hl;unfold low Ga at hl;simp only [Bool.and_eq_true,decide_eq_true_eq] at hl;have h1:¬(s[k].toNat:Int) < 97:=FH
    have h2:¬(122:Int) < s[k].toNat:=FH
    clear hl;replace hl1:=Lib.hid hl1
    go_wp2
    go_round
    case rel=>exact ⟨k+1,FH,HL,by refine Lib.hid ?_;rw [hz.out,hl1.out];rfl⟩
    case measure=>simp [intOf];omega
  ·go_wp2
   go_ret
   exact ⟨Ci (by rw [hz.out,Abz s k hlt];simp [Abb]),rfl⟩
end Go.Proofs.YtcmighgaiacgoaaGreatDoor
namespace Go.Proofs.YtcmighgaiacgoaaGreatDoor
open Go.RowKit
theorem Agx (fid:FuncId) (hbd:Zu prog fid) (caps:Array Value) (v:Value) (xs:List Gb) (F:List Nat) (p:Gb→Bool) (w:World) (h:Sl Bz w v xs F)
  (hp:∀(k:Nat) (hk:k < xs.length) (wr:World) (u:Value) (G:List Nat),Below w.heap.size w wr→Jz Bz wr u xs[k] G→Calls prog fid (#[u]++caps) wr fun e w'=>e=.returned (.bool (p xs[k]))∧Below wr.heap.size wr w') :
  Calls prog 353 #[v,.func (.func fid) #[] caps] w (RB (.int .i64 (Ss p xs)) w):=by
 obtain ⟨a,cap,rfl⟩:=h.slice;have hl:=h.len;unfold maxLen at hl
 go_enter func353,ntmps353
 go_wp2
 go_loopw [5,8] (fun _ i wr=>∃k:Nat,k≤xs.length∧i=.int .i64 k∧Hid (∀j,j < k→∀hj:j < xs.length,p xs[j]=false)∧Below w.heap.size w wr) (fun _ i _=>xs.length - (intOf i).toNat)
 case atStart=>exact ⟨0,Nat.zero_le _,rfl,fun j hj=>by omega,Below.refl _ _⟩
 case round =>
  obtain ⟨k,hk,rfl,hz,hB⟩:=hrel;by_cases hlt:k < xs.length
  ·have hz0:=hz;clear hz;obtain ⟨b,off,_,F1,rfl,hx, -,ja⟩:=(h.below FK hB).at k hlt;obtain ⟨rfl,s1,rfl⟩:=id hx;have a0:=ja 0 FK;have a1:=ja 1 FK;simp only [show Bz.sz=2 from rfl,Nat.mul_one,Nat.add_zero,List.getElem?_cons_zero,List.getElem?_cons_succ] at a0 a1;clear ja;have hr:=hp k hlt wr _ _ hB ⟨_,rfl,hx⟩;have hp:=Lib.hid hp;cases hpk:p xs[k]
   all_goals
    rw [hpk] at hr;have hpk:=Lib.hid hpk;have hr:=Lib.hid hr;go_wp2_with fail;refine hbd.upon hr.out ?_;rintro e w1 ⟨rfl,hb1⟩;refine ⟨_,rfl,?_⟩;have hB:=tr hB hb1 (Nat.le_refl _);clear hb1;go_wp2_with fail
   ·exact AL
   ·go_ret
    exact EV
  ·go_wp2
   go_ret
   exact DG
theorem Abp (fid:FuncId) (hbd:Zu prog fid) (caps:Array Value) (v:Value) (xs:List Gb) (F:List Nat) (p:Gb→Bool) (w:World) (h:Sl Bz w v xs F)
  (hp:∀(k:Nat) (hk:k < xs.length) (wr:World) (u:Value) (G:List Nat),Below w.heap.size w wr→Jz Bz wr u xs[k] G→Calls prog fid (#[u]++caps) wr fun e w'=>e=.returned (.bool (p xs[k]))∧Below wr.heap.size wr w') :
  Calls prog 304 #[v,.func (.func fid) #[] caps] w (RB (.bool (xs.any p)) w):=by
 have hp:=Lib.hid hp
 go_enter func304,ntmps304
 go_wp2_with fail;refine (Agx fid hbd caps v xs F p _ h hp.out).mono ?_;rintro e w1 ⟨rfl,hb1⟩;go_wp2_with fail
 go_ret
 exact ⟨Ci (T9 p xs),hb1⟩
theorem Aam (v:Value) (xs:List Gb) (F:List Nat) (w:World) (h:Sl Bz w v xs F) (hm:xs.length≤4294967296) :
  Calls prog 258 #[v] w (Nd Bz 272 xs w):=by
 obtain ⟨ao,c,news,Fy,rfl,hl,hfy,hFy,hsrc⟩:=h.src;have hFl:=hfy.lt;have he:=fun w (a:Option Addr) (n c:Nat)=>Lib.run_eql_slice_nil (P:=prog) w 151 _ a n c 0 0 underlying151
 go_enter func258,ntmps258
 rcases hsrc with ⟨rfl,rfl,rfl⟩|⟨ad,rfl,hn⟩
 ·go_wp2
  go_ret
  exact BY
 ·go_wp2_with (at_builtin;refine Py Iq FK GE _ _ _ GE 272 (.agg #[.bool false,.string ⟨#[]⟩]) 24 underlying151 Aws rfl (.slice (some ⟨w.heap.size,0,none⟩) 0 0) [] [w.heap.size] GE (Ow.empty (Ii.made _ _ _)) (Hd.one _) (some ad) xs c GE news Fy (hfy.frame fun b hb=>Below.heap_alloc _ _ _ (hFl b hb)) (.inr ⟨ad,rfl,fun j u hu=>kc ((Below.refl _ _).alloc (Nat.le_refl _) _) (hn j u hu)⟩) (fun b hb e=>by have:=hFl b hb;simp [Value.ownBlock] at e;omega) HQ HM ?_);intro v2 w2 F2 hA;go_wp2_with fail
  go_ret
  have hB:Below w.heap.size w w2:=((Below.refl _ _).alloc (Nat.le_refl _) _).trans (hA.I7.below FI FI);have hs:∀b,v2.ownBlock=some b→w.heap.size≤b:=fun b hb=>by rcases hA.Ato with e|e <;> rw [e] at hb <;> simp [Value.ownBlock] at hb <;> omega
  refine ⟨v2,F2,rfl,JJ,hA.ow.scal H5▸?_,fun b hb=>?_,hB⟩
  ·cases v2.ownBlock <;> simp
  ·rw [hA.ow.scal H5] at hb;exact hs b JV
def Hn (s:Gb):Bool:=Rs s.Dg && (s.Vr || decide (s.Dg=⟨#[]⟩))
def Jv (l:List Gb) (k:Nat):Bool:=match l[k]? with|some s=>s.Vr|none=>false
def Xz (l:List Gb):Bool:=decide (l.length=0) || (!Jv l 0 && Jv l (l.length - 1))
def Cu (x:Aj):Bool:=B8 x.next && decide ((x.Al.length:Int)≤8) && x.Al.all Hn && Xz x.Al
theorem Lz {l:List Gb} {k:Nat} (h:k < l.length):Jv l k=l[k].Vr:=by unfold Jv;rw [List.getElem?_eq_getElem h]
theorem Sf {l:List Gb} {k:Nat} (h:l.length≤k):Jv l k=false:=by unfold Jv;rw [List.getElem?_eq_none h]
def I4 (x:Aj) (k:Int):Bool:=Jv x.Al (gp x.next k).toNat
theorem Abs (x:Aj) (k:Int) (v:Value) (F:List Nat) (h0:0≤x.next) (h1:x.next≤65535) (h2:0≤k) (h3:k≤65535) :
  FV 250 [v,.int .i64 k] [.isv Bg v x F] (.bool (I4 x k)):=by
 refine enter func250 rfl ntmps250 fun w0=>?_;refine B9 ?_;rintro a1 c1 F1 rfl l1;unfold maxLen at l1;have hg:=Ly x.next k
 refine go ?_;intros;refine ce (fun w s=>P7 _ _ _ FH FH FH FH) ?_;refine go ?_;refine Dy rfl rfl (fun h=>?_) (fun h=>?_)
 ·refine Qf (gp x.next k).toNat ?_;rintro hi b o rfl s1;refine go ?_;refine ret () trivial ?_;unfold I4;rw [Lz hi];rfl
 ·refine go ?_;refine ret () trivial ?_;unfold I4;rw [Sf FH];rfl
theorem Bgy (x:Gb) (v:Value) (F:List Nat):FV 305 [v] [.isv Bz v x F] (.bool (!Hn x)):=by
 refine enter func305 rfl ntmps305 fun w0=>?_;refine Bbn ?_;rintro _ rfl s1;refine go ?_;intros;refine cb (fun w s=>Acb _ _ s1) ?_;cases g:Rs x.Dg
 ·refine go ?_;refine ret () trivial ?_;simp [Hn,g,Us]
 refine go ?_;cases g2:x.Vr
 ·refine go ?_;refine ret () trivial ?_;simp [Hn,g,g2,Us]
 ·refine go ?_;refine ret () trivial ?_;simp [Hn,g,g2,Us]
theorem Azh (x:Aj) (v:Value) (F:List Nat):FV 246 [v] [.isv Bg v x F] (.bool (Cu x)):=by
 refine enter func246 rfl ntmps246 fun w0=>?_;refine B9 ?_;rintro a1 c1 F1 rfl l1;unfold maxLen at l1;refine go ?_;intros;refine ce (fun w s=>Jc _ _) ?_;cases g1:B8 x.next
 ·refine go ?_;refine ret () trivial ?_;simp [Cu,g1,Us]
 refine go ?_;refine A1 rfl (fun h=>?_) (fun h=>?_)
 ·refine go ?_;refine ret () trivial ?_;simp [Cu,g1,Us];omega
 refine go ?_;refine cb (fun w s=>Abp _ (.mk' func305 rfl rfl) #[] _ x.Al F1 (fun s=>!Hn s) _ (s.get (p:=.sl Bz (.slice a1 x.Al.length c1) x.Al F1) FI).2 ?_) ?_
 ·intro k hk wr u G _ hu;exact (Bgy x.Al[k] u G).val wr (El hu)
 cases g2:x.Al.all Hn
 ·have:(x.Al.any fun s=>!Hn s)=true:=by rw [←List.not_all_eq_any_not,g2];rfl
  rw [this];refine go ?_;refine ret () trivial ?_;simp [Cu,g2,Us]
 have hx:(x.Al.any fun s=>!Hn s)=false:=by rw [←List.not_all_eq_any_not,g2];rfl
 rw [hx];refine go ?_;have g3:Cu x=Xz x.Al:=by simp [Cu,g1,g2];omega
 refine Dy rfl rfl (fun h=>?_) (fun h=>?_)
 ·refine go ?_;refine ret () trivial ?_;rw [g3];have:x.Al.length=0:=FH
  simp [Xz,this,Us]
 refine Qf 0 ?_;rintro hi b o rfl s1;refine go ?_;cases g4:x.Al[0].Vr
 rotate_left
 ·refine go ?_;refine ret () trivial ?_;rw [g3];unfold Xz;rw [Lz hi,g4,decide_eq_false FH];rfl
 refine Qf (x.Al.length - 1) ?_;rintro hi2 b2 o2 e s2;cases e;refine go ?_;have hl:((x.Al.length:Int) - 1).toNat=x.Al.length - 1:=FH
 rw [hl];refine go ?_;refine ret () trivial ?_;rw [g3];unfold Xz;rw [Lz hi,Lz hi2,g4,decide_eq_false FH];rfl
theorem Bi9 (s:ByteArray):(decide ((s.size:Int)≤8) && Abb s.data.toList)=Rs s:=rfl
theorem Z9 {α:Type} {p:α→Bool} {l:List α} {k:Nat} (h:k < l.length):(l.take (k+1)).all p=((l.take k).all p && p l[k]):=by
 rw [List.take_succ_eq_append_getElem h,List.all_append];simp
theorem Ag1 {α:Type} {p:α→Bool} {l:List α} {k:Nat} (h:k < l.length) (hp:p l[k]=false):l.all p=false:=by
 rw [List.all_eq_false];exact ⟨l[k],List.getElem_mem h,IC⟩
theorem Awz (x:Aj) (v:Value) (F:List Nat):FV 217 [v] [.isv Bg v x F] (.bool (Cu x)):=by
 refine enter func217 rfl ntmps217 fun w0=>?_;refine B9 ?_;rintro a1 c1 F1 rfl l1;unfold maxLen at l1;refine go ?_;intros;refine ce (fun w s=>Pi _ _) ?_;cases g1:B8 x.next
 ·refine go ?_;refine ret () trivial ?_;simp [Cu,g1,Us]
 refine go ?_;refine A1 rfl (fun h=>?_) (fun h=>?_)
 ·refine go ?_;refine ret () trivial ?_;simp [Cu,g1,Us];omega
 refine go ?_;refine Eh [1,2,3] (fun k:Nat=>[(4,.int .i64 k)]) (fun k=>k≤x.Al.length∧(x.Al.take k).all Hn=true) (fun k=>x.Al.length - k) 0 ⟨Nat.zero_le _,rfl⟩ fun k hk=>?_;obtain ⟨hk1,hk2⟩:=hk;refine go ?_;refine A1 rfl (fun h3=>?_) (fun h3=>?_)
 ·have hk3:k < x.Al.length:=FH
  refine Qf k ?_;rintro hi b o e s1;cases e;refine go ?_;refine ce (fun w s=>Sg _ _ _ s1) ?_;rw [Bi9];cases g2:Rs x.Al[k].Dg
  ·refine go ?_;refine ret () trivial ?_;have:x.Al.all Hn=false:=Ag1 hk3 (by simp [Hn,g2]);simp [Cu,this,Us]
  refine go ?_;cases g3:x.Al[k].Vr
  rotate_left
  ·refine go ?_;refine Cg (k+1) ⟨FH,by rw [Z9 hk3,hk2];simp [Hn,g2,g3]⟩ FH
  refine go ?_;refine A1 rfl (fun g4=>?_) (fun g4=>?_)
  ·refine go ?_;refine ret () trivial ?_;have:x.Al.all Hn=false:=Ag1 hk3 (by simp [Hn,g2,g3,g4]);simp [Cu,this,Us]
  ·refine go ?_;simp only [Decidable.not_not] at g4;have ho:Hn x.Al[k]=true:=by unfold Hn;rw [g2,g3,decide_eq_true g4];rfl
   refine Cg (k+1) ⟨FH,by rw [Z9 hk3,hk2,ho];rfl⟩ FH
 have hkl:k=x.Al.length:=FH
 subst hkl;rw [List.take_length] at hk2;have g3:Cu x=Xz x.Al:=by simp [Cu,g1,hk2];omega
 refine go ?_;refine Dy rfl rfl (fun h4=>?_) (fun h4=>?_)
 ·refine go ?_;refine ret () trivial ?_;rw [g3];have:x.Al.length=0:=FH
  simp [Xz,this,Us]
 refine Qf 0 ?_;rintro hi b o e s1;cases e;refine go ?_;cases g4:x.Al[0].Vr
 rotate_left
 ·refine go ?_;refine ret () trivial ?_;rw [g3];unfold Xz;rw [Lz hi,g4,decide_eq_false FH];rfl
 refine Qf (x.Al.length - 1) ?_;rintro hi2 b2 o2 e s2;cases e;refine go ?_;have hl:((x.Al.length:Int) - 1).toNat=x.Al.length - 1:=FH
 rw [hl];refine go ?_;refine ret () trivial ?_;rw [g3];unfold Xz;rw [Lz hi,Lz hi2,g4,decide_eq_false FH];rfl
def Aij (s:ByteArray):ByteArray:=⟨#[43]⟩++s
def Aqc:ByteArray:=⟨#[45]⟩
def Gn (l:List Gb):ByteArray:=match l with|[]=>Aqc|s::_=>if s.Vr then Aij s.Dg else Aqc
theorem Ael {l:List Gb} (hi:0 < l.length) (h:l[0].Vr=true):Gn l=Aij l[0].Dg:=by
 cases l with
 | nil=>simp at hi
 | cons s r=>simp at h;simp [Gn,h]
theorem Al7 {l:List Gb} (hi:0 < l.length) (h:l[0].Vr=false):Gn l=Aqc:=by
 cases l with
 | nil=>simp at hi
 | cons s r=>simp at h;simp [Gn,h]
def rel:Int→List Gb→Int × List Gb × List ByteArray
 | n,[]=>(n,[],[])
 | n,s::r=>if s.Vr then ((rel (Cf n 1) r).1,(rel (Cf n 1) r).2.1,Aij s.Dg::(rel (Cf n 1) r).2.2) else (n,s::r,[])
theorem Bhv {n:Int} {l:List Gb} (h:Jv l 0=false):rel n l=(n,l,[]):=by
 cases l with
 | nil=>rfl
 | cons s r=>have:s.Vr=false:=h;simp [rel,this]
theorem Bfg {n:Int} {l:List Gb} (h:Jv l 0=true):rel n l=((rel (Cf n 1) (l.drop 1)).1,(rel (Cf n 1) (l.drop 1)).2.1,Gn l::(rel (Cf n 1) (l.drop 1)).2.2):=by
 cases l with
 | nil=>cases h
 | cons s r=>have:s.Vr=true:=h;simp [rel,Gn,this]
theorem Bhr {w:World} {a:Option Addr} {c:Nat} {x:Aj} {F:List Nat} (h:(Pc.ow Bz 272 (.slice a x.Al.length c) x.Al F).P w):∃F',(Pc.isv Bg (.agg #[.int .i64 x.next,.slice a x.Al.length c]) x F').P w:=by
 obtain ⟨F', -,hs⟩:=h.2.read;exact ⟨F',_,rfl,_,rfl,hs⟩
theorem Avu (x:Aj) (v:Value) (F:List Nat) (hl:x.Al.length≤4294967296):Fn prog 188 [v] [.isv Bg v x F] [] (fun (_:Option Addr × Nat × List Nat)=>True)
  (fun s=>.agg #[.int .i64 x.next,.slice s.1 x.Al.length s.2.1]) (fun s=>[.ow Bz 272 (.slice s.1 x.Al.length s.2.1) x.Al s.2.2]):=by
 refine enter func188 rfl ntmps188 fun w0=>?_;refine B9 ?_;rintro a1 c1 F1 rfl l1;refine go ?_;intros;refine cn (fun w s=>Aam _ _ _ _ (s.get (p:=.sl Bz (.slice a1 x.Al.length c1) x.Al F1) FI).2 hl) fun a cp F'=>?_;refine go ?_;refine ret (a,cp,F') trivial rfl
theorem Akl (x:Aj) (g t o:Nat) (A B:List Value) (a:Option Addr) (cc:Nat) (F:List Nat) (h0:0≤x.next) (h1:x.next≤65535) (hl:x.Al.length≤4294967296) (hs:∀s∈x.Al,s.Dg.size≤8) :
  Fn prog 364 [Il g o 0] [] [.row g t o A [.int .i64 x.next,.slice a x.Al.length cc] B,.ow Bz 272 (.slice a x.Al.length cc) x.Al F] (fun (_:Option Addr × Nat × List Nat)=>True)
   (fun _=>.string (Gn x.Al)) (fun s=>[.row g t o A [.int .i64 (Cf x.next 1),.slice s.1 (x.Al.drop 1).length s.2.1] B,.ow Bz 272 (.slice s.1 (x.Al.drop 1).length s.2.1) (x.Al.drop 1) s.2.2]):=by
 refine enter func364 rfl ntmps364 fun w0=>?_;refine go ?_;refine A1 rfl (fun h=>?_) (fun h=>?_)
 ·refine A4 fun F'=>?_;refine Qf 0 ?_;rintro hi b o2 e s1;cases e;refine go ?_;have s8:=hs _ (List.getElem_mem hi);have s9:(⟨#[43]⟩:ByteArray).size=1:=rfl;cases g1:x.Al[0].Vr
  ·refine go ?_;apply wO;refine sld 1 fun a2 c2 F2=>?_;refine go ?_;refine cn (fun w s=>Aam _ _ _ _ (s.get (p:=.sl Bz (.slice a2 (x.Al.drop 1).length c2) (x.Al.drop 1) F2) FI).2 FO) fun a3 c3 F3=>?_;refine go ?_;refine ce (fun w s=>Ta _ _ _ FH FH) ?_;refine go ?_;refine ret (a3,c3,F3) trivial ?_;rw [Al7 hi g1];rfl
  ·refine go ?_;apply wO;refine sld 1 fun a2 c2 F2=>?_;refine go ?_;refine cn (fun w s=>Aam _ _ _ _ (s.get (p:=.sl Bz (.slice a2 (x.Al.drop 1).length c2) (x.Al.drop 1) F2) FI).2 FO) fun a3 c3 F3=>?_;refine go ?_;refine ce (fun w s=>Ta _ _ _ FH FH) ?_;refine go ?_;refine ret (a3,c3,F3) trivial ?_;rw [Ael hi g1];rfl
 ·obtain ⟨n,l⟩:=x;obtain rfl:l=[]:=List.eq_nil_of_length_eq_zero GA;refine go ?_;refine ce (fun w s=>Ta _ _ _ FH FH) ?_;refine go ?_;refine ret (a,cc,F) trivial rfl
def Qd (x:Aj):Aj:=⟨(rel x.next x.Al).1,(rel x.next x.Al).2.1⟩
def Sm (x:Aj):List ByteArray:=(rel x.next x.Al).2.2
def Z7 (x:Aj):Aj:=⟨Cf x.next 1,x.Al.drop 1⟩
theorem Acn {x:Aj} (h:Jv x.Al 0=false):Qd x=x∧Sm x=[]:=by unfold Qd Sm;rw [Bhv h];exact ⟨rfl,rfl⟩
theorem Anp {x:Aj} (h:Jv x.Al 0=true):Qd x=Qd (Z7 x)∧Sm x=Gn x.Al::Sm (Z7 x):=by unfold Qd Sm;rw [Bfg h];exact ⟨rfl,rfl⟩
theorem Tm {l:List Gb} (h:∀s∈l,s.Dg.size≤8):(Gn l).size≤9:=by
 cases l with
 | nil=>decide
 | cons s r =>
  have:=h s FI;unfold Gn;dsimp only
  split
  ·unfold Aij;rw [ByteArray.size_append];show 1+s.Dg.size≤9;omega
  ·decide
theorem Awr (y:Aj):I4 y y.next=Jv y.Al 0:=by
 unfold I4 gp;rw [Int.sub_self];rfl
theorem U1 (s:ByteArray) (h:s.size≤maxLen) (w:World):Cy A8 w [.string s] [s] []:=⟨_,[],[],[],FI,FI,⟨rfl,h,rfl⟩,rfl,rfl⟩
structure Adh where
 es:List ByteArray
 y:Aj
 a:Option Addr
 c:Nat
 F:List Nat
 ae:Option Addr
 ce:Nat
 Fe:List Nat
structure Bgc (x:Aj) (s:Adh):Prop where
 n0:0≤s.y.next
 n1:s.y.next≤65535
 it:∀z∈s.y.Al,z.Dg.size≤8
 ln:s.es.length+s.y.Al.length≤x.Al.length
 w:Qd x=Qd s.y
 e:Sm x=s.es++Sm s.y
theorem Aey (x:Aj) (g t o:Nat) (A B:List Value) (a:Option Addr) (cc:Nat) (F:List Nat) (h0:0≤x.next) (h1:x.next≤65535) (hl:x.Al.length≤1000000) (hs:∀s∈x.Al,s.Dg.size≤8) :
  Fn prog 365 [Il g o 0] [] [.row g t o A [.int .i64 x.next,.slice a x.Al.length cc] B,.ow Bz 272 (.slice a x.Al.length cc) x.Al F] (fun (s:Adh)=>s.y=Qd x∧s.es=Sm x)
   (fun s=>.slice s.ae s.es.length s.ce) (fun s=>[.row g t o A [.int .i64 s.y.next,.slice s.a s.y.Al.length s.c] B,.ow Bz 272 (.slice s.a s.y.Al.length s.c) s.y.Al s.F,.ow A8 9 (.slice s.ae s.es.length s.ce) s.es s.Fe]):=by
 refine enter func365 rfl ntmps365 fun w0=>?_;refine go ?_;refine Db A8 9 ?_;refine Cd [0,2] (fun s:Adh=>[(3,.slice s.ae s.es.length s.ce)]) (fun s=>[.row g t o A [.int .i64 s.y.next,.slice s.a s.y.Al.length s.c] B,.ow Bz 272 (.slice s.a s.y.Al.length s.c) s.y.Al s.F,.ow A8 9 (.slice s.ae s.es.length s.ce) s.es s.Fe]) (Bgc x) (fun s=>s.y.Al.length) ⟨[],x,a,cc,F,none,0,[]⟩ ⟨h0,h1,hs,FI,rfl,rfl⟩ fun s hC=>?_;obtain ⟨n0,n1,hit,hln,hw,he⟩:=hC;refine go ?_;refine As [0] [] ?_;refine Dq 0 1 2 3 ?_;refine Ec 4 5 ?_;refine dt 6 ?_;refine dN 7 ?_;refine oC ?_;refine cb (fun w st=>by
  obtain ⟨F',h⟩:=Bhr (st.get (p:=.ow Bz 272 (.slice s.a s.y.Al.length s.c) s.y.Al s.F) FI);exact (Abs s.y s.y.next _ F' n0 n1 n0 n1).val w (El h)) ?_
 refine dk ?_;refine dd ?_;rw [Awr];cases hv:Jv s.y.Al 0
 ·refine go ?_;refine ret s ⟨by rw [hw,(Acn hv).1],by rw [he,(Acn hv).2,List.append_nil]⟩ rfl
 refine go ?_;refine cf (Akl s.y g t o A B s.a s.c s.F n0 n1 FH hit) fun z _=>?_;obtain ⟨az,cz,Fz⟩:=z;refine Ot ?_;have hsz:=Tm hit;have hmx:(Gn s.y.Al).size≤maxLen:=GC
 have hlt:0 < s.y.Al.length:=by
  rcases Nat.eq_zero_or_pos s.y.Al.length with h|h
  ·rw [Sf FH] at hv;cases hv
  ·exact h
 have hll:s.es.length+1≤1000000:=FH
 refine go ?_;intros;apply wO;refine Ps (U1 _ hmx) Dx fun a' c' F'=>?_;refine go ?_;refine Cg ⟨s.es++[Gn s.y.Al],Z7 s.y,az,cz,Fz,a',c',F'⟩ ⟨(J4 _ _).1,(J4 _ _).2,fun z hz=>hit z (List.mem_of_mem_drop hz),IP,by rw [hw,(Anp hv).1],by rw [he,(Anp hv).2];simp⟩ IP
def zsl:Gb:=⟨false,⟨#[]⟩⟩
def Mz (x:Aj) (j:Nat):List Gb:=x.Al++List.replicate j zsl
theorem Pk (x:Aj) (j:Nat):(Mz x j).length=x.Al.length+j:=by simp [Mz]
def Mt (x:Aj) (k:Nat) (s:Gb):List Gb:=(Mz x (k+1 - x.Al.length)).set k s
def Hj (x:Aj) (n:Int):Bool:=Up n x.next || I4 x n
def N2 (x:Aj) (n:Int):Bool:=Hj x n || decide (gp x.next n < 8)
def Z5 (x:Aj) (n:Int) (s:ByteArray):Aj:=⟨x.next,Mt x (gp x.next n).toNat ⟨true,s⟩⟩
def Mq (x:Aj) (n:Int) (s:ByteArray):Aj:=if Hj x n || !decide (gp x.next n < 8) then x else Qd (Z5 x n s)
def Mf (x:Aj) (n:Int) (s:ByteArray):List ByteArray:=if Hj x n || !decide (gp x.next n < 8) then [] else Sm (Z5 x n s)
def Eu (a b:Int):Nat:=if Up a b then (gp a b).toNat else 0
def I5:Nat→Aj→Aj
 | 0,y=>y
 | k+1,y=>I5 k (Z7 y)
def O7:Nat→Aj→List ByteArray
 | 0,_=>[]
 | k+1,y=>Gn y.Al::O7 k (Z7 y)
theorem Amb {a b:Int} (h:Up a b=false):Eu a b=0:=by unfold Eu;rw [h];rfl
theorem Ai7 {a b:Int} (h:Up a b=true):Eu a b=Eu (Cf a 1) b+1:=by
 unfold Eu;rw [h];unfold Up Ga gp Cf at *;simp only [Bool.and_eq_true,decide_eq_true_eq,if_true] at h ⊢
 split <;> omega
theorem Ama (a b:Int):Eu a b≤32767:=by
 unfold Eu
 split
 ·rename_i h;unfold Up Ga at h;simp only [Bool.and_eq_true,decide_eq_true_eq] at h;omega
 ·omega
theorem Ais (s:Gb) (h:s.Dg.size≤maxLen) (w:World):Cy Bz w [.bool s.Vr,.string s.Dg] [s] []:=⟨_,[],[],[],FI,FI,⟨rfl,h,rfl⟩,rfl,rfl⟩
theorem Abh {x:Aj} {k:Nat} (hs:∀s∈x.Al,s.Dg.size≤8) {s:Gb} (hi:s.Dg.size≤8):∀z∈Mt x k s,z.Dg.size≤8:=fun z hz=>by
 unfold Mt at hz;rcases List.mem_or_eq_of_mem_set hz with h|rfl
 ·unfold Mz at h;rcases List.mem_append.1 h with h|h
  ·exact hs z h
  ·rw [(List.mem_replicate.1 h).2];decide
 ·exact hi
structure Bgx where
 j:Nat
 a:Option Addr
 c:Nat
 F:List Nat
theorem Azi (x:Aj) (n:Int) (Dg:ByteArray) (g t o:Nat) (A B:List Value) (a:Option Addr) (cc:Nat) (F:List Nat) (h0:0≤x.next) (h1:x.next≤65535) (h2:0≤n) (h3:n≤65535) (hl:x.Al.length≤8) (hs:∀s∈x.Al,s.Dg.size≤8) (hi:Dg.size≤8) :
  Fn prog 397 [Il g o 0,.int .i64 n,.string Dg] [] [.row g t o A [.int .i64 x.next,.slice a x.Al.length cc] B,.ow Bz 272 (.slice a x.Al.length cc) x.Al F] (fun (s:Adh)=>s.y=Mq x n Dg∧s.es=Mf x n Dg)
   (fun s=>.tuple #[.slice s.ae s.es.length s.ce,.bool (N2 x n)]) (fun s=>[.row g t o A [.int .i64 s.y.next,.slice s.a s.y.Al.length s.c] B,.ow Bz 272 (.slice s.a s.y.Al.length s.c) s.y.Al s.F,.ow A8 9 (.slice s.ae s.es.length s.ce) s.es s.Fe]):=by
 have hg:=Ly x.next n
 refine enter func397 rfl ntmps397 fun w0=>?_;refine go ?_;refine ce (fun w s=>Oh _ _ _ FH FH FH FH) ?_;cases g1:Up n x.next
 rotate_left
 ·refine go ?_;refine Db A8 9 ?_;refine ret ⟨[],x,a,cc,F,none,0,[]⟩ ⟨by simp [Mq,Hj,g1],by simp [Mf,Hj,g1]⟩ ?_;simp [N2,Hj,g1,Us]
 refine go ?_;refine cb (fun w st=>by
  obtain ⟨F',h⟩:=Bhr (st.get (p:=.ow Bz 272 (.slice a x.Al.length cc) x.Al F) FI);exact (Abs x n _ F' h0 h1 h2 h3).val w (El h)) ?_
 cases g2:I4 x n
 rotate_left
 ·refine go ?_;refine Db A8 9 ?_;refine ret ⟨[],x,a,cc,F,none,0,[]⟩ ⟨by simp [Mq,Hj,g1,g2],by simp [Mf,Hj,g1,g2]⟩ ?_;simp [N2,Hj,g1,g2,Us]
 refine go ?_;refine ce (fun w s=>P7 _ _ _ FH FH FH FH) ?_;refine go ?_;refine A1 rfl (fun h8=>?_) (fun h8=>?_)
 ·refine go ?_;refine Db A8 9 ?_;have h9:¬gp x.next n < 8:=FH
  refine ret ⟨[],x,a,cc,F,none,0,[]⟩ ⟨by simp [Mq,h9],by simp [Mf,h9]⟩ ?_;simp [N2,Hj,g1,g2,h9,Us]
 have hW:Mq x n Dg=Qd (Z5 x n Dg):=by unfold Mq Hj;rw [g1,g2,decide_eq_true FH];rfl
 have hE:Mf x n Dg=Sm (Z5 x n Dg):=by unfold Mf Hj;rw [g1,g2,decide_eq_true FH];rfl
 have hO:N2 x n=true:=by unfold N2;rw [decide_eq_true (show gp x.next n < 8 by omega)];simp
 unfold Z5 at hW hE;obtain ⟨k,hk⟩:∃k:Nat,gp x.next n=k:=⟨(gp x.next n).toNat,FH⟩
 rw [hk] at hW hE ⊢;rw [Int.toNat_natCast] at hW hE;refine go ?_;refine Cd [0,2,6,7,8] (fun s:Bgx=>[]) (fun s=>[.row g t o A [.int .i64 x.next,.slice s.a (Mz x s.j).length s.c] B,.ow Bz 272 (.slice s.a (Mz x s.j).length s.c) (Mz x s.j) s.F]) (fun s=>s.j≤k+1 - x.Al.length) (fun s=>k+1 - x.Al.length - s.j) ⟨0,a,cc,F⟩ (Nat.zero_le _) (fun s hj=>?_) (hH:=II);have hpl:=Pk x s.j;refine go ?_;refine A1 rfl (fun h9=>?_) (fun h9=>?_)
 ·refine go ?_;intros;apply wO;refine Ps (Ais zsl FK) Iq fun a' c' F'=>?_;refine go ?_;have e:Mz x s.j++[zsl]=Mz x (s.j+1):=LM
  exact CW
 have hjk:s.j=k+1 - x.Al.length:=FH
 refine go ?_;have hkl:k < (Mz x s.j).length:=FH
 refine Am3 k ?_;rintro hi2 g2 A2 B2 e eF hs2 hh;rw [e];refine Og ?_;intros;refine O5 (⟨true,Dg⟩:Gb) hh (fun w=>⟨rfl,KD,rfl⟩) ?_;have hsl:(Mz x s.j).length=((Mz x s.j).set k ⟨true,Dg⟩).length:=by rw [List.length_set]
 rw [hsl];have hpu:(Mz x s.j).set k ⟨true,Dg⟩=Mt x k ⟨true,Dg⟩:=by unfold Mt;rw [hjk]
 rw [hpu];have hpl2:(Mt x k ⟨true,Dg⟩).length≤1000:=KB
 have hps:=Abh (x:=x) (k:=k) hs (s:=⟨true,Dg⟩) hi;refine go ?_;refine Ca (Aey ⟨x.next,Mt x k ⟨true,Dg⟩⟩ g t o A B _ _ _ h0 h1 (by show (Mt x k ⟨true,Dg⟩).length≤_;omega) hps) fun z hz=>?_;refine go ?_;refine ret z ⟨by rw [hz.1,hW],by rw [hz.2,hE]⟩ ?_;rw [hO];rfl
structure Ay9 (x:Aj) (n:Int) (s:Adh):Prop where
 n0:0≤s.y.next
 n1:s.y.next≤65535
 it:∀z∈s.y.Al,z.Dg.size≤8
 ln:s.y.Al.length≤x.Al.length
 le:s.es.length+Eu s.y.next n≤Eu x.next n
 w:I5 (Eu x.next n) x=I5 (Eu s.y.next n) s.y
 e:O7 (Eu x.next n) x=s.es++O7 (Eu s.y.next n) s.y
theorem Aqw (x:Aj):(Sm x).length≤x.Al.length:=by
 unfold Sm;have:∀(l:List Gb) n,(rel n l).2.2.length≤l.length:=by
  intro l
  induction l with
  | nil=>intro n;simp [rel]
  | cons s r ih=>intro n;unfold rel;split;simp;exact ih _;simp
 exact this _ _
theorem Aoo (x:Aj) (n:Int) (g t o:Nat) (A B:List Value) (a:Option Addr) (cc:Nat) (F:List Nat) (h0:0≤x.next) (h1:x.next≤65535) (h2:0≤n) (h3:n≤65535) (hl:x.Al.length≤8) (hs:∀s∈x.Al,s.Dg.size≤8) :
  Fn prog 326 [Il g o 0,.int .i64 n] [] [.row g t o A [.int .i64 x.next,.slice a x.Al.length cc] B,.ow Bz 272 (.slice a x.Al.length cc) x.Al F] (fun (s:Adh)=>s.y=Qd (I5 (Eu x.next n) x)∧s.es=O7 (Eu x.next n) x++Sm (I5 (Eu x.next n) x))
   (fun s=>.slice s.ae s.es.length s.ce) (fun s=>[.row g t o A [.int .i64 s.y.next,.slice s.a s.y.Al.length s.c] B,.ow Bz 272 (.slice s.a s.y.Al.length s.c) s.y.Al s.F,.ow A8 9 (.slice s.ae s.es.length s.ce) s.es s.Fe]):=by
 have hgn:=Ama x.next n
 refine enter func326 rfl ntmps326 fun w0=>?_;refine go ?_;refine Db A8 9 ?_;refine Cd [0,1,4] (fun s:Adh=>[(5,.slice s.ae s.es.length s.ce)]) (fun s=>[.row g t o A [.int .i64 s.y.next,.slice s.a s.y.Al.length s.c] B,.ow Bz 272 (.slice s.a s.y.Al.length s.c) s.y.Al s.F,.ow A8 9 (.slice s.ae s.es.length s.ce) s.es s.Fe]) (Ay9 x n) (fun s=>Eu s.y.next n) ⟨[],x,a,cc,F,none,0,[]⟩ ⟨h0,h1,hs,Nat.le_refl _,FI,rfl,rfl⟩ fun s hC=>?_;obtain ⟨n0,n1,hit,hln,hle,hw,he⟩:=hC;refine go ?_;refine ce (fun w s=>Oh _ _ _ FH FH FH FH) ?_;cases hb:Up s.y.next n
 ·refine go ?_;rw [Amb hb] at hw he;refine Ca (Aey s.y g t o A B s.a s.c s.F n0 n1 FH hit) fun z hz=>?_;refine go ?_;have hr:=Aqw s.y;have hzl:z.es.length≤s.y.Al.length:=by rw [hz.2];exact hr
  refine A4 (xs:=z.es) fun F'=>?_;apply wO;refine Pf Dx Gz fun a' c' F2=>?_;exact EP
 have hst:=Ai7 hb;refine go ?_;refine cf (Akl s.y g t o A B s.a s.c s.F n0 n1 FH hit) fun z _=>?_;obtain ⟨az,cz,Fz⟩:=z;refine Ot ?_;have hsz:=Tm hit;have hmx:(Gn s.y.Al).size≤maxLen:=GC
 refine go ?_;intros;apply wO;refine Ps (U1 _ hmx) Dx fun a' c' F'=>?_;refine go ?_;refine Cg ⟨s.es++[Gn s.y.Al],Z7 s.y,az,cz,Fz,a',c',F'⟩ ⟨(J4 _ _).1,(J4 _ _).2,fun z hz=>hit z (List.mem_of_mem_drop hz),IP,IP,by rw [hw,hst];rfl,by rw [he,hst];simp [O7,Z7]⟩ (by show Eu (Cf s.y.next 1) n < _;omega)
def zRW:Aj:=⟨0,[]⟩
def W9 (x:Aj) (n:Int) (s:ByteArray):Bool:=Cu x && B8 n && Rs s && N2 x n
def Jy (x:Aj) (n:Int) (s:ByteArray):Aj × List ByteArray × Bool:=if W9 x n s then (Mq x n s,Mf x n s,true) else (zRW,[],false)
theorem Aqi {s:Gb} (h:Hn s=true):s.Dg.size≤8:=by
 unfold Hn Rs at h;simp only [Bool.and_eq_true,decide_eq_true_eq] at h;omega
structure Bgu (x:Aj):Prop where
 n0:0≤x.next
 n1:x.next≤65535
 l:x.Al.length≤8
 it:∀s∈x.Al,s.Dg.size≤8
theorem Tg {x:Aj} (h:Cu x=true):Bgu x:=by
 unfold Cu at h;simp only [Bool.and_eq_true,decide_eq_true_eq] at h;have hs:=Bc.1 h.1.1.1;exact ⟨hs.1,hs.2,FH,fun s hs=>Aqi (List.all_eq_true.1 h.1.2 s hs)⟩
theorem Vv {s:ByteArray} (h:Rs s=true):s.size≤8:=by unfold Rs at h;simp only [Bool.and_eq_true,decide_eq_true_eq] at h;omega
structure CpS where
 g:Nat
 a:Option Addr
 c:Nat
 F:List Nat
theorem Wy (x:Aj) (v:Value) (F:List Nat) (h0:0≤x.next) (h1:x.next≤65535) (hl:x.Al.length≤1000000) (hs:∀s∈x.Al,s.Dg.size≤8) :
  Fn prog 385 [v] [.isv Bg v x F] [] (fun (s:Adh)=>s.y=Qd x∧s.es=Sm x)
   (fun s=>.tuple #[.agg #[.int .i64 s.y.next,.slice s.a s.y.Al.length s.c],.slice s.ae s.es.length s.ce]) (fun s=>[.isv Bg (.agg #[.int .i64 s.y.next,.slice s.a s.y.Al.length s.c]) s.y s.F,.ow A8 9 (.slice s.ae s.es.length s.ce) s.es s.Fe]):=by
 refine enter func385 rfl ntmps385 fun w0=>?_;refine B9 ?_;rintro a1 c1 F1 rfl l1;unfold maxLen at l1;refine go ?_;intros;refine Ew [2,3] [0] (fun s:CpS=>[(4,Il s.g 0 0)]) (fun s=>[.row s.g 153 0 [] [.int .i64 x.next,.slice s.a x.Al.length s.c] [],.ow Bz 272 (.slice s.a x.Al.length s.c) x.Al s.F]) (fun _=>True) ?_ fun s _=>?_
 ·refine As [0,1] [8] ?_;refine Dq 0 1 3 4 ?_;refine dM 2 7 ?_ ?_
  ·apply Mp;rfl;intro _;refine C7 Bz ?_;refine dk ?_;refine dM 5 7 ?_ ?_
   ·exact AV
   ·apply Cr;rfl;intro _;exact AE
  ·exact CX
 obtain ⟨gg,a2,c2,F2⟩:=s;refine A4 (xs:=x.Al) fun F3=>?_;refine go ?_;intros;refine C7 A8 ?_;refine Cd [2,3,4] (fun s:Adh=>[(5,.slice s.ae s.es.length s.ce)]) (fun s=>[.row gg 153 0 [] [.int .i64 s.y.next,.slice s.a s.y.Al.length s.c] [],.sl Bz (.slice s.a s.y.Al.length s.c) s.y.Al s.F,.ow A8 9 (.slice s.ae s.es.length s.ce) s.es s.Fe]) (Bgc x) (fun s=>s.y.Al.length) ⟨[],x,a2,c2,F3,_,0,_⟩ ⟨h0,h1,hs,FI,rfl,rfl⟩ fun s hC=>?_;obtain ⟨n0,n1,hit,hln,hw,he⟩:=hC;have stop:Jv s.y.Al 0=false→s.y=Qd x∧s.es=Sm x:=fun h=>⟨by rw [hw,(Acn h).1],by rw [he,(Acn h).2,List.append_nil]⟩;refine go ?_
 refine Dy rfl rfl (fun h4=>?_) (fun h4=>?_)
 rotate_left
 ·refine go ?_;have hv:Jv s.y.Al 0=false:=Sf FH;refine By s.y ?_;refine ret s (stop hv) rfl
 refine Qf 0 ?_;rintro hi b o e s1;rw [e];refine go ?_;cases g1:s.y.Al[0].Vr
 ·refine go ?_;rw [←e];refine By s.y ?_;refine ret s (stop (by rw [Lz hi,g1])) rfl
 have hv:Jv s.y.Al 0=true:=by rw [Lz hi,g1]
 have hz:=hit _ (List.getElem_mem hi);have h43:(⟨#[43]⟩:ByteArray).size=1:=rfl;have hpl:(⟨#[43]⟩++s.y.Al[0].Dg:ByteArray)=Gn s.y.Al:=(Ael hi g1).symm;have hmx:(Gn s.y.Al).size≤maxLen:=by have:=Tm hit;unfold maxLen;omega
 have hll:s.es.length+1≤1000000:=FH
 refine go ?_;intros;rw [hpl];apply wO;refine Ps (U1 _ hmx) Dx fun a' c' F'=>?_;refine go ?_;refine As [1,2] [7] ?_;refine Dq 0 1 3 4 ?_;refine Asf 5 1 fun a5 c5 F5=>?_;refine dN 2 ?_;refine oC ?_;refine ce (fun w s=>Lu _ _ _ FH FH) ?_;refine dk ?_;refine dt 6 ?_;refine dN 7 ?_;refine oS ?_;refine Tf ?_;refine dd ?_;refine go ?_;refine Cg ⟨s.es++[Gn s.y.Al],Z7 s.y,a5,c5,F5,a',c',F'⟩ ⟨(J4 _ _).1,(J4 _ _).2,fun z hz=>hit z (List.mem_of_mem_drop hz),IP,by rw [hw,(Anp hv).1],by rw [he,(Anp hv).2];simp⟩ IP
theorem Asu (x:Aj) (n:Int) (v:Value) (F:List Nat) (h0:0≤x.next) (h1:x.next≤65535) (h2:0≤n) (h3:n≤65535) (hl:x.Al.length≤8) :
  FV 387 [v,.int .i64 n] [.isv Bg v x F] (.bool (N2 x n)):=by
 have hg:=Ly x.next n
 have hh:¬gp x.next n < 8→I4 x n=false:=fun h=>Sf FH
 refine enter func387 rfl ntmps387 fun w0=>?_;refine B9 ?_;rintro a1 c1 F1 rfl l1;refine go ?_;intros;refine ce (fun w s=>Rb _ _ _ FH FH) ?_;cases g1:Up n x.next
 ·refine go ?_;refine ce (fun w s=>Jq _ _ _ FH FH) ?_;refine go ?_;refine ret () trivial ?_;unfold N2 Hj;rw [g1];by_cases h8:gp x.next n < 8
  ·simp [h8,Us]
  ·simp [h8,hh h8,Us]
 ·refine go ?_;refine ret () trivial ?_;simp [N2,Hj,g1,Us]
theorem Aw0 (x:Aj) (n:Int) (Dg:ByteArray) (v:Value) (F:List Nat) (h0:0≤x.next) (h1:x.next≤65535) (h2:0≤n) (h3:n≤65535) (hl:x.Al.length≤8) (hs:∀s∈x.Al,s.Dg.size≤8) (hi:Dg.size≤8) (hok:N2 x n=true) :
  Fn prog 388 [v,.int .i64 n,.string Dg] [.isv Bg v x F] [] (fun (s:Adh)=>s.y=Mq x n Dg∧s.es=Mf x n Dg)
   (fun s=>.tuple #[.agg #[.int .i64 s.y.next,.slice s.a s.y.Al.length s.c],.slice s.ae s.es.length s.ce]) (fun s=>[.isv Bg (.agg #[.int .i64 s.y.next,.slice s.a s.y.Al.length s.c]) s.y s.F,.ow A8 9 (.slice s.ae s.es.length s.ce) s.es s.Fe]):=by
 have hg:=Ly x.next n
 refine enter func388 rfl ntmps388 fun w0=>?_;refine B9 ?_;rintro a1 c1 F1 rfl l1;refine go ?_;intros;refine ce (fun w s=>Jq _ _ _ FH FH) ?_;obtain ⟨k,hk⟩:∃k:Nat,gp x.next n=k:=⟨(gp x.next n).toNat,FH⟩
 rw [hk];refine go ?_;refine Ew [1,2,3,6,7,8] [0,1,2] (fun s:CpS=>[(9,Il s.g 0 0)]) (fun s=>[.row s.g 153 0 [] [.int .i64 x.next,.slice s.a x.Al.length s.c] [],.ow Bz 272 (.slice s.a x.Al.length s.c) x.Al s.F]) (fun _=>True) ?_ fun s _=>?_
 ·refine As [0,1] [8] ?_;refine Dq 0 1 3 4 ?_;refine dM 2 7 ?_ ?_
  ·apply Mp;rfl;intro _;refine C7 Bz ?_;refine dk ?_;refine dM 5 7 ?_ ?_
   ·exact AV
   ·apply Cr;rfl;intro _;exact AE
  ·exact CX
 obtain ⟨gg,a2,c2,F2⟩:=s;refine go ?_;refine ce (fun w s=>Rb _ _ _ FH FH) ?_;cases g1:Up n x.next
 rotate_left
 ·refine go ?_;intros;refine C7 A8 ?_;refine A4 (xs:=x.Al) fun F3=>?_;refine By x ?_;refine ret ⟨[],x,a2,c2,F3,_,0,_⟩ ⟨by simp [Mq,Hj,g1],by simp [Mf,Hj,g1]⟩ rfl
 refine go ?_;refine Dy rfl rfl (fun h4=>?_) (fun h4=>?_)
 ·refine Qf k ?_;rintro hi2 b2 o2 e s1;cases e;refine go ?_;cases g4:x.Al[k].Vr
  rotate_left
  ·have hb:I4 x n=true:=by unfold I4;rw [hk,Int.toNat_natCast,Lz hi2];exact g4
   refine go ?_;intros;refine C7 A8 ?_;refine A4 (xs:=x.Al) fun F3=>?_;refine By x ?_;refine ret ⟨[],x,a2,c2,F3,_,0,_⟩ ⟨by simp [Mq,Hj,hb],by simp [Mf,Hj,hb]⟩ rfl
  have hpad:I4 x n=false:=by unfold I4;rw [hk,Int.toNat_natCast,Lz hi2];exact g4
  have hno:Hj x n=false:=by unfold Hj;rw [g1,hpad];rfl
  have h8:gp x.next n < 8:=by unfold N2 at hok;rw [hno] at hok;simpa using hok
  have hW:Mq x n Dg=Qd (Z5 x n Dg):=by unfold Mq;rw [hno,decide_eq_true h8];rfl
  have hE:Mf x n Dg=Sm (Z5 x n Dg):=by unfold Mf;rw [hno,decide_eq_true h8];rfl
  unfold Z5 at hW hE;rw [hk,Int.toNat_natCast] at hW hE;refine go ?_;refine Cd [2,6,7,8,9] (fun s:Bgx=>[]) (fun s=>[.row gg 153 0 [] [.int .i64 x.next,.slice s.a (Mz x s.j).length s.c] [],.ow Bz 272 (.slice s.a (Mz x s.j).length s.c) (Mz x s.j) s.F]) (fun s=>s.j≤k+1 - x.Al.length) (fun s=>k+1 - x.Al.length - s.j) ⟨0,a2,c2,F2⟩ (Nat.zero_le _) (fun s hj=>?_) (hH:=II);have hpl:=Pk x s.j;refine go ?_;refine A1 rfl (fun h9=>?_) (fun h9=>?_)
  ·refine go ?_;intros;apply wO;refine Ps (Ais zsl FK) Iq fun a' c' F'=>?_;refine go ?_;have e:Mz x s.j++[zsl]=Mz x (s.j+1):=LM
   exact CW
  have hjk:s.j=k+1 - x.Al.length:=FH
  refine go ?_;have hkl:k < (Mz x s.j).length:=FH
  refine Am3 k ?_;rintro hi2 g2 A2 B2 e eF hs2 hh;rw [e];refine Og ?_;intros;refine O5 (⟨true,Dg⟩:Gb) hh (fun w=>⟨rfl,KD,rfl⟩) ?_;have hsl:(Mz x s.j).length=((Mz x s.j).set k ⟨true,Dg⟩).length:=by rw [List.length_set]
  rw [hsl];have hpu:(Mz x s.j).set k ⟨true,Dg⟩=Mt x k ⟨true,Dg⟩:=by unfold Mt;rw [hjk]
  rw [hpu];have hpl2:(Mt x k ⟨true,Dg⟩).length≤1000:=KB
  exact BE
 ·have hpad:I4 x n=false:=Sf FH;have hno:Hj x n=false:=by unfold Hj;rw [g1,hpad];rfl
  have h8:gp x.next n < 8:=by unfold N2 at hok;rw [hno] at hok;simpa using hok
  have hW:Mq x n Dg=Qd (Z5 x n Dg):=by unfold Mq;rw [hno,decide_eq_true h8];rfl
  have hE:Mf x n Dg=Sm (Z5 x n Dg):=by unfold Mf;rw [hno,decide_eq_true h8];rfl
  unfold Z5 at hW hE;rw [hk,Int.toNat_natCast] at hW hE;refine go ?_;refine Cd [2,6,7,8,9] (fun s:Bgx=>[]) (fun s=>[.row gg 153 0 [] [.int .i64 x.next,.slice s.a (Mz x s.j).length s.c] [],.ow Bz 272 (.slice s.a (Mz x s.j).length s.c) (Mz x s.j) s.F]) (fun s=>s.j≤k+1 - x.Al.length) (fun s=>k+1 - x.Al.length - s.j) ⟨0,a2,c2,F2⟩ (Nat.zero_le _) (fun s hj=>?_) (hH:=II);have hpl:=Pk x s.j;refine go ?_;refine A1 rfl (fun h9=>?_) (fun h9=>?_)
  ·refine go ?_;intros;apply wO;refine Ps (Ais zsl FK) Iq fun a' c' F'=>?_;refine go ?_;have e:Mz x s.j++[zsl]=Mz x (s.j+1):=LM
   exact CW
  have hjk:s.j=k+1 - x.Al.length:=FH
  refine go ?_;have hkl:k < (Mz x s.j).length:=FH
  refine Am3 k ?_;rintro hi2 g2 A2 B2 e eF hs2 hh;rw [e];refine Og ?_;intros;refine O5 (⟨true,Dg⟩:Gb) hh (fun w=>⟨rfl,KD,rfl⟩) ?_;have hsl:(Mz x s.j).length=((Mz x s.j).set k ⟨true,Dg⟩).length:=by rw [List.length_set]
  rw [hsl];have hpu:(Mz x s.j).set k ⟨true,Dg⟩=Mt x k ⟨true,Dg⟩:=by unfold Mt;rw [hjk]
  rw [hpu];have hpl2:(Mt x k ⟨true,Dg⟩).length≤1000:=KB
  exact BE
theorem Uy (x:Aj) (n:Int) (v:Value) (F:List Nat) (h0:0≤x.next) (h1:x.next≤65535) (h2:0≤n) (h3:n≤65535) (hl:x.Al.length≤8) (hs:∀s∈x.Al,s.Dg.size≤8) :
  Fn prog 344 [v,.int .i64 n] [.isv Bg v x F] [] (fun (s:Adh)=>s.y=Qd (I5 (Eu x.next n) x)∧s.es=O7 (Eu x.next n) x++Sm (I5 (Eu x.next n) x))
   (fun s=>.tuple #[.agg #[.int .i64 s.y.next,.slice s.a s.y.Al.length s.c],.slice s.ae s.es.length s.ce]) (fun s=>[.isv Bg (.agg #[.int .i64 s.y.next,.slice s.a s.y.Al.length s.c]) s.y s.F,.ow A8 9 (.slice s.ae s.es.length s.ce) s.es s.Fe]):=by
 have hgn:=Ama x.next n
 refine enter func344 rfl ntmps344 fun w0=>?_;refine B9 ?_;rintro a1 c1 F1 rfl l1;refine go ?_;intros;refine Ew [1,4,5] [0] (fun s:CpS=>[(6,Il s.g 0 0)]) (fun s=>[.row s.g 153 0 [] [.int .i64 x.next,.slice s.a x.Al.length s.c] [],.ow Bz 272 (.slice s.a x.Al.length s.c) x.Al s.F]) (fun _=>True) ?_ fun s _=>?_
 ·refine As [0,1] [8] ?_;refine Dq 0 1 3 4 ?_;refine dM 2 7 ?_ ?_
  ·apply Mp;rfl;intro _;refine C7 Bz ?_;refine dk ?_;refine dM 5 7 ?_ ?_
   ·exact AV
   ·apply Cr;rfl;intro _;exact AE
  ·exact CX
 obtain ⟨gg,a2,c2,F2⟩:=s;refine A4 (xs:=x.Al) fun F3=>?_;refine go ?_;intros;refine C7 A8 ?_;refine Cd [1,4,5,6] (fun s:Adh=>[(7,.slice s.ae s.es.length s.ce)]) (fun s=>[.row gg 153 0 [] [.int .i64 s.y.next,.slice s.a s.y.Al.length s.c] [],.sl Bz (.slice s.a s.y.Al.length s.c) s.y.Al s.F,.ow A8 9 (.slice s.ae s.es.length s.ce) s.es s.Fe]) (Ay9 x n) (fun s=>Eu s.y.next n) ⟨[],x,a2,c2,F3,_,0,_⟩ ⟨h0,h1,hs,Nat.le_refl _,FI,rfl,rfl⟩ fun s hC=>?_;obtain ⟨n0,n1,hit,hln,hle,hw,he⟩:=hC;refine go ?_;refine ce (fun w s=>Rb _ _ _ FH FH) ?_;cases hb:Up s.y.next n
 ·refine Og ?_;intros;refine By s.y ?_;refine go ?_;rw [Amb hb] at hw he;refine Ca (Wy s.y _ _ n0 n1 FH hit) fun z hz=>?_;refine go ?_;intros;have hr:=Aqw s.y;have hzl:z.es.length≤s.y.Al.length:=by rw [hz.2];exact hr
  refine A4 (xs:=z.es) fun F'=>?_;refine As [1] [] ?_;refine Ec 0 1 ?_;refine dt 2 ?_;refine dN 3 ?_;refine Pf Dx Gz fun a' c' F2=>?_;refine dk ?_;refine dN 4 ?_;refine oS ?_;refine dk ?_;refine dt 5 ?_;refine dd ?_;exact EP
 have hst:=Ai7 hb;have hmx:(Gn s.y.Al).size≤maxLen:=by have:=Tm hit;unfold maxLen;omega
 refine go ?_;intros;refine C7 Bz ?_;refine A1 rfl (fun h4=>?_) (fun h4=>?_)
 ·refine Qf 0 ?_;rintro hi b o e s1;rw [e];refine go ?_;cases g1:s.y.Al[0].Vr
  ·have hpl1:(⟨#[45]⟩:ByteArray)=Gn s.y.Al:=(Al7 hi g1).symm;refine go ?_;apply wO;refine sld 1 fun a5 c5 F5=>?_;refine go ?_;intros;rw [hpl1];apply wO;refine Ps (U1 _ hmx) Dx fun a' c' F'=>?_;refine go ?_;refine ce (fun w s=>Lu _ _ _ FH FH) ?_;refine go ?_;exact BW
  ·have hz:=hit _ (List.getElem_mem hi);have h43:(⟨#[43]⟩:ByteArray).size=1:=rfl;have hpl2:(⟨#[43]⟩++s.y.Al[0].Dg:ByteArray)=Gn s.y.Al:=(Ael hi g1).symm;refine go ?_;apply wO;refine sld 1 fun a5 c5 F5=>?_;refine go ?_;intros;rw [hpl2];apply wO;refine Ps (U1 _ hmx) Dx fun a' c' F'=>?_;refine go ?_;refine ce (fun w s=>Lu _ _ _ FH FH) ?_;refine go ?_
   exact BW
 ·have hnil:s.y.Al=[]:=List.eq_nil_of_length_eq_zero FH;have hpl3:(⟨#[45]⟩:ByteArray)=Gn s.y.Al:=by rw [hnil];rfl
  have hd:([]:List Gb)=s.y.Al.drop 1:=by rw [hnil];rfl
  ·refine go ?_;intros;refine A4 (E:=Bz) (xs:=[]) fun F6=>?_;rw [show (Value.slice (some _) 0 0:Value)=Value.slice _ ([]:List Gb).length 0 from rfl];rw [hpl3];apply wO;refine Ps (U1 _ hmx) Dx fun a' c' F'=>?_;refine go ?_;refine ce (fun w s=>Lu _ _ _ FH FH) ?_;refine go ?_;rw [hd];refine Cg ⟨s.es++[Gn s.y.Al],Z7 s.y,_,0,F6,a',c',F'⟩ ⟨(J4 _ _).1,(J4 _ _).2,fun z hz=>hit z (List.mem_of_mem_drop hz),IP,IP,by rw [hw,hst];rfl,by rw [he,hst];simp [O7,Z7]⟩ (by show Eu (Cf s.y.next 1) n < _;omega)
end Go.Proofs.YtcmighgaiacgoaaGreatDoor
namespace Go.Proofs.YtcmighgaiacgoaaGreatDoor

open Go.RowKit
end Go.Proofs.YtcmighgaiacgoaaGreatDoor
namespace Go.Proofs.YtcmighgaiacgoaaGreatDoor
open Go.RowKit
theorem Adw (x:Aj) (n:Int) (v:Value) (F:List Nat) (h0:0≤x.next) (h1:x.next≤65535) (h2:0≤n) (h3:n≤65535) :
  FV 219 [v,.int .i64 n] [.isv Bg v x F] (.bool (Hj x n)):=by
 have hg:=Ly x.next n
 refine enter func219 rfl ntmps219 fun w0=>?_;refine B9 ?_;rintro a1 c1 F1 rfl l1;refine go ?_;intros;refine ce (fun w s=>Jq _ _ _ FH FH) ?_;obtain ⟨k,hk⟩:∃k:Nat,gp x.next n=k:=⟨(gp x.next n).toNat,FH⟩
 have hh:I4 x n=Jv x.Al k:=by unfold I4;rw [hk,Int.toNat_natCast]
 rw [hk];refine go ?_;refine ce (fun w s=>Rb _ _ _ FH FH) ?_;cases g1:Up n x.next
 ·refine go ?_;refine Dy rfl rfl (fun h4=>?_) (fun h4=>?_)
  ·refine Qf (xs:=x.Al) k ?_;rintro hi2 b2 o2 e s1;rw [e];refine go ?_;refine ret () trivial ?_;simp [Hj,g1,hh,Lz hi2,Us]
  ·refine go ?_;refine ret () trivial ?_;simp [Hj,g1,hh,Sf (show x.Al.length≤k by omega),Us]
 ·refine go ?_;refine ret () trivial ?_;simp [Hj,g1,Us]
theorem Aot (n:Int) (j:Nat):Cf (Cf n 1) j=Cf n ((j+1:Nat):Int):=by unfold Cf;omega
theorem Tq {n:Int} (h0:0≤n) (h1:n≤65535):Cf n ((0:Nat):Int)=n:=by unfold Cf;omega
theorem Acm:∀(l:List Gb) (n:Int),0≤n→n≤65535→(rel n l).1=Cf n ((rel n l).2.2.length:Nat)
 | [],n,h0,h1=>(Tq h0 h1).symm
 | s::r,n,h0,h1=>by
  have ih:=Acm r (Cf n 1) (J4 _ _).1 (J4 _ _).2;unfold rel
  split
  ·dsimp only;rw [ih,Aot,List.length_cons]
  ·exact (Tq h0 h1).symm
theorem Ala:∀(k:Nat) (x:Aj),0≤x.next→x.next≤65535→(I5 k x).next=Cf x.next (k:Nat)∧0≤(I5 k x).next∧(I5 k x).next≤65535
 | 0,x,h0,h1=>⟨(Tq h0 h1).symm,h0,h1⟩
 | k+1,x,h0,h1=>by
  obtain ⟨a,b,c⟩:=Ala k (Z7 x) (J4 _ _).1 (J4 _ _).2;unfold I5;exact ⟨by rw [a];show Cf (Cf x.next 1) k=_;rw [Aot],b,c⟩
theorem Agf (n:Int) (i j:Nat):Cf (Cf n i) j=Cf n ((i+j:Nat):Int):=by unfold Cf;omega
theorem Ae4 (k:Nat) (x:Aj) (h0:0≤x.next) (h1:x.next≤65535):(Qd (I5 k x)).next=Cf x.next ((O7 k x++Sm (I5 k x)).length:Nat):=by
 obtain ⟨a,b,c⟩:=Ala k x h0 h1;have d:(Qd (I5 k x)).next=Cf (I5 k x).next ((Sm (I5 k x)).length:Nat):=Acm (I5 k x).Al (I5 k x).next b c
 have e:∀(k:Nat) (x:Aj),(O7 k x).length=k:=by
  intro k
  induction k with
  | zero=>intro x;rfl
  | succ k ih=>intro x;unfold O7;rw [List.length_cons,ih]
 rw [d,a,Agf,List.length_append,e]
theorem Bhf (n:Int) (j:Nat) (hj:j≤65535):gp n (Cf n j)=j:=by unfold gp Cf;omega
theorem Yx:∀(l:List Gb) (n:Int),(rel n l).2.1=l.drop (rel n l).2.2.length∧Jv (rel n l).2.1 0=false
 | [],n=>⟨rfl,rfl⟩
 | s::r,n=>by
  have ih:=Yx r (Cf n 1);unfold rel
  split
  ·dsimp only;rw [List.length_cons,List.drop_succ_cons];exact ih
  ·rename_i h;exact ⟨rfl,by simpa [Jv] using h⟩
theorem Ua:∀(k:Nat) (x:Aj),(I5 k x).Al=x.Al.drop k
 | 0,_=>rfl
 | k+1,x=>by unfold I5;rw [Ua k (Z7 x)];simp [Z7,Nat.add_comm]
theorem Wx (l:List Gb) (m i:Nat):Jv (l.drop m) i=Jv l (m+i):=by unfold Jv;rw [List.getElem?_drop]
theorem Ae3 (k:Nat) (x:Aj) (hg:Cu x=true):Cu (Qd (I5 k x))=true:=by
 have g:=Tg hg;unfold Cu at hg;simp only [Bool.and_eq_true,decide_eq_true_eq] at hg;obtain ⟨⟨⟨h1,h2⟩,h3⟩,h4⟩:=hg;obtain ⟨d1,d2⟩:=Yx (I5 k x).Al (I5 k x).next
 rw [Ua,List.drop_drop] at d1;have hs:(Qd (I5 k x)).Al=x.Al.drop (k+(rel (I5 k x).next (x.Al.drop k)).2.2.length):=by
  unfold Qd;dsimp only;rw [Ua,d1]
 have hn:=Ae4 k x g.n0 g.n1;generalize k+(rel (I5 k x).next (x.Al.drop k)).2.2.length=m at hs;have h0:Jv (Qd (I5 k x)).Al 0=false:=d2;rw [hs] at h0;have e1:B8 (Qd (I5 k x)).next=true:=by rw [hn];exact Wo _ _
 have e2:(x.Al.drop m).all Hn=true:=List.all_eq_true.2 fun z hz=>List.all_eq_true.1 h3 z (List.mem_of_mem_drop hz);have e3:Xz (x.Al.drop m)=true:=by
  unfold Xz;by_cases hz:(x.Al.drop m).length=0
  ·rw [decide_eq_true hz];rfl
  ·rw [decide_eq_false hz,h0,Wx];unfold Xz at h4;rw [List.length_drop] at hz ⊢;rw [decide_eq_false (show ¬x.Al.length=0 by omega)] at h4;simp only [Bool.false_or,Bool.and_eq_true] at h4;rw [show m+(x.Al.length - m - 1)=x.Al.length - 1 by omega,h4.2];rfl
 unfold Cu;rw [e1,hs,e2,e3,decide_eq_true FO];rfl
theorem Asq {x:Aj} (hg:Cu x=true):Jv x.Al 0=false:=by
 unfold Cu Xz at hg;simp only [Bool.and_eq_true,Bool.or_eq_true,decide_eq_true_eq,Bool.not_eq_true'] at hg;rcases hg.2 with h|h
 ·exact Sf FH
 ·exact h.1
theorem Avc (x:Aj):(Sm x).length≤x.Al.length:=by
 unfold Sm;have:∀(l:List Gb) n,(rel n l).2.2.length≤l.length:=by
  intro l
  induction l with
  | nil=>intro n;exact Nat.le_refl _
  | cons s r ih =>
   intro n;unfold rel
   split
   ·dsimp only;rw [List.length_cons,List.length_cons];exact Nat.succ_le_succ (ih _)
   ·exact Nat.zero_le _
 exact this _ _
theorem Alb (l:List Gb) (k i:Nat) (s:Gb) (hk:k < l.length):Jv (l.set k s) i=if i=k then s.Vr else Jv l i:=by
 unfold Jv;rw [List.getElem?_set];by_cases h:k=i
 ·subst h;simp [hk]
 ·rw [if_neg h,if_neg (fun e=>h e.symm)]
theorem Aqq (x:Aj) (k:Nat) (s:Gb):(Mt x k s).length=max x.Al.length (k+1):=by
 unfold Mt;rw [List.length_set,Pk];omega
theorem Au9 (x:Aj) (k:Nat) (s:Gb):Jv (Mt x k s) k=s.Vr:=by
 unfold Mt;rw [Alb _ _ _ _ (by rw [Pk];omega),if_pos rfl]
theorem Bbo (x:Aj) (k:Nat) (s:Gb):(Mt x k s)[k]?=some s:=by
 unfold Mt;rw [List.getElem?_set_self (by rw [Pk];omega)]
theorem Bfa {x:Aj} {k:Nat} {s:Gb} (hx:x.Al.all Hn=true) (hs:Hn s=true):(Mt x k s).all Hn=true:=by
 rw [List.all_eq_true] at hx ⊢;intro z hz;unfold Mt at hz;rcases List.mem_or_eq_of_mem_set hz with h|rfl
 ·unfold Mz at h;rcases List.mem_append.1 h with h|h
  ·exact hx z h
  ·rw [(List.mem_replicate.1 h).2];decide
 ·exact hs
theorem Ax2 {x:Aj} {k:Nat} {s:Gb} (hx:Xz x.Al=true) (hs:s.Vr=true):Jv (Mt x k s) ((Mt x k s).length - 1)=true:=by
 rw [Aqq];by_cases h:x.Al.length≤k+1
 ·rw [show max x.Al.length (k+1) - 1=k by omega,Au9];exact hs
 ·unfold Mt;rw [Alb _ _ _ _ (by rw [Pk];omega),if_neg FH];unfold Xz at hx;rw [decide_eq_false FH] at hx;simp only [Bool.false_or,Bool.and_eq_true] at hx;rw [show max x.Al.length (k+1) - 1=x.Al.length - 1 by omega];unfold Mz;rw [show k+1 - x.Al.length=0 by omega];simpa using hx.2
theorem Bbu {n:Int} {L:List Gb} (hn:B8 n=true) (ho:L.all Hn=true) (hl:L.length≤8) (he:Jv L (L.length - 1)=true∨L=[]):Cu (Qd ⟨n,L⟩)=true:=by
 obtain ⟨d1,d2⟩:=Yx L n;have hs:(Qd ⟨n,L⟩).Al=L.drop (rel n L).2.2.length:=d1;obtain ⟨p0,p1⟩:=Bc.1 hn;have hnx:(Qd ⟨n,L⟩).next=Cf n ((rel n L).2.2.length:Nat):=Acm L n p0 p1
 generalize (rel n L).2.2.length=m at hs hnx;have h0:Jv (Qd ⟨n,L⟩).Al 0=false:=d2;rw [hs] at h0;have e1:B8 (Qd ⟨n,L⟩).next=true:=by rw [hnx];exact Wo _ _
 have e2:(L.drop m).all Hn=true:=List.all_eq_true.2 fun z hz=>List.all_eq_true.1 ho z (List.mem_of_mem_drop hz);have e3:Xz (L.drop m)=true:=by
  unfold Xz;by_cases hz:(L.drop m).length=0
  ·rw [decide_eq_true hz];rfl
  ·rw [decide_eq_false hz,h0,Wx];rw [List.length_drop] at hz ⊢;rcases he with he|he
   ·rw [show m+(L.length - m - 1)=L.length - 1 by omega,he];rfl
   ·subst he;simp at hz
 unfold Cu;rw [e1,hs,e2,e3,decide_eq_true FO];rfl
theorem Ba5 (x:Aj) (n:Int) (s:ByteArray):(Jy x n s).2.2=true→Cu x=true∧B8 n=true∧Cu (Jy x n s).1=true∧gp x.next (Jy x n s).1.next=((Jy x n s).2.1.length:Nat)∧Hj (Jy x n s).1 n=true∧(n=x.next→∃r,(Jy x n s).2.1=Aij s::r)∧(Jy x n s).2.1.length≤8∧s.size≤8:=by
 unfold Jy
 split
 rotate_left
 ·intro h;cases h
 rename_i h;intro _;unfold W9 at h;simp only [Bool.and_eq_true] at h;obtain ⟨⟨⟨h1,h2⟩,h3⟩,h4⟩:=h;have g:=Tg h1;have p0:=g.n0;have p1:=g.n1;have pl:=g.l;obtain ⟨n0,n1⟩:=Bc.1 h2;refine ⟨h1,h2,?_⟩;dsimp only;cases ht:Hj x n with
 | true =>
  have eW:Mq x n s=x:=by unfold Mq;rw [ht];rfl
  have eE:Mf x n s=[]:=by unfold Mf;rw [ht];rfl
  rw [eW,eE];refine ⟨h1,?_,ht,fun e=>?_,FI,Vv h3⟩
  ·unfold gp;simp
  ·subst e;exfalso;unfold Hj at ht;rw [Bool.or_eq_true] at ht;rcases ht with h|h
   ·unfold Up gp at h;simp at h;exact absurd h FK
   ·unfold I4 at h;rw [show gp x.next x.next=0 by unfold gp;omega] at h;rw [show (0:Int).toNat=0 from rfl,Asq h1] at h;cases h
 | false =>
  have hk8:gp x.next n < 8:=by unfold N2 at h4;rw [ht] at h4;simpa using h4
  have hgb:=Ly x.next n
  obtain ⟨k,hk⟩:∃k:Nat,gp x.next n=k:=⟨(gp x.next n).toNat,FH⟩
  have eW:Mq x n s=Qd ⟨x.next,Mt x k ⟨true,s⟩⟩:=by unfold Mq;rw [ht,decide_eq_true hk8];unfold Z5;rw [hk,Int.toNat_natCast];rfl
  have eE:Mf x n s=(rel x.next (Mt x k ⟨true,s⟩)).2.2:=by unfold Mf;rw [ht,decide_eq_true hk8];unfold Z5;rw [hk,Int.toNat_natCast];rfl
  have hx:x.Al.all Hn=true∧Xz x.Al=true:=by
   unfold Cu at h1;simp only [Bool.and_eq_true] at h1;exact ⟨h1.1.2,h1.2⟩
  have hos:Hn ⟨true,s⟩=true:=by unfold Hn;rw [h3];rfl
  have hL:=Aqq x k ⟨true,s⟩;have hat:=Au9 x k ⟨true,s⟩;have hget:=Bbo x k ⟨true,s⟩;have ho:=Bfa (k:=k) hx.1 hos;have hla:=Ax2 (k:=k) (s:=⟨true,s⟩) hx.2 rfl;rw [eW,eE];generalize Mt x k ⟨true,s⟩=L at *;have hl8:L.length≤8:=FH
  have hrl:(rel x.next L).2.2.length≤L.length:=by
   have:=Avc ⟨x.next,L⟩;unfold Sm at this;dsimp only at this;omega
  obtain ⟨d1,d2⟩:=Yx L x.next
  have hnx:=Acm L x.next p0 p1
  have hn:n=Cf x.next (k:Nat):=by rw [←hk];unfold gp Cf;omega
  refine ⟨Bbu (Bc.2 ⟨p0,p1⟩) ho hl8 (.inl hla),?_,?_,?_,FH,Vv h3⟩
  ·show gp x.next (rel x.next L).1=_
   rw [hnx];exact Bhf _ _ FH
  ·unfold Hj;show (Up n (rel x.next L).1 || Jv (rel x.next L).2.1 (gp (rel x.next L).1 n).toNat)=true;rw [hnx,d1];generalize (rel x.next L).2.2.length=m at *;by_cases hkm:k < m
   ·rw [show Up n (Cf x.next (m:Nat))=true by rw [hn];unfold Up Ga gp Cf;rw [Bool.and_eq_true];simp only [decide_eq_true_eq];omega];rfl
   ·rw [show gp (Cf x.next (m:Nat)) n=((k - m:Nat):Int) by rw [hn];unfold gp Cf;omega,Int.toNat_natCast,Wx,show m+(k - m)=k by omega,hat];simp
  ·intro e;have hk0:k=0:=by rw [e] at hk;unfold gp at hk;omega
   subst hk0;cases L with
   | nil=>simp at hget
   | cons z r =>
    simp at hget;subst hget;exact ⟨(rel (Cf x.next 1) r).2.2,by simp [rel]⟩
theorem Air {s:ByteArray} (h:s.size≤maxLen) (w:World):Cy A8 w [.string s] [s] []:=⟨_,[],[],[],FI,FI,⟨rfl,h,rfl⟩,rfl,rfl⟩
theorem Xi {c:Cx} {fr:Fr} {H:List Pc} {Φ:Gl} {α:Type} {E:Bn α} {v:Value} {xs:List α} {F:List Nat} (h:∀a cp,v=.slice a xs.length cp→xs.length≤cp→cp≤9223372036854775807→T c fr H Φ) (hm:.sl E v xs F∈H:=by exact A9):T c fr H Φ:=.mk fun ac w s g=>by
 obtain ⟨-,hs⟩:=s.get hm;obtain ⟨a,cp,rfl⟩:=hs.slice;obtain ⟨-,h2,h3⟩:=hs.caps;exact (h a cp rfl h2 (by unfold maxLen at h3;omega)).h ac w s g
theorem Le {c:Cx} {fr:Fr} {H:List Pc} {Φ:Gl} {α:Type} {E:Bn α} {t g:Nat} {cs:List Value} {xs:List α} {S:List Pc} (hfl:∀w,Cy E w cs xs []) (h:T c fr (.ow E t (.slice (some ⟨g,0,none⟩) xs.length xs.length) xs [g]::S) Φ) (hl:xs.length≤1048576) (hp:Cn H (.row g t 0 [] cs []) S:=by exact Da):T c fr H Φ:=.mk fun a w s g'=>by
 exact BO
theorem Beg {P:Program} {f:FuncId} {args:List Value} {A:List Pc} {σ:Type} {C:σ→Prop} {v:σ→Value} {N:σ→Pc}
  (h:∀w,Od A w→Calls P f args.toArray w fun e w'=>∃s,C s∧e=.returned (v s)∧(N s).P w'∧(∀b∈(N s).F,w.heap.size≤b)∧Below w.heap.size w w'):Fn P f args A [] C v (fun s=>[N s]):=fun w hA _=>by
 refine (h w JW).mono ?_;rintro e w' ⟨s,hC,he,hN,hF,hB⟩;refine ⟨s,hC,he,El hN,⟨FI,trivial⟩,Dr.ofBelow hB,fun p hp b hb=>?_⟩;simp at hp;subst hp;exact .inl (hF b hb)
def So (t:Int) (k:Nat):List Int:=(List.range k).map fun i=>Cf t (i:Nat)
theorem Abj (t:Int) (k:Nat):So t (k+1)=So t k++[Cf t (k:Nat)]:=by unfold So;rw [List.range_succ,List.map_append];rfl
theorem Aen (t:Int) (k:Nat):(So t k).length=k:=by unfold So;simp
theorem Tl (n:Int) (w:World):Cy Bb w [.int .i64 n] [n] []:=⟨_,[],[],[],FI,FI,⟨rfl,rfl⟩,rfl,rfl⟩
structure SpS where
 k:Nat
 a:Option Addr
 c:Nat
 F:List Nat
theorem Bh4 (t:Int) (n:Nat) (t0:0≤t) (t1:t≤65535) (hn:n≤65536):Fn prog 423 [.int .i64 t,.int .i64 (n:Nat)] [] [] (fun (_:Option Addr × Nat × List Nat)=>True) (fun s=>.slice s.1 (So t n).length s.2.1) (fun s=>[.ow Bb 3 (.slice s.1 (So t n).length s.2.1) (So t n) s.2.2]):=by
 refine enter func423 rfl ntmps423 fun w0=>?_;refine go ?_;refine Db Bb 3 ?_;refine Cd [0,4,7] (fun s:SpS=>[(5,.slice s.a (So t s.k).length s.c),(8,.int .i64 (s.k:Nat))]) (fun s=>[.ow Bb 3 (.slice s.a (So t s.k).length s.c) (So t s.k) s.F]) (fun s=>s.k≤n) (fun s=>n - s.k) ⟨0,none,0,[]⟩ (Nat.zero_le _) fun s hs=>?_;obtain ⟨k,a,c,F⟩:=s;dsimp only at hs ⊢;have hl:=Aen t k;refine go ?_;refine A1 rfl (fun h1=>?_) (fun h1=>?_)
 ·refine go ?_;refine ce (fun w s=>Ta _ _ _ FH FH) ?_;refine go ?_;intros;apply wO;refine Ps (Tl _) C8 fun a2 c2 F2=>?_;refine go ?_;rw [←Abj];refine Cg ⟨k+1,a2,c2,F2⟩ (by show k+1≤n;omega) (by show n - (k+1) < n - k;omega)
 ·have hk:k=n:=FH
  subst hk;refine go ?_;refine ret (a,c,F) trivial rfl
section
variable {P:Program} {n:Nat} {fr:Fr} {H:List Pc} {ty:TypeId} {x y z:Operand}
theorem Ajo {t:TypeId} {s:ByteArray} {kd:IntKind} {i:Int} [hS:StrC P t] (hx:ev fr x=some (.string s)) (hy:ev fr y=some (.int kd i)) (h0:0≤i) (h1:i≤s.size):Yd P n fr H (.slice t x (some y) none none) ty (.string (s.extract i.toNat s.size)):=.mk fun a w d pos Cf g hA _=>by
 have h3:(Instr.sliceAt t (.string s) (some (.int kd i)) none none).run P w=.ok (.string (s.extract i.toNat s.size)) w:=by
  rw [run_sliceAt_string (h:=hS.u),run_slice_string_l (ht:=hS.u) (h0:=h0) (h1:=h1)]
 exact AT
theorem Biu {t:TypeId} {s:ByteArray} {kd:IntKind} {i:Int} [hS:StrC P t] (hx:ev fr x=some (.string s)) (hy:ev fr y=some (.int kd i)) (h0:0≤i) (h1:i≤s.size):Yd P n fr H (.slice t x none (some y) none) ty (.string (s.extract 0 i.toNat)):=.mk fun a w d pos Cf g hA _=>by
 have h3:(Instr.sliceAt t (.string s) none (some (.int kd i)) none).run P w=.ok (.string (s.extract 0 i.toNat)) w:=by
  rw [run_sliceAt_string (h:=hS.u),run_slice_string_h (ht:=hS.u) (h0:=h0) (h2:=h1)]
 exact AT
theorem Bit {t:TypeId} {s:ByteArray} {kd kd2:IntKind} {i j:Int} [hS:StrC P t] (hx:ev fr x=some (.string s)) (hy:ev fr y=some (.int kd i)) (hz:ev fr z=some (.int kd2 j)) (h0:0≤i) (h1:i≤j) (h2:j≤s.size):Yd P n fr H (.slice t x (some y) (some z) none) ty (.string (s.extract i.toNat j.toNat)):=.mk fun a w d pos Cf g hA _=>by
 have h3:(Instr.sliceAt t (.string s) (some (.int kd i)) (some (.int kd2 j)) none).run P w=.ok (.string (s.extract i.toNat j.toNat)) w:=by
  rw [run_sliceAt_string (h:=hS.u),run_slice_string (h:=hS.u) (h0:=h0) (h1:=h1) (h2:=h2)]
 exact EW
end
section
variable {c:Cx} {fr:Fr} {H:List Pc} {k:List It} {Φ:Gl} {ops:Array Oper} {rest:List Oper} {d:Nat} {o:Op} {ty:TypeId} {v u:Value} {x y:Operand}
theorem Axx {t e m b:Nat} {z:Value} [hS:SlC c.P t e m] [hE:ElT c.P e z m b] (k:Nat) {kl kc:IntKind} {cs:List Value} (hd:Nat.blt d c.n=true) (hx:ev fr x=some (.int kl (k:Nat))) (hy:ev fr y=some (.int kc (k:Nat))) (hcs:madeCells z.cells (k * m)=cs.toArray) (hb:b * k≤281474976710656) (h63:k≤9223372036854775807)
  (h:∀g,T c ((d,.slice (some ⟨g,0,none⟩) k k)::fr) (.row g e 0 [] cs []::H) Φ):On c fr H (some d) (.makeSlice t x y) ty Φ:=⟨fun _ _ _=>P4 fun Q a w s g=>by
 obtain ⟨i,hi,hiz⟩:=Option.map_eq_some_iff.1 hE.i;simp only [Prod.mk.injEq] at hiz;obtain ⟨i1,i2,i3⟩:=hiz
 have hb':(i.bytes:Int) * ((k:Nat):Int)≤281474976710656:=by rw [i3];have:((b * k:Nat):Int)≤281474976710656:=by omega
                                                            rwa [Int.natCast_mul] at this
 have hr:=run_make (P:=c.P) w t e i z hS.u hi i1 kl kc (k:Nat) (k:Nat) FH FH hb' FH;simp only [Int.toNat_natCast,i2,hcs] at hr;have e1:∀pos Cf gd,(execOp a.eval ⟨some d,.makeSlice t x y,ty,pos,Cf,gd⟩).run c.P w=.ok (.value (.slice (some ⟨w.heap.size,0,none⟩) k k)) (w.alloc (.cells cs.toArray e)):=by
  intro pos Cf gd;simp [execOp,g.ev hx,g.ev hy,hr]
 rw [e1];exact (h _).h _ _ (s.new e cs) (g.put hd)⟩
theorem Agn {fo:Operand} {f:Nat} {caps:List Value} {aS:List Operand} {ts:Array TypeId} {vs:List Value} (hd:Nat.blt d c.n=true) (hf:ev fr fo=some (.func (.func f) #[] caps.toArray)) (hb:Sb c.P f=true) (ha:Evs fr aS vs) (h:Cl c fr H d f (vs++caps) Φ):On c fr H (some d) (.call { callee:=.value fo,args:=aS.toArray,argTypes:=ts }) ty Φ:=⟨fun _ _ _=>P4 fun Q a w s g=>by
 have e:∀pos Cf gd,(execOp a.eval ⟨some d,.call { callee:=.value fo,args:=aS.toArray,argTypes:=ts },ty,pos,Cf,gd⟩).run c.P w=(callFunc f (vs++caps).toArray).run c.P w:=by
  intro pos Cf gd;simp [execOp,resolve,Deferred.ofValue,g.ev hf,invoke,g.evs ha]
 rw [e];obtain ⟨R,hc,hk⟩:=h.h w s;refine (Wq hb).upon hc fun e w' hR=>?_;obtain ⟨v,he,hv⟩:=hk e w' hR;exact ⟨v,he,hv _ (g.put hd)⟩⟩
theorem Avk {α:Type} {E:Bn α} {a:Option Addr} {n cp:Nat} {xs:List α} {F:List Nat} (k:Nat) (h:∀F',T c fr (.sl E (.slice a (xs.take k).length cp) (xs.take k) F'::H) Φ) (hk:k≤xs.length) (hm:.sl E (.slice a n cp) xs F∈H:=by exact A9):T c fr H Φ:=.mk fun ac w s g=>by
 obtain ⟨hz,hs⟩:=s.get hm;obtain ⟨F',hF,h2⟩:=hs.takeS k hk;have hl:(xs.take k).length=k:=by simp [Nat.min_eq_left hk]
 have h':=h F';rw [hl] at h';exact h'.h _ w (s.ro hm rfl rfl ⟨hz,h2⟩ hF) g
end
theorem Lt:∀(H:List Pc),Lv H H
 | []=>.nil
 | _::R=>.cons .here (Lt R)
theorem Cy.all {α:Type} {E:Bn α} {w:World} {cs:List Value} {xs:List α} (h:Cy E w cs xs []) (w':World):Cy E w' cs xs []:=h.frame FI
theorem Cy.cutL {α:Type} {E:Bn α} {w:World} {cs:List Value} {xs:List α} (h:Cy E w cs xs []) (i:Nat) (hi:i≤xs.length):Cy E w (cs.take (i * E.sz)) (xs.take i) []∧Cy E w (cs.drop (i * E.sz)) (xs.drop i) []:=by
 rw [←List.take_append_drop i xs] at h;obtain ⟨c1,c2,G1,G2,rfl,hG,h1,h2⟩:=h.split;obtain ⟨rfl,rfl⟩:=List.append_eq_nil_iff.1 hG.symm;have hl:=h1.len;rw [List.length_take,Nat.min_eq_left hi] at hl;rw [List.take_left' hl,List.drop_left' hl];exact ⟨h1,h2⟩
theorem Cy.insL {α:Type} {E:Bn α} {w:World} {cs c1:List Value} {xs:List α} {x:α} (h:Cy E w cs xs []) (h1:Cy E w c1 [x] []) (i:Nat) (hi:i≤xs.length):Cy E w (cs.take (i * E.sz)++c1++cs.drop (i * E.sz)) (xs.take i++x::xs.drop i) []:=by
 obtain ⟨ha,hb⟩:=h.cutL i hi;have:=(ha.append h1).append hb;exact EM
section
variable {P:Program} {n:Nat} {fr:Fr} {H:List Pc} {ty:TypeId} {x y z:Operand}
theorem Lh {t e m i g o len cp:Nat} {kd:IntKind} {q:Int} [hS:SlC P t e m] (hx:ev fr x=some (.slice (some ⟨g,o,none⟩) len cp)) (hy:ev fr y=some (.int kd q)) (hq:q=(i:Int)) (hi:i≤len) (hc:i < cp) (hlc:len≤cp):Yd P n fr H (.slice t x (some y) none none) ty (.slice (some ⟨g,o+i * m,none⟩) (len - i) (cp - i)):=.mk fun ac w d pos Cf gd hA _=>by
 subst hq;have he2:P.elem t=e:=KI
 have h3:(Instr.sliceAt t (.slice (some ⟨g,o,none⟩) len cp) (some (.int kd (i:Int))) none none).run P w=.ok (.slice (some ⟨g,o+i * m,none⟩) (len - i) (cp - i)) w:=by
  rw [run_sliceAt_slice (h:=GS),run_slice_l (ht:=GS) (h0:=FH) (h1:=FH),he2,Nj hS.s];have h0:¬(cp - i=0):=FH
  have h0':¬(cp=i):=FH
  simp [Result.andThen,sliced,h0,h0',Addr.add_lit]
 exact AT
theorem Aub {k:IntKind} {a:Int} {s t:TypeId} [hS:IntC P s k] [hD:IntC P t .u64] (hx:ev fr x=some (.int k a)) (h0:0≤a) (h1:a≤18446744073709551615):Yd P n fr H (.convert s t x) ty (.int .u64 a):=.mk fun c w d pos Cf gd hA _=>by
 simp [execOp,hA.ev hx,convert,run_underlying hS.u,run_underlying hD.u,Conv.intToInt,IntWalk.u64_in _ ⟨h0,h1⟩]
theorem Aof {a:Int} {t t':TypeId} (hx:ev fr x=some (.int .u64 a)):Yd P n fr H (.binOp .shr t x (.const (.int .u64 1)) t') ty (.int .u64 (a / 2)):=.mk fun c w d pos Cf gd hA _=>by
 have e:Op.shift .shr .u64 a .u64 1=pure (.int .u64 (a / 2)):=by rw [shift_shr .u64 .u64 a 1 FK FK];rfl
 have e2:binOp .shr t (.int .u64 a) (.int .u64 1)=Op.shift .shr .u64 a .u64 1:=rfl;have e3:c.eval (.const (.int .u64 1))=.int .u64 1:=rfl;simp only [execOp,hA.ev hx,e3,eqGuard_shr,e2,e,Sem.run_bind,Sem.run_pure,Result.andThen_ok]
theorem Aua {a:Option Addr} {len cp t e m:Nat} [hS:SlC P t e m] (hx:ev fr x=some (.slice a len cp)):Yd P n fr H (.call { callee:=.builtin .cap,args:=#[x],argTypes:=#[t] }) ty (.int .i64 cp):=.mk fun ac w d pos Cf gd hA _=>by
 simp [execOp,hA.ev hx,resolve,invoke,builtin,Builtin.cap_,run_underlying hS.u,goInt]
end
section
variable {c:Cx} {fr:Fr} {H k':List Pc} {k:List It} {Φ:Gl} {d:Nat} {o:Op} {ty:TypeId} {v u:Value} {x y:Operand}
theorem An5 {α:Type} {E:Bn α} (sc:Abt E) {t n cp:Nat} {a:Option Addr} {xs:List α} {F:List Nat} {S:List Pc} (h0:xs≠[])
  (h:∀g cs rest,a=some ⟨g,0,none⟩→n=xs.length→xs.length≤cp→cp≤9223372036854775807→cs.length=xs.length * E.sz→cs.length+rest.length=cp * E.sz→(∀w,Cy E w cs xs [])→T c fr (.row g t 0 [] (cs++rest) []::S) Φ)
  (hp:Cn H (.ow E t (.slice a n cp) xs F) S:=by exact Da):T c fr H Φ:=.mk fun ac w s g'=>by
 have s1:=s.pick hp;obtain ⟨hnd,ho⟩:=s1.on (.ow E t (.slice a n cp) xs F) FI;have hF:=ho.scal sc;rcases ho with ⟨-,h2, -⟩|⟨g,cap,cs,rest,G,h1,h2,h3,h4,h5,h6,h7⟩
 ·exact absurd h2 h0
 ·cases h1;have hG:G=[]:=JI
  subst hG h7;have hl:=h6.len;refine (h g cs rest rfl rfl h3 (by unfold maxLen at h4;omega) hl h5 (fun w'=>h6.all w')).h ac w (s1.conv rfl ⟨rfl,IH⟩ KV) g'
theorem Aeo {α:Type} {E:Bn α} {t g:Nat} {L cs rest:List Value} {xs:List α} {S:List Pc} (cp:Nat) (hL:L=cs++rest) (hf:∀w,Cy E w cs xs []) (h1:xs.length≤cp) (h2:cp≤9223372036854775807) (h3:L.length=cp * E.sz)
  (h:T c fr (.ow E t (.slice (some ⟨g,0,none⟩) xs.length cp) xs [g]::S) Φ) (hp:Cn H (.row g t 0 [] L []) S:=by exact Da):T c fr H Φ:=.mk fun ac w s g'=>by
 subst hL;have s1:=s.pick hp;have hr:=(s1.on (.row g t 0 [] (cs++rest) []) FI).2;exact h.h ac w (s1.conv rfl ⟨FI,.inr ⟨g,cp,cs,rest,[],rfl,HG,h1,GC,IV,hf w,rfl⟩⟩ KV) g'
theorem Bbi {f:Nat} {aS:List Operand} {ts:Array TypeId} {vs:List Value} (hd:Nat.blt d c.n=true) (ha:Evs fr aS vs) (hv:∀w,St c.G c.D c.w0 H w→(callFunc f vs.toArray).run c.P w=.ok (.value v) w) (h:T c ((d,v)::fr) H Φ):On c fr H (some d) (.call { callee:=.value (.func f),args:=aS.toArray,argTypes:=ts }) ty Φ:=⟨fun _ _ _=>P4 fun Q a w s g=>by
 have e:∀pos Cf gd,(execOp a.eval ⟨some d,.call { callee:=.value (.func f),args:=aS.toArray,argTypes:=ts },ty,pos,Cf,gd⟩).run c.P w=.ok (.value v) w:=by
  intro pos Cf gd;simp [execOp,resolve,Deferred.ofValue,Act.eval,invoke,g.evs ha,hv w s]
 rw [e];exact h.h _ _ s (g.put hd)⟩
theorem Al6 {w:World} {g:Nat} {t:TypeId} {cs:List Value} (h:Ii w g t cs):w.shape? g=some (t,cs.length):=by
 unfold World.shape?;rw [show w.heap[g]?=_ from h];simp
theorem ovl {f:Nat} {tS tR e m:Nat} [hS:SlC c.P tS e m] {g o g2 o2 la ca lb cb t1 t2:Nat} {L L2:List Value}
  (he:∀(args:Array Value) (w:World),(callFunc f args).run c.P w=((Extern.SlicesOverlaps.overlaps #[tS,tS] #[tR] args).run c.P w).andThen fun v w=>.ok (.value v) w)
  (h1:Cn H (.row g t1 0 [] L []) k') (h2:.row g2 t2 0 [] L2 []∈k') (hL:L2≠[]) (w:World) (s:St c.G c.D c.w0 H w) :
  (callFunc f [Value.slice (some ⟨g,o,none⟩) la ca,.slice (some ⟨g2,o2,none⟩) lb cb].toArray).run c.P w=.ok (.value (.bool false)) w:=by
 have s1:=s.pick h1;have r1:=(s1.on (.row g t1 0 [] L []) FI).2;have r2:=(s1.on (.row g2 t2 0 [] L2 []) (by simp [h2])).2;have hne:g≠g2:=fun e'=>s1.sep.1 (.row g2 t2 0 [] L2 []) h2 (by simp [Pc.mu]) g KV (by simp [Pc.F,e']);simp only [List.nil_append,List.append_nil] at r1 r2;rw [he,Lib.run_overlaps_apart w tS tR e hS.u m (fun w=>Nj hS.s w) ⟨g,o,none⟩ ⟨g2,o2,none⟩ la ca lb cb hne t1 t2 L.length L2.length (Al6 r1) (Al6 r2) (by simpa using hL) (r1.frozen _) (r1.frozen _)];rfl
theorem Af2 {P M Q d L:List Value} {o:Nat} (hL:L=P++M++Q) (ho:o=P.length) (hd:M.length=d.length):P++d++Q=L.take o++d++L.drop (o+d.length):=by
 subst hL ho;rw [List.append_assoc P M Q,List.take_left,←hd,←List.append_assoc,←List.length_append,List.drop_left]
theorem Atr {B R:List Value} (m:Nat) (h:m≤R.length):∃X Y,B++R=X++Y++R.drop m∧X.length=m∧Y.length=B.length:=by
 refine ⟨(B++R).take m,((B++R).drop m).take B.length,?_,FO,FO⟩;have:R.drop m=((B++R).drop m).drop B.length:=by rw [List.drop_drop,Nat.add_comm,←List.drop_drop,List.drop_left]
 rw [this,List.append_assoc,List.take_append_drop,List.take_append_drop]
theorem Nk {g t o m:Nat} {L cs:List Value} (h1:.row g t 0 [] L []∈H) (hc:cs=(L.drop o).take m) (w:World) (s:St c.G c.D c.w0 H w):∀j u,cs[j]?=some u→w.cell? ((⟨g,o,none⟩:Addr).add j)=some u:=fun j u hu=>by
 subst hc;have r1:=(s.on (.row g t 0 [] L []) h1).2;simp only [List.nil_append,List.append_nil] at r1;rw [Addr.add_lit,r1.cell];rw [List.getElem?_take] at hu
 split at hu
 ·rw [List.getElem?_drop] at hu;exact hu
 ·cases hu
theorem Aye {P:Program} (w:World) (dT sT ty elem m:TypeId) (b o dLen dCap:Nat) (a:Addr) (sLen sCap:Nat) (cs:List Value)
  (hu:P.underlying dT=some (.slice elem)) (hs:(P.info? elem).map (·.size)=some m) (hn:cs.length=Nat.min sLen dLen * m)
  (hsrc:∀j v,cs[j]?=some v→w.cell? (a.add j)=some v) (hc:∀j,j < cs.length→(w.cell? ⟨b,o+j,none⟩).isSome=true) (hf:∀j,j < cs.length→w.frozen? ⟨b,o+j,none⟩=false) (h1:∀v∈cs,v.oneCell'=true) :
  (Builtin.copy_ #[dT,sT] ty #[.slice (some ⟨b,o,none⟩) dLen dCap,.slice (some a) sLen sCap]).run P w=.ok (goInt (Nat.min sLen dLen:Nat)) (w.setCells b o cs):=by
 have hl:=run_loadCells_list (P:=P) w a cs hsrc;have hst:=run_storeCells_cells (P:=P) b o cs 0 w (by simpa using hc) (by simpa using hf) h1;cases hq:P.info? elem with
 | none=>simp [hq] at hs
 | some i =>
  have hi:i.size=m:=by simpa [hq] using hs
  simp [Builtin.copy_,run_underlying hu,Builtin.lenOf,Builtin.firstCells,sizeOf,typeInfo,hq,hi,←hn,hl,hst]
theorem Xw {dT sT e m g t oo dn dc sn sc:Nat} {ad:Addr} {L L' cs:List Value} {S:List Pc} [hS:SlC c.P dT e m] (hd:Nat.blt d c.n=true) (hx:ev fr x=some (.slice (some ⟨g,oo,none⟩) dn dc)) (hy:ev fr y=some (.slice (some ad) sn sc))
  (hsrc:∀w,St c.G c.D c.w0 H w→∀j u,cs[j]?=some u→w.cell? (ad.add j)=some u) (hr:Rpl H (.row g t 0 [] L []) (.row g t 0 [] L' []) S)
  (hL:L'=L.take oo++cs++L.drop (oo+cs.length)) (hn:cs.length=Nat.min sn dn * m) (hfit:oo+cs.length≤L.length) (h1:∀v∈cs,v.oneCell'=true) (h:T c ((d,.int .i64 (Nat.min sn dn:Nat))::fr) S Φ) :
  On c fr H (some d) (.call { callee:=.builtin .copy,args:=#[x,y],argTypes:=#[dT,sT] }) ty Φ:=⟨fun _ _ _=>P4 fun Q a w s ag=>by
 have hP:(Pc.row g t 0 [] L []).P w:=by obtain ⟨R,h1,_⟩:=hr.picks;exact s.on _ h1.mem
 have r1:=hP.2;simp only [List.nil_append,List.append_nil] at r1;have hrun:=fun ty=>Aye (P:=c.P) w dT sT ty e m g oo dn dc ad sn sc cs hS.u hS.s hn (hsrc w s) (fun j hj=>by rw [r1.cell,List.getElem?_eq_getElem FH];rfl) (fun j hj=>r1.frozen _) h1;have e1:∀pos Cf gd,(execOp a.eval ⟨some d,.call { callee:=.builtin .copy,args:=#[x,y],argTypes:=#[dT,sT] },ty,pos,Cf,gd⟩).run c.P w=.ok (.value (goInt (Nat.min sn dn:Nat))) (w.setCells g oo cs):=by
  intro pos Cf gd;simp only [execOp,resolve,invoke,builtin,Sem.run_bind,Sem.run_pure,Result.andThen_ok,List.map_toArray,List.map_cons,List.map_nil,ag.ev hx,ag.ev hy,hrun]
 rw [e1];have hsplit:L=L.take oo++(L.drop oo).take cs.length++L.drop (oo+cs.length):=by
  rw [←List.drop_drop,List.append_assoc,List.take_append_drop,List.take_append_drop]
 have r2:=r1;rw [hsplit] at r2;have r3:=Ii.put cs _ r2 (p:=oo) FO FO;have hk:=Mk (g:=g) cs w oo;rw [M8 w g cs w] at r3 hk;rw [←hL] at r3;refine h.h _ _ (s.rpl hr rfl (fun b hb=>.inl hb) hk ⟨rfl,by simpa using r3⟩) (ag.put hd)⟩
theorem As6 {t tn e m b g oo n cp k:Nat} {zv:Value} {olds:List Value} {q:Int} [hS:SlC c.P t e m] [hE:ElT c.P e zv m b] [hI:IntC c.P tn .i64] (hd:Nat.blt d c.n=true) (hx:ev fr x=some (.slice (some ⟨g,oo,none⟩) n cp)) (hy:ev fr y=some (.int .i64 q)) (hq:q=(k:Int))
  (hso:∀w,St c.G c.D c.w0 H w→∀j u,olds[j]?=some u→w.cell? ((⟨g,oo,none⟩:Addr).add j)=some u)
  (hlo:olds.length=n * m) (hm:0 < m) (hk:0 < k) (hg:cp < n+k) (h63:n+k≤4294967296) (hby:(n+k) * b≤140737488355328)
  (h:∀g' cp' Z rest,n+k≤cp'→cp'≤9223372036854775807→Z.length=k * m→(olds++Z++rest).length=cp' * m→T c ((d,.slice (some ⟨g',0,none⟩) ((n+k:Nat)) cp')::fr) (.row g' e 0 [] (olds++Z++rest) []::H) Φ) :
  On c fr H (some d) (.call { callee:=.builtin .append,args:=#[x,y],argTypes:=#[t,tn] }) ty Φ:=⟨fun _ _ _=>P4 fun Q a w s ag=>by
 subst hq;obtain ⟨i,hi,hiz⟩:=Option.map_eq_some_iff.1 hE.i;simp only [Prod.mk.injEq] at hiz;obtain ⟨i1,i2,i3⟩:=hiz;subst i2 i3;have hold:(Builtin.firstCells i.size n (.slice (some ⟨g,oo,none⟩) n cp)).run c.P w.drew=.ok olds.toArray w.drew:=run_firstCells_some w.drew i.size n ⟨g,oo,none⟩ n cp olds hlo (fun j v hj=>hso w s j v hj);have hr:=fun ty=>Lib.run_append_grow_zeros (P:=c.P) w t tn ty e i zv .i64 .i64 hS.u hI.u hi i1 (some ⟨g,oo,none⟩) n cp olds hold k hk hm hg FH (Nat.le_trans (Nat.mul_le_mul_right _ FH) (Nat.le_trans hby FK)) (growslice_fits hg hby)
 have e1:∀pos Cf gd,(execOp a.eval ⟨some d,.call { callee:=.builtin .append,args:=#[x,y],argTypes:=#[t,tn] },ty,pos,Cf,gd⟩).run c.P w=.ok (.value (.slice (some ⟨w.heap.size,0,none⟩) (n+k) (grownCap w (n+k) cp e))) (w.drew.alloc (.cells (olds.toArray++Builtin.zeroCells zv.cells k++Builtin.zeroCells zv.cells (grownCap w (n+k) cp e - (n+k))) e)):=by
  intro pos Cf gd;simp only [execOp,resolve,invoke,builtin,Sem.run_bind,Sem.run_pure,Result.andThen_ok,List.map_toArray,List.map_cons,List.map_nil,ag.ev hx,ag.ev hy,hr]
 rw [e1];have hge:=grownCap_ge w (n+k) cp e;have hle:=grownCap_le_maxLen w (n+k) cp e GC;have hBel:Below w.heap.size w (w.drew.alloc (.cells (olds.toArray++Builtin.zeroCells zv.cells k++Builtin.zeroCells zv.cells (grownCap w (n+k) cp e - (n+k))) e)):=(Dt (Below.refl w.heap.size w) 1).alloc (Nat.le_refl _) _;have hz:∀q,(Builtin.zeroCells zv.cells q).toList.length=q * i.size:=fun q=>by rw [Nx,hE.s]
 refine (h w.heap.size (grownCap w (n+k) cp e) (Builtin.zeroCells zv.cells k).toList (Builtin.zeroCells zv.cells (grownCap w (n+k) cp e - (n+k))).toList hge (by unfold maxLen at hle;omega) (hz k) ?_).h _ _ (s.add (N:=[.row w.heap.size e 0 [] (olds++(Builtin.zeroCells zv.cells k).toList++(Builtin.zeroCells zv.cells (grownCap w (n+k) cp e - (n+k))).toList) []]) hBel ?_ ⟨FI,trivial⟩ ?_) (ag.put hd)
 ·rw [List.length_append,List.length_append,hz,hz,hlo,←Nat.add_mul,←Nat.add_mul];congr 1;omega
 ·intro p hp;rw [List.mem_singleton] at hp;subst hp;refine ⟨rfl,?_⟩;have:=Ii.made w.drew e (olds++(Builtin.zeroCells zv.cells k).toList++(Builtin.zeroCells zv.cells (grownCap w (n+k) cp e - (n+k))).toList);rw [List.nil_append,List.append_nil];have e2:(olds++(Builtin.zeroCells zv.cells k).toList++(Builtin.zeroCells zv.cells (grownCap w (n+k) cp e - (n+k))).toList).toArray=olds.toArray++Builtin.zeroCells zv.cells k++Builtin.zeroCells zv.cells (grownCap w (n+k) cp e - (n+k)):=by apply Array.ext';simp
  rw [e2] at this;exact this
 ·intro p hp b hb;rw [List.mem_singleton] at hp;subst hp;simp [Pc.F] at hb;subst hb;exact .inl (Nat.le_refl _)⟩
theorem Ani {t e m n cp i:Nat} {a:Option Addr} {q:Int} [hS:SlC c.P t e m] (hd:Nat.blt d c.n=true) (hx:ev fr x=some (.slice a n cp)) (hy:ev fr y=some (.int .i64 q)) (hq:q=(i:Int)) (hi:i≤n) (h:∀v,T c ((d,v)::fr) H Φ) (hlc:n≤cp:=by omega):On c fr H (some d) (.slice t x (some y) none none) ty Φ:=⟨fun _ _ _=>P4 fun Q ac w s g=>by
 subst hq;have he2:=Agi hS;obtain ⟨v,h3⟩:∃v,(Instr.sliceAt t (.slice a n cp) (some (.int .i64 (i:Int))) none none).run c.P w=.ok v w:=by
  rw [run_sliceAt_slice (h:=GS),run_slice_l (ht:=GS) (h0:=FH) (h1:=FH),he2,Nj hS.s];exact ⟨_,rfl⟩
 have e1:∀pos Cf gd,(execOp ac.eval ⟨some d,.slice t x (some y) none none,ty,pos,Cf,gd⟩).run c.P w=.ok (.value v) w:=by
  intro pos Cf gd;simp only [execOp,Option.map_none,Option.map_some,g.ev hx,g.ev hy,Sem.run_bind,h3,Result.andThen_ok,Sem.run_pure]
 rw [e1];exact (h v).h _ w s (g.put hd)⟩
end
section
variable {P:Program} {n:Nat} {fr:Fr} {H:List Pc} {ty:TypeId}
theorem Bie {f:Nat} {bs caps:List Operand} {us vs:List Value} (hb:Evs fr bs us) (hc:Evs fr caps vs):Yd P n fr H (.makeFunc (.func f) bs.toArray caps.toArray) ty (.func (.func f) us.toArray vs.toArray):=.mk fun c w d pos Cf gd hA _=>by
 simp [execOp,Instr.makeFunc,hA.evs hb,hA.evs hc]
end
section
variable {c:Cx} {fr:Fr} {H:List Pc} {k:List It} {Φ:Gl} {d:Nat} {ty:TypeId} {x:Operand}
theorem Acj {fo:Operand} {f:Nat} {bd caps:List Value} {aS:List Operand} {ts:Array TypeId} {vs:List Value} (hd:Nat.blt d c.n=true) (hf:ev fr fo=some (.func (.func f) bd.toArray caps.toArray)) (hb:Sb c.P f=true) (ha:Evs fr aS vs) (h:Cl c fr H d f (bd++vs++caps) Φ):On c fr H (some d) (.call { callee:=.value fo,args:=aS.toArray,argTypes:=ts }) ty Φ:=⟨fun _ _ _=>P4 fun Q a w s g=>by
 have e:∀pos Cf gd,(execOp a.eval ⟨some d,.call { callee:=.value fo,args:=aS.toArray,argTypes:=ts },ty,pos,Cf,gd⟩).run c.P w=(callFunc f (bd++vs++caps).toArray).run c.P w:=by
  intro pos Cf gd;simp [execOp,resolve,Deferred.ofValue,g.ev hf,invoke,g.evs ha]
 rw [e];obtain ⟨R,hc,hk⟩:=h.h w s;refine (Wq hb).upon hc fun e w' hR=>?_;obtain ⟨v,he,hv⟩:=hk e w' hR;exact ⟨v,he,hv _ (g.put hd)⟩⟩
theorem An2 {α:Type} {E:Bn α} (sc:Abt E) {t n cp:Nat} {a:Option Addr} {xs:List α} {F:List Nat} (h0:xs≠[])
  (h:∀g,a=some ⟨g,0,none⟩→F=[g]→n=xs.length→n≤cp→cp≤9223372036854775807→T c fr H Φ) (hm:.ow E t (.slice a n cp) xs F∈H:=by exact A9):T c fr H Φ:=.mk fun ac w s g'=>by
 obtain ⟨hnd,ho⟩:=s.get hm;have hF:=ho.scal sc;rcases ho with ⟨-,h2, -⟩|⟨g,cap,cs,rest,G,h1,h2,h3,h4,h5,h6,h7⟩
 ·exact absurd h2 h0
 ·cases h1;exact (h g rfl (by simpa [Value.ownBlock] using hF) rfl h3 (by unfold maxLen at h4;omega)).h ac w s g'
theorem Cy.rep0 {α:Type} {E:Bn α} {w:World} {zs:List Value} {z:α} (h:E.Kn w zs z []):∀n,Cy E w (List.replicate n zs).flatten (List.replicate n z) []
 | 0=>⟨rfl,rfl⟩
 | n+1=>⟨zs,(List.replicate n zs).flatten,[],[],by simp [List.replicate_succ],FI,h,Cy.rep0 h n⟩
theorem Ajp (z:Array Value) (n:Nat):(Builtin.zeroCells z n).toList=(List.replicate n z.toList).flatten:=by
 have:=Ol z n;exact this
theorem Au4 {α:Type} {E:Bn α} (sc:Abt E) {t e m b g n cp i:Nat} {zv:Value} {z0:α} [hS:SlC c.P t e m] [hE:ElT c.P e zv m b] (hz:∀w,E.Kn w zv.cells.toList z0 []) (one:∀u∈zv.cells,u.oneCell'=true) (hm:E.sz=m) {xs:List α} {F:List Nat} {S:List Pc}
  (hx:ev fr x=some (.slice (some ⟨g,0+i * m,none⟩) (n - i) (cp - i))) (hi:i < n) (hn:n=xs.length) (hp:Cn H (.ow E e (.slice (some ⟨g,0,none⟩) n cp) xs F) S) (h:T c fr (.ow E e (.slice (some ⟨g,0,none⟩) n cp) (xs.take i++List.replicate (n - i) z0) F::S) Φ) :
  On c fr H none (.call { callee:=.builtin .clear,args:=#[x],argTypes:=#[t] }) ty Φ:=⟨fun _ _ _=>P4 fun Q a w s ag=>by
 subst hm;have s1:=s.pick hp;obtain ⟨hnd,ho⟩:=s1.on (.ow E e (.slice (some ⟨g,0,none⟩) n cp) xs F) FI;have hF:=ho.scal sc;rcases ho with ⟨h1, -, -⟩|⟨g2,cap,cs,rest,G,h1,h2,h3,h4,h5,h6,h7⟩
 ·cases h1
 cases h1;have hG:G=[]:=JI
 subst hG h7;have hl:=h6.len;obtain ⟨f1,f2⟩:=h6.cutL i FH;have hcs:=List.take_append_drop (i * E.sz) cs;have hd1:(cs.take (i * E.sz)).length=i * E.sz:=by have:=f1.len;rw [List.length_take (l:=xs),Nat.min_eq_left FH] at this;exact this
 have hd2:(cs.drop (i * E.sz)).length=(xs.length - i) * E.sz:=by have:=f2.len;rwa [List.length_drop (l:=xs)] at this
 have hr:=fun ty=>Ul (P:=c.P) w t e ty zv hS.u (Xo hE.i) one g (0+i * E.sz) (xs.length - i) (cp - i) FH
  (fun j hj=>by rw [hE.s] at hj;rw [h2.cell,List.getElem?_eq_getElem (by rw [List.length_append,←hcs,List.length_append,hd1,hd2];omega)];rfl) (fun j _=>h2.frozen _)
 have e1:∀pos Cf gd,(execOp a.eval ⟨none,.call { callee:=.builtin .clear,args:=#[x],argTypes:=#[t] },ty,pos,Cf,gd⟩).run c.P w=.ok (.value (.tuple #[])) (w.setCells g (0+i * E.sz) (Builtin.zeroCells zv.cells (xs.length - i)).toList):=by
  intro pos Cf gd;simp only [execOp,resolve,invoke,builtin,Sem.run_bind,Sem.run_pure,Result.andThen_ok,List.map_toArray,List.map_cons,List.map_nil,ag.ev hx,hr]
 rw [e1];have hzl:(Builtin.zeroCells zv.cells (xs.length - i)).toList.length=(xs.length - i) * E.sz:=by rw [Nx,hE.s]
 have R0:Ii w g e (cs.take (i * E.sz)++cs.drop (i * E.sz)++rest):=by rw [hcs];exact h2
 have R1:=Ii.put (Builtin.zeroCells zv.cells (xs.length - i)).toList _ R0 (p:=0+i * E.sz) FH (by rw [hzl,hd2]);have hk:=Mk (g:=g) (Builtin.zeroCells zv.cells (xs.length - i)).toList w (0+i * E.sz);rw [M8 w g] at R1 hk;have hW:(Pc.ow E e (.slice (some ⟨g,0,none⟩) xs.length cp) (xs.take i++List.replicate (xs.length - i) z0) [g]).P (w.setCells g (0+i * E.sz) (Builtin.zeroCells zv.cells (xs.length - i)).toList):=by
  have hll:(xs.take i++List.replicate (xs.length - i) z0).length=xs.length:=HX
  have hfl:Cy E (w.setCells g (0+i * E.sz) (Builtin.zeroCells zv.cells (xs.length - i)).toList) (cs.take (i * E.sz)++(Builtin.zeroCells zv.cells (xs.length - i)).toList) (xs.take i++List.replicate (xs.length - i) z0) []:=by
   rw [Ajp];exact (f1.all _).append (Cy.rep0 (hz _) _)
  refine ⟨FI,.inr ⟨g,cp,cs.take (i * E.sz)++(Builtin.zeroCells zv.cells (xs.length - i)).toList,rest,[],by rw [hll],R1,by rw [hll];exact h3,h4,?_,hfl,rfl⟩⟩;rw [List.length_append,hzl,hd1,←Nat.add_mul];rw [←h5,hl]
  congr 2
  omega
 exact h.h _ _ (St.turn (M:=[.ow E e (.slice (some ⟨g,0,none⟩) xs.length cp) xs [g]]) (N:=[.ow E e (.slice (some ⟨g,0,none⟩) xs.length cp) (xs.take i++List.replicate (xs.length - i) z0) [g]]) s1 HY LK ⟨FI,trivial⟩ (by
   intro q hq b hb;rw [List.mem_singleton] at hq;subst hq;exact .inr (.inl ⟨_,List.mem_singleton.2 rfl,rfl,hb⟩))) ag⟩
end
theorem Azb (fid:FuncId) (bd caps:List Value) (A:List Pc) (hA:A.all (fun p=>!p.mu)=true) (xs:List Int) (a:Option Addr) (c:Nat) (F:List Nat) (p:Int→Bool) (hb:Sb prog fid=true) (hl:xs.length≤1000000000)
  (hp:∀x∈xs,∀w,Od A w→Calls prog fid (bd++[(.int .i64 x:Value)]++caps).toArray w (RB (.bool (p x)) w)) :
  Fn prog 402 [.slice a xs.length c,.func (.func fid) bd.toArray caps.toArray] (.sl Bb (.slice a xs.length c) xs F::A) [] (fun (_:Unit)=>True) (fun _=>.int .i64 (Ss p xs)) (fun _=>[]):=by
 refine enter func402 rfl ntmps402 (fun w0=>?_) rfl GP .nil;refine go ?_;refine Eh [0,1,4,7] (fun k:Nat=>[(8,.int .i64 (k:Nat))]) (fun k=>k≤xs.length∧∀j (_:j < k) (hj:j < xs.length),p xs[j]=false) (fun k=>xs.length - k) 0 ⟨Nat.zero_le _,fun j h=>by omega⟩ fun k hk=>?_;obtain ⟨hk1,hk2⟩:=hk;refine go ?_;refine A1 rfl (fun h5=>?_) (fun h5=>?_)
 ·have hh:k < xs.length:=FH
  refine go ?_;refine I6 (xs:=xs) k ?_;rintro hi b o e;rw [e];refine go ?_;apply wO;refine Acj rfl rfl hb X0 ?_;refine cb (fun w st=>hp xs[k] (List.getElem_mem hh) w (fun q hq=>st.on q GQ)) ?_;cases hpk:p xs[k]
  ·refine go ?_;refine Xg ?_;refine Cg (hH:=Lt _) (k+1) ⟨hh,fun j hj h=>?_⟩ FH;rcases Nat.lt_or_eq_of_le (Nat.lt_succ_iff.1 hj) with h2|rfl
   ·exact hk2 j h2 h
   ·exact hpk
  ·refine go ?_;refine ret () trivial ?_;rw [Ph hh hk2 hpk];rfl
 ·obtain rfl:k=xs.length:=FH
  exact BP
structure Ay7 where
 i:Nat
 j:Nat
 zs:List Int
theorem Aoi (fid:FuncId) (bd caps:List Value) (A:List Pc) (hA:A.all (fun p=>!p.mu)=true) (xs:List Int) (a:Option Addr) (c:Nat) (F:List Nat) (p:Int→Bool) (hb:Sb prog fid=true) (hl:xs.length≤1000000000)
  (hp:∀x∈xs,∀w,Od A w→Calls prog fid (bd++[(.int .i64 x:Value)]++caps).toArray w (RB (.bool (p x)) w)) :
  Fn prog 370 [.slice a xs.length c,.func (.func fid) bd.toArray caps.toArray] A [.ow Bb 3 (.slice a xs.length c) xs F] (fun (_:Option Addr × Nat × List Nat)=>True)
   (fun z=>.slice z.1 (xs.filter fun x=>!p x).length z.2.1) (fun z=>[.ow Bb 3 (.slice z.1 (xs.filter fun x=>!p x).length z.2.1) (xs.filter fun x=>!p x) z.2.2]):=by
 refine enter func370 rfl ntmps370 (fun w0=>?_) rfl GP (.cons .nil);refine go ?_;refine cb (fun w st=>by
  obtain ⟨Fw, -,hw⟩:=(st.get (p:=.ow Bb 3 (.slice a xs.length c) xs F) FI).2.read;refine (Azb fid bd caps A hA xs a c Fw p hb hl hp).val w ?_ GP;intro q hq;rcases List.mem_cons.1 hq with rfl|hq
  ·exact ⟨FK,hw⟩
  ·exact st.on q GQ) ?_
 by_cases hany:xs.any p=true
 ·obtain ⟨i0,hi0,hfx,hpi,hfl⟩:=Zf hany;rw [hfx];refine An2 (xs:=xs) D5 (by rintro rfl;simp at hi0) ?_;rintro g rfl rfl - hc1 hc2;refine go ?_;refine Cd [0,1,4] (fun s:Ay7=>[(5,.int .i64 (s.i:Nat)),(6,.int .i64 (s.j:Nat))]) (fun s=>[.ow Bb 3 (.slice (some ⟨g,0,none⟩) xs.length c) s.zs [g]]) (fun s=>s.zs.length=xs.length∧s.j≤xs.length∧s.i < s.j∧s.zs.take s.i=(xs.take s.j).filter (fun x=>!p x)∧s.zs.drop s.j=xs.drop s.j) (fun s=>xs.length - s.j) ⟨i0,i0+1,xs⟩ ⟨rfl,hi0,Nat.lt_succ_self _,by rw [C6 hi0 (by simp [hpi]),hfl],rfl⟩ fun s hs=>?_;obtain ⟨i,j,zs⟩:=s;obtain ⟨h1,h2,h3,h4,h5⟩:=hs
  dsimp only at h1 h2 h3 h4 h5 ⊢;refine go ?_;refine A1 rfl (fun h6=>?_) (fun h6=>?_)
  ·have hj:j < xs.length:=FH
   have hjz:j < zs.length:=FH
   have hx:zs[j]=xs[j]:=by
    exact EU
   have hdz:zs.drop (j+1)=xs.drop (j+1):=by
    rw [←List.drop_drop,h5,List.drop_drop]
   refine go ?_;refine Pv (m:=1) D5 j ?_ FM rfl hjz;rintro _ g2 A2 cs2 B2 e1 e2 hc3 hh;cases e1;obtain ⟨rfl, -⟩:=hc3 w0;refine go ?_;refine O5 zs[j] hh hc3 ?_;rw [List.set_getElem_self,hx];apply wO;refine Acj rfl rfl hb X0 ?_;refine cb (fun w st=>hp xs[j] (List.getElem_mem hj) w (fun q hq=>st.on q GQ)) ?_;cases hpj:p xs[j]
   ·refine go ?_;refine Pv (m:=1) D5 i ?_ FM rfl FH;rintro _ g3 A3 cs3 B3 e1 e2 hc4 hh3;cases e1;obtain ⟨rfl, -⟩:=hc4 w0;refine go ?_;refine O5 xs[j] hh3 (fun w=>⟨rfl,rfl⟩) ?_;refine Cg (hH:=Lt _) (⟨i+1,j+1,zs.set i xs[j]⟩:Ay7) ⟨by simp [h1],hj,Nat.succ_lt_succ h3,?_,?_⟩ JF
    ·exact EG
    ·dsimp only;rw [List.drop_set_of_lt FH,hdz]
   ·refine go ?_;refine Cg (hH:=Lt _) (⟨i,j+1,zs⟩:Ay7) ⟨h1,hj,Nat.lt_succ_of_lt h3,?_,hdz⟩ JF;dsimp only;rw [C6 hj (by simp [hpj]),h4]
  ·obtain rfl:j=xs.length:=FH
   have h4':zs.take i=xs.filter fun x=>!p x:=by rw [h4,List.take_length]
   have hil:(xs.filter fun x=>!p x).length=i:=by rw [←h4',List.length_take];omega
   refine go ?_;apply wO;apply oc;rfl;exact Lh (i:=i) rfl rfl rfl FH FH FH;refine go ?_;apply wO;refine Au4 (z0:=0) (n:=xs.length) (cp:=c) (i:=i) (g:=g) D5 (fun w=>⟨rfl,rfl⟩) FK rfl rfl h3 h1.symm FM ?_;refine go ?_;refine An6 (xs:=zs.take i++List.replicate (xs.length - i) 0) i (fun F2=>?_) HX;rw [List.take_left' FY,h4'];apply wO;apply oc;rfl;exact Pz (i:=i) rfl rfl rfl FH FH;refine go ?_;subst hil
   refine ret (_,c,F2) trivial rfl
 ·obtain ⟨hfx,hfl⟩:=Ab4 hany;rw [hfx,hfl];refine go ?_;refine ret (a,c,F) trivial rfl
def O8 (x:Aj) (n:Nat):List Int:=(So x.next n).filter fun k=>!I4 x k
theorem Alt {t k:Int} {n:Nat} (h:k∈So t n):0≤k∧k≤65535:=by
 unfold So at h;obtain ⟨i, -,rfl⟩:=List.mem_map.1 h;unfold Cf;omega
theorem Aop (x:Aj) (k:Int) (n:Nat) (v:Value) (F:List Nat) (h0:0≤x.next) (h1:x.next≤65535) (h2:0≤k) (h3:k≤65535) (hn:gp x.next k=n) :
  Fn prog 416 [v,.int .i64 k] [.isv Bg v x F] [] (fun (_:Option Addr × Nat × List Nat)=>True) (fun s=>.slice s.1 (O8 x n).length s.2.1) (fun s=>[.ow Bb 3 (.slice s.1 (O8 x n).length s.2.1) (O8 x n) s.2.2]):=by
 have hg:=Ly x.next k
 refine enter func416 rfl ntmps416 fun w0=>?_;refine B9 ?_;rintro a1 c1 F1 rfl l1;refine go ?_;intros;refine As [0] [] ?_;refine Dq 0 1 2 3 ?_;refine Ec 4 7 ?_;refine dt 8 ?_ (hy:=Bie X0 X0);refine dN 5 ?_;refine oC ?_;refine ce (fun w s=>P7 _ _ _ FH FH FH FH) ?_;refine dk ?_;refine dN 6 ?_;refine oC ?_;rw [hn];refine Ca (Bh4 x.next n FH FH FH) fun s _=>?_;refine dk ?_;refine dN 9 ?_;refine oC ?_
 refine cf (Aoi 250 [_] [] [.isv Bg (.agg #[.int .i64 x.next,.slice a1 x.Al.length c1]) x F] rfl (So x.next n) s.1 s.2.1 s.2.2 (fun k=>I4 x k) rfl (by rw [Aen];omega) (fun k hk w hw=>?_)) fun q _=>?_;exact (Abs x k _ F h0 h1 (Alt hk).1 (Alt hk).2).val w hw;refine Ot ?_;refine dk ?_;refine dt 10 ?_;refine dd ?_;refine go ?_;refine ret q trivial rfl
theorem Axt {x:Aj} {k:Nat} (hk:k≤65535) (h:Jv x.Al k=true):O8 x (k+1)=O8 x k:=by
 have e:I4 x (Cf x.next k)=true:=JP
 unfold O8;rw [Abj,List.filter_append,List.filter_cons];simp [e]
theorem Aqd {x:Aj} {k:Nat} (hk:k≤65535) (h:Jv x.Al k=false):O8 x (k+1)=O8 x k++[Cf x.next k]:=by
 have e:I4 x (Cf x.next k)=false:=JP
 unfold O8;rw [Abj,List.filter_append,List.filter_cons];simp [e]
theorem Aea (x:Aj) (k:Nat):(O8 x k).length≤k:=by
 unfold O8;have:=List.length_filter_le (fun k=>!I4 x k) (So x.next k);rw [Aen] at this;exact this
theorem Am7 (x:Aj) (k:Int) (n:Nat) (v:Value) (F:List Nat) (h0:0≤x.next) (h1:x.next≤65535) (h2:0≤k) (h3:k≤65535) (hn:gp x.next k=n) :
  Fn prog 390 [v,.int .i64 k] [.isv Bg v x F] [] (fun (_:Option Addr × Nat × List Nat)=>True) (fun s=>.slice s.1 (O8 x n).length s.2.1) (fun s=>[.ow Bb 3 (.slice s.1 (O8 x n).length s.2.1) (O8 x n) s.2.2]):=by
 have hg:=Ly x.next k
 refine enter func390 rfl ntmps390 fun w0=>?_;refine B9 ?_;rintro a1 c1 F1 rfl l1;unfold maxLen at l1;refine Og ?_;intros;refine C7 Bb ?_;refine go ?_;refine Cd [1,2,4] (fun s:SpS=>[(5,.slice s.a (O8 x s.k).length s.c),(6,.int .i64 (s.k:Nat))]) (fun s=>[.ow Bb 3 (.slice s.a (O8 x s.k).length s.c) (O8 x s.k) s.F]) (fun s=>s.k≤n) (fun s=>n - s.k) ⟨0,_,_,_⟩ (Nat.zero_le _) fun s hs=>?_;obtain ⟨j,a,c,F5⟩:=s;dsimp only at hs ⊢;have hlk:=Aea x j;refine go ?_;refine ce (fun w s=>Jq _ _ _ FH FH) ?_;rw [hn];refine go ?_;refine A1 rfl (fun h4=>?_) (fun h4=>?_)
 ·refine go ?_;refine Dy rfl rfl (fun h5=>?_) (fun h5=>?_)
  ·refine go ?_;refine ce (fun w s=>Lu _ _ _ FH FH) ?_;refine go ?_;intros;apply wO;refine Ps (Tl _) C8 fun a2 c2 F2=>?_;refine go ?_;rw [←Aqd FH (Sf FH)];refine Cg ⟨j+1,a2,c2,F2⟩ (by show j+1≤n;omega) LG
  ·refine Qf (xs:=x.Al) j ?_;rintro hi2 b2 o2 e s1;rw [e];refine go ?_;cases g2:x.Al[j].Vr
   ·refine go ?_;refine ce (fun w s=>Lu _ _ _ FH FH) ?_;refine go ?_;intros;apply wO;refine Ps (Tl _) C8 fun a2 c2 F2=>?_;refine go ?_;rw [←Aqd FH (by rw [Lz hi2];exact g2)];refine Cg ⟨j+1,a2,c2,F2⟩ (by show j+1≤n;omega) LG
   ·refine go ?_;rw [←Axt (x:=x) (k:=j) FH (by rw [Lz hi2];exact g2)];refine Cg ⟨j+1,a,c,F5⟩ (by show j+1≤n;omega) LG
 ·obtain rfl:j=n:=FH
  refine go ?_;refine ret (a,c,F5) trivial rfl
def Bap (d:Int):Bool:=Ga 1 d 8
def Np (base:Int) (r:Ax):Bool:=B8 r.Ae && decide (gp base r.Ae < 8) && Ga 1 r.state 3 && Ga 0 r.Ce 10007 && Ga 0 r.D6 3
def Aju (l:List Ax) (base:Int) (i:Nat):Bool:=match l[i]? with
 | none=>true
 | some r=>Np base r && (decide (i=0) || match l[i - 1]? with|none=>true|some p=>!decide (gp base r.Ae≤gp base p.Ae))
theorem Ws {l:List Ax} {base:Int} {i:Nat} (h:i < l.length):Aju l base i=(Np base l[i] && (decide (i=0) || !decide (gp base l[i].Ae≤gp base (l[i - 1]'FH).Ae))):=by
 unfold Aju;rw [List.getElem?_eq_getElem h,List.getElem?_eq_getElem (show i - 1 < l.length by omega)]
def Ms (l:List Ax) (base:Int):Bool:=B8 base && decide ((l.length:Int)≤8) && (List.range l.length).all (Aju l base)
theorem Auk {l:List Ax} {base:Int} {i:Nat} (h:i < l.length) (hc:Aju l base i=false):Ms l base=false:=by
 have:(List.range l.length).all (Aju l base)=false:=List.all_eq_false.2 ⟨i,GA,JY⟩;simp [Ms,this]
theorem Aox {l:List Ax} {base:Int} (h1:B8 base=true) (h2:(l.length:Int)≤8) (h:∀j,j < l.length→Aju l base j=true):Ms l base=true:=by
 unfold Ms;rw [h1,decide_eq_true h2,List.all_eq_true.2 fun j hj=>h j IR];rfl
theorem De {l:List Ax} {base:Int}:Ms l base=true↔B8 base=true∧l.length≤8∧(∀r∈l,Np base r=true)∧l.Pairwise fun a b=>gp base a.Ae < gp base b.Ae:=by
 unfold Ms;simp only [Bool.and_eq_true,List.all_eq_true,List.mem_range,decide_eq_true_eq];constructor
 ·rintro ⟨⟨h1,h2⟩,h4⟩;refine ⟨h1,FH,fun r hr=>?_,?_⟩
  ·obtain ⟨i,hi,rfl⟩:=List.getElem_of_mem hr;have:=h4 i hi;rw [Ws hi] at this;simp only [Bool.and_eq_true] at this;exact this.1
  ·have step:∀i (hi:i+1 < l.length),gp base l[i].Ae < gp base l[i+1].Ae:=fun i hi=>by
    have:=h4 (i+1) hi;rw [Ws hi] at this;simp only [Bool.and_eq_true,Bool.or_eq_true,decide_eq_true_eq,Bool.not_eq_true',decide_eq_false_iff_not] at this;have h:=this.2;rcases h with h|h
    ·omega
    ·simpa using h
   refine List.pairwise_iff_getElem.2 fun i j hi hj hij=>?_;obtain ⟨d,rfl⟩:∃d,j=i+1+d:=⟨j - i - 1,FH⟩;clear hij
   induction d with
   | zero=>exact step i hj
   | succ d ih=>exact Int.lt_trans (ih FH) (step (i+1+d) hj)
 ·rintro ⟨h1,h2,h4,h5⟩;refine ⟨⟨h1,FH⟩,fun i hi=>?_⟩;rw [Ws hi,h4 l[i] (List.getElem_mem hi)];simp only [Bool.true_and,Bool.or_eq_true,decide_eq_true_eq,Bool.not_eq_true',decide_eq_false_iff_not];rcases Nat.eq_zero_or_pos i with h0|h0
  ·exact .inl h0
  ·have:=List.pairwise_iff_getElem.1 h5 (i - 1) i FH hi FH;right;omega
structure Azg (base:Int) (r:Ax):Prop where
 n:B8 r.Ae=true
 g:gp base r.Ae < 8
 s0:1≤r.state
 s1:r.state≤3
 u0:0≤r.Ce
 u1:r.Ce≤10007
 t0:0≤r.D6
 t1:r.D6≤3
theorem Er {base:Int} {r:Ax}:Np base r=true↔Azg base r:=by
 unfold Np Ga;simp only [Bool.and_eq_true,decide_eq_true_eq];exact ⟨fun ⟨⟨⟨⟨a,b⟩,c,d⟩,e,f⟩,g,h⟩=>⟨a,b,c,d,e,f,g,h⟩,fun ⟨a,b,c,d,e,f,g,h⟩=>⟨⟨⟨⟨a,b⟩,c,d⟩,e,f⟩,g,h⟩⟩
def Pu (r:Ay):Bool:=decide (r.Aa.next=0) && decide (r.Aa.Al.length=0) && decide (r.Am.length=0)
def Ak9 (r:Ay):Bool:=r.Am.all fun q=>!I4 r.Aa q.Ae
def Bv (r:Ay):Bool:=Ky r.Ai && (if r.Bd then Cu r.Aa && Ms r.Am r.Aa.next && Ak9 r else Pu r)
def U3 (c d:Int) (r:Ax):Option Ax:=if c < r.Ce then some r else if r.D6=3 then none else if r.state=1 then some ⟨r.Ae,2,c+3,r.D6+1⟩ else some ⟨r.Ae,1,c+d,r.D6⟩
def Q4 (c:Int) (r:Ax):Option Int:=if c < r.Ce then none else if r.D6=3 then none else if r.state=1 then some r.Ae else none
def Vd (c:Int) (r:Ax):Option Int:=if c < r.Ce then none else if r.D6=3 then some r.Ae else none
def pkR (n k:Int):Ar:=⟨3,k,n,n,⟨#[]⟩⟩
def Dh (l:List Int):Int:=Cf (l.getLastD 0) 1
def Jh (w:Aj) (t:Int):Aj:=Qd (I5 (Eu w.next t) w)
def Jg (w:Aj) (t:Int):List ByteArray:=O7 (Eu w.next t) w++Sm (I5 (Eu w.next t) w)
def Aag (l:List Ax) (n:Int):List Ax:=l.filter fun q=>!Up q.Ae n
def Ei (l:List Ax) (w:Aj):List Ax:=l.filter fun q=>!(Up q.Ae w.next || I4 w q.Ae) && decide (gp w.next q.Ae < 8)
def Ob (r:Ay) (d:Int):List Ax:=r.Am.filterMap (U3 (r.Ai+1) d)
def C5 (r:Ay):List Int:=r.Am.filterMap (Vd (r.Ai+1))
def Cv (r:Ay) (d:Int):Ay:=if C5 r=[] then ⟨r.Bd,r.Ai+1,r.Aa,Ob r d⟩ else ⟨r.Bd,r.Ai+1,Jh r.Aa (Dh (C5 r)),Aag (Ob r d) (Jh r.Aa (Dh (C5 r))).next⟩
def E8 (r:Ay):List Ar:=(r.Am.filterMap (Q4 (r.Ai+1))).map (pkR r.Aa.next)
def Hw (r:Ay):List ByteArray:=if C5 r=[] then [] else Jg r.Aa (Dh (C5 r))
def Bkm:Ay:=⟨false,0,⟨0,[]⟩,[]⟩
structure Mn (r:Ay):Prop where
 k0:0≤r.Ai
 k1:r.Ai≤9999
 w:Cu r.Aa=true
 q:Ms r.Am r.Aa.next=true
 f:∀z∈r.Am,I4 r.Aa z.Ae=false
 z:r.Bd=false→r.Aa=⟨0,[]⟩∧r.Am=[]
theorem Ek {r:Ay}:Bv r=true↔Mn r:=by
 have hc:Ky r.Ai=true↔0≤r.Ai∧r.Ai≤9999:=by unfold Ky Ga;simp
 have hf:Ak9 r=true↔∀z∈r.Am,I4 r.Aa z.Ae=false:=by unfold Ak9;simp
 have hz:Pu r=true↔r.Aa=⟨0,[]⟩∧r.Am=[]:=by
  unfold Pu;obtain ⟨st,ck,⟨n,s⟩,q⟩:=r;simp [and_assoc]
 unfold Bv;constructor
 ·intro h;rw [Bool.and_eq_true,hc] at h;obtain ⟨⟨c0,c1⟩,h⟩:=h;cases hs:r.Bd
  ·rw [hs] at h;obtain ⟨e1,e2⟩:=hz.1 GA;refine ⟨c0,c1,by rw [e1];decide,by rw [e1,e2];decide,by rw [e2];simp,fun _=>⟨e1,e2⟩⟩
  ·rw [hs] at h;simp only [if_true,Bool.and_eq_true] at h;exact ⟨c0,c1,h.1.1,h.1.2,hf.1 h.2,fun h'=>by rw [hs] at h';cases h'⟩
 ·rintro ⟨c0,c1,h1,h2,h3,h4⟩;rw [Bool.and_eq_true,hc];refine ⟨⟨c0,c1⟩,?_⟩;cases hs:r.Bd
  ·simpa using hz.2 (h4 hs)
  ·simp [h1,h2,hf.2 h3]
def Bt (p:Ar):Bool:=Ga 1 p.Cp 5 && B8 p.Ae && B8 p.Ap && B8 p.Fg && Rs p.data && decide (gp p.Ap p.Fg≤32767) && (decide (p.data=⟨#[]⟩) || decide (p.Cp=1) || decide (p.Cp=2))
theorem Kw {p:Ar} (h:Bt p=true):0≤p.Ae∧p.Ae≤65535:=by
 unfold Bt at h;simp only [Bool.and_eq_true] at h;exact Bc.1 h.1.1.1.1.1.2
theorem Adf (fid:FuncId) (hbd:Zu prog fid) (caps:Array Value) (v:Value) (xs:List ByteArray) (F:List Nat) (p:ByteArray→Bool) (w:World) (h:Sl A8 w v xs F)
  (hp:∀(k:Nat) (hk:k < xs.length) (wr:World) (u:Value) (G:List Nat),Below w.heap.size w wr→IsC A8 wr u xs[k] G→Calls prog fid (#[u]++caps) wr fun e w'=>e=.returned (.bool (p xs[k]))∧Below wr.heap.size wr w') :
  Calls prog 352 #[v,.func (.func fid) #[] caps] w (RB (.int .i64 (Ss p xs)) w):=by
 obtain ⟨a,cap,rfl⟩:=h.slice;have hl:=h.len;unfold maxLen at hl
 go_enter func352,ntmps352
 go_wp2
 go_loopw [5,8] (fun _ i wr=>∃k:Nat,k≤xs.length∧i=.int .i64 k∧Hid (∀j,j < k→∀hj:j < xs.length,p xs[j]=false)∧Below w.heap.size w wr) (fun _ i _=>xs.length - (intOf i).toNat)
 case atStart=>exact ⟨0,Nat.zero_le _,rfl,fun j hj=>by omega,Below.refl _ _⟩
 case round =>
  obtain ⟨k,hk,rfl,hz,hB⟩:=hrel;by_cases hlt:k < xs.length
  ·have hz0:=hz;clear hz;obtain ⟨b,off,_,F1,rfl,hx, -,ja⟩:=(h.below FK hB).at k hlt;obtain ⟨rfl, -, -⟩:=id hx;have a0:=ja 0 FK;simp only [show A8.sz=1 from rfl,Nat.mul_one,Nat.add_zero,List.getElem?_cons_zero,List.getElem?_cons_succ] at a0;clear ja;have hr:=hp k hlt wr _ F1 hB ⟨_,rfl,hx⟩;have hp:=Lib.hid hp;cases hpk:p xs[k]
   all_goals
    rw [hpk] at hr;have hpk:=Lib.hid hpk;have hr:=Lib.hid hr;go_wp2_with fail;refine hbd.upon hr.out ?_;rintro e w1 ⟨rfl,hb1⟩;refine ⟨_,rfl,?_⟩;have hB:=tr hB hb1 (Nat.le_refl _);clear hb1;go_wp2_with fail
   ·exact AL
   ·go_ret
    exact EV
  ·go_wp2
   go_ret
   exact DG
theorem Zv (fid:FuncId) (hbd:Zu prog fid) (caps:Array Value) (v:Value) (xs:List ByteArray) (F:List Nat) (p:ByteArray→Bool) (w:World) (h:Sl A8 w v xs F)
  (hp:∀(k:Nat) (hk:k < xs.length) (wr:World) (u:Value) (G:List Nat),Below w.heap.size w wr→IsC A8 wr u xs[k] G→Calls prog fid (#[u]++caps) wr fun e w'=>e=.returned (.bool (p xs[k]))∧Below wr.heap.size wr w') :
  Calls prog 302 #[v,.func (.func fid) #[] caps] w (RB (.bool (xs.any p)) w):=by
 have hp:=Lib.hid hp
 go_enter func302,ntmps302
 go_wp2_with fail;refine (Adf fid hbd caps v xs F p _ h hp.out).mono ?_;rintro e w1 ⟨rfl,hb1⟩;go_wp2_with fail
 go_ret
 exact ⟨Ci (T9 p xs),hb1⟩
theorem Abo (v:Value) (xs:List ByteArray) (F:List Nat) (w:World) (h:Sl A8 w v xs F) (hm:xs.length≤4294967296) :
  Calls prog 257 #[v] w (Nd A8 9 xs w):=by
 obtain ⟨ao,c,news,Fy,rfl,hl,hfy,hFy,hsrc⟩:=h.src;have hFl:=hfy.lt;have he:=fun w (a:Option Addr) (n c:Nat)=>Lib.run_eql_slice_nil (P:=prog) w 25 _ a n c 0 0 underlying25
 go_enter func257,ntmps257
 rcases hsrc with ⟨rfl,rfl,rfl⟩|⟨ad,rfl,hn⟩
 ·go_wp2
  go_ret
  exact BY
 ·go_wp2_with (at_builtin;refine Py Dx FK GE _ _ _ GE 9 (.string ⟨#[]⟩) 16 underlying25 Apq rfl (.slice (some ⟨w.heap.size,0,none⟩) 0 0) [] [w.heap.size] GE (Ow.empty (Ii.made _ _ _)) (Hd.one _) (some ad) xs c GE news Fy (hfy.frame fun b hb=>Below.heap_alloc _ _ _ (hFl b hb)) (.inr ⟨ad,rfl,fun j u hu=>kc ((Below.refl _ _).alloc (Nat.le_refl _) _) (hn j u hu)⟩) (fun b hb e=>by have:=hFl b hb;simp [Value.ownBlock] at e;omega) HQ HM ?_);intro v2 w2 F2 hA;go_wp2_with fail
  go_ret
  have hB:Below w.heap.size w w2:=((Below.refl _ _).alloc (Nat.le_refl _) _).trans (hA.I7.below FI FI);have hs:∀b,v2.ownBlock=some b→w.heap.size≤b:=fun b hb=>by rcases hA.Ato with e|e <;> rw [e] at hb <;> simp [Value.ownBlock] at hb <;> omega
  refine ⟨v2,F2,rfl,JJ,hA.ow.scal Gz▸?_,fun b hb=>?_,hB⟩
  ·cases v2.ownBlock <;> simp
  ·rw [hA.ow.scal Gz] at hb;exact hs b JV
def D8 (x:Aw):Bool:=B8 x.Ap && Ga 1 x.size 6 && decide ((x.An.length:Int)≤x.size) && x.An.all Rs
theorem Ea {x:Aw}:D8 x=true↔(0≤x.Ap∧x.Ap≤65535)∧(1≤x.size∧x.size≤6)∧(x.An.length:Int)≤x.size∧x.An.all Rs=true:=by
 unfold D8;simp only [Bool.and_eq_true,Bc,Ga,decide_eq_true_eq,and_assoc]
theorem Ams (s:ByteArray) (w:World) (hs:s.size≤maxLen) :
  Calls prog 303 #[.string s] w (RB (.bool (!Rs s)) w):=by
 go_enter func303,ntmps303
 go_wp2_with fail;refine (Acb s _ hs).mono ?_;rintro e w1 ⟨rfl,hb⟩;go_wp2_with fail
 go_ret
 exact ⟨rfl,hb⟩
theorem Ar5 (v:Value) (xs:List ByteArray) (F:List Nat) (w:World) (h:Sl A8 w v xs F) :
  Calls prog 241 #[v] w (RB (.bool (xs.all Rs)) w):=by
 have hq:(!xs.any fun s=>!Rs s)=xs.all Rs:=by rw [List.not_any_eq_all_not];simp
 replace hq:=Lib.hid hq
 go_enter func241,ntmps241
 go_wp2_with fail;refine (Zv _ (.mk' func303 rfl rfl) _ _ xs F (fun s=>!Rs s) _ h ?_).mono ?_
 ·rintro k hk wr u G hb ⟨_,rfl,hu⟩;obtain ⟨hu,hsz, -⟩:=hu;cases hu;exact Ams _ _ hsz
 rintro e w1 ⟨rfl,hb⟩;go_wp2_with fail
 go_ret
 exact ⟨Ci hq.out,hb⟩
theorem Sx (v:Value) (x:Aw) (F:List Nat) (w:World) (h:Jz Bw w v x F) :
  Calls prog 167 #[v] w (RB (.bool (D8 x)) w):=by
 obtain ⟨_,rfl,v1,rfl,h1⟩:=h;obtain ⟨a,c,rfl⟩:=h1.slice;have hl:=h1.len;unfold maxLen at hl;have hB0:∀A:Obj,Below w.heap.size w (w.alloc A):=fun A=>(Below.refl _ _).alloc (Nat.le_refl _) _
 go_enter func167,ntmps167
 go_wp2_with fail;refine (Jc _ _).mono ?_;rintro e w' ⟨rfl,rfl⟩;cases g1:B8 x.Ap
 ·go_wp2_with fail
  go_ret
  exact ⟨Ci (by simp [D8,g1]),hB0 _⟩
 go_wp2_with fail;refine (Id _ _ _ _).mono ?_;rintro e w' ⟨rfl,rfl⟩;cases g2:Ga 1 x.size 6
 ·go_wp2_with fail
  go_ret
  exact ⟨Ci (by simp [D8,g2]),hB0 _⟩
 by_cases g3:(x.An.length:Int)≤x.size
 ·go_wp2_with fail;refine (Ar5 _ x.An F _ (h1.below FK (hB0 _))).mono ?_;rintro e w1 ⟨rfl,hb⟩;go_wp2_with fail
  go_ret
  exact ⟨Ci (by simp [D8,g1,g2,g3]),tr (hB0 _) hb (Nat.le_refl _)⟩
 ·go_wp2_with fail
  go_ret
  exact EK
theorem Aar (v:Value) (x:Aw) (F:List Nat) (w:World) (h:Jz Bw w v x F) (hm:x.An.length≤4294967296) :
  Calls prog 184 #[v] w (Wm Km x w):=by
 obtain ⟨_,rfl,v1,rfl,h1⟩:=h;obtain ⟨a,c,rfl⟩:=h1.slice;have hB0:∀A B:Obj,Below w.heap.size w ((w.alloc A).alloc B):=fun A B=>((Below.refl _ _).alloc (Nat.le_refl _) _).alloc FI _
 go_enter func184,ntmps184
 go_wp2_with fail;refine (Abo _ x.An F _ (h1.below FK (hB0 _ _)) hm).mono ?_;rintro e w1 ⟨v2,F2,rfl,o,n,g,hb⟩;obtain ⟨a2,c2,rfl⟩:=o.slice;have r0:=Ii.below (g:=w.heap.size) (t:=44) (cs:=[.int .i64 x.Ap,.int .i64 x.size,.slice a x.An.length c]) HE hb;have r1:=Ii.below (g:=w.heap.size+1) (t:=44) (cs:=[.int .i64 0,.int .i64 0,.slice none 0 0]) HE hb;have hB:=tr (hB0 _ _) hb (Nat.le_refl _);have c0:=r0.cells;have f0:=r0.frozens;have c1:=r1.cells;have f1:=r1.frozens;clear hb;replace o:=Lib.hid o;go_wp2_with fail
 refine bodyPost_ret (v:=.agg #[.int .i64 x.Ap,.int .i64 x.size,.slice a2 x.An.length c2]) ?_ rfl ?_
 ·simp [results,results184,go_sem,c0,c1,f1]
 ·refine ⟨_,F2,rfl,⟨_,rfl,_,rfl,?_⟩,n,fun b hb=>by have:=g b hb;simp at this;omega,?_⟩
  ·repeat refine Ow.setFar ?_ (fun hm=>by have:=g _ hm;simp at this <;> omega) _
   exact o.out
  ·repeat refine Below.setCell ?_ GD _
   exact hB
theorem Ap4 (v:Value) (x:Aw) (F:List Nat) (w:World) (h:Jz Bw w v x F) :
  Calls prog 131 #[v] w (RB (.bool (D8 x)) w):=by
 obtain ⟨_,rfl,v1,rfl,h1⟩:=h;obtain ⟨a,c,rfl⟩:=h1.slice;have hl:=h1.len;unfold maxLen at hl;have hB0:∀A:Obj,Below w.heap.size w (w.alloc A):=fun A=>(Below.refl _ _).alloc (Nat.le_refl _) _
 go_enter func131,ntmps131
 go_wp2_with fail;refine (Pi _ _).mono ?_;rintro e w' ⟨rfl,rfl⟩;cases g1:B8 x.Ap
 ·go_wp2_with fail
  go_ret
  exact ⟨Ci (by simp [D8,g1]),hB0 _⟩
 go_wp2_with fail;refine (Kk _ _ _ _).mono ?_;rintro e w' ⟨rfl,rfl⟩;cases g2:Ga 1 x.size 6
 ·go_wp2_with fail
  go_ret
  exact ⟨Ci (by simp [D8,g2]),hB0 _⟩
 by_cases g3:x.size < (x.An.length:Int)
 ·go_wp2_with fail
  go_ret
  exact EK
 have hg:D8 x=x.An.all Rs:=by unfold D8;rw [g1,g2,decide_eq_true FH];simp
 replace hg:=Lib.hid hg;go_wp2_with fail;have r0:=Ii.made w 44 [.int .i64 x.Ap,.int .i64 x.size,.slice a x.An.length c];have h2:=h1.below FK (hB0 (.cells #[.int .i64 x.Ap,.int .i64 x.size,.slice a x.An.length c] 44));have hB:=hB0 (.cells #[.int .i64 x.Ap,.int .i64 x.size,.slice a x.An.length c] 44);generalize w.alloc (.cells #[.int .i64 x.Ap,.int .i64 x.size,.slice a x.An.length c] 44)=w1 at *;have c0:=r0.cells
 go_loop [3] (fun i=>∃k:Nat,k≤x.An.length∧i=.int .i64 k∧Hid (∀j,j < k→∀hj:j < x.An.length,Rs x.An[j]=true)) (fun i=>x.An.length - (intOf i).toNat)
 case atStart=>exact ⟨0,Nat.zero_le _,rfl,fun j hj=>by omega⟩
 case round =>
  obtain ⟨k,hk,rfl,hz⟩:=hrel;by_cases hlt:k < x.An.length
  ·obtain ⟨hsz,b,off,rfl,hc⟩:=h2.str.2.2 k hlt;cases hi:Rs x.An[k]
   ·have hi2:(decide ((x.An[k].size:Int)≤8) && Abb x.An[k].data.toList)=false:=hi;go_wp2_with fail;refine (Sg _ _ _ hsz).mono ?_;rintro e w' ⟨rfl,rfl⟩;go_wp2_with fail
    go_ret
    refine ⟨Ci ?_,hB⟩;rw [hg.out];exact (List.all_eq_false.2 ⟨x.An[k],List.getElem_mem _,by simp [hi]⟩).symm
   ·have hi2:(decide ((x.An[k].size:Int)≤8) && Abb x.An[k].data.toList)=true:=hi;go_wp2_with fail;refine (Sg _ _ _ hsz).mono ?_;rintro e w' ⟨rfl,rfl⟩;go_wp2_with fail;exact ⟨⟨k+1,FH,HL,fun j hj hl=>by rcases Nat.lt_or_eq_of_le (Nat.le_of_lt_succ hj) with h|h;exact hz.out j h hl;subst h;exact hi⟩,GO⟩
  ·have hk:k=x.An.length:=FH
   go_wp2_with fail
   go_ret
   refine ⟨Ci ?_,hB⟩;rw [hg.out];refine (List.all_eq_true.2 fun s hs=>?_).symm;obtain ⟨j,hj,rfl⟩:=List.getElem_of_mem hs;exact hz.out j FH hj
theorem Lk {p:Prop} (h:p:=by first|omega|(simp only [List.length_append,List.length_take,List.length_drop,List.length_cons,List.length_nil,List.length_set,List.length_replicate];omega)):p:=h
def EC (m:Nat):Bn (List Value) where
 sz:=m
 Kn _ cs x F:=cs=x∧(x.length=m∧∀u∈x,u.oneCell'=true)∧F=[]
 len h:=by obtain ⟨rfl,⟨h,_⟩,_⟩:=h;exact h
 lt h:=by obtain ⟨_,_,rfl⟩:=h;simp
 frame h _:=h
theorem Me (m:Nat):Abt (EC m):=fun h=>h.2.2
theorem Atb (m:Nat):X6 (EC m):=fun h=>by obtain ⟨rfl,⟨_,h⟩,_⟩:=h;exact h
theorem Amy {m:Nat} {w:World}:∀{ys:List (List Value)} {cs:List Value} {F:List Nat},Cy (EC m) w cs ys F→cs=ys.flatten∧F=[]∧∀y∈ys,y.length=m
 | [],_,_,h=>⟨h.1,h.2,FI⟩
 | y::r,_,_,h=>by
  obtain ⟨c1,c2,F1,F2,rfl,rfl,⟨rfl,⟨h1,_⟩,rfl⟩,h2⟩:=h;obtain ⟨rfl,rfl,h4⟩:=Amy h2;refine ⟨FI,rfl,fun z hz=>?_⟩;rcases List.mem_cons.1 hz with rfl|hz
  ·exact h1
  ·exact h4 z hz
theorem Aut {α:Type} {E:Bn α} {w w':World} (one:X6 E):∀{xs:List α} {cs:List Value} {G:List Nat},Cy E w cs xs G→∃ys:List (List Value),ys.length=xs.length∧cs=ys.flatten∧(∀y∈ys,y.length=E.sz)∧Cy (EC E.sz) w' cs ys []
 | [],_,_,h=>⟨[],rfl,h.1,FI,h.1,rfl⟩
 | x::r,_,_,h=>by
  obtain ⟨c1,c2,F1,F2,rfl,rfl,h1,h2⟩:=h;obtain ⟨ys,e1,rfl,e2,h3⟩:=Aut (w':=w') one h2;refine ⟨c1::ys,by simp [e1],FI,fun z hz=>?_,c1,ys.flatten,[],[],rfl,rfl,⟨rfl,⟨E.len h1,one h1⟩,rfl⟩,h3⟩;rcases List.mem_cons.1 hz with rfl|hz
  ·exact E.len h1
  ·exact e2 z hz
theorem Apk {m:Nat}:∀{ys:List (List Value)},(∀y∈ys,y.length=m)→ys.flatten.length=ys.length * m
 | [],_=>by simp
 | y::r,h=>by
  have:=Apk (m:=m) (ys:=r) fun z hz=>h z JR;rw [List.flatten_cons,List.length_append,this,h y FI,List.length_cons,Nat.add_mul];omega
theorem Cy.cut {α:Type} {E:Bn α} {w:World} {c1 c2:List Value} {x1 x2:List α} {G:List Nat} (h:Cy E w (c1++c2) (x1++x2) G) (hl:c1.length=x1.length * E.sz):∃G1 G2,G=G1++G2∧Cy E w c1 x1 G1∧Cy E w c2 x2 G2:=by
 obtain ⟨d1,d2,G1,G2,he,hG,h1,h2⟩:=h.split;have:d1.length=c1.length:=by rw [h1.len,hl]
 obtain ⟨rfl,rfl⟩:=List.append_inj he this.symm;exact ⟨G1,G2,hG,h1,h2⟩
theorem Bce:∀{N:List Pc},(fp N).Nodup→S9 N
 | [],_=>trivial
 | p::N,h=>⟨fun q hq _ b hb hqb=>Axw h hb (Qp.2 ⟨q,hq,hqb⟩),Bce (List.nodup_append.1 h).2.1⟩
theorem St.swap {G D w0 H M N R w} (s:St G D w0 H w) (hM:Ih H M R) (hm:∀p∈M,p.mu=true) (hN:Od N w) (hnd:(fp M).Nodup→(fp N).Nodup) (hF:∀b∈fp N,b∈fp M):St G D w0 (N++R) w :=
 have s1:St G D w0 (M++R) w:=by simpa using hM.st (X:=[]) HN
 have sM:S9 M:=by
  have:∀(M:List Pc),S9 (M++R)→S9 M:=by
   intro M
   induction M with
   | nil=>intro _;trivial
   | cons p M ih=>intro h;exact ⟨fun q hq=>h.1 q GQ,ih h.2⟩
  exact this M s1.sep
 have hn:(fp M).Nodup:=Apm KU (fun p hp=>s1.on p IC) sM
 St.turn (M:=M) (N:=N) s1 (Dr.refl _ w) hN (Bce (hnd hn)) fun p hp b hb=>by
  obtain ⟨q,hq,hqb⟩:=Qp.1 (hF b (Qp.2 ⟨p,hp,hb⟩));exact .inr (.inl ⟨q,hq,hm q hq,hqb⟩)
section
variable {c:Cx} {fr:Fr} {H:List Pc} {Φ:Gl}
theorem Aep {α:Type} {E:Bn α} (one:X6 E) {t:TypeId} {v:Value} {xs:List α} {F:List Nat} {S:List Pc} {m:Nat} (hm:E.sz=m)
  (h:∀(ys:List (List Value)) F0 G,ys.length=xs.length→(∀y∈ys,y.length=m)→T c fr (.ow (EC m) t v ys F0::.flat E ys.flatten xs G::S) Φ) (hp:Cn H (.ow E t v xs F) S:=by exact Da):T c fr H Φ:=.mk fun a w s g=>by
 subst hm;have s1:=s.pick hp;obtain ⟨hnd,ho⟩:=s1.on (.ow E t v xs F) FI;rcases ho with ⟨rfl,rfl,rfl⟩|⟨b,cap,cs,rest,G,rfl,h2,h3,h4,h5,h6,rfl⟩
 ·refine (h [] [] [] rfl FI).h a w (s1.swap (M:=[_]) (N:=[.ow (EC E.sz) t (.slice none 0 0) [] [],.flat E [] [] []]) (.cons .here .nil) IT ?_ (fun _=>by simp [fp,Pc.F]) GZ) g;intro p hp;simp only [List.mem_cons,List.not_mem_nil,or_false] at hp;rcases hp with rfl|rfl
  ·exact ⟨FI,.inl ⟨rfl,rfl,rfl⟩⟩
  ·exact ⟨FI,rfl,rfl⟩
 ·obtain ⟨ys,e1,rfl,e2,h7⟩:=Aut (w':=w) one h6;refine (h ys [b] G e1 e2).h a w (s1.swap (M:=[_]) (N:=[.ow (EC E.sz) t (.slice (some ⟨b,0,none⟩) xs.length cap) ys [b],.flat E ys.flatten xs G]) (.cons .here .nil) IT ?_ (fun hn=>by simpa [fp,Pc.F] using hn) GZ) g;intro p hp;simp only [List.mem_cons,List.not_mem_nil,or_false] at hp;rcases hp with rfl|rfl
  ·exact ⟨FI,.inr ⟨b,cap,ys.flatten,rest,[],by rw [e1],h2,by rw [e1];exact h3,h4,h5,h7,rfl⟩⟩
  ·exact ⟨(List.nodup_cons.1 hnd).2,h6⟩
theorem Bcp {α:Type} {E:Bn α} {t:TypeId} {a:Option Addr} {n cp:Nat} {ys:List (List Value)} {cs:List Value} {xs:List α} {F G:List Nat} {S S2:List Pc} {m:Nat}
  (h:T c fr (.ow E t (.slice a n cp) xs (F++G)::S2) Φ) (hm:E.sz=m) (hc:cs=ys.flatten) (hl:ys.length=xs.length) (hp:Cn H (.ow (EC m) t (.slice a n cp) ys F) S:=by exact Da) (hp2:Cn S (.flat E cs xs G) S2:=by exact Da):T c fr H Φ:=.mk fun ac w s g=>by
 subst hm hc;have a1:=s.on _ hp.mem;have a2:=s.on _ (hp.sub _ hp2.mem);obtain ⟨nd1,o1⟩:=a1;obtain ⟨nd2,f2⟩:=a2;refine h.h ac w (s.swap (M:=[.ow (EC E.sz) t (.slice a n cp) ys F,.flat E ys.flatten xs G]) (N:=[.ow E t (.slice a n cp) xs (F++G)]) (.cons hp (.cons hp2 .nil)) (by intro p hp;simp at hp;rcases hp with rfl|rfl <;> rfl) ?_ (fun hn=>by simpa [fp,Pc.F] using hn) GZ) g;have hnd:(F++G).Nodup:=by
  have s2:=s.pick hp;refine List.nodup_append.2 ⟨nd1,nd2,fun b hb b' hb' e=>?_⟩;subst e;exact s2.sep.1 (.flat E ys.flatten xs G) hp2.mem rfl b hb hb'
 intro p hp;simp only [List.mem_cons,List.not_mem_nil,or_false] at hp;subst hp;refine ⟨hnd,?_⟩;rcases o1 with ⟨h1,rfl,rfl⟩|⟨b,cap,cs,rest,G',h1,h2,h3,h4,h5,h6,rfl⟩
 ·cases h1;have:xs=[]:=List.eq_nil_of_length_eq_zero hl.symm;subst this;exact .inl ⟨rfl,rfl,by simpa using f2.2⟩
 ·cases h1;obtain ⟨rfl,rfl, -⟩:=Amy h6;exact .inr ⟨b,cp,ys.flatten,rest,G,by rw [hl],h2,by rw [←hl];exact h3,h4,h5,f2,rfl⟩
theorem Bcq {α:Type} {E:Bn α} {ys:List (List Value)} {xs:List α} {G:List Nat} {S:List Pc} (i:Nat) (hi:i < xs.length) (hl:ys.length=xs.length) (hm:∀y∈ys,y.length=E.sz)
  (h:∀G1 Gi G2,T c fr (.flat E (ys.take i).flatten (xs.take i) G1::.own E (.agg (ys[i]'FH).toArray) xs[i] Gi::.flat E (ys.drop (i+1)).flatten (xs.drop (i+1)) G2::S) Φ) (hp:Cn H (.flat E ys.flatten xs G) S:=by exact Da):T c fr H Φ:=.mk fun ac w s g=>by
 have s1:=s.pick hp;obtain ⟨hnd,hf⟩:=s1.on (.flat E ys.flatten xs G) FI;have e1:ys.flatten=(ys.take i).flatten++(ys[i]'FH++(ys.drop (i+1)).flatten):=by
  rw [←List.flatten_cons,←List.drop_eq_getElem_cons,←List.flatten_append,List.take_append_drop]
 have e2:xs=xs.take i++([xs[i]]++xs.drop (i+1)):=FI
 have hf2:Cy E w ((ys.take i).flatten++(ys[i]'FH++(ys.drop (i+1)).flatten)) (xs.take i++([xs[i]]++xs.drop (i+1))) G:=by rw [←e1,←e2];exact hf
 obtain ⟨G1,G',rfl,f1,f2⟩:=hf2.cut (by rw [Apk (m:=E.sz) fun y hy=>hm y (List.mem_of_mem_take hy)];simp [hl]);obtain ⟨Gi,G2,rfl,⟨d1,d2,F1,F2,h1,h2,h3,h4⟩,f3⟩:=f2.cut (by rw [hm _ (List.getElem_mem _)];simp);obtain ⟨rfl,rfl⟩:=h4;simp only [List.append_nil] at h1 h2;subst h1 h2;refine (h G1 Gi G2).h ac w (s1.swap (M:=[_]) (N:=[.flat E (ys.take i).flatten (xs.take i) G1,.own E (.agg (ys[i]'FH).toArray) xs[i] Gi,.flat E (ys.drop (i+1)).flatten (xs.drop (i+1)) G2]) (.cons .here .nil) IT ?_ (fun hn=>by simpa [fp,Pc.F] using hn) GZ) g
 have hn1:=List.nodup_append.1 hnd;have hn2:=List.nodup_append.1 hn1.2.1;intro p hp;simp only [List.mem_cons,List.not_mem_nil,or_false] at hp;rcases hp with rfl|rfl|rfl
 ·exact ⟨hn1.1,f1⟩
 ·exact ⟨hn2.1,_,rfl,h3⟩
 ·exact ⟨hn2.2.1,f3⟩
theorem Avi {α:Type} {E:Bn α} {c1 c2:List Value} {x1 x2:List α} {G1 G2:List Nat} {S S2:List Pc} (h:T c fr (.flat E (c1++c2) (x1++x2) (G1++G2)::S2) Φ) (hp:Cn H (.flat E c1 x1 G1) S:=by exact Da) (hp2:Cn S (.flat E c2 x2 G2) S2:=by exact Da):T c fr H Φ:=.mk fun ac w s g=>by
 obtain ⟨nd1,f1⟩:=s.on _ hp.mem;obtain ⟨nd2,f2⟩:=s.on _ (hp.sub _ hp2.mem);refine h.h ac w (s.swap (M:=[.flat E c1 x1 G1,.flat E c2 x2 G2]) (N:=[.flat E (c1++c2) (x1++x2) (G1++G2)]) (.cons hp (.cons hp2 .nil)) (by intro p hp;simp at hp;rcases hp with rfl|rfl <;> rfl) ?_ (fun hn=>by simpa [fp,Pc.F] using hn) GZ) g;intro p hq;simp only [List.mem_cons,List.not_mem_nil,or_false] at hq;subst hq;refine ⟨List.nodup_append.2 ⟨nd1,nd2,fun b hb b' hb' e=>?_⟩,f1.append f2⟩;subst e;exact (s.pick hp).sep.1 (.flat E c2 x2 G2) hp2.mem rfl b hb hb'
def Bga {α:Type} (E:Bn α) (t:TypeId) (g:Nat) (v:Value) (xs:List α) (i:Nat) (A B c1 c2:List Value):Prop :=
 ∀w cs y G1 Gi G2,Ii w g t (A++cs++B)→Cy E w c1 (xs.take i) G1→E.Kn w cs y Gi→Cy E w c2 (xs.drop (i+1)) G2→Ow E t w v (xs.set i y) (g::(G1++Gi++G2))
theorem Wu {α:Type} {E:Bn α} {t:TypeId} {a:Option Addr} {n cp m:Nat} {xs:List α} {F:List Nat} {S:List Pc} (i:Nat)
  (h:∀(_:i < xs.length) g A cs B c1 c2 G1 Gi G2,a=some ⟨g,0,none⟩→n=xs.length→n≤cp→Bga E t g (.slice (some ⟨g,0,none⟩) n cp) xs i A B c1 c2→T c fr (.row g t (0+i * m) A cs B::.own E (.agg cs.toArray) xs[i] Gi::.flat E c1 (xs.take i) G1::.flat E c2 (xs.drop (i+1)) G2::S) Φ)
  (hm:E.sz=m) (hi:i < xs.length) (hp:Cn H (.ow E t (.slice a n cp) xs F) S:=by exact Da):T c fr H Φ:=.mk fun ac w s ag=>by
 subst hm;have s1:=s.pick hp;obtain ⟨hnd,ho⟩:=s1.on (.ow E t (.slice a n cp) xs F) FI;rcases ho with ⟨-,rfl, -⟩|⟨g,cap,cs0,rest,G,h1,h2,h3,h4,h5,h6,rfl⟩
 ·simp at hi
 cases h1;obtain ⟨A,cs,B,G1,Gi,G2,rfl,rfl,hA,hc,f1,f2,f3⟩:=h6.focus i hi
 refine (h hi g A cs (B++rest) A B G1 Gi G2 rfl rfl h3 ?_).h ac w (s1.swap (M:=[_]) (N:=[.row g t (0+i * E.sz) A cs (B++rest),.own E (.agg cs.toArray) xs[i] Gi,.flat E A (xs.take i) G1,.flat E B (xs.drop (i+1)) G2]) (.cons .here .nil) IT ?_ (fun hn=>?_) (fun b hb=>?_)) ag
 ·intro w' cs' y G1' Gi' G2' hr k1 k2 k3;have:=Cy.build hi k1 k2 k3;have hl:=this.len;exact .inr ⟨g,cp,A++cs'++B,rest,G1'++Gi'++G2',FI,HG,IV,h4,by
   have e1:=E.len k2;simp only [List.length_append] at h5 ⊢;omega,this,rfl⟩
 ·have hn1:=List.nodup_append.1 (List.nodup_cons.1 hnd).2;have hn2:=List.nodup_append.1 hn1.1;intro p hp;simp only [List.mem_cons,List.not_mem_nil,or_false] at hp;rcases hp with rfl|rfl|rfl|rfl
  ·exact ⟨FH,IH⟩
  ·exact ⟨hn2.2.1,_,rfl,f2⟩
  ·exact ⟨hn2.1,f1⟩
  ·exact ⟨hn1.2.1,f3⟩
 ·have:(g::(G1++Gi++G2)).Perm ([g]++(Gi++(G1++(G2++[])))):=by
   exact CV
  exact this.nodup_iff.1 (by simpa [fp,Pc.F] using hn)
 ·simp only [fp,Pc.F,List.append_nil,List.mem_append,List.mem_cons,List.not_mem_nil,or_false] at hb ⊢
  grind
theorem Sw {α:Type} {E:Bn α} {t:TypeId} {g o i:Nat} {u v:Value} {xs:List α} {A cs B c1 c2:List Value} {x1 x2:List α} {G1 Gi G2:List Nat} {S1 S2 S3 S4:List Pc} (y:α) (hh:Bga E t g u xs i A B c1 c2) (hv:v=.agg cs.toArray) (h:∀F',T c fr (.ow E t u (xs.set i y) F'::S4) Φ) (e1:x1=xs.take i:=by rfl) (e2:x2=xs.drop (i+1):=by rfl)
  (hp1:Cn H (.row g t o A cs B) S1:=by exact Da) (hp2:Cn S1 (.own E v y Gi) S2:=by exact Da) (hp3:Cn S2 (.flat E c1 x1 G1) S3:=by exact Da) (hp4:Cn S3 (.flat E c2 x2 G2) S4:=by exact Da):T c fr H Φ:=.mk fun ac w s ag=>by
 subst hv e1 e2;have hP:Ih H [.row g t o A cs B,.own E (.agg cs.toArray) y Gi,.flat E c1 (xs.take i) G1,.flat E c2 (xs.drop (i+1)) G2] S4:=.cons hp1 (.cons hp2 (.cons hp3 (.cons hp4 .nil)));have s1:St c.G c.D c.w0 ([.row g t o A cs B,.own E (.agg cs.toArray) y Gi,.flat E c1 (xs.take i) G1,.flat E c2 (xs.drop (i+1)) G2]++S4) w:=by simpa using hP.st (X:=[]) HN
 obtain ⟨-,r⟩:=s1.on (.row g t o A cs B) FI;obtain ⟨-,cs',e,hr⟩:=s1.on (.own E (.agg cs.toArray) y Gi) FI;obtain rfl:cs=cs':=by simpa using e
 have f1:=(s1.on (.flat E c1 (xs.take i) G1) FI).2;have f3:=(s1.on (.flat E c2 (xs.drop (i+1)) G2) FI).2;have hO:=hh w cs y G1 Gi G2 r f1 hr f3;have hpm:(g::(G1++Gi++G2)).Perm ([g]++(Gi++(G1++(G2++[])))):=by
  exact CV
 have hmM:∀p∈[Pc.row g t o A cs B,.own E (.agg cs.toArray) y Gi,.flat E c1 (xs.take i) G1,.flat E c2 (xs.drop (i+1)) G2],p.mu=true:=by intro p hp;simp only [List.mem_cons,List.not_mem_nil,or_false] at hp;rcases hp with rfl|rfl|rfl|rfl <;> rfl
 have hndM:(fp [Pc.row g t o A cs B,.own E (.agg cs.toArray) y Gi,.flat E c1 (xs.take i) G1,.flat E c2 (xs.drop (i+1)) G2]).Nodup:=Apm (by simpa using hmM) (fun p hp=>s1.on p (List.mem_append_left _ hp)) (by
  have sp:=s1.sep;exact ⟨fun q hq=>sp.1 q (List.mem_append_left _ hq),fun q hq=>sp.2.1 q (List.mem_append_left _ hq),fun q hq=>sp.2.2.1 q (List.mem_append_left _ hq),fun q hq=>sp.2.2.2.1 q (List.mem_append_left _ hq),trivial⟩)
 have hnd:(g::(G1++Gi++G2)).Nodup:=hpm.nodup_iff.2 (by simpa [fp,Pc.F] using hndM);refine (h (g::(G1++Gi++G2))).h ac w (s.swap hP hmM (N:=[.ow E t u (xs.set i y) (g::(G1++Gi++G2))]) (by intro p hp;rw [List.mem_singleton] at hp;subst hp;exact ⟨hnd,hO⟩) (fun _=>by simpa [fp,Pc.F] using hnd) (fun b hb=>?_)) ag;simp only [fp,Pc.F,List.append_nil,List.mem_append,List.mem_cons,List.not_mem_nil,or_false] at hb ⊢
 grind
theorem Adi {α:Type} {E:Bn α} {t e m b:Nat} {z:Value} [hS:SlC c.P t e m] [hE:ElT c.P e z m b] {xs:List α} {F Fy:List Nat} {g tt:Nat} {cs:List Value} {u:Value} {R R2 S:List Pc} {d:Nat} {ty:TypeId} {v:Value} {x y:Operand} (one:X6 E) (ey:α) (hu:u=.agg cs.toArray)
  (h:∀a' c' F',T c ((d,.slice a' (xs++[ey]).length c')::fr) (.ow E e (.slice a' (xs++[ey]).length c') (xs++[ey]) F'::S) Φ)
  (hx:ev fr x=some v:=by rfl) (hy:ev fr y=some (.slice (some ⟨g,0,none⟩) 1 1):=by rfl) (hp:Cn H (.ow E e v xs F) R:=by exact Da) (hp2:Cn R (.row g tt 0 [] cs []) R2:=by exact Da) (hp3:Cn R2 (.own E u ey Fy) S:=by exact Da) (hz:0 < E.sz:=by decide) (hm:E.sz=m:=by rfl)
  (h63:xs.length+1≤9223372036854775807:=by omega) (hby:(xs.length+1) * b≤140737488355328:=by omega) (hd:Nat.blt d c.n=true:=by rfl) :
  On c fr H (some d) (.call { callee:=.builtin .append,args:=#[x,y],argTypes:=#[t,t] }) ty Φ:=⟨fun _ _ _=>by
 subst hu;refine ap (ys:=[ey]) (Fy:=Fy) (S:=S) one hz hm hp hx hy rfl (fun w s=>?_) (fun w v' F' s hF w' hk hv=>?_) (by unfold maxLen;exact h63) hby h hd
 ·have hro:=s.on (.row g tt 0 [] cs []) (by simp [hp2.mem]);have how:=s.on (.own E (.agg cs.toArray) ey Fy) (by simp [hp2.sub _ hp3.mem]);obtain ⟨hnd,cs',e1,hrep⟩:=how;obtain rfl:cs=cs':=by simpa using e1
  refine ⟨cs,Cy.one hrep,.inr ⟨_,rfl,fun j u hu=>?_⟩,fun b hb hbF=>?_,hnd⟩
  ·have hr:=hro.2;have:=hr.cell j;simp only [List.nil_append,List.append_nil] at this;rw [hu] at this;unfold Addr.add
   split
   ·rename_i e;subst e;exact this
   ·exact EM
  ·exact s.sep.1 (.own E (.agg cs.toArray) ey Fy) (hp2.sub _ hp3.mem) rfl b hbF hb
 ·have hP:Ih (.ow E e v xs F::R) [.ow E e v xs F,.own E (.agg cs.toArray) ey Fy,.row g tt 0 [] cs []] S:=.cons .here (by
   have:∀{R R2 S:List Pc} {p q:Pc},Cn R p R2→Cn R2 q S→Ih R [q,p] S:=by
    intro R R2 S p q h1
    induction h1 generalizing S with
    | here=>intro h2;exact .cons (.there h2) (.cons .here .nil)
    | @there x p R R' h ih =>
     intro h2;cases h2 with
     | here=>exact .cons .here (.cons h .nil)
     | there h3 =>
      cases ih h3 with
      | cons a1 a2 =>
       cases a2 with
       | cons b1 b2=>cases b2;exact .cons (.there a1) (.cons (.there b1) .nil)
   exact this hp2 hp3)
  have s1:St c.G c.D c.w0 ([.ow E e v xs F,.own E (.agg cs.toArray) ey Fy]++S) w:=by
   have s0:St c.G c.D c.w0 ([.ow E e v xs F,.own E (.agg cs.toArray) ey Fy,.row g tt 0 [] cs []]++S) w:=by simpa using hP.st (X:=[]) HN
   have sp:=s0.sep;have hm3:∀q,q∈[Pc.ow E e v xs F,.own E (.agg cs.toArray) ey Fy]++S→q∈[Pc.ow E e v xs F,.own E (.agg cs.toArray) ey Fy,.row g tt 0 [] cs []]++S:=fun q hq=>by
    simp only [List.cons_append,List.nil_append,List.mem_cons] at hq ⊢;rcases hq with h|h|h
    ·exact .inl h
    ·exact .inr (.inl h)
    ·exact .inr (.inr (.inr h))
   exact ⟨s0.I7,fun q hq=>s0.on q (hm3 q hq),⟨fun q hq=>sp.1 q (by
    rcases List.mem_cons.1 hq with h|h
    ·simp [h]
    ·exact List.mem_cons_of_mem _ (List.mem_cons_of_mem _ h)),fun q hq=>sp.2.1 q (List.mem_cons_of_mem _ hq),sp.2.2.2⟩,fun q hq=>s0.Ad9 q (hm3 q hq)⟩
  refine St.turn (M:=[.ow E e v xs F,.own E (.agg cs.toArray) ey Fy]) (N:=[.ow E e v' (xs++[ey]) F']) s1 (hk.mono (fun b hb _=>by simp [List.filter,Pc.mu,fp,Pc.F,hb])) JT ⟨FI,trivial⟩ ?_;intro q hq b hb;simp only [List.mem_cons,List.not_mem_nil,or_false] at hq;subst hq;rcases hF b hb with h|h|h
  ·exact .inr (.inl ⟨.ow E e v xs F,FI,rfl,h⟩)
  ·exact .inr (.inl ⟨.own E (.agg cs.toArray) ey Fy,FI,rfl,h⟩)
  ·exact .inl FH⟩
theorem Bct {α:Type} {E:Bn α} {a:Option Addr} {n cp:Nat} {xs:List α} {F:List Nat} (k:Nat) (hk:k≤xs.length) (h:∀F',n≤cp→cp≤9223372036854775807→T c fr (.sl E (.slice a k cp) (xs.take k) F'::H) Φ) (hm:.sl E (.slice a n cp) xs F∈H:=by exact A9):T c fr H Φ:=.mk fun ac w s g=>by
 obtain ⟨hz,hs⟩:=s.get hm;obtain ⟨rfl,hnc,hmx⟩:=hs.caps;obtain ⟨F',hF,h2⟩:=hs.takeS k hk;exact (h F' hnc (by unfold maxLen at hmx;omega)).h ac w (s.ro hm rfl rfl ⟨hz,h2⟩ hF) g
/-! the same for slices that read -/
def EA {α:Type} (E:Bn α) (n:Nat):Bn (List α) where
 sz:=n * E.sz
 Kn w cs xs F:=xs.length=n∧Cy E w cs xs F
 len h:=by obtain ⟨rfl,h⟩:=h;exact h.len
 lt h:=h.2.lt
 frame h hF:=⟨h.1,h.2.frame hF⟩
theorem Agp {α:Type} {E:Bn α} {a:Option Addr} {n cp m k:Nat} {ys:List (List Value)} {v:Value} {xs:List α} {F G:List Nat} (hm:E.sz=m) (hl:ys.length=xs.length) (hv:v=.agg ys.flatten.toArray)
  (h:∀F',T c fr (.sl E (.slice a n cp) xs F'::H) Φ) (hp:.sl (EC m) (.slice a n cp) ys F∈H:=by exact A9) (hp2:.isv (EA E k) v xs G∈H:=by exact A9):T c fr H Φ:=.mk fun ac w s g=>by
 subst hm hv;obtain ⟨hz,a',cap,hv,hlc,hh⟩:=s.get hp;cases hv;obtain ⟨cs,e, -,hf⟩:=s.get hp2;obtain rfl:ys.flatten=cs:=by simpa using e
 rcases hh with ⟨rfl,rfl,h0⟩|⟨b,off,F',rfl,hne,rfl,hc⟩
 ·have:xs=[]:=List.eq_nil_of_length_eq_zero hl.symm;subst this;refine (h []).h ac w (s.add (N:=[.sl E (.slice a 0 cp) [] []]) (Below.refl _ _) (by intro p hp;simp only [List.mem_cons,List.not_mem_nil,or_false] at hp;subst hp;exact ⟨hz,a,cp,rfl,hlc,.inl ⟨rfl,rfl,h0⟩⟩) ⟨FI,trivial⟩ (by intro p hp b hb;simp only [List.mem_cons,List.not_mem_nil,or_false] at hp;subst hp;simp [Pc.F] at hb)) g
 ·have hxs:xs≠[]:=by rintro rfl;exact hne (List.eq_nil_of_length_eq_zero hl)
  have key:∀(ys:List (List Value)) (off:Nat) (G:List Nat),Pg (EC E.sz) w b off ys G→∀j u,ys.flatten[j]?=some u→w.cell? ⟨b,off+j,none⟩=some u:=by
   intro ys
   induction ys with
   | nil=>intro off G _ j u hu;simp at hu
   | cons y r ih =>
    intro off G h j u hu;obtain ⟨c1,F1,F2,rfl,⟨rfl,⟨hy, -⟩, -⟩,h2,h3⟩:=h;rw [List.flatten_cons] at hu;by_cases hj:j < c1.length
    ·rw [List.getElem?_append_left hj] at hu;rw [h2 j (by show j < E.sz;omega)];exact hu
    ·rw [List.getElem?_append_right FH] at hu;have:=ih _ _ h3 _ _ hu
     rwa [show off+(EC E.sz).sz+(j - c1.length)=off+j by show off+E.sz+(j - c1.length)=off+j;omega] at this
  refine (h (b::G)).h ac w (s.add (N:=[.sl E (.slice (some ⟨b,off,none⟩) ys.length cp) xs (b::G)]) (Below.refl _ _) (by
   intro p hp;simp only [List.mem_cons,List.not_mem_nil,or_false] at hp;subst hp;exact ⟨hz,_,cp,by rw [hl],by rw [←hl];exact hlc,.inr ⟨b,off,G,rfl,hxs,rfl,hf.cells (fun j u hu=>key ys off F' hc j u hu)⟩⟩) ⟨FI,trivial⟩ (by
   intro p hq z hb;simp only [List.mem_cons,List.not_mem_nil,or_false] at hq;subst hq;simp only [Pc.F,List.mem_cons] at hb;rcases hb with rfl|hb
   ·exact .inr ⟨rfl,_,hp,rfl,KV⟩
   ·exact .inr ⟨rfl,_,hp2,rfl,hb⟩)) g
theorem Ac0 {α:Type} {O R:Bn α} (hW:Kq O R) {v:Value} {x:α} {F:List Nat} {S:List Pc} (h:∀F',T c fr (.isv R v x F'::S) Φ) (hp:Cn H (.own O v x F) S:=by exact Da):T c fr H Φ:=.mk fun a w s g=>by
 exact DV
end
theorem Qy {p:Pc} {N:List Pc} {w:World} (h:p.P w) (hN:Od N w):Od (p::N) w:=fun q hq=>by
 rcases List.mem_cons.1 hq with rfl|hq
 ·exact h
 ·exact hN q hq
theorem Auw {w:World}:Od [] w:=fun q hq=>by cases hq
theorem Qz {p:Pc} {N:List Pc} {w:World} (h:Od (p::N) w):p.P w:=h p FI
theorem H9 {p:Pc} {N:List Pc} {w:World} (h:Od (p::N) w):Od N w:=fun q hq=>h q GQ
theorem Ma {A B:List Nat} (h:(A++B).Nodup):A.Nodup:=(List.nodup_append.1 h).1
theorem Ach {A B:List Nat} (h:(A++B).Nodup):B.Nodup:=(List.nodup_append.1 h).2.1
theorem St.mer {G D w0 H M N R w} (s:St G D w0 H w) (hM:Ih H M R) (hN:Od M w→(fp M).Nodup→Od N w∧(fp N).Nodup) (hF:∀b∈fp N,b∈fp M) (hm:∀p∈M,p.mu=true:=by simp [Pc.mu]):St G D w0 (N++R) w :=
 have s1:St G D w0 (M++R) w:=by simpa using hM.st (X:=[]) HN
 have sM:S9 M:=by
  have:∀(M:List Pc),S9 (M++R)→S9 M:=by
   intro M
   induction M with
   | nil=>intro _;trivial
   | cons p M ih=>intro h;exact ⟨fun q hq=>h.1 q GQ,ih h.2⟩
  exact this M s1.sep
 have hh:Od M w:=fun p hp=>s1.on p IC;have hn:=hN hh (Apm KU hh sM)
 s.swap hM hm hn.1 (fun _=>hn.2) hF
end Go.Proofs.YtcmighgaiacgoaaGreatDoor
