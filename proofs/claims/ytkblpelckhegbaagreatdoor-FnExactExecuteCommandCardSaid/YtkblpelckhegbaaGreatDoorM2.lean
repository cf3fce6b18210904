/- Part 2 of the proof: 41 texts, one behind the other. -/
import Derived.Test.YtkblpelckhegbaaGreatDoorProg
import Derived.Test.YtkblpelckhegbaaGreatDoorShelf
import Derived.Lib.Overlaps
import Derived.Lib.AppendZerosOnto
import Derived.Laws.IdiomCopy
import Derived.Test.YtkblpelckhegbaaGreatDoorM1
open _root_.Go.Proofs.Tryz
set_option maxRecDepth 100000
set_option maxHeartbeats 8000000
set_option linter.all false
set_option linter.unusedVariables false
set_option linter.unusedSimpArgs false
namespace Go.Proofs.YtkblpelckhegbaaGreatDoor
theorem AA{p:Prop}(h:p:=by refine go ?_;refine ret () trivial rfl):p:=h
theorem AF{p:Prop}(h:p:=by refine dk ?_;refine dN 5 ?_;refine Pm Iy Id fun a2 c2 F2=>?_;refine dk ?_;refine dt 6 ?_;refine dN 8 ?_;refine oS ?_;refine Tx ?_;refine dd ?_;refine Bt (⟨_,a2,c2,F2⟩:CpS) trivial):p:=h
theorem AG{p:Prop}(h:p:=by obtain ⟨cs,rfl,v1,rfl,h1⟩:=s.get hm;obtain ⟨a1,c1,rfl⟩:=h1.slice;have l1:=h1.len;have t1:=s.ro (p:=.sl _ _ _ _) hm rfl rfl ⟨by decide,h1⟩ fun b hb=>hb;exact (h a1 c1 F rfl  l1).h a w t1 g):p:=h
theorem AH{p:Prop}(h:p:=by refine h.h a w (s.add (N:=[_]) (Below.refl _ _) (by intro q hq;simp at hq;subst hq;exact ⟨_,rfl,_,rfl,(s.get m1).2⟩) ⟨by simp,trivial⟩ fun q hq b hb=>?_) g;simp at hq;subst hq;simp only [Pc.F,List.mem_append] at hb;exact .inr ⟨rfl,_,m1,rfl,hb⟩):p:=h
theorem AT{p:Prop}(h:p:=by exact .inr (.inl ⟨_,List.mem_singleton.2 rfl,rfl,hb⟩)):p:=h
theorem AW{p:Prop}(h:p:=by obtain ⟨b,o,cs,G,ha,hrep,hG,hb,hne,hr⟩:=Y9 (s.get hm) i hi;obtain ⟨v1,rfl,h1⟩:=hrep;obtain ⟨a1,c1,rfl⟩:=h1.slice;have l1:=h1.len;have t1:=s.ro (p:=.sl _ _ _ _) hm rfl rfl ⟨by decide,h1⟩ (by intro b hb;simp only [Pc.F] at hb ⊢;exact hG b (by simp [hb]));exact (h hi b o a1 c1 G ha  l1).h ac w (t1.ro (List.mem_cons_of_mem _ hm) rfl rfl ⟨hne,hr⟩ (by intro x hx;simp [Pc.F] at hx;subst hx;exact hb)) g):p:=h
theorem AX{p:Prop}(h:p:=by refine Pm Iy Id fun a2 c2 F2=>?_;refine dk ?_;refine dt 6 ?_;refine dN 7 ?_;apply Cr;rfl;intro _;refine dk ?_;refine dN 8 ?_;refine oS ?_;refine Tx ?_;refine dd ?_;refine Bt (⟨_,a2,c2,F2⟩:CpS) trivial):p:=h
theorem BG{p:Prop}(h:p:=by have hps:=Abp (x:=x) (k:=k) hs (s:=⟨true,Dk⟩) hi;refine A4 (xs:=M3 x k ⟨true,Dk⟩) fun F4=>?_;refine B4 ⟨x.next,M3 x k ⟨true,Dk⟩⟩ ?_;refine go ?_;refine Cb (W9 ⟨x.next,M3 x k ⟨true,Dk⟩⟩ _ _ h0 h1 (by show (M3 x k ⟨true,Dk⟩).length≤_;omega) hps) fun z hz=>?_;refine go ?_;refine ret z ⟨by rw [hz.1,hW],by rw [hz.2,hE]⟩ rfl):p:=h
theorem BQ{p:Prop}(h:p:=by have s1:=s.pick hp;have hr:=(s1.on (.row g t 0 [] cs []) (by simp)).2;have hlen:=(hfl w).len;refine h.h a w (s1.conv rfl ⟨by simp,.inr ⟨g,xs.length,cs,[],[],rfl,by simpa using hr,Nat.le_refl _,by unfold maxLen;omega,by simpa using hlen,hfl w,rfl⟩⟩ (by simp [Pc.F])) g'):p:=h
theorem BR{p:Prop}(h:p:=by refine go ?_;refine ret () trivial ?_;rw [N6 (fun j hj=>hk2 j hj hj)];rfl):p:=h
theorem BY{p:Prop}(h:p:=by refine Ce ⟨s.es++[Hb s.y.Am],shW s.y,a5,c5,F5,a',c',F'⟩ ⟨(Kd _ _).1,(Kd _ _).2,fun z hz=>hit z (List.mem_of_mem_drop hz),by simp [shW];omega,by simp [shW];omega,by rw [hw,hst];rfl,by rw [he,hst];simp [Pf,shW]⟩ (by show Ez (Ci s.y.next 1) n < _;omega)):p:=h
theorem CA{p:Prop}(h:p:=by exact ⟨.slice none 0 0,[],rfl,.inl ⟨rfl,rfl,rfl⟩,by simp,by simp,Below.refl _ _⟩):p:=h
theorem CB{p:Prop}(h:p:=by simp at hq;subst hq;simp only [Pc.F,List.mem_append] at hb;exact AT):p:=h
theorem CN{p:Prop}(h:p:=by obtain ⟨b,o,cs,G,ha,hrep,hG,hb,hne,hr⟩:=Y9 (s.get hm) i hi;obtain ⟨rfl,s1,rfl⟩:=hrep;exact (h hi b o  ha s1 ).h ac w (s.ro hm rfl rfl ⟨hne,hr⟩ (by intro x hx;simp [Pc.F] at hx;subst hx;exact hb)) g):p:=h
theorem CX{p:Prop}(h:p:=by simp only [List.singleton_append,List.append_nil,List.append_assoc];refine List.Perm.cons _ ?_;rw [←List.append_assoc,←List.append_assoc];exact (List.perm_append_comm).append_right _):p:=h
theorem CY{p:Prop}(h:p:=by rw [e];refine Ce ⟨s.j+1,a',c',F'⟩ (by show s.j+1≤_;omega) (by show _ - (s.j+1) < _;omega)):p:=h
theorem CZ{p:Prop}(h:p:=by apply Cr;rfl;intro _;refine dk ?_;refine dN 2 ?_;apply Mx;rfl;intro _;refine Dc B9 ?_;exact AF):p:=h
theorem DJ{p:Prop}(h:p:=by intro q hq;simp at hq;subst hq;exact ⟨hn,h1⟩):p:=h
theorem DQ{p:Prop}(h:p:=by intro q hq b hb;simp at hq;subst hq;exact AT):p:=h
theorem DR{p:Prop}(h:p:=by have:=h.h a w.drew (s.below (D7 (Below.refl _ _) 1)) g;simpa [Gl.sem] using this):p:=h
theorem DW{p:Prop}(h:p:=by have s1:=s.pick hp;obtain ⟨-,ho⟩:=s1.on (.own O v x F) (by simp);obtain ⟨F',hF,hs⟩:=Jy.weak hW ho;exact (h F').h a w (s1.conv rfl hs hF) g):p:=h
theorem EH{p:Prop}(h:p:=by dsimp only;rw [Hx hj (by simp [hpj]),←h4,List.take_add_one,List.getElem?_set_self (by omega),List.take_set_of_le (Nat.le_refl _)];rfl):p:=h
theorem EL{p:Prop}(h:p:=by exact ⟨Cm (by simp only [D9,decide_eq_false (show ¬(x.Ao.length:Int)≤x.size by omega),Bool.and_false,Bool.false_and]),hB0 _⟩):p:=h
theorem EQ{p:Prop}(h:p:=by refine go ?_;refine ret ⟨s.es++z.es,z.y,z.a,z.c,z.F,a',c',F2⟩ ⟨by rw [hz.1,hw];rfl,by rw [hz.2,he,hw];simp [Pf,Jc]⟩ rfl):p:=h
theorem EV{p:Prop}(h:p:=by have a1:=List.drop_eq_getElem_cons hjz;have a2:=List.drop_eq_getElem_cons hj;rw [h5,a2] at a1;exact (List.cons.inj a1).1.symm):p:=h
theorem EX{p:Prop}(h:p:=by simp only [execOp,Option.map_none,Option.map_some,hA.ev hx,hA.ev hy,hA.ev hz,Sem.run_bind,h3,Result.andThen_ok,Sem.run_pure]):p:=h
theorem FX{p:Prop}(h:p:=by rw [List.getElem?_toArray];rfl):p:=h
theorem GA{p:Prop}(h:p:=by rw [List.length_take];omega):p:=h
theorem GQ{p:Prop}(h:p:=by simpa [Pc.mu] using hA):p:=h
theorem GW{p:Prop}(h:p:=by intro q hq;simp at hq;subst hq;exact ⟨hN,_,rfl,_,rfl,k1⟩):p:=h
theorem HB{p:Prop}(h:p:=by simp [fp,Pc.F]):p:=h
theorem HF{p:Prop}(h:p:=by simp [Jq] <;> omega):p:=h
theorem HW{p:Prop}(h:p:=by rw [List.length_append,List.length_take,List.length_replicate];omega):p:=h
theorem HY{p:Prop}(h:p:=by simpa [List.filter,Pc.mu,fp,Pc.F] using hk):p:=h
theorem II{p:Prop}(h:p:=by simp [shW];omega):p:=h
theorem IJ{p:Prop}(h:p:=by simp only [Na,List.replicate_zero,List.append_nil];exact Abo):p:=h
theorem IN{p:Prop}(h:p:=by intro q hq b hb;simp at hq;subst hq;exact .inl (hF b hb)):p:=h
theorem IT{p:Prop}(h:p:=by intro p hp;simp at hp;subst hp;rfl):p:=h
theorem JF{p:Prop}(h:p:=by dsimp only;omega):p:=h
theorem JI{p:Prop}(h:p:=by rw [h7] at hF;simpa [Value.ownBlock] using hF):p:=h
theorem JP{p:Prop}(h:p:=by unfold Jb;rw [show gp x.next (Ci x.next k)=k by unfold gp Ci;omega,Int.toNat_natCast,h]):p:=h
theorem JT{p:Prop}(h:p:=by intro q hq;simp at hq;subst hq;exact hv):p:=h
theorem JV{p:Prop}(h:p:=by simpa using hb):p:=h
theorem KB{p:Prop}(h:p:=by unfold M3;rw [List.length_set,Ps];omega):p:=h
theorem KD{p:Prop}(h:p:=by show Dk.size≤maxLen;unfold maxLen;omega):p:=h
theorem KZ{p:Prop}(h:p:=by rcases List.mem_cons.1 hq with rfl|hq;simp;simp [hp2.sub q hq]):p:=h
theorem LF{p:Prop}(h:p:=by show n - (j+1) < n - j;omega):p:=h
theorem LJ{p:Prop}(h:p:=by intro q hq;rw [List.mem_singleton] at hq;subst hq;exact hW):p:=h
theorem LL{p:Prop}(h:p:=by simp [Na,List.replicate_succ']):p:=h
end Go.Proofs.YtkblpelckhegbaaGreatDoor
namespace Go.Proofs.YtkblpelckhegbaaGreatDoor
open Go.RowKit
abbrev FV (f:FuncId) (a:List Value) (A:List Pc) (v:Value):Prop:=Fn prog f a A [] (fun (_:Unit)=>True) (fun _=>v) (fun _=>[])
end Go.Proofs.YtkblpelckhegbaaGreatDoor
namespace Go.Proofs.YtkblpelckhegbaaGreatDoor
open Go.RowKit
theorem Axv {A B:List Nat} (h:(A++B).Nodup) {b:Nat} (ha:b∈A) (hb:b∈B):False:=(List.nodup_append.1 h).2.2 b ha b hb rfl
section
variable {c:Cx} {fr:Fr} {H:List Pc} {k:List It} {Φ:Gl} {ops:Array Oper} {rest:List Oper} {d:Nat} {o:Op} {ty:TypeId} {pos:String} {Ci:Array Edge} {v u:Value} {x y:Operand}
theorem ap {α:Type} {E:Br α} {t e m b:Nat} {z:Value} [hS:SlC c.P t e m] [hE:ElT c.P e z m b] {xs ys:List α} {F Fy:List Nat} {ao:Option Addr} {n cp:Nat} {gd:Option (Nat × Bool)} {R S:List Pc} (one:Yf E) (hz:0 < E.sz) (hm:E.sz=m)
  (hp:Co H (.ow E e v xs F) R) (hx:ev fr x=some v) (hy:ev fr y=some (.slice ao n cp)) (hn:n=ys.length)
  (hsrc:∀w,St c.G c.D c.w0 (.ow E e v xs F::R) w→∃news,C1 E w news ys Fy∧((ao=none∧cp=0∧ys=[])∨∃ad,ao=some ad∧∀j u,news[j]?=some u→w.cell? (ad.add j)=some u)∧(∀b∈Fy,b ∉ F)∧Fy.Nodup)
  (hFy:∀w v' F',St c.G c.D c.w0 (.ow E e v xs F::R) w→(∀b∈F',b∈F∨b∈Fy∨b=w.heap.size)→∀w',D6 F w w'→(Pc.ow E e v' (xs++ys) F').P w'→St c.G c.D c.w0 (.ow E e v' (xs++ys) F'::S) w')
  (h63:xs.length+ys.length≤maxLen) (hby:(xs.length+ys.length) * b≤140737488355328)
  (h:∀a' c' F',T c ((d,.slice a' (xs++ys).length c')::fr) (.ow E e (.slice a' (xs++ys).length c') (xs++ys) F'::S) Φ) (hd:Nat.blt d c.n=true) :
  Ef c fr H ⟨some d,.call { callee:=.builtin .append,args:=#[x,y],argTypes:=#[t,t] },ty,pos,Ci,gd⟩ Φ:=.mk fun Q a w s g=>by
 have s1:=s.pick hp;obtain ⟨hnd,how⟩:=s1.on (.ow E e v xs F) FK;obtain ⟨news,hfl,hsr,hdis,hny⟩:=hsrc w s1;subst hn;refine Aua (P:=c.P) one hz x y t rfl e z b hS.u (by rw [hE.i,hm]) (by rw [hE.s,hm]) v xs F (g.ev hx) how (Hd.of hnd) ao ys cp (g.ev hy) news Fy hfl hsr (fun b hb e=>hdis b hb (how.own_mem b e)) h63 hby fun v' w' F' hA=>?_;obtain ⟨a',c',rfl⟩:=hA.val;rw [←List.length_append] at hA ⊢;have hw:=hA.ow;exact (h a' c' F').h _ _ (hFy w _ F' s1 hA.mem w' hA.Jd ⟨hA.Bbc hnd hny hdis,hw⟩) (g.put hd)
theorem Qa {α:Type} {E:Br α} {t e m b:Nat} {z:Value} [hS:SlC c.P t e m] [hE:ElT c.P e z m b] {xs ys:List α} {F:List Nat} {g n cp tt:Nat} {cs:List Value} {R S:List Pc}
  (hfl:∀w,C1 E w cs ys []) (one:Yf E) (h:∀a' c' F',T c ((d,.slice a' (xs++ys).length c')::fr) (.ow E e (.slice a' (xs++ys).length c') (xs++ys) F'::S) Φ)
  (hx:ev fr x=some v:=by rfl) (hy:ev fr y=some (.slice (some ⟨g,0,none⟩) n cp):=by rfl) (hp:Co H (.ow E e v xs F) R:=by exact De) (hp2:Co R (.row g tt 0 [] cs []) S:=by exact De) (hn:n=ys.length:=by rfl) (hz:0 < E.sz:=by decide) (hm:E.sz=m:=by rfl)
  (h63:xs.length+ys.length≤9223372036854775807:=by simp only [List.length_cons,List.length_nil];omega) (hby:(xs.length+ys.length) * b≤140737488355328:=by simp only [List.length_cons,List.length_nil];omega) (hd:Nat.blt d c.n=true:=by rfl) :
  On c fr H (some d) (.call { callee:=.builtin .append,args:=#[x,y],argTypes:=#[t,t] }) ty Φ :=
 ⟨fun _ _ _=>ap one hz hm hp hx hy hn (Fy:=[]) (fun w s=>⟨cs,hfl w,.inr ⟨_,rfl,fun j u hu=>by
   have hr:=(s.on (.row g tt 0 [] cs []) (by simp [hp2.mem])).2;have:=hr.cell j;simp only [List.nil_append,List.append_nil] at this;rw [hu] at this;unfold Addr.add
   split
   ·rename_i e;subst e;exact this
   ·simpa using this⟩,FK,FK⟩)
  (fun w v' F' s hF w' hk hv=>by
   have s2:St c.G c.D c.w0 (.ow E e v xs F::S) w:=⟨s.Jd,fun q hq=>s.on q KZ,⟨fun q hq=>s.sep.1 q (hp2.sub q hq),(hp2.sep s.sep.2).2⟩,fun q hq=>s.Aeh q KZ⟩;exact St.turn (M:=[.ow E e v xs F]) (N:=[.ow E e v' (xs++ys) F']) s2 HY JT ⟨FK,trivial⟩ (by
    intro q hq b hb;simp at hq;subst hq;rcases hF b hb with h|h|h
    ·exact .inr (.inl ⟨.ow E e v xs F,FK,rfl,h⟩)
    ·simp at h
    ·exact .inl FJ))
  (by unfold maxLen;exact h63) hby h hd⟩
theorem Pm {α:Type} {E:Br α} {t e m b:Nat} {z:Value} [hS:SlC c.P t e m] [hE:ElT c.P e z m b] {xs ys:List α} {F G:List Nat} {ao:Option Addr} {n cp:Nat} {R:List Pc}
  (one:Yf E) (sc:∀{w cs x F},E.Ky w cs x F→F=[]) (h:∀a' c' F',T c ((d,.slice a' (xs++ys).length c')::fr) (.ow E e (.slice a' (xs++ys).length c') (xs++ys) F'::R) Φ)
  (hx:ev fr x=some v:=by rfl) (hy:ev fr y=some (.slice ao n cp):=by rfl) (hp:Co H (.ow E e v xs F) R:=by exact De) (hp2:.sl E (.slice ao n cp) ys G∈R:=by exact A9) (hn:n=ys.length:=by rfl) (hz:0 < E.sz:=by decide) (hm:E.sz=m:=by rfl)
  (h63:xs.length+ys.length≤9223372036854775807:=by first|omega|(simp only [List.length_cons,List.length_nil];omega)) (hby:(xs.length+ys.length) * b≤140737488355328:=by first|omega|(simp only [List.length_cons,List.length_nil];omega)) (hd:Nat.blt d c.n=true:=by rfl) :
  On c fr H (some d) (.call { callee:=.builtin .append,args:=#[x,y],argTypes:=#[t,t] }) ty Φ :=
 have flat0:∀{w cs zs G},C1 E w cs zs G→G=[]:=fun {w cs zs G}=>by
  induction zs generalizing cs G with
  | nil=>intro h;exact h.2
  | cons z r ih=>intro h;obtain ⟨c1,c2,F1,F2,_,rfl,h1,h2⟩:=h;rw [sc h1,ih h2];rfl
 ⟨fun _ _ _=>ap one hz hm hp hx hy hn (Fy:=[]) (fun w s=>by
   obtain ⟨-,hs⟩:=s.on (.sl E (.slice ao n cp) ys G) (by simp [hp2]);obtain ⟨ao',cc,news,Fy,he, -,hfy, -,hsrc⟩:=hs.src;simp only [Value.slice.injEq] at he;obtain ⟨rfl, -,rfl⟩:=he;obtain rfl:=flat0 hfy;exact ⟨news,hfy,hsrc,FK,FK⟩)
  (fun w v' F' s hF w' hk hv=>St.turn (M:=[.ow E e v xs F]) (N:=[.ow E e v' (xs++ys) F']) s HY JT ⟨FK,trivial⟩ (by
    intro q hq b hb;simp at hq;subst hq;rcases hF b hb with h|h|h
    ·exact .inr (.inl ⟨.ow E e v xs F,FK,rfl,h⟩)
    ·simp at h
    ·exact .inl FJ))
  (by unfold maxLen;exact h63) hby h hd⟩
/-! parts of slices that read -/
theorem Agm {P:Program} {t e m:Nat} (hS:SlC P t e m):P.elem t=e:=by simp [Program.elem,hS.u]
theorem sld {α:Type} {E:Br α} {t e m:Nat} [hS:SlC c.P t e m] {a:Option Addr} {n cp:Nat} {xs:List α} {F:List Nat} {i:Int} (j:Nat) (h:∀a' c' F',T c ((d,.slice a' (xs.drop j).length c')::fr) (.sl E (.slice a' (xs.drop j).length c') (xs.drop j) F'::H) Φ)
  (hx:ev fr x=some (.slice a n cp):=by rfl) (hy:ev fr y=some (.int .i64 i):=by rfl) (hm:.sl E (.slice a n cp) xs F∈H:=by exact A9) (hi:i=(j:Int):=by first|rfl|omega) (hj:j≤xs.length:=by omega) (he:E.sz=m:=by rfl) (hd:Nat.blt d c.n=true:=by rfl):On c fr H (some d) (.slice t x (some y) none none) ty Φ:=⟨fun pos Ci gd=>Qe fun Q ac w s g=>by
 subst hi;obtain ⟨hz,hs⟩:=s.get hm;have he2:=Agm hS;obtain ⟨a2,c2,F',hr,hF,h2⟩:=hs.dropS t GU j hj (fun W=>by rw [he2,he];exact Nv hS.s W);have e1:(execOp ac.eval ⟨some d,.slice t x (some y) none none,ty,pos,Ci,gd⟩).run c.P w=.ok (.value (.slice a2 (xs.drop j).length c2)) w:=by
  simp [execOp,g.ev hx,g.ev hy,hr]
 rw [e1];rw [←List.length_drop] at h2;exact (h a2 c2 F').h _ w (s.ro hm rfl rfl ⟨hz,h2⟩ hF) (g.put hd)⟩
/-! one element of an owned slice, of elements without blocks of their own -/
def Aza {α:Type} (E:Br α) (t:TypeId) (g:Nat) (v:Value) (xs:List α) (i:Nat) (A B:List Value):Prop:=∀w cs y,Ir w g t (A++cs++B)→E.Ky w cs y []→Ow E t w v (xs.set i y) [g]
theorem P5 {α:Type} {E:Br α} {t:TypeId} {a:Option Addr} {n cp m:Nat} {xs:List α} {F:List Nat} {S:List Pc} (sc:Ab1 E) (i:Nat) (h:∀(_:i < xs.length) g A cs B,a=some ⟨g,0,none⟩→F=[g]→(∀w,E.Ky w cs xs[i] [])→Aza E t g (.slice (some ⟨g,0,none⟩) n cp) xs i A B→T c fr (.row g t (0+i * m) A cs B::S) Φ)
  (hp:Co H (.ow E t (.slice a n cp) xs F) S) (hm:E.sz=m) (hi:i < xs.length):T c fr H Φ:=.mk fun ac w s g=>by
 have z1:=s.pick hp;obtain ⟨-,ho⟩:=z1.on (.ow E t (.slice a n cp) xs F) FK;obtain ⟨g0,cap,A,cs,B,G1,Fi,G2,hv,hr,hA, -,hx,rfl, -,hW⟩:=ho.focus i hi
 cases hv;obtain rfl:=sc hx;have hG:∀b,b ∉ G1++G2:=by
  intro b hb;have:=ho.scal sc;simp only [Value.ownBlock,Option.toList_some,List.append_nil,List.cons.injEq,true_and] at this;rw [this] at hb;simp at hb
 have hG0:G1++G2=[]:=List.eq_nil_iff_forall_not_mem.2 hG;subst hm;refine (h hi g0 A cs B rfl (by simpa using hG0) (fun w'=>E.frame hx FK) (fun w' c' y hr' hy=>?_)).h ac w (z1.conv rfl ⟨FJ,hr⟩ (by intro b hb;simp [Pc.F] at hb;subst hb;simp [Pc.F])) g;have:=hW w' c' y [] hr' hy (fun b hb=>absurd hb (hG b));simpa [hG0] using this
theorem Pd {α:Type} {E:Br α} {t:TypeId} {g o:Nat} {v:Value} {xs:List α} {i:Nat} {A cs B:List Value} {S:List Pc} (y:α) (hh:Aza E t g v xs i A B) (hy:∀w,E.Ky w cs y []) (h:T c fr (.ow E t v (xs.set i y) [g]::S) Φ) (hp:Co H (.row g t o A cs B) S:=by exact De):T c fr H Φ:=.mk fun ac w s ag=>by
 have z1:=s.pick hp;obtain ⟨-,hr⟩:=z1.on (.row g t o A cs B) FK;exact h.h ac w (z1.conv rfl ⟨FK,hh w cs y hr (hy w)⟩ (fun b hb=>hb)) ag
/-! calls by the elder contracts -/
theorem cn {α:Type} {E:Br α} {t:TypeId} {xs:List α} {f:Nat} {vs:List Value} (hc:∀w,St c.G c.D c.w0 H w→Calls c.P f vs.toArray w (No E t xs w)) (h:∀a cp F,T c ((d,.slice a xs.length cp)::fr) (.ow E t (.slice a xs.length cp) xs F::H) Φ):Cl c fr H d f vs Φ :=
 Aaf hc (fun w e w' s hR=>by
  obtain ⟨v,F,he,ho,hn,hF,hB⟩:=hR;obtain ⟨a,cp,rfl⟩:=ho.slice;exact ⟨_,he,fun ac g=>(h a cp F).h ac w' (s.add (N:=[.ow E t (.slice a xs.length cp) xs F]) hB (by intro q hq;simp at hq;subst hq;exact ⟨hn,ho⟩) ⟨FK,trivial⟩ IN) g⟩)
theorem cr {α:Type} {E:Br α} {z:α} {f:Nat} {vs:List Value} (hc:∀w,St c.G c.D c.w0 H w→Calls c.P f vs.toArray w (Bi0 E z w)) (h:∀v F,T c ((d,v)::fr) (.isv E v z F::H) Φ):Cl c fr H d f vs Φ :=
 Aaf hc (fun w e w' s hR=>by
  obtain ⟨v,F,he,ho,hF,hB⟩:=hR;exact ⟨_,he,fun ac g=>(h v F).h ac w' (s.add (N:=[.isv E v z F]) hB (by intro q hq;simp at hq;subst hq;exact ho) ⟨FK,trivial⟩ IN) g⟩)
theorem cv {α:Type} {E:Br α} {z:α} {f:Nat} {vs:List Value} (hc:∀w,St c.G c.D c.w0 H w→Calls c.P f vs.toArray w (Wt E z w)) (h:∀v F,T c ((d,v)::fr) (.own E v z F::H) Φ):Cl c fr H d f vs Φ :=
 Aaf hc (fun w e w' s hR=>by
  obtain ⟨v,F,he,ho,hn,hF,hB⟩:=hR;exact ⟨_,he,fun ac g=>(h v F).h ac w' (s.add (N:=[.own E v z F]) hB (by intro q hq;simp at hq;subst hq;exact ⟨hn,ho⟩) ⟨FK,trivial⟩ IN) g⟩)
/-! regions that draw their order -/
inductive Nth:List Pc→Nat→Pc→Prop
 | zero {p R}:Nth (p::R) 0 p
 | succ {x p R i}:Nth R i p→Nth (x::R) (i+1) p
inductive Sel (H:List Pc):List Nat→List Pc→Prop
 | nil:Sel H [] []
 | cons {i is p R}:Nth H i p→Sel H is R→Sel H (i::is) (p::R)
theorem Nth.mem {H i p} (h:Nth H i p):p∈H:=by
 induction h with
 | zero=>simp
 | succ _ ih=>simp [ih]
variable {H0:List Pc} {X:List Nat} {f:Nat} {listed:Array Bool}
theorem As {id:Nat} {l:List Oper} (is X:List Nat) (h:T c fr H (.dx k H0 X l.toArray l.length (Array.replicate l.length false))) (_hsel:Sel H is H0:=by repeat constructor) (hm:c.P.follows .mixedOrders=true:=by kernel_rfl):T c fr H (.code k (Code.region id l.toArray true)):=.mk fun a w s g=>by
 refine Fm.start (S:=Om H0) (X:=fun i=>X.contains i) hm ?_;exact DR
def Yg (c:Cx):Prop:=∀ch d v a w,c.R (.panic ch) (Act.put a d v) w→c.R (.panic ch) a w
theorem Aan {P:Program} {D G:List Nat} {w0:World} {n:Nat} {fn:Func} {R:Ending→World→Prop}:Yg ⟨P,G,D,w0,n,bodyPost P fn R⟩:=fun ch d v a w h=>by
 cases d <;> exact h
theorem dt (i:Nat) (h:T c ((d,v)::fr) H (.dx k H0 X ops f (listed.setIfInBounds i true))) (ho:ops[i]?=some ⟨some d,o,ty,pos,Ci,none⟩:=by rw [List.getElem?_toArray];rfl) (hy:Yd c.P c.n fr H0 o ty v:=by exact ydE) (hs:Nn H0 H:=by repeat (first|exact Nn.nil|refine Nn.cons FO ?_))
  (h1:Region.noSelect ops=true:=by kernel_rfl) (h2:Region.free .any ops listed i=true:=by kernel_rfl) (h3:(Region.ready .any ops listed).contains i=true:=by kernel_rfl) (h4:Mp .any ops (fun i=>X.contains i) i=true:=by kernel_rfl) (h5:Ns .any ops listed=true:=by kernel_rfl) (hR:Yg c:=by exact Aan) (hd:Nat.blt d c.n=true:=by rfl) :
  T c fr H (.dx k H0 X ops (f+1) listed):=.mk fun a w s g =>
 Fm.take (v:=v) ho h1 h2 h3 h4 h5 (fun ch a w hp=>by rw [Nd] at hp ⊢;exact hR _ _ _ _ _ hp) (.inl ⟨rfl,fun w' hw'=>hy.h a w' _ _ _ _ g hw'⟩) (fun p hp=>s.on p (hs.all p hp)) (h.h _ _ s (g.put hd))
theorem Asd (i j:Nat) {α:Type} {E:Br α} {t e m:Nat} [hS:SlC c.P t e m] {a:Option Addr} {n cp:Nat} {xs:List α} {F:List Nat} {z:Int} (h:∀a' c' F',T c ((d,.slice a' (xs.drop j).length c')::fr) (.sl E (.slice a' (xs.drop j).length c') (xs.drop j) F'::H) (.dx k H0 X ops f (listed.setIfInBounds i true))) (ho:ops[i]?=some ⟨some d,.slice t x (some y) none none,ty,pos,Ci,none⟩:=by rw [List.getElem?_toArray];rfl)
  (hx:ev fr x=some (.slice a n cp):=by rfl) (hy:ev fr y=some (.int .i64 z):=by rfl) (hm:.sl E (.slice a n cp) xs F∈H:=by exact A9) (hi:z=(j:Int):=by first|rfl|omega) (hj:j≤xs.length:=by omega) (he:E.sz=m:=by rfl) (hs:Nn H0 H:=by repeat (first|exact Nn.nil|refine Nn.cons FO ?_))
  (h1:Region.noSelect ops=true:=by kernel_rfl) (h2:Region.free .any ops listed i=true:=by kernel_rfl) (h3:(Region.ready .any ops listed).contains i=true:=by kernel_rfl) (h4:Mp .any ops (fun i=>X.contains i) i=true:=by kernel_rfl) (h5:Ns .any ops listed=true:=by kernel_rfl) (hR:Yg c:=by exact Aan) (hd:Nat.blt d c.n=true:=by rfl) :
  T c fr H (.dx k H0 X ops (f+1) listed):=.mk fun ac w s g=>by
 subst hi;obtain ⟨hz,hs'⟩:=s.get hm;have he2:=Agm hS;obtain ⟨a2,c2,F',hr,hF,h2'⟩:=hs'.dropS t GU j hj (fun W=>by rw [he2,he];exact Nv hS.s W);rw [←List.length_drop] at h2' hr;refine Fm.take (v:=.slice a2 (xs.drop j).length c2) ho h1 h2 h3 h4 h5 (fun ch a w hp=>by rw [Nd] at hp ⊢;exact hR _ _ _ _ _ hp) (.inl ⟨rfl,fun w' _=>?_⟩) (fun p hp=>s.on p (hs.all p hp)) ((h a2 c2 F').h _ w (s.ro hm rfl rfl ⟨hz,h2'⟩ hF) (g.put hd));simp only [execOp,Option.map_none,Option.map_some,g.ev hx,g.ev hy,Sem.run_bind,hr,Result.andThen_ok,Sem.run_pure]
theorem Dr (i:Nat) {j t:Nat} {b:Bool} (h:T c ((d,v)::fr) H (.dx k H0 X ops f (listed.setIfInBounds i true))) (ho:ops[i]?=some ⟨some d,o,ty,pos,Ci,some (j,b)⟩:=by rw [List.getElem?_toArray];rfl) (ht:(ops[j]?).bind (·.dst)=some t:=by rfl) (hl:S8 fr t=some (.bool b):=by rfl) (hy:Yd c.P c.n fr H0 o ty v:=by exact ydE) (hs:Nn H0 H:=by repeat (first|exact Nn.nil|refine Nn.cons FO ?_))
  (h1:Region.noSelect ops=true:=by kernel_rfl) (h2:Region.free .any ops listed i=true:=by kernel_rfl) (h3:(Region.ready .any ops listed).contains i=true:=by kernel_rfl) (h4:Mp .any ops (fun i=>X.contains i) i=true:=by kernel_rfl) (h5:Ns .any ops listed=true:=by kernel_rfl) (hR:Yg c:=by exact Aan) (hd:Nat.blt d c.n=true:=by rfl) :
  T c fr H (.dx k H0 X ops (f+1) listed):=.mk fun a w s g =>
 Fm.take (v:=v) ho h1 h2 h3 h4 h5 (fun ch a w hp=>by rw [Nd] at hp ⊢;exact hR _ _ _ _ _ hp) (.inl ⟨by rw [Wq (c:=c) ht hl g];simp,fun w' hw'=>hy.h a w' _ _ _ _ g hw'⟩) (fun p hp=>s.on p (hs.all p hp)) (h.h _ _ s (g.put hd))
theorem ds (i:Nat) {j t:Nat} {b b':Bool} (h:T c ((d,undef)::fr) H (.dx k H0 X ops f (listed.setIfInBounds i true))) (ho:ops[i]?=some ⟨some d,o,ty,pos,Ci,some (j,b)⟩:=by rw [List.getElem?_toArray];rfl) (ht:(ops[j]?).bind (·.dst)=some t:=by rfl) (hl:S8 fr t=some (.bool b'):=by rfl) (hb:(b' == b)=false:=by rfl) (hs:Nn H0 H:=by repeat (first|exact Nn.nil|refine Nn.cons FO ?_))
  (h1:Region.noSelect ops=true:=by kernel_rfl) (h2:Region.free .any ops listed i=true:=by kernel_rfl) (h3:(Region.ready .any ops listed).contains i=true:=by kernel_rfl) (h4:Mp .any ops (fun i=>X.contains i) i=true:=by kernel_rfl) (h5:Ns .any ops listed=true:=by kernel_rfl) (hR:Yg c:=by exact Aan) (hd:Nat.blt d c.n=true:=by rfl) :
  T c fr H (.dx k H0 X ops (f+1) listed):=.mk fun a w s g =>
 Fm.take (v:=undef) ho h1 h2 h3 h4 h5 (fun ch a w hp=>by rw [Nd] at hp ⊢;exact hR _ _ _ _ _ hp) (.inr ⟨by rw [Wq (c:=c) ht hl g];exact hb,rfl⟩) (fun p hp=>s.on p (hs.all p hp)) (h.h _ _ s (g.put hd))
theorem dsu (i:Nat) {j t:Nat} {b:Bool} (h:T c ((d,undef)::fr) H (.dx k H0 X ops f (listed.setIfInBounds i true))) (ho:ops[i]?=some ⟨some d,o,ty,pos,Ci,some (j,b)⟩:=by rw [List.getElem?_toArray];rfl) (ht:(ops[j]?).bind (·.dst)=some t:=by rfl) (hl:S8 fr t=some undef:=by rfl) (hs:Nn H0 H:=by repeat (first|exact Nn.nil|refine Nn.cons FO ?_))
  (h1:Region.noSelect ops=true:=by kernel_rfl) (h2:Region.free .any ops listed i=true:=by kernel_rfl) (h3:(Region.ready .any ops listed).contains i=true:=by kernel_rfl) (h4:Mp .any ops (fun i=>X.contains i) i=true:=by kernel_rfl) (h5:Ns .any ops listed=true:=by kernel_rfl) (hR:Yg c:=by exact Aan) (hd:Nat.blt d c.n=true:=by rfl) :
  T c fr H (.dx k H0 X ops (f+1) listed):=.mk fun a w s g =>
 Fm.take (v:=undef) ho h1 h2 h3 h4 h5 (fun ch a w hp=>by rw [Nd] at hp ⊢;exact hR _ _ _ _ _ hp) (.inr ⟨by simp only [Region.wanted,yielded,ht,Option.bind_some,g.at_ t _ hl];rfl,rfl⟩) (fun p hp=>s.on p (hs.all p hp)) (h.h _ _ s (g.put hd))
theorem dk {i:Nat} (h:T c fr H (.dx k H0 X ops f listed)) (hs:Nn H0 H:=by repeat (first|exact Nn.nil|refine Nn.cons FO ?_)):T c fr H (.dk i k H0 X ops f listed):=.mk fun a w s g=>⟨fun _ p hp=>s.on p (hs.all p hp),h.h a w s g⟩
theorem Tx {i:Nat} (h:T c fr H (.dx k H0 X ops f listed)) (hi:X.contains i=true:=by rfl):T c fr H (.dk i k H0 X ops f listed):=.mk fun a w s g=>⟨fun h0=>(by rw [hi] at h0;cases h0),h.h a w s g⟩
theorem d1 (i:Nat) {o:Oper} (h:Ef c fr H o (.dk i k H0 X ops f (listed.setIfInBounds i true))) (hr:Region.ready .any ops listed=[i]:=by kernel_rfl) (ho:ops[i]?=some o:=by rw [List.getElem?_toArray];rfl) (hg:o.guard=none:=by rfl):T c fr H (.dx k H0 X ops (f+1) listed):=.mk fun a w s g =>
 Fm.only hr ho fun K hK=>by
  rw [if_pos (by simp [Region.wanted,hg])];exact Oper.wp_mono (fun a' w' h'=>hK a' w' h'.1 h'.2) (h.h _ a w s g)
theorem d1g (i:Nat) {od:Option Tmp} {j t:Nat} {b:Bool} (h:Ef c fr H ⟨od,o,ty,pos,Ci,some (j,b)⟩ (.dk i k H0 X ops f (listed.setIfInBounds i true))) (hr:Region.ready .any ops listed=[i]:=by kernel_rfl) (ho:ops[i]?=some ⟨od,o,ty,pos,Ci,some (j,b)⟩:=by rw [List.getElem?_toArray];rfl) (ht:(ops[j]?).bind (·.dst)=some t:=by rfl) (hl:S8 fr t=some (.bool b):=by rfl):T c fr H (.dx k H0 X ops (f+1) listed):=.mk fun a w s g =>
 Fm.only hr ho fun K hK=>by
  rw [if_pos (by rw [Wq (c:=c) ht hl g];simp)];exact Oper.wp_mono (fun a' w' h'=>hK a' w' h'.1 h'.2) (h.h _ a w s g)
theorem d2 (i j:Nat) {o o2:Oper} (h:Ef c fr H o (.dk i k H0 X ops f (listed.setIfInBounds i true))) (h':Ef c fr H o2 (.dk j k H0 X ops f (listed.setIfInBounds j true)))
  (hr:Region.ready .any ops listed=[i,j]:=by kernel_rfl) (ho:ops[i]?=some o:=by rw [List.getElem?_toArray];rfl) (ho2:ops[j]?=some o2:=by rw [List.getElem?_toArray];rfl) (hg:o.guard=none:=by rfl) (hg2:o2.guard=none:=by rfl):T c fr H (.dx k H0 X ops (f+1) listed):=.mk fun a w s g =>
 Fm.two hr ho ho2 (fun K hK=>by
  rw [if_pos (by simp [Region.wanted,hg])];exact Oper.wp_mono (fun a' w' h'=>hK a' w' h'.1 h'.2) (h.h _ a w s g)) (fun K hK=>by
  rw [if_pos (by simp [Region.wanted,hg2])];exact Oper.wp_mono (fun a' w' h''=>hK a' w' h''.1 h''.2) (h'.h _ a w s g))
theorem dO (i:Nat) {od:Option Tmp} (hr:Region.ready .any ops listed=[i]) (ho:ops[i]?=some ⟨od,o,ty,pos,Ci,none⟩) (h:On c fr H od o ty (.dk i k H0 X ops f (listed.setIfInBounds i true))):T c fr H (.dx k H0 X ops (f+1) listed):=d1 i (h.h pos Ci none) hr ho rfl
theorem dO2 (i j:Nat) {od od2:Option Tmp} {o2:Op} {ty2:TypeId} {pos2:String} {aft2:Array Edge} (hr:Region.ready .any ops listed=[i,j]) (ho:ops[i]?=some ⟨od,o,ty,pos,Ci,none⟩) (ho2:ops[j]?=some ⟨od2,o2,ty2,pos2,aft2,none⟩) (h:On c fr H od o ty (.dk i k H0 X ops f (listed.setIfInBounds i true))) (h':On c fr H od2 o2 ty2 (.dk j k H0 X ops f (listed.setIfInBounds j true))):T c fr H (.dx k H0 X ops (f+1) listed):=d2 i j (h.h pos Ci none) (h'.h pos2 aft2 none) hr ho ho2 rfl rfl
theorem dd (h:T c fr H (.norm k)) (hr:Region.ready .any ops listed=[]:=by kernel_rfl):T c fr H (.dx k H0 X ops f listed):=.mk fun a w s g=>Fm.done hr (h.h a w s g) f
theorem ey {gd:Option (Nat × Bool)} (h:T c ((d,v)::fr) H Φ) (hy:Yd c.P c.n fr H o ty v:=by exact ydE) (hd:Nat.blt d c.n=true:=by rfl):Ef c fr H ⟨some d,o,ty,pos,Ci,gd⟩ Φ:=Bgf hy hd h
end
inductive Kf (fr:Fr):List Nat→Fr→Prop
 | nil:Kf fr [] []
 | cons {t v ts r}:S8 fr t=some v→Kf fr ts r→Kf fr (t::ts) ((t,v)::r)
theorem Kf.sub {fr ts r} (h:Kf fr ts r):Mb fr r:=by
 induction h with
 | nil=>exact .nil
 | cons h _ ih=>exact .cons h ih
theorem Mb.app {fr a b:Fr} (h:Mb fr a) (h2:Mb fr b):Mb fr (a++b):=by
 induction h with
 | nil=>exact h2
 | cons h _ ih=>exact .cons h ih
theorem Io.hsub {H M R:List Pc} (h:Io H M R):Mc H (M++R):=by
 have all:∀(H:List Pc),Mc H H:=by
  intro H
  induction H with
  | nil=>exact .nil
  | cons p H ih=>exact .cons .here ih
 induction h with
 | nil=>exact all _
 | cons hp _ ih=>exact .cons hp ih
theorem Cj {c:Cx} {fr:Fr} {H:List Pc} {k:List It} {x:Code} {σ:Type} {cst:Fr} {rest:List Pc} (ks:List Nat) (upd:σ→Fr) (chg:σ→List Pc) (C:σ→Prop) (μ:σ→Nat) (s0:σ) (h0:C s0)
  (round:∀s,C s→T c (upd s++cst) (chg s++rest) (.code (.lp (LpN c (fun s=>upd s++cst) (fun s=>chg s++rest) C μ (μ s))::k) x)) (hk:Kf fr ks cst:=by repeat (first|exact Kf.nil|apply Kf.cons GG)) (hf:Mb fr (upd s0):=by exact frE) (hH:Io H (chg s0) rest:=by exact Abo):T c fr H (.code k (Code.loop x)) :=
 Azw (fun s=>upd s++cst) (fun s=>chg s++rest) C μ s0 h0 round (hf.app hk.sub) hH.hsub
theorem D8 {c:Cx} {fr:Fr} {H:List Pc} {k:List It} {x:Code} {σ:Type} {cst:Fr} (ks:List Nat) (upd:σ→Fr) (C:σ→Prop) (μ:σ→Nat) (s0:σ) (h0:C s0)
  (round:∀s,C s→T c (upd s++cst) H (.code (.lp (LpN c (fun s=>upd s++cst) (fun _=>H) C μ (μ s))::k) x)) (hk:Kf fr ks cst:=by repeat (first|exact Kf.nil|apply Kf.cons GG)) (hf:Mb fr (upd s0):=by exact frE):T c fr H (.code k (Code.loop x)) :=
 Azw (fun s=>upd s++cst) (fun _=>H) C μ s0 h0 round (hf.app hk.sub) (by
  have all:∀(H:List Pc),Mc H H:=by
   intro H
   induction H with
   | nil=>exact .nil
   | cons p H ih=>exact .cons .here ih
  exact all _)
def Jn {σ:Type} (c:Cx) (fr':σ→Fr) (H':σ→List Pc) (C:σ→Prop) (a:Act) (w:World):Prop:=∃s,C s∧St c.G c.D c.w0 (H' s) w∧Ag c.n (fr' s) a
theorem Bg3 {c:Cx} {fr:Fr} {H:List Pc} {k:List It} {x:Code} {σ:Type} (fr':σ→Fr) (H':σ→List Pc) (C:σ→Prop) (h:T c fr H (.code (.lp (Jn c fr' H' C)::k) x)) (h2:∀s,C s→T c (fr' s) (H' s) (.norm k)):T c fr H (.code k x):=.mk fun a w s g =>
 wp_mono (h.h a w s g) fun e a' w' he=>by
  cases e with
  | normal=>obtain ⟨z,hz,hs,hg⟩:=he;exact (h2 z hz).h a' w' hs hg
  | _=>exact he
theorem Bt {c:Cx} {fr:Fr} {H:List Pc} {k:List It} {σ:Type} {fr':σ→Fr} {H':σ→List Pc} {C:σ→Prop} (s:σ) (hC:C s) (hf:Mb fr (fr' s):=by repeat (first|exact Mb.nil|refine Mb.cons GG ?_)) (hH:Mc H (H' s):=by repeat (first|exact Mc.nil|refine Mc.cons (by exact De) ?_)):T c fr H (.norm (.lp (Jn c fr' H' C)::k)) :=
 .mk fun _ _ st g=>⟨s,hC,st.sub hH,g.sub hf⟩
theorem E4 {c:Cx} {fr:Fr} {H:List Pc} {k:List It} {x:Code} {σ:Type} {cst:Fr} {rest:List Pc} (ks rs:List Nat) (upd:σ→Fr) (chg:σ→List Pc) (C:σ→Prop) (h:T c fr H (.code (.lp (Jn c (fun s=>upd s++cst) (fun s=>chg s++rest) C)::k) x)) (h2:∀s,C s→T c (upd s++cst) (chg s++rest) (.norm k)) (_hk:Kf fr ks cst:=by repeat (first|exact Kf.nil|apply Kf.cons GG)) (_hr:Sel H rs rest:=by repeat constructor):T c fr H (.code k x) :=
 Bg3 _ _ C h h2
theorem enter {P:Program} {f:FuncId} {fn:Func} {cd:Code} {args:List Value} {A M H:List Pc} {σ:Type} {C:σ→Prop} {v:σ→Value} {N:σ→List Pc} {n:Nat} (hf:P.funcs[f]?=some fn) (hb:fn.body=some cd) (hn:fn.ntmps=n)
  (h:∀w,T ⟨P,fp M,fp A,w,n,bodyPost P fn (Amp P w A M C v N)⟩ (Aov 0 args) H (.code [] cd))
  (hl:Nat.ble args.length n=true:=by rfl) (hmA:A.all (fun p=>!p.mu)=true:=by rfl) (hH:Aoe M A H:=by repeat constructor):Fn P f args A M C v N:=by
 subst hn;exact Bae hf hb (fun w=>by rw [hH.eq];exact h w) HP hmA
theorem ret {P:Program} {fn:Func} {G D:List Nat} {w0:World} {n:Nat} {A M:List Pc} {σ:Type} {C:σ→Prop} {v:σ→Value} {N:σ→List Pc} {fr:Fr} {H:List Pc} {rs:List ResultVar} {vs:List Value} (s:σ) (hC:C s) (hv:Ux vs=v s)
  (hr:fn.results=rs.toArray:=by rfl) (h:Res P fr H rs vs:=by repeat (first|exact Res.nil|apply Res.tmp GG|apply Res.agg inferInstance GG FO GG|apply Res.one inferInstance GG FO)) (hN:Mc H (N s):=by repeat (first|exact Mc.nil|refine Mc.cons (by exact De) ?_)) (hG:G=fp M:=by rfl) (hD:D=fp A:=by rfl):T ⟨P,G,D,w0,n,bodyPost P fn (Amp P w0 A M C v N)⟩ fr H (.fin .ret):=Bhe s hC hr h hv hN hG hD
theorem Fn.val {P:Program} {f:FuncId} {args:List Value} {A:List Pc} {C:Unit→Prop} {v:Value} (h:Fn P f args A [] C (fun _=>v) (fun _=>[])) (w:World) (hA:Om A w) (hm:A.all (fun p=>!p.mu)=true:=by rfl):Calls P f args.toArray w (RB v w) :=
 have hs:∀(A:List Pc),A.all (fun p=>!p.mu)=true→Tg A:=by
  intro A
  induction A with
  | nil=>intro _;trivial
  | cons p A ih =>
   intro h;simp only [List.all_cons,Bool.and_eq_true,Bool.not_eq_true'] at h;exact ⟨fun q hq hm=>by have:=List.all_eq_true.1 h.2 q hq;simp [h.1] at hm;simp [hm] at this,ih h.2⟩
 (h w JW (by simpa using hs A hm)).mono fun e w' ⟨_,_,he,_,_,hk,_⟩=>⟨he,hk.below (Nat.le_refl _) (by simp [fp])⟩
theorem Atr:∀(A:List Pc),A.all (fun p=>!p.mu)=true→Tg A
 | [],_=>trivial
 | p::A,h=>by
  simp only [List.all_cons,Bool.and_eq_true,Bool.not_eq_true'] at h;exact ⟨fun q hq hm=>by have:=List.all_eq_true.1 h.2 q hq;simp [h.1] at hm;simp [hm] at this,Atr A h.2⟩
theorem Pc.nd {p:Pc} (hm:p.mu=true) {w:World} (h:p.P w):p.F.Nodup:=by
 cases p with
 | row g t o A cs B=>simp [Pc.F]
 | ow E t v xs F=>exact h.1
 | own E v x F=>exact h.1
 | flat E cs xs F=>exact h.1
 | _=>cases hm
theorem Aph {w:World}:∀{N:List Pc},N.all (·.mu)=true→Om N w→Tg N→(fp N).Nodup
 | [],_,_,_=>by simp [fp]
 | p::N,hm,hH,hs=>by
  simp only [List.all_cons,Bool.and_eq_true] at hm;refine List.nodup_append.2 ⟨Pc.nd hm.1 (hH p FK),Aph hm.2 (fun q hq=>hH q GR) hs.2,fun b hb b' hb' e=>?_⟩;subst e;obtain ⟨q,hq,hqb⟩:=Qz.1 hb';exact hs.1 q hq (by simp [hm.1]) b hb hqb
theorem Fn.made {P:Program} {f:FuncId} {args:List Value} {A:List Pc} {σ:Type} {C:σ→Prop} {v:σ→Value} {N:σ→List Pc} (h:Fn P f args A [] C v N) (w:World) (hA:Om A w) (hN:∀s,(N s).all (·.mu)=true) (hm:A.all (fun p=>!p.mu)=true:=by rfl) :
  Calls P f args.toArray w fun e w'=>∃s,C s∧e=.returned (v s)∧Om (N s) w'∧(fp (N s)).Nodup∧(∀b∈fp (N s),w.heap.size≤b)∧Below w.heap.size w w' :=
 (h w JW (by simpa using Atr A hm)).mono fun e w' ⟨s,hC,he,hH,hS,hk,hF⟩=>⟨s,hC,he,hH,Aph (hN s) hH hS,(fun b hb=>by
  obtain ⟨p,hp,hpb⟩:=Qz.1 hb;rcases hF p hp b hpb with h|⟨q,hq,_⟩|⟨h,_⟩
  ·exact h
  ·simp at hq
  ·have:=List.all_eq_true.1 (hN s) p hp;rw [h] at this;cases this),hk.below (Nat.le_refl _) (by simp [fp])⟩
theorem Fn.read {P:Program} {f:FuncId} {args:List Value} {A:List Pc} {σ:Type} {C:σ→Prop} {v:σ→Value} {N:σ→List Pc} (h:Fn P f args A [] C v N) (w:World) (hA:Om A w) (hm:A.all (fun p=>!p.mu)=true:=by rfl) :
  Calls P f args.toArray w fun e w'=>∃s,C s∧e=.returned (v s)∧Om (N s) w'∧Below w.heap.size w w' :=
 (h w JW (by simpa using Atr A hm)).mono fun e w' ⟨s,hC,he,hH,hS,hk,hF⟩=>⟨s,hC,he,hH,hk.below (Nat.le_refl _) (by simp [fp])⟩
theorem N0 {p q:Pc} {w:World} (h:p.P w) (h2:q.P w):Om [p,q] w:=fun r hr=>by
 simp only [List.mem_cons,List.not_mem_nil,or_false] at hr;rcases hr with rfl|rfl <;> assumption
structure Kp (X:Prop):Prop where
 h:X
section
variable {c:Cx} {fr:Fr} {H:List Pc} {d:Nat} {ty:TypeId} {v:Value} {x:Operand} {Φ:Gl}
theorem As8 {Y:Nat→Prop} {t:TypeId} {l:List Value} (hd:Nat.blt d c.n=true) (hx:ev fr x=some v) (hv:v.cells=l.toArray) (hX:Kp (∀g,Y g)) (h:∀g,Kp (Y g)→T c ((d,Iq g 0 0)::fr) (.row g t 0 [] l []::H) Φ):On c fr H (some d) (.box t x) ty Φ:=Bjg hd hx hv fun g=>h g ⟨hX.h g⟩
theorem Aik {Y:Nat→Prop} {t:TypeId} {zs:List Value} [ZC c.P t zs] (hd:Nat.blt d c.n=true) (hX:Kp (∀g,Y g)) (h:∀g,Kp (Y g)→T c ((d,Iq g 0 0)::fr) (.row g t 0 [] zs []::H) Φ):On c fr H (some d) (.alloc t) ty Φ:=Cr hd fun g=>h g ⟨hX.h g⟩
theorem Bbg {Y:Nat→Prop} {t e m:Nat} [SlC c.P t e m] (hd:Nat.blt d c.n=true) (hX:Kp (∀g,Y g)) (h:∀g,Kp (Y g)→T c ((d,.slice (some ⟨g,0,none⟩) 0 0)::fr) (.row g e 0 [] [] []::H) Φ):On c fr H (some d) (.buildSlice t 0 #[]) ty Φ:=Mx hd fun g=>h g ⟨hX.h g⟩
theorem Bgk {Y:Nat→Prop} {t e m b len:Nat} {z:Value} {zs cs q:List Value} {ps:List (Nat × Operand)} [SlC c.P t e m] [ElT c.P e z m b] [ZC c.P e zs] (hd:Nat.blt d c.n=true) (hlen:Nat.blt 0 len=true) (hm:Nat.blt 0 m=true) (hl:Nat.ble (len * m) 1000=true) (hc:Rpt zs len cs) (hf:Fil (fun i=>some (i * m,m)) fr cs ps q) (hX:Kp (∀g,Y g)) (h:∀g,Kp (Y g)→T c ((d,.slice (some ⟨g,0,none⟩) len len)::fr) (.row g e 0 [] q []::H) Φ) :
  On c fr H (some d) (.buildSlice t len ps.toArray) ty Φ:=Lx hd hlen hm hl hc hf fun g=>h g ⟨hX.h g⟩
end
theorem go {X:Prop} {c:Cx} {fr:Fr} {H:List Pc} {Φ:Gl} (h:X) (hs:Kp X→T c fr H Φ:=by intro hX;(repeat (first|apply Q7|apply Akx|(apply wO;apply oc;rfl;exact ydE)|apply X6|apply Abl|(apply Arr;rfl;rfl)|(apply Arq;rfl;rfl;rfl;rfl)|(apply Ars;rfl;rfl;rfl)|(apply c_t;rfl)|(apply c_f;rfl)|apply Wy|apply Tj|apply Afp|apply Ar3|apply Az3|apply Bg7|apply Bg8|(apply Ase;rfl)|apply Azx|(apply wO;apply As8;rfl;rfl;rfl;exact hX;clear hX;intro _ hX)|(apply wO;apply Aik;rfl;exact hX;clear hX;intro _ hX)|(apply wO;apply Axx;rfl;rfl;rfl;(first|exact AggC.s|exact OneC.s);rfl;exact Aki;exact Be9;rfl)|(apply wO;apply Bbg;rfl;exact hX;clear hX;intro _ hX)|(apply wO;apply Bgk;rfl;rfl;rfl;rfl;exact Lr;exact La;exact hX;clear hX;intro _ hX)|(apply wO;apply As9;rfl;kernel_rfl;exact X8)));exact hX.h):T c fr H Φ:=hs ⟨h⟩
theorem O3 {X:Prop} {c:Cx} {fr:Fr} {H:List Pc} {Φ:Gl} (h:X) (hs:Kp X→T c fr H Φ:=by intro hX;(repeat (first|apply Q7|apply Akx|(apply wO;apply oc;rfl;exact ydE)|apply X6|apply Abl|(apply Arr;rfl;rfl)|(apply Arq;rfl;rfl;rfl;rfl)|(apply Ars;rfl;rfl;rfl)|(apply c_t;rfl)|(apply c_f;rfl)|apply Wy|apply Tj|apply Afp|apply Ar3|apply Az3|apply Bg7|apply Bg8|(apply Ase;rfl)|apply Azx|(apply wO;apply As8;rfl;rfl;rfl;exact hX;clear hX;intro _ hX)|(apply wO;apply Aik;rfl;exact hX;clear hX;intro _ hX)|(apply wO;apply Axx;rfl;rfl;rfl;(first|exact AggC.s|exact OneC.s);rfl;exact Aki;exact Be9;rfl)|(apply wO;apply Bbg;rfl;exact hX;clear hX;intro _ hX)|(apply wO;apply Bgk;rfl;rfl;rfl;rfl;exact Lr;exact La;exact hX;clear hX;intro _ hX)));exact hX.h):T c fr H Φ:=hs ⟨h⟩
section
variable {c:Cx} {fr:Fr} {H:List Pc} {k:List It} {Φ:Gl} {ops:Array Oper} {rest:List Oper} {d:Nat} {o:Op} {ty:TypeId} {pos:String} {Ci:Array Edge} {v u:Value} {x y:Operand} {H0:List Pc} {X:List Nat} {f:Nat} {listed:Array Bool}
theorem oC {f:Nat} {aS:List Operand} {ts:Array TypeId} {vs:List Value} (h:Cl c fr H d f vs Φ) (hd:Nat.blt d c.n=true:=by rfl) (hb:Si c.P f=true:=by kernel_rfl) (ha:Evs fr aS vs:=by exact X8):On c fr H (some d) (.call { callee:=.value (.func f),args:=aS.toArray,argTypes:=ts }) ty Φ:=As9 hd hb ha h
theorem oS {t g tt o' j m:Nat} {A cs B l r:List Value} {S:List Pc} (h:T c fr S Φ) (hx:ev fr x=some (Iq g o' j):=by rfl) (hy:ev fr y=some v:=by rfl) (hv:v.cells=l.toArray:=by rfl) (hs:(c.P.info? t).map (·.size)=some m:=by first|exact AggC.s|exact OneC.s) (hl:l.length=m:=by rfl) (hr:Rpl H (.row g tt o' A cs B) (.row g tt o' A r B) S:=by exact Aki) (hp:Put cs j l r:=by exact Be9) (h1:l.all (·.oneCell')=true:=by rfl):On c fr H none (.store t x y) ty Φ:=Axx hx hy hv hs hl hr hp h1 h
theorem dN (i:Nat) {od:Option Tmp} (h:On c fr H od o ty (.dk i k H0 X ops f (listed.setIfInBounds i true))) (hr:Region.ready .any ops listed=[i]:=by kernel_rfl) (ho:ops[i]?=some ⟨od,o,ty,pos,Ci,none⟩:=by rw [List.getElem?_toArray];rfl):T c fr H (.dx k H0 X ops (f+1) listed):=dO i hr ho h
theorem dM (i j:Nat) {od od2:Option Tmp} {o2:Op} {ty2:TypeId} {pos2:String} {aft2:Array Edge} (h:On c fr H od o ty (.dk i k H0 X ops f (listed.setIfInBounds i true))) (h':On c fr H od2 o2 ty2 (.dk j k H0 X ops f (listed.setIfInBounds j true))) (hr:Region.ready .any ops listed=[i,j]:=by kernel_rfl) (ho:ops[i]?=some ⟨od,o,ty,pos,Ci,none⟩:=by rw [List.getElem?_toArray];rfl) (ho2:ops[j]?=some ⟨od2,o2,ty2,pos2,aft2,none⟩:=by rw [List.getElem?_toArray];rfl):T c fr H (.dx k H0 X ops (f+1) listed):=dO2 i j hr ho ho2 h h'
theorem Ed (i0 i1:Nat) {d0:Nat} {o0:Op} {t0:TypeId} {p0:String} {a0:Array Edge} {v0:Value} {d1:Nat} {o1:Op} {t1:TypeId} {p1:String} {a1:Array Edge} {v1:Value} (h:T c ((d1,v1)::((d0,v0)::fr)) H (.dx k H0 X ops f ((listed.setIfInBounds i0 true).setIfInBounds i1 true))) (hs:Nn H0 H:=by repeat (first|exact Nn.nil|refine Nn.cons FO ?_)) (h1:Region.noSelect ops=true:=by kernel_rfl) (hR:Yg c:=by exact Aan) (ho0:ops[i0]?=some ⟨some d0,o0,t0,p0,a0,none⟩:=by rw [List.getElem?_toArray];rfl) (hy0:Yd c.P c.n fr H0 o0 t0 v0:=by exact ydE) (w0:Region.free .any ops listed i0=true:=by kernel_rfl) (x0:(Region.ready .any ops listed).contains i0=true:=by kernel_rfl) (y0:Mp .any ops (fun i=>X.contains i) i0=true:=by kernel_rfl) (z0:Ns .any ops listed=true:=by kernel_rfl) (e0:Nat.blt d0 c.n=true:=by rfl) (ho1:ops[i1]?=some ⟨some d1,o1,t1,p1,a1,none⟩:=by rw [List.getElem?_toArray];rfl) (hy1:Yd c.P c.n ((d0,v0)::fr) H0 o1 t1 v1:=by exact ydE) (w1:Region.free .any ops (listed.setIfInBounds i0 true) i1=true:=by kernel_rfl) (x1:(Region.ready .any ops (listed.setIfInBounds i0 true)).contains i1=true:=by kernel_rfl) (y1:Mp .any ops (fun i=>X.contains i) i1=true:=by kernel_rfl) (z1:Ns .any ops (listed.setIfInBounds i0 true)=true:=by kernel_rfl) (e1:Nat.blt d1 c.n=true:=by rfl):T c fr H (.dx k H0 X ops (f+1+1) listed):=dt i0 (dt i1 h ho1 hy1 hs h1 w1 x1 y1 z1 hR e1) ho0 hy0 hs h1 w0 x0 y0 z0 hR e0
theorem Ds (i0 i1 i2 i3:Nat) {d0:Nat} {o0:Op} {t0:TypeId} {p0:String} {a0:Array Edge} {v0:Value} {d1:Nat} {o1:Op} {t1:TypeId} {p1:String} {a1:Array Edge} {v1:Value} {d2:Nat} {o2:Op} {t2:TypeId} {p2:String} {a2:Array Edge} {v2:Value} {d3:Nat} {o3:Op} {t3:TypeId} {p3:String} {a3:Array Edge} {v3:Value} (h:T c ((d3,v3)::((d2,v2)::((d1,v1)::((d0,v0)::fr)))) H (.dx k H0 X ops f ((((listed.setIfInBounds i0 true).setIfInBounds i1 true).setIfInBounds i2 true).setIfInBounds i3 true))) (hs:Nn H0 H:=by repeat (first|exact Nn.nil|refine Nn.cons FO ?_)) (h1:Region.noSelect ops=true:=by kernel_rfl) (hR:Yg c:=by exact Aan) (ho0:ops[i0]?=some ⟨some d0,o0,t0,p0,a0,none⟩:=by rw [List.getElem?_toArray];rfl) (hy0:Yd c.P c.n fr H0 o0 t0 v0:=by exact ydE) (w0:Region.free .any ops listed i0=true:=by kernel_rfl) (x0:(Region.ready .any ops listed).contains i0=true:=by kernel_rfl) (y0:Mp .any ops (fun i=>X.contains i) i0=true:=by kernel_rfl) (z0:Ns .any ops listed=true:=by kernel_rfl) (e0:Nat.blt d0 c.n=true:=by rfl) (ho1:ops[i1]?=some ⟨some d1,o1,t1,p1,a1,none⟩:=by rw [List.getElem?_toArray];rfl) (hy1:Yd c.P c.n ((d0,v0)::fr) H0 o1 t1 v1:=by exact ydE) (w1:Region.free .any ops (listed.setIfInBounds i0 true) i1=true:=by kernel_rfl) (x1:(Region.ready .any ops (listed.setIfInBounds i0 true)).contains i1=true:=by kernel_rfl) (y1:Mp .any ops (fun i=>X.contains i) i1=true:=by kernel_rfl) (z1:Ns .any ops (listed.setIfInBounds i0 true)=true:=by kernel_rfl) (e1:Nat.blt d1 c.n=true:=by rfl) (ho2:ops[i2]?=some ⟨some d2,o2,t2,p2,a2,none⟩:=by rw [List.getElem?_toArray];rfl) (hy2:Yd c.P c.n ((d1,v1)::((d0,v0)::fr)) H0 o2 t2 v2:=by exact ydE) (w2:Region.free .any ops ((listed.setIfInBounds i0 true).setIfInBounds i1 true) i2=true:=by kernel_rfl) (x2:(Region.ready .any ops ((listed.setIfInBounds i0 true).setIfInBounds i1 true)).contains i2=true:=by kernel_rfl) (y2:Mp .any ops (fun i=>X.contains i) i2=true:=by kernel_rfl) (z2:Ns .any ops ((listed.setIfInBounds i0 true).setIfInBounds i1 true)=true:=by kernel_rfl) (e2:Nat.blt d2 c.n=true:=by rfl) (ho3:ops[i3]?=some ⟨some d3,o3,t3,p3,a3,none⟩:=by rw [List.getElem?_toArray];rfl) (hy3:Yd c.P c.n ((d2,v2)::((d1,v1)::((d0,v0)::fr))) H0 o3 t3 v3:=by exact ydE) (w3:Region.free .any ops (((listed.setIfInBounds i0 true).setIfInBounds i1 true).setIfInBounds i2 true) i3=true:=by kernel_rfl) (x3:(Region.ready .any ops (((listed.setIfInBounds i0 true).setIfInBounds i1 true).setIfInBounds i2 true)).contains i3=true:=by kernel_rfl) (y3:Mp .any ops (fun i=>X.contains i) i3=true:=by kernel_rfl) (z3:Ns .any ops (((listed.setIfInBounds i0 true).setIfInBounds i1 true).setIfInBounds i2 true)=true:=by kernel_rfl) (e3:Nat.blt d3 c.n=true:=by rfl):T c fr H (.dx k H0 X ops (f+1+1+1+1) listed):=dt i0 (dt i1 (dt i2 (dt i3 h ho3 hy3 hs h1 w3 x3 y3 z3 hR e3) ho2 hy2 hs h1 w2 x2 y2 z2 hR e2) ho1 hy1 hs h1 w1 x1 y1 z1 hR e1) ho0 hy0 hs h1 w0 x0 y0 z0 hR e0
theorem Cb {f:Nat} {vs:List Value} {A M R:List Pc} {σ:Type} {C:σ→Prop} {vv:σ→Value} {N K:σ→List Pc} (hf:Fn c.P f vs A M C vv N) (h:∀s,C s→T c ((d,vv s)::fr) (K s) Φ) (hM:Io H M R:=by repeat (first|exact Io.nil|apply Io.cons (by exact De))) (hA:Nn A R:=by repeat (first|exact Nn.nil|refine Nn.cons FO ?_)) (hmM:M.all (·.mu)=true:=by rfl) (hmA:A.all (fun p=>!p.mu)=true:=by rfl) (hK:∀s,Aoe (N s) R (K s):=by intro _;repeat constructor):Cl c fr H d f vs Φ:=cf_ hf (fun s hs=>O1 (h s hs) (hK s)) hM hA hmM hmA
end
section
variable {c:Cx} {fr:Fr} {H:List Pc} {Φ:Gl}
theorem Ga {v:Value} {x:Bf} {F:List Nat} (h:∀(a1:Option Addr) (c1:Nat) (F1:List Nat),v=.agg #[.int .i64 x.Ai,.slice a1 x.Ah.length c1]→x.Ah.length≤maxLen→T c fr (.sl Dt (.slice a1 x.Ah.length c1) x.Ah F1::H) Φ) (hm:.isv Bk v x F∈H:=by exact A9):T c fr H Φ:=.mk fun a w s g=>by
 exact AG
theorem Nr (x:Bf) {a1:Option Addr} {c1:Nat} {F1:List Nat}  (h:T c fr (.isv Bk (.agg #[.int .i64 x.Ai,.slice a1 x.Ah.length c1]) x (F1)::H) Φ) (m1:.sl Dt (.slice a1 x.Ah.length c1) x.Ah F1∈H:=by exact A9):T c fr H Φ:=.mk fun a w s g=>by
 exact AH
theorem H4 {v:Value} {x:Bf} {F:List Nat} {S:List Pc} (h:∀(a1:Option Addr) (c1:Nat) (F1:List Nat),v=.agg #[.int .i64 x.Ai,.slice a1 x.Ah.length c1]→x.Ah.length≤maxLen→T c fr (.ow Dy 212 (.slice a1 x.Ah.length c1) x.Ah F1::S) Φ) (hp:Co H (.own Ca v x F) S:=by exact De):T c fr H Φ:=.mk fun a w s g=>by
 have z1:=s.pick hp;obtain ⟨hn,cs,rfl,v1,rfl,h1⟩:=z1.on (.own Ca v x F) FK;obtain ⟨a1,c1,rfl⟩:=h1.slice;have l1:=h1.len;refine (h a1 c1 F rfl  l1).h a w (St.turn (M:=[.own Ca (.agg #[.int .i64 x.Ai,.slice a1 x.Ah.length c1]) x _]) (N:=[.ow Dy 212 (.slice a1 x.Ah.length c1) x.Ah F]) z1 (D6.refl _ w) ?_ ?_ ?_) g
 ·exact DJ
 ·exact ⟨FK,trivial⟩
 ·exact DQ
theorem Fc (x:Bf) {a1:Option Addr} {c1:Nat} {F1:List Nat} {S1:List Pc}  (h:T c fr (.own Ca (.agg #[.int .i64 x.Ai,.slice a1 x.Ah.length c1]) x (F1)::S1) Φ) (m1:Co H (.ow Dy 212 (.slice a1 x.Ah.length c1) x.Ah F1) S1:=by exact De)  : T c fr H Φ:=.mk fun a w s g=>by
 have z1:St c.G c.D c.w0 ([.ow Dy 212 (.slice a1 x.Ah.length c1) x.Ah F1]++S1) w:=by simpa using (show Io H [.ow Dy 212 (.slice a1 x.Ah.length c1) x.Ah F1] S1 from Io.cons m1 (Io.nil)).st (X:=[]) HN
 obtain ⟨n1,k1⟩:=z1.on (.ow Dy 212 (.slice a1 x.Ah.length c1) x.Ah F1) FK;have hN:=n1;refine h.h a w (St.turn (M:=[.ow Dy 212 (.slice a1 x.Ah.length c1) x.Ah F1]) (N:=[.own Ca (.agg #[.int .i64 x.Ai,.slice a1 x.Ah.length c1]) x (F1)]) z1 (D6.refl _ w) GW ⟨FK,trivial⟩ fun q hq b hb=>?_) g;exact CB
theorem Qb {a:Option Addr} {n cp:Nat} {xs:List Bf} {F:List Nat} (i:Nat) (h:∀(hi:i < xs.length) (b o:Nat) (a1:Option Addr) (c1:Nat) (F1:List Nat),a=some ⟨b,o,none⟩→xs[i].Ah.length≤maxLen→T c fr (.cel b (o+i * 2) [.int .i64 xs[i].Ai,.slice a1 xs[i].Ah.length c1]::.sl Dt (.slice a1 xs[i].Ah.length c1) xs[i].Ah F1::H) Φ) (hm:.sl Bk (.slice a n cp) xs F∈H:=by exact A9) (hi:i < xs.length:=by omega):T c fr H Φ:=.mk fun ac w s g=>by
 exact AW
end
section
variable {c:Cx} {fr:Fr} {H:List Pc} {Φ:Gl}
theorem T5 {v:Value} {x:Gs} {F:List Nat} (h:∀(a1:Option Addr) (c1:Nat) (F1:List Nat),v=.agg #[.int .i64 x.Ae,.slice a1 x.Bj.length c1,.int .i64 x.Ch]→x.Bj.length≤maxLen→T c fr (.sl Bb (.slice a1 x.Bj.length c1) x.Bj F1::H) Φ) (hm:.isv Dt v x F∈H:=by exact A9):T c fr H Φ:=.mk fun a w s g=>by
 exact AG
theorem Xh {v:Value} {x:Gs} {F:List Nat} {S:List Pc} (h:∀(a1:Option Addr) (c1:Nat) (F1:List Nat),v=.agg #[.int .i64 x.Ae,.slice a1 x.Bj.length c1,.int .i64 x.Ch]→x.Bj.length≤maxLen→T c fr (.ow Bb 3 (.slice a1 x.Bj.length c1) x.Bj F1::S) Φ) (hp:Co H (.own Dy v x F) S:=by exact De):T c fr H Φ:=.mk fun a w s g=>by
 have z1:=s.pick hp;obtain ⟨hn,cs,rfl,v1,rfl,h1⟩:=z1.on (.own Dy v x F) FK;obtain ⟨a1,c1,rfl⟩:=h1.slice;have l1:=h1.len;refine (h a1 c1 F rfl  l1).h a w (St.turn (M:=[.own Dy (.agg #[.int .i64 x.Ae,.slice a1 x.Bj.length c1,.int .i64 x.Ch]) x _]) (N:=[.ow Bb 3 (.slice a1 x.Bj.length c1) x.Bj F]) z1 (D6.refl _ w) ?_ ?_ ?_) g
 ·exact DJ
 ·exact ⟨FK,trivial⟩
 ·exact DQ
theorem Nh (x:Gs) {a1:Option Addr} {c1:Nat} {F1:List Nat} {S1:List Pc}  (h:T c fr (.own Dy (.agg #[.int .i64 x.Ae,.slice a1 x.Bj.length c1,.int .i64 x.Ch]) x (F1)::S1) Φ) (m1:Co H (.ow Bb 3 (.slice a1 x.Bj.length c1) x.Bj F1) S1:=by exact De)  : T c fr H Φ:=.mk fun a w s g=>by
 have z1:St c.G c.D c.w0 ([.ow Bb 3 (.slice a1 x.Bj.length c1) x.Bj F1]++S1) w:=by simpa using (show Io H [.ow Bb 3 (.slice a1 x.Bj.length c1) x.Bj F1] S1 from Io.cons m1 (Io.nil)).st (X:=[]) HN
 obtain ⟨n1,k1⟩:=z1.on (.ow Bb 3 (.slice a1 x.Bj.length c1) x.Bj F1) FK;have hN:=n1;refine h.h a w (St.turn (M:=[.ow Bb 3 (.slice a1 x.Bj.length c1) x.Bj F1]) (N:=[.own Dy (.agg #[.int .i64 x.Ae,.slice a1 x.Bj.length c1,.int .i64 x.Ch]) x (F1)]) z1 (D6.refl _ w) GW ⟨FK,trivial⟩ fun q hq b hb=>?_) g;exact CB
theorem U0 {a:Option Addr} {n cp:Nat} {xs:List Gs} {F:List Nat} (i:Nat) (h:∀(hi:i < xs.length) (b o:Nat) (a1:Option Addr) (c1:Nat) (F1:List Nat),a=some ⟨b,o,none⟩→xs[i].Bj.length≤maxLen→T c fr (.cel b (o+i * 3) [.int .i64 xs[i].Ae,.slice a1 xs[i].Bj.length c1,.int .i64 xs[i].Ch]::.sl Bb (.slice a1 xs[i].Bj.length c1) xs[i].Bj F1::H) Φ) (hm:.sl Dt (.slice a n cp) xs F∈H:=by exact A9) (hi:i < xs.length:=by omega):T c fr H Φ:=.mk fun ac w s g=>by
 exact AW
end
set_option maxRecDepth 100000
theorem fI {p:Prop} (h:p:=by exact ⟨⟨_,_,rfl,rfl,rfl,rfl⟩,FL,FM⟩):p:=h
theorem aI {p:Prop} (h:p:=by exact ⟨⟨_,rfl,rfl⟩,FL⟩):p:=h
theorem sI {p:Prop} (h:p:=by exact ⟨rfl,FL⟩):p:=h
theorem bI {p:Prop} (h:p:=by exact ⟨fun parts=>by kernel_rfl⟩):p:=h
theorem eI {p:Prop} (h:p:=by exact ⟨FL,rfl⟩):p:=h
theorem zI {p:Prop} (h:p:=by exact ⟨⟨_,rfl,rfl⟩⟩):p:=h
theorem iI {p:Prop} (h:p:=by exact ⟨rfl⟩):p:=h
instance:OneC prog 3:=aI
instance:IntC prog 3 .i64:=iI
instance:ZC prog 3 [.int .i64 0]:=zI
instance:ElT prog 3 (.int .i64 0) 1 8:=eI
instance:IntC prog 5 .u8:=iI
instance:IntC prog 363 .u64:=iI
instance:OneC prog 4:=aI
instance:BoolC prog 4:=iI
instance:OneC prog 9:=aI
instance:StrC prog 9:=iI
instance:ZC prog 9 [.string ⟨#[]⟩]:=zI
instance:ElT prog 9 (.string ⟨#[]⟩) 1 16:=eI
instance:AggC prog 24 1:=aI
instance:FldC prog 24 0 0 22 1:=fI
instance:AggC prog 27 3:=aI
instance:FldC prog 27 0 0 3 1:=fI
instance:FldC prog 27 1 1 3 1:=fI
instance:FldC prog 27 2 2 25 1:=fI
instance:AggC prog 30 6:=aI
instance:FldC prog 30 0 0 27 3:=fI
instance:FldC prog 30 1 3 3 1:=fI
instance:FldC prog 30 2 4 3 1:=fI
instance:FldC prog 30 3 5 28 1:=fI
instance:AggC prog 35 11:=aI
instance:FldC prog 35 0 0 24 1:=fI
instance:FldC prog 35 1 1 30 6:=fI
instance:FldC prog 35 2 7 31 1:=fI
instance:FldC prog 35 3 8 32 1:=fI
instance:FldC prog 35 4 9 33 1:=fI
instance:FldC prog 35 5 10 33 1:=fI
instance:AggC prog 37 3:=aI
instance:AggC prog 39 14:=aI
instance:FldC prog 39 0 0 35 11:=fI
instance:FldC prog 39 1 11 37 3:=fI
instance:AggC prog 41 1:=aI
instance:FldC prog 41 0 0 22 1:=fI
instance:ZC prog 41 [.slice none 0 0]:=zI
instance:BldC prog 41 [(0,1)] [.slice none 0 0]:=bI
instance:AggC prog 42 3:=aI
instance:FldC prog 42 0 0 3 1:=fI
instance:FldC prog 42 1 1 3 1:=fI
instance:FldC prog 42 2 2 25 1:=fI
instance:ZC prog 42 [.int .i64 0,.int .i64 0,.slice none 0 0]:=zI
instance:BldC prog 42 [(0,1),(1,1),(2,1)] [.int .i64 0,.int .i64 0,.slice none 0 0]:=bI
instance:AggC prog 45 6:=aI
instance:FldC prog 45 0 0 42 3:=fI
instance:FldC prog 45 1 3 3 1:=fI
instance:FldC prog 45 2 4 3 1:=fI
instance:FldC prog 45 3 5 43 1:=fI
instance:ZC prog 45 [.int .i64 0,.int .i64 0,.slice none 0 0,.int .i64 0,.int .i64 0,.slice none 0 0]:=zI
instance:BldC prog 45 [(0,3),(3,1),(4,1),(5,1)] [.int .i64 0,.int .i64 0,.slice none 0 0,.int .i64 0,.int .i64 0,.slice none 0 0]:=bI
instance:AggC prog 50 11:=aI
instance:FldC prog 50 0 0 41 1:=fI
instance:FldC prog 50 1 1 45 6:=fI
instance:FldC prog 50 2 7 46 1:=fI
instance:FldC prog 50 3 8 47 1:=fI
instance:FldC prog 50 4 9 48 1:=fI
instance:FldC prog 50 5 10 48 1:=fI
instance:ZC prog 50 [.slice none 0 0,.int .i64 0,.int .i64 0,.slice none 0 0,.int .i64 0,.int .i64 0,.slice none 0 0,.slice none 0 0,.slice none 0 0,.slice none 0 0,.slice none 0 0]:=zI
instance:BldC prog 50 [(0,1),(1,6),(7,1),(8,1),(9,1),(10,1)] [.slice none 0 0,.int .i64 0,.int .i64 0,.slice none 0 0,.int .i64 0,.int .i64 0,.slice none 0 0,.slice none 0 0,.slice none 0 0,.slice none 0 0,.slice none 0 0]:=bI
instance:AggC prog 51 3:=aI
instance:FldC prog 51 0 0 9 1:=fI
instance:FldC prog 51 1 1 9 1:=fI
instance:FldC prog 51 2 2 3 1:=fI
instance:ZC prog 51 [.string ⟨#[]⟩,.string ⟨#[]⟩,.int .i64 0]:=zI
instance:BldC prog 51 [(0,1),(1,1),(2,1)] [.string ⟨#[]⟩,.string ⟨#[]⟩,.int .i64 0]:=bI
instance:AggC prog 53 14:=aI
instance:FldC prog 53 0 0 50 11:=fI
instance:FldC prog 53 1 11 51 3:=fI
instance:ZC prog 53 [.slice none 0 0,.int .i64 0,.int .i64 0,.slice none 0 0,.int .i64 0,.int .i64 0,.slice none 0 0,.slice none 0 0,.slice none 0 0,.slice none 0 0,.slice none 0 0,.string ⟨#[]⟩,.string ⟨#[]⟩,.int .i64 0]:=zI
instance:BldC prog 53 [(0,11),(11,3)] [.slice none 0 0,.int .i64 0,.int .i64 0,.slice none 0 0,.int .i64 0,.int .i64 0,.slice none 0 0,.slice none 0 0,.slice none 0 0,.slice none 0 0,.slice none 0 0,.string ⟨#[]⟩,.string ⟨#[]⟩,.int .i64 0]:=bI
instance:AggC prog 66 2:=aI
instance:FldC prog 66 0 0 9 1:=fI
instance:FldC prog 66 1 1 9 1:=fI
instance:ZC prog 66 [.string ⟨#[]⟩,.string ⟨#[]⟩]:=zI
instance:ElT prog 66 (.agg #[.string ⟨#[]⟩,.string ⟨#[]⟩]) 2 32:=eI
instance:BldC prog 66 [(0,1),(1,1)] [.string ⟨#[]⟩,.string ⟨#[]⟩]:=bI
instance:AggC prog 89 3:=aI
instance:FldC prog 89 0 0 3 1:=fI
instance:FldC prog 89 1 1 3 1:=fI
instance:FldC prog 89 2 2 9 1:=fI
instance:ZC prog 89 [.int .i64 0,.int .i64 0,.string ⟨#[]⟩]:=zI
instance:BldC prog 89 [(0,1),(1,1),(2,1)] [.int .i64 0,.int .i64 0,.string ⟨#[]⟩]:=bI
instance:AggC prog 120 2:=aI
instance:FldC prog 120 0 0 3 1:=fI
instance:FldC prog 120 1 1 118 1:=fI
instance:AggC prog 124 2:=aI
instance:FldC prog 124 0 0 3 1:=fI
instance:FldC prog 124 1 1 122 1:=fI
instance:AggC prog 127 5:=aI
instance:FldC prog 127 0 0 4 1:=fI
instance:FldC prog 127 1 1 3 1:=fI
instance:FldC prog 127 2 2 124 2:=fI
instance:FldC prog 127 3 4 125 1:=fI
instance:AggC prog 133 2:=aI
instance:FldC prog 133 0 0 3 1:=fI
instance:FldC prog 133 1 1 131 1:=fI
instance:ZC prog 133 [.int .i64 0,.slice none 0 0]:=zI
instance:ElT prog 133 (.agg #[.int .i64 0,.slice none 0 0]) 2 32:=eI
instance:BldC prog 133 [(0,1),(1,1)] [.int .i64 0,.slice none 0 0]:=bI
instance:AggC prog 137 2:=aI
instance:FldC prog 137 0 0 3 1:=fI
instance:FldC prog 137 1 1 135 1:=fI
instance:ZC prog 137 [.int .i64 0,.slice none 0 0]:=zI
instance:BldC prog 137 [(0,1),(1,1)] [.int .i64 0,.slice none 0 0]:=bI
instance:AggC prog 140 5:=aI
instance:FldC prog 140 0 0 4 1:=fI
instance:FldC prog 140 1 1 3 1:=fI
instance:FldC prog 140 2 2 137 2:=fI
instance:FldC prog 140 3 4 138 1:=fI
instance:ZC prog 140 [.bool false,.int .i64 0,.int .i64 0,.slice none 0 0,.slice none 0 0]:=zI
instance:ElT prog 140 (.agg #[.bool false,.int .i64 0,.int .i64 0,.slice none 0 0,.slice none 0 0]) 5 72:=eI
instance:BldC prog 140 [(0,1),(1,1),(2,2),(4,1)] [.bool false,.int .i64 0,.int .i64 0,.slice none 0 0,.slice none 0 0]:=bI
instance:AggC prog 210 5:=aI
instance:AggC prog 212 3:=aI
instance:FldC prog 212 0 0 3 1:=fI
instance:FldC prog 212 1 1 22 1:=fI
instance:FldC prog 212 2 2 3 1:=fI
instance:ZC prog 212 [.int .i64 0,.slice none 0 0,.int .i64 0]:=zI
instance:ElT prog 212 (.agg #[.int .i64 0,.slice none 0 0,.int .i64 0]) 3 40:=eI
instance:BldC prog 212 [(0,1),(1,1),(2,1)] [.int .i64 0,.slice none 0 0,.int .i64 0]:=bI
instance:AggC prog 215 2:=aI
instance:FldC prog 215 0 0 3 1:=fI
instance:FldC prog 215 1 1 3 1:=fI
instance:ZC prog 215 [.int .i64 0,.int .i64 0]:=zI
instance:ElT prog 215 (.agg #[.int .i64 0,.int .i64 0]) 2 16:=eI
instance:BldC prog 215 [(0,1),(1,1)] [.int .i64 0,.int .i64 0]:=bI
instance:AggC prog 223 5:=aI
instance:FldC prog 223 0 0 3 1:=fI
instance:FldC prog 223 1 1 3 1:=fI
instance:FldC prog 223 2 2 3 1:=fI
instance:FldC prog 223 3 3 3 1:=fI
instance:FldC prog 223 4 4 9 1:=fI
instance:ZC prog 223 [.int .i64 0,.int .i64 0,.int .i64 0,.int .i64 0,.string ⟨#[]⟩]:=zI
instance:ElT prog 223 (.agg #[.int .i64 0,.int .i64 0,.int .i64 0,.int .i64 0,.string ⟨#[]⟩]) 5 48:=eI
instance:BldC prog 223 [(0,1),(1,1),(2,1),(3,1),(4,1)] [.int .i64 0,.int .i64 0,.int .i64 0,.int .i64 0,.string ⟨#[]⟩]:=bI
instance:AggC prog 238 2:=aI
instance:AggC prog 250 4:=aI
instance:FldC prog 250 0 0 3 1:=fI
instance:FldC prog 250 1 1 3 1:=fI
instance:FldC prog 250 2 2 3 1:=fI
instance:FldC prog 250 3 3 3 1:=fI
instance:ZC prog 250 [.int .i64 0,.int .i64 0,.int .i64 0,.int .i64 0]:=zI
instance:ElT prog 250 (.agg #[.int .i64 0,.int .i64 0,.int .i64 0,.int .i64 0]) 4 32:=eI
instance:BldC prog 250 [(0,1),(1,1),(2,1),(3,1)] [.int .i64 0,.int .i64 0,.int .i64 0,.int .i64 0]:=bI
instance:AggC prog 275 2:=aI
instance:FldC prog 275 0 0 4 1:=fI
instance:FldC prog 275 1 1 9 1:=fI
instance:ZC prog 275 [.bool false,.string ⟨#[]⟩]:=zI
instance:ElT prog 275 (.agg #[.bool false,.string ⟨#[]⟩]) 2 24:=eI
instance:BldC prog 275 [(0,1),(1,1)] [.bool false,.string ⟨#[]⟩]:=bI
instance:AggC prog 277 3:=aI
instance:FldC prog 277 0 0 3 1:=fI
instance:FldC prog 277 1 1 22 1:=fI
instance:FldC prog 277 2 2 3 1:=fI
instance:AggC prog 304 4:=aI
instance:AggC prog 342 2:=aI
instance:OneC prog 22:=aI
instance:SlC prog 22 3 1:=sI
instance:OneC prog 25:=aI
instance:SlC prog 25 9 1:=sI
instance:OneC prog 28:=aI
instance:SlC prog 28 238 2:=sI
instance:OneC prog 31:=aI
instance:SlC prog 31 120 2:=sI
instance:OneC prog 32:=aI
instance:SlC prog 32 127 5:=sI
instance:OneC prog 33:=aI
instance:SlC prog 33 129 1:=sI
instance:OneC prog 43:=aI
instance:SlC prog 43 215 2:=sI
instance:OneC prog 46:=aI
instance:SlC prog 46 133 2:=sI
instance:OneC prog 47:=aI
instance:SlC prog 47 140 5:=sI
instance:OneC prog 48:=aI
instance:SlC prog 48 142 1:=sI
instance:OneC prog 118:=aI
instance:SlC prog 118 277 3:=sI
instance:OneC prog 122:=aI
instance:SlC prog 122 342 2:=sI
instance:OneC prog 125:=aI
instance:SlC prog 125 304 4:=sI
instance:OneC prog 129:=aI
instance:SlC prog 129 210 5:=sI
instance:OneC prog 131:=aI
instance:SlC prog 131 212 3:=sI
instance:OneC prog 135:=aI
instance:SlC prog 135 275 2:=sI
instance:OneC prog 138:=aI
instance:SlC prog 138 250 4:=sI
instance:OneC prog 142:=aI
instance:SlC prog 142 223 5:=sI
instance:ZC prog 142 [.slice none 0 0]:=zI
instance:ElT prog 142 (.slice none 0 0) 1 24:=eI
instance:SlC prog 146 66 2:=sI
instance:OneC prog 320:=aI
instance:OneC prog 378:=aI
instance:OneC prog 380:=aI
section
variable {c:Cx} {fr:Fr} {H:List Pc} {k:List It} {Φ:Gl} {ops:Array Oper} {o:Op} {d:Nat} {v:Value} {ty:TypeId} {pos:String} {Ci:Array Edge} {H0:List Pc} {X:List Nat} {f:Nat} {listed:Array Bool}
theorem dsI {id:Nat} {l:List Oper} (H0:List Pc) (X:List Nat) (h:T c fr H (.dx k H0 X l.toArray l.length (Array.replicate l.length false))) (hm:c.P.follows .mixedOrders=true:=by kernel_rfl):T c fr H (.code k (Code.region id l.toArray true)):=.mk fun a w s g=>by
 refine Fm.start (S:=Om H0) (X:=fun i=>X.contains i) hm ?_;exact DR
theorem dtI (i:Nat) (hI:∀w,Om H w→Om H0 w) (h:T c ((d,v)::fr) H (.dx k H0 X ops f (listed.setIfInBounds i true))) (ho:ops[i]?=some ⟨some d,o,ty,pos,Ci,none⟩:=by rw [List.getElem?_toArray];rfl) (hy:Yd c.P c.n fr H0 o ty v:=by exact ydE)
  (h1:Region.noSelect ops=true:=by kernel_rfl) (h2:Region.free .any ops listed i=true:=by kernel_rfl) (h3:(Region.ready .any ops listed).contains i=true:=by kernel_rfl) (h4:Mp .any ops (fun i=>X.contains i) i=true:=by kernel_rfl) (h5:Ns .any ops listed=true:=by kernel_rfl) (hR:Yg c:=by exact Aan) (hd:Nat.blt d c.n=true:=by rfl) :
  T c fr H (.dx k H0 X ops (f+1) listed):=.mk fun a w s g =>
 Fm.take (v:=v) ho h1 h2 h3 h4 h5 (fun ch a w hp=>by rw [Nd] at hp ⊢;exact hR _ _ _ _ _ hp) (.inl ⟨rfl,fun w' hw'=>hy.h a w' _ _ _ _ g hw'⟩) (hI w s.on) (h.h _ _ s (g.put hd))
theorem dkI {i:Nat} (hI:∀w,Om H w→Om H0 w) (h:T c fr H (.dx k H0 X ops f listed)):T c fr H (.dk i k H0 X ops f listed):=.mk fun a w s g=>⟨fun _=>hI w s.on,h.h a w s g⟩
end
theorem Im {g t:Nat} {x:Value} {r:List Value} {w:World} (h:(Pc.row g t 0 [] (x::r) []).P w):(Pc.cel g 0 [x]).P w:=⟨FK,fun j u hu=>by
 cases j with
 | zero=>exact I0 h 0 u (by simpa using hu)
 | succ j=>simp at hu⟩
def Lo (c:Int) (x:Gs):Bool:=Cc x.Ae && (decide (0 < x.Bj.length) && (Rs 1 7 x.Bj && Gj (c+1) x.Ch (c+6)))
def Aag (c:Int) (es:List Gs) (i:Nat):Bool:=match es[i]? with
 | none=>true
 | some x=>Lo c x && !((es.take i).any fun o=>o.Ae == x.Ae)
theorem Kz {c:Int} {es:List Gs} {i:Nat} (h:i < es.length):Aag c es i=(Lo c es[i] && !((es.take i).any fun o=>o.Ae == es[i].Ae)):=by
 simp [Aag,h]
def Ba (e:Bf):Bool:=Ld e.Ai && decide (e.Ah.length≤5) && Pz (Aag e.Ai e.Ah) e.Ah.length
theorem O8 {c:Int}:Ld c=true↔0≤c∧c≤9999:=by unfold Ld Gj;simp
theorem Azq {es:List Gs} {m k:Nat} {p:Gs→Bool} (h:m < es.length) (hk:m < k) (hp:p es[m]=true):(es.take k).any p=true:=by
 rw [List.any_eq_true];exact ⟨es[m],List.mem_take_iff_getElem.2 ⟨m,FJ,rfl⟩,hp⟩
theorem Aos {es:List Gs} {k:Nat} {n:Int} (h:∀q,q < k→∀hq:q < es.length,es[q].Ae≠n):((es.take k).any fun o=>o.Ae == n)=false:=by
 rw [List.any_eq_false];intro x hx;obtain ⟨i,hi,rfl⟩:=List.mem_take_iff_getElem.1 hx;simpa using h i FJ FJ
theorem Adi {c d:Int} (h:Ld c=true) (h1:0≤d) (h2:d≤100):wrap64 (c+d)=c+d:=by
 have:=O8.1 h;unfold wrap64;omega
theorem Aci {e:Bf} {k:Nat} (hk:k < e.Ah.length) (h:Ld e.Ai=true→Aag e.Ai e.Ah k=false):Ba e=false:=by
 unfold Ba;cases hc:Ld e.Ai
 ·rfl
 ·rw [Ms hk (h hc)];simp
theorem Aav (x:Gs) (num:Int) (b:Nat) (G:List Nat) (u:Value) (w:World) (h:Jy Dt w u x G) (hc:w.cell? ⟨b,0,none⟩=some (.int .i64 num)) :
  Calls prog 270 #[u,.pointer (some ⟨b,0,none⟩)] w (RB (.bool (x.Ae == num)) w):=by
 obtain ⟨_,rfl,v1,rfl, -⟩:=h;have hc1:=fun o:Obj=>kc ((Below.refl w.heap.size w).alloc (Nat.le_refl _) o) hc
 go_enter func270,ntmps270
 go_wp2
 go_ret
 exact ⟨Cm rfl,(Below.refl _ _).alloc (Nat.le_refl _) _⟩
theorem Vr (v:Value) (e:Bf) (F:List Nat) (w:World) (h:Jy Bk w v e F) :
  Calls prog 199 #[v] w (RB (.bool (Ba e)) w):=by
 obtain ⟨_,rfl,v1,rfl,h1⟩:=h;obtain ⟨a,cap,rfl⟩:=h1.slice;have hl:=h1.len;unfold maxLen at hl;have hB0:∀A:Obj,Below w.heap.size w (w.alloc A):=fun A=>(Below.refl _ _).alloc (Nat.le_refl _) _
 go_enter func199,ntmps199
 go_wp2
 go_loopw [3,4,8] (fun _ _ i wr=>∃k:Nat,k≤e.Ah.length∧i=.int .i64 k∧Hid (Ld e.Ai=true→∀j,j < k→Aag e.Ai e.Ah j=true)∧Ir wr w.heap.size 133 [.int .i64 e.Ai,.slice a e.Ah.length cap]∧Below w.heap.size w wr) (fun _ _ i _=>e.Ah.length - (intOf i).toNat)
 case atStart=>exact ⟨0,Nat.zero_le _,rfl,fun _ j hj=>by omega,by simp [Jq],hB0 _⟩
 case round =>
  obtain ⟨k,hk,rfl,hz,hr,hB⟩:=hrel;have c0:=hr.cells;by_cases hlt:k < e.Ah.length
  ·have hz0:=hz;clear hz;obtain ⟨b,off,_,F1,rfl,hx, -,ja⟩:=(h1.below FM hB).at k hlt;obtain ⟨u1,rfl,hf⟩:=id hx;obtain ⟨fa,fc,rfl⟩:=hf.slice;have a0:=ja 0 FM;have a1:=ja 1 FM;have a2:=ja 2 FM;simp only [show Dt.sz=3 from rfl,Nat.mul_one,Nat.add_zero,List.getElem?_cons_zero,List.getElem?_cons_succ] at a0 a1 a2;clear ja;have d0:=fun A=>(hr.alloc A).cells;have hf1:=fun A:Obj=>hf.below FM ((Below.refl wr.heap.size wr).alloc (Nat.le_refl _) A);have hB1:=fun A:Obj=>tr hB ((Below.refl wr.heap.size wr).alloc (Nat.le_refl _) A) (Nat.le_refl _)
   have hcp:=h1.caps;by_cases hfe:e.Ah[k].Bj=[]
   ·have hE:((e.Ah[k].Bj.length:Int) == 0)=true:=by simp [hfe]
    have hno:=Lib.hid (Aci hlt (fun _=>by rw [Kz hlt];simp [Lo,hfe]))
    go_wp2_with (first
     | (go_at_call 189;refine (Jj _ _).mono ?_;rintro e' w' ⟨rfl,rfl⟩)
     | (go_at_call 268;refine (Ag8 _ _ _ _ (hf1 _)).mono ?_;rintro e' w' ⟨rfl,rfl⟩)
     | (go_at_call 114;refine (Ik _ _ _ _).mono ?_;rintro e' w' ⟨rfl,rfl⟩))
    all_goals go_ret
    all_goals exact ⟨Cm hno.out.symm,hB1 _⟩
   ·have hE:((e.Ah[k].Bj.length:Int) == 0)=false:=by simp [hfe]
    have hfe:=Lib.hid hfe
    go_wp2_with (first
     | (go_at_call 189;refine (Jj _ _).mono ?_;rintro e' w' ⟨rfl,rfl⟩)
     | (go_at_call 268;refine (Ag8 _ _ _ _ (hf1 _)).mono ?_;rintro e' w' ⟨rfl,rfl⟩)
     | (go_at_call 114;refine (Ik _ _ _ _).mono ?_;rintro e' w' ⟨rfl,rfl⟩))
    ·have t:(!Gj (wrap64 (e.Ai+1)) e.Ah[k].Ch (wrap64 (e.Ai+6)))=true:=GI
     go_ret
     refine ⟨Cm (Aci hlt fun hc=>?_).symm,hB1 _⟩;rw [Adi hc FJ FJ,Adi hc FJ FJ] at t;rw [Kz hlt];simp only [Lo];simp at t;simp [t]
    ·have t1:Cc e.Ah[k].Ae=true:=GI
     have t2:Rs 1 7 e.Ah[k].Bj=true:=GI
     have t:(!Gj (wrap64 (e.Ai+1)) e.Ah[k].Ch (wrap64 (e.Ai+6)))=false:=GI
     obtain ⟨G, -,hs⟩:=h1.takeS k hk;refine (Aau _ (.mk' func270 rfl rfl) _ _ _ _ (fun o=>o.Ae == e.Ah[k].Ae) _ (hs.below FM (hB1 _)) ?_).mono ?_
     ·intro j hj w2 u G2 hb2 hu;exact Aav _ _ _ _ _ _ hu (kc hb2 FK)
     rintro e' w2 ⟨rfl,hb2⟩;have hr2:=(hr.alloc _).below hb2;have hB2:=tr (hB1 _) hb2 (Nat.le_refl _);have hc2:=hr2.cells;have hAt:=Lib.hid (Kz (c:=e.Ai) hlt);cases hany:(e.Ah.take k).any fun o=>o.Ae == e.Ah[k].Ae
     ·rw [hany] at hAt;have hany:=Lib.hid hany;go_wp2_with fail;refine ⟨⟨k+1,FJ,HX,fun hc=>Wp (hz0.out hc) ?_,hr2,hB2⟩,GT⟩;rw [Adi hc FJ FJ,Adi hc FJ FJ] at t;rw [hAt.out];simp only [Lo,t1,t2];simp at t;simp [t,List.length_pos_iff,hfe.out]
     ·rw [hany] at hAt;have hany:=Lib.hid hany;go_wp2_with fail
      go_ret
      exact ⟨Cm (Aci hlt fun _=>by rw [hAt.out];simp).symm,hB2⟩
    ·have t:¬Rs 1 7 e.Ah[k].Bj=true:=GI
     go_ret
     refine ⟨Cm (Aci hlt fun hc=>?_).symm,hB1 _⟩;rw [Kz hlt];simp [Lo,t]
    ·have t:¬Cc e.Ah[k].Ae=true:=GI
     go_ret
     refine ⟨Cm (Aci hlt fun hc=>?_).symm,hB1 _⟩;rw [Kz hlt];simp [Lo,t]
  ·have hk:k=e.Ah.length:=FJ
   subst hk;have hz0:=hz;clear hz;cases hck:Ld e.Ai
   ·have hn:=Lib.hid (show Ba e=false by unfold Ba;rw [hck];rfl);have hck:=Lib.hid hck;go_wp2_with (go_at_call 188;refine (T0 _ _).mono ?_;rintro e' w' ⟨rfl,rfl⟩;rw [hck.out])
    go_ret
    exact ⟨Cm hn.out.symm,hB⟩
   ·have hn:=Lib.hid (show Ba e=decide ((e.Ah.length:Int)≤5) by unfold Ba;rw [hck,Me (hz0.out hck)];simp;omega);have hck:=Lib.hid hck;go_wp2_with (go_at_call 188;refine (T0 _ _).mono ?_;rintro e' w' ⟨rfl,rfl⟩;rw [hck.out])
    go_ret
    exact ⟨Cm hn.out.symm,hB⟩
theorem Aw9 (e:Bf) (v:Value) (F:List Nat):FV 158 [v] [.isv Bk v e F] (.bool (Ba e)):=by
 refine enter func158 rfl ntmps158 fun w0=>?_;refine Ga ?_;rintro a c F1 rfl hl;refine go ?_;intros;refine ce (fun w s=>Abe _ _) ?_;cases hck:Ld e.Ai
 ·rw [show Ba e=false by unfold Ba;rw [hck];rfl];exact AA
 have hcb:=O8.1 hck;refine go ?_;refine Ax rfl (fun h5=>?_) (fun h5=>?_)
 ·rw [show Ba e=false by unfold Ba;rw [hck,decide_eq_false FJ];rfl];exact AA
 rw [show Ba e=Pz (Aag e.Ai e.Ah) e.Ah.length by unfold Ba;rw [hck,decide_eq_true FJ];rfl];refine go ?_;refine D8 [1,2] (fun k:Nat=>[(3,.int .i64 (k:Nat))]) (fun k=>k≤e.Ah.length∧∀j,j < k→Aag e.Ai e.Ah j=true) (fun k=>e.Ah.length - k) 0 ⟨Nat.zero_le _,fun j hj=>by omega⟩ fun k hz=>?_;obtain ⟨hk0,hy⟩:=hz;refine go ?_;refine Ax rfl (fun h6=>?_) (fun h6=>?_)
 rotate_left
 ·rw [Me (fun j hj=>hy j FJ)];exact AA
 have hk:k < e.Ah.length:=FJ
 have hno:Aag e.Ai e.Ah k=false→Pz (Aag e.Ai e.Ah) e.Ah.length=false:=fun h=>Ms hk h;refine U0 (xs:=e.Ah) k ?_;rintro hi b o a1 c1 F2 rfl hfl;refine go ?_;intros;refine ce (fun w s=>Pq _ _) ?_;cases t1:Cc e.Ah[k].Ae
 ·skip
  rw [hno (by rw [Kz hk];simp [Lo,t1])];exact AA
 refine go ?_;by_cases hfe:e.Ah[k].Bj.length=0
 ·rw [show decide (((e.Ah[k].Bj.length:Nat):Int)=0)=true from decide_eq_true FJ];rw [hno (by rw [Kz hk];simp [Lo,t1,List.length_eq_zero_iff.1 hfe])];exact AA
 rw [show decide (((e.Ah[k].Bj.length:Nat):Int)=0)=false from decide_eq_false FJ];refine go ?_;refine cb (fun w st=>Asy _ _ _ w (st.get (p:=.sl Bb (.slice a1 e.Ah[k].Bj.length c1) e.Ah[k].Bj F2) FO).2) ?_;cases t2:Rs 1 7 e.Ah[k].Bj
 ·skip
  rw [hno (by rw [Kz hk];simp [Lo,t1,t2])];exact AA
 refine go ?_;refine ce (fun w s=>Ku _ _ _ _) ?_;cases t3:Gj (e.Ai+1) e.Ah[k].Ch (e.Ai+6)
 ·skip
  rw [hno (by rw [Kz hk];simp [Lo,t1,t2,t3])];exact AA
 have hAt:Aag e.Ai e.Ah k = !((e.Ah.take k).any fun o=>o.Ae == e.Ah[k].Ae):=by rw [Kz hk];unfold Lo;rw [t1,decide_eq_true (show 0 < e.Ah[k].Bj.length by omega),t2,t3];rfl
 refine go ?_;refine D8 [1,2,3,4,16,17,18,19,20,23,24,25,26,27,28,29,30,31,32,33,34,35,36,37,38,39,40,41,42,43,44,45,46,47,48,49,50,51,52,53,54,55] (fun m:Nat=>[(5,.int .i64 (m:Nat))]) (fun m=>m≤k∧∀q,q < m→∀hq:q < e.Ah.length,e.Ah[q].Ae≠e.Ah[k].Ae) (fun m=>k - m) 0 ⟨Nat.zero_le _,fun q hq=>by omega⟩ fun m hm=>?_;obtain ⟨hm0,hx⟩:=hm;refine go ?_;refine Ax rfl (fun h7=>?_) (fun h7=>?_)
 ·have hmk:m < k:=FJ
  refine U0 (xs:=e.Ah) m ?_;rintro hi2 b2 o2 a2 c2 F3 e2 -;cases e2
  repeat (first|apply Q7|(apply wO;apply oc;rfl;exact ydE)|apply X6|apply Abl|(apply Arr;rfl;rfl)|(apply Arq;rfl;rfl;rfl;rfl)|(apply Ars;rfl;rfl;rfl)|(apply c_t;rfl)|(apply c_f;rfl)|apply Wy|apply Tj|apply Afp)
  refine As [0,2,5] [] ?_;refine Ds 0 1 2 3 ?_;refine Ds 4 5 6 7 ?_;refine dt 8 ?_;refine dd ?_;refine go ?_;refine Ax rfl (fun h8=>?_) (fun h8=>?_)
  ·rw [hno (by rw [hAt,Azq FJ hmk (by simpa using h8)];rfl)];exact AA
  refine go ?_;refine Ce (m+1) ⟨FJ,fun q hq hql=>by
   rcases Nat.lt_or_eq_of_le (Nat.le_of_lt_succ hq) with h|h
   ·exact hx q h hql
   ·subst h;exact h8⟩ (by show k - (m+1) < k - m;omega)
 ·refine go ?_;refine Ce (k+1) ⟨FJ,fun j hj=>by
   rcases Nat.lt_or_eq_of_le (Nat.le_of_lt_succ hj) with h|h
   ·exact hy j h
   ·subst h;rw [hAt,Aos (fun q hq=>hx q FJ)];rfl⟩ (by show e.Ah.length - (k+1) < e.Ah.length - k;omega)
theorem Aln (v:Value) (e:Bf) (F:List Nat) (w:World) (h:Jy Bk w v e F) :
  Calls prog 158 #[v] w (RB (.bool (Ba e)) w):=(Aw9 e v F).val w (En h)
section
variable {c:Cx} {fr:Fr} {H:List Pc} {Φ:Gl}
theorem Cd {v:Value} {x:Aj} {F:List Nat} (h:∀(a1:Option Addr) (c1:Nat) (F1:List Nat),v=.agg #[.int .i64 x.next,.slice a1 x.Am.length c1]→x.Am.length≤maxLen→T c fr (.sl B9 (.slice a1 x.Am.length c1) x.Am F1::H) Φ) (hm:.isv Bh v x F∈H:=by exact A9):T c fr H Φ:=.mk fun a w s g=>by
 exact AG
theorem B4 (x:Aj) {a1:Option Addr} {c1:Nat} {F1:List Nat}  (h:T c fr (.isv Bh (.agg #[.int .i64 x.next,.slice a1 x.Am.length c1]) x (F1)::H) Φ) (m1:.sl B9 (.slice a1 x.Am.length c1) x.Am F1∈H:=by exact A9):T c fr H Φ:=.mk fun a w s g=>by
 exact AH
theorem Abn {v:Value} {x:Aj} {F:List Nat} {S:List Pc} (h:∀(a1:Option Addr) (c1:Nat) (F1:List Nat),v=.agg #[.int .i64 x.next,.slice a1 x.Am.length c1]→x.Am.length≤maxLen→T c fr (.ow B9 275 (.slice a1 x.Am.length c1) x.Am F1::S) Φ) (hp:Co H (.own M6 v x F) S:=by exact De):T c fr H Φ:=.mk fun a w s g=>by
 have z1:=s.pick hp;obtain ⟨hn,cs,rfl,v1,rfl,h1⟩:=z1.on (.own M6 v x F) FK;obtain ⟨a1,c1,rfl⟩:=h1.slice;have l1:=h1.len;refine (h a1 c1 F rfl  l1).h a w (St.turn (M:=[.own M6 (.agg #[.int .i64 x.next,.slice a1 x.Am.length c1]) x _]) (N:=[.ow B9 275 (.slice a1 x.Am.length c1) x.Am F]) z1 (D6.refl _ w) ?_ ?_ ?_) g
 ·exact DJ
 ·exact ⟨FK,trivial⟩
 ·exact DQ
theorem Z7 (x:Aj) {a1:Option Addr} {c1:Nat} {F1:List Nat} {S1:List Pc}  (h:T c fr (.own M6 (.agg #[.int .i64 x.next,.slice a1 x.Am.length c1]) x (F1)::S1) Φ) (m1:Co H (.ow B9 275 (.slice a1 x.Am.length c1) x.Am F1) S1:=by exact De)  : T c fr H Φ:=.mk fun a w s g=>by
 have z1:St c.G c.D c.w0 ([.ow B9 275 (.slice a1 x.Am.length c1) x.Am F1]++S1) w:=by simpa using (show Io H [.ow B9 275 (.slice a1 x.Am.length c1) x.Am F1] S1 from Io.cons m1 (Io.nil)).st (X:=[]) HN
 obtain ⟨n1,k1⟩:=z1.on (.ow B9 275 (.slice a1 x.Am.length c1) x.Am F1) FK;have hN:=n1;refine h.h a w (St.turn (M:=[.ow B9 275 (.slice a1 x.Am.length c1) x.Am F1]) (N:=[.own M6 (.agg #[.int .i64 x.next,.slice a1 x.Am.length c1]) x (F1)]) z1 (D6.refl _ w) GW ⟨FK,trivial⟩ fun q hq b hb=>?_) g;exact CB
end
section
variable {c:Cx} {fr:Fr} {H:List Pc} {Φ:Gl}
theorem Bbm {v:Value} {x:Gh} {F:List Nat} (h:∀(_:Unit),v=.agg #[.bool x.V2,.string x.Dk]→x.Dk.size≤maxLen→T c fr (H) Φ) (hm:.isv B9 v x F∈H:=by exact A9):T c fr H Φ:=.mk fun a w s g=>by
 obtain ⟨cs,rfl,rfl,s1,rfl⟩:=s.get hm;exact (h () rfl s1 ).h a w s g
theorem P4 {a:Option Addr} {n cp:Nat} {xs:List Gh} {F:List Nat} (i:Nat) (h:∀(hi:i < xs.length) (b o:Nat),a=some ⟨b,o,none⟩→xs[i].Dk.size≤maxLen→T c fr (.cel b (o+i * 2) [.bool xs[i].V2,.string xs[i].Dk]::H) Φ) (hm:.sl B9 (.slice a n cp) xs F∈H:=by exact A9) (hi:i < xs.length:=by omega):T c fr H Φ:=.mk fun ac w s g=>by
 exact CN
theorem Am4 {t:TypeId} {a:Option Addr} {n cp:Nat} {xs:List Gh} {F:List Nat} {S:List Pc} (i:Nat) (h:∀(_:i < xs.length) g A B,a=some ⟨g,0,none⟩→F=[g]→xs[i].Dk.size≤maxLen→Aza B9 t g (.slice (some ⟨g,0,none⟩) n cp) xs i A B→T c fr (.row g t (0+i * 2) A [.bool xs[i].V2,.string xs[i].Dk] B::S) Φ) (hp:Co H (.ow B9 t (.slice a n cp) xs F) S:=by exact De) (hi:i < xs.length:=by omega):T c fr H Φ :=
 P5 Id i (fun hi g A cs B ha hF hr hh=>by obtain ⟨rfl,s1, -⟩:=hr default;exact h hi g A B ha hF s1 hh) hp rfl hi
end
theorem Bc {x:Int}:Cc x=true↔0≤x∧x≤65535:=by unfold Cc Gj;simp
def Ci (x n:Int):Int:=(x+n) % 65536
def gp (a b:Int):Int:=(b - a) % 65536
def Uu (a b:Int):Bool:=Gj 1 (gp a b) 32767
theorem Mf (a b:Int):0≤gp a b∧gp a b≤65535:=by unfold gp;omega
theorem Kd (a b:Int):0≤Ci a b∧Ci a b≤65535:=by unfold Ci;omega
theorem Wv (a b:Int):Cc (Ci a b)=true:=Bc.2 (Kd a b)
theorem At4 (z:Int):((z.tmod 65536)+65536).tmod 65536=z % 65536:=by
 rw [Int.tmod_eq_emod (a:=z.tmod 65536+65536),Int.tmod_eq_emod]
 split <;> split <;> omega
theorem Bfw (z:Int):-65535≤z.tmod 65536∧z.tmod 65536≤65535:=by
 rw [Int.tmod_eq_emod]
 split <;> omega
theorem Th (x n:Int) (w:World) (h0:-4611686018427387904≤x+n) (h1:x+n≤4611686018427387904) :
  Calls prog 259 #[.int .i64 x,.int .i64 n] w fun e w'=>e=.returned (.int .i64 (Ci x n))∧w=w':=by
 have hb:=Bfw (x+n);have hb1:=hb.1;have hb2:=hb.2;clear hb;by_cases hz:0≤x+n
 ·go_enter func259,ntmps259
  go_wp2
  go_ret
  exact ⟨If (by unfold Ci;omega),rfl⟩
 ·have ht:=At4 (x+n);have ht:=Lib.hid ht
  go_enter func259,ntmps259
  go_wp2
  go_ret
  refine ⟨If ?_,rfl⟩;have:=ht.out;rw [Int.tmod_eq_emod (a:=(x+n).tmod 65536+65536)] at this;unfold Ci
  split at this <;> omega
theorem Qg (a b:Int) (w:World) (h0:-4611686018427387904≤b - a) (h1:b - a≤4611686018427387904) (ha:-4611686018427387904≤a) (ha':a≤4611686018427387904) :
  Calls prog 191 #[.int .i64 a,.int .i64 b] w fun e w'=>e=.returned (.int .i64 (gp a b))∧w=w':=by
 go_enter func191,ntmps191
 go_wp2_with fail;refine (Th b (-a) _ FJ FJ).mono ?_;rintro e w' ⟨rfl,rfl⟩;go_wp2_with fail
 go_ret
 exact ⟨If (by unfold Ci gp;omega),rfl⟩
theorem Ot (a b:Int) (w:World) (h0:-4611686018427387904≤b - a) (h1:b - a≤4611686018427387904) (ha:-4611686018427387904≤a) (ha':a≤4611686018427387904) :
  Calls prog 383 #[.int .i64 a,.int .i64 b] w fun e w'=>e=.returned (.bool (Uu a b))∧w=w':=by
 go_enter func383,ntmps383
 go_wp2_with fail;refine (Qg a b _ h0 h1 ha ha').mono ?_;rintro e w' ⟨rfl,rfl⟩;go_wp2_with fail;refine (Ik _ _ _ _).mono ?_;rintro e w' ⟨rfl,rfl⟩;go_wp2_with fail
 go_ret
 exact EE
theorem L8 (x n:Int) (w:World) (h0:-131072≤x+n) (h1:x+n≤4611686018427387904) :
  Calls prog 163 #[.int .i64 x,.int .i64 n] w fun e w'=>e=.returned (.int .i64 (Ci x n))∧w=w':=by
 have h2:0≤x+n+131072:=FJ
 go_enter func163,ntmps163
 go_wp2
 go_ret
 exact ⟨If (by unfold Ci;omega),rfl⟩
theorem Ju (a b:Int) (w:World) (h0:-65536≤b - a) (h1:b - a≤4611686018427387904) :
  Calls prog 157 #[.int .i64 a,.int .i64 b] w fun e w'=>e=.returned (.int .i64 (gp a b))∧w=w':=by
 have h2:0≤b - a+65536:=FJ
 go_enter func157,ntmps157
 go_wp2
 go_ret
 exact ⟨If (by unfold gp;omega),rfl⟩
theorem Rk (a b:Int) (w:World) (h0:-65536≤b - a) (h1:b - a≤4611686018427387904) :
  Calls prog 303 #[.int .i64 a,.int .i64 b] w fun e w'=>e=.returned (.bool (Uu a b))∧w=w':=by
 go_enter func303,ntmps303
 go_wp2_with fail;refine (Ju a b _ h0 h1).mono ?_;rintro e w' ⟨rfl,rfl⟩;go_wp2_with fail;refine (Ku _ _ _ _).mono ?_;rintro e w' ⟨rfl,rfl⟩;go_wp2_with fail
 go_ret
 exact EE
end Go.Proofs.YtkblpelckhegbaaGreatDoor
namespace Go.Proofs.YtkblpelckhegbaaGreatDoor
open Go.RowKit Go.Shelf
def low (b:UInt8):Bool:=Gj 97 b.toNat 122
def Abi (l:List UInt8):Bool:=l.all low
def R5 (s:ByteArray):Bool:=decide ((s.size:Int)≤8) && Abi s.data.toList
def abc:List UInt8:=[97,98,99,100,101,102,103,104,105,106,107,108,109,110,111,112,113,114,115,116,117,118,119,120,121,122]
theorem Bd0 (b:UInt8):abc.contains b=low b:=by
 have h:∀n:Fin 256,abc.contains (UInt8.ofNat n.val)=low (UInt8.ofNat n.val):=by decide +kernel
 have:=h ⟨b.toNat,b.toNat_lt⟩;exact EN
theorem dropWhile_nil {α:Type} (p:α→Bool) (l:List α):l.dropWhile p=[]↔l.all p=true:=by
 induction l with
 | nil=>simp
 | cons x r ih=>rw [List.dropWhile_cons];cases h:p x <;> simp [h,ih]
theorem Ajx {α:Type} (p:α→Bool) (l:List α):(l.dropWhile p).all p=l.all p:=by
 induction l with
 | nil=>simp
 | cons x r ih=>rw [List.dropWhile_cons];cases h:p x <;> simp [h,ih]
theorem Ayv (l cs:List UInt8):(Lib.trimS l cs=[])↔l.all (cs.contains ·)=true:=by
 unfold Lib.trimS Lib.trimLeftS Lib.trimRightS;rw [dropWhile_nil,List.all_reverse,Ajx,List.all_reverse]
theorem Bc3 (l:List UInt8):(Lib.trimS l abc == [])=Abi l:=by
 rw [Bool.eq_iff_iff,beq_iff_eq,Ayv];unfold Abi;rw [show (fun b=>abc.contains b)=low from funext Bd0]
theorem Acj (s:ByteArray) (w:World) (hs:s.size≤maxLen) :
  Calls prog 207 #[.string s] w (RB (.bool (R5 s)) w):=by
 unfold maxLen at hs;have hc:=fun w=>Any.strings_Trim_laid Tryz.lays160 FL s ⟨abc.toArray⟩ w hs FM (ascii_of_all FM);change ∀w,Calls prog 278 #[.string s,.string ⟨abc.toArray⟩] w (RB (.string ⟨(Lib.trimS s.data.toList abc).toArray⟩) w) at hc;have ht:=Bc3 s.data.toList;replace hc:=Lib.hid hc;by_cases h8:s.size≤8
 ·generalize Lib.trimS s.data.toList abc=t at *;have hi:R5 s=(t == []):=by unfold R5;rw [ht,decide_eq_true FJ];rfl
  replace hi:=Lib.hid hi;clear ht;cases t with
  | nil =>
   go_enter func207,ntmps207
   go_wp2_with fail;refine (hc.out _).mono ?_;rintro e w1 ⟨rfl,hb⟩;go_wp2_with fail
   go_ret
   exact ⟨Cm hi.out.symm,hb⟩
  | cons a r =>
   go_enter func207,ntmps207
   go_wp2_with fail;refine (hc.out _).mono ?_;rintro e w1 ⟨rfl,hb⟩;go_wp2_with fail
   go_ret
   exact ⟨Cm hi.out.symm,hb⟩
 ·have hi:R5 s=false:=by unfold R5;rw [decide_eq_false FJ];rfl
  replace hi:=Lib.hid hi
  go_enter func207,ntmps207
  go_wp2_with fail
  go_ret
  exact ⟨Cm hi.out.symm,Below.refl _ _⟩
theorem Axo (s:ByteArray) (k:Nat) (h:k < s.size):Abi (s.data.toList.drop k)=(low s[k] && Abi (s.data.toList.drop (k+1))):=by rw [Agl s k h];rfl
theorem So (s:ByteArray) (n:Int) (w:World) (hs:s.size≤maxLen) :
  Calls prog 164 #[.string s,.int .i64 n] w fun e w'=>e=.returned (.bool (decide ((s.size:Int)≤n) && Abi s.data.toList))∧w=w':=by
 unfold maxLen at hs
 go_enter func164,ntmps164
 go_wp2
 go_loop [5] (fun i=>∃k:Nat,k≤s.size∧i=.int .i64 k∧Hid (Abi s.data.toList=Abi (s.data.toList.drop k))) (fun i=>s.size - (intOf i).toNat)
 case atStart=>exact ⟨0,Nat.zero_le _,rfl,rfl⟩
 case round =>
  obtain ⟨k,hk,rfl,hz⟩:=hrel;by_cases hlt:k < s.size
  ·have hz:=Lib.hid (hz.out.trans (Axo s k hlt));have hb:(s[k].toNat:Int)≤255:=IZ
   cases hl:low s[k]
   ·have hl1:low s[k]=false:=hl;unfold low Gj at hl;by_cases h1:(s[k].toNat:Int) < 97
    ·clear hl
     go_wp2
     go_ret
     exact ⟨Cm (by rw [hz.out,hl1];simp),rfl⟩
    ·have h2:(122:Int) < s[k].toNat:=by simp at hl;omega
     clear hl
     go_wp2
     go_ret
     exact ⟨Cm (by rw [hz.out,hl1];simp),rfl⟩
   ·have hl1:low s[k]=true:=hl;unfold low Gj at hl;simp only [Bool.and_eq_true,decide_eq_true_eq] at hl;have h1:¬(s[k].toNat:Int) < 97:=FJ
    have h2:¬(122:Int) < s[k].toNat:=FJ
    clear hl;replace hl1:=Lib.hid hl1
    go_wp2
    go_round
    case rel=>exact ⟨k+1,FJ,HX,by refine Lib.hid ?_;rw [hz.out,hl1.out];rfl⟩
    case measure=>simp [intOf];omega
  ·go_wp2
   go_ret
   exact ⟨Cm (by rw [hz.out,Ab7 s k hlt];simp [Abi]),rfl⟩
end Go.Proofs.YtkblpelckhegbaaGreatDoor
namespace Go.Proofs.YtkblpelckhegbaaGreatDoor
open Go.RowKit
theorem Ag2 (fid:FuncId) (hbd:Z4 prog fid) (caps:Array Value) (v:Value) (xs:List Gh) (F:List Nat) (p:Gh→Bool) (w:World) (h:Sl B9 w v xs F)
  (hp:∀(k:Nat) (hk:k < xs.length) (wr:World) (u:Value) (G:List Nat),Below w.heap.size w wr→Jy B9 wr u xs[k] G→Calls prog fid (#[u]++caps) wr fun e w'=>e=.returned (.bool (p xs[k]))∧Below wr.heap.size wr w') :
  Calls prog 370 #[v,.func (.func fid) #[] caps] w (RB (.int .i64 (S0 p xs)) w):=by
 obtain ⟨a,cap,rfl⟩:=h.slice;have hl:=h.len;unfold maxLen at hl
 go_enter func370,ntmps370
 go_wp2
 go_loopw [5,8] (fun _ i wr=>∃k:Nat,k≤xs.length∧i=.int .i64 k∧Hid (∀j,j < k→∀hj:j < xs.length,p xs[j]=false)∧Below w.heap.size w wr) (fun _ i _=>xs.length - (intOf i).toNat)
 case atStart=>exact ⟨0,Nat.zero_le _,rfl,fun j hj=>by omega,Below.refl _ _⟩
 case round =>
  obtain ⟨k,hk,rfl,hz,hB⟩:=hrel;by_cases hlt:k < xs.length
  ·have hz0:=hz;clear hz;obtain ⟨b,off,_,F1,rfl,hx, -,ja⟩:=(h.below FM hB).at k hlt;obtain ⟨rfl,s1,rfl⟩:=id hx;have a0:=ja 0 FM;have a1:=ja 1 FM;simp only [show B9.sz=2 from rfl,Nat.mul_one,Nat.add_zero,List.getElem?_cons_zero,List.getElem?_cons_succ] at a0 a1;clear ja;have hr:=hp k hlt wr _ _ hB ⟨_,rfl,hx⟩;have hp:=Lib.hid hp;cases hpk:p xs[k]
   all_goals
    rw [hpk] at hr;have hpk:=Lib.hid hpk;have hr:=Lib.hid hr;go_wp2_with fail;refine hbd.upon hr.out ?_;rintro e w1 ⟨rfl,hb1⟩;refine ⟨_,rfl,?_⟩;have hB:=tr hB hb1 (Nat.le_refl _);clear hb1;go_wp2_with fail
   ·exact AM
   ·go_ret
    exact EW
  ·go_wp2
   go_ret
   exact DI
theorem Abx (fid:FuncId) (hbd:Z4 prog fid) (caps:Array Value) (v:Value) (xs:List Gh) (F:List Nat) (p:Gh→Bool) (w:World) (h:Sl B9 w v xs F)
  (hp:∀(k:Nat) (hk:k < xs.length) (wr:World) (u:Value) (G:List Nat),Below w.heap.size w wr→Jy B9 wr u xs[k] G→Calls prog fid (#[u]++caps) wr fun e w'=>e=.returned (.bool (p xs[k]))∧Below wr.heap.size wr w') :
  Calls prog 318 #[v,.func (.func fid) #[] caps] w (RB (.bool (xs.any p)) w):=by
 have hp:=Lib.hid hp
 go_enter func318,ntmps318
 go_wp2_with fail;refine (Ag2 fid hbd caps v xs F p _ h hp.out).mono ?_;rintro e w1 ⟨rfl,hb1⟩;go_wp2_with fail
 go_ret
 exact ⟨Cm (Ud p xs),hb1⟩
theorem Aas (v:Value) (xs:List Gh) (F:List Nat) (w:World) (h:Sl B9 w v xs F) (hm:xs.length≤4294967296) :
  Calls prog 257 #[v] w (No B9 275 xs w):=by
 obtain ⟨ao,c,news,Fy,rfl,hl,hfy,hFy,hsrc⟩:=h.src;have hFl:=hfy.lt;have he:=fun w (a:Option Addr) (n c:Nat)=>Lib.run_eql_slice_nil (P:=prog) w 135 _ a n c 0 0 underlying135
 go_enter func257,ntmps257
 rcases hsrc with ⟨rfl,rfl,rfl⟩|⟨ad,rfl,hn⟩
 ·go_wp2
  go_ret
  exact CA
 ·go_wp2_with (at_builtin;refine P8 Iy FM GG _ _ _ GG 275 (.agg #[.bool false,.string ⟨#[]⟩]) 24 underlying135 Awr rfl (.slice (some ⟨w.heap.size,0,none⟩) 0 0) [] [w.heap.size] GG (Ow.empty (Ir.made _ _ _)) (Hd.one _) (some ad) xs c GG news Fy (hfy.frame fun b hb=>Below.heap_alloc _ _ _ (hFl b hb)) (.inr ⟨ad,rfl,fun j u hu=>kc ((Below.refl _ _).alloc (Nat.le_refl _) _) (hn j u hu)⟩) (fun b hb e=>by have:=hFl b hb;simp [Value.ownBlock] at e;omega) HP HM ?_);intro v2 w2 F2 hA;go_wp2_with fail
  go_ret
  have hB:Below w.heap.size w w2:=((Below.refl _ _).alloc (Nat.le_refl _) _).trans (hA.Jd.below FK FK);have hs:∀b,v2.ownBlock=some b→w.heap.size≤b:=fun b hb=>by rcases hA.Atq with e|e <;> rw [e] at hb <;> simp [Value.ownBlock] at hb <;> omega
  refine ⟨v2,F2,rfl,JJ,hA.ow.scal Id▸?_,fun b hb=>?_,hB⟩
  ·cases v2.ownBlock <;> simp
  ·rw [hA.ow.scal Id] at hb;exact hs b JV
def H3 (s:Gh):Bool:=R5 s.Dk && (s.V2 || decide (s.Dk=⟨#[]⟩))
def J4 (l:List Gh) (k:Nat):Bool:=match l[k]? with|some s=>s.V2|none=>false
def X7 (l:List Gh):Bool:=decide (l.length=0) || (!J4 l 0 && J4 l (l.length - 1))
def Cu (x:Aj):Bool:=Cc x.next && decide ((x.Am.length:Int)≤8) && x.Am.all H3 && X7 x.Am
theorem Mg {l:List Gh} {k:Nat} (h:k < l.length):J4 l k=l[k].V2:=by unfold J4;rw [List.getElem?_eq_getElem h]
theorem Sn {l:List Gh} {k:Nat} (h:l.length≤k):J4 l k=false:=by unfold J4;rw [List.getElem?_eq_none h]
def Jb (x:Aj) (k:Int):Bool:=J4 x.Am (gp x.next k).toNat
theorem Ab0 (x:Aj) (k:Int) (v:Value) (F:List Nat) (h0:0≤x.next) (h1:x.next≤65535) (h2:0≤k) (h3:k≤65535) :
  FV 267 [v,.int .i64 k] [.isv Bh v x F] (.bool (Jb x k)):=by
 refine enter func267 rfl ntmps267 fun w0=>?_;refine Cd ?_;rintro a1 c1 F1 rfl l1;unfold maxLen at l1;have hg:=Mf x.next k
 refine go ?_;intros;refine ce (fun w s=>Qg _ _ _ FJ FJ FJ FJ) ?_;refine go ?_;refine Dx rfl rfl (fun h=>?_) (fun h=>?_)
 ·refine P4 (gp x.next k).toNat ?_;rintro hi b o rfl s1;refine go ?_;refine ret () trivial ?_;unfold Jb;rw [Mg hi];rfl
 ·refine go ?_;refine ret () trivial ?_;unfold Jb;rw [Sn FJ];rfl
theorem Bgy (x:Gh) (v:Value) (F:List Nat):FV 319 [v] [.isv B9 v x F] (.bool (!H3 x)):=by
 refine enter func319 rfl ntmps319 fun w0=>?_;refine Bbm ?_;rintro _ rfl s1;refine go ?_;intros;refine cb (fun w s=>Acj _ _ s1) ?_;cases g:R5 x.Dk
 ·refine go ?_;refine ret () trivial ?_;simp [H3,g,Ux]
 refine go ?_;cases g2:x.V2
 ·refine go ?_;refine ret () trivial ?_;simp [H3,g,g2,Ux]
 ·refine go ?_;refine ret () trivial ?_;simp [H3,g,g2,Ux]
theorem Azh (x:Aj) (v:Value) (F:List Nat):FV 263 [v] [.isv Bh v x F] (.bool (Cu x)):=by
 refine enter func263 rfl ntmps263 fun w0=>?_;refine Cd ?_;rintro a1 c1 F1 rfl l1;unfold maxLen at l1;refine go ?_;intros;refine ce (fun w s=>Jj _ _) ?_;cases g1:Cc x.next
 ·refine go ?_;refine ret () trivial ?_;simp [Cu,g1,Ux]
 refine go ?_;refine Ax rfl (fun h=>?_) (fun h=>?_)
 ·refine go ?_;refine ret () trivial ?_;simp [Cu,g1,Ux];omega
 refine go ?_;refine cb (fun w s=>Abx _ (.mk' func319 rfl rfl) #[] _ x.Am F1 (fun s=>!H3 s) _ (s.get (p:=.sl B9 (.slice a1 x.Am.length c1) x.Am F1) FK).2 ?_) ?_
 ·intro k hk wr u G _ hu;exact (Bgy x.Am[k] u G).val wr (En hu)
 cases g2:x.Am.all H3
 ·have:(x.Am.any fun s=>!H3 s)=true:=by rw [←List.not_all_eq_any_not,g2];rfl
  rw [this];refine go ?_;refine ret () trivial ?_;simp [Cu,g2,Ux]
 have hx:(x.Am.any fun s=>!H3 s)=false:=by rw [←List.not_all_eq_any_not,g2];rfl
 rw [hx];refine go ?_;have g3:Cu x=X7 x.Am:=by simp [Cu,g1,g2];omega
 refine Dx rfl rfl (fun h=>?_) (fun h=>?_)
 ·refine go ?_;refine ret () trivial ?_;rw [g3];have:x.Am.length=0:=FJ
  simp [X7,this,Ux]
 refine P4 0 ?_;rintro hi b o rfl s1;refine go ?_;cases g4:x.Am[0].V2
 rotate_left
 ·refine go ?_;refine ret () trivial ?_;rw [g3];unfold X7;rw [Mg hi,g4,decide_eq_false FJ];rfl
 refine P4 (x.Am.length - 1) ?_;rintro hi2 b2 o2 e s2;cases e;refine go ?_;have hl:((x.Am.length:Int) - 1).toNat=x.Am.length - 1:=FJ
 rw [hl];refine go ?_;refine ret () trivial ?_;rw [g3];unfold X7;rw [Mg hi,Mg hi2,g4,decide_eq_false FJ];rfl
theorem Bi9 (s:ByteArray):(decide ((s.size:Int)≤8) && Abi s.data.toList)=R5 s:=rfl
theorem Aae {α:Type} {p:α→Bool} {l:List α} {k:Nat} (h:k < l.length):(l.take (k+1)).all p=((l.take k).all p && p l[k]):=by
 rw [List.take_succ_eq_append_getElem h,List.all_append];simp
theorem Ag6 {α:Type} {p:α→Bool} {l:List α} {k:Nat} (h:k < l.length) (hp:p l[k]=false):l.all p=false:=by
 rw [List.all_eq_false];exact ⟨l[k],List.getElem_mem h,IC⟩
theorem Awy (x:Aj) (v:Value) (F:List Nat):FV 236 [v] [.isv Bh v x F] (.bool (Cu x)):=by
 refine enter func236 rfl ntmps236 fun w0=>?_;refine Cd ?_;rintro a1 c1 F1 rfl l1;unfold maxLen at l1;refine go ?_;intros;refine ce (fun w s=>Pq _ _) ?_;cases g1:Cc x.next
 ·refine go ?_;refine ret () trivial ?_;simp [Cu,g1,Ux]
 refine go ?_;refine Ax rfl (fun h=>?_) (fun h=>?_)
 ·refine go ?_;refine ret () trivial ?_;simp [Cu,g1,Ux];omega
 refine go ?_;refine D8 [1,2,3] (fun k:Nat=>[(4,.int .i64 k)]) (fun k=>k≤x.Am.length∧(x.Am.take k).all H3=true) (fun k=>x.Am.length - k) 0 ⟨Nat.zero_le _,rfl⟩ fun k hk=>?_;obtain ⟨hk1,hk2⟩:=hk;refine go ?_;refine Ax rfl (fun h3=>?_) (fun h3=>?_)
 ·have hk3:k < x.Am.length:=FJ
  refine P4 k ?_;rintro hi b o e s1;cases e;refine go ?_;refine ce (fun w s=>So _ _ _ s1) ?_;rw [Bi9];cases g2:R5 x.Am[k].Dk
  ·refine go ?_;refine ret () trivial ?_;have:x.Am.all H3=false:=Ag6 hk3 (by simp [H3,g2]);simp [Cu,this,Ux]
  refine go ?_;cases g3:x.Am[k].V2
  rotate_left
  ·refine go ?_;refine Ce (k+1) ⟨FJ,by rw [Aae hk3,hk2];simp [H3,g2,g3]⟩ FJ
  refine go ?_;refine Ax rfl (fun g4=>?_) (fun g4=>?_)
  ·refine go ?_;refine ret () trivial ?_;have:x.Am.all H3=false:=Ag6 hk3 (by simp [H3,g2,g3,g4]);simp [Cu,this,Ux]
  ·refine go ?_;simp only [Decidable.not_not] at g4;have ho:H3 x.Am[k]=true:=by unfold H3;rw [g2,g3,decide_eq_true g4];rfl
   refine Ce (k+1) ⟨FJ,by rw [Aae hk3,hk2,ho];rfl⟩ FJ
 have hkl:k=x.Am.length:=FJ
 subst hkl;rw [List.take_length] at hk2;have g3:Cu x=X7 x.Am:=by simp [Cu,g1,hk2];omega
 refine go ?_;refine Dx rfl rfl (fun h4=>?_) (fun h4=>?_)
 ·refine go ?_;refine ret () trivial ?_;rw [g3];have:x.Am.length=0:=FJ
  simp [X7,this,Ux]
 refine P4 0 ?_;rintro hi b o e s1;cases e;refine go ?_;cases g4:x.Am[0].V2
 rotate_left
 ·refine go ?_;refine ret () trivial ?_;rw [g3];unfold X7;rw [Mg hi,g4,decide_eq_false FJ];rfl
 refine P4 (x.Am.length - 1) ?_;rintro hi2 b2 o2 e s2;cases e;refine go ?_;have hl:((x.Am.length:Int) - 1).toNat=x.Am.length - 1:=FJ
 rw [hl];refine go ?_;refine ret () trivial ?_;rw [g3];unfold X7;rw [Mg hi,Mg hi2,g4,decide_eq_false FJ];rfl
def Aip (s:ByteArray):ByteArray:=⟨#[43]⟩++s
def Ap8:ByteArray:=⟨#[45]⟩
def Hb (l:List Gh):ByteArray:=match l with|[]=>Ap8|s::_=>if s.V2 then Aip s.Dk else Ap8
theorem Aet {l:List Gh} (hi:0 < l.length) (h:l[0].V2=true):Hb l=Aip l[0].Dk:=by
 cases l with
 | nil=>simp at hi
 | cons s r=>simp at h;simp [Hb,h]
theorem Ama {l:List Gh} (hi:0 < l.length) (h:l[0].V2=false):Hb l=Ap8:=by
 cases l with
 | nil=>simp at hi
 | cons s r=>simp at h;simp [Hb,h]
def rel:Int→List Gh→Int × List Gh × List ByteArray
 | n,[]=>(n,[],[])
 | n,s::r=>if s.V2 then ((rel (Ci n 1) r).1,(rel (Ci n 1) r).2.1,Aip s.Dk::(rel (Ci n 1) r).2.2) else (n,s::r,[])
theorem Bhv {n:Int} {l:List Gh} (h:J4 l 0=false):rel n l=(n,l,[]):=by
 cases l with
 | nil=>rfl
 | cons s r=>have:s.V2=false:=h;simp [rel,this]
theorem Bfh {n:Int} {l:List Gh} (h:J4 l 0=true):rel n l=((rel (Ci n 1) (l.drop 1)).1,(rel (Ci n 1) (l.drop 1)).2.1,Hb l::(rel (Ci n 1) (l.drop 1)).2.2):=by
 cases l with
 | nil=>cases h
 | cons s r=>have:s.V2=true:=h;simp [rel,Hb,this]
theorem Bhr {w:World} {a:Option Addr} {c:Nat} {x:Aj} {F:List Nat} (h:(Pc.ow B9 275 (.slice a x.Am.length c) x.Am F).P w):∃F',(Pc.isv Bh (.agg #[.int .i64 x.next,.slice a x.Am.length c]) x F').P w:=by
 obtain ⟨F', -,hs⟩:=h.2.read;exact ⟨F',_,rfl,_,rfl,hs⟩
theorem Avt (x:Aj) (v:Value) (F:List Nat) (hl:x.Am.length≤4294967296):Fn prog 185 [v] [.isv Bh v x F] [] (fun (_:Option Addr × Nat × List Nat)=>True)
  (fun s=>.agg #[.int .i64 x.next,.slice s.1 x.Am.length s.2.1]) (fun s=>[.ow B9 275 (.slice s.1 x.Am.length s.2.1) x.Am s.2.2]):=by
 refine enter func185 rfl ntmps185 fun w0=>?_;refine Cd ?_;rintro a1 c1 F1 rfl l1;refine go ?_;intros;refine cn (fun w s=>Aas _ _ _ _ (s.get (p:=.sl B9 (.slice a1 x.Am.length c1) x.Am F1) FK).2 hl) fun a cp F'=>?_;refine go ?_;refine ret (a,cp,F') trivial rfl
theorem Akq (x:Aj) (g t o:Nat) (A B:List Value) (a:Option Addr) (cc:Nat) (F:List Nat) (h0:0≤x.next) (h1:x.next≤65535) (hl:x.Am.length≤4294967296) (hs:∀s∈x.Am,s.Dk.size≤8) :
  Fn prog 384 [Iq g o 0] [] [.row g t o A [.int .i64 x.next,.slice a x.Am.length cc] B,.ow B9 275 (.slice a x.Am.length cc) x.Am F] (fun (_:Option Addr × Nat × List Nat)=>True)
   (fun _=>.string (Hb x.Am)) (fun s=>[.row g t o A [.int .i64 (Ci x.next 1),.slice s.1 (x.Am.drop 1).length s.2.1] B,.ow B9 275 (.slice s.1 (x.Am.drop 1).length s.2.1) (x.Am.drop 1) s.2.2]):=by
 refine enter func384 rfl ntmps384 fun w0=>?_;refine go ?_;refine Ax rfl (fun h=>?_) (fun h=>?_)
 ·refine A4 fun F'=>?_;refine P4 0 ?_;rintro hi b o2 e s1;cases e;refine go ?_;have s8:=hs _ (List.getElem_mem hi);have s9:(⟨#[43]⟩:ByteArray).size=1:=rfl;cases g1:x.Am[0].V2
  ·refine go ?_;apply wO;refine sld 1 fun a2 c2 F2=>?_;refine go ?_;refine cn (fun w s=>Aas _ _ _ _ (s.get (p:=.sl B9 (.slice a2 (x.Am.drop 1).length c2) (x.Am.drop 1) F2) FK).2 FR) fun a3 c3 F3=>?_;refine go ?_;refine ce (fun w s=>Th _ _ _ FJ FJ) ?_;refine go ?_;refine ret (a3,c3,F3) trivial ?_;rw [Ama hi g1];rfl
  ·refine go ?_;apply wO;refine sld 1 fun a2 c2 F2=>?_;refine go ?_;refine cn (fun w s=>Aas _ _ _ _ (s.get (p:=.sl B9 (.slice a2 (x.Am.drop 1).length c2) (x.Am.drop 1) F2) FK).2 FR) fun a3 c3 F3=>?_;refine go ?_;refine ce (fun w s=>Th _ _ _ FJ FJ) ?_;refine go ?_;refine ret (a3,c3,F3) trivial ?_;rw [Aet hi g1];rfl
 ·obtain ⟨n,l⟩:=x;obtain rfl:l=[]:=List.eq_nil_of_length_eq_zero GE;refine go ?_;refine ce (fun w s=>Th _ _ _ FJ FJ) ?_;refine go ?_;refine ret (a,cc,F) trivial rfl
def Qp (x:Aj):Aj:=⟨(rel x.next x.Am).1,(rel x.next x.Am).2.1⟩
def Su (x:Aj):List ByteArray:=(rel x.next x.Am).2.2
def shW (x:Aj):Aj:=⟨Ci x.next 1,x.Am.drop 1⟩
theorem Acy {x:Aj} (h:J4 x.Am 0=false):Qp x=x∧Su x=[]:=by unfold Qp Su;rw [Bhv h];exact ⟨rfl,rfl⟩
theorem Ano {x:Aj} (h:J4 x.Am 0=true):Qp x=Qp (shW x)∧Su x=Hb x.Am::Su (shW x):=by unfold Qp Su;rw [Bfh h];exact ⟨rfl,rfl⟩
theorem Tr {l:List Gh} (h:∀s∈l,s.Dk.size≤8):(Hb l).size≤9:=by
 cases l with
 | nil=>decide
 | cons s r =>
  have:=h s FK;unfold Hb;dsimp only
  split
  ·unfold Aip;rw [ByteArray.size_append];show 1+s.Dk.size≤9;omega
  ·decide
theorem Awp (y:Aj):Jb y y.next=J4 y.Am 0:=by
 unfold Jb gp;rw [Int.sub_self];rfl
theorem U8 (s:ByteArray) (h:s.size≤maxLen) (w:World):C1 A8 w [.string s] [s] []:=⟨_,[],[],[],FK,FK,⟨rfl,h,rfl⟩,rfl,rfl⟩
structure Adr where
 es:List ByteArray
 y:Aj
 a:Option Addr
 c:Nat
 F:List Nat
 ae:Option Addr
 ce:Nat
 Fe:List Nat
structure Bgd (x:Aj) (s:Adr):Prop where
 n0:0≤s.y.next
 n1:s.y.next≤65535
 it:∀z∈s.y.Am,z.Dk.size≤8
 ln:s.es.length+s.y.Am.length≤x.Am.length
 w:Qp x=Qp s.y
 e:Su x=s.es++Su s.y
theorem Ae6 (x:Aj) (g t o:Nat) (A B:List Value) (a:Option Addr) (cc:Nat) (F:List Nat) (h0:0≤x.next) (h1:x.next≤65535) (hl:x.Am.length≤1000000) (hs:∀s∈x.Am,s.Dk.size≤8) :
  Fn prog 385 [Iq g o 0] [] [.row g t o A [.int .i64 x.next,.slice a x.Am.length cc] B,.ow B9 275 (.slice a x.Am.length cc) x.Am F] (fun (s:Adr)=>s.y=Qp x∧s.es=Su x)
   (fun s=>.slice s.ae s.es.length s.ce) (fun s=>[.row g t o A [.int .i64 s.y.next,.slice s.a s.y.Am.length s.c] B,.ow B9 275 (.slice s.a s.y.Am.length s.c) s.y.Am s.F,.ow A8 9 (.slice s.ae s.es.length s.ce) s.es s.Fe]):=by
 refine enter func385 rfl ntmps385 fun w0=>?_;refine go ?_;refine Dj A8 9 ?_;refine Cj [0,2] (fun s:Adr=>[(3,.slice s.ae s.es.length s.ce)]) (fun s=>[.row g t o A [.int .i64 s.y.next,.slice s.a s.y.Am.length s.c] B,.ow B9 275 (.slice s.a s.y.Am.length s.c) s.y.Am s.F,.ow A8 9 (.slice s.ae s.es.length s.ce) s.es s.Fe]) (Bgd x) (fun s=>s.y.Am.length) ⟨[],x,a,cc,F,none,0,[]⟩ ⟨h0,h1,hs,FK,rfl,rfl⟩ fun s hC=>?_;obtain ⟨n0,n1,hit,hln,hw,he⟩:=hC;refine go ?_;refine As [0] [] ?_;refine Ds 0 1 2 3 ?_;refine Ed 4 5 ?_;refine dt 6 ?_;refine dN 7 ?_;refine oC ?_;refine cb (fun w st=>by
  obtain ⟨F',h⟩:=Bhr (st.get (p:=.ow B9 275 (.slice s.a s.y.Am.length s.c) s.y.Am s.F) FK);exact (Ab0 s.y s.y.next _ F' n0 n1 n0 n1).val w (En h)) ?_
 refine dk ?_;refine dd ?_;rw [Awp];cases hv:J4 s.y.Am 0
 ·refine go ?_;refine ret s ⟨by rw [hw,(Acy hv).1],by rw [he,(Acy hv).2,List.append_nil]⟩ rfl
 refine go ?_;refine cf (Akq s.y g t o A B s.a s.c s.F n0 n1 FJ hit) fun z _=>?_;obtain ⟨az,cz,Fz⟩:=z;refine O1 ?_;have hsz:=Tr hit;have hmx:(Hb s.y.Am).size≤maxLen:=GC
 have hlt:0 < s.y.Am.length:=by
  rcases Nat.eq_zero_or_pos s.y.Am.length with h|h
  ·rw [Sn FJ] at hv;cases hv
  ·exact h
 have hll:s.es.length+1≤1000000:=FJ
 refine go ?_;intros;apply wO;refine Qa (U8 _ hmx) Eh fun a' c' F'=>?_;refine go ?_;refine Ce ⟨s.es++[Hb s.y.Am],shW s.y,az,cz,Fz,a',c',F'⟩ ⟨(Kd _ _).1,(Kd _ _).2,fun z hz=>hit z (List.mem_of_mem_drop hz),II,by rw [hw,(Ano hv).1],by rw [he,(Ano hv).2];simp⟩ II
def zsl:Gh:=⟨false,⟨#[]⟩⟩
def Na (x:Aj) (j:Nat):List Gh:=x.Am++List.replicate j zsl
theorem Ps (x:Aj) (j:Nat):(Na x j).length=x.Am.length+j:=by simp [Na]
def M3 (x:Aj) (k:Nat) (s:Gh):List Gh:=(Na x (k+1 - x.Am.length)).set k s
def Hw (x:Aj) (n:Int):Bool:=Uu n x.next || Jb x n
def Oc (x:Aj) (n:Int):Bool:=Hw x n || decide (gp x.next n < 8)
def Aab (x:Aj) (n:Int) (s:ByteArray):Aj:=⟨x.next,M3 x (gp x.next n).toNat ⟨true,s⟩⟩
def My (x:Aj) (n:Int) (s:ByteArray):Aj:=if Hw x n || !decide (gp x.next n < 8) then x else Qp (Aab x n s)
def Mo (x:Aj) (n:Int) (s:ByteArray):List ByteArray:=if Hw x n || !decide (gp x.next n < 8) then [] else Su (Aab x n s)
def Ez (a b:Int):Nat:=if Uu a b then (gp a b).toNat else 0
def Jc:Nat→Aj→Aj
 | 0,y=>y
 | k+1,y=>Jc k (shW y)
def Pf:Nat→Aj→List ByteArray
 | 0,_=>[]
 | k+1,y=>Hb y.Am::Pf k (shW y)
theorem Ame {a b:Int} (h:Uu a b=false):Ez a b=0:=by unfold Ez;rw [h];rfl
theorem Ajc {a b:Int} (h:Uu a b=true):Ez a b=Ez (Ci a 1) b+1:=by
 unfold Ez;rw [h];unfold Uu Gj gp Ci at *;simp only [Bool.and_eq_true,decide_eq_true_eq,if_true] at h ⊢
 split <;> omega
theorem Amd (a b:Int):Ez a b≤32767:=by
 unfold Ez
 split
 ·rename_i h;unfold Uu Gj at h;simp only [Bool.and_eq_true,decide_eq_true_eq] at h;omega
 ·omega
theorem Aiw (s:Gh) (h:s.Dk.size≤maxLen) (w:World):C1 B9 w [.bool s.V2,.string s.Dk] [s] []:=⟨_,[],[],[],FK,FK,⟨rfl,h,rfl⟩,rfl,rfl⟩
theorem Abp {x:Aj} {k:Nat} (hs:∀s∈x.Am,s.Dk.size≤8) {s:Gh} (hi:s.Dk.size≤8):∀z∈M3 x k s,z.Dk.size≤8:=fun z hz=>by
 unfold M3 at hz;rcases List.mem_or_eq_of_mem_set hz with h|rfl
 ·unfold Na at h;rcases List.mem_append.1 h with h|h
  ·exact hs z h
  ·rw [(List.mem_replicate.1 h).2];decide
 ·exact hi
structure Bgx where
 j:Nat
 a:Option Addr
 c:Nat
 F:List Nat
theorem Azi (x:Aj) (n:Int) (Dk:ByteArray) (g t o:Nat) (A B:List Value) (a:Option Addr) (cc:Nat) (F:List Nat) (h0:0≤x.next) (h1:x.next≤65535) (h2:0≤n) (h3:n≤65535) (hl:x.Am.length≤8) (hs:∀s∈x.Am,s.Dk.size≤8) (hi:Dk.size≤8) :
  Fn prog 410 [Iq g o 0,.int .i64 n,.string Dk] [] [.row g t o A [.int .i64 x.next,.slice a x.Am.length cc] B,.ow B9 275 (.slice a x.Am.length cc) x.Am F] (fun (s:Adr)=>s.y=My x n Dk∧s.es=Mo x n Dk)
   (fun s=>.tuple #[.slice s.ae s.es.length s.ce,.bool (Oc x n)]) (fun s=>[.row g t o A [.int .i64 s.y.next,.slice s.a s.y.Am.length s.c] B,.ow B9 275 (.slice s.a s.y.Am.length s.c) s.y.Am s.F,.ow A8 9 (.slice s.ae s.es.length s.ce) s.es s.Fe]):=by
 have hg:=Mf x.next n
 refine enter func410 rfl ntmps410 fun w0=>?_;refine go ?_;refine ce (fun w s=>Ot _ _ _ FJ FJ FJ FJ) ?_;cases g1:Uu n x.next
 rotate_left
 ·refine go ?_;refine Dj A8 9 ?_;refine ret ⟨[],x,a,cc,F,none,0,[]⟩ ⟨by simp [My,Hw,g1],by simp [Mo,Hw,g1]⟩ ?_;simp [Oc,Hw,g1,Ux]
 refine go ?_;refine cb (fun w st=>by
  obtain ⟨F',h⟩:=Bhr (st.get (p:=.ow B9 275 (.slice a x.Am.length cc) x.Am F) FK);exact (Ab0 x n _ F' h0 h1 h2 h3).val w (En h)) ?_
 cases g2:Jb x n
 rotate_left
 ·refine go ?_;refine Dj A8 9 ?_;refine ret ⟨[],x,a,cc,F,none,0,[]⟩ ⟨by simp [My,Hw,g1,g2],by simp [Mo,Hw,g1,g2]⟩ ?_;simp [Oc,Hw,g1,g2,Ux]
 refine go ?_;refine ce (fun w s=>Qg _ _ _ FJ FJ FJ FJ) ?_;refine go ?_;refine Ax rfl (fun h8=>?_) (fun h8=>?_)
 ·refine go ?_;refine Dj A8 9 ?_;have h9:¬gp x.next n < 8:=FJ
  refine ret ⟨[],x,a,cc,F,none,0,[]⟩ ⟨by simp [My,h9],by simp [Mo,h9]⟩ ?_;simp [Oc,Hw,g1,g2,h9,Ux]
 have hW:My x n Dk=Qp (Aab x n Dk):=by unfold My Hw;rw [g1,g2,decide_eq_true FJ];rfl
 have hE:Mo x n Dk=Su (Aab x n Dk):=by unfold Mo Hw;rw [g1,g2,decide_eq_true FJ];rfl
 have hO:Oc x n=true:=by unfold Oc;rw [decide_eq_true (show gp x.next n < 8 by omega)];simp
 unfold Aab at hW hE;obtain ⟨k,hk⟩:∃k:Nat,gp x.next n=k:=⟨(gp x.next n).toNat,FJ⟩
 rw [hk] at hW hE ⊢;rw [Int.toNat_natCast] at hW hE;refine go ?_;refine Cj [0,2,6,7,8] (fun s:Bgx=>[]) (fun s=>[.row g t o A [.int .i64 x.next,.slice s.a (Na x s.j).length s.c] B,.ow B9 275 (.slice s.a (Na x s.j).length s.c) (Na x s.j) s.F]) (fun s=>s.j≤k+1 - x.Am.length) (fun s=>k+1 - x.Am.length - s.j) ⟨0,a,cc,F⟩ (Nat.zero_le _) (fun s hj=>?_) (hH:=IJ);have hpl:=Ps x s.j;refine go ?_;refine Ax rfl (fun h9=>?_) (fun h9=>?_)
 ·refine go ?_;intros;apply wO;refine Qa (Aiw zsl FM) Iy fun a' c' F'=>?_;refine go ?_;have e:Na x s.j++[zsl]=Na x (s.j+1):=LL
  exact CY
 have hjk:s.j=k+1 - x.Am.length:=FJ
 refine go ?_;have hkl:k < (Na x s.j).length:=FJ
 refine Am4 k ?_;rintro hi2 g2 A2 B2 e eF hs2 hh;rw [e];refine O3 ?_;intros;refine Pd (⟨true,Dk⟩:Gh) hh (fun w=>⟨rfl,KD,rfl⟩) ?_;have hsl:(Na x s.j).length=((Na x s.j).set k ⟨true,Dk⟩).length:=by rw [List.length_set]
 rw [hsl];have hpu:(Na x s.j).set k ⟨true,Dk⟩=M3 x k ⟨true,Dk⟩:=by unfold M3;rw [hjk]
 rw [hpu];have hpl2:(M3 x k ⟨true,Dk⟩).length≤1000:=KB
 have hps:=Abp (x:=x) (k:=k) hs (s:=⟨true,Dk⟩) hi;refine go ?_;refine Cb (Ae6 ⟨x.next,M3 x k ⟨true,Dk⟩⟩ g t o A B _ _ _ h0 h1 (by show (M3 x k ⟨true,Dk⟩).length≤_;omega) hps) fun z hz=>?_;refine go ?_;refine ret z ⟨by rw [hz.1,hW],by rw [hz.2,hE]⟩ ?_;rw [hO];rfl
structure Ay9 (x:Aj) (n:Int) (s:Adr):Prop where
 n0:0≤s.y.next
 n1:s.y.next≤65535
 it:∀z∈s.y.Am,z.Dk.size≤8
 ln:s.y.Am.length≤x.Am.length
 le:s.es.length+Ez s.y.next n≤Ez x.next n
 w:Jc (Ez x.next n) x=Jc (Ez s.y.next n) s.y
 e:Pf (Ez x.next n) x=s.es++Pf (Ez s.y.next n) s.y
theorem Aqs (x:Aj):(Su x).length≤x.Am.length:=by
 unfold Su;have:∀(l:List Gh) n,(rel n l).2.2.length≤l.length:=by
  intro l
  induction l with
  | nil=>intro n;simp [rel]
  | cons s r ih=>intro n;unfold rel;split;simp;exact ih _;simp
 exact this _ _
theorem Aom (x:Aj) (n:Int) (g t o:Nat) (A B:List Value) (a:Option Addr) (cc:Nat) (F:List Nat) (h0:0≤x.next) (h1:x.next≤65535) (h2:0≤n) (h3:n≤65535) (hl:x.Am.length≤8) (hs:∀s∈x.Am,s.Dk.size≤8) :
  Fn prog 347 [Iq g o 0,.int .i64 n] [] [.row g t o A [.int .i64 x.next,.slice a x.Am.length cc] B,.ow B9 275 (.slice a x.Am.length cc) x.Am F] (fun (s:Adr)=>s.y=Qp (Jc (Ez x.next n) x)∧s.es=Pf (Ez x.next n) x++Su (Jc (Ez x.next n) x))
   (fun s=>.slice s.ae s.es.length s.ce) (fun s=>[.row g t o A [.int .i64 s.y.next,.slice s.a s.y.Am.length s.c] B,.ow B9 275 (.slice s.a s.y.Am.length s.c) s.y.Am s.F,.ow A8 9 (.slice s.ae s.es.length s.ce) s.es s.Fe]):=by
 have hgn:=Amd x.next n
 refine enter func347 rfl ntmps347 fun w0=>?_;refine go ?_;refine Dj A8 9 ?_;refine Cj [0,1,4] (fun s:Adr=>[(5,.slice s.ae s.es.length s.ce)]) (fun s=>[.row g t o A [.int .i64 s.y.next,.slice s.a s.y.Am.length s.c] B,.ow B9 275 (.slice s.a s.y.Am.length s.c) s.y.Am s.F,.ow A8 9 (.slice s.ae s.es.length s.ce) s.es s.Fe]) (Ay9 x n) (fun s=>Ez s.y.next n) ⟨[],x,a,cc,F,none,0,[]⟩ ⟨h0,h1,hs,Nat.le_refl _,FK,rfl,rfl⟩ fun s hC=>?_;obtain ⟨n0,n1,hit,hln,hle,hw,he⟩:=hC;refine go ?_;refine ce (fun w s=>Ot _ _ _ FJ FJ FJ FJ) ?_;cases hb:Uu s.y.next n
 ·refine go ?_;rw [Ame hb] at hw he;refine Cb (Ae6 s.y g t o A B s.a s.c s.F n0 n1 FJ hit) fun z hz=>?_;refine go ?_;have hr:=Aqs s.y;have hzl:z.es.length≤s.y.Am.length:=by rw [hz.2];exact hr
  refine A4 (xs:=z.es) fun F'=>?_;apply wO;refine Pm Eh Hj fun a' c' F2=>?_;exact EQ
 have hst:=Ajc hb;refine go ?_;refine cf (Akq s.y g t o A B s.a s.c s.F n0 n1 FJ hit) fun z _=>?_;obtain ⟨az,cz,Fz⟩:=z;refine O1 ?_;have hsz:=Tr hit;have hmx:(Hb s.y.Am).size≤maxLen:=GC
 refine go ?_;intros;apply wO;refine Qa (U8 _ hmx) Eh fun a' c' F'=>?_;refine go ?_;refine Ce ⟨s.es++[Hb s.y.Am],shW s.y,az,cz,Fz,a',c',F'⟩ ⟨(Kd _ _).1,(Kd _ _).2,fun z hz=>hit z (List.mem_of_mem_drop hz),II,II,by rw [hw,hst];rfl,by rw [he,hst];simp [Pf,shW]⟩ (by show Ez (Ci s.y.next 1) n < _;omega)
def zRW:Aj:=⟨0,[]⟩
def Xf (x:Aj) (n:Int) (s:ByteArray):Bool:=Cu x && Cc n && R5 s && Oc x n
def J9 (x:Aj) (n:Int) (s:ByteArray):Aj × List ByteArray × Bool:=if Xf x n s then (My x n s,Mo x n s,true) else (zRW,[],false)
theorem Aqd {s:Gh} (h:H3 s=true):s.Dk.size≤8:=by
 unfold H3 R5 at h;simp only [Bool.and_eq_true,decide_eq_true_eq] at h;omega
structure Bgv (x:Aj):Prop where
 n0:0≤x.next
 n1:x.next≤65535
 l:x.Am.length≤8
 it:∀s∈x.Am,s.Dk.size≤8
theorem Tm {x:Aj} (h:Cu x=true):Bgv x:=by
 unfold Cu at h;simp only [Bool.and_eq_true,decide_eq_true_eq] at h;have hs:=Bc.1 h.1.1.1;exact ⟨hs.1,hs.2,FJ,fun s hs=>Aqd (List.all_eq_true.1 h.1.2 s hs)⟩
theorem Wa {s:ByteArray} (h:R5 s=true):s.size≤8:=by unfold R5 at h;simp only [Bool.and_eq_true,decide_eq_true_eq] at h;omega
structure CpS where
 g:Nat
 a:Option Addr
 c:Nat
 F:List Nat
theorem W9 (x:Aj) (v:Value) (F:List Nat) (h0:0≤x.next) (h1:x.next≤65535) (hl:x.Am.length≤1000000) (hs:∀s∈x.Am,s.Dk.size≤8) :
  Fn prog 362 [v] [.isv Bh v x F] [] (fun (s:Adr)=>s.y=Qp x∧s.es=Su x)
   (fun s=>.tuple #[.agg #[.int .i64 s.y.next,.slice s.a s.y.Am.length s.c],.slice s.ae s.es.length s.ce]) (fun s=>[.isv Bh (.agg #[.int .i64 s.y.next,.slice s.a s.y.Am.length s.c]) s.y s.F,.ow A8 9 (.slice s.ae s.es.length s.ce) s.es s.Fe]):=by
 refine enter func362 rfl ntmps362 fun w0=>?_;refine Cd ?_;rintro a1 c1 F1 rfl l1;unfold maxLen at l1;refine go ?_;intros;refine E4 [2,3] [0] (fun s:CpS=>[(4,Iq s.g 0 0)]) (fun s=>[.row s.g 137 0 [] [.int .i64 x.next,.slice s.a x.Am.length s.c] [],.ow B9 275 (.slice s.a x.Am.length s.c) x.Am s.F]) (fun _=>True) ?_ fun s _=>?_
 ·refine As [0,1] [8] ?_;refine Ds 0 1 3 4 ?_;refine dM 2 7 ?_ ?_
  ·apply Mx;rfl;intro _;refine Dc B9 ?_;refine dk ?_;refine dM 5 7 ?_ ?_
   ·exact AX
   ·apply Cr;rfl;intro _;exact AF
  ·exact CZ
 obtain ⟨gg,a2,c2,F2⟩:=s;refine A4 (xs:=x.Am) fun F3=>?_;refine go ?_;intros;refine Dc A8 ?_;refine Cj [2,3,4] (fun s:Adr=>[(5,.slice s.ae s.es.length s.ce)]) (fun s=>[.row gg 137 0 [] [.int .i64 s.y.next,.slice s.a s.y.Am.length s.c] [],.sl B9 (.slice s.a s.y.Am.length s.c) s.y.Am s.F,.ow A8 9 (.slice s.ae s.es.length s.ce) s.es s.Fe]) (Bgd x) (fun s=>s.y.Am.length) ⟨[],x,a2,c2,F3,_,0,_⟩ ⟨h0,h1,hs,FK,rfl,rfl⟩ fun s hC=>?_;obtain ⟨n0,n1,hit,hln,hw,he⟩:=hC;have stop:J4 s.y.Am 0=false→s.y=Qp x∧s.es=Su x:=fun h=>⟨by rw [hw,(Acy h).1],by rw [he,(Acy h).2,List.append_nil]⟩;refine go ?_
 refine Dx rfl rfl (fun h4=>?_) (fun h4=>?_)
 rotate_left
 ·refine go ?_;have hv:J4 s.y.Am 0=false:=Sn FJ;refine B4 s.y ?_;refine ret s (stop hv) rfl
 refine P4 0 ?_;rintro hi b o e s1;rw [e];refine go ?_;cases g1:s.y.Am[0].V2
 ·refine go ?_;rw [←e];refine B4 s.y ?_;refine ret s (stop (by rw [Mg hi,g1])) rfl
 have hv:J4 s.y.Am 0=true:=by rw [Mg hi,g1]
 have hz:=hit _ (List.getElem_mem hi);have h43:(⟨#[43]⟩:ByteArray).size=1:=rfl;have hpl:(⟨#[43]⟩++s.y.Am[0].Dk:ByteArray)=Hb s.y.Am:=(Aet hi g1).symm;have hmx:(Hb s.y.Am).size≤maxLen:=by have:=Tr hit;unfold maxLen;omega
 have hll:s.es.length+1≤1000000:=FJ
 refine go ?_;intros;rw [hpl];apply wO;refine Qa (U8 _ hmx) Eh fun a' c' F'=>?_;refine go ?_;refine As [1,2] [7] ?_;refine Ds 0 1 3 4 ?_;refine Asd 5 1 fun a5 c5 F5=>?_;refine dN 2 ?_;refine oC ?_;refine ce (fun w s=>L8 _ _ _ FJ FJ) ?_;refine dk ?_;refine dt 6 ?_;refine dN 7 ?_;refine oS ?_;refine Tx ?_;refine dd ?_;refine go ?_;refine Ce ⟨s.es++[Hb s.y.Am],shW s.y,a5,c5,F5,a',c',F'⟩ ⟨(Kd _ _).1,(Kd _ _).2,fun z hz=>hit z (List.mem_of_mem_drop hz),II,by rw [hw,(Ano hv).1],by rw [he,(Ano hv).2];simp⟩ II
theorem Asv (x:Aj) (n:Int) (v:Value) (F:List Nat) (h0:0≤x.next) (h1:x.next≤65535) (h2:0≤n) (h3:n≤65535) (hl:x.Am.length≤8) :
  FV 364 [v,.int .i64 n] [.isv Bh v x F] (.bool (Oc x n)):=by
 have hg:=Mf x.next n
 have hh:¬gp x.next n < 8→Jb x n=false:=fun h=>Sn FJ
 refine enter func364 rfl ntmps364 fun w0=>?_;refine Cd ?_;rintro a1 c1 F1 rfl l1;refine go ?_;intros;refine ce (fun w s=>Rk _ _ _ FJ FJ) ?_;cases g1:Uu n x.next
 ·refine go ?_;refine ce (fun w s=>Ju _ _ _ FJ FJ) ?_;refine go ?_;refine ret () trivial ?_;unfold Oc Hw;rw [g1];by_cases h8:gp x.next n < 8
  ·simp [h8,Ux]
  ·simp [h8,hh h8,Ux]
 ·refine go ?_;refine ret () trivial ?_;simp [Oc,Hw,g1,Ux]
theorem Awz (x:Aj) (n:Int) (Dk:ByteArray) (v:Value) (F:List Nat) (h0:0≤x.next) (h1:x.next≤65535) (h2:0≤n) (h3:n≤65535) (hl:x.Am.length≤8) (hs:∀s∈x.Am,s.Dk.size≤8) (hi:Dk.size≤8) (hok:Oc x n=true) :
  Fn prog 365 [v,.int .i64 n,.string Dk] [.isv Bh v x F] [] (fun (s:Adr)=>s.y=My x n Dk∧s.es=Mo x n Dk)
   (fun s=>.tuple #[.agg #[.int .i64 s.y.next,.slice s.a s.y.Am.length s.c],.slice s.ae s.es.length s.ce]) (fun s=>[.isv Bh (.agg #[.int .i64 s.y.next,.slice s.a s.y.Am.length s.c]) s.y s.F,.ow A8 9 (.slice s.ae s.es.length s.ce) s.es s.Fe]):=by
 have hg:=Mf x.next n
 refine enter func365 rfl ntmps365 fun w0=>?_;refine Cd ?_;rintro a1 c1 F1 rfl l1;refine go ?_;intros;refine ce (fun w s=>Ju _ _ _ FJ FJ) ?_;obtain ⟨k,hk⟩:∃k:Nat,gp x.next n=k:=⟨(gp x.next n).toNat,FJ⟩
 rw [hk];refine go ?_;refine E4 [1,2,3,6,7,8] [0,1,2] (fun s:CpS=>[(9,Iq s.g 0 0)]) (fun s=>[.row s.g 137 0 [] [.int .i64 x.next,.slice s.a x.Am.length s.c] [],.ow B9 275 (.slice s.a x.Am.length s.c) x.Am s.F]) (fun _=>True) ?_ fun s _=>?_
 ·refine As [0,1] [8] ?_;refine Ds 0 1 3 4 ?_;refine dM 2 7 ?_ ?_
  ·apply Mx;rfl;intro _;refine Dc B9 ?_;refine dk ?_;refine dM 5 7 ?_ ?_
   ·exact AX
   ·apply Cr;rfl;intro _;exact AF
  ·exact CZ
 obtain ⟨gg,a2,c2,F2⟩:=s;refine go ?_;refine ce (fun w s=>Rk _ _ _ FJ FJ) ?_;cases g1:Uu n x.next
 rotate_left
 ·refine go ?_;intros;refine Dc A8 ?_;refine A4 (xs:=x.Am) fun F3=>?_;refine B4 x ?_;refine ret ⟨[],x,a2,c2,F3,_,0,_⟩ ⟨by simp [My,Hw,g1],by simp [Mo,Hw,g1]⟩ rfl
 refine go ?_;refine Dx rfl rfl (fun h4=>?_) (fun h4=>?_)
 ·refine P4 k ?_;rintro hi2 b2 o2 e s1;cases e;refine go ?_;cases g4:x.Am[k].V2
  rotate_left
  ·have hb:Jb x n=true:=by unfold Jb;rw [hk,Int.toNat_natCast,Mg hi2];exact g4
   refine go ?_;intros;refine Dc A8 ?_;refine A4 (xs:=x.Am) fun F3=>?_;refine B4 x ?_;refine ret ⟨[],x,a2,c2,F3,_,0,_⟩ ⟨by simp [My,Hw,hb],by simp [Mo,Hw,hb]⟩ rfl
  have hpad:Jb x n=false:=by unfold Jb;rw [hk,Int.toNat_natCast,Mg hi2];exact g4
  have hno:Hw x n=false:=by unfold Hw;rw [g1,hpad];rfl
  have h8:gp x.next n < 8:=by unfold Oc at hok;rw [hno] at hok;simpa using hok
  have hW:My x n Dk=Qp (Aab x n Dk):=by unfold My;rw [hno,decide_eq_true h8];rfl
  have hE:Mo x n Dk=Su (Aab x n Dk):=by unfold Mo;rw [hno,decide_eq_true h8];rfl
  unfold Aab at hW hE;rw [hk,Int.toNat_natCast] at hW hE;refine go ?_;refine Cj [2,6,7,8,9] (fun s:Bgx=>[]) (fun s=>[.row gg 137 0 [] [.int .i64 x.next,.slice s.a (Na x s.j).length s.c] [],.ow B9 275 (.slice s.a (Na x s.j).length s.c) (Na x s.j) s.F]) (fun s=>s.j≤k+1 - x.Am.length) (fun s=>k+1 - x.Am.length - s.j) ⟨0,a2,c2,F2⟩ (Nat.zero_le _) (fun s hj=>?_) (hH:=IJ);have hpl:=Ps x s.j;refine go ?_;refine Ax rfl (fun h9=>?_) (fun h9=>?_)
  ·refine go ?_;intros;apply wO;refine Qa (Aiw zsl FM) Iy fun a' c' F'=>?_;refine go ?_;have e:Na x s.j++[zsl]=Na x (s.j+1):=LL
   exact CY
  have hjk:s.j=k+1 - x.Am.length:=FJ
  refine go ?_;have hkl:k < (Na x s.j).length:=FJ
  refine Am4 k ?_;rintro hi2 g2 A2 B2 e eF hs2 hh;rw [e];refine O3 ?_;intros;refine Pd (⟨true,Dk⟩:Gh) hh (fun w=>⟨rfl,KD,rfl⟩) ?_;have hsl:(Na x s.j).length=((Na x s.j).set k ⟨true,Dk⟩).length:=by rw [List.length_set]
  rw [hsl];have hpu:(Na x s.j).set k ⟨true,Dk⟩=M3 x k ⟨true,Dk⟩:=by unfold M3;rw [hjk]
  rw [hpu];have hpl2:(M3 x k ⟨true,Dk⟩).length≤1000:=KB
  exact BG
 ·have hpad:Jb x n=false:=Sn FJ;have hno:Hw x n=false:=by unfold Hw;rw [g1,hpad];rfl
  have h8:gp x.next n < 8:=by unfold Oc at hok;rw [hno] at hok;simpa using hok
  have hW:My x n Dk=Qp (Aab x n Dk):=by unfold My;rw [hno,decide_eq_true h8];rfl
  have hE:Mo x n Dk=Su (Aab x n Dk):=by unfold Mo;rw [hno,decide_eq_true h8];rfl
  unfold Aab at hW hE;rw [hk,Int.toNat_natCast] at hW hE;refine go ?_;refine Cj [2,6,7,8,9] (fun s:Bgx=>[]) (fun s=>[.row gg 137 0 [] [.int .i64 x.next,.slice s.a (Na x s.j).length s.c] [],.ow B9 275 (.slice s.a (Na x s.j).length s.c) (Na x s.j) s.F]) (fun s=>s.j≤k+1 - x.Am.length) (fun s=>k+1 - x.Am.length - s.j) ⟨0,a2,c2,F2⟩ (Nat.zero_le _) (fun s hj=>?_) (hH:=IJ);have hpl:=Ps x s.j;refine go ?_;refine Ax rfl (fun h9=>?_) (fun h9=>?_)
  ·refine go ?_;intros;apply wO;refine Qa (Aiw zsl FM) Iy fun a' c' F'=>?_;refine go ?_;have e:Na x s.j++[zsl]=Na x (s.j+1):=LL
   exact CY
  have hjk:s.j=k+1 - x.Am.length:=FJ
  refine go ?_;have hkl:k < (Na x s.j).length:=FJ
  refine Am4 k ?_;rintro hi2 g2 A2 B2 e eF hs2 hh;rw [e];refine O3 ?_;intros;refine Pd (⟨true,Dk⟩:Gh) hh (fun w=>⟨rfl,KD,rfl⟩) ?_;have hsl:(Na x s.j).length=((Na x s.j).set k ⟨true,Dk⟩).length:=by rw [List.length_set]
  rw [hsl];have hpu:(Na x s.j).set k ⟨true,Dk⟩=M3 x k ⟨true,Dk⟩:=by unfold M3;rw [hjk]
  rw [hpu];have hpl2:(M3 x k ⟨true,Dk⟩).length≤1000:=KB
  exact BG
theorem U4 (x:Aj) (n:Int) (v:Value) (F:List Nat) (h0:0≤x.next) (h1:x.next≤65535) (h2:0≤n) (h3:n≤65535) (hl:x.Am.length≤8) (hs:∀s∈x.Am,s.Dk.size≤8) :
  Fn prog 307 [v,.int .i64 n] [.isv Bh v x F] [] (fun (s:Adr)=>s.y=Qp (Jc (Ez x.next n) x)∧s.es=Pf (Ez x.next n) x++Su (Jc (Ez x.next n) x))
   (fun s=>.tuple #[.agg #[.int .i64 s.y.next,.slice s.a s.y.Am.length s.c],.slice s.ae s.es.length s.ce]) (fun s=>[.isv Bh (.agg #[.int .i64 s.y.next,.slice s.a s.y.Am.length s.c]) s.y s.F,.ow A8 9 (.slice s.ae s.es.length s.ce) s.es s.Fe]):=by
 have hgn:=Amd x.next n
 refine enter func307 rfl ntmps307 fun w0=>?_;refine Cd ?_;rintro a1 c1 F1 rfl l1;refine go ?_;intros;refine E4 [1,4,5] [0] (fun s:CpS=>[(6,Iq s.g 0 0)]) (fun s=>[.row s.g 137 0 [] [.int .i64 x.next,.slice s.a x.Am.length s.c] [],.ow B9 275 (.slice s.a x.Am.length s.c) x.Am s.F]) (fun _=>True) ?_ fun s _=>?_
 ·refine As [0,1] [8] ?_;refine Ds 0 1 3 4 ?_;refine dM 2 7 ?_ ?_
  ·apply Mx;rfl;intro _;refine Dc B9 ?_;refine dk ?_;refine dM 5 7 ?_ ?_
   ·exact AX
   ·apply Cr;rfl;intro _;exact AF
  ·exact CZ
 obtain ⟨gg,a2,c2,F2⟩:=s;refine A4 (xs:=x.Am) fun F3=>?_;refine go ?_;intros;refine Dc A8 ?_;refine Cj [1,4,5,6] (fun s:Adr=>[(7,.slice s.ae s.es.length s.ce)]) (fun s=>[.row gg 137 0 [] [.int .i64 s.y.next,.slice s.a s.y.Am.length s.c] [],.sl B9 (.slice s.a s.y.Am.length s.c) s.y.Am s.F,.ow A8 9 (.slice s.ae s.es.length s.ce) s.es s.Fe]) (Ay9 x n) (fun s=>Ez s.y.next n) ⟨[],x,a2,c2,F3,_,0,_⟩ ⟨h0,h1,hs,Nat.le_refl _,FK,rfl,rfl⟩ fun s hC=>?_;obtain ⟨n0,n1,hit,hln,hle,hw,he⟩:=hC;refine go ?_;refine ce (fun w s=>Rk _ _ _ FJ FJ) ?_;cases hb:Uu s.y.next n
 ·refine O3 ?_;intros;refine B4 s.y ?_;refine go ?_;rw [Ame hb] at hw he;refine Cb (W9 s.y _ _ n0 n1 FJ hit) fun z hz=>?_;refine go ?_;intros;have hr:=Aqs s.y;have hzl:z.es.length≤s.y.Am.length:=by rw [hz.2];exact hr
  refine A4 (xs:=z.es) fun F'=>?_;refine As [1] [] ?_;refine Ed 0 1 ?_;refine dt 2 ?_;refine dN 3 ?_;refine Pm Eh Hj fun a' c' F2=>?_;refine dk ?_;refine dN 4 ?_;refine oS ?_;refine dk ?_;refine dt 5 ?_;refine dd ?_;exact EQ
 have hst:=Ajc hb;have hmx:(Hb s.y.Am).size≤maxLen:=by have:=Tr hit;unfold maxLen;omega
 refine go ?_;intros;refine Dc B9 ?_;refine Ax rfl (fun h4=>?_) (fun h4=>?_)
 ·refine P4 0 ?_;rintro hi b o e s1;rw [e];refine go ?_;cases g1:s.y.Am[0].V2
  ·have hpl1:(⟨#[45]⟩:ByteArray)=Hb s.y.Am:=(Ama hi g1).symm;refine go ?_;apply wO;refine sld 1 fun a5 c5 F5=>?_;refine go ?_;intros;rw [hpl1];apply wO;refine Qa (U8 _ hmx) Eh fun a' c' F'=>?_;refine go ?_;refine ce (fun w s=>L8 _ _ _ FJ FJ) ?_;refine go ?_;exact BY
  ·have hz:=hit _ (List.getElem_mem hi);have h43:(⟨#[43]⟩:ByteArray).size=1:=rfl;have hpl2:(⟨#[43]⟩++s.y.Am[0].Dk:ByteArray)=Hb s.y.Am:=(Aet hi g1).symm;refine go ?_;apply wO;refine sld 1 fun a5 c5 F5=>?_;refine go ?_;intros;rw [hpl2];apply wO;refine Qa (U8 _ hmx) Eh fun a' c' F'=>?_;refine go ?_;refine ce (fun w s=>L8 _ _ _ FJ FJ) ?_;refine go ?_
   exact BY
 ·have hnil:s.y.Am=[]:=List.eq_nil_of_length_eq_zero FJ;have hpl3:(⟨#[45]⟩:ByteArray)=Hb s.y.Am:=by rw [hnil];rfl
  have hd:([]:List Gh)=s.y.Am.drop 1:=by rw [hnil];rfl
  ·refine go ?_;intros;refine A4 (E:=B9) (xs:=[]) fun F6=>?_;rw [show (Value.slice (some _) 0 0:Value)=Value.slice _ ([]:List Gh).length 0 from rfl];rw [hpl3];apply wO;refine Qa (U8 _ hmx) Eh fun a' c' F'=>?_;refine go ?_;refine ce (fun w s=>L8 _ _ _ FJ FJ) ?_;refine go ?_;rw [hd];refine Ce ⟨s.es++[Hb s.y.Am],shW s.y,_,0,F6,a',c',F'⟩ ⟨(Kd _ _).1,(Kd _ _).2,fun z hz=>hit z (List.mem_of_mem_drop hz),II,II,by rw [hw,hst];rfl,by rw [he,hst];simp [Pf,shW]⟩ (by show Ez (Ci s.y.next 1) n < _;omega)
end Go.Proofs.YtkblpelckhegbaaGreatDoor
namespace Go.Proofs.YtkblpelckhegbaaGreatDoor

open Go.RowKit
end Go.Proofs.YtkblpelckhegbaaGreatDoor
namespace Go.Proofs.YtkblpelckhegbaaGreatDoor
open Go.RowKit
theorem Ad7 (x:Aj) (n:Int) (v:Value) (F:List Nat) (h0:0≤x.next) (h1:x.next≤65535) (h2:0≤n) (h3:n≤65535) :
  FV 238 [v,.int .i64 n] [.isv Bh v x F] (.bool (Hw x n)):=by
 have hg:=Mf x.next n
 refine enter func238 rfl ntmps238 fun w0=>?_;refine Cd ?_;rintro a1 c1 F1 rfl l1;refine go ?_;intros;refine ce (fun w s=>Ju _ _ _ FJ FJ) ?_;obtain ⟨k,hk⟩:∃k:Nat,gp x.next n=k:=⟨(gp x.next n).toNat,FJ⟩
 have hh:Jb x n=J4 x.Am k:=by unfold Jb;rw [hk,Int.toNat_natCast]
 rw [hk];refine go ?_;refine ce (fun w s=>Rk _ _ _ FJ FJ) ?_;cases g1:Uu n x.next
 ·refine go ?_;refine Dx rfl rfl (fun h4=>?_) (fun h4=>?_)
  ·refine P4 (xs:=x.Am) k ?_;rintro hi2 b2 o2 e s1;rw [e];refine go ?_;refine ret () trivial ?_;simp [Hw,g1,hh,Mg hi2,Ux]
  ·refine go ?_;refine ret () trivial ?_;simp [Hw,g1,hh,Sn (show x.Am.length≤k by omega),Ux]
 ·refine go ?_;refine ret () trivial ?_;simp [Hw,g1,Ux]
theorem Aoq (n:Int) (j:Nat):Ci (Ci n 1) j=Ci n ((j+1:Nat):Int):=by unfold Ci;omega
theorem Tu {n:Int} (h0:0≤n) (h1:n≤65535):Ci n ((0:Nat):Int)=n:=by unfold Ci;omega
theorem Acx:∀(l:List Gh) (n:Int),0≤n→n≤65535→(rel n l).1=Ci n ((rel n l).2.2.length:Nat)
 | [],n,h0,h1=>(Tu h0 h1).symm
 | s::r,n,h0,h1=>by
  have ih:=Acx r (Ci n 1) (Kd _ _).1 (Kd _ _).2;unfold rel
  split
  ·dsimp only;rw [ih,Aoq,List.length_cons]
  ·exact (Tu h0 h1).symm
theorem Alf:∀(k:Nat) (x:Aj),0≤x.next→x.next≤65535→(Jc k x).next=Ci x.next (k:Nat)∧0≤(Jc k x).next∧(Jc k x).next≤65535
 | 0,x,h0,h1=>⟨(Tu h0 h1).symm,h0,h1⟩
 | k+1,x,h0,h1=>by
  obtain ⟨a,b,c⟩:=Alf k (shW x) (Kd _ _).1 (Kd _ _).2;unfold Jc;exact ⟨by rw [a];show Ci (Ci x.next 1) k=_;rw [Aoq],b,c⟩
theorem Agj (n:Int) (i j:Nat):Ci (Ci n i) j=Ci n ((i+j:Nat):Int):=by unfold Ci;omega
theorem Afb (k:Nat) (x:Aj) (h0:0≤x.next) (h1:x.next≤65535):(Qp (Jc k x)).next=Ci x.next ((Pf k x++Su (Jc k x)).length:Nat):=by
 obtain ⟨a,b,c⟩:=Alf k x h0 h1;have d:(Qp (Jc k x)).next=Ci (Jc k x).next ((Su (Jc k x)).length:Nat):=Acx (Jc k x).Am (Jc k x).next b c
 have e:∀(k:Nat) (x:Aj),(Pf k x).length=k:=by
  intro k
  induction k with
  | zero=>intro x;rfl
  | succ k ih=>intro x;unfold Pf;rw [List.length_cons,ih]
 rw [d,a,Agj,List.length_append,e]
theorem Bhf (n:Int) (j:Nat) (hj:j≤65535):gp n (Ci n j)=j:=by unfold gp Ci;omega
theorem Y6:∀(l:List Gh) (n:Int),(rel n l).2.1=l.drop (rel n l).2.2.length∧J4 (rel n l).2.1 0=false
 | [],n=>⟨rfl,rfl⟩
 | s::r,n=>by
  have ih:=Y6 r (Ci n 1);unfold rel
  split
  ·dsimp only;rw [List.length_cons,List.drop_succ_cons];exact ih
  ·rename_i h;exact ⟨rfl,by simpa [J4] using h⟩
theorem Ue:∀(k:Nat) (x:Aj),(Jc k x).Am=x.Am.drop k
 | 0,_=>rfl
 | k+1,x=>by unfold Jc;rw [Ue k (shW x)];simp [shW,Nat.add_comm]
theorem W8 (l:List Gh) (m i:Nat):J4 (l.drop m) i=J4 l (m+i):=by unfold J4;rw [List.getElem?_drop]
theorem Afa (k:Nat) (x:Aj) (hg:Cu x=true):Cu (Qp (Jc k x))=true:=by
 have g:=Tm hg;unfold Cu at hg;simp only [Bool.and_eq_true,decide_eq_true_eq] at hg;obtain ⟨⟨⟨h1,h2⟩,h3⟩,h4⟩:=hg;obtain ⟨d1,d2⟩:=Y6 (Jc k x).Am (Jc k x).next
 rw [Ue,List.drop_drop] at d1;have hs:(Qp (Jc k x)).Am=x.Am.drop (k+(rel (Jc k x).next (x.Am.drop k)).2.2.length):=by
  unfold Qp;dsimp only;rw [Ue,d1]
 have hn:=Afb k x g.n0 g.n1;generalize k+(rel (Jc k x).next (x.Am.drop k)).2.2.length=m at hs;have h0:J4 (Qp (Jc k x)).Am 0=false:=d2;rw [hs] at h0;have e1:Cc (Qp (Jc k x)).next=true:=by rw [hn];exact Wv _ _
 have e2:(x.Am.drop m).all H3=true:=List.all_eq_true.2 fun z hz=>List.all_eq_true.1 h3 z (List.mem_of_mem_drop hz);have e3:X7 (x.Am.drop m)=true:=by
  unfold X7;by_cases hz:(x.Am.drop m).length=0
  ·rw [decide_eq_true hz];rfl
  ·rw [decide_eq_false hz,h0,W8];unfold X7 at h4;rw [List.length_drop] at hz ⊢;rw [decide_eq_false (show ¬x.Am.length=0 by omega)] at h4;simp only [Bool.false_or,Bool.and_eq_true] at h4;rw [show m+(x.Am.length - m - 1)=x.Am.length - 1 by omega,h4.2];rfl
 unfold Cu;rw [e1,hs,e2,e3,decide_eq_true FR];rfl
theorem Asq {x:Aj} (hg:Cu x=true):J4 x.Am 0=false:=by
 unfold Cu X7 at hg;simp only [Bool.and_eq_true,Bool.or_eq_true,decide_eq_true_eq,Bool.not_eq_true'] at hg;rcases hg.2 with h|h
 ·exact Sn FJ
 ·exact h.1
theorem Avd (x:Aj):(Su x).length≤x.Am.length:=by
 unfold Su;have:∀(l:List Gh) n,(rel n l).2.2.length≤l.length:=by
  intro l
  induction l with
  | nil=>intro n;exact Nat.le_refl _
  | cons s r ih =>
   intro n;unfold rel
   split
   ·dsimp only;rw [List.length_cons,List.length_cons];exact Nat.succ_le_succ (ih _)
   ·exact Nat.zero_le _
 exact this _ _
theorem Alg (l:List Gh) (k i:Nat) (s:Gh) (hk:k < l.length):J4 (l.set k s) i=if i=k then s.V2 else J4 l i:=by
 unfold J4;rw [List.getElem?_set];by_cases h:k=i
 ·subst h;simp [hk]
 ·rw [if_neg h,if_neg (fun e=>h e.symm)]
theorem Aqm (x:Aj) (k:Nat) (s:Gh):(M3 x k s).length=max x.Am.length (k+1):=by
 unfold M3;rw [List.length_set,Ps];omega
theorem Ava (x:Aj) (k:Nat) (s:Gh):J4 (M3 x k s) k=s.V2:=by
 unfold M3;rw [Alg _ _ _ _ (by rw [Ps];omega),if_pos rfl]
theorem Bbn (x:Aj) (k:Nat) (s:Gh):(M3 x k s)[k]?=some s:=by
 unfold M3;rw [List.getElem?_set_self (by rw [Ps];omega)]
theorem Bfb {x:Aj} {k:Nat} {s:Gh} (hx:x.Am.all H3=true) (hs:H3 s=true):(M3 x k s).all H3=true:=by
 rw [List.all_eq_true] at hx ⊢;intro z hz;unfold M3 at hz;rcases List.mem_or_eq_of_mem_set hz with h|rfl
 ·unfold Na at h;rcases List.mem_append.1 h with h|h
  ·exact hx z h
  ·rw [(List.mem_replicate.1 h).2];decide
 ·exact hs
theorem Ax1 {x:Aj} {k:Nat} {s:Gh} (hx:X7 x.Am=true) (hs:s.V2=true):J4 (M3 x k s) ((M3 x k s).length - 1)=true:=by
 rw [Aqm];by_cases h:x.Am.length≤k+1
 ·rw [show max x.Am.length (k+1) - 1=k by omega,Ava];exact hs
 ·unfold M3;rw [Alg _ _ _ _ (by rw [Ps];omega),if_neg FJ];unfold X7 at hx;rw [decide_eq_false FJ] at hx;simp only [Bool.false_or,Bool.and_eq_true] at hx;rw [show max x.Am.length (k+1) - 1=x.Am.length - 1 by omega];unfold Na;rw [show k+1 - x.Am.length=0 by omega];simpa using hx.2
theorem Bbt {n:Int} {L:List Gh} (hn:Cc n=true) (ho:L.all H3=true) (hl:L.length≤8) (he:J4 L (L.length - 1)=true∨L=[]):Cu (Qp ⟨n,L⟩)=true:=by
 obtain ⟨d1,d2⟩:=Y6 L n;have hs:(Qp ⟨n,L⟩).Am=L.drop (rel n L).2.2.length:=d1;obtain ⟨p0,p1⟩:=Bc.1 hn;have hnx:(Qp ⟨n,L⟩).next=Ci n ((rel n L).2.2.length:Nat):=Acx L n p0 p1
 generalize (rel n L).2.2.length=m at hs hnx;have h0:J4 (Qp ⟨n,L⟩).Am 0=false:=d2;rw [hs] at h0;have e1:Cc (Qp ⟨n,L⟩).next=true:=by rw [hnx];exact Wv _ _
 have e2:(L.drop m).all H3=true:=List.all_eq_true.2 fun z hz=>List.all_eq_true.1 ho z (List.mem_of_mem_drop hz);have e3:X7 (L.drop m)=true:=by
  unfold X7;by_cases hz:(L.drop m).length=0
  ·rw [decide_eq_true hz];rfl
  ·rw [decide_eq_false hz,h0,W8];rw [List.length_drop] at hz ⊢;rcases he with he|he
   ·rw [show m+(L.length - m - 1)=L.length - 1 by omega,he];rfl
   ·subst he;simp at hz
 unfold Cu;rw [e1,hs,e2,e3,decide_eq_true FR];rfl
theorem Ba4 (x:Aj) (n:Int) (s:ByteArray):(J9 x n s).2.2=true→Cu x=true∧Cc n=true∧Cu (J9 x n s).1=true∧gp x.next (J9 x n s).1.next=((J9 x n s).2.1.length:Nat)∧Hw (J9 x n s).1 n=true∧(n=x.next→∃r,(J9 x n s).2.1=Aip s::r)∧(J9 x n s).2.1.length≤8∧s.size≤8:=by
 unfold J9
 split
 rotate_left
 ·intro h;cases h
 rename_i h;intro _;unfold Xf at h;simp only [Bool.and_eq_true] at h;obtain ⟨⟨⟨h1,h2⟩,h3⟩,h4⟩:=h;have g:=Tm h1;have p0:=g.n0;have p1:=g.n1;have pl:=g.l;obtain ⟨n0,n1⟩:=Bc.1 h2;refine ⟨h1,h2,?_⟩;dsimp only;cases ht:Hw x n with
 | true =>
  have eW:My x n s=x:=by unfold My;rw [ht];rfl
  have eE:Mo x n s=[]:=by unfold Mo;rw [ht];rfl
  rw [eW,eE];refine ⟨h1,?_,ht,fun e=>?_,FK,Wa h3⟩
  ·unfold gp;simp
  ·subst e;exfalso;unfold Hw at ht;rw [Bool.or_eq_true] at ht;rcases ht with h|h
   ·unfold Uu gp at h;simp at h;exact absurd h FM
   ·unfold Jb at h;rw [show gp x.next x.next=0 by unfold gp;omega] at h;rw [show (0:Int).toNat=0 from rfl,Asq h1] at h;cases h
 | false =>
  have hk8:gp x.next n < 8:=by unfold Oc at h4;rw [ht] at h4;simpa using h4
  have hgb:=Mf x.next n
  obtain ⟨k,hk⟩:∃k:Nat,gp x.next n=k:=⟨(gp x.next n).toNat,FJ⟩
  have eW:My x n s=Qp ⟨x.next,M3 x k ⟨true,s⟩⟩:=by unfold My;rw [ht,decide_eq_true hk8];unfold Aab;rw [hk,Int.toNat_natCast];rfl
  have eE:Mo x n s=(rel x.next (M3 x k ⟨true,s⟩)).2.2:=by unfold Mo;rw [ht,decide_eq_true hk8];unfold Aab;rw [hk,Int.toNat_natCast];rfl
  have hx:x.Am.all H3=true∧X7 x.Am=true:=by
   unfold Cu at h1;simp only [Bool.and_eq_true] at h1;exact ⟨h1.1.2,h1.2⟩
  have hos:H3 ⟨true,s⟩=true:=by unfold H3;rw [h3];rfl
  have hL:=Aqm x k ⟨true,s⟩;have hat:=Ava x k ⟨true,s⟩;have hget:=Bbn x k ⟨true,s⟩;have ho:=Bfb (k:=k) hx.1 hos;have hla:=Ax1 (k:=k) (s:=⟨true,s⟩) hx.2 rfl;rw [eW,eE];generalize M3 x k ⟨true,s⟩=L at *;have hl8:L.length≤8:=FJ
  have hrl:(rel x.next L).2.2.length≤L.length:=by
   have:=Avd ⟨x.next,L⟩;unfold Su at this;dsimp only at this;omega
  obtain ⟨d1,d2⟩:=Y6 L x.next
  have hnx:=Acx L x.next p0 p1
  have hn:n=Ci x.next (k:Nat):=by rw [←hk];unfold gp Ci;omega
  refine ⟨Bbt (Bc.2 ⟨p0,p1⟩) ho hl8 (.inl hla),?_,?_,?_,FJ,Wa h3⟩
  ·show gp x.next (rel x.next L).1=_
   rw [hnx];exact Bhf _ _ FJ
  ·unfold Hw;show (Uu n (rel x.next L).1 || J4 (rel x.next L).2.1 (gp (rel x.next L).1 n).toNat)=true;rw [hnx,d1];generalize (rel x.next L).2.2.length=m at *;by_cases hkm:k < m
   ·rw [show Uu n (Ci x.next (m:Nat))=true by rw [hn];unfold Uu Gj gp Ci;rw [Bool.and_eq_true];simp only [decide_eq_true_eq];omega];rfl
   ·rw [show gp (Ci x.next (m:Nat)) n=((k - m:Nat):Int) by rw [hn];unfold gp Ci;omega,Int.toNat_natCast,W8,show m+(k - m)=k by omega,hat];simp
  ·intro e;have hk0:k=0:=by rw [e] at hk;unfold gp at hk;omega
   subst hk0;cases L with
   | nil=>simp at hget
   | cons z r =>
    simp at hget;subst hget;exact ⟨(rel (Ci x.next 1) r).2.2,by simp [rel]⟩
theorem Aqt {s:ByteArray} (h:s.size≤maxLen) (w:World):C1 A8 w [.string s] [s] []:=⟨_,[],[],[],FK,FK,⟨rfl,h,rfl⟩,rfl,rfl⟩
theorem Xq {c:Cx} {fr:Fr} {H:List Pc} {Φ:Gl} {α:Type} {E:Br α} {v:Value} {xs:List α} {F:List Nat} (h:∀a cp,v=.slice a xs.length cp→xs.length≤cp→cp≤9223372036854775807→T c fr H Φ) (hm:.sl E v xs F∈H:=by exact A9):T c fr H Φ:=.mk fun ac w s g=>by
 obtain ⟨-,hs⟩:=s.get hm;obtain ⟨a,cp,rfl⟩:=hs.slice;obtain ⟨-,h2,h3⟩:=hs.caps;exact (h a cp rfl h2 (by unfold maxLen at h3;omega)).h ac w s g
theorem Ll {c:Cx} {fr:Fr} {H:List Pc} {Φ:Gl} {α:Type} {E:Br α} {t g:Nat} {cs:List Value} {xs:List α} {S:List Pc} (hfl:∀w,C1 E w cs xs []) (h:T c fr (.ow E t (.slice (some ⟨g,0,none⟩) xs.length xs.length) xs [g]::S) Φ) (hl:xs.length≤1048576) (hp:Co H (.row g t 0 [] cs []) S:=by exact De):T c fr H Φ:=.mk fun a w s g'=>by
 exact BQ
theorem Beh {P:Program} {f:FuncId} {args:List Value} {A:List Pc} {σ:Type} {C:σ→Prop} {v:σ→Value} {N:σ→Pc}
  (h:∀w,Om A w→Calls P f args.toArray w fun e w'=>∃s,C s∧e=.returned (v s)∧(N s).P w'∧(∀b∈(N s).F,w.heap.size≤b)∧Below w.heap.size w w'):Fn P f args A [] C v (fun s=>[N s]):=fun w hA _=>by
 refine (h w JW).mono ?_;rintro e w' ⟨s,hC,he,hN,hF,hB⟩;refine ⟨s,hC,he,En hN,⟨FK,trivial⟩,D6.ofBelow hB,fun p hp b hb=>?_⟩;simp at hp;subst hp;exact .inl (hF b hb)
def Sw (t:Int) (k:Nat):List Int:=(List.range k).map fun i=>Ci t (i:Nat)
theorem Abr (t:Int) (k:Nat):Sw t (k+1)=Sw t k++[Ci t (k:Nat)]:=by unfold Sw;rw [List.range_succ,List.map_append];rfl
theorem Aev (t:Int) (k:Nat):(Sw t k).length=k:=by unfold Sw;simp
theorem Tq (n:Int) (w:World):C1 Bb w [.int .i64 n] [n] []:=⟨_,[],[],[],FK,FK,⟨rfl,rfl⟩,rfl,rfl⟩
structure SpS where
 k:Nat
 a:Option Addr
 c:Nat
 F:List Nat
theorem Bh4 (t:Int) (n:Nat) (t0:0≤t) (t1:t≤65535) (hn:n≤65536):Fn prog 436 [.int .i64 t,.int .i64 (n:Nat)] [] [] (fun (_:Option Addr × Nat × List Nat)=>True) (fun s=>.slice s.1 (Sw t n).length s.2.1) (fun s=>[.ow Bb 3 (.slice s.1 (Sw t n).length s.2.1) (Sw t n) s.2.2]):=by
 refine enter func436 rfl ntmps436 fun w0=>?_;refine go ?_;refine Dj Bb 3 ?_;refine Cj [0,4,7] (fun s:SpS=>[(5,.slice s.a (Sw t s.k).length s.c),(8,.int .i64 (s.k:Nat))]) (fun s=>[.ow Bb 3 (.slice s.a (Sw t s.k).length s.c) (Sw t s.k) s.F]) (fun s=>s.k≤n) (fun s=>n - s.k) ⟨0,none,0,[]⟩ (Nat.zero_le _) fun s hs=>?_;obtain ⟨k,a,c,F⟩:=s;dsimp only at hs ⊢;have hl:=Aev t k;refine go ?_;refine Ax rfl (fun h1=>?_) (fun h1=>?_)
 ·refine go ?_;refine ce (fun w s=>Th _ _ _ FJ FJ) ?_;refine go ?_;intros;apply wO;refine Qa (Tq _) Dd fun a2 c2 F2=>?_;refine go ?_;rw [←Abr];refine Ce ⟨k+1,a2,c2,F2⟩ (by show k+1≤n;omega) (by show n - (k+1) < n - k;omega)
 ·have hk:k=n:=FJ
  subst hk;refine go ?_;refine ret (a,c,F) trivial rfl
section
variable {P:Program} {n:Nat} {fr:Fr} {H:List Pc} {ty:TypeId} {x y z:Operand}
theorem Ajt {t:TypeId} {s:ByteArray} {kd:IntKind} {i:Int} [hS:StrC P t] (hx:ev fr x=some (.string s)) (hy:ev fr y=some (.int kd i)) (h0:0≤i) (h1:i≤s.size):Yd P n fr H (.slice t x (some y) none none) ty (.string (s.extract i.toNat s.size)):=.mk fun a w d pos Ci g hA _=>by
 have h3:(Instr.sliceAt t (.string s) (some (.int kd i)) none none).run P w=.ok (.string (s.extract i.toNat s.size)) w:=by
  rw [run_sliceAt_string (h:=hS.u),run_slice_string_l (ht:=hS.u) (h0:=h0) (h1:=h1)]
 exact AV
theorem Biu {t:TypeId} {s:ByteArray} {kd:IntKind} {i:Int} [hS:StrC P t] (hx:ev fr x=some (.string s)) (hy:ev fr y=some (.int kd i)) (h0:0≤i) (h1:i≤s.size):Yd P n fr H (.slice t x none (some y) none) ty (.string (s.extract 0 i.toNat)):=.mk fun a w d pos Ci g hA _=>by
 have h3:(Instr.sliceAt t (.string s) none (some (.int kd i)) none).run P w=.ok (.string (s.extract 0 i.toNat)) w:=by
  rw [run_sliceAt_string (h:=hS.u),run_slice_string_h (ht:=hS.u) (h0:=h0) (h2:=h1)]
 exact AV
theorem Bit {t:TypeId} {s:ByteArray} {kd kd2:IntKind} {i j:Int} [hS:StrC P t] (hx:ev fr x=some (.string s)) (hy:ev fr y=some (.int kd i)) (hz:ev fr z=some (.int kd2 j)) (h0:0≤i) (h1:i≤j) (h2:j≤s.size):Yd P n fr H (.slice t x (some y) (some z) none) ty (.string (s.extract i.toNat j.toNat)):=.mk fun a w d pos Ci g hA _=>by
 have h3:(Instr.sliceAt t (.string s) (some (.int kd i)) (some (.int kd2 j)) none).run P w=.ok (.string (s.extract i.toNat j.toNat)) w:=by
  rw [run_sliceAt_string (h:=hS.u),run_slice_string (h:=hS.u) (h0:=h0) (h1:=h1) (h2:=h2)]
 exact EX
end
section
variable {c:Cx} {fr:Fr} {H:List Pc} {k:List It} {Φ:Gl} {ops:Array Oper} {rest:List Oper} {d:Nat} {o:Op} {ty:TypeId} {v u:Value} {x y:Operand}
theorem Axw {t e m b:Nat} {z:Value} [hS:SlC c.P t e m] [hE:ElT c.P e z m b] (k:Nat) {kl kc:IntKind} {cs:List Value} (hd:Nat.blt d c.n=true) (hx:ev fr x=some (.int kl (k:Nat))) (hy:ev fr y=some (.int kc (k:Nat))) (hcs:madeCells z.cells (k * m)=cs.toArray) (hb:b * k≤281474976710656) (h63:k≤9223372036854775807)
  (h:∀g,T c ((d,.slice (some ⟨g,0,none⟩) k k)::fr) (.row g e 0 [] cs []::H) Φ):On c fr H (some d) (.makeSlice t x y) ty Φ:=⟨fun _ _ _=>Qe fun Q a w s g=>by
 obtain ⟨i,hi,hiz⟩:=Option.map_eq_some_iff.1 hE.i;simp only [Prod.mk.injEq] at hiz;obtain ⟨i1,i2,i3⟩:=hiz
 have hb':(i.bytes:Int) * ((k:Nat):Int)≤281474976710656:=by rw [i3];have:((b * k:Nat):Int)≤281474976710656:=by omega
                                                            rwa [Int.natCast_mul] at this
 have hr:=run_make (P:=c.P) w t e i z hS.u hi i1 kl kc (k:Nat) (k:Nat) FJ FJ hb' FJ;simp only [Int.toNat_natCast,i2,hcs] at hr;have e1:∀pos Ci gd,(execOp a.eval ⟨some d,.makeSlice t x y,ty,pos,Ci,gd⟩).run c.P w=.ok (.value (.slice (some ⟨w.heap.size,0,none⟩) k k)) (w.alloc (.cells cs.toArray e)):=by
  intro pos Ci gd;simp [execOp,g.ev hx,g.ev hy,hr]
 rw [e1];exact (h _).h _ _ (s.new e cs) (g.put hd)⟩
theorem Agr {fo:Operand} {f:Nat} {caps:List Value} {aS:List Operand} {ts:Array TypeId} {vs:List Value} (hd:Nat.blt d c.n=true) (hf:ev fr fo=some (.func (.func f) #[] caps.toArray)) (hb:Si c.P f=true) (ha:Evs fr aS vs) (h:Cl c fr H d f (vs++caps) Φ):On c fr H (some d) (.call { callee:=.value fo,args:=aS.toArray,argTypes:=ts }) ty Φ:=⟨fun _ _ _=>Qe fun Q a w s g=>by
 have e:∀pos Ci gd,(execOp a.eval ⟨some d,.call { callee:=.value fo,args:=aS.toArray,argTypes:=ts },ty,pos,Ci,gd⟩).run c.P w=(callFunc f (vs++caps).toArray).run c.P w:=by
  intro pos Ci gd;simp [execOp,resolve,Deferred.ofValue,g.ev hf,invoke,g.evs ha]
 rw [e];obtain ⟨R,hc,hk⟩:=h.h w s;refine (Wx hb).upon hc fun e w' hR=>?_;obtain ⟨v,he,hv⟩:=hk e w' hR;exact ⟨v,he,hv _ (g.put hd)⟩⟩
theorem Avk {α:Type} {E:Br α} {a:Option Addr} {n cp:Nat} {xs:List α} {F:List Nat} (k:Nat) (h:∀F',T c fr (.sl E (.slice a (xs.take k).length cp) (xs.take k) F'::H) Φ) (hk:k≤xs.length) (hm:.sl E (.slice a n cp) xs F∈H:=by exact A9):T c fr H Φ:=.mk fun ac w s g=>by
 obtain ⟨hz,hs⟩:=s.get hm;obtain ⟨F',hF,h2⟩:=hs.takeS k hk;have hl:(xs.take k).length=k:=by simp [Nat.min_eq_left hk]
 have h':=h F';rw [hl] at h';exact h'.h _ w (s.ro hm rfl rfl ⟨hz,h2⟩ hF) g
end
theorem Lz:∀(H:List Pc),Mc H H
 | []=>.nil
 | _::R=>.cons .here (Lz R)
theorem C1.all {α:Type} {E:Br α} {w:World} {cs:List Value} {xs:List α} (h:C1 E w cs xs []) (w':World):C1 E w' cs xs []:=h.frame FK
theorem C1.cutL {α:Type} {E:Br α} {w:World} {cs:List Value} {xs:List α} (h:C1 E w cs xs []) (i:Nat) (hi:i≤xs.length):C1 E w (cs.take (i * E.sz)) (xs.take i) []∧C1 E w (cs.drop (i * E.sz)) (xs.drop i) []:=by
 rw [←List.take_append_drop i xs] at h;obtain ⟨c1,c2,G1,G2,rfl,hG,h1,h2⟩:=h.split;obtain ⟨rfl,rfl⟩:=List.append_eq_nil_iff.1 hG.symm;have hl:=h1.len;rw [List.length_take,Nat.min_eq_left hi] at hl;rw [List.take_left' hl,List.drop_left' hl];exact ⟨h1,h2⟩
theorem C1.insL {α:Type} {E:Br α} {w:World} {cs c1:List Value} {xs:List α} {x:α} (h:C1 E w cs xs []) (h1:C1 E w c1 [x] []) (i:Nat) (hi:i≤xs.length):C1 E w (cs.take (i * E.sz)++c1++cs.drop (i * E.sz)) (xs.take i++x::xs.drop i) []:=by
 obtain ⟨ha,hb⟩:=h.cutL i hi;have:=(ha.append h1).append hb;exact EN
section
variable {P:Program} {n:Nat} {fr:Fr} {H:List Pc} {ty:TypeId} {x y z:Operand}
theorem Ln {t e m i g o len cp:Nat} {kd:IntKind} {q:Int} [hS:SlC P t e m] (hx:ev fr x=some (.slice (some ⟨g,o,none⟩) len cp)) (hy:ev fr y=some (.int kd q)) (hq:q=(i:Int)) (hi:i≤len) (hc:i < cp) (hlc:len≤cp):Yd P n fr H (.slice t x (some y) none none) ty (.slice (some ⟨g,o+i * m,none⟩) (len - i) (cp - i)):=.mk fun ac w d pos Ci gd hA _=>by
 subst hq;have he2:P.elem t=e:=KI
 have h3:(Instr.sliceAt t (.slice (some ⟨g,o,none⟩) len cp) (some (.int kd (i:Int))) none none).run P w=.ok (.slice (some ⟨g,o+i * m,none⟩) (len - i) (cp - i)) w:=by
  rw [run_sliceAt_slice (h:=GU),run_slice_l (ht:=GU) (h0:=FJ) (h1:=FJ),he2,Nv hS.s];have h0:¬(cp - i=0):=FJ
  have h0':¬(cp=i):=FJ
  simp [Result.andThen,sliced,h0,h0',Addr.add_lit]
 exact AV
theorem Auc {k:IntKind} {a:Int} {s t:TypeId} [hS:IntC P s k] [hD:IntC P t .u64] (hx:ev fr x=some (.int k a)) (h0:0≤a) (h1:a≤18446744073709551615):Yd P n fr H (.convert s t x) ty (.int .u64 a):=.mk fun c w d pos Ci gd hA _=>by
 simp [execOp,hA.ev hx,convert,run_underlying hS.u,run_underlying hD.u,Conv.intToInt,IntWalk.u64_in _ ⟨h0,h1⟩]
theorem Aod {a:Int} {t t':TypeId} (hx:ev fr x=some (.int .u64 a)):Yd P n fr H (.binOp .shr t x (.const (.int .u64 1)) t') ty (.int .u64 (a / 2)):=.mk fun c w d pos Ci gd hA _=>by
 have e:Op.shift .shr .u64 a .u64 1=pure (.int .u64 (a / 2)):=by rw [shift_shr .u64 .u64 a 1 FM FM];rfl
 have e2:binOp .shr t (.int .u64 a) (.int .u64 1)=Op.shift .shr .u64 a .u64 1:=rfl;have e3:c.eval (.const (.int .u64 1))=.int .u64 1:=rfl;simp only [execOp,hA.ev hx,e3,eqGuard_shr,e2,e,Sem.run_bind,Sem.run_pure,Result.andThen_ok]
theorem Aub {a:Option Addr} {len cp t e m:Nat} [hS:SlC P t e m] (hx:ev fr x=some (.slice a len cp)):Yd P n fr H (.call { callee:=.builtin .cap,args:=#[x],argTypes:=#[t] }) ty (.int .i64 cp):=.mk fun ac w d pos Ci gd hA _=>by
 simp [execOp,hA.ev hx,resolve,invoke,builtin,Builtin.cap_,run_underlying hS.u,goInt]
end
section
variable {c:Cx} {fr:Fr} {H k':List Pc} {k:List It} {Φ:Gl} {d:Nat} {o:Op} {ty:TypeId} {v u:Value} {x y:Operand}
theorem An3 {α:Type} {E:Br α} (sc:Ab1 E) {t n cp:Nat} {a:Option Addr} {xs:List α} {F:List Nat} {S:List Pc} (h0:xs≠[])
  (h:∀g cs rest,a=some ⟨g,0,none⟩→n=xs.length→xs.length≤cp→cp≤9223372036854775807→cs.length=xs.length * E.sz→cs.length+rest.length=cp * E.sz→(∀w,C1 E w cs xs [])→T c fr (.row g t 0 [] (cs++rest) []::S) Φ)
  (hp:Co H (.ow E t (.slice a n cp) xs F) S:=by exact De):T c fr H Φ:=.mk fun ac w s g'=>by
 have s1:=s.pick hp;obtain ⟨hnd,ho⟩:=s1.on (.ow E t (.slice a n cp) xs F) FK;have hF:=ho.scal sc;rcases ho with ⟨-,h2, -⟩|⟨g,cap,cs,rest,G,h1,h2,h3,h4,h5,h6,h7⟩
 ·exact absurd h2 h0
 ·cases h1;have hG:G=[]:=JI
  subst hG h7;have hl:=h6.len;refine (h g cs rest rfl rfl h3 (by unfold maxLen at h4;omega) hl h5 (fun w'=>h6.all w')).h ac w (s1.conv rfl ⟨rfl,IH⟩ KU) g'
theorem Aew {α:Type} {E:Br α} {t g:Nat} {L cs rest:List Value} {xs:List α} {S:List Pc} (cp:Nat) (hL:L=cs++rest) (hf:∀w,C1 E w cs xs []) (h1:xs.length≤cp) (h2:cp≤9223372036854775807) (h3:L.length=cp * E.sz)
  (h:T c fr (.ow E t (.slice (some ⟨g,0,none⟩) xs.length cp) xs [g]::S) Φ) (hp:Co H (.row g t 0 [] L []) S:=by exact De):T c fr H Φ:=.mk fun ac w s g'=>by
 subst hL;have s1:=s.pick hp;have hr:=(s1.on (.row g t 0 [] (cs++rest) []) FK).2;exact h.h ac w (s1.conv rfl ⟨FK,.inr ⟨g,cp,cs,rest,[],rfl,HH,h1,GC,IU,hf w,rfl⟩⟩ KU) g'
theorem Bbh {f:Nat} {aS:List Operand} {ts:Array TypeId} {vs:List Value} (hd:Nat.blt d c.n=true) (ha:Evs fr aS vs) (hv:∀w,St c.G c.D c.w0 H w→(callFunc f vs.toArray).run c.P w=.ok (.value v) w) (h:T c ((d,v)::fr) H Φ):On c fr H (some d) (.call { callee:=.value (.func f),args:=aS.toArray,argTypes:=ts }) ty Φ:=⟨fun _ _ _=>Qe fun Q a w s g=>by
 have e:∀pos Ci gd,(execOp a.eval ⟨some d,.call { callee:=.value (.func f),args:=aS.toArray,argTypes:=ts },ty,pos,Ci,gd⟩).run c.P w=.ok (.value v) w:=by
  intro pos Ci gd;simp [execOp,resolve,Deferred.ofValue,Act.eval,invoke,g.evs ha,hv w s]
 rw [e];exact h.h _ _ s (g.put hd)⟩
theorem Al9 {w:World} {g:Nat} {t:TypeId} {cs:List Value} (h:Ir w g t cs):w.shape? g=some (t,cs.length):=by
 unfold World.shape?;rw [show w.heap[g]?=_ from h];simp
theorem ovl {f:Nat} {tS tR e m:Nat} [hS:SlC c.P tS e m] {g o g2 o2 la ca lb cb t1 t2:Nat} {L L2:List Value}
  (he:∀(args:Array Value) (w:World),(callFunc f args).run c.P w=((Extern.SlicesOverlaps.overlaps #[tS,tS] #[tR] args).run c.P w).andThen fun v w=>.ok (.value v) w)
  (h1:Co H (.row g t1 0 [] L []) k') (h2:.row g2 t2 0 [] L2 []∈k') (hL:L2≠[]) (w:World) (s:St c.G c.D c.w0 H w) :
  (callFunc f [Value.slice (some ⟨g,o,none⟩) la ca,.slice (some ⟨g2,o2,none⟩) lb cb].toArray).run c.P w=.ok (.value (.bool false)) w:=by
 have s1:=s.pick h1;have r1:=(s1.on (.row g t1 0 [] L []) FK).2;have r2:=(s1.on (.row g2 t2 0 [] L2 []) (by simp [h2])).2;have hne:g≠g2:=fun e'=>s1.sep.1 (.row g2 t2 0 [] L2 []) h2 (by simp [Pc.mu]) g KU (by simp [Pc.F,e']);simp only [List.nil_append,List.append_nil] at r1 r2;rw [he,Lib.run_overlaps_apart w tS tR e hS.u m (fun w=>Nv hS.s w) ⟨g,o,none⟩ ⟨g2,o2,none⟩ la ca lb cb hne t1 t2 L.length L2.length (Al9 r1) (Al9 r2) (by simpa using hL) (r1.frozen _) (r1.frozen _)];rfl
theorem Aga {P M Q d L:List Value} {o:Nat} (hL:L=P++M++Q) (ho:o=P.length) (hd:M.length=d.length):P++d++Q=L.take o++d++L.drop (o+d.length):=by
 subst hL ho;rw [List.append_assoc P M Q,List.take_left,←hd,←List.append_assoc,←List.length_append,List.drop_left]
theorem Att {B R:List Value} (m:Nat) (h:m≤R.length):∃X Y,B++R=X++Y++R.drop m∧X.length=m∧Y.length=B.length:=by
 refine ⟨(B++R).take m,((B++R).drop m).take B.length,?_,FR,FR⟩;have:R.drop m=((B++R).drop m).drop B.length:=by rw [List.drop_drop,Nat.add_comm,←List.drop_drop,List.drop_left]
 rw [this,List.append_assoc,List.take_append_drop,List.take_append_drop]
theorem Nw {g t o m:Nat} {L cs:List Value} (h1:.row g t 0 [] L []∈H) (hc:cs=(L.drop o).take m) (w:World) (s:St c.G c.D c.w0 H w):∀j u,cs[j]?=some u→w.cell? ((⟨g,o,none⟩:Addr).add j)=some u:=fun j u hu=>by
 subst hc;have r1:=(s.on (.row g t 0 [] L []) h1).2;simp only [List.nil_append,List.append_nil] at r1;rw [Addr.add_lit,r1.cell];rw [List.getElem?_take] at hu
 split at hu
 ·rw [List.getElem?_drop] at hu;exact hu
 ·cases hu
theorem Ayd {P:Program} (w:World) (dT sT ty elem m:TypeId) (b o dLen dCap:Nat) (a:Addr) (sLen sCap:Nat) (cs:List Value)
  (hu:P.underlying dT=some (.slice elem)) (hs:(P.info? elem).map (·.size)=some m) (hn:cs.length=Nat.min sLen dLen * m)
  (hsrc:∀j v,cs[j]?=some v→w.cell? (a.add j)=some v) (hc:∀j,j < cs.length→(w.cell? ⟨b,o+j,none⟩).isSome=true) (hf:∀j,j < cs.length→w.frozen? ⟨b,o+j,none⟩=false) (h1:∀v∈cs,v.oneCell'=true) :
  (Builtin.copy_ #[dT,sT] ty #[.slice (some ⟨b,o,none⟩) dLen dCap,.slice (some a) sLen sCap]).run P w=.ok (goInt (Nat.min sLen dLen:Nat)) (w.setCells b o cs):=by
 have hl:=run_loadCells_list (P:=P) w a cs hsrc;have hst:=run_storeCells_cells (P:=P) b o cs 0 w (by simpa using hc) (by simpa using hf) h1;cases hq:P.info? elem with
 | none=>simp [hq] at hs
 | some i =>
  have hi:i.size=m:=by simpa [hq] using hs
  simp [Builtin.copy_,run_underlying hu,Builtin.lenOf,Builtin.firstCells,sizeOf,typeInfo,hq,hi,←hn,hl,hst]
theorem X4 {dT sT e m g t oo dn dc sn sc:Nat} {ad:Addr} {L L' cs:List Value} {S:List Pc} [hS:SlC c.P dT e m] (hd:Nat.blt d c.n=true) (hx:ev fr x=some (.slice (some ⟨g,oo,none⟩) dn dc)) (hy:ev fr y=some (.slice (some ad) sn sc))
  (hsrc:∀w,St c.G c.D c.w0 H w→∀j u,cs[j]?=some u→w.cell? (ad.add j)=some u) (hr:Rpl H (.row g t 0 [] L []) (.row g t 0 [] L' []) S)
  (hL:L'=L.take oo++cs++L.drop (oo+cs.length)) (hn:cs.length=Nat.min sn dn * m) (hfit:oo+cs.length≤L.length) (h1:∀v∈cs,v.oneCell'=true) (h:T c ((d,.int .i64 (Nat.min sn dn:Nat))::fr) S Φ) :
  On c fr H (some d) (.call { callee:=.builtin .copy,args:=#[x,y],argTypes:=#[dT,sT] }) ty Φ:=⟨fun _ _ _=>Qe fun Q a w s ag=>by
 have hP:(Pc.row g t 0 [] L []).P w:=by obtain ⟨R,h1,_⟩:=hr.picks;exact s.on _ h1.mem
 have r1:=hP.2;simp only [List.nil_append,List.append_nil] at r1;have hrun:=fun ty=>Ayd (P:=c.P) w dT sT ty e m g oo dn dc ad sn sc cs hS.u hS.s hn (hsrc w s) (fun j hj=>by rw [r1.cell,List.getElem?_eq_getElem FJ];rfl) (fun j hj=>r1.frozen _) h1;have e1:∀pos Ci gd,(execOp a.eval ⟨some d,.call { callee:=.builtin .copy,args:=#[x,y],argTypes:=#[dT,sT] },ty,pos,Ci,gd⟩).run c.P w=.ok (.value (goInt (Nat.min sn dn:Nat))) (w.setCells g oo cs):=by
  intro pos Ci gd;simp only [execOp,resolve,invoke,builtin,Sem.run_bind,Sem.run_pure,Result.andThen_ok,List.map_toArray,List.map_cons,List.map_nil,ag.ev hx,ag.ev hy,hrun]
 rw [e1];have hsplit:L=L.take oo++(L.drop oo).take cs.length++L.drop (oo+cs.length):=by
  rw [←List.drop_drop,List.append_assoc,List.take_append_drop,List.take_append_drop]
 have r2:=r1;rw [hsplit] at r2;have r3:=Ir.put cs _ r2 (p:=oo) FR FR;have hk:=Mu (g:=g) cs w oo;rw [Nj w g cs w] at r3 hk;rw [←hL] at r3;refine h.h _ _ (s.rpl hr rfl (fun b hb=>.inl hb) hk ⟨rfl,by simpa using r3⟩) (ag.put hd)⟩
theorem As7 {t tn e m b g oo n cp k:Nat} {zv:Value} {olds:List Value} {q:Int} [hS:SlC c.P t e m] [hE:ElT c.P e zv m b] [hI:IntC c.P tn .i64] (hd:Nat.blt d c.n=true) (hx:ev fr x=some (.slice (some ⟨g,oo,none⟩) n cp)) (hy:ev fr y=some (.int .i64 q)) (hq:q=(k:Int))
  (hso:∀w,St c.G c.D c.w0 H w→∀j u,olds[j]?=some u→w.cell? ((⟨g,oo,none⟩:Addr).add j)=some u)
  (hlo:olds.length=n * m) (hm:0 < m) (hk:0 < k) (hg:cp < n+k) (h63:n+k≤4294967296) (hby:(n+k) * b≤140737488355328)
  (h:∀g' cp' Z rest,n+k≤cp'→cp'≤9223372036854775807→Z.length=k * m→(olds++Z++rest).length=cp' * m→T c ((d,.slice (some ⟨g',0,none⟩) ((n+k:Nat)) cp')::fr) (.row g' e 0 [] (olds++Z++rest) []::H) Φ) :
  On c fr H (some d) (.call { callee:=.builtin .append,args:=#[x,y],argTypes:=#[t,tn] }) ty Φ:=⟨fun _ _ _=>Qe fun Q a w s ag=>by
 subst hq;obtain ⟨i,hi,hiz⟩:=Option.map_eq_some_iff.1 hE.i;simp only [Prod.mk.injEq] at hiz;obtain ⟨i1,i2,i3⟩:=hiz;subst i2 i3;have hold:(Builtin.firstCells i.size n (.slice (some ⟨g,oo,none⟩) n cp)).run c.P w.drew=.ok olds.toArray w.drew:=run_firstCells_some w.drew i.size n ⟨g,oo,none⟩ n cp olds hlo (fun j v hj=>hso w s j v hj);have hr:=fun ty=>Lib.run_append_grow_zeros (P:=c.P) w t tn ty e i zv .i64 .i64 hS.u hI.u hi i1 (some ⟨g,oo,none⟩) n cp olds hold k hk hm hg FJ (Nat.le_trans (Nat.mul_le_mul_right _ FJ) (Nat.le_trans hby FM)) (growslice_fits hg hby)
 have e1:∀pos Ci gd,(execOp a.eval ⟨some d,.call { callee:=.builtin .append,args:=#[x,y],argTypes:=#[t,tn] },ty,pos,Ci,gd⟩).run c.P w=.ok (.value (.slice (some ⟨w.heap.size,0,none⟩) (n+k) (grownCap w (n+k) cp e))) (w.drew.alloc (.cells (olds.toArray++Builtin.zeroCells zv.cells k++Builtin.zeroCells zv.cells (grownCap w (n+k) cp e - (n+k))) e)):=by
  intro pos Ci gd;simp only [execOp,resolve,invoke,builtin,Sem.run_bind,Sem.run_pure,Result.andThen_ok,List.map_toArray,List.map_cons,List.map_nil,ag.ev hx,ag.ev hy,hr]
 rw [e1];have hge:=grownCap_ge w (n+k) cp e;have hle:=grownCap_le_maxLen w (n+k) cp e GC;have hBel:Below w.heap.size w (w.drew.alloc (.cells (olds.toArray++Builtin.zeroCells zv.cells k++Builtin.zeroCells zv.cells (grownCap w (n+k) cp e - (n+k))) e)):=(D7 (Below.refl w.heap.size w) 1).alloc (Nat.le_refl _) _;have hz:∀q,(Builtin.zeroCells zv.cells q).toList.length=q * i.size:=fun q=>by rw [Oa,hE.s]
 refine (h w.heap.size (grownCap w (n+k) cp e) (Builtin.zeroCells zv.cells k).toList (Builtin.zeroCells zv.cells (grownCap w (n+k) cp e - (n+k))).toList hge (by unfold maxLen at hle;omega) (hz k) ?_).h _ _ (s.add (N:=[.row w.heap.size e 0 [] (olds++(Builtin.zeroCells zv.cells k).toList++(Builtin.zeroCells zv.cells (grownCap w (n+k) cp e - (n+k))).toList) []]) hBel ?_ ⟨FK,trivial⟩ ?_) (ag.put hd)
 ·rw [List.length_append,List.length_append,hz,hz,hlo,←Nat.add_mul,←Nat.add_mul];congr 1;omega
 ·intro p hp;rw [List.mem_singleton] at hp;subst hp;refine ⟨rfl,?_⟩;have:=Ir.made w.drew e (olds++(Builtin.zeroCells zv.cells k).toList++(Builtin.zeroCells zv.cells (grownCap w (n+k) cp e - (n+k))).toList);rw [List.nil_append,List.append_nil];have e2:(olds++(Builtin.zeroCells zv.cells k).toList++(Builtin.zeroCells zv.cells (grownCap w (n+k) cp e - (n+k))).toList).toArray=olds.toArray++Builtin.zeroCells zv.cells k++Builtin.zeroCells zv.cells (grownCap w (n+k) cp e - (n+k)):=by apply Array.ext';simp
  rw [e2] at this;exact this
 ·intro p hp b hb;rw [List.mem_singleton] at hp;subst hp;simp [Pc.F] at hb;subst hb;exact .inl (Nat.le_refl _)⟩
theorem Anj {t e m n cp i:Nat} {a:Option Addr} {q:Int} [hS:SlC c.P t e m] (hd:Nat.blt d c.n=true) (hx:ev fr x=some (.slice a n cp)) (hy:ev fr y=some (.int .i64 q)) (hq:q=(i:Int)) (hi:i≤n) (h:∀v,T c ((d,v)::fr) H Φ) (hlc:n≤cp:=by omega):On c fr H (some d) (.slice t x (some y) none none) ty Φ:=⟨fun _ _ _=>Qe fun Q ac w s g=>by
 subst hq;have he2:=Agm hS;obtain ⟨v,h3⟩:∃v,(Instr.sliceAt t (.slice a n cp) (some (.int .i64 (i:Int))) none none).run c.P w=.ok v w:=by
  rw [run_sliceAt_slice (h:=GU),run_slice_l (ht:=GU) (h0:=FJ) (h1:=FJ),he2,Nv hS.s];exact ⟨_,rfl⟩
 have e1:∀pos Ci gd,(execOp ac.eval ⟨some d,.slice t x (some y) none none,ty,pos,Ci,gd⟩).run c.P w=.ok (.value v) w:=by
  intro pos Ci gd;simp only [execOp,Option.map_none,Option.map_some,g.ev hx,g.ev hy,Sem.run_bind,h3,Result.andThen_ok,Sem.run_pure]
 rw [e1];exact (h v).h _ w s (g.put hd)⟩
end
section
variable {P:Program} {n:Nat} {fr:Fr} {H:List Pc} {ty:TypeId}
theorem Bie {f:Nat} {bs caps:List Operand} {us vs:List Value} (hb:Evs fr bs us) (hc:Evs fr caps vs):Yd P n fr H (.makeFunc (.func f) bs.toArray caps.toArray) ty (.func (.func f) us.toArray vs.toArray):=.mk fun c w d pos Ci gd hA _=>by
 simp [execOp,Instr.makeFunc,hA.evs hb,hA.evs hc]
end
section
variable {c:Cx} {fr:Fr} {H:List Pc} {k:List It} {Φ:Gl} {d:Nat} {ty:TypeId} {x:Operand}
theorem Acs {fo:Operand} {f:Nat} {bd caps:List Value} {aS:List Operand} {ts:Array TypeId} {vs:List Value} (hd:Nat.blt d c.n=true) (hf:ev fr fo=some (.func (.func f) bd.toArray caps.toArray)) (hb:Si c.P f=true) (ha:Evs fr aS vs) (h:Cl c fr H d f (bd++vs++caps) Φ):On c fr H (some d) (.call { callee:=.value fo,args:=aS.toArray,argTypes:=ts }) ty Φ:=⟨fun _ _ _=>Qe fun Q a w s g=>by
 have e:∀pos Ci gd,(execOp a.eval ⟨some d,.call { callee:=.value fo,args:=aS.toArray,argTypes:=ts },ty,pos,Ci,gd⟩).run c.P w=(callFunc f (bd++vs++caps).toArray).run c.P w:=by
  intro pos Ci gd;simp [execOp,resolve,Deferred.ofValue,g.ev hf,invoke,g.evs ha]
 rw [e];obtain ⟨R,hc,hk⟩:=h.h w s;refine (Wx hb).upon hc fun e w' hR=>?_;obtain ⟨v,he,hv⟩:=hk e w' hR;exact ⟨v,he,hv _ (g.put hd)⟩⟩
theorem An0 {α:Type} {E:Br α} (sc:Ab1 E) {t n cp:Nat} {a:Option Addr} {xs:List α} {F:List Nat} (h0:xs≠[])
  (h:∀g,a=some ⟨g,0,none⟩→F=[g]→n=xs.length→n≤cp→cp≤9223372036854775807→T c fr H Φ) (hm:.ow E t (.slice a n cp) xs F∈H:=by exact A9):T c fr H Φ:=.mk fun ac w s g'=>by
 obtain ⟨hnd,ho⟩:=s.get hm;have hF:=ho.scal sc;rcases ho with ⟨-,h2, -⟩|⟨g,cap,cs,rest,G,h1,h2,h3,h4,h5,h6,h7⟩
 ·exact absurd h2 h0
 ·cases h1;exact (h g rfl (by simpa [Value.ownBlock] using hF) rfl h3 (by unfold maxLen at h4;omega)).h ac w s g'
theorem C1.rep0 {α:Type} {E:Br α} {w:World} {zs:List Value} {z:α} (h:E.Ky w zs z []):∀n,C1 E w (List.replicate n zs).flatten (List.replicate n z) []
 | 0=>⟨rfl,rfl⟩
 | n+1=>⟨zs,(List.replicate n zs).flatten,[],[],by simp [List.replicate_succ],FK,h,C1.rep0 h n⟩
theorem Aju (z:Array Value) (n:Nat):(Builtin.zeroCells z n).toList=(List.replicate n z.toList).flatten:=by
 have:=Oy z n;exact this
theorem Au5 {α:Type} {E:Br α} (sc:Ab1 E) {t e m b g n cp i:Nat} {zv:Value} {z0:α} [hS:SlC c.P t e m] [hE:ElT c.P e zv m b] (hz:∀w,E.Ky w zv.cells.toList z0 []) (one:∀u∈zv.cells,u.oneCell'=true) (hm:E.sz=m) {xs:List α} {F:List Nat} {S:List Pc}
  (hx:ev fr x=some (.slice (some ⟨g,0+i * m,none⟩) (n - i) (cp - i))) (hi:i < n) (hn:n=xs.length) (hp:Co H (.ow E e (.slice (some ⟨g,0,none⟩) n cp) xs F) S) (h:T c fr (.ow E e (.slice (some ⟨g,0,none⟩) n cp) (xs.take i++List.replicate (n - i) z0) F::S) Φ) :
  On c fr H none (.call { callee:=.builtin .clear,args:=#[x],argTypes:=#[t] }) ty Φ:=⟨fun _ _ _=>Qe fun Q a w s ag=>by
 subst hm;have s1:=s.pick hp;obtain ⟨hnd,ho⟩:=s1.on (.ow E e (.slice (some ⟨g,0,none⟩) n cp) xs F) FK;have hF:=ho.scal sc;rcases ho with ⟨h1, -, -⟩|⟨g2,cap,cs,rest,G,h1,h2,h3,h4,h5,h6,h7⟩
 ·cases h1
 cases h1;have hG:G=[]:=JI
 subst hG h7;have hl:=h6.len;obtain ⟨f1,f2⟩:=h6.cutL i FJ;have hcs:=List.take_append_drop (i * E.sz) cs;have hd1:(cs.take (i * E.sz)).length=i * E.sz:=by have:=f1.len;rw [List.length_take (l:=xs),Nat.min_eq_left FJ] at this;exact this
 have hd2:(cs.drop (i * E.sz)).length=(xs.length - i) * E.sz:=by have:=f2.len;rwa [List.length_drop (l:=xs)] at this
 have hr:=fun ty=>Uq (P:=c.P) w t e ty zv hS.u (Xw hE.i) one g (0+i * E.sz) (xs.length - i) (cp - i) FJ
  (fun j hj=>by rw [hE.s] at hj;rw [h2.cell,List.getElem?_eq_getElem (by rw [List.length_append,←hcs,List.length_append,hd1,hd2];omega)];rfl) (fun j _=>h2.frozen _)
 have e1:∀pos Ci gd,(execOp a.eval ⟨none,.call { callee:=.builtin .clear,args:=#[x],argTypes:=#[t] },ty,pos,Ci,gd⟩).run c.P w=.ok (.value (.tuple #[])) (w.setCells g (0+i * E.sz) (Builtin.zeroCells zv.cells (xs.length - i)).toList):=by
  intro pos Ci gd;simp only [execOp,resolve,invoke,builtin,Sem.run_bind,Sem.run_pure,Result.andThen_ok,List.map_toArray,List.map_cons,List.map_nil,ag.ev hx,hr]
 rw [e1];have hzl:(Builtin.zeroCells zv.cells (xs.length - i)).toList.length=(xs.length - i) * E.sz:=by rw [Oa,hE.s]
 have R0:Ir w g e (cs.take (i * E.sz)++cs.drop (i * E.sz)++rest):=by rw [hcs];exact h2
 have R1:=Ir.put (Builtin.zeroCells zv.cells (xs.length - i)).toList _ R0 (p:=0+i * E.sz) FJ (by rw [hzl,hd2]);have hk:=Mu (g:=g) (Builtin.zeroCells zv.cells (xs.length - i)).toList w (0+i * E.sz);rw [Nj w g] at R1 hk;have hW:(Pc.ow E e (.slice (some ⟨g,0,none⟩) xs.length cp) (xs.take i++List.replicate (xs.length - i) z0) [g]).P (w.setCells g (0+i * E.sz) (Builtin.zeroCells zv.cells (xs.length - i)).toList):=by
  have hll:(xs.take i++List.replicate (xs.length - i) z0).length=xs.length:=HW
  have hfl:C1 E (w.setCells g (0+i * E.sz) (Builtin.zeroCells zv.cells (xs.length - i)).toList) (cs.take (i * E.sz)++(Builtin.zeroCells zv.cells (xs.length - i)).toList) (xs.take i++List.replicate (xs.length - i) z0) []:=by
   rw [Aju];exact (f1.all _).append (C1.rep0 (hz _) _)
  refine ⟨FK,.inr ⟨g,cp,cs.take (i * E.sz)++(Builtin.zeroCells zv.cells (xs.length - i)).toList,rest,[],by rw [hll],R1,by rw [hll];exact h3,h4,?_,hfl,rfl⟩⟩;rw [List.length_append,hzl,hd1,←Nat.add_mul];rw [←h5,hl]
  congr 2
  omega
 exact h.h _ _ (St.turn (M:=[.ow E e (.slice (some ⟨g,0,none⟩) xs.length cp) xs [g]]) (N:=[.ow E e (.slice (some ⟨g,0,none⟩) xs.length cp) (xs.take i++List.replicate (xs.length - i) z0) [g]]) s1 HY LJ ⟨FK,trivial⟩ (by
   intro q hq b hb;rw [List.mem_singleton] at hq;subst hq;exact .inr (.inl ⟨_,List.mem_singleton.2 rfl,rfl,hb⟩))) ag⟩
end
theorem Azb (fid:FuncId) (bd caps:List Value) (A:List Pc) (hA:A.all (fun p=>!p.mu)=true) (xs:List Int) (a:Option Addr) (c:Nat) (F:List Nat) (p:Int→Bool) (hb:Si prog fid=true) (hl:xs.length≤1000000000)
  (hp:∀x∈xs,∀w,Om A w→Calls prog fid (bd++[(.int .i64 x:Value)]++caps).toArray w (RB (.bool (p x)) w)) :
  Fn prog 415 [.slice a xs.length c,.func (.func fid) bd.toArray caps.toArray] (.sl Bb (.slice a xs.length c) xs F::A) [] (fun (_:Unit)=>True) (fun _=>.int .i64 (S0 p xs)) (fun _=>[]):=by
 refine enter func415 rfl ntmps415 (fun w0=>?_) rfl GQ .nil;refine go ?_;refine D8 [0,1,4,7] (fun k:Nat=>[(8,.int .i64 (k:Nat))]) (fun k=>k≤xs.length∧∀j (_:j < k) (hj:j < xs.length),p xs[j]=false) (fun k=>xs.length - k) 0 ⟨Nat.zero_le _,fun j h=>by omega⟩ fun k hk=>?_;obtain ⟨hk1,hk2⟩:=hk;refine go ?_;refine Ax rfl (fun h5=>?_) (fun h5=>?_)
 ·have hh:k < xs.length:=FJ
  refine go ?_;refine I5 (xs:=xs) k ?_;rintro hi b o e;rw [e];refine go ?_;apply wO;refine Acs rfl rfl hb X8 ?_;refine cb (fun w st=>hp xs[k] (List.getElem_mem hh) w (fun q hq=>st.on q GR)) ?_;cases hpk:p xs[k]
  ·refine go ?_;refine Xo ?_;refine Ce (hH:=Lz _) (k+1) ⟨hh,fun j hj h=>?_⟩ FJ;rcases Nat.lt_or_eq_of_le (Nat.lt_succ_iff.1 hj) with h2|rfl
   ·exact hk2 j h2 h
   ·exact hpk
  ·refine go ?_;refine ret () trivial ?_;rw [Pp hh hk2 hpk];rfl
 ·obtain rfl:k=xs.length:=FJ
  exact BR
structure Ay7 where
 i:Nat
 j:Nat
 zs:List Int
theorem Aog (fid:FuncId) (bd caps:List Value) (A:List Pc) (hA:A.all (fun p=>!p.mu)=true) (xs:List Int) (a:Option Addr) (c:Nat) (F:List Nat) (p:Int→Bool) (hb:Si prog fid=true) (hl:xs.length≤1000000000)
  (hp:∀x∈xs,∀w,Om A w→Calls prog fid (bd++[(.int .i64 x:Value)]++caps).toArray w (RB (.bool (p x)) w)) :
  Fn prog 390 [.slice a xs.length c,.func (.func fid) bd.toArray caps.toArray] A [.ow Bb 3 (.slice a xs.length c) xs F] (fun (_:Option Addr × Nat × List Nat)=>True)
   (fun z=>.slice z.1 (xs.filter fun x=>!p x).length z.2.1) (fun z=>[.ow Bb 3 (.slice z.1 (xs.filter fun x=>!p x).length z.2.1) (xs.filter fun x=>!p x) z.2.2]):=by
 refine enter func390 rfl ntmps390 (fun w0=>?_) rfl GQ (.cons .nil);refine go ?_;refine cb (fun w st=>by
  obtain ⟨Fw, -,hw⟩:=(st.get (p:=.ow Bb 3 (.slice a xs.length c) xs F) FK).2.read;refine (Azb fid bd caps A hA xs a c Fw p hb hl hp).val w ?_ GQ;intro q hq;rcases List.mem_cons.1 hq with rfl|hq
  ·exact ⟨FM,hw⟩
  ·exact st.on q GR) ?_
 by_cases hany:xs.any p=true
 ·obtain ⟨i0,hi0,hfx,hpi,hfl⟩:=Zo hany;rw [hfx];refine An0 (xs:=xs) D0 (by rintro rfl;simp at hi0) ?_;rintro g rfl rfl - hc1 hc2;refine go ?_;refine Cj [0,1,4] (fun s:Ay7=>[(5,.int .i64 (s.i:Nat)),(6,.int .i64 (s.j:Nat))]) (fun s=>[.ow Bb 3 (.slice (some ⟨g,0,none⟩) xs.length c) s.zs [g]]) (fun s=>s.zs.length=xs.length∧s.j≤xs.length∧s.i < s.j∧s.zs.take s.i=(xs.take s.j).filter (fun x=>!p x)∧s.zs.drop s.j=xs.drop s.j) (fun s=>xs.length - s.j) ⟨i0,i0+1,xs⟩ ⟨rfl,hi0,Nat.lt_succ_self _,by rw [Da hi0 (by simp [hpi]),hfl],rfl⟩ fun s hs=>?_;obtain ⟨i,j,zs⟩:=s;obtain ⟨h1,h2,h3,h4,h5⟩:=hs
  dsimp only at h1 h2 h3 h4 h5 ⊢;refine go ?_;refine Ax rfl (fun h6=>?_) (fun h6=>?_)
  ·have hj:j < xs.length:=FJ
   have hjz:j < zs.length:=FJ
   have hx:zs[j]=xs[j]:=by
    exact EV
   have hdz:zs.drop (j+1)=xs.drop (j+1):=by
    rw [←List.drop_drop,h5,List.drop_drop]
   refine go ?_;refine P5 (m:=1) D0 j ?_ FP rfl hjz;rintro _ g2 A2 cs2 B2 e1 e2 hc3 hh;cases e1;obtain ⟨rfl, -⟩:=hc3 w0;refine go ?_;refine Pd zs[j] hh hc3 ?_;rw [List.set_getElem_self,hx];apply wO;refine Acs rfl rfl hb X8 ?_;refine cb (fun w st=>hp xs[j] (List.getElem_mem hj) w (fun q hq=>st.on q GR)) ?_;cases hpj:p xs[j]
   ·refine go ?_;refine P5 (m:=1) D0 i ?_ FP rfl FJ;rintro _ g3 A3 cs3 B3 e1 e2 hc4 hh3;cases e1;obtain ⟨rfl, -⟩:=hc4 w0;refine go ?_;refine Pd xs[j] hh3 (fun w=>⟨rfl,rfl⟩) ?_;refine Ce (hH:=Lz _) (⟨i+1,j+1,zs.set i xs[j]⟩:Ay7) ⟨by simp [h1],hj,Nat.succ_lt_succ h3,?_,?_⟩ JF
    ·exact EH
    ·dsimp only;rw [List.drop_set_of_lt FJ,hdz]
   ·refine go ?_;refine Ce (hH:=Lz _) (⟨i,j+1,zs⟩:Ay7) ⟨h1,hj,Nat.lt_succ_of_lt h3,?_,hdz⟩ JF;dsimp only;rw [Da hj (by simp [hpj]),h4]
  ·obtain rfl:j=xs.length:=FJ
   have h4':zs.take i=xs.filter fun x=>!p x:=by rw [h4,List.take_length]
   have hil:(xs.filter fun x=>!p x).length=i:=by rw [←h4',List.length_take];omega
   refine go ?_;apply wO;apply oc;rfl;exact Ln (i:=i) rfl rfl rfl FJ FJ FJ;refine go ?_;apply wO;refine Au5 (z0:=0) (n:=xs.length) (cp:=c) (i:=i) (g:=g) D0 (fun w=>⟨rfl,rfl⟩) FM rfl rfl h3 h1.symm FP ?_;refine go ?_;refine An4 (xs:=zs.take i++List.replicate (xs.length - i) 0) i (fun F2=>?_) HW;rw [List.take_left' GA,h4'];apply wO;apply oc;rfl;exact P9 (i:=i) rfl rfl rfl FJ FJ;refine go ?_;subst hil
   refine ret (_,c,F2) trivial rfl
 ·obtain ⟨hfx,hfl⟩:=Acc hany;rw [hfx,hfl];refine go ?_;refine ret (a,c,F) trivial rfl
def Pg (x:Aj) (n:Nat):List Int:=(Sw x.next n).filter fun k=>!Jb x k
theorem Alx {t k:Int} {n:Nat} (h:k∈Sw t n):0≤k∧k≤65535:=by
 unfold Sw at h;obtain ⟨i, -,rfl⟩:=List.mem_map.1 h;unfold Ci;omega
theorem Aon (x:Aj) (k:Int) (n:Nat) (v:Value) (F:List Nat) (h0:0≤x.next) (h1:x.next≤65535) (h2:0≤k) (h3:k≤65535) (hn:gp x.next k=n) :
  Fn prog 429 [v,.int .i64 k] [.isv Bh v x F] [] (fun (_:Option Addr × Nat × List Nat)=>True) (fun s=>.slice s.1 (Pg x n).length s.2.1) (fun s=>[.ow Bb 3 (.slice s.1 (Pg x n).length s.2.1) (Pg x n) s.2.2]):=by
 have hg:=Mf x.next k
 refine enter func429 rfl ntmps429 fun w0=>?_;refine Cd ?_;rintro a1 c1 F1 rfl l1;refine go ?_;intros;refine As [0] [] ?_;refine Ds 0 1 2 3 ?_;refine Ed 4 7 ?_;refine dt 8 ?_ (hy:=Bie X8 X8);refine dN 5 ?_;refine oC ?_;refine ce (fun w s=>Qg _ _ _ FJ FJ FJ FJ) ?_;refine dk ?_;refine dN 6 ?_;refine oC ?_;rw [hn];refine Cb (Bh4 x.next n FJ FJ FJ) fun s _=>?_;refine dk ?_;refine dN 9 ?_;refine oC ?_
 refine cf (Aog 267 [_] [] [.isv Bh (.agg #[.int .i64 x.next,.slice a1 x.Am.length c1]) x F] rfl (Sw x.next n) s.1 s.2.1 s.2.2 (fun k=>Jb x k) rfl (by rw [Aev];omega) (fun k hk w hw=>?_)) fun q _=>?_;exact (Ab0 x k _ F h0 h1 (Alx hk).1 (Alx hk).2).val w hw;refine O1 ?_;refine dk ?_;refine dt 10 ?_;refine dd ?_;refine go ?_;refine ret q trivial rfl
theorem Axs {x:Aj} {k:Nat} (hk:k≤65535) (h:J4 x.Am k=true):Pg x (k+1)=Pg x k:=by
 have e:Jb x (Ci x.next k)=true:=JP
 unfold Pg;rw [Abr,List.filter_append,List.filter_cons];simp [e]
theorem Ap9 {x:Aj} {k:Nat} (hk:k≤65535) (h:J4 x.Am k=false):Pg x (k+1)=Pg x k++[Ci x.next k]:=by
 have e:Jb x (Ci x.next k)=false:=JP
 unfold Pg;rw [Abr,List.filter_append,List.filter_cons];simp [e]
theorem Aei (x:Aj) (k:Nat):(Pg x k).length≤k:=by
 unfold Pg;have:=List.length_filter_le (fun k=>!Jb x k) (Sw x.next k);rw [Aev] at this;exact this
theorem Am9 (x:Aj) (k:Int) (n:Nat) (v:Value) (F:List Nat) (h0:0≤x.next) (h1:x.next≤65535) (h2:0≤k) (h3:k≤65535) (hn:gp x.next k=n) :
  Fn prog 367 [v,.int .i64 k] [.isv Bh v x F] [] (fun (_:Option Addr × Nat × List Nat)=>True) (fun s=>.slice s.1 (Pg x n).length s.2.1) (fun s=>[.ow Bb 3 (.slice s.1 (Pg x n).length s.2.1) (Pg x n) s.2.2]):=by
 have hg:=Mf x.next k
 refine enter func367 rfl ntmps367 fun w0=>?_;refine Cd ?_;rintro a1 c1 F1 rfl l1;unfold maxLen at l1;refine O3 ?_;intros;refine Dc Bb ?_;refine go ?_;refine Cj [1,2,4] (fun s:SpS=>[(5,.slice s.a (Pg x s.k).length s.c),(6,.int .i64 (s.k:Nat))]) (fun s=>[.ow Bb 3 (.slice s.a (Pg x s.k).length s.c) (Pg x s.k) s.F]) (fun s=>s.k≤n) (fun s=>n - s.k) ⟨0,_,_,_⟩ (Nat.zero_le _) fun s hs=>?_;obtain ⟨j,a,c,F5⟩:=s;dsimp only at hs ⊢;have hlk:=Aei x j;refine go ?_;refine ce (fun w s=>Ju _ _ _ FJ FJ) ?_;rw [hn];refine go ?_;refine Ax rfl (fun h4=>?_) (fun h4=>?_)
 ·refine go ?_;refine Dx rfl rfl (fun h5=>?_) (fun h5=>?_)
  ·refine go ?_;refine ce (fun w s=>L8 _ _ _ FJ FJ) ?_;refine go ?_;intros;apply wO;refine Qa (Tq _) Dd fun a2 c2 F2=>?_;refine go ?_;rw [←Ap9 FJ (Sn FJ)];refine Ce ⟨j+1,a2,c2,F2⟩ (by show j+1≤n;omega) LF
  ·refine P4 (xs:=x.Am) j ?_;rintro hi2 b2 o2 e s1;rw [e];refine go ?_;cases g2:x.Am[j].V2
   ·refine go ?_;refine ce (fun w s=>L8 _ _ _ FJ FJ) ?_;refine go ?_;intros;apply wO;refine Qa (Tq _) Dd fun a2 c2 F2=>?_;refine go ?_;rw [←Ap9 FJ (by rw [Mg hi2];exact g2)];refine Ce ⟨j+1,a2,c2,F2⟩ (by show j+1≤n;omega) LF
   ·refine go ?_;rw [←Axs (x:=x) (k:=j) FJ (by rw [Mg hi2];exact g2)];refine Ce ⟨j+1,a,c,F5⟩ (by show j+1≤n;omega) LF
 ·obtain rfl:j=n:=FJ
  refine go ?_;refine ret (a,c,F5) trivial rfl
def Bao (d:Int):Bool:=Gj 1 d 8
def N1 (base:Int) (r:Ay):Bool:=Cc r.Ae && decide (gp base r.Ae < 8) && Gj 1 r.state 3 && Gj 0 r.Ch 10007 && Gj 0 r.D5 3
def Ajz (l:List Ay) (base:Int) (i:Nat):Bool:=match l[i]? with
 | none=>true
 | some r=>N1 base r && (decide (i=0) || match l[i - 1]? with|none=>true|some p=>!decide (gp base r.Ae≤gp base p.Ae))
theorem Wz {l:List Ay} {base:Int} {i:Nat} (h:i < l.length):Ajz l base i=(N1 base l[i] && (decide (i=0) || !decide (gp base l[i].Ae≤gp base (l[i - 1]'FJ).Ae))):=by
 unfold Ajz;rw [List.getElem?_eq_getElem h,List.getElem?_eq_getElem (show i - 1 < l.length by omega)]
def M0 (l:List Ay) (base:Int):Bool:=Cc base && decide ((l.length:Int)≤8) && (List.range l.length).all (Ajz l base)
theorem Auk {l:List Ay} {base:Int} {i:Nat} (h:i < l.length) (hc:Ajz l base i=false):M0 l base=false:=by
 have:(List.range l.length).all (Ajz l base)=false:=List.all_eq_false.2 ⟨i,GE,JY⟩;simp [M0,this]
theorem Aou {l:List Ay} {base:Int} (h1:Cc base=true) (h2:(l.length:Int)≤8) (h:∀j,j < l.length→Ajz l base j=true):M0 l base=true:=by
 unfold M0;rw [h1,decide_eq_true h2,List.all_eq_true.2 fun j hj=>h j IR];rfl
theorem Dg {l:List Ay} {base:Int}:M0 l base=true↔Cc base=true∧l.length≤8∧(∀r∈l,N1 base r=true)∧l.Pairwise fun a b=>gp base a.Ae < gp base b.Ae:=by
 unfold M0;simp only [Bool.and_eq_true,List.all_eq_true,List.mem_range,decide_eq_true_eq];constructor
 ·rintro ⟨⟨h1,h2⟩,h4⟩;refine ⟨h1,FJ,fun r hr=>?_,?_⟩
  ·obtain ⟨i,hi,rfl⟩:=List.getElem_of_mem hr;have:=h4 i hi;rw [Wz hi] at this;simp only [Bool.and_eq_true] at this;exact this.1
  ·have step:∀i (hi:i+1 < l.length),gp base l[i].Ae < gp base l[i+1].Ae:=fun i hi=>by
    have:=h4 (i+1) hi;rw [Wz hi] at this;simp only [Bool.and_eq_true,Bool.or_eq_true,decide_eq_true_eq,Bool.not_eq_true',decide_eq_false_iff_not] at this;have h:=this.2;rcases h with h|h
    ·omega
    ·simpa using h
   refine List.pairwise_iff_getElem.2 fun i j hi hj hij=>?_;obtain ⟨d,rfl⟩:∃d,j=i+1+d:=⟨j - i - 1,FJ⟩;clear hij
   induction d with
   | zero=>exact step i hj
   | succ d ih=>exact Int.lt_trans (ih FJ) (step (i+1+d) hj)
 ·rintro ⟨h1,h2,h4,h5⟩;refine ⟨⟨h1,FJ⟩,fun i hi=>?_⟩;rw [Wz hi,h4 l[i] (List.getElem_mem hi)];simp only [Bool.true_and,Bool.or_eq_true,decide_eq_true_eq,Bool.not_eq_true',decide_eq_false_iff_not];rcases Nat.eq_zero_or_pos i with h0|h0
  ·exact .inl h0
  ·have:=List.pairwise_iff_getElem.1 h5 (i - 1) i FJ hi FJ;right;omega
structure Azg (base:Int) (r:Ay):Prop where
 n:Cc r.Ae=true
 g:gp base r.Ae < 8
 s0:1≤r.state
 s1:r.state≤3
 u0:0≤r.Ch
 u1:r.Ch≤10007
 t0:0≤r.D5
 t1:r.D5≤3
theorem Ew {base:Int} {r:Ay}:N1 base r=true↔Azg base r:=by
 unfold N1 Gj;simp only [Bool.and_eq_true,decide_eq_true_eq];exact ⟨fun ⟨⟨⟨⟨a,b⟩,c,d⟩,e,f⟩,g,h⟩=>⟨a,b,c,d,e,f,g,h⟩,fun ⟨a,b,c,d,e,f,g,h⟩=>⟨⟨⟨⟨a,b⟩,c,d⟩,e,f⟩,g,h⟩⟩
def P3 (r:Az):Bool:=decide (r.Aa.next=0) && decide (r.Aa.Am.length=0) && decide (r.Al.length=0)
def Ale (r:Az):Bool:=r.Al.all fun q=>!Jb r.Aa q.Ae
def Bx (r:Az):Bool:=Ld r.Ai && (if r.Be then Cu r.Aa && M0 r.Al r.Aa.next && Ale r else P3 r)
def Va (c d:Int) (r:Ay):Option Ay:=if c < r.Ch then some r else if r.D5=3 then none else if r.state=1 then some ⟨r.Ae,2,c+3,r.D5+1⟩ else some ⟨r.Ae,1,c+d,r.D5⟩
def Re (c:Int) (r:Ay):Option Int:=if c < r.Ch then none else if r.D5=3 then none else if r.state=1 then some r.Ae else none
def Vl (c:Int) (r:Ay):Option Int:=if c < r.Ch then none else if r.D5=3 then some r.Ae else none
def pkR (n k:Int):Ar:=⟨3,k,n,n,⟨#[]⟩⟩
def Dl (l:List Int):Int:=Ci (l.getLastD 0) 1
def Jo (w:Aj) (t:Int):Aj:=Qp (Jc (Ez w.next t) w)
def Jm (w:Aj) (t:Int):List ByteArray:=Pf (Ez w.next t) w++Su (Jc (Ez w.next t) w)
def Aal (l:List Ay) (n:Int):List Ay:=l.filter fun q=>!Uu q.Ae n
def Ek (l:List Ay) (w:Aj):List Ay:=l.filter fun q=>!(Uu q.Ae w.next || Jb w q.Ae) && decide (gp w.next q.Ae < 8)
def Ok (r:Az) (d:Int):List Ay:=r.Al.filterMap (Va (r.Ai+1) d)
def C8 (r:Az):List Int:=r.Al.filterMap (Vl (r.Ai+1))
def Cw (r:Az) (d:Int):Az:=if C8 r=[] then ⟨r.Be,r.Ai+1,r.Aa,Ok r d⟩ else ⟨r.Be,r.Ai+1,Jo r.Aa (Dl (C8 r)),Aal (Ok r d) (Jo r.Aa (Dl (C8 r))).next⟩
def Fj (r:Az):List Ar:=(r.Al.filterMap (Re (r.Ai+1))).map (pkR r.Aa.next)
def H8 (r:Az):List ByteArray:=if C8 r=[] then [] else Jm r.Aa (Dl (C8 r))
def Bkm:Az:=⟨false,0,⟨0,[]⟩,[]⟩
structure Mv (r:Az):Prop where
 k0:0≤r.Ai
 k1:r.Ai≤9999
 w:Cu r.Aa=true
 q:M0 r.Al r.Aa.next=true
 f:∀z∈r.Al,Jb r.Aa z.Ae=false
 z:r.Be=false→r.Aa=⟨0,[]⟩∧r.Al=[]
theorem Eb {r:Az}:Bx r=true↔Mv r:=by
 have hc:Ld r.Ai=true↔0≤r.Ai∧r.Ai≤9999:=by unfold Ld Gj;simp
 have hf:Ale r=true↔∀z∈r.Al,Jb r.Aa z.Ae=false:=by unfold Ale;simp
 have hz:P3 r=true↔r.Aa=⟨0,[]⟩∧r.Al=[]:=by
  unfold P3;obtain ⟨st,ck,⟨n,s⟩,q⟩:=r;simp [and_assoc]
 unfold Bx;constructor
 ·intro h;rw [Bool.and_eq_true,hc] at h;obtain ⟨⟨c0,c1⟩,h⟩:=h;cases hs:r.Be
  ·rw [hs] at h;obtain ⟨e1,e2⟩:=hz.1 GE;refine ⟨c0,c1,by rw [e1];decide,by rw [e1,e2];decide,by rw [e2];simp,fun _=>⟨e1,e2⟩⟩
  ·rw [hs] at h;simp only [if_true,Bool.and_eq_true] at h;exact ⟨c0,c1,h.1.1,h.1.2,hf.1 h.2,fun h'=>by rw [hs] at h';cases h'⟩
 ·rintro ⟨c0,c1,h1,h2,h3,h4⟩;rw [Bool.and_eq_true,hc];refine ⟨⟨c0,c1⟩,?_⟩;cases hs:r.Be
  ·simpa using hz.2 (h4 hs)
  ·simp [h1,h2,hf.2 h3]
def Bw (p:Ar):Bool:=Gj 1 p.Cp 5 && Cc p.Ae && Cc p.Ap && Cc p.Fv && R5 p.data && decide (gp p.Ap p.Fv≤32767) && (decide (p.data=⟨#[]⟩) || decide (p.Cp=1) || decide (p.Cp=2))
theorem Lb {p:Ar} (h:Bw p=true):0≤p.Ae∧p.Ae≤65535:=by
 unfold Bw at h;simp only [Bool.and_eq_true] at h;exact Bc.1 h.1.1.1.1.1.2
theorem Adp (fid:FuncId) (hbd:Z4 prog fid) (caps:Array Value) (v:Value) (xs:List ByteArray) (F:List Nat) (p:ByteArray→Bool) (w:World) (h:Sl A8 w v xs F)
  (hp:∀(k:Nat) (hk:k < xs.length) (wr:World) (u:Value) (G:List Nat),Below w.heap.size w wr→IsC A8 wr u xs[k] G→Calls prog fid (#[u]++caps) wr fun e w'=>e=.returned (.bool (p xs[k]))∧Below wr.heap.size wr w') :
  Calls prog 369 #[v,.func (.func fid) #[] caps] w (RB (.int .i64 (S0 p xs)) w):=by
 obtain ⟨a,cap,rfl⟩:=h.slice;have hl:=h.len;unfold maxLen at hl
 go_enter func369,ntmps369
 go_wp2
 go_loopw [5,8] (fun _ i wr=>∃k:Nat,k≤xs.length∧i=.int .i64 k∧Hid (∀j,j < k→∀hj:j < xs.length,p xs[j]=false)∧Below w.heap.size w wr) (fun _ i _=>xs.length - (intOf i).toNat)
 case atStart=>exact ⟨0,Nat.zero_le _,rfl,fun j hj=>by omega,Below.refl _ _⟩
 case round =>
  obtain ⟨k,hk,rfl,hz,hB⟩:=hrel;by_cases hlt:k < xs.length
  ·have hz0:=hz;clear hz;obtain ⟨b,off,_,F1,rfl,hx, -,ja⟩:=(h.below FM hB).at k hlt;obtain ⟨rfl, -, -⟩:=id hx;have a0:=ja 0 FM;simp only [show A8.sz=1 from rfl,Nat.mul_one,Nat.add_zero,List.getElem?_cons_zero,List.getElem?_cons_succ] at a0;clear ja;have hr:=hp k hlt wr _ F1 hB ⟨_,rfl,hx⟩;have hp:=Lib.hid hp;cases hpk:p xs[k]
   all_goals
    rw [hpk] at hr;have hpk:=Lib.hid hpk;have hr:=Lib.hid hr;go_wp2_with fail;refine hbd.upon hr.out ?_;rintro e w1 ⟨rfl,hb1⟩;refine ⟨_,rfl,?_⟩;have hB:=tr hB hb1 (Nat.le_refl _);clear hb1;go_wp2_with fail
   ·exact AM
   ·go_ret
    exact EW
  ·go_wp2
   go_ret
   exact DI
theorem Z5 (fid:FuncId) (hbd:Z4 prog fid) (caps:Array Value) (v:Value) (xs:List ByteArray) (F:List Nat) (p:ByteArray→Bool) (w:World) (h:Sl A8 w v xs F)
  (hp:∀(k:Nat) (hk:k < xs.length) (wr:World) (u:Value) (G:List Nat),Below w.heap.size w wr→IsC A8 wr u xs[k] G→Calls prog fid (#[u]++caps) wr fun e w'=>e=.returned (.bool (p xs[k]))∧Below wr.heap.size wr w') :
  Calls prog 316 #[v,.func (.func fid) #[] caps] w (RB (.bool (xs.any p)) w):=by
 have hp:=Lib.hid hp
 go_enter func316,ntmps316
 go_wp2_with fail;refine (Adp fid hbd caps v xs F p _ h hp.out).mono ?_;rintro e w1 ⟨rfl,hb1⟩;go_wp2_with fail
 go_ret
 exact ⟨Cm (Ud p xs),hb1⟩
theorem Abw (v:Value) (xs:List ByteArray) (F:List Nat) (w:World) (h:Sl A8 w v xs F) (hm:xs.length≤4294967296) :
  Calls prog 256 #[v] w (No A8 9 xs w):=by
 obtain ⟨ao,c,news,Fy,rfl,hl,hfy,hFy,hsrc⟩:=h.src;have hFl:=hfy.lt;have he:=fun w (a:Option Addr) (n c:Nat)=>Lib.run_eql_slice_nil (P:=prog) w 25 _ a n c 0 0 underlying25
 go_enter func256,ntmps256
 rcases hsrc with ⟨rfl,rfl,rfl⟩|⟨ad,rfl,hn⟩
 ·go_wp2
  go_ret
  exact CA
 ·go_wp2_with (at_builtin;refine P8 Eh FM GG _ _ _ GG 9 (.string ⟨#[]⟩) 16 underlying25 Apm rfl (.slice (some ⟨w.heap.size,0,none⟩) 0 0) [] [w.heap.size] GG (Ow.empty (Ir.made _ _ _)) (Hd.one _) (some ad) xs c GG news Fy (hfy.frame fun b hb=>Below.heap_alloc _ _ _ (hFl b hb)) (.inr ⟨ad,rfl,fun j u hu=>kc ((Below.refl _ _).alloc (Nat.le_refl _) _) (hn j u hu)⟩) (fun b hb e=>by have:=hFl b hb;simp [Value.ownBlock] at e;omega) HP HM ?_);intro v2 w2 F2 hA;go_wp2_with fail
  go_ret
  have hB:Below w.heap.size w w2:=((Below.refl _ _).alloc (Nat.le_refl _) _).trans (hA.Jd.below FK FK);have hs:∀b,v2.ownBlock=some b→w.heap.size≤b:=fun b hb=>by rcases hA.Atq with e|e <;> rw [e] at hb <;> simp [Value.ownBlock] at hb <;> omega
  refine ⟨v2,F2,rfl,JJ,hA.ow.scal Hj▸?_,fun b hb=>?_,hB⟩
  ·cases v2.ownBlock <;> simp
  ·rw [hA.ow.scal Hj] at hb;exact hs b JV
def D9 (x:Aw):Bool:=Cc x.Ap && Gj 1 x.size 6 && decide ((x.Ao.length:Int)≤x.size) && x.Ao.all R5
theorem Ec {x:Aw}:D9 x=true↔(0≤x.Ap∧x.Ap≤65535)∧(1≤x.size∧x.size≤6)∧(x.Ao.length:Int)≤x.size∧x.Ao.all R5=true:=by
 unfold D9;simp only [Bool.and_eq_true,Bc,Gj,decide_eq_true_eq,and_assoc]
theorem Amv (s:ByteArray) (w:World) (hs:s.size≤maxLen) :
  Calls prog 317 #[.string s] w (RB (.bool (!R5 s)) w):=by
 go_enter func317,ntmps317
 go_wp2_with fail;refine (Acj s _ hs).mono ?_;rintro e w1 ⟨rfl,hb⟩;go_wp2_with fail
 go_ret
 exact ⟨rfl,hb⟩
theorem Ar2 (v:Value) (xs:List ByteArray) (F:List Nat) (w:World) (h:Sl A8 w v xs F) :
  Calls prog 258 #[v] w (RB (.bool (xs.all R5)) w):=by
 have hq:(!xs.any fun s=>!R5 s)=xs.all R5:=by rw [List.not_any_eq_all_not];simp
 replace hq:=Lib.hid hq
 go_enter func258,ntmps258
 go_wp2_with fail;refine (Z5 _ (.mk' func317 rfl rfl) _ _ xs F (fun s=>!R5 s) _ h ?_).mono ?_
 ·rintro k hk wr u G hb ⟨_,rfl,hu⟩;obtain ⟨hu,hsz, -⟩:=hu;cases hu;exact Amv _ _ hsz
 rintro e w1 ⟨rfl,hb⟩;go_wp2_with fail
 go_ret
 exact ⟨Cm hq.out,hb⟩
theorem Tb (v:Value) (x:Aw) (F:List Nat) (w:World) (h:Jy Bv w v x F) :
  Calls prog 187 #[v] w (RB (.bool (D9 x)) w):=by
 obtain ⟨_,rfl,v1,rfl,h1⟩:=h;obtain ⟨a,c,rfl⟩:=h1.slice;have hl:=h1.len;unfold maxLen at hl;have hB0:∀A:Obj,Below w.heap.size w (w.alloc A):=fun A=>(Below.refl _ _).alloc (Nat.le_refl _) _
 go_enter func187,ntmps187
 go_wp2_with fail;refine (Jj _ _).mono ?_;rintro e w' ⟨rfl,rfl⟩;cases g1:Cc x.Ap
 ·go_wp2_with fail
  go_ret
  exact ⟨Cm (by simp [D9,g1]),hB0 _⟩
 go_wp2_with fail;refine (Ik _ _ _ _).mono ?_;rintro e w' ⟨rfl,rfl⟩;cases g2:Gj 1 x.size 6
 ·go_wp2_with fail
  go_ret
  exact ⟨Cm (by simp [D9,g2]),hB0 _⟩
 by_cases g3:(x.Ao.length:Int)≤x.size
 ·go_wp2_with fail;refine (Ar2 _ x.Ao F _ (h1.below FM (hB0 _))).mono ?_;rintro e w1 ⟨rfl,hb⟩;go_wp2_with fail
  go_ret
  exact ⟨Cm (by simp [D9,g1,g2,g3]),tr (hB0 _) hb (Nat.le_refl _)⟩
 ·go_wp2_with fail
  go_ret
  exact EL
theorem Aay (v:Value) (x:Aw) (F:List Nat) (w:World) (h:Jy Bv w v x F) (hm:x.Ao.length≤4294967296) :
  Calls prog 181 #[v] w (Wt Kw x w):=by
 obtain ⟨_,rfl,v1,rfl,h1⟩:=h;obtain ⟨a,c,rfl⟩:=h1.slice;have hB0:∀A B:Obj,Below w.heap.size w ((w.alloc A).alloc B):=fun A B=>((Below.refl _ _).alloc (Nat.le_refl _) _).alloc FK _
 go_enter func181,ntmps181
 go_wp2_with fail;refine (Abw _ x.Ao F _ (h1.below FM (hB0 _ _)) hm).mono ?_;rintro e w1 ⟨v2,F2,rfl,o,n,g,hb⟩;obtain ⟨a2,c2,rfl⟩:=o.slice;have r0:=Ir.below (g:=w.heap.size) (t:=42) (cs:=[.int .i64 x.Ap,.int .i64 x.size,.slice a x.Ao.length c]) HF hb;have r1:=Ir.below (g:=w.heap.size+1) (t:=42) (cs:=[.int .i64 0,.int .i64 0,.slice none 0 0]) HF hb;have hB:=tr (hB0 _ _) hb (Nat.le_refl _);have c0:=r0.cells;have f0:=r0.frozens;have c1:=r1.cells;have f1:=r1.frozens;clear hb;replace o:=Lib.hid o;go_wp2_with fail
 refine bodyPost_ret (v:=.agg #[.int .i64 x.Ap,.int .i64 x.size,.slice a2 x.Ao.length c2]) ?_ rfl ?_
 ·simp [results,results181,go_sem,c0,c1,f1]
 ·refine ⟨_,F2,rfl,⟨_,rfl,_,rfl,?_⟩,n,fun b hb=>by have:=g b hb;simp at this;omega,?_⟩
  ·repeat refine Ow.setFar ?_ (fun hm=>by have:=g _ hm;simp at this <;> omega) _
   exact o.out
  ·repeat refine Below.setCell ?_ GF _
   exact hB
theorem Ap0 (v:Value) (x:Aw) (F:List Nat) (w:World) (h:Jy Bv w v x F) :
  Calls prog 153 #[v] w (RB (.bool (D9 x)) w):=by
 obtain ⟨_,rfl,v1,rfl,h1⟩:=h;obtain ⟨a,c,rfl⟩:=h1.slice;have hl:=h1.len;unfold maxLen at hl;have hB0:∀A:Obj,Below w.heap.size w (w.alloc A):=fun A=>(Below.refl _ _).alloc (Nat.le_refl _) _
 go_enter func153,ntmps153
 go_wp2_with fail;refine (Pq _ _).mono ?_;rintro e w' ⟨rfl,rfl⟩;cases g1:Cc x.Ap
 ·go_wp2_with fail
  go_ret
  exact ⟨Cm (by simp [D9,g1]),hB0 _⟩
 go_wp2_with fail;refine (Ku _ _ _ _).mono ?_;rintro e w' ⟨rfl,rfl⟩;cases g2:Gj 1 x.size 6
 ·go_wp2_with fail
  go_ret
  exact ⟨Cm (by simp [D9,g2]),hB0 _⟩
 by_cases g3:x.size < (x.Ao.length:Int)
 ·go_wp2_with fail
  go_ret
  exact EL
 have hg:D9 x=x.Ao.all R5:=by unfold D9;rw [g1,g2,decide_eq_true FJ];simp
 replace hg:=Lib.hid hg;go_wp2_with fail;have r0:=Ir.made w 42 [.int .i64 x.Ap,.int .i64 x.size,.slice a x.Ao.length c];have h2:=h1.below FM (hB0 (.cells #[.int .i64 x.Ap,.int .i64 x.size,.slice a x.Ao.length c] 42));have hB:=hB0 (.cells #[.int .i64 x.Ap,.int .i64 x.size,.slice a x.Ao.length c] 42);generalize w.alloc (.cells #[.int .i64 x.Ap,.int .i64 x.size,.slice a x.Ao.length c] 42)=w1 at *;have c0:=r0.cells
 go_loop [3] (fun i=>∃k:Nat,k≤x.Ao.length∧i=.int .i64 k∧Hid (∀j,j < k→∀hj:j < x.Ao.length,R5 x.Ao[j]=true)) (fun i=>x.Ao.length - (intOf i).toNat)
 case atStart=>exact ⟨0,Nat.zero_le _,rfl,fun j hj=>by omega⟩
 case round =>
  obtain ⟨k,hk,rfl,hz⟩:=hrel;by_cases hlt:k < x.Ao.length
  ·obtain ⟨hsz,b,off,rfl,hc⟩:=h2.str.2.2 k hlt;cases hi:R5 x.Ao[k]
   ·have hi2:(decide ((x.Ao[k].size:Int)≤8) && Abi x.Ao[k].data.toList)=false:=hi;go_wp2_with fail;refine (So _ _ _ hsz).mono ?_;rintro e w' ⟨rfl,rfl⟩;go_wp2_with fail
    go_ret
    refine ⟨Cm ?_,hB⟩;rw [hg.out];exact (List.all_eq_false.2 ⟨x.Ao[k],List.getElem_mem _,by simp [hi]⟩).symm
   ·have hi2:(decide ((x.Ao[k].size:Int)≤8) && Abi x.Ao[k].data.toList)=true:=hi;go_wp2_with fail;refine (So _ _ _ hsz).mono ?_;rintro e w' ⟨rfl,rfl⟩;go_wp2_with fail;exact ⟨⟨k+1,FJ,HX,fun j hj hl=>by rcases Nat.lt_or_eq_of_le (Nat.le_of_lt_succ hj) with h|h;exact hz.out j h hl;subst h;exact hi⟩,GT⟩
  ·have hk:k=x.Ao.length:=FJ
   go_wp2_with fail
   go_ret
   refine ⟨Cm ?_,hB⟩;rw [hg.out];refine (List.all_eq_true.2 fun s hs=>?_).symm;obtain ⟨j,hj,rfl⟩:=List.getElem_of_mem hs;exact hz.out j FJ hj
theorem Lp {p:Prop} (h:p:=by first|omega|(simp only [List.length_append,List.length_take,List.length_drop,List.length_cons,List.length_nil,List.length_set,List.length_replicate];omega)):p:=h
def EC (m:Nat):Br (List Value) where
 sz:=m
 Ky _ cs x F:=cs=x∧(x.length=m∧∀u∈x,u.oneCell'=true)∧F=[]
 len h:=by obtain ⟨rfl,⟨h,_⟩,_⟩:=h;exact h
 lt h:=by obtain ⟨_,_,rfl⟩:=h;simp
 frame h _:=h
theorem Mn (m:Nat):Ab1 (EC m):=fun h=>h.2.2
theorem Atc (m:Nat):Yf (EC m):=fun h=>by obtain ⟨rfl,⟨_,h⟩,_⟩:=h;exact h
theorem Amz {m:Nat} {w:World}:∀{ys:List (List Value)} {cs:List Value} {F:List Nat},C1 (EC m) w cs ys F→cs=ys.flatten∧F=[]∧∀y∈ys,y.length=m
 | [],_,_,h=>⟨h.1,h.2,FK⟩
 | y::r,_,_,h=>by
  obtain ⟨c1,c2,F1,F2,rfl,rfl,⟨rfl,⟨h1,_⟩,rfl⟩,h2⟩:=h;obtain ⟨rfl,rfl,h4⟩:=Amz h2;refine ⟨FK,rfl,fun z hz=>?_⟩;rcases List.mem_cons.1 hz with rfl|hz
  ·exact h1
  ·exact h4 z hz
theorem Auu {α:Type} {E:Br α} {w w':World} (one:Yf E):∀{xs:List α} {cs:List Value} {G:List Nat},C1 E w cs xs G→∃ys:List (List Value),ys.length=xs.length∧cs=ys.flatten∧(∀y∈ys,y.length=E.sz)∧C1 (EC E.sz) w' cs ys []
 | [],_,_,h=>⟨[],rfl,h.1,FK,h.1,rfl⟩
 | x::r,_,_,h=>by
  obtain ⟨c1,c2,F1,F2,rfl,rfl,h1,h2⟩:=h;obtain ⟨ys,e1,rfl,e2,h3⟩:=Auu (w':=w') one h2;refine ⟨c1::ys,by simp [e1],FK,fun z hz=>?_,c1,ys.flatten,[],[],rfl,rfl,⟨rfl,⟨E.len h1,one h1⟩,rfl⟩,h3⟩;rcases List.mem_cons.1 hz with rfl|hz
  ·exact E.len h1
  ·exact e2 z hz
theorem Apf {m:Nat}:∀{ys:List (List Value)},(∀y∈ys,y.length=m)→ys.flatten.length=ys.length * m
 | [],_=>by simp
 | y::r,h=>by
  have:=Apf (m:=m) (ys:=r) fun z hz=>h z JR;rw [List.flatten_cons,List.length_append,this,h y FK,List.length_cons,Nat.add_mul];omega
theorem C1.cut {α:Type} {E:Br α} {w:World} {c1 c2:List Value} {x1 x2:List α} {G:List Nat} (h:C1 E w (c1++c2) (x1++x2) G) (hl:c1.length=x1.length * E.sz):∃G1 G2,G=G1++G2∧C1 E w c1 x1 G1∧C1 E w c2 x2 G2:=by
 obtain ⟨d1,d2,G1,G2,he,hG,h1,h2⟩:=h.split;have:d1.length=c1.length:=by rw [h1.len,hl]
 obtain ⟨rfl,rfl⟩:=List.append_inj he this.symm;exact ⟨G1,G2,hG,h1,h2⟩
theorem Bcd:∀{N:List Pc},(fp N).Nodup→Tg N
 | [],_=>trivial
 | p::N,h=>⟨fun q hq _ b hb hqb=>Axv h hb (Qz.2 ⟨q,hq,hqb⟩),Bcd (List.nodup_append.1 h).2.1⟩
theorem St.swap {G D w0 H M N R w} (s:St G D w0 H w) (hM:Io H M R) (hm:∀p∈M,p.mu=true) (hN:Om N w) (hnd:(fp M).Nodup→(fp N).Nodup) (hF:∀b∈fp N,b∈fp M):St G D w0 (N++R) w :=
 have s1:St G D w0 (M++R) w:=by simpa using hM.st (X:=[]) HN
 have sM:Tg M:=by
  have:∀(M:List Pc),Tg (M++R)→Tg M:=by
   intro M
   induction M with
   | nil=>intro _;trivial
   | cons p M ih=>intro h;exact ⟨fun q hq=>h.1 q GR,ih h.2⟩
  exact this M s1.sep
 have hn:(fp M).Nodup:=Aph KT (fun p hp=>s1.on p IC) sM
 St.turn (M:=M) (N:=N) s1 (D6.refl _ w) hN (Bcd (hnd hn)) fun p hp b hb=>by
  obtain ⟨q,hq,hqb⟩:=Qz.1 (hF b (Qz.2 ⟨p,hp,hb⟩));exact .inr (.inl ⟨q,hq,hm q hq,hqb⟩)
section
variable {c:Cx} {fr:Fr} {H:List Pc} {Φ:Gl}
theorem Aex {α:Type} {E:Br α} (one:Yf E) {t:TypeId} {v:Value} {xs:List α} {F:List Nat} {S:List Pc} {m:Nat} (hm:E.sz=m)
  (h:∀(ys:List (List Value)) F0 G,ys.length=xs.length→(∀y∈ys,y.length=m)→T c fr (.ow (EC m) t v ys F0::.flat E ys.flatten xs G::S) Φ) (hp:Co H (.ow E t v xs F) S:=by exact De):T c fr H Φ:=.mk fun a w s g=>by
 subst hm;have s1:=s.pick hp;obtain ⟨hnd,ho⟩:=s1.on (.ow E t v xs F) FK;rcases ho with ⟨rfl,rfl,rfl⟩|⟨b,cap,cs,rest,G,rfl,h2,h3,h4,h5,h6,rfl⟩
 ·refine (h [] [] [] rfl FK).h a w (s1.swap (M:=[_]) (N:=[.ow (EC E.sz) t (.slice none 0 0) [] [],.flat E [] [] []]) (.cons .here .nil) IT ?_ (fun _=>by simp [fp,Pc.F]) HB) g;intro p hp;simp only [List.mem_cons,List.not_mem_nil,or_false] at hp;rcases hp with rfl|rfl
  ·exact ⟨FK,.inl ⟨rfl,rfl,rfl⟩⟩
  ·exact ⟨FK,rfl,rfl⟩
 ·obtain ⟨ys,e1,rfl,e2,h7⟩:=Auu (w':=w) one h6;refine (h ys [b] G e1 e2).h a w (s1.swap (M:=[_]) (N:=[.ow (EC E.sz) t (.slice (some ⟨b,0,none⟩) xs.length cap) ys [b],.flat E ys.flatten xs G]) (.cons .here .nil) IT ?_ (fun hn=>by simpa [fp,Pc.F] using hn) HB) g;intro p hp;simp only [List.mem_cons,List.not_mem_nil,or_false] at hp;rcases hp with rfl|rfl
  ·exact ⟨FK,.inr ⟨b,cap,ys.flatten,rest,[],by rw [e1],h2,by rw [e1];exact h3,h4,h5,h7,rfl⟩⟩
  ·exact ⟨(List.nodup_cons.1 hnd).2,h6⟩
theorem Bcp {α:Type} {E:Br α} {t:TypeId} {a:Option Addr} {n cp:Nat} {ys:List (List Value)} {cs:List Value} {xs:List α} {F G:List Nat} {S S2:List Pc} {m:Nat}
  (h:T c fr (.ow E t (.slice a n cp) xs (F++G)::S2) Φ) (hm:E.sz=m) (hc:cs=ys.flatten) (hl:ys.length=xs.length) (hp:Co H (.ow (EC m) t (.slice a n cp) ys F) S:=by exact De) (hp2:Co S (.flat E cs xs G) S2:=by exact De):T c fr H Φ:=.mk fun ac w s g=>by
 subst hm hc;have a1:=s.on _ hp.mem;have a2:=s.on _ (hp.sub _ hp2.mem);obtain ⟨nd1,o1⟩:=a1;obtain ⟨nd2,f2⟩:=a2;refine h.h ac w (s.swap (M:=[.ow (EC E.sz) t (.slice a n cp) ys F,.flat E ys.flatten xs G]) (N:=[.ow E t (.slice a n cp) xs (F++G)]) (.cons hp (.cons hp2 .nil)) (by intro p hp;simp at hp;rcases hp with rfl|rfl <;> rfl) ?_ (fun hn=>by simpa [fp,Pc.F] using hn) HB) g;have hnd:(F++G).Nodup:=by
  have s2:=s.pick hp;refine List.nodup_append.2 ⟨nd1,nd2,fun b hb b' hb' e=>?_⟩;subst e;exact s2.sep.1 (.flat E ys.flatten xs G) hp2.mem rfl b hb hb'
 intro p hp;simp only [List.mem_cons,List.not_mem_nil,or_false] at hp;subst hp;refine ⟨hnd,?_⟩;rcases o1 with ⟨h1,rfl,rfl⟩|⟨b,cap,cs,rest,G',h1,h2,h3,h4,h5,h6,rfl⟩
 ·cases h1;have:xs=[]:=List.eq_nil_of_length_eq_zero hl.symm;subst this;exact .inl ⟨rfl,rfl,by simpa using f2.2⟩
 ·cases h1;obtain ⟨rfl,rfl, -⟩:=Amz h6;exact .inr ⟨b,cp,ys.flatten,rest,G,by rw [hl],h2,by rw [←hl];exact h3,h4,h5,f2,rfl⟩
theorem Bcq {α:Type} {E:Br α} {ys:List (List Value)} {xs:List α} {G:List Nat} {S:List Pc} (i:Nat) (hi:i < xs.length) (hl:ys.length=xs.length) (hm:∀y∈ys,y.length=E.sz)
  (h:∀G1 Gi G2,T c fr (.flat E (ys.take i).flatten (xs.take i) G1::.own E (.agg (ys[i]'FJ).toArray) xs[i] Gi::.flat E (ys.drop (i+1)).flatten (xs.drop (i+1)) G2::S) Φ) (hp:Co H (.flat E ys.flatten xs G) S:=by exact De):T c fr H Φ:=.mk fun ac w s g=>by
 have s1:=s.pick hp;obtain ⟨hnd,hf⟩:=s1.on (.flat E ys.flatten xs G) FK;have e1:ys.flatten=(ys.take i).flatten++(ys[i]'FJ++(ys.drop (i+1)).flatten):=by
  rw [←List.flatten_cons,←List.drop_eq_getElem_cons,←List.flatten_append,List.take_append_drop]
 have e2:xs=xs.take i++([xs[i]]++xs.drop (i+1)):=FK
 have hf2:C1 E w ((ys.take i).flatten++(ys[i]'FJ++(ys.drop (i+1)).flatten)) (xs.take i++([xs[i]]++xs.drop (i+1))) G:=by rw [←e1,←e2];exact hf
 obtain ⟨G1,G',rfl,f1,f2⟩:=hf2.cut (by rw [Apf (m:=E.sz) fun y hy=>hm y (List.mem_of_mem_take hy)];simp [hl]);obtain ⟨Gi,G2,rfl,⟨d1,d2,F1,F2,h1,h2,h3,h4⟩,f3⟩:=f2.cut (by rw [hm _ (List.getElem_mem _)];simp);obtain ⟨rfl,rfl⟩:=h4;simp only [List.append_nil] at h1 h2;subst h1 h2;refine (h G1 Gi G2).h ac w (s1.swap (M:=[_]) (N:=[.flat E (ys.take i).flatten (xs.take i) G1,.own E (.agg (ys[i]'FJ).toArray) xs[i] Gi,.flat E (ys.drop (i+1)).flatten (xs.drop (i+1)) G2]) (.cons .here .nil) IT ?_ (fun hn=>by simpa [fp,Pc.F] using hn) HB) g
 have hn1:=List.nodup_append.1 hnd;have hn2:=List.nodup_append.1 hn1.2.1;intro p hp;simp only [List.mem_cons,List.not_mem_nil,or_false] at hp;rcases hp with rfl|rfl|rfl
 ·exact ⟨hn1.1,f1⟩
 ·exact ⟨hn2.1,_,rfl,h3⟩
 ·exact ⟨hn2.2.1,f3⟩
theorem Avi {α:Type} {E:Br α} {c1 c2:List Value} {x1 x2:List α} {G1 G2:List Nat} {S S2:List Pc} (h:T c fr (.flat E (c1++c2) (x1++x2) (G1++G2)::S2) Φ) (hp:Co H (.flat E c1 x1 G1) S:=by exact De) (hp2:Co S (.flat E c2 x2 G2) S2:=by exact De):T c fr H Φ:=.mk fun ac w s g=>by
 obtain ⟨nd1,f1⟩:=s.on _ hp.mem;obtain ⟨nd2,f2⟩:=s.on _ (hp.sub _ hp2.mem);refine h.h ac w (s.swap (M:=[.flat E c1 x1 G1,.flat E c2 x2 G2]) (N:=[.flat E (c1++c2) (x1++x2) (G1++G2)]) (.cons hp (.cons hp2 .nil)) (by intro p hp;simp at hp;rcases hp with rfl|rfl <;> rfl) ?_ (fun hn=>by simpa [fp,Pc.F] using hn) HB) g;intro p hq;simp only [List.mem_cons,List.not_mem_nil,or_false] at hq;subst hq;refine ⟨List.nodup_append.2 ⟨nd1,nd2,fun b hb b' hb' e=>?_⟩,f1.append f2⟩;subst e;exact (s.pick hp).sep.1 (.flat E c2 x2 G2) hp2.mem rfl b hb hb'
def Bgb {α:Type} (E:Br α) (t:TypeId) (g:Nat) (v:Value) (xs:List α) (i:Nat) (A B c1 c2:List Value):Prop :=
 ∀w cs y G1 Gi G2,Ir w g t (A++cs++B)→C1 E w c1 (xs.take i) G1→E.Ky w cs y Gi→C1 E w c2 (xs.drop (i+1)) G2→Ow E t w v (xs.set i y) (g::(G1++Gi++G2))
theorem W5 {α:Type} {E:Br α} {t:TypeId} {a:Option Addr} {n cp m:Nat} {xs:List α} {F:List Nat} {S:List Pc} (i:Nat)
  (h:∀(_:i < xs.length) g A cs B c1 c2 G1 Gi G2,a=some ⟨g,0,none⟩→n=xs.length→n≤cp→Bgb E t g (.slice (some ⟨g,0,none⟩) n cp) xs i A B c1 c2→T c fr (.row g t (0+i * m) A cs B::.own E (.agg cs.toArray) xs[i] Gi::.flat E c1 (xs.take i) G1::.flat E c2 (xs.drop (i+1)) G2::S) Φ)
  (hm:E.sz=m) (hi:i < xs.length) (hp:Co H (.ow E t (.slice a n cp) xs F) S:=by exact De):T c fr H Φ:=.mk fun ac w s ag=>by
 subst hm;have s1:=s.pick hp;obtain ⟨hnd,ho⟩:=s1.on (.ow E t (.slice a n cp) xs F) FK;rcases ho with ⟨-,rfl, -⟩|⟨g,cap,cs0,rest,G,h1,h2,h3,h4,h5,h6,rfl⟩
 ·simp at hi
 cases h1;obtain ⟨A,cs,B,G1,Gi,G2,rfl,rfl,hA,hc,f1,f2,f3⟩:=h6.focus i hi
 refine (h hi g A cs (B++rest) A B G1 Gi G2 rfl rfl h3 ?_).h ac w (s1.swap (M:=[_]) (N:=[.row g t (0+i * E.sz) A cs (B++rest),.own E (.agg cs.toArray) xs[i] Gi,.flat E A (xs.take i) G1,.flat E B (xs.drop (i+1)) G2]) (.cons .here .nil) IT ?_ (fun hn=>?_) (fun b hb=>?_)) ag
 ·intro w' cs' y G1' Gi' G2' hr k1 k2 k3;have:=C1.build hi k1 k2 k3;have hl:=this.len;exact .inr ⟨g,cp,A++cs'++B,rest,G1'++Gi'++G2',FK,HH,IU,h4,by
   have e1:=E.len k2;simp only [List.length_append] at h5 ⊢;omega,this,rfl⟩
 ·have hn1:=List.nodup_append.1 (List.nodup_cons.1 hnd).2;have hn2:=List.nodup_append.1 hn1.1;intro p hp;simp only [List.mem_cons,List.not_mem_nil,or_false] at hp;rcases hp with rfl|rfl|rfl|rfl
  ·exact ⟨FJ,IH⟩
  ·exact ⟨hn2.2.1,_,rfl,f2⟩
  ·exact ⟨hn2.1,f1⟩
  ·exact ⟨hn1.2.1,f3⟩
 ·have:(g::(G1++Gi++G2)).Perm ([g]++(Gi++(G1++(G2++[])))):=by
   exact CX
  exact this.nodup_iff.1 (by simpa [fp,Pc.F] using hn)
 ·simp only [fp,Pc.F,List.append_nil,List.mem_append,List.mem_cons,List.not_mem_nil,or_false] at hb ⊢
  grind
theorem Ta {α:Type} {E:Br α} {t:TypeId} {g o i:Nat} {u v:Value} {xs:List α} {A cs B c1 c2:List Value} {x1 x2:List α} {G1 Gi G2:List Nat} {S1 S2 S3 S4:List Pc} (y:α) (hh:Bgb E t g u xs i A B c1 c2) (hv:v=.agg cs.toArray) (h:∀F',T c fr (.ow E t u (xs.set i y) F'::S4) Φ) (e1:x1=xs.take i:=by rfl) (e2:x2=xs.drop (i+1):=by rfl)
  (hp1:Co H (.row g t o A cs B) S1:=by exact De) (hp2:Co S1 (.own E v y Gi) S2:=by exact De) (hp3:Co S2 (.flat E c1 x1 G1) S3:=by exact De) (hp4:Co S3 (.flat E c2 x2 G2) S4:=by exact De):T c fr H Φ:=.mk fun ac w s ag=>by
 subst hv e1 e2;have hP:Io H [.row g t o A cs B,.own E (.agg cs.toArray) y Gi,.flat E c1 (xs.take i) G1,.flat E c2 (xs.drop (i+1)) G2] S4:=.cons hp1 (.cons hp2 (.cons hp3 (.cons hp4 .nil)));have s1:St c.G c.D c.w0 ([.row g t o A cs B,.own E (.agg cs.toArray) y Gi,.flat E c1 (xs.take i) G1,.flat E c2 (xs.drop (i+1)) G2]++S4) w:=by simpa using hP.st (X:=[]) HN
 obtain ⟨-,r⟩:=s1.on (.row g t o A cs B) FK;obtain ⟨-,cs',e,hr⟩:=s1.on (.own E (.agg cs.toArray) y Gi) FK;obtain rfl:cs=cs':=JB
 have f1:=(s1.on (.flat E c1 (xs.take i) G1) FK).2;have f3:=(s1.on (.flat E c2 (xs.drop (i+1)) G2) FK).2;have hO:=hh w cs y G1 Gi G2 r f1 hr f3;have hpm:(g::(G1++Gi++G2)).Perm ([g]++(Gi++(G1++(G2++[])))):=by
  exact CX
 have hmM:∀p∈[Pc.row g t o A cs B,.own E (.agg cs.toArray) y Gi,.flat E c1 (xs.take i) G1,.flat E c2 (xs.drop (i+1)) G2],p.mu=true:=by intro p hp;simp only [List.mem_cons,List.not_mem_nil,or_false] at hp;rcases hp with rfl|rfl|rfl|rfl <;> rfl
 have hndM:(fp [Pc.row g t o A cs B,.own E (.agg cs.toArray) y Gi,.flat E c1 (xs.take i) G1,.flat E c2 (xs.drop (i+1)) G2]).Nodup:=Aph (by simpa using hmM) (fun p hp=>s1.on p (List.mem_append_left _ hp)) (by
  have sp:=s1.sep;exact ⟨fun q hq=>sp.1 q (List.mem_append_left _ hq),fun q hq=>sp.2.1 q (List.mem_append_left _ hq),fun q hq=>sp.2.2.1 q (List.mem_append_left _ hq),fun q hq=>sp.2.2.2.1 q (List.mem_append_left _ hq),trivial⟩)
 have hnd:(g::(G1++Gi++G2)).Nodup:=hpm.nodup_iff.2 (by simpa [fp,Pc.F] using hndM);refine (h (g::(G1++Gi++G2))).h ac w (s.swap hP hmM (N:=[.ow E t u (xs.set i y) (g::(G1++Gi++G2))]) (by intro p hp;rw [List.mem_singleton] at hp;subst hp;exact ⟨hnd,hO⟩) (fun _=>by simpa [fp,Pc.F] using hnd) (fun b hb=>?_)) ag;simp only [fp,Pc.F,List.append_nil,List.mem_append,List.mem_cons,List.not_mem_nil,or_false] at hb ⊢
 grind
theorem Ads {α:Type} {E:Br α} {t e m b:Nat} {z:Value} [hS:SlC c.P t e m] [hE:ElT c.P e z m b] {xs:List α} {F Fy:List Nat} {g tt:Nat} {cs:List Value} {u:Value} {R R2 S:List Pc} {d:Nat} {ty:TypeId} {v:Value} {x y:Operand} (one:Yf E) (ey:α) (hu:u=.agg cs.toArray)
  (h:∀a' c' F',T c ((d,.slice a' (xs++[ey]).length c')::fr) (.ow E e (.slice a' (xs++[ey]).length c') (xs++[ey]) F'::S) Φ)
  (hx:ev fr x=some v:=by rfl) (hy:ev fr y=some (.slice (some ⟨g,0,none⟩) 1 1):=by rfl) (hp:Co H (.ow E e v xs F) R:=by exact De) (hp2:Co R (.row g tt 0 [] cs []) R2:=by exact De) (hp3:Co R2 (.own E u ey Fy) S:=by exact De) (hz:0 < E.sz:=by decide) (hm:E.sz=m:=by rfl)
  (h63:xs.length+1≤9223372036854775807:=by omega) (hby:(xs.length+1) * b≤140737488355328:=by omega) (hd:Nat.blt d c.n=true:=by rfl) :
  On c fr H (some d) (.call { callee:=.builtin .append,args:=#[x,y],argTypes:=#[t,t] }) ty Φ:=⟨fun _ _ _=>by
 subst hu;refine ap (ys:=[ey]) (Fy:=Fy) (S:=S) one hz hm hp hx hy rfl (fun w s=>?_) (fun w v' F' s hF w' hk hv=>?_) (by unfold maxLen;exact h63) hby h hd
 ·have hro:=s.on (.row g tt 0 [] cs []) (by simp [hp2.mem]);have how:=s.on (.own E (.agg cs.toArray) ey Fy) (by simp [hp2.sub _ hp3.mem]);obtain ⟨hnd,cs',e1,hrep⟩:=how;obtain rfl:cs=cs':=by simpa using e1
  refine ⟨cs,C1.one hrep,.inr ⟨_,rfl,fun j u hu=>?_⟩,fun b hb hbF=>?_,hnd⟩
  ·have hr:=hro.2;have:=hr.cell j;simp only [List.nil_append,List.append_nil] at this;rw [hu] at this;unfold Addr.add
   split
   ·rename_i e;subst e;exact this
   ·exact EN
  ·exact s.sep.1 (.own E (.agg cs.toArray) ey Fy) (hp2.sub _ hp3.mem) rfl b hbF hb
 ·have hP:Io (.ow E e v xs F::R) [.ow E e v xs F,.own E (.agg cs.toArray) ey Fy,.row g tt 0 [] cs []] S:=.cons .here (by
   have:∀{R R2 S:List Pc} {p q:Pc},Co R p R2→Co R2 q S→Io R [q,p] S:=by
    intro R R2 S p q h1
    induction h1 generalizing S with
    | here=>intro h2;exact .cons (.there h2) (.cons .here .nil)
    | @there x p R R' h ih =>
     intro h2;cases h2 with
     | here=>exact .cons .here (.cons h .nil)
     | there h3 =>
      cases ih h3 with
      | cons a1 a2 =>
       cases a2 with
       | cons b1 b2=>cases b2;exact .cons (.there a1) (.cons (.there b1) .nil)
   exact this hp2 hp3)
  have s1:St c.G c.D c.w0 ([.ow E e v xs F,.own E (.agg cs.toArray) ey Fy]++S) w:=by
   have s0:St c.G c.D c.w0 ([.ow E e v xs F,.own E (.agg cs.toArray) ey Fy,.row g tt 0 [] cs []]++S) w:=by simpa using hP.st (X:=[]) HN
   have sp:=s0.sep;have hm3:∀q,q∈[Pc.ow E e v xs F,.own E (.agg cs.toArray) ey Fy]++S→q∈[Pc.ow E e v xs F,.own E (.agg cs.toArray) ey Fy,.row g tt 0 [] cs []]++S:=fun q hq=>by
    simp only [List.cons_append,List.nil_append,List.mem_cons] at hq ⊢;rcases hq with h|h|h
    ·exact .inl h
    ·exact .inr (.inl h)
    ·exact .inr (.inr (.inr h))
   exact ⟨s0.Jd,fun q hq=>s0.on q (hm3 q hq),⟨fun q hq=>sp.1 q (by
    rcases List.mem_cons.1 hq with h|h
    ·simp [h]
    ·exact List.mem_cons_of_mem _ (List.mem_cons_of_mem _ h)),fun q hq=>sp.2.1 q (List.mem_cons_of_mem _ hq),sp.2.2.2⟩,fun q hq=>s0.Aeh q (hm3 q hq)⟩
  refine St.turn (M:=[.ow E e v xs F,.own E (.agg cs.toArray) ey Fy]) (N:=[.ow E e v' (xs++[ey]) F']) s1 (hk.mono (fun b hb _=>by simp [List.filter,Pc.mu,fp,Pc.F,hb])) JT ⟨FK,trivial⟩ ?_;intro q hq b hb;simp only [List.mem_cons,List.not_mem_nil,or_false] at hq;subst hq;rcases hF b hb with h|h|h
  ·exact .inr (.inl ⟨.ow E e v xs F,FK,rfl,h⟩)
  ·exact .inr (.inl ⟨.own E (.agg cs.toArray) ey Fy,FK,rfl,h⟩)
  ·exact .inl FJ⟩
theorem Bct {α:Type} {E:Br α} {a:Option Addr} {n cp:Nat} {xs:List α} {F:List Nat} (k:Nat) (hk:k≤xs.length) (h:∀F',n≤cp→cp≤9223372036854775807→T c fr (.sl E (.slice a k cp) (xs.take k) F'::H) Φ) (hm:.sl E (.slice a n cp) xs F∈H:=by exact A9):T c fr H Φ:=.mk fun ac w s g=>by
 obtain ⟨hz,hs⟩:=s.get hm;obtain ⟨rfl,hnc,hmx⟩:=hs.caps;obtain ⟨F',hF,h2⟩:=hs.takeS k hk;exact (h F' hnc (by unfold maxLen at hmx;omega)).h ac w (s.ro hm rfl rfl ⟨hz,h2⟩ hF) g
/-! the same for slices that read -/
def EA {α:Type} (E:Br α) (n:Nat):Br (List α) where
 sz:=n * E.sz
 Ky w cs xs F:=xs.length=n∧C1 E w cs xs F
 len h:=by obtain ⟨rfl,h⟩:=h;exact h.len
 lt h:=h.2.lt
 frame h hF:=⟨h.1,h.2.frame hF⟩
theorem Agt {α:Type} {E:Br α} {a:Option Addr} {n cp m k:Nat} {ys:List (List Value)} {v:Value} {xs:List α} {F G:List Nat} (hm:E.sz=m) (hl:ys.length=xs.length) (hv:v=.agg ys.flatten.toArray)
  (h:∀F',T c fr (.sl E (.slice a n cp) xs F'::H) Φ) (hp:.sl (EC m) (.slice a n cp) ys F∈H:=by exact A9) (hp2:.isv (EA E k) v xs G∈H:=by exact A9):T c fr H Φ:=.mk fun ac w s g=>by
 subst hm hv;obtain ⟨hz,a',cap,hv,hlc,hh⟩:=s.get hp;cases hv;obtain ⟨cs,e, -,hf⟩:=s.get hp2;obtain rfl:ys.flatten=cs:=JB
 rcases hh with ⟨rfl,rfl,h0⟩|⟨b,off,F',rfl,hne,rfl,hc⟩
 ·have:xs=[]:=List.eq_nil_of_length_eq_zero hl.symm;subst this;refine (h []).h ac w (s.add (N:=[.sl E (.slice a 0 cp) [] []]) (Below.refl _ _) (by intro p hp;simp only [List.mem_cons,List.not_mem_nil,or_false] at hp;subst hp;exact ⟨hz,a,cp,rfl,hlc,.inl ⟨rfl,rfl,h0⟩⟩) ⟨FK,trivial⟩ (by intro p hp b hb;simp only [List.mem_cons,List.not_mem_nil,or_false] at hp;subst hp;simp [Pc.F] at hb)) g
 ·have hxs:xs≠[]:=by rintro rfl;exact hne (List.eq_nil_of_length_eq_zero hl)
  have key:∀(ys:List (List Value)) (off:Nat) (G:List Nat),Pn (EC E.sz) w b off ys G→∀j u,ys.flatten[j]?=some u→w.cell? ⟨b,off+j,none⟩=some u:=by
   intro ys
   induction ys with
   | nil=>intro off G _ j u hu;simp at hu
   | cons y r ih =>
    intro off G h j u hu;obtain ⟨c1,F1,F2,rfl,⟨rfl,⟨hy, -⟩, -⟩,h2,h3⟩:=h;rw [List.flatten_cons] at hu;by_cases hj:j < c1.length
    ·rw [List.getElem?_append_left hj] at hu;rw [h2 j (by show j < E.sz;omega)];exact hu
    ·rw [List.getElem?_append_right FJ] at hu;have:=ih _ _ h3 _ _ hu
     rwa [show off+(EC E.sz).sz+(j - c1.length)=off+j by show off+E.sz+(j - c1.length)=off+j;omega] at this
  refine (h (b::G)).h ac w (s.add (N:=[.sl E (.slice (some ⟨b,off,none⟩) ys.length cp) xs (b::G)]) (Below.refl _ _) (by
   intro p hp;simp only [List.mem_cons,List.not_mem_nil,or_false] at hp;subst hp;exact ⟨hz,_,cp,by rw [hl],by rw [←hl];exact hlc,.inr ⟨b,off,G,rfl,hxs,rfl,hf.cells (fun j u hu=>key ys off F' hc j u hu)⟩⟩) ⟨FK,trivial⟩ (by
   intro p hq z hb;simp only [List.mem_cons,List.not_mem_nil,or_false] at hq;subst hq;simp only [Pc.F,List.mem_cons] at hb;rcases hb with rfl|hb
   ·exact .inr ⟨rfl,_,hp,rfl,KU⟩
   ·exact .inr ⟨rfl,_,hp2,rfl,hb⟩)) g
theorem Ada {α:Type} {O R:Br α} (hW:Ng O R) {v:Value} {x:α} {F:List Nat} {S:List Pc} (h:∀F',T c fr (.isv R v x F'::S) Φ) (hp:Co H (.own O v x F) S:=by exact De):T c fr H Φ:=.mk fun a w s g=>by
 exact DW
end
theorem Q8 {p:Pc} {N:List Pc} {w:World} (h:p.P w) (hN:Om N w):Om (p::N) w:=fun q hq=>by
 rcases List.mem_cons.1 hq with rfl|hq
 ·exact h
 ·exact hN q hq
theorem Aux {w:World}:Om [] w:=fun q hq=>by cases hq
theorem Q9 {p:Pc} {N:List Pc} {w:World} (h:Om (p::N) w):p.P w:=h p FK
theorem Ie {p:Pc} {N:List Pc} {w:World} (h:Om (p::N) w):Om N w:=fun q hq=>h q GR
theorem Mk {A B:List Nat} (h:(A++B).Nodup):A.Nodup:=(List.nodup_append.1 h).1
theorem Acq {A B:List Nat} (h:(A++B).Nodup):B.Nodup:=(List.nodup_append.1 h).2.1
theorem St.mer {G D w0 H M N R w} (s:St G D w0 H w) (hM:Io H M R) (hN:Om M w→(fp M).Nodup→Om N w∧(fp N).Nodup) (hF:∀b∈fp N,b∈fp M) (hm:∀p∈M,p.mu=true:=by simp [Pc.mu]):St G D w0 (N++R) w :=
 have s1:St G D w0 (M++R) w:=by simpa using hM.st (X:=[]) HN
 have sM:Tg M:=by
  have:∀(M:List Pc),Tg (M++R)→Tg M:=by
   intro M
   induction M with
   | nil=>intro _;trivial
   | cons p M ih=>intro h;exact ⟨fun q hq=>h.1 q GR,ih h.2⟩
  exact this M s1.sep
 have hh:Om M w:=fun p hp=>s1.on p IC;have hn:=hN hh (Aph KT hh sM)
 s.swap hM hm hn.1 (fun _=>hn.2) hF
end Go.Proofs.YtkblpelckhegbaaGreatDoor
