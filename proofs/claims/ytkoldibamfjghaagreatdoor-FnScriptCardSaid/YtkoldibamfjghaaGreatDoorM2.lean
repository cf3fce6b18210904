/- Part 2 of the proof: 61 texts, one behind the other. -/
import Derived.Lib.Overlaps
import Derived.Lib.AppendZerosOnto
import Derived.Laws.IdiomCopy
import Derived.Test.YtkoldibamfjghaaGreatDoorShelf
import Derived.Lib.Strings
import Derived.Lib.LaidTab
import Derived.Lib.ItoaMem
import Derived.WideLaws
import Derived.Test.YtkoldibamfjghaaGreatDoorProg
import Derived.Test.YtkoldibamfjghaaGreatDoorM1
open _root_.Go.Proofs.Tryz
set_option maxRecDepth 100000
set_option maxHeartbeats 8000000
set_option linter.all false
set_option linter.unusedVariables false
set_option linter.unusedSimpArgs false
namespace Go.Proofs.YtkoldibamfjghaaGreatDoor
theorem AA{p:Prop}(h:p:=by refine go ?_;refine ret () trivial rfl):p:=h
theorem AE{p:Prop}(h:p:=by refine h.h a w (s.add (N:=[_]) (Below.refl _ _) (by intro q hq;simp at hq;subst hq;exact ⟨_,rfl,_,rfl,(s.get m1).2⟩) ⟨by simp,trivial⟩ fun q hq b hb=>?_) g;simp at hq;subst hq;simp only [Pc.F,aK] at hb;exact .inr ⟨rfl,_,m1,rfl,hb⟩):p:=h
theorem AF{p:Prop}(h:p:=by refine dk ?_;refine dN 5 ?_;refine Ni Iu Ia fun a2 c2 F2=>?_;refine dk ?_;refine dt 6 ?_;refine dN 8 ?_;refine oS ?_;refine Nm ?_;refine dd ?_;refine Bk (⟨_,a2,c2,F2⟩:CpS) trivial):p:=h
theorem AI{p:Prop}(h:p:=by obtain ⟨cs,rfl,v1,rfl,h1⟩:=s.get hm;obtain ⟨a1,c1,rfl⟩:=h1.slice;have l1:=h1.len;have t1:=s.ro (p:=.sl _ _ _ _) hm rfl rfl ⟨by decide,h1⟩ fun b hb=>hb;exact (h a1 c1 F rfl  l1).h a w t1 g):p:=h
theorem AV{p:Prop}(h:p:=by exact ⟨⟨k+1,by omega,by go_num,fun j hj hl=>by rcases bc (cL hj) with h|h;exact hz0.out j h hl;subst h;exact hpk.out,hB⟩,by simp [intOf];omega⟩):p:=h
theorem AX{p:Prop}(h:p:=by obtain ⟨b,o,cs,G,ha,hrep,hG,hb,hne,hr⟩:=Xq (s.get hm) i hi;obtain ⟨v1,rfl,h1⟩:=hrep;obtain ⟨a1,c1,rfl⟩:=h1.slice;have l1:=h1.len;have t1:=s.ro (p:=.sl _ _ _ _) hm rfl rfl ⟨by decide,h1⟩ (by intro b hb;simp only [Pc.F] at hb ⊢;exact hG b (by simp [hb]));exact (h hi b o a1 c1 G ha  l1).h ac w (t1.ro (aQ _ hm) rfl rfl ⟨hne,hr⟩ (by intro x hx;simp [Pc.F] at hx;subst hx;exact hb)) g):p:=h
theorem AY{p:Prop}(h:p:=by refine Ni Iu Ia fun a2 c2 F2=>?_;refine dk ?_;refine dt 6 ?_;refine dN 7 ?_;apply Cm;rfl;intro _;refine dk ?_;refine dN 8 ?_;refine oS ?_;refine Nm ?_;refine dd ?_;refine Bk (⟨_,a2,c2,F2⟩:CpS) trivial):p:=h
theorem BC{p:Prop}(h:p:=by refine ret () trivial rfl):p:=h
theorem BE{p:Prop}(h:p:=by have hps:=Z8 (x:=x) (k:=k) hs (s:=⟨true,Dn⟩) hi;refine Av (xs:=L0 x k ⟨true,Dn⟩) fun F4=>?_;refine Cb ⟨x.next,L0 x k ⟨true,Dn⟩⟩ ?_;refine go ?_;refine Bf (Vi ⟨x.next,L0 x k ⟨true,Dn⟩⟩ _ _ h0 h1 (by show (L0 x k ⟨true,Dn⟩).length<=_;omega) hps) fun z hz=>?_;refine go ?_;refine ret z ⟨by rw [hz.1,hW],by rw [hz.2,hE]⟩ rfl):p:=h
theorem BO{p:Prop}(h:p:=by exact ⟨⟨q+1,m+1,F2,by omega,by omega,by rw [Da hlt (by simp [hpq.out]),hys.out];have:=hlen.out;omega,by rw [Da hlt (by simp [hpq.out]),hys.out],by go_num,by rw [Da hlt (by simp [hpq.out]),hys.out];exact hg2.out.below hbb,fun b hb=>hF1 b (hF2 b hb),hK.trans (Ei.ofBelow hbb)⟩,by simp [intOf];omega⟩):p:=h
theorem BT{p:Prop}(h:p:=by refine go ?_;refine ret () trivial ?_;rw [M2 (fun j hj=>hk2 j hj hj)];rfl):p:=h
theorem CD{p:Prop}(h:p:=by refine Ca ⟨s.es++[Gg s.y.Ap],Yw s.y,a5,c5,F5,a',c',F'⟩ ⟨(I7 _ _).1,(I7 _ _).2,fun z hz=>hit z (bu hz),by simp [Yw];omega,by simp [Yw];omega,by rw [hw,hst];rfl,by rw [he,hst];simp [N5,Yw]⟩ (by show Ev (Cc s.y.next 1) n < _;omega)):p:=h
theorem CE{p:Prop}(h:p:=by exact ⟨ab none 0 0,[],rfl,.inl ⟨rfl,rfl,rfl⟩,by simp,by simp,Below.refl _ _⟩):p:=h
theorem CO{p:Prop}(h:p:=by obtain ⟨b,o,cs,G,ha,hrep,hG,hb,hne,hr⟩:=Xq (s.get hm) i hi;obtain ⟨rfl,s1,rfl⟩:=hrep;exact (h hi b o  ha s1 ).h ac w (s.ro hm rfl rfl ⟨hne,hr⟩ (by intro x hx;simp [Pc.F] at hx;subst hx;exact hb)) g):p:=h
theorem CY{p:Prop}(h:p:=by rw [e];refine Ca ⟨s.j+1,a',c',F'⟩ (by show s.j+1<=_;omega) (by show _ - (s.j+1) < _;omega)):p:=h
theorem CZ{p:Prop}(h:p:=by apply Cm;rfl;intro _;refine dk ?_;refine dN 2 ?_;apply Kg;rfl;intro _;refine Cy Cw ?_;exact AF):p:=h
theorem DC{p:Prop}(h:p:=by refine ⟨_,F2,rfl,by rw [hys.out];exact hO.out,hn2,fun b hb=>hF1 b (hF2 b hb),hK.trans ?_⟩;rw [<-Ml wr];exact (Lt _ _ _).mono (fun b hb _=>by simp at hb;subst hb;exact hgF)):p:=h
theorem DG{p:Prop}(h:p:=by exact ⟨Lo (M2 (fun j hj=>hz.out j (by omega) hj)).symm,hB⟩):p:=h
theorem DL{p:Prop}(h:p:=by intro q hq b hb;simp at hq;subst hq;exact .inr (.inl ⟨_,aM.2 rfl,rfl,hb⟩)):p:=h
theorem EI{p:Prop}(h:p:=by refine go ?_;refine ret ⟨s.es++z.es,z.y,z.a,z.c,z.F,a',c',F2⟩ ⟨by rw [hz.1,hw];rfl,by rw [hz.2,he,hw];simp [N5,Iy]⟩ rfl):p:=h
theorem EN{p:Prop}(h:p:=by exact ⟨Lo (Oh hlt hz0.out hpk.out).symm,hB⟩):p:=h
theorem FK{p:Prop}(h:p:=by obtain ⟨v1,v2,F1,F2,rfl,h1,h2,rfl⟩:=h;exact ⟨v1,v2,F1,F2,rfl,h1.frame fun b hb=>hF b (by simp [hb]),h2.frame fun b hb=>hF b (by simp [hb]),rfl⟩):p:=h
theorem FP{p:Prop}(h:p:=by obtain ⟨v1,v2,v3,v4,v5,v6,v7,F1,F2,F3,F4,F5,F6,F7,rfl,h1,h2,h3,h4,h5,h6,h7,rfl⟩:=h;exact ⟨v1,v2,v3,v4,v5,v6,v7,F1,F2,F3,F4,F5,F6,F7,rfl,h1.frame fun b hb=>hF b (by simp [hb]),h2.frame fun b hb=>hF b (by simp [hb]),h3.frame fun b hb=>hF b (by simp [hb]),h4.frame fun b hb=>hF b (by simp [hb]),h5.frame fun b hb=>hF b (by simp [hb]),h6.frame fun b hb=>hF b (by simp [hb]),h7.frame fun b hb=>hF b (by simp [hb]),rfl⟩):p:=h
theorem FY{p:Prop}(h:p:=by obtain ⟨v1,rfl,h1⟩:=h;exact ⟨v1,rfl,h1.frame hF⟩):p:=h
theorem GA{p:Prop}(h:p:=by simpa [Pc.mu] using hA):p:=h
theorem GE{p:Prop}(h:p:=by rw [aP];omega):p:=h
theorem GM{p:Prop}(h:p:=by simp [Je] <;> omega):p:=h
theorem GQ{p:Prop}(h:p:=by simp <;> omega):p:=h
theorem GT{p:Prop}(h:p:=by obtain ⟨v1,rfl,h1⟩:=h;exact h1.lt (by decide)):p:=h
theorem GU{p:Prop}(h:p:=by obtain ⟨v1,rfl,h1⟩:=h;rfl):p:=h
theorem GV{p:Prop}(h:p:=by unfold maxLen at hl;simp;omega):p:=h
theorem HG{p:Prop}(h:p:=by rw [Da hk0 (by simp [hpk]),hfl];simp;omega):p:=h
theorem HM{p:Prop}(h:p:=by obtain ⟨v1,v2,F1,F2,rfl,h1,h2,rfl⟩:=h;rfl):p:=h
theorem HS{p:Prop}(h:p:=by simp [Yw];omega):p:=h
theorem HU{p:Prop}(h:p:=by dsimp only;omega):p:=h
theorem IL{p:Prop}(h:p:=by rw [h7] at hF;simpa [Value.ownBlock] using hF):p:=h
theorem IM{p:Prop}(h:p:=by simpa using hA.ow):p:=h
theorem IU{p:Prop}(h:p:=by simp [hpq.out]):p:=h
theorem IY{p:Prop}(h:p:=by simpa using hb):p:=h
theorem JF{p:Prop}(h:p:=by obtain ⟨v1,v2,v3,v4,v5,v6,v7,F1,F2,F3,F4,F5,F6,F7,rfl,h1,h2,h3,h4,h5,h6,h7,rfl⟩:=h;rfl):p:=h
theorem JI{p:Prop}(h:p:=by show Dn.size<=maxLen;unfold maxLen;omega):p:=h
theorem JW{p:Prop}(h:p:=by rw [aX];omega):p:=h
theorem JX{p:Prop}(h:p:=by unfold Iv;rw [show gp x.next (Cc x.next k)=k by unfold gp Cc;omega,ba,h]):p:=h
theorem JZ{p:Prop}(h:p:=by simpa using e):p:=h
theorem KG{p:Prop}(h:p:=by simp only [D8,ay (show ¬(x.Ak.length:Int)<=x.size by omega),ci,cX]):p:=h
theorem KH{p:Prop}(h:p:=by (repeat (refine Ei.setCell ?_ hgF _));exact hK.trans (Ei.ofBelow hbb)):p:=h
theorem KK{p:Prop}(h:p:=by simp [hpk]):p:=h
theorem KL{p:Prop}(h:p:=by rw [Gz hlt (by simp [hpq.out]),hys.out];have:=hlen.out;simp;omega):p:=h
theorem KN{p:Prop}(h:p:=by show n - (j+1) < n - j;omega):p:=h
theorem KP{p:Prop}(h:p:=by obtain ⟨v1,rfl,h1⟩:=h;exact h1.lt):p:=h
theorem KR{p:Prop}(h:p:=by simp only [Mc,eU,bg];exact Agr):p:=h
end Go.Proofs.YtkoldibamfjghaaGreatDoor
namespace Go.Proofs.YtkoldibamfjghaaGreatDoor
open Go.RowKit
abbrev FV (f:FuncId) (a:am) (A:List Pc) (v:Value):Prop:=Fn prog f a A [] (fun (_:Unit)=>True) (fun _=>v) (fun _=>[])
end Go.Proofs.YtkoldibamfjghaaGreatDoor
namespace Go.Proofs.YtkoldibamfjghaaGreatDoor
open Go.RowKit
theorem Lb:∀(H:List Pc),Lc H H
 | []=>.nil
 | _::R=>.cons .here (Lb R)
theorem Cz.all {α:Type} {E:Bt α} {w:World} {cs:am} {xs:List α} (h:Cz E w cs xs []) (w':World):Cz E w' cs xs []:=h.frame FB
theorem Cz.cutL {α:Type} {E:Bt α} {w:World} {cs:am} {xs:List α} (h:Cz E w cs xs []) (i:Nat) (hi:i<=xs.length):Cz E w (cs.take (i * E.sz)) (xs.take i) []/\Cz E w (cs.drop (i * E.sz)) (xs.drop i) []:=by
 rw [<-bo i xs] at h;obtain ⟨c1,c2,G1,G2,rfl,hG,h1,h2⟩:=h.split;obtain ⟨rfl,rfl⟩:=List.append_eq_nil_iff.1 hG.symm;have hl:=h1.len;rw [aP,cZ hi] at hl;rw [bT hl,dC hl];exact ⟨h1,h2⟩
theorem Cz.insL {α:Type} {E:Bt α} {w:World} {cs c1:am} {xs:List α} {x:α} (h:Cz E w cs xs []) (h1:Cz E w c1 [x] []) (i:Nat) (hi:i<=xs.length):Cz E w (cs.take (i * E.sz)++c1++cs.drop (i * E.sz)) (xs.take i++x::xs.drop i) []:=by
 obtain ⟨ha,hb⟩:=h.cutL i hi;have:=(ha.append h1).append hb;exact EX
section
variable {P:Program} {n:Nat} {fr:Fr} {H:List Pc} {ty:TypeId} {x y z:Operand}
theorem Ku {t e m i g o len cp:Nat} {kd:IntKind} {q:Int} [hS:SlC P t e m] (hx:ev fr x=some (ab (some ⟨g,o,none⟩) len cp)) (hy:ev fr y=some (.int kd q)) (hq:q=(i:Int)) (hi:i<=len) (hc:i < cp) (hlc:len<=cp):Yd P n fr H (.slice t x (some y) none none) ty (ab (some ⟨g,o+i * m,none⟩) (len - i) (cp - i)):=.mk fun ac w d pos Cc gd hA _=>by
 subst hq;have he2:P.elem t=e:=JS
 have h3:(Instr.sliceAt t (ab (some ⟨g,o,none⟩) len cp) (some (.int kd (i:Int))) none none).run P w=.ok (ab (some ⟨g,o+i * m,none⟩) (len - i) (cp - i)) w:=by
  rw [run_sliceAt_slice (h:=GF),run_slice_l (ht:=GF) (h0:=EZ) (h1:=EZ),he2,Ms hS.s];have h0:¬(cp - i=0):=EZ
  have h0':¬(cp=i):=EZ
  simp [Result.andThen,sliced,h0,h0',Addr.add_lit]
 exact BJ
theorem Ahs {k:IntKind} {a:Int} {s t:TypeId} [hS:IntC P s k] [hD:IntC P t .u64] (hx:ev fr x=some (.int k a)) (h0:0<=a) (h1:a<=18446744073709551615):Yd P n fr H (.convert s t x) ty (.int .u64 a):=.mk fun c w d pos Cc gd hA _=>by
 simp [execOp,hA.ev hx,convert,run_underlying hS.u,run_underlying hD.u,Conv.intToInt,IntWalk.u64_in _ ⟨h0,h1⟩]
theorem Alz {a:Int} {t t':TypeId} (hx:ev fr x=some (.int .u64 a)):Yd P n fr H (.binOp .shr t x (.const (.int .u64 1)) t') ty (.int .u64 (a / 2)):=.mk fun c w d pos Cc gd hA _=>by
 have e:Op.shift .shr .u64 a .u64 1=pure (.int .u64 (a / 2)):=by rw [shift_shr .u64 .u64 a 1 FA FA];rfl
 have e2:binOp .shr t (.int .u64 a) (.int .u64 1)=Op.shift .shr .u64 a .u64 1:=rfl;have e3:c.eval (.const (.int .u64 1))=.int .u64 1:=rfl;simp only [execOp,hA.ev hx,e3,eqGuard_shr,e2,e,Sem.run_bind,Sem.run_pure,Result.andThen_ok]
theorem Arb {a:aj} {len cp t e m:Nat} [hS:SlC P t e m] (hx:ev fr x=some (ab a len cp)):Yd P n fr H (.call { callee:=.builtin .cap,args:=#[x],argTypes:=#[t] }) ty (aa cp):=.mk fun ac w d pos Cc gd hA _=>by
 simp [execOp,hA.ev hx,resolve,invoke,builtin,Builtin.cap_,run_underlying hS.u,goInt]
end
section
variable {c:Cx} {fr:Fr} {H k':List Pc} {k:List It} {Φ:Gl} {d:Nat} {o:Op} {ty:TypeId} {v u:Value} {x y:Operand}
theorem Als {α:Type} {E:Bt α} (sc:Aao E) {t n cp:Nat} {a:aj} {xs:List α} {F:aq} {S:List Pc} (h0:xs≠[])
  (h:∀g cs rest,a=some ⟨g,0,none⟩->n=xs.length->xs.length<=cp->cp<=9223372036854775807->cs.length=xs.length * E.sz->cs.length+rest.length=cp * E.sz->(∀w,Cz E w cs xs [])->T c fr (.row g t 0 [] (cs++rest) []::S) Φ)
  (hp:C2 H (.ow E t (ab a n cp) xs F) S:=by exact Dt):T c fr H Φ:=.mk fun ac w s g'=>by
 have s1:=s.pick hp;obtain ⟨hnd,ho⟩:=s1.on (.ow E t (ab a n cp) xs F) FB;have hF:=ho.scal sc;rcases ho with ⟨-,h2, -⟩|⟨g,cap,cs,rest,G,h1,h2,h3,h4,h5,h6,h7⟩
 ·exact absurd h2 h0
 ·cases h1;have hG:G=[]:=IL
  subst hG h7;have hl:=h6.len;refine (h g cs rest rfl rfl h3 (by unfold maxLen at h4;omega) hl h5 (fun w'=>h6.all w')).h ac w (s1.conv rfl ⟨rfl,HK⟩ JB) g'
theorem Ac7 {α:Type} {E:Bt α} {t g:Nat} {L cs rest:am} {xs:List α} {S:List Pc} (cp:Nat) (hL:L=cs++rest) (hf:∀w,Cz E w cs xs []) (h1:xs.length<=cp) (h2:cp<=9223372036854775807) (h3:L.length=cp * E.sz)
  (h:T c fr (.ow E t (ab (some ⟨g,0,none⟩) xs.length cp) xs [g]::S) Φ) (hp:C2 H (.row g t 0 [] L []) S:=by exact Dt):T c fr H Φ:=.mk fun ac w s g'=>by
 subst hL;have s1:=s.pick hp;have hr:=(s1.on (.row g t 0 [] (cs++rest) []) FB).2;exact h.h ac w (s1.conv rfl ⟨FB,.inr ⟨g,cp,cs,rest,[],rfl,GK,h1,FH,HX,hf w,rfl⟩⟩ JB) g'
theorem Ayb {f:Nat} {aS:List Operand} {ts:Array TypeId} {vs:am} (hd:Nat.blt d c.n=true) (ha:Evs fr aS vs) (hv:∀w,St c.G c.D c.w0 H w->(callFunc f vs.toArray).run c.P w=.ok (.value v) w) (h:T c ((d,v)::fr) H Φ):On c fr H (some d) (.call { callee:=.value (.func f),args:=aS.toArray,argTypes:=ts }) ty Φ:=⟨fun _ _ _=>O3 fun Q a w s g=>by
 have e:∀pos Cc gd,(execOp a.eval ⟨some d,.call { callee:=.value (.func f),args:=aS.toArray,argTypes:=ts },ty,pos,Cc,gd⟩).run c.P w=.ok (.value v) w:=by
  intro pos Cc gd;simp [execOp,resolve,Deferred.ofValue,Act.eval,invoke,g.evs ha,hv w s]
 rw [e];exact h.h _ _ s (g.put hd)⟩
theorem Aj0 {w:World} {g:Nat} {t:TypeId} {cs:am} (h:Ib w g t cs):w.shape? g=some (t,cs.length):=by
 unfold World.shape?;rw [show w.heap[g]?=_ from h];simp
theorem ovl {f:Nat} {tS tR e m:Nat} [hS:SlC c.P tS e m] {g o g2 o2 la ca lb cb t1 t2:Nat} {L L2:am}
  (he:∀(args:Array Value) (w:World),(callFunc f args).run c.P w=((Extern.SlicesOverlaps.overlaps #[tS,tS] #[tR] args).run c.P w).andThen fun v w=>.ok (.value v) w)
  (h1:C2 H (.row g t1 0 [] L []) k') (h2:.row g2 t2 0 [] L2 []∈k') (hL:L2≠[]) (w:World) (s:St c.G c.D c.w0 H w) :
  (callFunc f [ab (some ⟨g,o,none⟩) la ca,ab (some ⟨g2,o2,none⟩) lb cb].toArray).run c.P w=.ok (.value (.bool false)) w:=by
 have s1:=s.pick h1;have r1:=(s1.on (.row g t1 0 [] L []) FB).2;have r2:=(s1.on (.row g2 t2 0 [] L2 []) (by simp [h2])).2;have hne:g≠g2:=fun e'=>s1.sep.1 (.row g2 t2 0 [] L2 []) h2 (by simp [Pc.mu]) g JB (by simp [Pc.F,e']);simp only [aZ,bg] at r1 r2;rw [he,Lib.run_overlaps_apart w tS tR e hS.u m (fun w=>Ms hS.s w) ⟨g,o,none⟩ ⟨g2,o2,none⟩ la ca lb cb hne t1 t2 L.length L2.length (Aj0 r1) (Aj0 r2) (by simpa using hL) (r1.frozen _) (r1.frozen _)];rfl
theorem Aei {P M Q d L:am} {o:Nat} (hL:L=P++M++Q) (ho:o=P.length) (hd:M.length=d.length):P++d++Q=L.take o++d++L.drop (o+d.length):=by
 subst hL ho;rw [aN P M Q,fU,<-hd,<-aN,<-aA,fb]
theorem Aqs {B R:am} (m:Nat) (h:m<=R.length):∃X Y,B++R=X++Y++R.drop m/\X.length=m/\Y.length=B.length:=by
 refine ⟨(B++R).take m,((B++R).drop m).take B.length,?_,FF,FF⟩;have:R.drop m=((B++R).drop m).drop B.length:=by rw [cA,Nat.add_comm,<-cA,fb]
 rw [this,aN,bo,bo]
theorem Mt {g t o m:Nat} {L cs:am} (h1:.row g t 0 [] L []∈H) (hc:cs=(L.drop o).take m) (w:World) (s:St c.G c.D c.w0 H w):∀j u,cs[j]?=some u->w.cell? ((⟨g,o,none⟩:Addr).add j)=some u:=fun j u hu=>by
 subst hc;have r1:=(s.on (.row g t 0 [] L []) h1).2;simp only [aZ,bg] at r1;rw [Addr.add_lit,r1.cell];rw [List.getElem?_take] at hu
 split at hu
 ·rw [dD] at hu;exact hu
 ·cases hu
theorem Au5 {P:Program} (w:World) (dT sT ty elem m:TypeId) (b o dLen dCap:Nat) (a:Addr) (sLen sCap:Nat) (cs:am)
  (hu:P.underlying dT=some (.slice elem)) (hs:(P.info? elem).map (·.size)=some m) (hn:cs.length=Nat.min sLen dLen * m)
  (hsrc:∀j v,cs[j]?=some v->w.cell? (a.add j)=some v) (hc:∀j,j < cs.length->(w.cell? ⟨b,o+j,none⟩).isSome=true) (hf:∀j,j < cs.length->w.frozen? ⟨b,o+j,none⟩=false) (h1:∀v∈cs,v.oneCell'=true) :
  (Builtin.copy_ #[dT,sT] ty #[ab (some ⟨b,o,none⟩) dLen dCap,ab (some a) sLen sCap]).run P w=.ok (goInt (Nat.min sLen dLen:Nat)) (w.setCells b o cs):=by
 have hl:=run_loadCells_list (P:=P) w a cs hsrc;have hst:=run_storeCells_cells (P:=P) b o cs 0 w (by simpa using hc) (by simpa using hf) h1;cases hq:P.info? elem with
 | none=>simp [hq] at hs
 | some i =>
  have hi:i.size=m:=by simpa [hq] using hs
  simp [Builtin.copy_,run_underlying hu,Builtin.lenOf,Builtin.firstCells,sizeOf,typeInfo,hq,hi,<-hn,hl,hst]
theorem Wh {dT sT e m g t oo dn dc sn sc:Nat} {ad:Addr} {L L' cs:am} {S:List Pc} [hS:SlC c.P dT e m] (hd:Nat.blt d c.n=true) (hx:ev fr x=some (ab (some ⟨g,oo,none⟩) dn dc)) (hy:ev fr y=some (ab (some ad) sn sc))
  (hsrc:∀w,St c.G c.D c.w0 H w->∀j u,cs[j]?=some u->w.cell? (ad.add j)=some u) (hr:Rpl H (.row g t 0 [] L []) (.row g t 0 [] L' []) S)
  (hL:L'=L.take oo++cs++L.drop (oo+cs.length)) (hn:cs.length=Nat.min sn dn * m) (hfit:oo+cs.length<=L.length) (h1:∀v∈cs,v.oneCell'=true) (h:T c ((d,aa (Nat.min sn dn:Nat))::fr) S Φ) :
  On c fr H (some d) (.call { callee:=.builtin .copy,args:=#[x,y],argTypes:=#[dT,sT] }) ty Φ:=⟨fun _ _ _=>O3 fun Q a w s ag=>by
 have hP:(Pc.row g t 0 [] L []).P w:=by obtain ⟨R,h1,_⟩:=hr.picks;exact s.on _ h1.mem
 have r1:=hP.2;simp only [aZ,bg] at r1;have hrun:=fun ty=>Au5 (P:=c.P) w dT sT ty e m g oo dn dc ad sn sc cs hS.u hS.s hn (hsrc w s) (fun j hj=>by rw [r1.cell,aD EZ];rfl) (fun j hj=>r1.frozen _) h1;have e1:∀pos Cc gd,(execOp a.eval ⟨some d,.call { callee:=.builtin .copy,args:=#[x,y],argTypes:=#[dT,sT] },ty,pos,Cc,gd⟩).run c.P w=.ok (.value (goInt (Nat.min sn dn:Nat))) (w.setCells g oo cs):=by
  intro pos Cc gd;simp only [execOp,resolve,invoke,builtin,Sem.run_bind,Sem.run_pure,Result.andThen_ok,cW,cB,da,ag.ev hx,ag.ev hy,hrun]
 rw [e1];have hsplit:L=L.take oo++(L.drop oo).take cs.length++L.drop (oo+cs.length):=by
  rw [<-cA,aN,bo,bo]
 have r2:=r1;rw [hsplit] at r2;have r3:=Ib.put cs _ r2 (p:=oo) FF FF;have hk:=Lt (g:=g) cs w oo;rw [Ml w g cs w] at r3 hk;rw [<-hL] at r3;refine h.h _ _ (s.rpl hr rfl (fun b hb=>.inl hb) hk ⟨rfl,by simpa using r3⟩) (ag.put hd)⟩
theorem Ap8 {t tn e m b g oo n cp k:Nat} {zv:Value} {olds:am} {q:Int} [hS:SlC c.P t e m] [hE:ElT c.P e zv m b] [hI:IntC c.P tn .i64] (hd:Nat.blt d c.n=true) (hx:ev fr x=some (ab (some ⟨g,oo,none⟩) n cp)) (hy:ev fr y=some (aa q)) (hq:q=(k:Int))
  (hso:∀w,St c.G c.D c.w0 H w->∀j u,olds[j]?=some u->w.cell? ((⟨g,oo,none⟩:Addr).add j)=some u)
  (hlo:olds.length=n * m) (hm:0 < m) (hk:0 < k) (hg:cp < n+k) (h63:n+k<=4294967296) (hby:(n+k) * b<=140737488355328)
  (h:∀g' cp' Z rest,n+k<=cp'->cp'<=9223372036854775807->Z.length=k * m->(olds++Z++rest).length=cp' * m->T c ((d,ab (some ⟨g',0,none⟩) ((n+k:Nat)) cp')::fr) (.row g' e 0 [] (olds++Z++rest) []::H) Φ) :
  On c fr H (some d) (.call { callee:=.builtin .append,args:=#[x,y],argTypes:=#[t,tn] }) ty Φ:=⟨fun _ _ _=>O3 fun Q a w s ag=>by
 subst hq;obtain ⟨i,hi,hiz⟩:=cw.1 hE.i;simp only [Prod.mk.injEq] at hiz;obtain ⟨i1,i2,i3⟩:=hiz;subst i2 i3;have hold:(Builtin.firstCells i.size n (ab (some ⟨g,oo,none⟩) n cp)).run c.P w.drew=.ok olds.toArray w.drew:=run_firstCells_some w.drew i.size n ⟨g,oo,none⟩ n cp olds hlo (fun j v hj=>hso w s j v hj);have hr:=fun ty=>Lib.run_append_grow_zeros (P:=c.P) w t tn ty e i zv .i64 .i64 hS.u hI.u hi i1 (some ⟨g,oo,none⟩) n cp olds hold k hk hm hg EZ (bG (cI _ EZ) (bG hby FA)) (growslice_fits hg hby)
 have e1:∀pos Cc gd,(execOp a.eval ⟨some d,.call { callee:=.builtin .append,args:=#[x,y],argTypes:=#[t,tn] },ty,pos,Cc,gd⟩).run c.P w=.ok (.value (ab (some ⟨w.heap.size,0,none⟩) (n+k) (grownCap w (n+k) cp e))) (w.drew.alloc (.cells (olds.toArray++Builtin.zeroCells zv.cells k++Builtin.zeroCells zv.cells (grownCap w (n+k) cp e - (n+k))) e)):=by
  intro pos Cc gd;simp only [execOp,resolve,invoke,builtin,Sem.run_bind,Sem.run_pure,Result.andThen_ok,cW,cB,da,ag.ev hx,ag.ev hy,hr]
 rw [e1];have hge:=grownCap_ge w (n+k) cp e;have hle:=grownCap_le_maxLen w (n+k) cp e FH;have hBel:Below w.heap.size w (w.drew.alloc (.cells (olds.toArray++Builtin.zeroCells zv.cells k++Builtin.zeroCells zv.cells (grownCap w (n+k) cp e - (n+k))) e)):=(E5 (Below.refl w.heap.size w) 1).alloc (aL _) _;have hz:∀q,(Builtin.zeroCells zv.cells q).toList.length=q * i.size:=fun q=>by rw [M7,hE.s]
 refine (h w.heap.size (grownCap w (n+k) cp e) (Builtin.zeroCells zv.cells k).toList (Builtin.zeroCells zv.cells (grownCap w (n+k) cp e - (n+k))).toList hge (by unfold maxLen at hle;omega) (hz k) ?_).h _ _ (s.add (N:=[.row w.heap.size e 0 [] (olds++(Builtin.zeroCells zv.cells k).toList++(Builtin.zeroCells zv.cells (grownCap w (n+k) cp e - (n+k))).toList) []]) hBel ?_ ⟨FB,trivial⟩ ?_) (ag.put hd)
 ·rw [aA,aA,hz,hz,hlo,<-cH,<-cH];congr 1;omega
 ·intro p hp;rw [aM] at hp;subst hp;refine ⟨rfl,?_⟩;have:=Ib.made w.drew e (olds++(Builtin.zeroCells zv.cells k).toList++(Builtin.zeroCells zv.cells (grownCap w (n+k) cp e - (n+k))).toList);rw [aZ,bg];have e2:(olds++(Builtin.zeroCells zv.cells k).toList++(Builtin.zeroCells zv.cells (grownCap w (n+k) cp e - (n+k))).toList).toArray=olds.toArray++Builtin.zeroCells zv.cells k++Builtin.zeroCells zv.cells (grownCap w (n+k) cp e - (n+k)):=by apply fG;simp
  rw [e2] at this;exact this
 ·intro p hp b hb;rw [aM] at hp;subst hp;simp [Pc.F] at hb;subst hb;exact .inl (aL _)⟩
theorem Ak8 {t e m n cp i:Nat} {a:aj} {q:Int} [hS:SlC c.P t e m] (hd:Nat.blt d c.n=true) (hx:ev fr x=some (ab a n cp)) (hy:ev fr y=some (aa q)) (hq:q=(i:Int)) (hi:i<=n) (h:∀v,T c ((d,v)::fr) H Φ) (hlc:n<=cp:=by omega):On c fr H (some d) (.slice t x (some y) none none) ty Φ:=⟨fun _ _ _=>O3 fun Q ac w s g=>by
 subst hq;have he2:=Aev hS;obtain ⟨v,h3⟩:∃v,(Instr.sliceAt t (ab a n cp) (some (aa (i:Int))) none none).run c.P w=.ok v w:=by
  rw [run_sliceAt_slice (h:=GF),run_slice_l (ht:=GF) (h0:=EZ) (h1:=EZ),he2,Ms hS.s];exact ⟨_,rfl⟩
 have e1:∀pos Cc gd,(execOp ac.eval ⟨some d,.slice t x (some y) none none,ty,pos,Cc,gd⟩).run c.P w=.ok (.value v) w:=by
  intro pos Cc gd;simp only [execOp,cN,bY,g.ev hx,g.ev hy,Sem.run_bind,h3,Result.andThen_ok,Sem.run_pure]
 rw [e1];exact (h v).h _ w s (g.put hd)⟩
end
section
variable {P:Program} {n:Nat} {fr:Fr} {H:List Pc} {ty:TypeId}
theorem Bfe {f:Nat} {bs caps:List Operand} {us vs:am} (hb:Evs fr bs us) (hc:Evs fr caps vs):Yd P n fr H (.makeFunc (.func f) bs.toArray caps.toArray) ty (.func (.func f) us.toArray vs.toArray):=.mk fun c w d pos Cc gd hA _=>by
 simp [execOp,Instr.makeFunc,hA.evs hb,hA.evs hc]
end
section
variable {c:Cx} {fr:Fr} {H:List Pc} {k:List It} {Φ:Gl} {d:Nat} {ty:TypeId} {x:Operand}
theorem Aa8 {fo:Operand} {f:Nat} {bd caps:am} {aS:List Operand} {ts:Array TypeId} {vs:am} (hd:Nat.blt d c.n=true) (hf:ev fr fo=some (.func (.func f) bd.toArray caps.toArray)) (hb:Qx c.P f=true) (ha:Evs fr aS vs) (h:Cl c fr H d f (bd++vs++caps) Φ):On c fr H (some d) (.call { callee:=.value fo,args:=aS.toArray,argTypes:=ts }) ty Φ:=⟨fun _ _ _=>O3 fun Q a w s g=>by
 have e:∀pos Cc gd,(execOp a.eval ⟨some d,.call { callee:=.value fo,args:=aS.toArray,argTypes:=ts },ty,pos,Cc,gd⟩).run c.P w=(callFunc f (bd++vs++caps).toArray).run c.P w:=by
  intro pos Cc gd;simp [execOp,resolve,Deferred.ofValue,g.ev hf,invoke,g.evs ha]
 rw [e];obtain ⟨R,hc,hk⟩:=h.h w s;refine (Vc hb).upon hc fun e w' hR=>?_;obtain ⟨v,he,hv⟩:=hk e w' hR;exact ⟨v,he,hv _ (g.put hd)⟩⟩
theorem Alq {α:Type} {E:Bt α} (sc:Aao E) {t n cp:Nat} {a:aj} {xs:List α} {F:aq} (h0:xs≠[])
  (h:∀g,a=some ⟨g,0,none⟩->F=[g]->n=xs.length->n<=cp->cp<=9223372036854775807->T c fr H Φ) (hm:.ow E t (ab a n cp) xs F∈H:=by exact Bl):T c fr H Φ:=.mk fun ac w s g'=>by
 obtain ⟨hnd,ho⟩:=s.get hm;have hF:=ho.scal sc;rcases ho with ⟨-,h2, -⟩|⟨g,cap,cs,rest,G,h1,h2,h3,h4,h5,h6,h7⟩
 ·exact absurd h2 h0
 ·cases h1;exact (h g rfl (by simpa [Value.ownBlock] using hF) rfl h3 (by unfold maxLen at h4;omega)).h ac w s g'
theorem Cz.rep0 {α:Type} {E:Bt α} {w:World} {zs:am} {z:α} (h:E.L8 w zs z []):∀n,Cz E w (List.replicate n zs).flatten (List.replicate n z) []
 | 0=>⟨rfl,rfl⟩
 | n+1=>⟨zs,(List.replicate n zs).flatten,[],[],by simp [cU],FB,h,Cz.rep0 h n⟩
theorem Aht (z:Array Value) (n:Nat):(Builtin.zeroCells z n).toList=(List.replicate n z.toList).flatten:=by
 have:=Nu z n;exact this
theorem Ar0 {α:Type} {E:Bt α} (sc:Aao E) {t e m b g n cp i:Nat} {zv:Value} {z0:α} [hS:SlC c.P t e m] [hE:ElT c.P e zv m b] (hz:∀w,E.L8 w zv.cells.toList z0 []) (one:∀u∈zv.cells,u.oneCell'=true) (hm:E.sz=m) {xs:List α} {F:aq} {S:List Pc}
  (hx:ev fr x=some (ab (some ⟨g,0+i * m,none⟩) (n - i) (cp - i))) (hi:i < n) (hn:n=xs.length) (hp:C2 H (.ow E e (ab (some ⟨g,0,none⟩) n cp) xs F) S) (h:T c fr (.ow E e (ab (some ⟨g,0,none⟩) n cp) (xs.take i++List.replicate (n - i) z0) F::S) Φ) :
  On c fr H none (.call { callee:=.builtin .clear,args:=#[x],argTypes:=#[t] }) ty Φ:=⟨fun _ _ _=>O3 fun Q a w s ag=>by
 subst hm;have s1:=s.pick hp;obtain ⟨hnd,ho⟩:=s1.on (.ow E e (ab (some ⟨g,0,none⟩) n cp) xs F) FB;have hF:=ho.scal sc;rcases ho with ⟨h1, -, -⟩|⟨g2,cap,cs,rest,G,h1,h2,h3,h4,h5,h6,h7⟩
 ·cases h1
 cases h1;have hG:G=[]:=IL
 subst hG h7;have hl:=h6.len;obtain ⟨f1,f2⟩:=h6.cutL i EZ;have hcs:=bo (i * E.sz) cs;have hd1:(cs.take (i * E.sz)).length=i * E.sz:=by have:=f1.len;rw [aP (l:=xs),cZ EZ] at this;exact this
 have hd2:(cs.drop (i * E.sz)).length=(xs.length - i) * E.sz:=by have:=f2.len;rwa [aX (l:=xs)] at this
 have hr:=fun ty=>Th (P:=c.P) w t e ty zv hS.u (V9 hE.i) one g (0+i * E.sz) (xs.length - i) (cp - i) EZ
  (fun j hj=>by rw [hE.s] at hj;rw [h2.cell,aD (by rw [aA,<-hcs,aA,hd1,hd2];omega)];rfl) (fun j _=>h2.frozen _)
 have e1:∀pos Cc gd,(execOp a.eval ⟨none,.call { callee:=.builtin .clear,args:=#[x],argTypes:=#[t] },ty,pos,Cc,gd⟩).run c.P w=.ok (.value (.tuple #[])) (w.setCells g (0+i * E.sz) (Builtin.zeroCells zv.cells (xs.length - i)).toList):=by
  intro pos Cc gd;simp only [execOp,resolve,invoke,builtin,Sem.run_bind,Sem.run_pure,Result.andThen_ok,cW,cB,da,ag.ev hx,hr]
 rw [e1];have hzl:(Builtin.zeroCells zv.cells (xs.length - i)).toList.length=(xs.length - i) * E.sz:=by rw [M7,hE.s]
 have R0:Ib w g e (cs.take (i * E.sz)++cs.drop (i * E.sz)++rest):=by rw [hcs];exact h2
 have R1:=Ib.put (Builtin.zeroCells zv.cells (xs.length - i)).toList _ R0 (p:=0+i * E.sz) EZ (by rw [hzl,hd2]);have hk:=Lt (g:=g) (Builtin.zeroCells zv.cells (xs.length - i)).toList w (0+i * E.sz);rw [Ml w g] at R1 hk;have hW:(Pc.ow E e (ab (some ⟨g,0,none⟩) xs.length cp) (xs.take i++List.replicate (xs.length - i) z0) [g]).P (w.setCells g (0+i * E.sz) (Builtin.zeroCells zv.cells (xs.length - i)).toList):=by
  have hll:(xs.take i++List.replicate (xs.length - i) z0).length=xs.length:=by rw [aA,aP,bw];omega
  have hfl:Cz E (w.setCells g (0+i * E.sz) (Builtin.zeroCells zv.cells (xs.length - i)).toList) (cs.take (i * E.sz)++(Builtin.zeroCells zv.cells (xs.length - i)).toList) (xs.take i++List.replicate (xs.length - i) z0) []:=by
   rw [Aht];exact (f1.all _).append (Cz.rep0 (hz _) _)
  refine ⟨FB,.inr ⟨g,cp,cs.take (i * E.sz)++(Builtin.zeroCells zv.cells (xs.length - i)).toList,rest,[],by rw [hll],R1,by rw [hll];exact h3,h4,?_,hfl,rfl⟩⟩;rw [aA,hzl,hd1,<-cH];rw [<-h5,hl]
  congr 2
  omega
 exact h.h _ _ (St.turn (M:=[.ow E e (ab (some ⟨g,0,none⟩) xs.length cp) xs [g]]) (N:=[.ow E e (ab (some ⟨g,0,none⟩) xs.length cp) (xs.take i++List.replicate (xs.length - i) z0) [g]]) s1 HD (by intro q hq;rw [aM] at hq;subst hq;exact hW) ⟨FB,trivial⟩ (by
   intro q hq b hb;rw [aM] at hq;subst hq;exact .inr (.inl ⟨_,aM.2 rfl,rfl,hb⟩))) ag⟩
end
def bz (l:Bs):au:=⟨l.toArray⟩
theorem I1 (l:Bs):(bz l).data.toList=l:=by simp [bz]
theorem Wv (s:au):bz s.data.toList=s:=by simp [bz]
theorem Gk (l:Bs):(bz l).size=l.length:=by simp [bz,ByteArray.size]
theorem Cp (s:au):s.data.toList.length=s.size:=by simp
theorem Bd1 (a b:Bs):bz a++bz b=bz (a++b):=by apply dz;simp [bz,cF]
theorem Hx (s t:au):(s++t).data.toList=s.data.toList++t.data.toList:=by simp [cF]
theorem Yi {a b:au} (h:a=b):Ending.returned (af a)=.returned (af b):=by rw [h]
theorem Zi (w:World) (k:Nat) (os:Array Obj):Below w.heap.size w (Go.Sort.grow (w.drewN k) os):=by
 refine ⟨rfl,rfl,rfl,?_,fun i hi=>?_⟩
 ·simp [Go.Sort.grow,World.drewN]
 ·simp [Go.Sort.grow,World.drewN,dL hi]
def Bg7:Bt Unit where
 sz:=0
 L8 w cs _ F:=cs=[]/\(Lib.TabIs prog w "internal/strconv.uint64pow10" .u64 Lib.pow10Tab/\(∃m,w.cell? ⟨0,0,none⟩=some (aa m))/\(∃tp p,w.var? prog "strconv.ErrSyntax" = some #[.iface tp p])/\(∃tp p,w.var? prog "strconv.ErrRange" = some #[.iface tp p]))/\F=[1,0,6,7]/\∀b∈F,b < w.heap.size
 len h:=JN
 lt h:=h.2.2.2
 frame h hF:=by
  obtain ⟨h1,⟨h2,h3,h4,h5⟩,rfl,h6⟩:=h;have e0:=hF 1 FB;have e1:=hF 0 FB;have e2:=hF 6 FB;have e3:=hF 7 FB;refine ⟨h1,⟨?_,?_,?_,?_⟩,rfl,fun b hb=>?_⟩
  ·unfold Lib.TabIs World.var? at h2 ⊢;rw [show prog.globalNamed "internal/strconv.uint64pow10" = some 1 by kernel_rfl] at h2 ⊢;simp only [dh] at h2 ⊢;rw [e0];exact h2
  ·obtain ⟨m,hm⟩:=h3;refine ⟨m,?_⟩;unfold World.cell? at hm ⊢;rw [e1];exact hm
  ·obtain ⟨tp,p,hm⟩:=h4;refine ⟨tp,p,?_⟩;unfold World.var? at hm ⊢;rw [show prog.globalNamed "strconv.ErrSyntax" = some 6 by kernel_rfl] at hm ⊢;simp only [dh] at hm ⊢;rw [e2];exact hm
  ·obtain ⟨tp,p,hm⟩:=h5;refine ⟨tp,p,?_⟩;unfold World.var? at hm ⊢;rw [show prog.globalNamed "strconv.ErrRange" = some 7 by kernel_rfl] at hm ⊢;simp only [dh] at hm ⊢;rw [e3];exact hm
  ·have e:=hF b hb;have:=h6 b hb;rw [dW this] at e;exact (bK.1 e).1
theorem Ab6:∀n:Nat,n < 10->(⟨#[48,49,50,51,52,53,54,55,56,57]⟩:au).extract n (n+1)=⟨#[UInt8.ofNat (48+n)]⟩:=by decide
theorem Vl:∀(k n:Nat) (w:World),n < 10 ^ (k+1)->n<=999999999999999999 ->
  Calls prog 33 #[aa (n:Int)] w fun e w'=>e=.returned (af (bz (Lib.decDigits n)))/\∃j,w'=w.drewN j:=by
 intro k
 induction k with
 | zero =>
  intro n w h1 h2;have h3:n < 10:=HV
  have hd:=Lib.hid (Ab6 n h3);have hn:¬((n:Int) < 0):=EZ
  go_enter func33,ntmps33
  go_wp2_with fail
  go_ret
  refine ⟨Yi ?_,0,rfl⟩;rw [hd.out,Lib.decDigits,ei h3];rfl
 | succ k ih =>
  intro n w h1 h2;by_cases h3:n < 10
  ·have hd:=Lib.hid (Ab6 n h3);have hn:¬((n:Int) < 0):=EZ
   go_enter func33,ntmps33
   go_wp2_with fail
   go_ret
   refine ⟨Yi ?_,0,rfl⟩;rw [hd.out,Lib.decDigits,ei h3];rfl
  ·have h4:n / 10 < 10 ^ (k+1):=by rw [dZ] at h1;omega
   have hc:=fun w=>ih (n / 10) w h4 EZ;rw [show ((n / 10:Nat):Int)=(n:Int) / 10 from by omega] at hc;have hn:¬((n:Int) < 0):=EZ
   have h5:¬((n:Int) < 10):=EZ
   have hd:=Lib.hid (Ab6 (n % 10) EZ);have b0:(0:Int)<=(n:Int) % 10:=EZ
   have b1:(n:Int) % 10<=9:=EZ
   have e0:IntKind.i64.wrap ((n:Int) / 10)=(n:Int) / 10:=by rw [IntKind.wrap_i64];omega
   have e1:IntKind.i64.wrap ((n:Int) % 10)=(n:Int) % 10:=by rw [IntKind.wrap_i64];omega
   have e2:IntKind.i64.wrap ((n:Int) % 10+1)=(n:Int) % 10+1:=by rw [IntKind.wrap_i64];omega
   have e3:((n:Int) % 10).toNat=n % 10:=EZ
   have e4:((n:Int) % 10+1).toNat=n % 10+1:=EZ
   have e5:(n:Int).tmod 10=(n:Int) % 10:=fu EZ;have e6:(n:Int).tdiv 10=(n:Int) / 10:=fq EZ;have hsl:∀wx,(Instr.slice 9 (af ⟨#[48,49,50,51,52,53,54,55,56,57]⟩) (some (aa ((n:Int) % 10))) (some (aa ((n:Int) % 10+1))) none).run prog wx=.ok (af ⟨#[UInt8.ofNat (48+n % 10)]⟩) wx:=fun wx=>by
    have h6:=run_slice_string (P:=prog) wx 9 ⟨#[48,49,50,51,52,53,54,55,56,57]⟩ .i64 .i64 ((n:Int) % 10) ((n:Int) % 10+1) underlying9 EZ EZ (by show _<=((10:Nat):Int);omega);rw [h6,e3,e4,hd.out]
   have hD:(bz (Lib.decDigits (n / 10))).size<=18:=by rw [Gk];exact Dv 17 _ EZ
   have hd1:(⟨#[UInt8.ofNat (48+n % 10)]⟩:au).size<=1:=by simp [ByteArray.size]
   have hR:Hid (bz (Lib.decDigits (n / 10))++⟨#[UInt8.ofNat (48+n % 10)]⟩=bz (Lib.decDigits n)):=by
    refine Lib.hid ?_
    conv=>rhs;rw [Lib.decDigits,dif_neg EZ,<-Bd1]
    rfl
   generalize bz (Lib.decDigits (n / 10))=D at *;generalize (⟨#[UInt8.ofNat (48+n % 10)]⟩:au)=d at *;clear ih h1 e3 e4
   go_enter func33,ntmps33
   go_wp2_with fail
   go_quiet ((go_at_call 33;exact Calls.quiet_of (v:=af D) (hc (World.drewN _ _))))
   go_wp2_with fail
   go_ret
   refine ⟨Yi ?_,_,rfl⟩;exact hR.out
def E4 (FT:aq):Pc:=.isv Bg7 (.agg #[]) () FT
theorem E4.env {w:World} {FT:aq} (h:(E4 FT).P w):Lib.TabIs prog w "internal/strconv.uint64pow10" .u64 Lib.pow10Tab/\(∃m,w.cell? ⟨0,0,none⟩=some (aa m))/\(∃tp p,w.var? prog "strconv.ErrSyntax" = some #[.iface tp p])/\(∃tp p,w.var? prog "strconv.ErrRange" = some #[.iface tp p]):=by
 obtain ⟨cs,_,h⟩:=h;exact h.2.1
theorem S0 (n:Int) (h0:-9223372036854775808<=n) (h1:n<=9223372036854775807) (FT:aq) (w:World) (hT:(E4 FT).P w) :
  Calls prog 29 #[aa n] w (RB (af (bz (Lib.itoa n))) w):=by
 refine (Tryz.strconv_Itoa n h0 h1 w (E4.env hT).1).mono ?_;rintro e w' ⟨rfl,k,os,rfl⟩;exact ⟨rfl,Zi w k os⟩
theorem Aiv {w:World}:∀{l:ai},(∀s∈l,s.size<=maxLen)->Cz A8 w (l.map Value.string) l []
 | [],_=>⟨rfl,rfl⟩
 | s::l,h=>⟨[.string s],l.map Value.string,[],[],FB,FB,⟨rfl,h s FB,rfl⟩,Aiv fun t ht=>h t (by simp [ht])⟩
theorem R7 (sep:au) (n:Nat):∀(k:Nat) (s:au),s.size<=n->∀t∈Lib.splitB sep 0 k s,t.size<=n
 | 0,s,h,t,ht=>by rw [Lib.splitB_zero,aM] at ht;subst ht;exact h
 | k+1,s,h,t,ht=>by
  unfold Lib.splitB at ht
  split at ht
  ·rw [aM] at ht;subst ht;exact h
  ·rcases aH.1 ht with rfl|ht
   ·simp [cu];omega
   ·exact R7 sep n k _ (by simp [cu];omega) t ht
theorem Ase (s sep:au) (hs:s.size<=1000000000) (h1:1<=sep.size) (FT:aq) (w:World) (hT:(E4 FT).P w) :
  Calls prog 23 #[af s,af sep] w (Wr A8 9 (Lib.splitB sep 0 (Lib.countB s sep) s) w):=by
 obtain ⟨m,hm⟩:=(E4.env hT).2.1;refine (Tryz.strings_Split s sep m w EZ hm h1).mono ?_;rintro e w2 ⟨rfl,rfl⟩;have hl:=Lib.splitB_all sep h1 0 (Lib.countB s sep) s rfl;have hc:=Lib.countB_le sep h1 s.size s (aL _);have hb:Below w.heap.size w (w.alloc (.cells ((Lib.splitB sep 0 (Lib.countB s sep) s).map Value.string).toArray 9)):=Wu _ _
 refine ⟨_,[w.heap.size],rfl,.inr ⟨w.heap.size,Lib.countB s sep+1,(Lib.splitB sep 0 (Lib.countB s sep) s).map Value.string,[],[],by rw [hl],by rw [bg];exact Ib.made _ _ _,EZ,FH,by simp [hl,A8],Aiv fun t ht=>?_,rfl⟩,FB,FB,hb⟩;have:=R7 sep s.size _ s (aL _) t ht;unfold maxLen;omega
theorem Ax7 (n:Nat) (hn:n<=999999) (w:World):Calls prog 33 #[aa (n:Int)] w (RB (af (bz (Lib.decDigits n))) w):=by
 refine (Vl 5 n w EZ EZ).mono ?_;rintro e w2 ⟨rfl,j,rfl⟩;exact ⟨rfl,E5 (Below.refl _ _) j⟩
theorem Axb (b:UInt8) (r:Bs):∀x:Bs,(∀c∈x,c≠b)->Lib.index (x++b::r) [b]=x.length
 | [],_=>by simp [Lib.index]
 | c::x,h=>by
  have ih:=Axb b r x (fun d hd=>h d (by simp [hd]));have hc:¬b=c:=fun e=>h c FB e.symm;rw [cj,Lib.index,aC JG,ih,aC GQ];simp
theorem Amn (l:Bs) (b:UInt8) (d:Nat) (hb:Lib.digitVal b=some d):∀acc n,Lib.decFrom acc l=some n->Lib.decFrom acc (l++[b])=some (n * 10+d):=by
 induction l with
 | nil=>intro acc n h;simp [Lib.decFrom] at h ⊢;subst h;rw [hb]
 | cons a l ih =>
  intro acc n h;simp only [cj,Lib.decFrom] at h ⊢;cases ha:Lib.digitVal a with
  | none=>rw [ha] at h;cases h
  | some x =>
   have h2:Lib.decFrom (acc * 10+x) l=some n:=by simpa [ha] using h
   exact ih _ _ h2
theorem Aks:∀d:Nat,d < 10->Lib.digitVal (UInt8.ofNat (48+d))=some d:=by decide
theorem Afo:∀(k u:Nat),u < 10 ^ (k+1)->Lib.decFrom 0 (Lib.decDigits u)=some u
 | 0,u,h=>by
  have h3:u < 10:=FJ
  rw [Lib.decDigits,ei h3,Lib.decFrom,Aks u h3];simp [Lib.decFrom]
 | k+1,u,h=>by
  by_cases h3:u < 10
  ·rw [Lib.decDigits,ei h3,Lib.decFrom,Aks u h3];simp [Lib.decFrom]
  ·have ih:=Afo k (u / 10) (by rw [dZ] at h;omega);rw [Lib.decDigits,dif_neg h3,Amn _ _ _ (Aks (u % 10) EZ) _ _ ih]
   congr 1;omega
theorem As1 (u:Nat) (h:u < 10000000):Lib.atoiAll (Lib.decDigits u)=.ok (u:Int):=by
 have hl:=Dv 6 u EZ;have hp:=X3 u;rw [Lib.atoiAll_short _ EZ];have:Lib.atoi (Lib.decDigits u)=some (u:Int):=by
  have hb:=Afo 6 u EZ;cases hd:Lib.decDigits u with
  | nil=>rw [hd] at hp;simp at hp
  | cons b r =>
   have hm:=O2 u b (by rw [hd];simp);have h45:(45:UInt8).toNat=45:=rfl;have h43:(43:UInt8).toNat=43:=rfl;rw [Lib.atoi,aC (by simp;intro e;subst e;omega),aC (by simp;intro e;subst e;omega)];unfold Lib.decNat;rw [aC FB,<-hd,hb];rfl
 rw [this];rfl
def Dm (b:UInt8):Bs->List Bs
 | []=>[[]]
 | c::r=>if c == b then []::Dm b r else match Dm b r with
  | []=>[[c]]
  | x::xs=>(c::x)::xs
theorem Yk {b:UInt8}:∀{x:Bs} (r:Bs),(∀c∈x,c≠b)->Dm b (x++b::r)=x::Dm b r
 | [],r,_=>by simp [Dm]
 | c::x,r,h=>by
  have ih:=Yk (b:=b) (x:=x) r fun d hd=>h d (by simp [hd]);have hb:(c == b)=false:=by simpa using h c FB
  simp only [cj,Dm,hb,ih];simp
theorem Sn {b:UInt8}:∀{x:Bs},(∀c∈x,c≠b)->Dm b x=[x]
 | [],_=>rfl
 | c::x,h=>by
  have ih:=Sn (b:=b) (x:=x) fun d hd=>h d (by simp [hd]);have hb:(c == b)=false:=by simpa using h c FB
  simp only [Dm,hb,ih];simp
theorem O9 (b:UInt8) (l:Bs):∃r,Dm b l=Ea b l::r/\(r=[]↔b ∉ l):=by
 rcases Oq b l with ⟨h,h2⟩|⟨h,h2,_⟩
 ·refine ⟨Dm b (Ma b l),?_,?_⟩
  ·conv=>lhs;rw [h2]
   exact Yk _ Xw
  ·refine ⟨fun e=>?_,fun e=>absurd h e⟩;have:∀l:Bs,Dm b l≠[]:=by
    intro l;cases l with
    | nil=>simp [Dm]
    | cons c r =>
     unfold Dm
     split
     ·simp
     ·split <;> simp
   exact absurd e (this _)
 ·exact ⟨[],by rw [Sn fun c hc e=>h (by rw [<-e];exact hc),h2],JR⟩
theorem Apk {l:Bs} {f k:Nat} (hf:f<=k) (hk:k < l.length):l.drop f=(l.drop f).take (k - f)++l[k]::l.drop (k+1):=by
 have h1:(l.drop f).drop (k - f)=l.drop k:=by rw [cA];congr 1;omega
 conv=>lhs;rw [<-bo (k - f) (l.drop f),h1,bS hk]
theorem Avh {l:Bs} {f k:Nat} (hf:f<=k) (hk:k < l.length):(l.drop f).take (k+1 - f)=(l.drop f).take (k - f)++[l[k]]:=by
 rw [show k+1 - f=(k - f)+1 by omega,aO JW]
 congr 2
 rw [db];congr 1;omega
theorem Awl (s:au) (k:Nat) (h:k < s.size):s.data.toList[k]'FJ=s[k]:=rfl
theorem Bf7 (s:au) (f k:Nat):s.extract f k=bz ((s.data.toList.drop f).take (k - f)):=Lib.extract_eq s f k
theorem X6 (s:au) (f:Nat):s.extract f s.size=bz (s.data.toList.drop f):=by
 rw [Lib.extract_eq];unfold bz;rw [aV FB]
theorem Azi (b:UInt8):∀(l:Bs),Lib.splitB ⟨#[b]⟩ 0 (l.count b) (bz l)=(Dm b l).map bz:=by
 intro l
 induction hn:l.length using Nat.strongRecOn generalizing l with
 | ind n ih =>
  subst hn;rcases Oq b l with ⟨h,h2⟩|⟨h, -, -⟩
  ·obtain ⟨u,r,hm,e⟩:∃u r:Bs,(∀c∈u,c≠b)/\l=u++b::r:=⟨_,_,Xw,h2⟩;subst e;clear h h2;have hc0:u.count b=0:=List.count_eq_zero.2 fun hc=>hm b hc rfl;have hcnt:(u++b::r).count b=r.count b+1:=by rw [List.count_append,List.count_cons_self,hc0];omega
   have hi:Lib.indexB (bz (u++b::r)) ⟨#[b]⟩=(u.length:Int):=by
    unfold Lib.indexB;rw [I1];exact Axb b r u hm
   have e1:(bz (u++b::r)).extract 0 (u.length+0)=bz u:=by
    rw [<-Wv (ByteArray.extract _ _ _),Lib.extract_from_zero,I1,bR,fU]
   have e2:(bz (u++b::r)).extract (u.length+(⟨#[b]⟩:au).size) (bz (u++b::r)).size=bz r:=by
    rw [<-Wv (ByteArray.extract _ _ _)]
    congr 1
    rw [Lib.extract_data,I1,Gk,show (⟨#[b]⟩:au).size=1 from rfl,show u++b::r=(u++[b])++r by simp,dC FB];exact aV FF
   rw [hcnt,Lib.splitB_hit _ _ _ _ _ hi,e1,e2,ih _ FF _ rfl,Yk _ hm];rfl
  ·have hc0:l.count b=0:=List.count_eq_zero.2 h;rw [hc0,Lib.splitB_zero,Sn fun c hc e=>h (by subst e;exact hc)];rfl
theorem U3 (b:UInt8) (s:au):Lib.splitB ⟨#[b]⟩ 0 (Lib.countB s ⟨#[b]⟩) s=(Dm b s.data.toList).map bz:=by
 have h:=Azi b s.data.toList;rw [Wv] at h;rw [<-h]
 congr 1
 have:=Lib.count_one b s.data.toList;unfold Lib.countB;exact this
section
variable {P:Program} {n:Nat} {fr:Fr} {H:List Pc} {ty:TypeId} {x:Operand} {t t2:TypeId}
theorem Bfn (hx:ev fr x=some .nilIface) (hu:P.underlying t=some (.interface (P.methodsAt t))):Yd P n fr H (.binOp .neq t x (.const .nilIface) t2) ty (.bool false):=.mk fun c w d pos Cc gd hA _=>by
 have e:binOp .neq t .nilIface .nilIface=(do pure (.bool (!(<-Op.equal t .nilIface .nilIface)))):=rfl;have eg:eqGuard .neq t x (.const .nilIface) .nilIface .nilIface=pure ():=by unfold eqGuard;simp
 have ec:c.eval (.const .nilIface)=.nilIface:=rfl;simp only [execOp,hA.ev hx,ec,eg,e,Sem.run_bind,Sem.run_pure,Result.andThen_ok,run_equal_nil_nil w t hu];rfl
theorem Baj {u:TypeId} {p:Value} (hx:ev fr x=some (.iface u p)) (hu:P.underlying t=some (.interface (P.methodsAt t))):Yd P n fr H (.binOp .neq t x (.const .nilIface) t2) ty (.bool true):=.mk fun c w d pos Cc gd hA _=>by
 have e:binOp .neq t (.iface u p) .nilIface=(do pure (.bool (!(<-Op.equal t (.iface u p) .nilIface)))):=rfl;have eg:eqGuard .neq t x (.const .nilIface) (.iface u p) .nilIface=pure ():=by unfold eqGuard;simp
 have ec:c.eval (.const .nilIface)=.nilIface:=rfl;simp only [execOp,hA.ev hx,ec,eg,e,Sem.run_bind,Sem.run_pure,Result.andThen_ok,run_equal_held_nil w t u p hu];rfl
end
section
variable {c:Cx} {fr:Fr} {H:List Pc} {d:Nat} {Φ:Gl}
theorem cx {f:Nat} {vs:am} (V:Value->Prop) (hc:∀w,St c.G c.D c.w0 H w->Calls c.P f vs.toArray w fun e w'=>∃v,V v/\e=.returned v/\Below w.heap.size w w') (h:∀v,V v->T c ((d,v)::fr) H Φ):Cl c fr H d f vs Φ :=
 Aaq hc fun w e w' s ⟨v,hv,he,hB⟩=>⟨v,he,fun a g=>(h v hv).h a w' (s.below hB) g⟩
end
def C3 (s:au):Int × Bool:=match Lib.atoiAll s.data.toList with
 | .ok v=>if E8 (-999999) v 999999 && decide (bz (Lib.itoa v)=s) then (v,true) else (0,false)
 | _=>(0,false)
theorem Afe (s:au) (FT:aq) (hs:s.size<=1000000000):FV 186 [af s] [E4 FT] (.tuple #[aa (C3 s).1,.bool (C3 s).2]):=by
 have hu:prog.underlying 172=some (.interface (prog.methodsAt 172)):=FC
 refine enter func186 rfl ntmps186 fun w0=>?_;refine go ?_;have bad:(∀v,Lib.atoiAll s.data.toList≠.ok v)->C3 s=(0,false):=fun h=>by
  unfold C3;cases h2:Lib.atoiAll s.data.toList with
  | ok v=>exact absurd h2 (h v)
  | _=>rfl
 match h:Lib.atoiAll s.data.toList with
 | Lib.NumEnd.ok v =>
  obtain ⟨b0,b1⟩:=Lib.atoiAll_bounds h;refine cb (fun w st=>(Tryz.strconv_Atoi_ok s EZ v h w).mono fun e w' hh=>⟨hh.1,?_⟩) ?_
  ·rcases hh.2 with rfl|⟨t,rfl⟩
   ·exact Below.refl _ _
   ·exact Lib.bytesWorld_below _ _ _
  refine go ?_;apply wO;apply oc;rfl;exact Bfn rfl hu;refine go ?_;refine ce (fun w s=>H1 _ _ _ _) ?_;cases g1:E8 (-999999) v 999999
  ·refine go ?_;rw [show C3 s=(0,false) by unfold C3;rw [h];simp [g1]];exact BC
  refine go ?_;refine cb (fun w st=>S0 v EZ EZ FT w (st.get (p:=E4 FT) FB)) ?_;refine go ?_;by_cases g2:bz (Lib.itoa v)=s
  ·rw [ay (by simpa using g2)];refine go ?_;rw [show C3 s=(v,true) by unfold C3;rw [h];simp [g1,g2]];exact BC
  ·rw [av g2];refine go ?_;rw [show C3 s=(0,false) by unfold C3;rw [h];simp [g2]];exact BC
 | Lib.NumEnd.syntax =>
  rw [bad JR];refine cx (fun v=>∃n u p,v=.tuple #[aa n,.iface u p]) (fun w st=>?_) ?_
  ·obtain ⟨tp,p,hv⟩:=(E4.env (st.get (p:=E4 FT) FB)).2.2.1;refine (Tryz.strconv_Atoi_syntax_var s EZ h tp p w hv).mono ?_;rintro e w' ⟨N,rfl, -, -,hB⟩;exact ⟨_,⟨_,_,_,rfl⟩,rfl,hB⟩
  rintro _ ⟨n,u,p,rfl⟩;refine go ?_;apply wO;apply oc;rfl;exact Baj rfl hu;exact AA
 | Lib.NumEnd.range =>
  rw [bad JR];refine cx (fun v=>∃n u p,v=.tuple #[aa n,.iface u p]) (fun w st=>?_) ?_
  ·obtain ⟨tp,p,hv⟩:=(E4.env (st.get (p:=E4 FT) FB)).2.2.2;refine (Tryz.strconv_Atoi_range_var s EZ h tp p w hv).mono ?_;rintro e w' ⟨N,rfl, -, -,hB⟩;exact ⟨_,⟨_,_,_,rfl⟩,rfl,hB⟩
  rintro _ ⟨n,u,p,rfl⟩;refine go ?_;apply wO;apply oc;rfl;exact Baj rfl hu;exact AA
theorem Aqk (u:Nat) (h:u<=999999):C3 (bz (Lib.decDigits u))=((u:Int),true):=by
 unfold C3;rw [I1,As1 u EZ];have e:Lib.itoa (u:Int)=Lib.decDigits u:=by unfold Lib.itoa;rw [aC EZ];simp
 simp only [e];rw [show E8 (-999999) (u:Int) 999999=true by unfold E8;rw [av EZ,av EZ];rfl];simp
def Aph (n:Int):Bs:=Lib.decDigits n.toNat
def atW (ws:List Bs) (i:Nat):Bs:=ws.getD i []
theorem Ba9 {n:Int} (h:n<=1000000):(Aph n).length<=7:=Dv 6 _ EZ
section
variable {c:Cx} {fr:Fr} {H:List Pc} {Φ:Gl}
end
set_option maxRecDepth 100000
theorem fI {p:Prop} (h:p:=by exact ⟨⟨_,_,rfl,rfl,rfl,rfl⟩,FC,FA⟩):p:=h
theorem aI {p:Prop} (h:p:=by exact ⟨⟨_,rfl,rfl⟩,FC⟩):p:=h
theorem sI {p:Prop} (h:p:=by exact ⟨rfl,FC⟩):p:=h
theorem bI {p:Prop} (h:p:=by exact ⟨fun parts=>by kernel_rfl⟩):p:=h
theorem eI {p:Prop} (h:p:=by exact ⟨FC,rfl⟩):p:=h
theorem zI {p:Prop} (h:p:=by exact ⟨⟨_,rfl,rfl⟩⟩):p:=h
theorem iI {p:Prop} (h:p:=by exact ⟨rfl⟩):p:=h
instance:OneC prog 3:=aI
instance:IntC prog 3 .i64:=iI
instance:ZC prog 3 [aa 0]:=zI
instance:ElT prog 3 (aa 0) 1 8:=eI
instance:OneC prog 5:=aI
instance:IntC prog 5 .u8:=iI
instance:ElT prog 5 (.int .u8 0) 1 1:=eI
instance:OneC prog 58:=aI
instance:IntC prog 58 .u64:=iI
instance:IntC prog 146 .u64:=iI
instance:OneC prog 4:=aI
instance:BoolC prog 4:=iI
instance:OneC prog 9:=aI
instance:StrC prog 9:=iI
instance:ZC prog 9 [af ⟨#[]⟩]:=zI
instance:ElT prog 9 (af ⟨#[]⟩) 1 16:=eI
instance:AggC prog 26 1:=aI
instance:FldC prog 26 0 0 24 1:=fI
instance:ZC prog 26 [ab none 0 0]:=zI
instance:BldC prog 26 [(0,1)] [ab none 0 0]:=bI
instance:AggC prog 29 3:=aI
instance:FldC prog 29 0 0 3 1:=fI
instance:FldC prog 29 1 1 3 1:=fI
instance:FldC prog 29 2 2 27 1:=fI
instance:ZC prog 29 [aa 0,aa 0,ab none 0 0]:=zI
instance:BldC prog 29 [(0,1),(1,1),(2,1)] [aa 0,aa 0,ab none 0 0]:=bI
instance:AggC prog 32 6:=aI
instance:FldC prog 32 0 0 29 3:=fI
instance:FldC prog 32 1 3 3 1:=fI
instance:FldC prog 32 2 4 3 1:=fI
instance:FldC prog 32 3 5 30 1:=fI
instance:ZC prog 32 [aa 0,aa 0,ab none 0 0,aa 0,aa 0,ab none 0 0]:=zI
instance:BldC prog 32 [(0,3),(3,1),(4,1),(5,1)] [aa 0,aa 0,ab none 0 0,aa 0,aa 0,ab none 0 0]:=bI
instance:AggC prog 37 11:=aI
instance:FldC prog 37 0 0 26 1:=fI
instance:FldC prog 37 1 1 32 6:=fI
instance:FldC prog 37 2 7 33 1:=fI
instance:FldC prog 37 3 8 34 1:=fI
instance:FldC prog 37 4 9 35 1:=fI
instance:FldC prog 37 5 10 35 1:=fI
instance:ZC prog 37 [ab none 0 0,aa 0,aa 0,ab none 0 0,aa 0,aa 0,ab none 0 0,ab none 0 0,ab none 0 0,ab none 0 0,ab none 0 0]:=zI
instance:BldC prog 37 [(0,1),(1,6),(7,1),(8,1),(9,1),(10,1)] [ab none 0 0,aa 0,aa 0,ab none 0 0,aa 0,aa 0,ab none 0 0,ab none 0 0,ab none 0 0,ab none 0 0,ab none 0 0]:=bI
instance:AggC prog 39 3:=aI
instance:FldC prog 39 0 0 9 1:=fI
instance:FldC prog 39 1 1 9 1:=fI
instance:FldC prog 39 2 2 3 1:=fI
instance:ZC prog 39 [af ⟨#[]⟩,af ⟨#[]⟩,aa 0]:=zI
instance:BldC prog 39 [(0,1),(1,1),(2,1)] [af ⟨#[]⟩,af ⟨#[]⟩,aa 0]:=bI
instance:AggC prog 41 14:=aI
instance:FldC prog 41 0 0 37 11:=fI
instance:FldC prog 41 1 11 39 3:=fI
instance:ZC prog 41 [ab none 0 0,aa 0,aa 0,ab none 0 0,aa 0,aa 0,ab none 0 0,ab none 0 0,ab none 0 0,ab none 0 0,ab none 0 0,af ⟨#[]⟩,af ⟨#[]⟩,aa 0]:=zI
instance:BldC prog 41 [(0,11),(11,3)] [ab none 0 0,aa 0,aa 0,ab none 0 0,aa 0,aa 0,ab none 0 0,ab none 0 0,ab none 0 0,ab none 0 0,ab none 0 0,af ⟨#[]⟩,af ⟨#[]⟩,aa 0]:=bI
instance:AggC prog 56 2:=aI
instance:FldC prog 56 0 0 9 1:=fI
instance:FldC prog 56 1 1 9 1:=fI
instance:ZC prog 56 [af ⟨#[]⟩,af ⟨#[]⟩]:=zI
instance:ElT prog 56 (.agg #[af ⟨#[]⟩,af ⟨#[]⟩]) 2 32:=eI
instance:BldC prog 56 [(0,1),(1,1)] [af ⟨#[]⟩,af ⟨#[]⟩]:=bI
instance:FldC prog 60 0 0 22 1:=fI
instance:FldC prog 60 1 1 3 1:=fI
instance:FldC prog 60 2 2 58 1:=fI
instance:BldC prog 60 [(0,1),(1,1),(2,1)] [ab none 0 0,aa 0,.int .u64 0]:=bI
instance:AggC prog 73 2:=aI
instance:FldC prog 73 0 0 3 1:=fI
instance:FldC prog 73 1 1 71 1:=fI
instance:ZC prog 73 [aa 0,ab none 0 0]:=zI
instance:BldC prog 73 [(0,1),(1,1)] [aa 0,ab none 0 0]:=bI
instance:AggC prog 76 5:=aI
instance:FldC prog 76 0 0 4 1:=fI
instance:FldC prog 76 1 1 3 1:=fI
instance:FldC prog 76 2 2 73 2:=fI
instance:FldC prog 76 3 4 74 1:=fI
instance:ZC prog 76 [.bool false,aa 0,aa 0,ab none 0 0,ab none 0 0]:=zI
instance:ElT prog 76 (.agg #[.bool false,aa 0,aa 0,ab none 0 0,ab none 0 0]) 5 72:=eI
instance:BldC prog 76 [(0,1),(1,1),(2,2),(4,1)] [.bool false,aa 0,aa 0,ab none 0 0,ab none 0 0]:=bI
instance:AggC prog 97 3:=aI
instance:FldC prog 97 0 0 3 1:=fI
instance:FldC prog 97 1 1 3 1:=fI
instance:FldC prog 97 2 2 9 1:=fI
instance:ZC prog 97 [aa 0,aa 0,af ⟨#[]⟩]:=zI
instance:BldC prog 97 [(0,1),(1,1),(2,1)] [aa 0,aa 0,af ⟨#[]⟩]:=bI
instance:AggC prog 107 2:=aI
instance:FldC prog 107 0 0 4 1:=fI
instance:FldC prog 107 1 1 9 1:=fI
instance:ZC prog 107 [.bool false,af ⟨#[]⟩]:=zI
instance:ElT prog 107 (.agg #[.bool false,af ⟨#[]⟩]) 2 24:=eI
instance:BldC prog 107 [(0,1),(1,1)] [.bool false,af ⟨#[]⟩]:=bI
instance:AggC prog 122 2:=aI
instance:FldC prog 122 0 0 3 1:=fI
instance:FldC prog 122 1 1 120 1:=fI
instance:ZC prog 122 [aa 0,ab none 0 0]:=zI
instance:ElT prog 122 (.agg #[aa 0,ab none 0 0]) 2 32:=eI
instance:BldC prog 122 [(0,1),(1,1)] [aa 0,ab none 0 0]:=bI
instance:AggC prog 141 5:=aI
instance:FldC prog 141 0 0 3 1:=fI
instance:FldC prog 141 1 1 3 1:=fI
instance:FldC prog 141 2 2 3 1:=fI
instance:FldC prog 141 3 3 3 1:=fI
instance:FldC prog 141 4 4 9 1:=fI
instance:ZC prog 141 [aa 0,aa 0,aa 0,aa 0,af ⟨#[]⟩]:=zI
instance:ElT prog 141 (.agg #[aa 0,aa 0,aa 0,aa 0,af ⟨#[]⟩]) 5 48:=eI
instance:BldC prog 141 [(0,1),(1,1),(2,1),(3,1),(4,1)] [aa 0,aa 0,aa 0,aa 0,af ⟨#[]⟩]:=bI
instance:AggC prog 191 2:=aI
instance:FldC prog 191 0 0 3 1:=fI
instance:FldC prog 191 1 1 3 1:=fI
instance:ZC prog 191 [aa 0,aa 0]:=zI
instance:ElT prog 191 (.agg #[aa 0,aa 0]) 2 16:=eI
instance:BldC prog 191 [(0,1),(1,1)] [aa 0,aa 0]:=bI
instance:AggC prog 193 3:=aI
instance:FldC prog 193 0 0 3 1:=fI
instance:FldC prog 193 1 1 24 1:=fI
instance:FldC prog 193 2 2 3 1:=fI
instance:ZC prog 193 [aa 0,ab none 0 0,aa 0]:=zI
instance:ElT prog 193 (.agg #[aa 0,ab none 0 0,aa 0]) 3 40:=eI
instance:BldC prog 193 [(0,1),(1,1),(2,1)] [aa 0,ab none 0 0,aa 0]:=bI
instance:AggC prog 231 4:=aI
instance:FldC prog 231 0 0 3 1:=fI
instance:FldC prog 231 1 1 3 1:=fI
instance:FldC prog 231 2 2 3 1:=fI
instance:FldC prog 231 3 3 3 1:=fI
instance:ZC prog 231 [aa 0,aa 0,aa 0,aa 0]:=zI
instance:ElT prog 231 (.agg #[aa 0,aa 0,aa 0,aa 0]) 4 32:=eI
instance:BldC prog 231 [(0,1),(1,1),(2,1),(3,1)] [aa 0,aa 0,aa 0,aa 0]:=bI
instance:OneC prog 22:=aI
instance:SlC prog 22 5 1:=sI
instance:OneC prog 24:=aI
instance:SlC prog 24 3 1:=sI
instance:OneC prog 27:=aI
instance:SlC prog 27 9 1:=sI
instance:OneC prog 30:=aI
instance:SlC prog 30 191 2:=sI
instance:OneC prog 33:=aI
instance:SlC prog 33 122 2:=sI
instance:OneC prog 34:=aI
instance:SlC prog 34 76 5:=sI
instance:OneC prog 35:=aI
instance:SlC prog 35 125 1:=sI
instance:SlC prog 52 56 2:=sI
instance:OneC prog 71:=aI
instance:SlC prog 71 107 2:=sI
instance:OneC prog 74:=aI
instance:SlC prog 74 231 4:=sI
instance:OneC prog 120:=aI
instance:SlC prog 120 193 3:=sI
instance:OneC prog 125:=aI
instance:SlC prog 125 141 5:=sI
instance:ZC prog 125 [ab none 0 0]:=zI
instance:ElT prog 125 (ab none 0 0) 1 24:=eI
instance:OneC prog 280:=aI
instance:OneC prog 326:=aI
instance:OneC prog 328:=aI
theorem Alj:∀(A:List Pc),A.all (fun p=>!p.mu)=true->Sc A
 | [],_=>trivial
 | p::A,h=>by
  simp only [dQ,aw,bA] at h;exact ⟨fun q hq hm=>by
   have hq':=aW.1 h.2 q hq;simp only [bA] at hq';rw [h.1,hq'] at hm;simp at hm,Alj A h.2⟩
section
variable {c:Cx} {fr:Fr} {H:List Pc} {d:Nat} {Φ:Gl}
theorem cfr {f:Nat} {vs:am} {σ:Type} {C:σ->Prop} {vv:σ->Value} {N:σ->List Pc} (hf:∀w,St c.G c.D c.w0 H w->∃A,Ob A w/\A.all (fun p=>!p.mu)=true/\Fn c.P f vs A [] C vv N)
  (h:∀s,C s->T c ((d,vv s)::fr) (N s++H) Φ) (hN:∀s,(N s).all (·.mu)=true:=by intro s;rfl):Cl c fr H d f vs Φ :=
 Aaq (R:=fun w e w'=>∃s,C s/\e=.returned (vv s)/\Ob (N s) w'/\Sc (N s)/\Ei [] w w'/\∀p∈N s,∀b∈p.F,w.heap.size<=b)
  (fun w s=>by
   obtain ⟨A,hA,hm,hF⟩:=hf w s;refine (hF w IZ (by simpa using Alj A hm)).mono fun e w' ⟨z,hz,he,h1,h2,h3,h4⟩=>⟨z,hz,he,h1,h2,h3,fun p hp b hb=>?_⟩;rcases h4 p hp b hb with h|⟨q,hq, -⟩|⟨hp', -⟩
   ·exact h
   ·cases hq
   ·have:=aW.1 (hN z) p hp;rw [hp'] at this;cases this)
  (fun w e w' s ⟨z,hz,he,h1,h2,h3,h4⟩=>⟨_,he,fun a g=>(h z hz).h a w' (St.turn (M:=[]) (R:=H) (N:=N z) s h3 h1 h2 fun p hp b hb=>.inl (h4 p hp b hb)) g⟩)
theorem Azd {M A R:List Pc} (hm:M.all (·.mu)=true) (hA:A.all (fun p=>!p.mu)=true) (hb:∀p∈A,∀b∈p.F,∃q∈R,b∈q.F):Sc (M++R)->Sc (M++A):=by
 induction M with
 | nil=>intro _;exact Alj A hA
 | cons p M ih =>
  simp only [dQ,aw] at hm;intro s;refine ⟨fun q hq=>?_,ih hm.2 s.2⟩;rcases aK.1 hq with h|h
  ·exact s.1 q JR
  ·intro _ b hp hq2;obtain ⟨r,hr,hbr⟩:=hb q h b hq2;exact s.1 r (by simp [hr]) (by rw [hm.1];rfl) b hp hbr
theorem cfm {f:Nat} {vs:am} {M R:List Pc} {σ:Type} {C:σ->Prop} {vv:σ->Value} {N:σ->List Pc} (hM:Kj H M R) (hf:∀w,St c.G c.D c.w0 (M++R) w->∃A,Ob A w/\A.all (fun p=>!p.mu)=true/\(∀p∈A,∀b∈p.F,∃q∈R,b∈q.F)/\Fn c.P f vs A M C vv N)
  (h:∀s,C s->T c ((d,vv s)::fr) (N s++R) Φ) (hmM:M.all (·.mu)=true:=by rfl) (hN:∀s,(N s).all (·.mu)=true:=by intro s;rfl):Cl c fr H d f vs Φ :=
 have hMR:∀w,St c.G c.D c.w0 H w->St c.G c.D c.w0 (M++R) w:=fun w s=>by simpa using hM.st (X:=[]) HT
 have hmu:∀p∈M,p.mu=true:=fun p hp=>aW.1 hmM p hp
 Aaq (R:=fun w e w'=>∃s,C s/\e=.returned (vv s)/\Ob (N s) w'/\Sc (N s)/\Ei (fp M) w w'/\∀p∈N s,∀b∈p.F,w.heap.size<=b\/∃q∈M,b∈q.F)
  (fun w s=>by
   obtain ⟨A,hA,hm,hb,hF⟩:=hf w (hMR w s);have s2:=hMR w s;refine (hF w (fun p hp=>?_) (Azd hmM hm hb s2.sep)).mono fun e w' ⟨z,hz,he,h1,h2,h3,h4⟩=>⟨z,hz,he,h1,h2,h3,fun p hp b hb=>?_⟩
   ·rcases aK.1 hp with hp|hp
    ·exact s2.on p HH
    ·exact hA p hp
   ·rcases h4 p hp b hb with h|h|⟨hp', -⟩
    ·exact .inl h
    ·exact .inr h
    ·have:=aW.1 (hN z) p hp;rw [hp'] at this;cases this)
  (fun w e w' s ⟨z,hz,he,h1,h2,h3,h4⟩=>⟨_,he,fun a g=>(h z hz).h a w' (St.turn (hMR w s) (by rwa [dy.2 hmu]) h1 h2 fun p hp b hb=>by
   rcases h4 p hp b hb with h|⟨q,hq,hqb⟩
   ·exact .inl h
   ·exact .inr (.inl ⟨q,hq,hmu q hq,hqb⟩)) g⟩)
theorem Alp {α:Type} {E:Bt α} (Q:α->Prop) (hQ:∀w cs x F,E.L8 w cs x F->Q x) {a:aj} {n cp:Nat} {xs:List α} {F:aq} (h:(∀x∈xs,Q x)->T c fr H Φ) (hm:.sl E (ab a n cp) xs F∈H:=by exact Bl):T c fr H Φ:=.mk fun ac w s g =>
 (h fun x hx=>by
  obtain ⟨k,hk,rfl⟩:=bi hx;obtain ⟨-,hs⟩:=s.get hm;obtain ⟨-, -,cs,F1, -,h1, -, -⟩:=hs.at k hk;exact hQ _ _ _ _ h1).h ac w s g
theorem Vz {P:Program} {fn:Func} {G D:aq} {w0:World} {n:Nat} {R:Ending->World->Prop} (h:T ⟨P,G,D,w0,n,bodyPost P fn R⟩ fr H (.fin .ret)):T ⟨P,G,D,w0,n,bodyPost P fn R⟩ fr H (.norm []):=Bgd ⟨fun a w s g=>h.h a w s g⟩
end
theorem Axe {n:Int} (h:0<=n):Lib.itoa n=Aph n:=by unfold Lib.itoa Aph;rw [aC EZ]
theorem Ax5 (n:Int) (h0:0<=n) (h1:n<=1000000) (w:World):Calls prog 33 #[aa n] w (RB (af (bz (Aph n))) w):=by
 obtain ⟨k,rfl⟩:∃k:Nat,n=k:=⟨n.toNat,EZ⟩;refine (Vl 6 k w EZ EZ).mono ?_;rintro e w2 ⟨rfl,j,rfl⟩;exact ⟨rfl,E5 (Below.refl _ _) j⟩
structure Bf1 where
 o:List Bs
 f:Nat
 k:Nat
 a:aj
 c:Nat
 F:aq
structure Bf0 (b:UInt8) (s:au) (z:Bf1):Prop where
 k:z.k<=s.size
 f:z.f<=z.k
 l:z.o.length<=z.f
 e:Dm b s.data.toList=z.o++Dm b (s.data.toList.drop z.f)
 n:∀x∈(s.data.toList.drop z.f).take (z.k - z.f),x≠b
theorem Ya (s:au) (b:UInt8) (hs:s.size<=16777216):Fn prog 26 [af s,.int .u8 (b.toNat:Int)] [] [] (fun (_:aj × Nat × aq)=>True) (fun z=>.slice z.1 ((Dm b s.data.toList).map bz).length z.2.1) (fun z=>[.ow A8 9 (.slice z.1 ((Dm b s.data.toList).map bz).length z.2.1) ((Dm b s.data.toList).map bz) z.2.2]):=by
 refine enter func26 rfl ntmps26 fun w0=>?_;refine go ?_;intros;refine Cy A8 ?_;refine go ?_;refine Bx [0,1,4] (fun z:Bf1=>[(5,.slice z.a (z.o.map bz).length z.c),(6,aa (z.f:Nat)),(7,aa (z.k:Nat))]) (fun z=>[.ow A8 9 (.slice z.a (z.o.map bz).length z.c) (z.o.map bz) z.F]) (Bf0 b s) (fun z=>s.size - z.k) ⟨[],0,0,_,_,_⟩ ⟨aG _,aL _,aL _,rfl,FB⟩ fun z hz=>?_;obtain ⟨z1,z2,z3,z4,z5⟩:=hz;have hml:(z.o.map bz).length=z.o.length:=bf ..;refine go ?_;refine A4 rfl (fun h1=>?_) (fun h1=>?_)
 ·have hk:z.k < s.size:=EZ
  have hkl:z.k < s.data.toList.length:=by rw [Cp];exact hk
  refine go ?_;refine A4 rfl (fun h2=>?_) (fun h2=>?_)
  ·have hb:s[z.k]=b:=UInt8.toNat_inj.1 (by have:((s[z.k]).toNat:Int)=(b.toNat:Int):=h2;omega);have h3:=Apk (l:=s.data.toList) z2 hkl;rw [Awl s z.k hk,hb] at h3;have h4:Dm b (s.data.toList.drop z.f)=(s.data.toList.drop z.f).take (z.k - z.f)::Dm b (s.data.toList.drop (z.k+1)):=by rw [h3,Yk _ z5,<-h3]
   have hx:(s.extract z.f z.k).size<=maxLen:=by unfold maxLen;simp;omega
   refine Io ?_;intros;apply wO;apply oc;rfl;exact Bft rfl rfl rfl EZ EZ EZ;refine Io ?_;intros;rw [show s.extract ((z.f:Nat):Int).toNat ((z.k:Nat):Int).toNat=s.extract z.f z.k from rfl];apply wO;refine Nb (Abc hx) Do fun a9 c9 F9=>?_;refine go ?_;have e9:z.o.map bz++[s.extract z.f z.k]=(z.o++[(s.data.toList.drop z.f).take (z.k - z.f)]).map bz:=by rw [bD,Bf7 s z.f z.k];rfl
   rw [e9];refine Ca ⟨z.o++[(s.data.toList.drop z.f).take (z.k - z.f)],z.k+1,z.k+1,a9,c9,F9⟩ ⟨by show z.k+1<=s.size;omega,aL _,by show (z.o++[_]).length<=z.k+1;simp;omega,by show _=(z.o++[_])++Dm b (s.data.toList.drop (z.k+1));rw [z4,h4];simp,by show ∀x∈(s.data.toList.drop (z.k+1)).take (z.k+1 - (z.k+1)),x≠b;simp⟩ (by show s.size - (z.k+1) < s.size - z.k;omega)
  ·refine go ?_;refine Ca ⟨z.o,z.f,z.k+1,z.a,z.c,z.F⟩ ⟨by show z.k+1<=s.size;omega,by show z.f<=z.k+1;omega,z3,z4,by
    show ∀x∈(s.data.toList.drop z.f).take (z.k+1 - z.f),x≠b;rw [Avh z2 hkl,Awl s z.k hk];intro x hx;rcases aK.1 hx with hx|hx
    ·exact z5 x hx
    ·rw [aM] at hx;subst hx;intro e;exact h2 (by show ((s[z.k]).toNat:Int)=(b.toNat:Int);rw [e])⟩ (by show s.size - (z.k+1) < s.size - z.k;omega)
 ·have hke:z.k=s.size:=EZ
  have h4:Dm b s.data.toList=z.o++[s.data.toList.drop z.f]:=by
   rw [z4,Sn];rw [aV FF] at z5;exact z5
  have hx:(s.extract z.f s.size).size<=maxLen:=by unfold maxLen;simp;omega
  refine Io ?_;intros;apply wO;apply oc;rfl;exact V8 rfl rfl EZ EZ;refine Io ?_;intros;rw [show s.extract ((z.f:Nat):Int).toNat s.size=s.extract z.f s.size from rfl];apply wO;refine Nb (Abc hx) Do fun a9 c9 F9=>?_;refine go ?_;have e9:z.o.map bz++[s.extract z.f s.size]=(Dm b s.data.toList).map bz:=by rw [h4,bD,X6 s z.f];rfl
  rw [e9];refine ret (a9,c9,F9) trivial rfl
structure Pv where
 Ac:ar
def Sq:Bt Pv where
 sz:=1
 L8 w cs x F:=∃v1,cs=[v1]/\Sl Bc w v1 x.Ac F
 len h:=GU
 lt h:=GT
 frame h hF:=FY
structure Aw where
 Am:Int
 size:Int
 Ak:ai
def Cj:Bt Aw where
 sz:=3
 L8 w cs x F:=∃v1,cs=[aa x.Am,aa x.size,v1]/\Sl A8 w v1 x.Ak F
 len h:=GU
 lt h:=GT
 frame h hF:=FY
def Qu:Bt Aw where
 sz:=3
 L8 w cs x F:=∃v1,cs=[aa x.Am,aa x.size,v1]/\Ow A8 9 w v1 x.Ak F
 len h:=GU
 lt h:=KP
 frame h hF:=FY
structure Iz where
 Ae:Int
 Co:Int
def Bw:Bt Iz where
 sz:=2
 L8 _ cs x F:=cs=[aa x.Ae,aa x.Co]/\F=[]
 len h:=by obtain ⟨rfl,rfl⟩:=h;rfl
 lt h:=by obtain ⟨rfl,rfl⟩:=h;simp
 frame h _:=h
theorem Is:One Bw:=fun h u hu=>by
 obtain ⟨rfl,rfl⟩:=h;simp only [aH,aT,bm] at hu;rcases hu with rfl|rfl
 ·rfl
 ·rfl
theorem Ks:Aao Bw:=fun h=>by obtain ⟨rfl,rfl⟩:=h;rfl
theorem Ai3:(prog.info? 191).map (fun i=>(i.zero,i.size,i.bytes))=some (some (.agg #[aa 0,aa 0]),2,16):=by kernel_rfl
structure Cr where
 Aa:Aw
 Ai:Int
 quiet:Int
 holds:List Iz
def Ex:Bt Cr where
 sz:=6
 L8 w cs x F:=∃v1 v2 F1 F2,cs=[aa x.Aa.Am,aa x.Aa.size,v1,aa x.Ai,aa x.quiet,v2]/\Sl A8 w v1 x.Aa.Ak F1/\Sl Bw w v2 x.holds F2/\F=F1++F2
 len h:=HM
 lt h:=by
  obtain ⟨v1,v2,F1,F2,rfl,h1,h2,rfl⟩:=h;intro b hb;simp only [aK] at hb;rcases hb with hb|hb
  ·exact h1.lt FA b hb
  ·exact h2.lt FA b hb
 frame h hF:=FK
def X0:Bt Cr where
 sz:=6
 L8 w cs x F:=∃v1 v2 F1 F2,cs=[aa x.Aa.Am,aa x.Aa.size,v1,aa x.Ai,aa x.quiet,v2]/\Ow A8 9 w v1 x.Aa.Ak F1/\Ow Bw 191 w v2 x.holds F2/\F=F1++F2
 len h:=HM
 lt h:=by
  obtain ⟨v1,v2,F1,F2,rfl,h1,h2,rfl⟩:=h;intro b hb;simp only [aK] at hb;rcases hb with hb|hb
  ·exact h1.lt b hb
  ·exact h2.lt b hb
 frame h hF:=FK
structure Ha where
 Ae:Int
 Bj:ar
 Co:Int
def Dz:Bt Ha where
 sz:=3
 L8 w cs x F:=∃v1,cs=[aa x.Ae,v1,aa x.Co]/\Sl Bc w v1 x.Bj F
 len h:=GU
 lt h:=GT
 frame h hF:=FY
theorem Vr:One Dz:=fun h u hu=>by
 obtain ⟨v1,rfl,h1⟩:=h;simp only [aH,aT,bm] at hu;rcases hu with rfl|rfl|rfl
 ·rfl
 ·exact h1.one
 ·rfl
theorem Zt:(prog.info? 193).map (fun i=>(i.zero,i.size,i.bytes))=some (some (.agg #[aa 0,ab none 0 0,aa 0]),3,40):=by kernel_rfl
def Et:Bt Ha where
 sz:=3
 L8 w cs x F:=∃v1,cs=[aa x.Ae,v1,aa x.Co]/\Ow Bc 3 w v1 x.Bj F
 len h:=GU
 lt h:=KP
 frame h hF:=FY
theorem Te:One Et:=fun h u hu=>by
 obtain ⟨v1,rfl,h1⟩:=h;simp only [aH,aT,bm] at hu;rcases hu with rfl|rfl|rfl
 ·rfl
 ·exact h1.one
 ·rfl
theorem Qo:Mq Et Dz:=⟨rfl,fun h=>by
 obtain ⟨v1,rfl,h1⟩:=h;obtain ⟨G1,g1,k1⟩:=h1.sl (Mq.refl _);exact ⟨G1,g1,v1,rfl,k1⟩⟩
structure Bh where
 Ai:Int
 Ah:List Ha
def Bv:Bt Bh where
 sz:=2
 L8 w cs x F:=∃v1,cs=[aa x.Ai,v1]/\Sl Dz w v1 x.Ah F
 len h:=GU
 lt h:=GT
 frame h hF:=FY
theorem Ak9:One Bv:=fun h u hu=>by
 obtain ⟨v1,rfl,h1⟩:=h;simp only [aH,aT,bm] at hu;rcases hu with rfl|rfl
 ·rfl
 ·exact h1.one
def Ce:Bt Bh where
 sz:=2
 L8 w cs x F:=∃v1,cs=[aa x.Ai,v1]/\Ow Et 193 w v1 x.Ah F
 len h:=GU
 lt h:=KP
 frame h hF:=FY
theorem Rw:One Ce:=fun h u hu=>by
 obtain ⟨v1,rfl,h1⟩:=h;simp only [aH,aT,bm] at hu;rcases hu with rfl|rfl
 ·rfl
 ·exact h1.one
theorem Kc:Mq Ce Bv:=⟨rfl,fun h=>by
 obtain ⟨v1,rfl,h1⟩:=h;obtain ⟨G1,g1,k1⟩:=h1.sl Qo;exact ⟨G1,g1,v1,rfl,k1⟩⟩
structure Ic where
 Wm:Bool
 Dn:au
def Cw:Bt Ic where
 sz:=2
 L8 _ cs x F:=cs=[.bool x.Wm,af x.Dn]/\x.Dn.size<=maxLen/\F=[]
 len h:=by obtain ⟨rfl,s1,rfl⟩:=h;rfl
 lt h:=by obtain ⟨rfl,s1,rfl⟩:=h;simp
 frame h _:=h
theorem Iu:One Cw:=fun h u hu=>by
 obtain ⟨rfl,s1,rfl⟩:=h;simp only [aH,aT,bm] at hu;rcases hu with rfl|rfl
 ·rfl
 ·rfl
theorem Ia:Aao Cw:=fun h=>by obtain ⟨rfl,s1,rfl⟩:=h;rfl
theorem Ats:(prog.info? 107).map (fun i=>(i.zero,i.size,i.bytes))=some (some (.agg #[.bool false,af ⟨#[]⟩]),2,24):=by kernel_rfl
structure Aj where
 next:Int
 Ap:List Ic
def Br:Bt Aj where
 sz:=2
 L8 w cs x F:=∃v1,cs=[aa x.next,v1]/\Sl Cw w v1 x.Ap F
 len h:=GU
 lt h:=GT
 frame h hF:=FY
structure Az where
 Ae:Int
 state:Int
 Co:Int
 Ee:Int
def Ay:Bt Az where
 sz:=4
 L8 _ cs x F:=cs=[aa x.Ae,aa x.state,aa x.Co,aa x.Ee]/\F=[]
 len h:=by obtain ⟨rfl,rfl⟩:=h;rfl
 lt h:=by obtain ⟨rfl,rfl⟩:=h;simp
 frame h _:=h
theorem Db:One Ay:=fun h u hu=>by
 obtain ⟨rfl,rfl⟩:=h;simp only [aH,aT,bm] at hu;rcases hu with rfl|rfl|rfl|rfl
 ·rfl
 ·rfl
 ·rfl
 ·rfl
theorem Dy:Aao Ay:=fun h=>by obtain ⟨rfl,rfl⟩:=h;rfl
structure A1 where
 Be:Bool
 Ai:Int
 Aa:Aj
 Ao:List Az
def B8:Bt A1 where
 sz:=5
 L8 w cs x F:=∃v1 v2 F1 F2,cs=[.bool x.Be,aa x.Ai,aa x.Aa.next,v1,v2]/\Sl Cw w v1 x.Aa.Ap F1/\Sl Ay w v2 x.Ao F2/\F=F1++F2
 len h:=HM
 lt h:=by
  obtain ⟨v1,v2,F1,F2,rfl,h1,h2,rfl⟩:=h;intro b hb;simp only [aK] at hb;rcases hb with hb|hb
  ·exact h1.lt FA b hb
  ·exact h2.lt FA b hb
 frame h hF:=FK
def B9:Bt A1 where
 sz:=5
 L8 w cs x F:=∃v1 v2 F1 F2,cs=[.bool x.Be,aa x.Ai,aa x.Aa.next,v1,v2]/\Ow Cw 107 w v1 x.Aa.Ap F1/\Ow Ay 231 w v2 x.Ao F2/\F=F1++F2
 len h:=HM
 lt h:=by
  obtain ⟨v1,v2,F1,F2,rfl,h1,h2,rfl⟩:=h;intro b hb;simp only [aK] at hb;rcases hb with hb|hb
  ·exact h1.lt b hb
  ·exact h2.lt b hb
 frame h hF:=FK
theorem Qr:One B9:=fun h u hu=>by
 obtain ⟨v1,v2,F1,F2,rfl,h1,h2,rfl⟩:=h;simp only [aH,aT,bm] at hu;rcases hu with rfl|rfl|rfl|rfl|rfl
 ·rfl
 ·rfl
 ·rfl
 ·exact h1.one
 ·exact h2.one
theorem Qt:Mq B9 B8:=⟨rfl,fun h=>by
 obtain ⟨v1,v2,F1,F2,rfl,h1,h2,rfl⟩:=h;obtain ⟨G1,g1,k1⟩:=h1.sl (Mq.refl _);obtain ⟨G2,g2,k2⟩:=h2.sl (Mq.refl _);refine ⟨G1++G2,?_,v1,v2,G1,G2,rfl,k1,k2,rfl⟩;intro b hb;simp only [aK] at hb ⊢;rcases hb with hb|hb
 ·simp [g1 b hb]
 ·simp [g2 b hb]⟩
structure As where
 Cq:Int
 Ae:Int
 Am:Int
 E7:Int
 data:au
def An:Bt As where
 sz:=5
 L8 _ cs x F:=cs=[aa x.Cq,aa x.Ae,aa x.Am,aa x.E7,af x.data]/\x.data.size<=maxLen/\F=[]
 len h:=by obtain ⟨rfl,s1,rfl⟩:=h;rfl
 lt h:=by obtain ⟨rfl,s1,rfl⟩:=h;simp
 frame h _:=h
theorem Ho:One An:=fun h u hu=>by
 obtain ⟨rfl,s1,rfl⟩:=h;simp only [aH,aT,bm] at hu;rcases hu with rfl|rfl|rfl|rfl|rfl
 ·rfl
 ·rfl
 ·rfl
 ·rfl
 ·rfl
theorem Jm:Aao An:=fun h=>by obtain ⟨rfl,s1,rfl⟩:=h;rfl
end Go.Proofs.YtkoldibamfjghaaGreatDoor
namespace Go.Proofs.YtkoldibamfjghaaGreatDoor

open Go.RowKit
end Go.Proofs.YtkoldibamfjghaaGreatDoor
namespace Go.Proofs.YtkoldibamfjghaaGreatDoor
open Go.RowKit
structure Du where
 Al:Pv
 Ab:Cr
 Af:List Bh
 Ad:List A1
 down:List (List As)
 up:List (List As)
def Pb:Bt Du where
 sz:=11
 L8 w cs x F:=∃v1 v2 v3 v4 v5 v6 v7 F1 F2 F3 F4 F5 F6 F7,cs=[v1,aa x.Ab.Aa.Am,aa x.Ab.Aa.size,v2,aa x.Ab.Ai,aa x.Ab.quiet,v3,v4,v5,v6,v7]/\Sl Bc w v1 x.Al.Ac F1/\Sl A8 w v2 x.Ab.Aa.Ak F2/\Sl Bw w v3 x.Ab.holds F3/\Sl Bv w v4 x.Af F4/\Sl B8 w v5 x.Ad F5/\Sl (Oa An FA) w v6 x.down F6/\Sl (Oa An FA) w v7 x.up F7/\F=F1++F2++F3++F4++F5++F6++F7
 len h:=JF
 lt h:=by
  obtain ⟨v1,v2,v3,v4,v5,v6,v7,F1,F2,F3,F4,F5,F6,F7,rfl,h1,h2,h3,h4,h5,h6,h7,rfl⟩:=h;intro b hb;simp only [aK] at hb;rcases hb with (((((hb|hb)|hb)|hb)|hb)|hb)|hb
  ·exact h1.lt FA b hb
  ·exact h2.lt FA b hb
  ·exact h3.lt FA b hb
  ·exact h4.lt FA b hb
  ·exact h5.lt FA b hb
  ·exact h6.lt FA b hb
  ·exact h7.lt FA b hb
 frame h hF:=FP
def Aam:Bt Du where
 sz:=11
 L8 w cs x F:=∃v1 v2 v3 v4 v5 v6 v7 F1 F2 F3 F4 F5 F6 F7,cs=[v1,aa x.Ab.Aa.Am,aa x.Ab.Aa.size,v2,aa x.Ab.Ai,aa x.Ab.quiet,v3,v4,v5,v6,v7]/\Ow Bc 3 w v1 x.Al.Ac F1/\Ow A8 9 w v2 x.Ab.Aa.Ak F2/\Ow Bw 191 w v3 x.Ab.holds F3/\Ow Ce 122 w v4 x.Af F4/\Ow B9 76 w v5 x.Ad F5/\Ow (Ki An 141) 125 w v6 x.down F6/\Ow (Ki An 141) 125 w v7 x.up F7/\F=F1++F2++F3++F4++F5++F6++F7
 len h:=JF
 lt h:=by
  obtain ⟨v1,v2,v3,v4,v5,v6,v7,F1,F2,F3,F4,F5,F6,F7,rfl,h1,h2,h3,h4,h5,h6,h7,rfl⟩:=h;intro b hb;simp only [aK] at hb;rcases hb with (((((hb|hb)|hb)|hb)|hb)|hb)|hb
  ·exact h1.lt b hb
  ·exact h2.lt b hb
  ·exact h3.lt b hb
  ·exact h4.lt b hb
  ·exact h5.lt b hb
  ·exact h6.lt b hb
  ·exact h7.lt b hb
 frame h hF:=FP
theorem Xy:Mq Aam Pb:=⟨rfl,fun h=>by
 obtain ⟨v1,v2,v3,v4,v5,v6,v7,F1,F2,F3,F4,F5,F6,F7,rfl,h1,h2,h3,h4,h5,h6,h7,rfl⟩:=h;obtain ⟨G1,g1,k1⟩:=h1.sl (Mq.refl _);obtain ⟨G2,g2,k2⟩:=h2.sl (Mq.refl _);obtain ⟨G3,g3,k3⟩:=h3.sl (Mq.refl _);obtain ⟨G4,g4,k4⟩:=h4.sl Kc;obtain ⟨G5,g5,k5⟩:=h5.sl Qt;obtain ⟨G6,g6,k6⟩:=h6.sl (Pt (Mq.refl _) FA _);obtain ⟨G7,g7,k7⟩:=h7.sl (Pt (Mq.refl _) FA _);refine ⟨G1++G2++G3++G4++G5++G6++G7,?_,v1,v2,v3,v4,v5,v6,v7,G1,G2,G3,G4,G5,G6,G7,rfl,k1,k2,k3,k4,k5,k6,k7,rfl⟩;intro b hb;simp only [aK] at hb ⊢;rcases hb with (((((hb|hb)|hb)|hb)|hb)|hb)|hb
 ·simp [g1 b hb]
 ·simp [g2 b hb]
 ·simp [g3 b hb]
 ·simp [g4 b hb]
 ·simp [g5 b hb]
 ·simp [g6 b hb]
 ·simp [g7 b hb]⟩
-- markNet: a nested struct with several slices is not written here
def Ad2 (l:ar) (i:Nat):Bool:=match l[i]? with
 | some p=>if i=0 then decide (p=-1) else E8 0 p ((i:Int) - 1)
 | none=>true
def Hj (t:Pv):Bool:=E8 2 (t.Ac.length:Int) 8 && Ov (Ad2 t.Ac) t.Ac.length
theorem Qf {l:ar} (h:0 < l.length):Ad2 l 0=decide (l[0]=-1):=by unfold Ad2;rw [aD h];rfl
theorem Sm {l:ar} {i:Nat} (h:i < l.length) (h0:0 < i):Ad2 l i=E8 0 l[i] ((i:Int) - 1):=by
 unfold Ad2;rw [aD h];show (if i=0 then _ else _)=_;rw [aC EZ]
structure Lv (l:ar):Prop where
 n0:2<=l.length
 n1:l.length<=8
 z:∀h:0 < l.length,l[0]=-1
 p:∀i (h:i < l.length),0 < i->0<=l[i]/\l[i] < i
theorem Gf {t:Pv} (h:Hj t=true):Lv t.Ac:=by
 unfold Hj at h;rw [aw] at h;obtain ⟨h1,h2⟩:=h;unfold E8 at h1;simp only [aw,aF] at h1;refine ⟨EZ,EZ,fun h=>?_,fun i h h0=>?_⟩
 ·have:=Jp h2 0 h;rw [Qf h] at this;exact du this
 ·have:=Jp h2 i h;rw [Sm h h0] at this;unfold E8 at this;simp only [aw,aF] at this;omega
theorem Atj {t:Pv} (h:E8 2 (t.Ac.length:Int) 8=false):Hj t=false:=by unfold Hj;rw [h];rfl
theorem Aay {t:Pv} {i:Nat} (hi:i < t.Ac.length) (h:Ad2 t.Ac i=false):Hj t=false:=by unfold Hj;rw [Lr hi h,ci]
def J9 (l:ar) (node:Int) (k:Nat):ar:=((List.range k).filter fun i=>decide (l[i]?=some node)).map fun (i:Nat)=>((i:Nat):Int)
def Ij (l:ar) (node:Int):ar:=J9 l node l.length
theorem Apw {l:ar} {node:Int} {k:Nat} (h:k < l.length) (e:l[k]=node):J9 l node (k+1)=J9 l node k++[(k:Int)]:=by
 unfold J9;rw [dm,bW,bD];simp [aD h,e]
theorem Atx {l:ar} {node:Int} {k:Nat} (h:k < l.length) (e:¬l[k]=node):J9 l node (k+1)=J9 l node k:=by
 unfold J9;rw [dm,bW,bD];simp [aD h,e]
theorem Aga (l:ar) (node:Int) (k:Nat):(J9 l node k).length<=k:=by
 unfold J9;rw [bf];exact bG (bJ _ _) FB
theorem Ane {l:ar} {node x:Int} (h:x∈Ij l node):∃i,∃hi:i < l.length,x=(i:Int)/\l[i]=node:=by
 unfold Ij J9 at h;obtain ⟨i,hi,rfl⟩:=bL.1 h;obtain ⟨h1,h2⟩:=bP.1 hi;have h3:=cP.1 h1;have h4:=du h2;rw [aD h3] at h4;exact ⟨i,h3,rfl,Option.some.inj h4⟩
def D5 (l:ar) (node:Int):Bool:=!decide (node∈l)
theorem Aji (l:ar) (node:Int):D5 l node=decide (Ij l node=[]):=by
 unfold D5;by_cases h:node∈l
 ·obtain ⟨i,hi,rfl⟩:=bi h;have:(i:Int)∈Ij l l[i]:=by
   unfold Ij J9;exact bL.2 ⟨i,bP.2 ⟨cP.2 hi,by simp [aD hi]⟩,rfl⟩
  rw [av h,ay fun e=>by rw [e] at this;cases this];rfl
 ·have:Ij l node=[]:=eS.2 fun x hx=>by
   obtain ⟨i,hi, -,e⟩:=Ane hx;exact h (e▸aB hi)
  rw [ay h,av this];rfl
def Tr (l:ar) (node:Int) (k:Nat):ar:=((List.range k).filter fun i=>decide (l[i+1]?=some node)).map fun (i:Nat)=>((i+1:Nat):Int)
theorem Adr (l:ar) (node:Int) (k:Nat):J9 l node (k+1)=J9 l node k++if l[k]?=some node then [(k:Int)] else []:=by
 unfold J9;rw [dm,bW,bD]
 split <;> simp_all
theorem Zw (l:ar) (node:Int) (k:Nat):Tr l node (k+1)=Tr l node k++if l[k+1]?=some node then [((k+1:Nat):Int)] else []:=by
 unfold Tr;rw [dm,bW,bD]
 split <;> simp_all
theorem Anc {l:ar} {node:Int} (hz:J9 l node 1=[]):∀k,J9 l node (k+1)=Tr l node k
 | 0=>by rw [hz];rfl
 | k+1=>by rw [Adr,Anc hz k,Zw]
theorem Ai7 {l:ar} {node:Int} (hz:J9 l node 1=[]) {k:Nat} (hk:k+1=l.length):Tr l node k=Ij l node:=by
 rw [<-Anc hz];unfold Ij;rw [hk]
theorem Atw {l:ar} {node:Int} {k:Nat} (h:k+1 < l.length) (e:l[k+1]=node):Tr l node (k+1)=Tr l node k++[((k+1:Nat):Int)]:=by
 rw [Zw,aD h,e,aJ rfl]
theorem Axl {l:ar} {node:Int} {k:Nat} (h:k+1 < l.length) (e:¬l[k+1]=node):Tr l node (k+1)=Tr l node k:=by
 rw [Zw,aD h,aC JZ,bg]
theorem Ai8 (l:ar) (node:Int) (k:Nat):(Tr l node k).length<=k:=by
 unfold Tr;rw [bf];exact bG (bJ _ _) FB
theorem Qb {l:ar} {node:Int} (hz:∀h:0 < l.length,l[0]=-1) (h:0<=node):J9 l node 1=[]:=by
 rw [Adr];by_cases h0:0 < l.length
 ·have:=hz h0;rw [aD h0,aC FF];rfl
 ·rw [br EZ];rfl
def Bz (x:Int):Bool:=E8 0 x 65535
def Kq (x:Int):Bool:=E8 0 x 9999
def Oi (x:Int):Bool:=E8 1 x 7
theorem I6 (x:Int) (w:World):Calls prog 147 #[aa x] w fun e w'=>e=.returned (.bool (Bz x))/\w=w':=by
 go_enter func147,ntmps147
 go_wp2_with (go_at_call 106;refine (H1 _ _ _ _).mono ?_;rintro e w' ⟨rfl,rfl⟩)
 go_ret
 exact DT
theorem Nt (x:Int) (w:World):Calls prog 96 #[aa x] w fun e w'=>e=.returned (.bool (Bz x))/\w=w':=by
 go_enter func96,ntmps96
 go_wp2_with (go_at_call 130;refine (Ka _ _ _ _).mono ?_;rintro e w' ⟨rfl,rfl⟩)
 go_ret
 exact DT
theorem Sh (x:Int) (w:World):Calls prog 146 #[aa x] w fun e w'=>e=.returned (.bool (Kq x))/\w=w':=by
 go_enter func146,ntmps146
 go_wp2_with (go_at_call 106;refine (H1 _ _ _ _).mono ?_;rintro e w' ⟨rfl,rfl⟩)
 go_ret
 exact DT
theorem Zx (x:Int) (w:World):Calls prog 202 #[aa x] w fun e w'=>e=.returned (.bool (Kq x))/\w=w':=by
 go_enter func202,ntmps202
 go_wp2_with (go_at_call 130;refine (Ka _ _ _ _).mono ?_;rintro e w' ⟨rfl,rfl⟩)
 go_ret
 exact DT
theorem Um (x:Int) (w:World):Calls prog 188 #[aa x] w fun e w'=>e=.returned (.bool (Oi x))/\w=w':=by
 go_enter func188,ntmps188
 go_wp2_with (go_at_call 106;refine (H1 _ _ _ _).mono ?_;rintro e w' ⟨rfl,rfl⟩)
 go_ret
 exact DT
def Ad5 (lo hi:Int) (zs:ar) (i:Nat):Bool:=E8 lo (zs.getD i 0) hi && (i == 0 || decide (zs.getD (i - 1) 0 < zs.getD i 0))
def Qk (lo hi:Int) (zs:ar):Bool:=Ov (Ad5 lo hi zs) zs.length
theorem Vt {lo hi:Int} {zs:ar} (h:0 < zs.length):Ad5 lo hi zs 0=E8 lo zs[0] hi:=by simp [Ad5,h]
theorem Tg {lo hi:Int} {zs:ar} {m:Nat} (h:m+1 < zs.length):Ad5 lo hi zs (m+1)=(E8 lo zs[m+1] hi && decide (zs[m]'EZ < zs[m+1])):=by
 simp [Ad5,h,show m < zs.length by omega]
theorem Afj (v:Value) (zs:ar) (F:aq) (w:World) (h:Sl Bc w v zs F) :
  Calls prog 230 #[v] w fun e w'=>e=.returned (.bool (Qk 1 7 zs))/\w=w':=by
 obtain ⟨a,cap,rfl⟩:=h.slice;obtain ⟨-,hl,hc⟩:=h.int;unfold maxLen at hl
 go_enter func230,ntmps230
 go_wp2
 go_loop [3,4,7] (fun _ _ i=>∃k:Nat,k<=zs.length/\i=aa k/\Hid (∀j,j < k->Ad5 1 7 zs j=true)) (fun _ _ i=>zs.length - (intOf i).toNat)
 case atStart=>exact ⟨0,aG _,rfl,fun j hj=>by omega⟩
 case round =>
  obtain ⟨k,hk,rfl,hz⟩:=hrel;by_cases hlt:k < zs.length
  ·obtain ⟨b,off,rfl,c0⟩:=hc k hlt;rcases k with _|m
   ·have hr:=Lib.hid (Vt (lo:=1) (hi:=7) hlt);clear hc;simp only [bR] at c0;go_wp2_with (go_at_call 188;refine (Um _ _).mono ?_;rintro e w' ⟨rfl,rfl⟩)
    ·have t:E8 1 zs[0] 7=true:=FR
     exact ⟨⟨1,EZ,HQ,U4 hz.out (by rw [hr.out,t])⟩,GJ⟩
    ·have t:¬E8 1 zs[0] 7=true:=FR
     go_ret
     exact ⟨Cn (Lr hlt (by rw [hr.out];simpa using t)).symm,rfl⟩
   ·obtain ⟨b',off',hb',c1⟩:=hc m EZ;cases hb';have hr:=Lib.hid (Tg (lo:=1) (hi:=7) hlt);clear hc;go_wp2_with (go_at_call 188;refine (Um _ _).mono ?_;rintro e w' ⟨rfl,rfl⟩)
    ·have t:zs[m+1]<=zs[m]:=FR
     go_ret
     exact ⟨Cn (Lr hlt (by rw [hr.out];simp;omega)).symm,rfl⟩
    ·have t:E8 1 zs[m+1] 7=true:=FR
     have t2:zs[m] < zs[m+1]:=FR
     exact ⟨⟨m+2,EZ,HQ,U4 hz.out (by rw [hr.out,t];simp;omega)⟩,GJ⟩
    ·have t:¬E8 1 zs[m+1] 7=true:=FR
     go_ret
     exact ⟨Cn (Lr hlt (by rw [hr.out];simp [t])).symm,rfl⟩
  ·go_wp2
   go_ret
   exact ⟨Cn (Kd (fun i hi=>hz.out i EZ)).symm,rfl⟩
theorem Ap1 (v:Value) (zs:ar) (F:aq) (lo hi:Int) (w:World) (h:Sl Bc w v zs F) :
  Calls prog 321 #[v,aa lo,aa hi] w (RB (.bool (Qk lo hi zs)) w):=by
 obtain ⟨a,cap,rfl⟩:=h.slice;obtain ⟨-,hl, -⟩:=h.int;unfold maxLen at hl
 go_enter func321,ntmps321
 go_wp2
 go_loopw [7] (fun i wr=>∃k:Nat,k<=zs.length/\i=aa k/\Hid (∀j,j < k->Ad5 lo hi zs j=true)/\Below w.heap.size w wr) (fun i _=>zs.length - (intOf i).toNat)
 case atStart=>exact ⟨0,aG _,rfl,fun j hj=>by omega,Below.refl _ _⟩
 case round =>
  obtain ⟨k,hk,rfl,hz,hB⟩:=hrel;have hc:=(h.below FA hB).int.2.2;by_cases hlt:k < zs.length
  ·obtain ⟨b,off,rfl,c0⟩:=hc k hlt;rcases k with _|m
   ·have hr:=Lib.hid (Vt (lo:=lo) (hi:=hi) hlt);clear hc;simp only [bR] at c0;cases t:E8 lo zs[0] hi
    ·go_wp2_with fail
     go_quiet ((go_at_call 130;exact Xn (Ka _ _ _ _)))
     go_wp2_with fail
     go_ret
     exact ⟨Cn (Lr hlt (by rw [hr.out,t])).symm,E5 hB _⟩
    ·go_wp2_with fail
     go_quiet ((go_at_call 130;exact Xn (Ka _ _ _ _)))
     go_wp2_with fail;exact ⟨⟨1,EZ,HQ,U4 hz.out (by rw [hr.out,t]),E5 hB _⟩,GJ⟩
   ·obtain ⟨b',off',hb',c1⟩:=hc m EZ;cases hb';have hr:=Lib.hid (Tg (lo:=lo) (hi:=hi) hlt);clear hc;cases t:E8 lo zs[m+1] hi
    ·go_wp2_with fail
     go_quiet ((go_at_call 130;exact Xn (Ka _ _ _ _)))
     go_wp2_with fail
     go_ret
     exact ⟨Cn (Lr hlt (by rw [hr.out,t];rfl)).symm,E5 hB _⟩
    ·by_cases t2:zs[m] < zs[m+1]
     ·go_wp2_with fail
      go_quiet ((go_at_call 130;exact Xn (Ka _ _ _ _)))
      go_wp2_with fail;exact ⟨⟨m+2,EZ,HQ,U4 hz.out (by rw [hr.out,t];simpa using t2),E5 hB _⟩,GJ⟩
     ·have t3:zs[m+1]<=zs[m]:=EZ
      go_wp2_with fail
      go_quiet ((go_at_call 130;exact Xn (Ka _ _ _ _)))
      go_wp2_with fail
      go_ret
      exact ⟨Cn (Lr hlt (by rw [hr.out];simp;omega)).symm,E5 hB _⟩
  ·go_wp2
   go_ret
   exact ⟨Cn (Kd (fun i hi=>hz.out i EZ)).symm,hB⟩
theorem Apz (v:Value) (zs:ar) (F:aq) (w:World) (h:Sl Bc w v zs F) :
  Calls prog 269 #[v] w (RB (.bool (Qk 1 7 zs)) w):=by
 go_enter func269,ntmps269
 go_wp2_with (go_at_call 321;refine (Ap1 _ zs F _ _ _ h).mono ?_;rintro e w' ⟨rfl,hb1⟩)
 go_ret
 exact ⟨rfl,hb1⟩
theorem Rc (fid:FuncId) (hbd:Yo prog fid) (caps:Array Value) (v:Value) (xs:List Ha) (F:aq) (p:Ha->Bool) (w:World) (h:Sl Dz w v xs F)
  (hp:∀(k:Nat) (hk:k < xs.length) (wr:World) (u:Value) (G:aq),Below w.heap.size w wr->Ro Dz wr u xs[k] G->Calls prog fid (#[u]++caps) wr fun e w'=>e=.returned (.bool (p xs[k]))/\Below wr.heap.size wr w') :
  Calls prog 287 #[v,.func (.func fid) #[] caps] w (RB (aa (Re p xs)) w):=by
 obtain ⟨a,cap,rfl⟩:=h.slice;have hl:=h.len;unfold maxLen at hl
 go_enter func287,ntmps287
 go_wp2
 go_loopw [5,8] (fun _ i wr=>∃k:Nat,k<=xs.length/\i=aa k/\Hid (∀j,j < k->∀hj:j < xs.length,p xs[j]=false)/\Below w.heap.size w wr) (fun _ i _=>xs.length - (intOf i).toNat)
 case atStart=>exact ⟨0,aG _,rfl,fun j hj=>by omega,Below.refl _ _⟩
 case round =>
  obtain ⟨k,hk,rfl,hz,hB⟩:=hrel;by_cases hlt:k < xs.length
  ·have hz0:=hz;clear hz;obtain ⟨b,off,_,F1,rfl,hx, -,ja⟩:=(h.below FA hB).at k hlt;obtain ⟨v1,rfl,h1⟩:=id hx;have a0:=ja 0 FA;have a1:=ja 1 FA;have a2:=ja 2 FA;simp only [show Dz.sz=3 from rfl,cV,bR,bM,bH] at a0 a1 a2;clear ja;have hr:=hp k hlt wr _ F1 hB ⟨_,rfl,hx⟩;have hp:=Lib.hid hp;cases hpk:p xs[k]
   all_goals
    rw [hpk] at hr;have hpk:=Lib.hid hpk;have hr:=Lib.hid hr;go_wp2_with fail;refine hbd.upon hr.out ?_;rintro e w1 ⟨rfl,hb1⟩;refine ⟨_,rfl,?_⟩;have hB:=tr hB hb1 (aL _);clear hb1;go_wp2_with fail
   ·exact AV
   ·go_ret
    exact EN
  ·go_wp2
   go_ret
   exact DG
theorem Zd (fid:FuncId) (hbd:Yo prog fid) (caps:Array Value) (v:Value) (xs:List Ha) (F:aq) (p:Ha->Bool) (w:World) (h:Sl Dz w v xs F)
  (hp:∀(k:Nat) (hk:k < xs.length) (wr:World) (u:Value) (G:aq),Below w.heap.size w wr->Ro Dz wr u xs[k] G->Calls prog fid (#[u]++caps) wr fun e w'=>e=.returned (.bool (p xs[k]))/\Below wr.heap.size wr w') :
  Calls prog 231 #[v,.func (.func fid) #[] caps] w (RB (.bool (xs.any p)) w):=by
 have hp:=Lib.hid hp
 go_enter func231,ntmps231
 go_wp2_with fail;refine (Rc fid hbd caps v xs F p _ h hp.out).mono ?_;rintro e w1 ⟨rfl,hb1⟩;go_wp2_with fail
 go_ret
 exact ⟨Cn (Sw p xs),hb1⟩
theorem Al1 (v:Value) (xs:List Ha) (F:aq) (w:World) (h:Sl Dz w v xs F) (hm:xs.length<=4294967296) :
  Calls prog 183 #[v] w fun e w'=>∃v' F',e=.returned v'/\Ow Dz 193 w' v' xs F'/\Hd F'/\(∀b,v'.ownBlock=some b->w.heap.size<=b)/\(∀b∈F',v'.ownBlock=some b\/b∈F)/\Below w.heap.size w w':=by
 obtain ⟨ao,c,news,Fy,rfl,hl,hfy,hFy,hsrc⟩:=h.src;have hFl:=hfy.lt;have he:=fun w (a:aj) (n c:Nat)=>Lib.run_eql_slice_nil (P:=prog) w 120 _ a n c 0 0 underlying120
 go_enter func183,ntmps183
 rcases hsrc with ⟨rfl,rfl,rfl⟩|⟨ad,rfl,hn⟩
 ·go_wp2
  go_ret
  exact ⟨ab none 0 0,[],rfl,.inl ⟨rfl,rfl,rfl⟩,Hd.nil,(fun b e=>by simp [Value.ownBlock] at e),FB,Below.refl _ _⟩
 ·go_wp2_with (at_builtin;refine Oz Vr FA FL _ _ _ FL 193 (.agg #[aa 0,ab none 0 0,aa 0]) 40 underlying120 Zt rfl (ab (some ⟨w.heap.size,0,none⟩) 0 0) [] [w.heap.size] FL (Ow.empty (Ib.made _ _ _)) (Hd.one _) (some ad) xs c FL news Fy (hfy.frame fun b hb=>Below.heap_alloc _ _ _ (hFl b hb)) (.inr ⟨ad,rfl,fun j u hu=>kc ((Below.refl _ _).alloc (aL _) _) (hn j u hu)⟩) (fun b hb e=>by have:=hFl b hb;simp [Value.ownBlock] at e;omega) GY GV ?_);intro v2 w2 F2 hA;go_wp2_with fail
  go_ret
  have hB:Below w.heap.size w w2:=((Below.refl _ _).alloc (aL _) _).trans (hA.I0.below FB FB);have hs:∀b,v2.ownBlock=some b->w.heap.size<=b:=fun b hb=>by rcases hA.Aqo with e|e <;> rw [e] at hb <;> simp [Value.ownBlock] at hb <;> omega
  refine ⟨v2,F2,rfl,IM,hA.hd,hs,fun b hb=>?_,hB⟩;rw [hA.Bhn [] (by simp [Value.ownBlock])] at hb;simp at hb;rcases hb with hb|hb
  ·exact .inl hb
  ·exact .inr (hFy b hb)
theorem Abw (fid:FuncId) (hbd:Yo prog fid) (caps:Array Value) (v:Value) (xs:List Ha) (F:aq) (p:Ha->Bool) (w:World) (h:Ow Et 193 w v xs F) (hn:F.Nodup)
  (hp:∀(k:Nat) (hk:k < xs.length) (wr:World) (u:Value) (G:aq),Ei F w wr->Ro Dz wr u xs[k] G->Calls prog fid (#[u]++caps) wr fun e w'=>e=.returned (.bool (p xs[k]))/\Below wr.heap.size wr w') :
  Calls prog 310 #[v,.func (.func fid) #[] caps] w fun e w'=>∃v' F',e=.returned v'/\Ow Et 193 w' v' (xs.filter fun x=>!p x) F'/\F'.Nodup/\(∀b∈F',b∈F)/\Ei F w w':=by
 obtain ⟨F1,hF1,hs⟩:=h.sl Qo;obtain ⟨a,cap,rfl⟩:=h.slice;have hl:=h.len;unfold maxLen at hl;have hp:=Lib.hid hp
 go_enter func310,ntmps310
 go_wp2_with fail;refine (Rc fid hbd caps _ xs F1 p _ hs (fun k hk wr u G hb hu=>hp.out k hk wr u G (Ei.ofBelow hb) hu)).mono ?_;rintro e w1 ⟨rfl,hb1⟩;have hK1:=Ei.ofBelow (F:=F) hb1;by_cases hany:xs.any p=true
 ·obtain ⟨k0,hk0,hfx,hpk,hfl⟩:=X7 hany;rw [hfx];obtain ⟨g,rfl, -,hg0⟩:=Gap.start (h.below hb1) hn (ys:=xs.take k0) (zs:=xs[k0]::xs.drop (k0+1)) FB EZ;obtain ⟨F0,hg0,hF0⟩:=hg0.skip;have hG0:=Lib.hid hg0;clear hg0;have hk1:((k0:Int) == -1)=false:=FB
  go_wp2_with fail
  go_loopw [5,6,7] (fun i j _ wr=>∃(q m:Nat) (F1:aq),q<=xs.length/\0 < m/\((xs.take q).filter fun x=>!p x).length+m=q/\i=aa ((xs.take q).filter fun x=>!p x).length/\j=aa q/\Hid (Gap Et 193 wr g xs.length cap ((xs.take q).filter fun x=>!p x) m (xs.drop q) F1)/\(∀b∈F1,b∈F)/\Ei F w wr) (fun _ j _ _=>xs.length - (intOf j).toNat)
  case atStart=>exact ⟨k0+1,1,F0,hk0,EZ,HG,HG,HQ,by rw [Da hk0 KK,hfl];exact hG0,hF0,hK1⟩
  case round =>
   obtain ⟨q,m,F1,hq,hm,hlen,rfl,rfl,hG,hF1,hK⟩:=hrel;obtain ⟨-,hcap, -⟩:=hG.out.caps;generalize hys:((xs.take q).filter fun x=>!p x)=ys at *;by_cases hlt:q < xs.length
   ·rw [bS hlt] at hG;obtain ⟨c,Fx,hx,hFx,hcell⟩:=hG.out.first
    obtain ⟨Fx2, -,hxe⟩:=Qo.L8 hx;obtain ⟨v1,rfl,h1⟩:=id hx;obtain ⟨d1,p1,rfl⟩:=h1.slice;have a0:=hcell 0 FA;have a1:=hcell 1 FA;have a2:=hcell 2 FA;simp only [hlen,show Et.sz=3 from rfl,cV,bR,bM,bH] at a0 a1 a2;have hr:=fun A=>hp.out q hlt (wr.alloc A) _ Fx2 (hK.alloc A) ⟨_,rfl,Dz.below hxe ((Below.refl wr.heap.size wr).alloc (aL _) A)⟩;cases hpq:p xs[q]
    ·obtain ⟨st,c2,Fx3,hx3, -,hcell2,back⟩:=hG.out.move hm;simp only [hpq] at hr;obtain rfl:=Ag6 (Et.len hx) (Et.len hx3) hcell hcell2;have st:=st;obtain ⟨⟨x0,z0⟩,g0⟩:=st 0 FA;obtain ⟨⟨x1,z1⟩,g1⟩:=st 1 FA;obtain ⟨⟨x2,z2⟩,g2⟩:=st 2 FA;simp only [show Et.sz=3 from rfl,cV,bR] at z0 g0 z1 g1 z2 g2;have hr:=Lib.hid hr;have hbk:=Lib.hid back;have hpq:=Lib.hid hpq;have hys:=Lib.hid hys;have hlen:=Lib.hid hlen;have hyl:ys.length < xs.length:=by have:=hlen.out;omega
     clear hx hxe hcell hcell2 hx3 back st hfx hpk hfl;go_wp2_with fail;refine hbd.upon (hr.out _) ?_;rintro e w2 ⟨rfl,hb2⟩;refine ⟨_,rfl,?_⟩;have b2:=(Ib.below (g:=wr.heap.size) (t:=193) (cs:=[aa xs[q].Ae,.slice d1 xs[q].Bj.length p1,aa xs[q].Co]) (by simp [Je]) hb2).cells;have hbb:=tr ((Below.refl wr.heap.size wr).alloc (aL _) _) hb2 (aL _);clear hb2;have g0:=(kf hbb z0).trans g0;have z0:=kc hbb z0;have g1:=(kf hbb z1).trans g1;have z1:=kc hbb z1;have g2:=(kf hbb z2).trans g2;have z2:=kc hbb z2;obtain ⟨F2,hg2,hF2⟩:=hbk.out w2 hbb
     simp only [Nw,show Et.sz=3 from rfl,cV] at hg2;have hg2:=Lib.hid hg2;have hgF:g∈F:=hF1 g hG.out.caps.2.2.2.2.1;go_wp2_with fail;exact ⟨⟨q+1,m,F2,EZ,hm,KL,by rw [Gz hlt IU,hys.out,aA];go_num,HQ,by rw [Gz hlt IU,hys.out];exact hg2.out,fun b hb=>hF1 b (hF2 b hb),KH⟩,GJ⟩
    ·obtain ⟨F2,hg2,hF2⟩:=hG.out.skip;simp only [hpq] at hr;have hr:=Lib.hid hr;have hg2:=Lib.hid hg2;have hpq:=Lib.hid hpq;have hys:=Lib.hid hys;have hlen:=Lib.hid hlen;clear hx hxe hcell hfx hpk hfl;go_wp2_with fail;refine hbd.upon (hr.out _) ?_;rintro e w2 ⟨rfl,hb2⟩;refine ⟨_,rfl,?_⟩;have hbb:=tr ((Below.refl wr.heap.size wr).alloc (aL _) _) hb2 (aL _);clear hb2;go_wp2_with fail
     exact BO
   ·have hqe:q=xs.length:=EZ
    subst hqe;simp only [List.drop_length,bl] at hG hys;obtain ⟨hc,F2,ho2,hn2,hF2⟩:=hG.out.done (z:=#[aa 0,ab none 0 0,aa 0]) rfl;have hmm:xs.length - ys.length=m:=EZ
    have hcl:=fun ty=>Th (P:=prog) wr 120 193 ty (.agg #[aa 0,ab none 0 0,aa 0]) underlying120 (V9 Zt) (by simp [Value.cells,Value.oneCell']) g (ys.length * 3) m (cap - ys.length) hm (fun j hj=>(hc j hj).1) (fun j hj=>(hc j hj).2);have hyl:ys.length < xs.length:=EZ
    have hgF:g∈F:=hF1 g hG.out.caps.2.2.2.2.1;have hO:=Lib.hid ho2;have hlen:=Lib.hid hlen;have hys:=Lib.hid hys;clear ho2 hc hfx hpk hfl;go_wp2_with fail
    go_ret
    exact DC
 ·obtain ⟨hfx,hfl⟩:=Aaw hany;rw [hfx];go_wp2_with fail
  go_ret
  exact ⟨_,F,rfl,by rw [hfl];exact h.below hb1,hn,fun b hb=>hb,hK1⟩
section
variable {c:Cx} {fr:Fr} {H:List Pc} {Φ:Gl}
theorem Ew {v:Value} {x:Bh} {F:aq} (h:∀(a1:aj) (c1:Nat) (F1:aq),v=.agg #[aa x.Ai,ab a1 x.Ah.length c1]->x.Ah.length<=maxLen->T c fr (.sl Dz (ab a1 x.Ah.length c1) x.Ah F1::H) Φ) (hm:.isv Bv v x F∈H:=by exact Bl):T c fr H Φ:=.mk fun a w s g=>by
 exact AI
theorem Gc (x:Bh) {a1:aj} {c1:Nat} {F1:aq}  (h:T c fr (.isv Bv (.agg #[aa x.Ai,ab a1 x.Ah.length c1]) x (F1)::H) Φ) (m1:.sl Dz (ab a1 x.Ah.length c1) x.Ah F1∈H:=by exact Bl):T c fr H Φ:=.mk fun a w s g=>by
 exact AE
theorem H2 {v:Value} {x:Bh} {F:aq} {S:List Pc} (h:∀(a1:aj) (c1:Nat) (F1:aq),v=.agg #[aa x.Ai,ab a1 x.Ah.length c1]->x.Ah.length<=maxLen->T c fr (.ow Et 193 (ab a1 x.Ah.length c1) x.Ah F1::S) Φ) (hp:C2 H (.own Ce v x F) S:=by exact Dt):T c fr H Φ:=.mk fun a w s g=>by
 have z1:=s.pick hp;obtain ⟨hn,cs,rfl,v1,rfl,h1⟩:=z1.on (.own Ce v x F) FB;obtain ⟨a1,c1,rfl⟩:=h1.slice;have l1:=h1.len;refine (h a1 c1 F rfl  l1).h a w (St.turn (M:=[.own Ce (.agg #[aa x.Ai,ab a1 x.Ah.length c1]) x _]) (N:=[.ow Et 193 (ab a1 x.Ah.length c1) x.Ah F]) z1 (Ei.refl _ w) ?_ ?_ ?_) g
 ·intro q hq;simp at hq;subst hq;exact ⟨hn,h1⟩
 ·exact ⟨FB,trivial⟩
 ·exact DL
theorem Gw (x:Bh) {a1:aj} {c1:Nat} {F1:aq} {S1:List Pc}  (h:T c fr (.own Ce (.agg #[aa x.Ai,ab a1 x.Ah.length c1]) x (F1)::S1) Φ) (m1:C2 H (.ow Et 193 (ab a1 x.Ah.length c1) x.Ah F1) S1:=by exact Dt)  : T c fr H Φ:=.mk fun a w s g=>by
 have z1:St c.G c.D c.w0 ([.ow Et 193 (ab a1 x.Ah.length c1) x.Ah F1]++S1) w:=by simpa using (show Kj H [.ow Et 193 (ab a1 x.Ah.length c1) x.Ah F1] S1 from Kj.cons m1 (Kj.nil)).st (X:=[]) HT
 obtain ⟨n1,k1⟩:=z1.on (.ow Et 193 (ab a1 x.Ah.length c1) x.Ah F1) FB;have hN:=n1;refine h.h a w (St.turn (M:=[.ow Et 193 (ab a1 x.Ah.length c1) x.Ah F1]) (N:=[.own Ce (.agg #[aa x.Ai,ab a1 x.Ah.length c1]) x (F1)]) z1 (Ei.refl _ w) (by intro q hq;simp at hq;subst hq;exact ⟨hN,_,rfl,_,rfl,k1⟩) ⟨FB,trivial⟩ fun q hq b hb=>?_) g;simp at hq;subst hq;simp only [Pc.F,aK] at hb;exact .inr (.inl ⟨_,aM.2 rfl,rfl,hb⟩)
theorem P6 {a:aj} {n cp:Nat} {xs:List Bh} {F:aq} (i:Nat) (h:∀(hi:i < xs.length) (b o:Nat) (a1:aj) (c1:Nat) (F1:aq),a=some ⟨b,o,none⟩->xs[i].Ah.length<=maxLen->T c fr (.cel b (o+i * 2) [aa xs[i].Ai,.slice a1 xs[i].Ah.length c1]::.sl Dz (.slice a1 xs[i].Ah.length c1) xs[i].Ah F1::H) Φ) (hm:.sl Bv (ab a n cp) xs F∈H:=by exact Bl) (hi:i < xs.length:=by omega):T c fr H Φ:=.mk fun ac w s g=>by
 exact AX
end
section
variable {c:Cx} {fr:Fr} {H:List Pc} {Φ:Gl}
theorem Ajo {v:Value} {x:Ha} {F:aq} (h:∀(a1:aj) (c1:Nat) (F1:aq),v=.agg #[aa x.Ae,ab a1 x.Bj.length c1,aa x.Co]->x.Bj.length<=maxLen->T c fr (.sl Bc (ab a1 x.Bj.length c1) x.Bj F1::H) Φ) (hm:.isv Dz v x F∈H:=by exact Bl):T c fr H Φ:=.mk fun a w s g=>by
 exact AI
theorem Su (x:Ha) {a1:aj} {c1:Nat} {F1:aq}  (h:T c fr (.isv Dz (.agg #[aa x.Ae,ab a1 x.Bj.length c1,aa x.Co]) x (F1)::H) Φ) (m1:.sl Bc (ab a1 x.Bj.length c1) x.Bj F1∈H:=by exact Bl):T c fr H Φ:=.mk fun a w s g=>by
 exact AE
theorem Z7 {v:Value} {x:Ha} {F:aq} {S:List Pc} (h:∀(a1:aj) (c1:Nat) (F1:aq),v=.agg #[aa x.Ae,ab a1 x.Bj.length c1,aa x.Co]->x.Bj.length<=maxLen->T c fr (.ow Bc 3 (ab a1 x.Bj.length c1) x.Bj F1::S) Φ) (hp:C2 H (.own Et v x F) S:=by exact Dt):T c fr H Φ:=.mk fun a w s g=>by
 have z1:=s.pick hp;obtain ⟨hn,cs,rfl,v1,rfl,h1⟩:=z1.on (.own Et v x F) FB;obtain ⟨a1,c1,rfl⟩:=h1.slice;have l1:=h1.len;refine (h a1 c1 F rfl  l1).h a w (St.turn (M:=[.own Et (.agg #[aa x.Ae,ab a1 x.Bj.length c1,aa x.Co]) x _]) (N:=[.ow Bc 3 (ab a1 x.Bj.length c1) x.Bj F]) z1 (Ei.refl _ w) ?_ ?_ ?_) g
 ·intro q hq;simp at hq;subst hq;exact ⟨hn,h1⟩
 ·exact ⟨FB,trivial⟩
 ·exact DL
theorem O1 (x:Ha) {a1:aj} {c1:Nat} {F1:aq} {S1:List Pc}  (h:T c fr (.own Et (.agg #[aa x.Ae,ab a1 x.Bj.length c1,aa x.Co]) x (F1)::S1) Φ) (m1:C2 H (.ow Bc 3 (ab a1 x.Bj.length c1) x.Bj F1) S1:=by exact Dt)  : T c fr H Φ:=.mk fun a w s g=>by
 have z1:St c.G c.D c.w0 ([.ow Bc 3 (ab a1 x.Bj.length c1) x.Bj F1]++S1) w:=by simpa using (show Kj H [.ow Bc 3 (ab a1 x.Bj.length c1) x.Bj F1] S1 from Kj.cons m1 (Kj.nil)).st (X:=[]) HT
 obtain ⟨n1,k1⟩:=z1.on (.ow Bc 3 (ab a1 x.Bj.length c1) x.Bj F1) FB;have hN:=n1;refine h.h a w (St.turn (M:=[.ow Bc 3 (ab a1 x.Bj.length c1) x.Bj F1]) (N:=[.own Et (.agg #[aa x.Ae,ab a1 x.Bj.length c1,aa x.Co]) x (F1)]) z1 (Ei.refl _ w) (by intro q hq;simp at hq;subst hq;exact ⟨hN,_,rfl,_,rfl,k1⟩) ⟨FB,trivial⟩ fun q hq b hb=>?_) g;simp at hq;subst hq;simp only [Pc.F,aK] at hb;exact .inr (.inl ⟨_,aM.2 rfl,rfl,hb⟩)
theorem Vb {a:aj} {n cp:Nat} {xs:List Ha} {F:aq} (i:Nat) (h:∀(hi:i < xs.length) (b o:Nat) (a1:aj) (c1:Nat) (F1:aq),a=some ⟨b,o,none⟩->xs[i].Bj.length<=maxLen->T c fr (.cel b (o+i * 3) [aa xs[i].Ae,.slice a1 xs[i].Bj.length c1,aa xs[i].Co]::.sl Bc (.slice a1 xs[i].Bj.length c1) xs[i].Bj F1::H) Φ) (hm:.sl Dz (ab a n cp) xs F∈H:=by exact Bl) (hi:i < xs.length:=by omega):T c fr H Φ:=.mk fun ac w s g=>by
 exact AX
end
section
variable {c:Cx} {fr:Fr} {H:List Pc} {k:List It} {Φ:Gl} {ops:Array Oper} {o:Op} {d:Nat} {v:Value} {ty:TypeId} {pos:String} {Cc:Array Edge} {H0:List Pc} {X:aq} {f:Nat} {listed:Array Bool}
theorem dsI {id:Nat} {l:List Oper} (H0:List Pc) (X:aq) (h:T c fr H (.dx k H0 X l.toArray l.length (Array.replicate l.length false))) (hm:c.P.follows .mixedOrders=true:=by kernel_rfl):T c fr H (.By k (Code.region id l.toArray true)):=.mk fun a w s g=>by
 exact DV
theorem dtI (i:Nat) (hI:∀w,Ob H w->Ob H0 w) (h:T c ((d,v)::fr) H (.dx k H0 X ops f (listed.setIfInBounds i true))) (ho:ops[i]?=some ⟨some d,o,ty,pos,Cc,none⟩:=by rw [aR];rfl) (hy:Yd c.P c.n fr H0 o ty v:=by exact ydE)
  (h1:Region.noSelect ops=true:=by kernel_rfl) (h2:Region.free .any ops listed i=true:=by kernel_rfl) (h3:(Region.ready .any ops listed).contains i=true:=by kernel_rfl) (h4:Lq .any ops (fun i=>X.contains i) i=true:=by kernel_rfl) (h5:Mr .any ops listed=true:=by kernel_rfl) (hR:Wq c:=by exact Y7) (hd:Nat.blt d c.n=true:=by rfl) :
  T c fr H (.dx k H0 X ops (f+1) listed):=.mk fun a w s g =>
 Ez.take (v:=v) ho h1 h2 h3 h4 h5 (fun ch a w hp=>by rw [Mg] at hp ⊢;exact hR _ _ _ _ _ hp) (.inl ⟨rfl,fun w' hw'=>hy.h a w' _ _ _ _ g hw'⟩) (hI w s.on) (h.h _ _ s (g.put hd))
theorem dkI {i:Nat} (hI:∀w,Ob H w->Ob H0 w) (h:T c fr H (.dx k H0 X ops f listed)):T c fr H (.dk i k H0 X ops f listed):=.mk fun a w s g=>⟨fun _=>hI w s.on,h.h a w s g⟩
end
theorem H4 {g t:Nat} {x:Value} {r:am} {w:World} (h:(Pc.row g t 0 [] (x::r) []).P w):(Pc.cel g 0 [x]).P w:=⟨FB,fun j u hu=>by
 cases j with
 | zero=>exact If h 0 u (by simpa using hu)
 | succ j=>simp at hu⟩
def Kv (c:Int) (x:Ha):Bool:=Bz x.Ae && (decide (0 < x.Bj.length) && (Qk 1 7 x.Bj && E8 (c+1) x.Co (c+6)))
def Y1 (c:Int) (es:List Ha) (i:Nat):Bool:=match es[i]? with
 | none=>true
 | some x=>Kv c x && !((es.take i).any fun o=>o.Ae == x.Ae)
theorem Km {c:Int} {es:List Ha} {i:Nat} (h:i < es.length):Y1 c es i=(Kv c es[i] && !((es.take i).any fun o=>o.Ae == es[i].Ae)):=by
 simp [Y1,h]
def Ba (e:Bh):Bool:=Kq e.Ai && decide (e.Ah.length<=5) && Ov (Y1 e.Ai e.Ah) e.Ah.length
theorem Mb {c:Int}:Kq c=true↔0<=c/\c<=9999:=by unfold Kq E8;simp
theorem Awh {es:List Ha} {m k:Nat} {p:Ha->Bool} (h:m < es.length) (hk:m < k) (hp:p es[m]=true):(es.take k).any p=true:=by
 rw [cJ];exact ⟨es[m],cM.2 ⟨m,EZ,rfl⟩,hp⟩
theorem Amf {es:List Ha} {k:Nat} {n:Int} (h:∀q,q < k->∀hq:q < es.length,es[q].Ae≠n):((es.take k).any fun o=>o.Ae == n)=false:=by
 rw [cD];intro x hx;obtain ⟨i,hi,rfl⟩:=cM.1 hx;simpa using h i EZ EZ
theorem Abt {c d:Int} (h:Kq c=true) (h1:0<=d) (h2:d<=100):wrap64 (c+d)=c+d:=by
 have:=Mb.1 h;unfold wrap64;omega
theorem Aaz {e:Bh} {k:Nat} (hk:k < e.Ah.length) (h:Kq e.Ai=true->Y1 e.Ai e.Ah k=false):Ba e=false:=by
 unfold Ba;cases hc:Kq e.Ai
 ·rfl
 ·rw [Lr hk (h hc)];simp
theorem Ze (x:Ha) (num:Int) (b:Nat) (G:aq) (u:Value) (w:World) (h:Ro Dz w u x G) (hc:w.cell? ⟨b,0,none⟩=some (aa num)) :
  Calls prog 232 #[u,.pointer (some ⟨b,0,none⟩)] w (RB (.bool (x.Ae == num)) w):=by
 obtain ⟨_,rfl,v1,rfl, -⟩:=h;have hc1:=fun o:Obj=>kc ((Below.refl w.heap.size w).alloc (aL _) o) hc
 go_enter func232,ntmps232
 go_wp2
 go_ret
 exact ⟨Cn rfl,(Below.refl _ _).alloc (aL _) _⟩
theorem Ub (v:Value) (e:Bh) (F:aq) (w:World) (h:Ro Bv w v e F) :
  Calls prog 156 #[v] w (RB (.bool (Ba e)) w):=by
 obtain ⟨_,rfl,v1,rfl,h1⟩:=h;obtain ⟨a,cap,rfl⟩:=h1.slice;have hl:=h1.len;unfold maxLen at hl;have hB0:∀A:Obj,Below w.heap.size w (w.alloc A):=fun A=>(Below.refl _ _).alloc (aL _) _
 go_enter func156,ntmps156
 go_wp2
 go_loopw [3,4,8] (fun _ _ i wr=>∃k:Nat,k<=e.Ah.length/\i=aa k/\Hid (Kq e.Ai=true->∀j,j < k->Y1 e.Ai e.Ah j=true)/\Ib wr w.heap.size 122 [aa e.Ai,ab a e.Ah.length cap]/\Below w.heap.size w wr) (fun _ _ i _=>e.Ah.length - (intOf i).toNat)
 case atStart=>exact ⟨0,aG _,rfl,fun _ j hj=>by omega,by simp [Je],hB0 _⟩
 case round =>
  obtain ⟨k,hk,rfl,hz,hr,hB⟩:=hrel;have c0:=hr.cells;by_cases hlt:k < e.Ah.length
  ·have hz0:=hz;clear hz;obtain ⟨b,off,_,F1,rfl,hx, -,ja⟩:=(h1.below FA hB).at k hlt;obtain ⟨u1,rfl,hf⟩:=id hx;obtain ⟨fa,fc,rfl⟩:=hf.slice;have a0:=ja 0 FA;have a1:=ja 1 FA;have a2:=ja 2 FA;simp only [show Dz.sz=3 from rfl,cV,bR,bM,bH] at a0 a1 a2;clear ja;have d0:=fun A=>(hr.alloc A).cells;have hf1:=fun A:Obj=>hf.below FA ((Below.refl wr.heap.size wr).alloc (aL _) A);have hB1:=fun A:Obj=>tr hB ((Below.refl wr.heap.size wr).alloc (aL _) A) (aL _)
   have hcp:=h1.caps;by_cases hfe:e.Ah[k].Bj=[]
   ·have hE:((e.Ah[k].Bj.length:Int) == 0)=true:=by simp [hfe]
    have hno:=Lib.hid (Aaz hlt (fun _=>by rw [Km hlt];simp [Kv,hfe]))
    go_wp2_with (first
     | (go_at_call 147;refine (I6 _ _).mono ?_;rintro e' w' ⟨rfl,rfl⟩)
     | (go_at_call 230;refine (Afj _ _ _ _ (hf1 _)).mono ?_;rintro e' w' ⟨rfl,rfl⟩)
     | (go_at_call 106;refine (H1 _ _ _ _).mono ?_;rintro e' w' ⟨rfl,rfl⟩))
    all_goals go_ret
    all_goals exact ⟨Cn hno.out.symm,hB1 _⟩
   ·have hE:((e.Ah[k].Bj.length:Int) == 0)=false:=by simp [hfe]
    have hfe:=Lib.hid hfe
    go_wp2_with (first
     | (go_at_call 147;refine (I6 _ _).mono ?_;rintro e' w' ⟨rfl,rfl⟩)
     | (go_at_call 230;refine (Afj _ _ _ _ (hf1 _)).mono ?_;rintro e' w' ⟨rfl,rfl⟩)
     | (go_at_call 106;refine (H1 _ _ _ _).mono ?_;rintro e' w' ⟨rfl,rfl⟩))
    ·have t:(!E8 (wrap64 (e.Ai+1)) e.Ah[k].Co (wrap64 (e.Ai+6)))=true:=FR
     go_ret
     refine ⟨Cn (Aaz hlt fun hc=>?_).symm,hB1 _⟩;rw [Abt hc EZ EZ,Abt hc EZ EZ] at t;rw [Km hlt];simp only [Kv];simp at t;simp [t]
    ·have t1:Bz e.Ah[k].Ae=true:=FR
     have t2:Qk 1 7 e.Ah[k].Bj=true:=FR
     have t:(!E8 (wrap64 (e.Ai+1)) e.Ah[k].Co (wrap64 (e.Ai+6)))=false:=FR
     obtain ⟨G, -,hs⟩:=h1.takeS k hk;refine (Zd _ (.mk' func232 rfl rfl) _ _ _ _ (fun o=>o.Ae == e.Ah[k].Ae) _ (hs.below FA (hB1 _)) ?_).mono ?_
     ·intro j hj w2 u G2 hb2 hu;exact Ze _ _ _ _ _ _ hu (kc hb2 FB)
     rintro e' w2 ⟨rfl,hb2⟩;have hr2:=(hr.alloc _).below hb2;have hB2:=tr (hB1 _) hb2 (aL _);have hc2:=hr2.cells;have hAt:=Lib.hid (Km (c:=e.Ai) hlt);cases hany:(e.Ah.take k).any fun o=>o.Ae == e.Ah[k].Ae
     ·rw [hany] at hAt;have hany:=Lib.hid hany;go_wp2_with fail;refine ⟨⟨k+1,EZ,HQ,fun hc=>U4 (hz0.out hc) ?_,hr2,hB2⟩,GJ⟩;rw [Abt hc EZ EZ,Abt hc EZ EZ] at t;rw [hAt.out];simp only [Kv,t1,t2];simp at t;simp [t,cT,hfe.out]
     ·rw [hany] at hAt;have hany:=Lib.hid hany;go_wp2_with fail
      go_ret
      exact ⟨Cn (Aaz hlt fun _=>by rw [hAt.out];simp).symm,hB2⟩
    ·have t:¬Qk 1 7 e.Ah[k].Bj=true:=FR
     go_ret
     refine ⟨Cn (Aaz hlt fun hc=>?_).symm,hB1 _⟩;rw [Km hlt];simp [Kv,t]
    ·have t:¬Bz e.Ah[k].Ae=true:=FR
     go_ret
     refine ⟨Cn (Aaz hlt fun hc=>?_).symm,hB1 _⟩;rw [Km hlt];simp [Kv,t]
  ·have hk:k=e.Ah.length:=EZ
   subst hk;have hz0:=hz;clear hz;cases hck:Kq e.Ai
   ·have hn:=Lib.hid (show Ba e=false by unfold Ba;rw [hck];rfl);have hck:=Lib.hid hck;go_wp2_with (go_at_call 146;refine (Sh _ _).mono ?_;rintro e' w' ⟨rfl,rfl⟩;rw [hck.out])
    go_ret
    exact ⟨Cn hn.out.symm,hB⟩
   ·have hn:=Lib.hid (show Ba e=decide ((e.Ah.length:Int)<=5) by unfold Ba;rw [hck,Kd (hz0.out hck)];simp;omega);have hck:=Lib.hid hck;go_wp2_with (go_at_call 146;refine (Sh _ _).mono ?_;rintro e' w' ⟨rfl,rfl⟩;rw [hck.out])
    go_ret
    exact ⟨Cn hn.out.symm,hB⟩
theorem At7 (e:Bh) (v:Value) (F:aq):FV 205 [v] [.isv Bv v e F] (.bool (Ba e)):=by
 refine enter func205 rfl ntmps205 fun w0=>?_;refine Ew ?_;rintro a c F1 rfl hl;refine go ?_;intros;refine ce (fun w s=>Zx _ _) ?_;cases hck:Kq e.Ai
 ·rw [show Ba e=false by unfold Ba;rw [hck];rfl];exact AA
 have hcb:=Mb.1 hck;refine go ?_;refine A4 rfl (fun h5=>?_) (fun h5=>?_)
 ·rw [show Ba e=false by unfold Ba;rw [hck,ay EZ];rfl];exact AA
 rw [show Ba e=Ov (Y1 e.Ai e.Ah) e.Ah.length by unfold Ba;rw [hck,av EZ];rfl];refine go ?_;refine Em [1,2] (fun k:Nat=>[(3,aa (k:Nat))]) (fun k=>k<=e.Ah.length/\∀j,j < k->Y1 e.Ai e.Ah j=true) (fun k=>e.Ah.length - k) 0 ⟨aG _,fun j hj=>by omega⟩ fun k hz=>?_;obtain ⟨hk0,hy⟩:=hz;refine go ?_;refine A4 rfl (fun h6=>?_) (fun h6=>?_)
 rotate_left
 ·rw [Kd (fun j hj=>hy j EZ)];exact AA
 have hk:k < e.Ah.length:=EZ
 have hno:Y1 e.Ai e.Ah k=false->Ov (Y1 e.Ai e.Ah) e.Ah.length=false:=fun h=>Lr hk h;refine Vb (xs:=e.Ah) k ?_;rintro hi b o a1 c1 F2 rfl hfl;refine go ?_;intros;refine ce (fun w s=>Nt _ _) ?_;cases t1:Bz e.Ah[k].Ae
 ·skip
  rw [hno (by rw [Km hk];simp [Kv,t1])];exact AA
 refine go ?_;by_cases hfe:e.Ah[k].Bj.length=0
 ·rw [show decide (((e.Ah[k].Bj.length:Nat):Int)=0)=true from av EZ];rw [hno (by rw [Km hk];simp [Kv,t1,bv.1 hfe])];exact AA
 rw [show decide (((e.Ah[k].Bj.length:Nat):Int)=0)=false from ay EZ];refine go ?_;refine cb (fun w st=>Apz _ _ _ w (st.get (p:=.sl Bc (.slice a1 e.Ah[k].Bj.length c1) e.Ah[k].Bj F2) FD).2) ?_;cases t2:Qk 1 7 e.Ah[k].Bj
 ·skip
  rw [hno (by rw [Km hk];simp [Kv,t1,t2])];exact AA
 refine go ?_;refine ce (fun w s=>Ka _ _ _ _) ?_;cases t3:E8 (e.Ai+1) e.Ah[k].Co (e.Ai+6)
 ·skip
  rw [hno (by rw [Km hk];simp [Kv,t1,t2,t3])];exact AA
 have hAt:Y1 e.Ai e.Ah k = !((e.Ah.take k).any fun o=>o.Ae == e.Ah[k].Ae):=by rw [Km hk];unfold Kv;rw [t1,av (show 0 < e.Ah[k].Bj.length by omega),t2,t3];rfl
 refine go ?_;refine Em [1,2,3,4,16,17,18,19,20,23,24,25,26,27,28,29,30,31,32,33,34,35,36,37,38,39,40,41,42,43,44,45,46,47,48,49,50,51,52,53,54,55] (fun m:Nat=>[(5,aa (m:Nat))]) (fun m=>m<=k/\∀q,q < m->∀hq:q < e.Ah.length,e.Ah[q].Ae≠e.Ah[k].Ae) (fun m=>k - m) 0 ⟨aG _,fun q hq=>by omega⟩ fun m hm=>?_;obtain ⟨hm0,hx⟩:=hm;refine go ?_;refine A4 rfl (fun h7=>?_) (fun h7=>?_)
 ·have hmk:m < k:=EZ
  refine Vb (xs:=e.Ah) m ?_;rintro hi2 b2 o2 a2 c2 F3 e2 -;cases e2
  repeat (first|apply Og|(apply wO;apply oc;rfl;exact ydE)|apply U5|apply Ys|(apply Aq7;rfl;rfl)|(apply Aq6;rfl;rfl;rfl;rfl)|(apply Aq8;rfl;rfl;rfl)|(apply c_t;rfl)|(apply c_f;rfl)|apply Ww|apply Tq|apply Agl)
  refine Ar [0,2,5] [] ?_;refine Df 0 1 2 3 ?_;refine Df 4 5 6 7 ?_;refine dt 8 ?_;refine dd ?_;refine go ?_;refine A4 rfl (fun h8=>?_) (fun h8=>?_)
  ·rw [hno (by rw [hAt,Awh EZ hmk (by simpa using h8)];rfl)];exact AA
  refine go ?_;refine Ca (m+1) ⟨EZ,fun q hq hql=>by
   rcases bc (cL hq) with h|h
   ·exact hx q h hql
   ·subst h;exact h8⟩ (by show k - (m+1) < k - m;omega)
 ·refine go ?_;refine Ca (k+1) ⟨EZ,fun j hj=>by
   rcases bc (cL hj) with h|h
   ·exact hy j h
   ·subst h;rw [hAt,Amf (fun q hq=>hx q EZ)];rfl⟩ (by show e.Ah.length - (k+1) < e.Ah.length - k;omega)
theorem Ajc (v:Value) (e:Bh) (F:aq) (w:World) (h:Ro Bv w v e F) :
  Calls prog 205 #[v] w (RB (.bool (Ba e)) w):=(At7 e v F).val w (Iw h)
section
variable {c:Cx} {fr:Fr} {H:List Pc} {Φ:Gl}
theorem Cu {v:Value} {x:Aj} {F:aq} (h:∀(a1:aj) (c1:Nat) (F1:aq),v=.agg #[aa x.next,ab a1 x.Ap.length c1]->x.Ap.length<=maxLen->T c fr (.sl Cw (ab a1 x.Ap.length c1) x.Ap F1::H) Φ) (hm:.isv Br v x F∈H:=by exact Bl):T c fr H Φ:=.mk fun a w s g=>by
 exact AI
theorem Cb (x:Aj) {a1:aj} {c1:Nat} {F1:aq}  (h:T c fr (.isv Br (.agg #[aa x.next,ab a1 x.Ap.length c1]) x (F1)::H) Φ) (m1:.sl Cw (ab a1 x.Ap.length c1) x.Ap F1∈H:=by exact Bl):T c fr H Φ:=.mk fun a w s g=>by
 exact AE
end
section
variable {c:Cx} {fr:Fr} {H:List Pc} {Φ:Gl}
theorem Ayi {v:Value} {x:Ic} {F:aq} (h:∀(_:Unit),v=.agg #[.bool x.Wm,af x.Dn]->x.Dn.size<=maxLen->T c fr (H) Φ) (hm:.isv Cw v x F∈H:=by exact Bl):T c fr H Φ:=.mk fun a w s g=>by
 obtain ⟨cs,rfl,rfl,s1,rfl⟩:=s.get hm;exact (h () rfl s1 ).h a w s g
theorem Pg {a:aj} {n cp:Nat} {xs:List Ic} {F:aq} (i:Nat) (h:∀(hi:i < xs.length) (b o:Nat),a=some ⟨b,o,none⟩->xs[i].Dn.size<=maxLen->T c fr (.cel b (o+i * 2) [.bool xs[i].Wm,af xs[i].Dn]::H) Φ) (hm:.sl Cw (ab a n cp) xs F∈H:=by exact Bl) (hi:i < xs.length:=by omega):T c fr H Φ:=.mk fun ac w s g=>by
 exact CO
theorem Akv {t:TypeId} {a:aj} {n cp:Nat} {xs:List Ic} {F:aq} {S:List Pc} (i:Nat) (h:∀(_:i < xs.length) g A B,a=some ⟨g,0,none⟩->F=[g]->xs[i].Dn.size<=maxLen->Avz Cw t g (ab (some ⟨g,0,none⟩) n cp) xs i A B->T c fr (.row g t (0+i * 2) A [.bool xs[i].Wm,af xs[i].Dn] B::S) Φ) (hp:C2 H (.ow Cw t (ab a n cp) xs F) S:=by exact Dt) (hi:i < xs.length:=by omega):T c fr H Φ :=
 Rf Ia i (fun hi g A cs B ha hF hr hh=>by obtain ⟨rfl,s1, -⟩:=hr default;exact h hi g A B ha hF s1 hh) hp rfl hi
end
theorem A9 {x:Int}:Bz x=true↔0<=x/\x<=65535:=by unfold Bz E8;simp
def Cc (x n:Int):Int:=(x+n) % 65536
def gp (a b:Int):Int:=(b - a) % 65536
def Tl (a b:Int):Bool:=E8 1 (gp a b) 32767
theorem Le (a b:Int):0<=gp a b/\gp a b<=65535:=by unfold gp;omega
theorem I7 (a b:Int):0<=Cc a b/\Cc a b<=65535:=by unfold Cc;omega
theorem Pf (a b:Int):Bz (Cc a b)=true:=A9.2 (I7 a b)
theorem Aq3 (z:Int):((z.tmod 65536)+65536).tmod 65536=z % 65536:=by
 rw [eG (a:=z.tmod 65536+65536),eG]
 split <;> split <;> omega
theorem Bcv (z:Int):-65535<=z.tmod 65536/\z.tmod 65536<=65535:=by
 rw [eG]
 split <;> omega
theorem Rp (x n:Int) (w:World) (h0:-4611686018427387904<=x+n) (h1:x+n<=4611686018427387904) :
  Calls prog 221 #[aa x,aa n] w fun e w'=>e=.returned (aa (Cc x n))/\w=w':=by
 have hb:=Bcv (x+n);have hb1:=hb.1;have hb2:=hb.2;clear hb;by_cases hz:0<=x+n
 ·go_enter func221,ntmps221
  go_wp2
  go_ret
  exact ⟨Lo (by unfold Cc;omega),rfl⟩
 ·have ht:=Aq3 (x+n);have ht:=Lib.hid ht
  go_enter func221,ntmps221
  go_wp2
  go_ret
  refine ⟨Lo ?_,rfl⟩;have:=ht.out;rw [eG (a:=(x+n).tmod 65536+65536)] at this;unfold Cc
  split at this <;> omega
theorem O6 (a b:Int) (w:World) (h0:-4611686018427387904<=b - a) (h1:b - a<=4611686018427387904) (ha:-4611686018427387904<=a) (ha':a<=4611686018427387904) :
  Calls prog 149 #[aa a,aa b] w fun e w'=>e=.returned (aa (gp a b))/\w=w':=by
 go_enter func149,ntmps149
 go_wp2_with fail;refine (Rp b (-a) _ EZ EZ).mono ?_;rintro e w' ⟨rfl,rfl⟩;go_wp2_with fail
 go_ret
 exact ⟨Lo (by unfold Cc gp;omega),rfl⟩
theorem Np (a b:Int) (w:World) (h0:-4611686018427387904<=b - a) (h1:b - a<=4611686018427387904) (ha:-4611686018427387904<=a) (ha':a<=4611686018427387904) :
  Calls prog 343 #[aa a,aa b] w fun e w'=>e=.returned (.bool (Tl a b))/\w=w':=by
 go_enter func343,ntmps343
 go_wp2_with fail;refine (O6 a b _ h0 h1 ha ha').mono ?_;rintro e w' ⟨rfl,rfl⟩;go_wp2_with fail;refine (H1 _ _ _ _).mono ?_;rintro e w' ⟨rfl,rfl⟩;go_wp2_with fail
 go_ret
 exact DT
theorem Ht (x n:Int) (w:World) (h0:-131072<=x+n) (h1:x+n<=4611686018427387904) :
  Calls prog 91 #[aa x,aa n] w fun e w'=>e=.returned (aa (Cc x n))/\w=w':=by
 have h2:0<=x+n+131072:=EZ
 go_enter func91,ntmps91
 go_wp2
 go_ret
 exact ⟨Lo (by unfold Cc;omega),rfl⟩
theorem Jk (a b:Int) (w:World) (h0:-65536<=b - a) (h1:b - a<=4611686018427387904) :
  Calls prog 204 #[aa a,aa b] w fun e w'=>e=.returned (aa (gp a b))/\w=w':=by
 have h2:0<=b - a+65536:=EZ
 go_enter func204,ntmps204
 go_wp2
 go_ret
 exact ⟨Lo (by unfold gp;omega),rfl⟩
theorem Qd (a b:Int) (w:World) (h0:-65536<=b - a) (h1:b - a<=4611686018427387904) :
  Calls prog 322 #[aa a,aa b] w fun e w'=>e=.returned (.bool (Tl a b))/\w=w':=by
 go_enter func322,ntmps322
 go_wp2_with fail;refine (Jk a b _ h0 h1).mono ?_;rintro e w' ⟨rfl,rfl⟩;go_wp2_with fail;refine (Ka _ _ _ _).mono ?_;rintro e w' ⟨rfl,rfl⟩;go_wp2_with fail
 go_ret
 exact DT
end Go.Proofs.YtkoldibamfjghaaGreatDoor
namespace Go.Proofs.YtkoldibamfjghaaGreatDoor
open Go.RowKit Go.Shelf
def low (b:UInt8):Bool:=E8 97 b.toNat 122
def T4 (l:List UInt8):Bool:=l.all low
def Pe (s:au):Bool:=decide ((s.size:Int)<=8) && T4 s.data.toList
def abc:List UInt8:=[97,98,99,100,101,102,103,104,105,106,107,108,109,110,111,112,113,114,115,116,117,118,119,120,121,122]
theorem Ba0 (b:UInt8):abc.contains b=low b:=by
 have h:∀n:Fin 256,abc.contains (UInt8.ofNat n.val)=low (UInt8.ofNat n.val):=by decide +kernel
 have:=h ⟨b.toNat,b.toNat_lt⟩;exact EX
theorem dropWhile_nil {α:Type} (p:α->Bool) (l:List α):l.dropWhile p=[]↔l.all p=true:=by
 induction l with
 | nil=>simp
 | cons x r ih=>rw [eV];cases h:p x <;> simp [h,ih]
theorem Ahw {α:Type} (p:α->Bool) (l:List α):(l.dropWhile p).all p=l.all p:=by
 induction l with
 | nil=>simp
 | cons x r ih=>rw [eV];cases h:p x <;> simp [h,ih]
theorem Avj (l cs:List UInt8):(Lib.trimS l cs=[])↔l.all (cs.contains ·)=true:=by
 unfold Lib.trimS Lib.trimLeftS Lib.trimRightS;rw [dropWhile_nil,List.all_reverse,Ahw,List.all_reverse]
theorem Az2 (l:List UInt8):(Lib.trimS l abc == [])=T4 l:=by
 rw [cG,eQ,Avj];unfold T4;rw [show (fun b=>abc.contains b)=low from funext Ba0]
theorem Aa1 (s:au) (w:World) (hs:s.size<=maxLen) :
  Calls prog 187 #[af s] w (RB (.bool (Pe s)) w):=by
 unfold maxLen at hs;have hc:=fun w=>Any.strings_Trim_laid Tryz.lays160 FC s ⟨abc.toArray⟩ w hs FA (ascii_of_all FA);change ∀w,Calls prog 255 #[af s,af ⟨abc.toArray⟩] w (RB (af ⟨(Lib.trimS s.data.toList abc).toArray⟩) w) at hc;have ht:=Az2 s.data.toList;replace hc:=Lib.hid hc;by_cases h8:s.size<=8
 ·generalize Lib.trimS s.data.toList abc=t at *;have hi:Pe s=(t == []):=by unfold Pe;rw [ht,av EZ];rfl
  replace hi:=Lib.hid hi;clear ht;cases t with
  | nil =>
   go_enter func187,ntmps187
   go_wp2_with fail;refine (hc.out _).mono ?_;rintro e w1 ⟨rfl,hb⟩;go_wp2_with fail
   go_ret
   exact ⟨Cn hi.out.symm,hb⟩
  | cons a r =>
   go_enter func187,ntmps187
   go_wp2_with fail;refine (hc.out _).mono ?_;rintro e w1 ⟨rfl,hb⟩;go_wp2_with fail
   go_ret
   exact ⟨Cn hi.out.symm,hb⟩
 ·have hi:Pe s=false:=by unfold Pe;rw [ay EZ];rfl
  replace hi:=Lib.hid hi
  go_enter func187,ntmps187
  go_wp2_with fail
  go_ret
  exact ⟨Cn hi.out.symm,Below.refl _ _⟩
theorem Auk (s:au) (k:Nat) (h:k < s.size):T4 (s.data.toList.drop k)=(low s[k] && T4 (s.data.toList.drop (k+1))):=by rw [Aeu s k h];rfl
theorem Q3 (s:au) (n:Int) (w:World) (hs:s.size<=maxLen) :
  Calls prog 216 #[af s,aa n] w fun e w'=>e=.returned (.bool (decide ((s.size:Int)<=n) && T4 s.data.toList))/\w=w':=by
 unfold maxLen at hs
 go_enter func216,ntmps216
 go_wp2
 go_loop [5] (fun i=>∃k:Nat,k<=s.size/\i=aa k/\Hid (T4 s.data.toList=T4 (s.data.toList.drop k))) (fun i=>s.size - (intOf i).toNat)
 case atStart=>exact ⟨0,aG _,rfl,rfl⟩
 case round =>
  obtain ⟨k,hk,rfl,hz⟩:=hrel;by_cases hlt:k < s.size
  ·have hz:=Lib.hid (hz.out.trans (Auk s k hlt));have hb:(s[k].toNat:Int)<=255:=IB
   cases hl:low s[k]
   ·have hl1:low s[k]=false:=hl;unfold low E8 at hl;by_cases h1:(s[k].toNat:Int) < 97
    ·clear hl
     go_wp2
     go_ret
     exact ⟨Cn (by rw [hz.out,hl1];simp),rfl⟩
    ·have h2:(122:Int) < s[k].toNat:=by simp at hl;omega
     clear hl
     go_wp2
     go_ret
     exact ⟨Cn (by rw [hz.out,hl1];simp),rfl⟩
   ·have hl1:low s[k]=true:=hl;unfold low E8 at hl;simp only [aw,aF] at hl;have h1:¬(s[k].toNat:Int) < 97:=EZ
    have h2:¬(122:Int) < s[k].toNat:=EZ
    clear hl;replace hl1:=Lib.hid hl1
    go_wp2
    go_round
    case rel=>exact ⟨k+1,EZ,HQ,by refine Lib.hid ?_;rw [hz.out,hl1.out];rfl⟩
    case measure=>simp [intOf];omega
  ·go_wp2
   go_ret
   exact ⟨Cn (by rw [hz.out,Aat s k hlt];simp [T4]),rfl⟩
end Go.Proofs.YtkoldibamfjghaaGreatDoor
namespace Go.Proofs.YtkoldibamfjghaaGreatDoor
open Go.RowKit
theorem Afd (fid:FuncId) (hbd:Yo prog fid) (caps:Array Value) (v:Value) (xs:List Ic) (F:aq) (p:Ic->Bool) (w:World) (h:Sl Cw w v xs F)
  (hp:∀(k:Nat) (hk:k < xs.length) (wr:World) (u:Value) (G:aq),Below w.heap.size w wr->Ro Cw wr u xs[k] G->Calls prog fid (#[u]++caps) wr fun e w'=>e=.returned (.bool (p xs[k]))/\Below wr.heap.size wr w') :
  Calls prog 326 #[v,.func (.func fid) #[] caps] w (RB (aa (Re p xs)) w):=by
 obtain ⟨a,cap,rfl⟩:=h.slice;have hl:=h.len;unfold maxLen at hl
 go_enter func326,ntmps326
 go_wp2
 go_loopw [5,8] (fun _ i wr=>∃k:Nat,k<=xs.length/\i=aa k/\Hid (∀j,j < k->∀hj:j < xs.length,p xs[j]=false)/\Below w.heap.size w wr) (fun _ i _=>xs.length - (intOf i).toNat)
 case atStart=>exact ⟨0,aG _,rfl,fun j hj=>by omega,Below.refl _ _⟩
 case round =>
  obtain ⟨k,hk,rfl,hz,hB⟩:=hrel;by_cases hlt:k < xs.length
  ·have hz0:=hz;clear hz;obtain ⟨b,off,_,F1,rfl,hx, -,ja⟩:=(h.below FA hB).at k hlt;obtain ⟨rfl,s1,rfl⟩:=id hx;have a0:=ja 0 FA;have a1:=ja 1 FA;simp only [show Cw.sz=2 from rfl,cV,bR,bM,bH] at a0 a1;clear ja;have hr:=hp k hlt wr _ _ hB ⟨_,rfl,hx⟩;have hp:=Lib.hid hp;cases hpk:p xs[k]
   all_goals
    rw [hpk] at hr;have hpk:=Lib.hid hpk;have hr:=Lib.hid hr;go_wp2_with fail;refine hbd.upon hr.out ?_;rintro e w1 ⟨rfl,hb1⟩;refine ⟨_,rfl,?_⟩;have hB:=tr hB hb1 (aL _);clear hb1;go_wp2_with fail
   ·exact AV
   ·go_ret
    exact EN
  ·go_wp2
   go_ret
   exact DG
theorem Aai (fid:FuncId) (hbd:Yo prog fid) (caps:Array Value) (v:Value) (xs:List Ic) (F:aq) (p:Ic->Bool) (w:World) (h:Sl Cw w v xs F)
  (hp:∀(k:Nat) (hk:k < xs.length) (wr:World) (u:Value) (G:aq),Below w.heap.size w wr->Ro Cw wr u xs[k] G->Calls prog fid (#[u]++caps) wr fun e w'=>e=.returned (.bool (p xs[k]))/\Below wr.heap.size wr w') :
  Calls prog 283 #[v,.func (.func fid) #[] caps] w (RB (.bool (xs.any p)) w):=by
 have hp:=Lib.hid hp
 go_enter func283,ntmps283
 go_wp2_with fail;refine (Afd fid hbd caps v xs F p _ h hp.out).mono ?_;rintro e w1 ⟨rfl,hb1⟩;go_wp2_with fail
 go_ret
 exact ⟨Cn (Sw p xs),hb1⟩
theorem Zb (v:Value) (xs:List Ic) (F:aq) (w:World) (h:Sl Cw w v xs F) (hm:xs.length<=4294967296) :
  Calls prog 253 #[v] w (Wr Cw 107 xs w):=by
 obtain ⟨ao,c,news,Fy,rfl,hl,hfy,hFy,hsrc⟩:=h.src;have hFl:=hfy.lt;have he:=fun w (a:aj) (n c:Nat)=>Lib.run_eql_slice_nil (P:=prog) w 71 _ a n c 0 0 underlying71
 go_enter func253,ntmps253
 rcases hsrc with ⟨rfl,rfl,rfl⟩|⟨ad,rfl,hn⟩
 ·go_wp2
  go_ret
  exact CE
 ·go_wp2_with (at_builtin;refine Oz Iu FA FL _ _ _ FL 107 (.agg #[.bool false,af ⟨#[]⟩]) 24 underlying71 Ats rfl (ab (some ⟨w.heap.size,0,none⟩) 0 0) [] [w.heap.size] FL (Ow.empty (Ib.made _ _ _)) (Hd.one _) (some ad) xs c FL news Fy (hfy.frame fun b hb=>Below.heap_alloc _ _ _ (hFl b hb)) (.inr ⟨ad,rfl,fun j u hu=>kc ((Below.refl _ _).alloc (aL _) _) (hn j u hu)⟩) (fun b hb e=>by have:=hFl b hb;simp [Value.ownBlock] at e;omega) GY GV ?_);intro v2 w2 F2 hA;go_wp2_with fail
  go_ret
  have hB:Below w.heap.size w w2:=((Below.refl _ _).alloc (aL _) _).trans (hA.I0.below FB FB);have hs:∀b,v2.ownBlock=some b->w.heap.size<=b:=fun b hb=>by rcases hA.Aqo with e|e <;> rw [e] at hb <;> simp [Value.ownBlock] at hb <;> omega
  refine ⟨v2,F2,rfl,IM,hA.ow.scal Ia▸?_,fun b hb=>?_,hB⟩
  ·cases v2.ownBlock <;> simp
  ·rw [hA.ow.scal Ia] at hb;exact hs b IY
def Hc (s:Ic):Bool:=Pe s.Dn && (s.Wm || decide (s.Dn=⟨#[]⟩))
def Jr (l:List Ic) (k:Nat):Bool:=match l[k]? with|some s=>s.Wm|none=>false
def Wj (l:List Ic):Bool:=decide (l.length=0) || (!Jr l 0 && Jr l (l.length - 1))
def Cv (x:Aj):Bool:=Bz x.next && decide ((x.Ap.length:Int)<=8) && x.Ap.all Hc && Wj x.Ap
theorem Lf {l:List Ic} {k:Nat} (h:k < l.length):Jr l k=l[k].Wm:=by unfold Jr;rw [aD h]
theorem Q2 {l:List Ic} {k:Nat} (h:l.length<=k):Jr l k=false:=by unfold Jr;rw [br h]
def Iv (x:Aj) (k:Int):Bool:=Jr x.Ap (gp x.next k).toNat
theorem Aan (x:Aj) (k:Int) (v:Value) (F:aq) (h0:0<=x.next) (h1:x.next<=65535) (h2:0<=k) (h3:k<=65535) :
  FV 229 [v,aa k] [.isv Br v x F] (.bool (Iv x k)):=by
 refine enter func229 rfl ntmps229 fun w0=>?_;refine Cu ?_;rintro a1 c1 F1 rfl l1;unfold maxLen at l1;have hg:=Le x.next k
 refine go ?_;intros;refine ce (fun w s=>O6 _ _ _ EZ EZ EZ EZ) ?_;refine go ?_;refine D6 rfl rfl (fun h=>?_) (fun h=>?_)
 ·refine Pg (gp x.next k).toNat ?_;rintro hi b o rfl s1;refine go ?_;refine ret () trivial ?_;unfold Iv;rw [Lf hi];rfl
 ·refine go ?_;refine ret () trivial ?_;unfold Iv;rw [Q2 EZ];rfl
theorem Bdy (x:Ic) (v:Value) (F:aq):FV 284 [v] [.isv Cw v x F] (.bool (!Hc x)):=by
 refine enter func284 rfl ntmps284 fun w0=>?_;refine Ayi ?_;rintro _ rfl s1;refine go ?_;intros;refine cb (fun w s=>Aa1 _ _ s1) ?_;cases g:Pe x.Dn
 ·refine go ?_;refine ret () trivial ?_;simp [Hc,g,Tn]
 refine go ?_;cases g2:x.Wm
 ·refine go ?_;refine ret () trivial ?_;simp [Hc,g,g2,Tn]
 ·refine go ?_;refine ret () trivial ?_;simp [Hc,g,g2,Tn]
theorem Av6 (x:Aj) (v:Value) (F:aq):FV 225 [v] [.isv Br v x F] (.bool (Cv x)):=by
 refine enter func225 rfl ntmps225 fun w0=>?_;refine Cu ?_;rintro a1 c1 F1 rfl l1;unfold maxLen at l1;refine go ?_;intros;refine ce (fun w s=>I6 _ _) ?_;cases g1:Bz x.next
 ·refine go ?_;refine ret () trivial ?_;simp [Cv,g1,Tn]
 refine go ?_;refine A4 rfl (fun h=>?_) (fun h=>?_)
 ·refine go ?_;refine ret () trivial ?_;simp [Cv,g1,Tn];omega
 refine go ?_;refine cb (fun w s=>Aai _ (.mk' func284 rfl rfl) #[] _ x.Ap F1 (fun s=>!Hc s) _ (s.get (p:=.sl Cw (ab a1 x.Ap.length c1) x.Ap F1) FB).2 ?_) ?_
 ·intro k hk wr u G _ hu;exact (Bdy x.Ap[k] u G).val wr (Iw hu)
 cases g2:x.Ap.all Hc
 ·have:(x.Ap.any fun s=>!Hc s)=true:=by rw [<-eu,g2];rfl
  rw [this];refine go ?_;refine ret () trivial ?_;simp [Cv,g2,Tn]
 have hx:(x.Ap.any fun s=>!Hc s)=false:=by rw [<-eu,g2];rfl
 rw [hx];refine go ?_;have g3:Cv x=Wj x.Ap:=by simp [Cv,g1,g2];omega
 refine D6 rfl rfl (fun h=>?_) (fun h=>?_)
 ·refine go ?_;refine ret () trivial ?_;rw [g3];have:x.Ap.length=0:=EZ
  simp [Wj,this,Tn]
 refine Pg 0 ?_;rintro hi b o rfl s1;refine go ?_;cases g4:x.Ap[0].Wm
 rotate_left
 ·refine go ?_;refine ret () trivial ?_;rw [g3];unfold Wj;rw [Lf hi,g4,ay EZ];rfl
 refine Pg (x.Ap.length - 1) ?_;rintro hi2 b2 o2 e s2;cases e;refine go ?_;have hl:((x.Ap.length:Int) - 1).toNat=x.Ap.length - 1:=EZ
 rw [hl];refine go ?_;refine ret () trivial ?_;rw [g3];unfold Wj;rw [Lf hi,Lf hi2,g4,ay EZ];rfl
theorem Bga (s:au):(decide ((s.size:Int)<=8) && T4 s.data.toList)=Pe s:=rfl
theorem Yz {α:Type} {p:α->Bool} {l:List α} {k:Nat} (h:k < l.length):(l.take (k+1)).all p=((l.take k).all p && p l[k]):=by
 rw [aO h,dV];simp
theorem Afh {α:Type} {p:α->Bool} {l:List α} {k:Nat} (h:k < l.length) (hp:p l[k]=false):l.all p=false:=by
 rw [cS];exact ⟨l[k],aB h,HH⟩
theorem Aty (x:Aj) (v:Value) (F:aq):FV 270 [v] [.isv Br v x F] (.bool (Cv x)):=by
 refine enter func270 rfl ntmps270 fun w0=>?_;refine Cu ?_;rintro a1 c1 F1 rfl l1;unfold maxLen at l1;refine go ?_;intros;refine ce (fun w s=>Nt _ _) ?_;cases g1:Bz x.next
 ·refine go ?_;refine ret () trivial ?_;simp [Cv,g1,Tn]
 refine go ?_;refine A4 rfl (fun h=>?_) (fun h=>?_)
 ·refine go ?_;refine ret () trivial ?_;simp [Cv,g1,Tn];omega
 refine go ?_;refine Em [1,2,3] (fun k:Nat=>[(4,aa k)]) (fun k=>k<=x.Ap.length/\(x.Ap.take k).all Hc=true) (fun k=>x.Ap.length - k) 0 ⟨aG _,rfl⟩ fun k hk=>?_;obtain ⟨hk1,hk2⟩:=hk;refine go ?_;refine A4 rfl (fun h3=>?_) (fun h3=>?_)
 ·have hk3:k < x.Ap.length:=EZ
  refine Pg k ?_;rintro hi b o e s1;cases e;refine go ?_;refine ce (fun w s=>Q3 _ _ _ s1) ?_;rw [Bga];cases g2:Pe x.Ap[k].Dn
  ·refine go ?_;refine ret () trivial ?_;have:x.Ap.all Hc=false:=Afh hk3 (by simp [Hc,g2]);simp [Cv,this,Tn]
  refine go ?_;cases g3:x.Ap[k].Wm
  rotate_left
  ·refine go ?_;refine Ca (k+1) ⟨EZ,by rw [Yz hk3,hk2];simp [Hc,g2,g3]⟩ EZ
  refine go ?_;refine A4 rfl (fun g4=>?_) (fun g4=>?_)
  ·refine go ?_;refine ret () trivial ?_;have:x.Ap.all Hc=false:=Afh hk3 (by simp [Hc,g2,g3,g4]);simp [Cv,this,Tn]
  ·refine go ?_;simp only [dp] at g4;have ho:Hc x.Ap[k]=true:=by unfold Hc;rw [g2,g3,av g4];rfl
   refine Ca (k+1) ⟨EZ,by rw [Yz hk3,hk2,ho];rfl⟩ EZ
 have hkl:k=x.Ap.length:=EZ
 subst hkl;rw [bl] at hk2;have g3:Cv x=Wj x.Ap:=by simp [Cv,g1,hk2];omega
 refine go ?_;refine D6 rfl rfl (fun h4=>?_) (fun h4=>?_)
 ·refine go ?_;refine ret () trivial ?_;rw [g3];have:x.Ap.length=0:=EZ
  simp [Wj,this,Tn]
 refine Pg 0 ?_;rintro hi b o e s1;cases e;refine go ?_;cases g4:x.Ap[0].Wm
 rotate_left
 ·refine go ?_;refine ret () trivial ?_;rw [g3];unfold Wj;rw [Lf hi,g4,ay EZ];rfl
 refine Pg (x.Ap.length - 1) ?_;rintro hi2 b2 o2 e s2;cases e;refine go ?_;have hl:((x.Ap.length:Int) - 1).toNat=x.Ap.length - 1:=EZ
 rw [hl];refine go ?_;refine ret () trivial ?_;rw [g3];unfold Wj;rw [Lf hi,Lf hi2,g4,ay EZ];rfl
def Agu (s:au):au:=⟨#[43]⟩++s
def Ans:au:=⟨#[45]⟩
def Gg (l:List Ic):au:=match l with|[]=>Ans|s::_=>if s.Wm then Agu s.Dn else Ans
theorem Ac4 {l:List Ic} (hi:0 < l.length) (h:l[0].Wm=true):Gg l=Agu l[0].Dn:=by
 cases l with
 | nil=>simp at hi
 | cons s r=>simp at h;simp [Gg,h]
theorem Aj1 {l:List Ic} (hi:0 < l.length) (h:l[0].Wm=false):Gg l=Ans:=by
 cases l with
 | nil=>simp at hi
 | cons s r=>simp at h;simp [Gg,h]
def rel:Int->List Ic->Int × List Ic × ai
 | n,[]=>(n,[],[])
 | n,s::r=>if s.Wm then ((rel (Cc n 1) r).1,(rel (Cc n 1) r).2.1,Agu s.Dn::(rel (Cc n 1) r).2.2) else (n,s::r,[])
theorem Beu {n:Int} {l:List Ic} (h:Jr l 0=false):rel n l=(n,l,[]):=by
 cases l with
 | nil=>rfl
 | cons s r=>have:s.Wm=false:=h;simp [rel,this]
theorem Bcj {n:Int} {l:List Ic} (h:Jr l 0=true):rel n l=((rel (Cc n 1) (l.drop 1)).1,(rel (Cc n 1) (l.drop 1)).2.1,Gg l::(rel (Cc n 1) (l.drop 1)).2.2):=by
 cases l with
 | nil=>cases h
 | cons s r=>have:s.Wm=true:=h;simp [rel,Gg,this]
theorem Ber {w:World} {a:aj} {c:Nat} {x:Aj} {F:aq} (h:(Pc.ow Cw 107 (ab a x.Ap.length c) x.Ap F).P w):∃F',(Pc.isv Br (.agg #[aa x.next,ab a x.Ap.length c]) x F').P w:=by
 obtain ⟨F', -,hs⟩:=h.2.read;exact ⟨F',_,rfl,_,rfl,hs⟩
theorem Asu (x:Aj) (v:Value) (F:aq) (hl:x.Ap.length<=4294967296):Fn prog 184 [v] [.isv Br v x F] [] (fun (_:aj × Nat × aq)=>True)
  (fun s=>.agg #[aa x.next,ab s.1 x.Ap.length s.2.1]) (fun s=>[.ow Cw 107 (ab s.1 x.Ap.length s.2.1) x.Ap s.2.2]):=by
 refine enter func184 rfl ntmps184 fun w0=>?_;refine Cu ?_;rintro a1 c1 F1 rfl l1;refine go ?_;intros;refine cn (fun w s=>Zb _ _ _ _ (s.get (p:=.sl Cw (ab a1 x.Ap.length c1) x.Ap F1) FB).2 hl) fun a cp F'=>?_;refine go ?_;refine ret (a,cp,F') trivial rfl
theorem Aib (x:Aj) (g t o:Nat) (A B:am) (a:aj) (cc:Nat) (F:aq) (h0:0<=x.next) (h1:x.next<=65535) (hl:x.Ap.length<=4294967296) (hs:∀s∈x.Ap,s.Dn.size<=8) :
  Fn prog 344 [Ga g o 0] [] [.row g t o A [aa x.next,ab a x.Ap.length cc] B,.ow Cw 107 (ab a x.Ap.length cc) x.Ap F] (fun (_:aj × Nat × aq)=>True)
   (fun _=>af (Gg x.Ap)) (fun s=>[.row g t o A [aa (Cc x.next 1),.slice s.1 (x.Ap.drop 1).length s.2.1] B,.ow Cw 107 (.slice s.1 (x.Ap.drop 1).length s.2.1) (x.Ap.drop 1) s.2.2]):=by
 refine enter func344 rfl ntmps344 fun w0=>?_;refine go ?_;refine A4 rfl (fun h=>?_) (fun h=>?_)
 ·refine Av fun F'=>?_;refine Pg 0 ?_;rintro hi b o2 e s1;cases e;refine go ?_;have s8:=hs _ (aB hi);have s9:(⟨#[43]⟩:au).size=1:=rfl;cases g1:x.Ap[0].Wm
  ·refine go ?_;apply wO;refine sld 1 fun a2 c2 F2=>?_;refine go ?_;refine cn (fun w s=>Zb _ _ _ _ (s.get (p:=.sl Cw (.slice a2 (x.Ap.drop 1).length c2) (x.Ap.drop 1) F2) FB).2 FF) fun a3 c3 F3=>?_;refine go ?_;refine ce (fun w s=>Rp _ _ _ EZ EZ) ?_;refine go ?_;refine ret (a3,c3,F3) trivial ?_;rw [Aj1 hi g1];rfl
  ·refine go ?_;apply wO;refine sld 1 fun a2 c2 F2=>?_;refine go ?_;refine cn (fun w s=>Zb _ _ _ _ (s.get (p:=.sl Cw (.slice a2 (x.Ap.drop 1).length c2) (x.Ap.drop 1) F2) FB).2 FF) fun a3 c3 F3=>?_;refine go ?_;refine ce (fun w s=>Rp _ _ _ EZ EZ) ?_;refine go ?_;refine ret (a3,c3,F3) trivial ?_;rw [Ac4 hi g1];rfl
 ·obtain ⟨n,l⟩:=x;obtain rfl:l=[]:=bF FJ;refine go ?_;refine ce (fun w s=>Rp _ _ _ EZ EZ) ?_;refine go ?_;refine ret (a,cc,F) trivial rfl
def Pd (x:Aj):Aj:=⟨(rel x.next x.Ap).1,(rel x.next x.Ap).2.1⟩
def Q8 (x:Aj):ai:=(rel x.next x.Ap).2.2
def Yw (x:Aj):Aj:=⟨Cc x.next 1,x.Ap.drop 1⟩
theorem Abb {x:Aj} (h:Jr x.Ap 0=false):Pd x=x/\Q8 x=[]:=by unfold Pd Q8;rw [Beu h];exact ⟨rfl,rfl⟩
theorem Alc {x:Aj} (h:Jr x.Ap 0=true):Pd x=Pd (Yw x)/\Q8 x=Gg x.Ap::Q8 (Yw x):=by unfold Pd Q8;rw [Bcj h];exact ⟨rfl,rfl⟩
theorem R5 {l:List Ic} (h:∀s∈l,s.Dn.size<=8):(Gg l).size<=9:=by
 cases l with
 | nil=>decide
 | cons s r =>
  have:=h s FB;unfold Gg;dsimp only
  split
  ·unfold Agu;rw [aE];show 1+s.Dn.size<=9;omega
  ·decide
theorem Atr (y:Aj):Iv y y.next=Jr y.Ap 0:=by
 unfold Iv gp;rw [Int.sub_self];rfl
theorem Tu (s:au) (h:s.size<=maxLen) (w:World):Cz A8 w [af s] [s] []:=⟨_,[],[],[],FB,FB,⟨rfl,h,rfl⟩,rfl,rfl⟩
structure Abz where
 es:ai
 y:Aj
 a:aj
 c:Nat
 F:aq
 ae:aj
 ce:Nat
 Fe:aq
structure Bdd (x:Aj) (s:Abz):Prop where
 n0:0<=s.y.next
 n1:s.y.next<=65535
 it:∀z∈s.y.Ap,z.Dn.size<=8
 ln:s.es.length+s.y.Ap.length<=x.Ap.length
 w:Pd x=Pd s.y
 e:Q8 x=s.es++Q8 s.y
theorem Adg (x:Aj) (g t o:Nat) (A B:am) (a:aj) (cc:Nat) (F:aq) (h0:0<=x.next) (h1:x.next<=65535) (hl:x.Ap.length<=1000000) (hs:∀s∈x.Ap,s.Dn.size<=8) :
  Fn prog 345 [Ga g o 0] [] [.row g t o A [aa x.next,ab a x.Ap.length cc] B,.ow Cw 107 (ab a x.Ap.length cc) x.Ap F] (fun (s:Abz)=>s.y=Pd x/\s.es=Q8 x)
   (fun s=>ab s.ae s.es.length s.ce) (fun s=>[.row g t o A [aa s.y.next,ab s.a s.y.Ap.length s.c] B,.ow Cw 107 (ab s.a s.y.Ap.length s.c) s.y.Ap s.F,.ow A8 9 (ab s.ae s.es.length s.ce) s.es s.Fe]):=by
 refine enter func345 rfl ntmps345 fun w0=>?_;refine go ?_;refine Cf A8 9 ?_;refine Bx [0,2] (fun s:Abz=>[(3,ab s.ae s.es.length s.ce)]) (fun s=>[.row g t o A [aa s.y.next,ab s.a s.y.Ap.length s.c] B,.ow Cw 107 (ab s.a s.y.Ap.length s.c) s.y.Ap s.F,.ow A8 9 (ab s.ae s.es.length s.ce) s.es s.Fe]) (Bdd x) (fun s=>s.y.Ap.length) ⟨[],x,a,cc,F,none,0,[]⟩ ⟨h0,h1,hs,FB,rfl,rfl⟩ fun s hC=>?_;obtain ⟨n0,n1,hit,hln,hw,he⟩:=hC;refine go ?_;refine Ar [0] [] ?_;refine Df 0 1 2 3 ?_;refine Dh 4 5 ?_;refine dt 6 ?_;refine dN 7 ?_;refine oC ?_;refine cb (fun w st=>by
  obtain ⟨F',h⟩:=Ber (st.get (p:=.ow Cw 107 (ab s.a s.y.Ap.length s.c) s.y.Ap s.F) FB);exact (Aan s.y s.y.next _ F' n0 n1 n0 n1).val w (Iw h)) ?_
 refine dk ?_;refine dd ?_;rw [Atr];cases hv:Jr s.y.Ap 0
 ·refine go ?_;refine ret s ⟨by rw [hw,(Abb hv).1],by rw [he,(Abb hv).2,bg]⟩ rfl
 refine go ?_;refine cf (Aib s.y g t o A B s.a s.c s.F n0 n1 EZ hit) fun z _=>?_;obtain ⟨az,cz,Fz⟩:=z;refine Ot ?_;have hsz:=R5 hit;have hmx:(Gg s.y.Ap).size<=maxLen:=FH
 have hlt:0 < s.y.Ap.length:=by
  rcases cy s.y.Ap.length with h|h
  ·rw [Q2 EZ] at hv;cases hv
  ·exact h
 have hll:s.es.length+1<=1000000:=EZ
 refine go ?_;intros;apply wO;refine Nb (Tu _ hmx) Do fun a' c' F'=>?_;refine go ?_;refine Ca ⟨s.es++[Gg s.y.Ap],Yw s.y,az,cz,Fz,a',c',F'⟩ ⟨(I7 _ _).1,(I7 _ _).2,fun z hz=>hit z (bu hz),HS,by rw [hw,(Alc hv).1],by rw [he,(Alc hv).2];simp⟩ HS
def zsl:Ic:=⟨false,⟨#[]⟩⟩
def Mc (x:Aj) (j:Nat):List Ic:=x.Ap++List.replicate j zsl
theorem Oj (x:Aj) (j:Nat):(Mc x j).length=x.Ap.length+j:=by simp [Mc]
def L0 (x:Aj) (k:Nat) (s:Ic):List Ic:=(Mc x (k+1 - x.Ap.length)).set k s
def Gs (x:Aj) (n:Int):Bool:=Tl n x.next || Iv x n
def M9 (x:Aj) (n:Int):Bool:=Gs x n || decide (gp x.next n < 8)
def Yv (x:Aj) (n:Int) (s:au):Aj:=⟨x.next,L0 x (gp x.next n).toNat ⟨true,s⟩⟩
def Lx (x:Aj) (n:Int) (s:au):Aj:=if Gs x n || !decide (gp x.next n < 8) then x else Pd (Yv x n s)
def Lp (x:Aj) (n:Int) (s:au):ai:=if Gs x n || !decide (gp x.next n < 8) then [] else Q8 (Yv x n s)
def Ev (a b:Int):Nat:=if Tl a b then (gp a b).toNat else 0
def Iy:Nat->Aj->Aj
 | 0,y=>y
 | k+1,y=>Iy k (Yw y)
def N5:Nat->Aj->ai
 | 0,_=>[]
 | k+1,y=>Gg y.Ap::N5 k (Yw y)
theorem Aj6 {a b:Int} (h:Tl a b=false):Ev a b=0:=by unfold Ev;rw [h];rfl
theorem Ahg {a b:Int} (h:Tl a b=true):Ev a b=Ev (Cc a 1) b+1:=by
 unfold Ev;rw [h];unfold Tl E8 gp Cc at *;simp only [aw,aF,if_true] at h ⊢
 split <;> omega
theorem Aj5 (a b:Int):Ev a b<=32767:=by
 unfold Ev
 split
 ·rename_i h;unfold Tl E8 at h;simp only [aw,aF] at h;omega
 ·omega
theorem Ag0 (s:Ic) (h:s.Dn.size<=maxLen) (w:World):Cz Cw w [.bool s.Wm,af s.Dn] [s] []:=⟨_,[],[],[],FB,FB,⟨rfl,h,rfl⟩,rfl,rfl⟩
theorem Z8 {x:Aj} {k:Nat} (hs:∀s∈x.Ap,s.Dn.size<=8) {s:Ic} (hi:s.Dn.size<=8):∀z∈L0 x k s,z.Dn.size<=8:=fun z hz=>by
 unfold L0 at hz;rcases bE hz with h|rfl
 ·unfold Mc at h;rcases aK.1 h with h|h
  ·exact hs z h
  ·rw [(fg.1 h).2];decide
 ·exact hi
structure Bdx where
 j:Nat
 a:aj
 c:Nat
 F:aq
theorem Av7 (x:Aj) (n:Int) (Dn:au) (g t o:Nat) (A B:am) (a:aj) (cc:Nat) (F:aq) (h0:0<=x.next) (h1:x.next<=65535) (h2:0<=n) (h3:n<=65535) (hl:x.Ap.length<=8) (hs:∀s∈x.Ap,s.Dn.size<=8) (hi:Dn.size<=8) :
  Fn prog 363 [Ga g o 0,aa n,af Dn] [] [.row g t o A [aa x.next,ab a x.Ap.length cc] B,.ow Cw 107 (ab a x.Ap.length cc) x.Ap F] (fun (s:Abz)=>s.y=Lx x n Dn/\s.es=Lp x n Dn)
   (fun s=>.tuple #[ab s.ae s.es.length s.ce,.bool (M9 x n)]) (fun s=>[.row g t o A [aa s.y.next,ab s.a s.y.Ap.length s.c] B,.ow Cw 107 (ab s.a s.y.Ap.length s.c) s.y.Ap s.F,.ow A8 9 (ab s.ae s.es.length s.ce) s.es s.Fe]):=by
 have hg:=Le x.next n
 refine enter func363 rfl ntmps363 fun w0=>?_;refine go ?_;refine ce (fun w s=>Np _ _ _ EZ EZ EZ EZ) ?_;cases g1:Tl n x.next
 rotate_left
 ·refine go ?_;refine Cf A8 9 ?_;refine ret ⟨[],x,a,cc,F,none,0,[]⟩ ⟨by simp [Lx,Gs,g1],by simp [Lp,Gs,g1]⟩ ?_;simp [M9,Gs,g1,Tn]
 refine go ?_;refine cb (fun w st=>by
  obtain ⟨F',h⟩:=Ber (st.get (p:=.ow Cw 107 (ab a x.Ap.length cc) x.Ap F) FB);exact (Aan x n _ F' h0 h1 h2 h3).val w (Iw h)) ?_
 cases g2:Iv x n
 rotate_left
 ·refine go ?_;refine Cf A8 9 ?_;refine ret ⟨[],x,a,cc,F,none,0,[]⟩ ⟨by simp [Lx,Gs,g1,g2],by simp [Lp,Gs,g1,g2]⟩ ?_;simp [M9,Gs,g1,g2,Tn]
 refine go ?_;refine ce (fun w s=>O6 _ _ _ EZ EZ EZ EZ) ?_;refine go ?_;refine A4 rfl (fun h8=>?_) (fun h8=>?_)
 ·refine go ?_;refine Cf A8 9 ?_;have h9:¬gp x.next n < 8:=EZ
  refine ret ⟨[],x,a,cc,F,none,0,[]⟩ ⟨by simp [Lx,h9],by simp [Lp,h9]⟩ ?_;simp [M9,Gs,g1,g2,h9,Tn]
 have hW:Lx x n Dn=Pd (Yv x n Dn):=by unfold Lx Gs;rw [g1,g2,av EZ];rfl
 have hE:Lp x n Dn=Q8 (Yv x n Dn):=by unfold Lp Gs;rw [g1,g2,av EZ];rfl
 have hO:M9 x n=true:=by unfold M9;rw [av (show gp x.next n < 8 by omega)];simp
 unfold Yv at hW hE;obtain ⟨k,hk⟩:∃k:Nat,gp x.next n=k:=⟨(gp x.next n).toNat,EZ⟩
 rw [hk] at hW hE ⊢;rw [ba] at hW hE;refine go ?_;refine Bx [0,2,6,7,8] (fun s:Bdx=>[]) (fun s=>[.row g t o A [aa x.next,.slice s.a (Mc x s.j).length s.c] B,.ow Cw 107 (.slice s.a (Mc x s.j).length s.c) (Mc x s.j) s.F]) (fun s=>s.j<=k+1 - x.Ap.length) (fun s=>k+1 - x.Ap.length - s.j) ⟨0,a,cc,F⟩ (aG _) (fun s hj=>?_) (hH:=KR);have hpl:=Oj x s.j;refine go ?_;refine A4 rfl (fun h9=>?_) (fun h9=>?_)
 ·refine go ?_;intros;apply wO;refine Nb (Ag0 zsl FA) Iu fun a' c' F'=>?_;refine go ?_;have e:Mc x s.j++[zsl]=Mc x (s.j+1):=by simp [Mc,eO]
  exact CY
 have hjk:s.j=k+1 - x.Ap.length:=EZ
 refine go ?_;have hkl:k < (Mc x s.j).length:=EZ
 refine Akv k ?_;rintro hi2 g2 A2 B2 e eF hs2 hh;rw [e];refine Io ?_;intros;refine Pz (⟨true,Dn⟩:Ic) hh (fun w=>⟨rfl,JI,rfl⟩) ?_;have hsl:(Mc x s.j).length=((Mc x s.j).set k ⟨true,Dn⟩).length:=by rw [bU]
 rw [hsl];have hpu:(Mc x s.j).set k ⟨true,Dn⟩=L0 x k ⟨true,Dn⟩:=by unfold L0;rw [hjk]
 rw [hpu];have hpl2:(L0 x k ⟨true,Dn⟩).length<=1000:=by unfold L0;rw [bU,Oj];omega
 have hps:=Z8 (x:=x) (k:=k) hs (s:=⟨true,Dn⟩) hi;refine go ?_;refine Bf (Adg ⟨x.next,L0 x k ⟨true,Dn⟩⟩ g t o A B _ _ _ h0 h1 (by show (L0 x k ⟨true,Dn⟩).length<=_;omega) hps) fun z hz=>?_;refine go ?_;refine ret z ⟨by rw [hz.1,hW],by rw [hz.2,hE]⟩ ?_;rw [hO];rfl
structure Avy (x:Aj) (n:Int) (s:Abz):Prop where
 n0:0<=s.y.next
 n1:s.y.next<=65535
 it:∀z∈s.y.Ap,z.Dn.size<=8
 ln:s.y.Ap.length<=x.Ap.length
 le:s.es.length+Ev s.y.next n<=Ev x.next n
 w:Iy (Ev x.next n) x=Iy (Ev s.y.next n) s.y
 e:N5 (Ev x.next n) x=s.es++N5 (Ev s.y.next n) s.y
theorem Aof (x:Aj):(Q8 x).length<=x.Ap.length:=by
 unfold Q8;have:∀(l:List Ic) n,(rel n l).2.2.length<=l.length:=by
  intro l
  induction l with
  | nil=>intro n;simp [rel]
  | cons s r ih=>intro n;unfold rel;split;simp;exact ih _;simp
 exact this _ _
theorem Al7 (x:Aj) (n:Int) (g t o:Nat) (A B:am) (a:aj) (cc:Nat) (F:aq) (h0:0<=x.next) (h1:x.next<=65535) (h2:0<=n) (h3:n<=65535) (hl:x.Ap.length<=8) (hs:∀s∈x.Ap,s.Dn.size<=8) :
  Fn prog 313 [Ga g o 0,aa n] [] [.row g t o A [aa x.next,ab a x.Ap.length cc] B,.ow Cw 107 (ab a x.Ap.length cc) x.Ap F] (fun (s:Abz)=>s.y=Pd (Iy (Ev x.next n) x)/\s.es=N5 (Ev x.next n) x++Q8 (Iy (Ev x.next n) x))
   (fun s=>ab s.ae s.es.length s.ce) (fun s=>[.row g t o A [aa s.y.next,ab s.a s.y.Ap.length s.c] B,.ow Cw 107 (ab s.a s.y.Ap.length s.c) s.y.Ap s.F,.ow A8 9 (ab s.ae s.es.length s.ce) s.es s.Fe]):=by
 have hgn:=Aj5 x.next n
 refine enter func313 rfl ntmps313 fun w0=>?_;refine go ?_;refine Cf A8 9 ?_;refine Bx [0,1,4] (fun s:Abz=>[(5,ab s.ae s.es.length s.ce)]) (fun s=>[.row g t o A [aa s.y.next,ab s.a s.y.Ap.length s.c] B,.ow Cw 107 (ab s.a s.y.Ap.length s.c) s.y.Ap s.F,.ow A8 9 (ab s.ae s.es.length s.ce) s.es s.Fe]) (Avy x n) (fun s=>Ev s.y.next n) ⟨[],x,a,cc,F,none,0,[]⟩ ⟨h0,h1,hs,aL _,FB,rfl,rfl⟩ fun s hC=>?_;obtain ⟨n0,n1,hit,hln,hle,hw,he⟩:=hC;refine go ?_;refine ce (fun w s=>Np _ _ _ EZ EZ EZ EZ) ?_;cases hb:Tl s.y.next n
 ·refine go ?_;rw [Aj6 hb] at hw he;refine Bf (Adg s.y g t o A B s.a s.c s.F n0 n1 EZ hit) fun z hz=>?_;refine go ?_;have hr:=Aof s.y;have hzl:z.es.length<=s.y.Ap.length:=by rw [hz.2];exact hr
  refine Av (xs:=z.es) fun F'=>?_;apply wO;refine Ni Do Hv fun a' c' F2=>?_;exact EI
 have hst:=Ahg hb;refine go ?_;refine cf (Aib s.y g t o A B s.a s.c s.F n0 n1 EZ hit) fun z _=>?_;obtain ⟨az,cz,Fz⟩:=z;refine Ot ?_;have hsz:=R5 hit;have hmx:(Gg s.y.Ap).size<=maxLen:=FH
 refine go ?_;intros;apply wO;refine Nb (Tu _ hmx) Do fun a' c' F'=>?_;refine go ?_;refine Ca ⟨s.es++[Gg s.y.Ap],Yw s.y,az,cz,Fz,a',c',F'⟩ ⟨(I7 _ _).1,(I7 _ _).2,fun z hz=>hit z (bu hz),HS,HS,by rw [hw,hst];rfl,by rw [he,hst];simp [N5,Yw]⟩ (by show Ev (Cc s.y.next 1) n < _;omega)
def zRW:Aj:=⟨0,[]⟩
def Vq (x:Aj) (n:Int) (s:au):Bool:=Cv x && Bz n && Pe s && M9 x n
def Js (x:Aj) (n:Int) (s:au):Aj × ai × Bool:=if Vq x n s then (Lx x n s,Lp x n s,true) else (zRW,[],false)
theorem An1 {s:Ic} (h:Hc s=true):s.Dn.size<=8:=by
 unfold Hc Pe at h;simp only [aw,aF] at h;omega
structure Bdv (x:Aj):Prop where
 n0:0<=x.next
 n1:x.next<=65535
 l:x.Ap.length<=8
 it:∀s∈x.Ap,s.Dn.size<=8
theorem Rt {x:Aj} (h:Cv x=true):Bdv x:=by
 unfold Cv at h;simp only [aw,aF] at h;have hs:=A9.1 h.1.1.1;exact ⟨hs.1,hs.2,EZ,fun s hs=>An1 (aW.1 h.1.2 s hs)⟩
theorem Up {s:au} (h:Pe s=true):s.size<=8:=by unfold Pe at h;simp only [aw,aF] at h;omega
structure CpS where
 g:Nat
 a:aj
 c:Nat
 F:aq
theorem Vi (x:Aj) (v:Value) (F:aq) (h0:0<=x.next) (h1:x.next<=65535) (hl:x.Ap.length<=1000000) (hs:∀s∈x.Ap,s.Dn.size<=8) :
  Fn prog 327 [v] [.isv Br v x F] [] (fun (s:Abz)=>s.y=Pd x/\s.es=Q8 x)
   (fun s=>.tuple #[.agg #[aa s.y.next,ab s.a s.y.Ap.length s.c],ab s.ae s.es.length s.ce]) (fun s=>[.isv Br (.agg #[aa s.y.next,ab s.a s.y.Ap.length s.c]) s.y s.F,.ow A8 9 (ab s.ae s.es.length s.ce) s.es s.Fe]):=by
 refine enter func327 rfl ntmps327 fun w0=>?_;refine Cu ?_;rintro a1 c1 F1 rfl l1;unfold maxLen at l1;refine go ?_;intros;refine D0 [2,3] [0] (fun s:CpS=>[(4,Ga s.g 0 0)]) (fun s=>[.row s.g 73 0 [] [aa x.next,ab s.a x.Ap.length s.c] [],.ow Cw 107 (ab s.a x.Ap.length s.c) x.Ap s.F]) (fun _=>True) ?_ fun s _=>?_
 ·refine Ar [0,1] [8] ?_;refine Df 0 1 3 4 ?_;refine dM 2 7 ?_ ?_
  ·apply Kg;rfl;intro _;refine Cy Cw ?_;refine dk ?_;refine dM 5 7 ?_ ?_
   ·exact AY
   ·apply Cm;rfl;intro _;exact AF
  ·exact CZ
 obtain ⟨gg,a2,c2,F2⟩:=s;refine Av (xs:=x.Ap) fun F3=>?_;refine go ?_;intros;refine Cy A8 ?_;refine Bx [2,3,4] (fun s:Abz=>[(5,ab s.ae s.es.length s.ce)]) (fun s=>[.row gg 73 0 [] [aa s.y.next,ab s.a s.y.Ap.length s.c] [],.sl Cw (ab s.a s.y.Ap.length s.c) s.y.Ap s.F,.ow A8 9 (ab s.ae s.es.length s.ce) s.es s.Fe]) (Bdd x) (fun s=>s.y.Ap.length) ⟨[],x,a2,c2,F3,_,0,_⟩ ⟨h0,h1,hs,FB,rfl,rfl⟩ fun s hC=>?_;obtain ⟨n0,n1,hit,hln,hw,he⟩:=hC;have stop:Jr s.y.Ap 0=false->s.y=Pd x/\s.es=Q8 x:=fun h=>⟨by rw [hw,(Abb h).1],by rw [he,(Abb h).2,bg]⟩;refine go ?_
 refine D6 rfl rfl (fun h4=>?_) (fun h4=>?_)
 rotate_left
 ·refine go ?_;have hv:Jr s.y.Ap 0=false:=Q2 EZ;refine Cb s.y ?_;refine ret s (stop hv) rfl
 refine Pg 0 ?_;rintro hi b o e s1;rw [e];refine go ?_;cases g1:s.y.Ap[0].Wm
 ·refine go ?_;rw [<-e];refine Cb s.y ?_;refine ret s (stop (by rw [Lf hi,g1])) rfl
 have hv:Jr s.y.Ap 0=true:=by rw [Lf hi,g1]
 have hz:=hit _ (aB hi);have h43:(⟨#[43]⟩:au).size=1:=rfl;have hpl:(⟨#[43]⟩++s.y.Ap[0].Dn:au)=Gg s.y.Ap:=(Ac4 hi g1).symm;have hmx:(Gg s.y.Ap).size<=maxLen:=by have:=R5 hit;unfold maxLen;omega
 have hll:s.es.length+1<=1000000:=EZ
 refine go ?_;intros;rw [hpl];apply wO;refine Nb (Tu _ hmx) Do fun a' c' F'=>?_;refine go ?_;refine Ar [1,2] [7] ?_;refine Df 0 1 3 4 ?_;refine Amp 5 1 fun a5 c5 F5=>?_;refine dN 2 ?_;refine oC ?_;refine ce (fun w s=>Ht _ _ _ EZ EZ) ?_;refine dk ?_;refine dt 6 ?_;refine dN 7 ?_;refine oS ?_;refine Nm ?_;refine dd ?_;refine go ?_;refine Ca ⟨s.es++[Gg s.y.Ap],Yw s.y,a5,c5,F5,a',c',F'⟩ ⟨(I7 _ _).1,(I7 _ _).2,fun z hz=>hit z (bu hz),HS,by rw [hw,(Alc hv).1],by rw [he,(Alc hv).2];simp⟩ HS
theorem Apy (x:Aj) (n:Int) (v:Value) (F:aq) (h0:0<=x.next) (h1:x.next<=65535) (h2:0<=n) (h3:n<=65535) (hl:x.Ap.length<=8) :
  FV 329 [v,aa n] [.isv Br v x F] (.bool (M9 x n)):=by
 have hg:=Le x.next n
 have hh:¬gp x.next n < 8->Iv x n=false:=fun h=>Q2 EZ
 refine enter func329 rfl ntmps329 fun w0=>?_;refine Cu ?_;rintro a1 c1 F1 rfl l1;refine go ?_;intros;refine ce (fun w s=>Qd _ _ _ EZ EZ) ?_;cases g1:Tl n x.next
 ·refine go ?_;refine ce (fun w s=>Jk _ _ _ EZ EZ) ?_;refine go ?_;refine ret () trivial ?_;unfold M9 Gs;rw [g1];by_cases h8:gp x.next n < 8
  ·simp [h8,Tn]
  ·simp [h8,hh h8,Tn]
 ·refine go ?_;refine ret () trivial ?_;simp [M9,Gs,g1,Tn]
theorem Atz (x:Aj) (n:Int) (Dn:au) (v:Value) (F:aq) (h0:0<=x.next) (h1:x.next<=65535) (h2:0<=n) (h3:n<=65535) (hl:x.Ap.length<=8) (hs:∀s∈x.Ap,s.Dn.size<=8) (hi:Dn.size<=8) (hok:M9 x n=true) :
  Fn prog 330 [v,aa n,af Dn] [.isv Br v x F] [] (fun (s:Abz)=>s.y=Lx x n Dn/\s.es=Lp x n Dn)
   (fun s=>.tuple #[.agg #[aa s.y.next,ab s.a s.y.Ap.length s.c],ab s.ae s.es.length s.ce]) (fun s=>[.isv Br (.agg #[aa s.y.next,ab s.a s.y.Ap.length s.c]) s.y s.F,.ow A8 9 (ab s.ae s.es.length s.ce) s.es s.Fe]):=by
 have hg:=Le x.next n
 refine enter func330 rfl ntmps330 fun w0=>?_;refine Cu ?_;rintro a1 c1 F1 rfl l1;refine go ?_;intros;refine ce (fun w s=>Jk _ _ _ EZ EZ) ?_;obtain ⟨k,hk⟩:∃k:Nat,gp x.next n=k:=⟨(gp x.next n).toNat,EZ⟩
 rw [hk];refine go ?_;refine D0 [1,2,3,6,7,8] [0,1,2] (fun s:CpS=>[(9,Ga s.g 0 0)]) (fun s=>[.row s.g 73 0 [] [aa x.next,ab s.a x.Ap.length s.c] [],.ow Cw 107 (ab s.a x.Ap.length s.c) x.Ap s.F]) (fun _=>True) ?_ fun s _=>?_
 ·refine Ar [0,1] [8] ?_;refine Df 0 1 3 4 ?_;refine dM 2 7 ?_ ?_
  ·apply Kg;rfl;intro _;refine Cy Cw ?_;refine dk ?_;refine dM 5 7 ?_ ?_
   ·exact AY
   ·apply Cm;rfl;intro _;exact AF
  ·exact CZ
 obtain ⟨gg,a2,c2,F2⟩:=s;refine go ?_;refine ce (fun w s=>Qd _ _ _ EZ EZ) ?_;cases g1:Tl n x.next
 rotate_left
 ·refine go ?_;intros;refine Cy A8 ?_;refine Av (xs:=x.Ap) fun F3=>?_;refine Cb x ?_;refine ret ⟨[],x,a2,c2,F3,_,0,_⟩ ⟨by simp [Lx,Gs,g1],by simp [Lp,Gs,g1]⟩ rfl
 refine go ?_;refine D6 rfl rfl (fun h4=>?_) (fun h4=>?_)
 ·refine Pg k ?_;rintro hi2 b2 o2 e s1;cases e;refine go ?_;cases g4:x.Ap[k].Wm
  rotate_left
  ·have hb:Iv x n=true:=by unfold Iv;rw [hk,ba,Lf hi2];exact g4
   refine go ?_;intros;refine Cy A8 ?_;refine Av (xs:=x.Ap) fun F3=>?_;refine Cb x ?_;refine ret ⟨[],x,a2,c2,F3,_,0,_⟩ ⟨by simp [Lx,Gs,hb],by simp [Lp,Gs,hb]⟩ rfl
  have hpad:Iv x n=false:=by unfold Iv;rw [hk,ba,Lf hi2];exact g4
  have hno:Gs x n=false:=by unfold Gs;rw [g1,hpad];rfl
  have h8:gp x.next n < 8:=by unfold M9 at hok;rw [hno] at hok;simpa using hok
  have hW:Lx x n Dn=Pd (Yv x n Dn):=by unfold Lx;rw [hno,av h8];rfl
  have hE:Lp x n Dn=Q8 (Yv x n Dn):=by unfold Lp;rw [hno,av h8];rfl
  unfold Yv at hW hE;rw [hk,ba] at hW hE;refine go ?_;refine Bx [2,6,7,8,9] (fun s:Bdx=>[]) (fun s=>[.row gg 73 0 [] [aa x.next,.slice s.a (Mc x s.j).length s.c] [],.ow Cw 107 (.slice s.a (Mc x s.j).length s.c) (Mc x s.j) s.F]) (fun s=>s.j<=k+1 - x.Ap.length) (fun s=>k+1 - x.Ap.length - s.j) ⟨0,a2,c2,F2⟩ (aG _) (fun s hj=>?_) (hH:=KR);have hpl:=Oj x s.j;refine go ?_;refine A4 rfl (fun h9=>?_) (fun h9=>?_)
  ·refine go ?_;intros;apply wO;refine Nb (Ag0 zsl FA) Iu fun a' c' F'=>?_;refine go ?_;have e:Mc x s.j++[zsl]=Mc x (s.j+1):=by simp [Mc,eO]
   exact CY
  have hjk:s.j=k+1 - x.Ap.length:=EZ
  refine go ?_;have hkl:k < (Mc x s.j).length:=EZ
  refine Akv k ?_;rintro hi2 g2 A2 B2 e eF hs2 hh;rw [e];refine Io ?_;intros;refine Pz (⟨true,Dn⟩:Ic) hh (fun w=>⟨rfl,JI,rfl⟩) ?_;have hsl:(Mc x s.j).length=((Mc x s.j).set k ⟨true,Dn⟩).length:=by rw [bU]
  rw [hsl];have hpu:(Mc x s.j).set k ⟨true,Dn⟩=L0 x k ⟨true,Dn⟩:=by unfold L0;rw [hjk]
  rw [hpu];have hpl2:(L0 x k ⟨true,Dn⟩).length<=1000:=by unfold L0;rw [bU,Oj];omega
  exact BE
 ·have hpad:Iv x n=false:=Q2 EZ;have hno:Gs x n=false:=by unfold Gs;rw [g1,hpad];rfl
  have h8:gp x.next n < 8:=by unfold M9 at hok;rw [hno] at hok;simpa using hok
  have hW:Lx x n Dn=Pd (Yv x n Dn):=by unfold Lx;rw [hno,av h8];rfl
  have hE:Lp x n Dn=Q8 (Yv x n Dn):=by unfold Lp;rw [hno,av h8];rfl
  unfold Yv at hW hE;rw [hk,ba] at hW hE;refine go ?_;refine Bx [2,6,7,8,9] (fun s:Bdx=>[]) (fun s=>[.row gg 73 0 [] [aa x.next,.slice s.a (Mc x s.j).length s.c] [],.ow Cw 107 (.slice s.a (Mc x s.j).length s.c) (Mc x s.j) s.F]) (fun s=>s.j<=k+1 - x.Ap.length) (fun s=>k+1 - x.Ap.length - s.j) ⟨0,a2,c2,F2⟩ (aG _) (fun s hj=>?_) (hH:=KR);have hpl:=Oj x s.j;refine go ?_;refine A4 rfl (fun h9=>?_) (fun h9=>?_)
  ·refine go ?_;intros;apply wO;refine Nb (Ag0 zsl FA) Iu fun a' c' F'=>?_;refine go ?_;have e:Mc x s.j++[zsl]=Mc x (s.j+1):=by simp [Mc,eO]
   exact CY
  have hjk:s.j=k+1 - x.Ap.length:=EZ
  refine go ?_;have hkl:k < (Mc x s.j).length:=EZ
  refine Akv k ?_;rintro hi2 g2 A2 B2 e eF hs2 hh;rw [e];refine Io ?_;intros;refine Pz (⟨true,Dn⟩:Ic) hh (fun w=>⟨rfl,JI,rfl⟩) ?_;have hsl:(Mc x s.j).length=((Mc x s.j).set k ⟨true,Dn⟩).length:=by rw [bU]
  rw [hsl];have hpu:(Mc x s.j).set k ⟨true,Dn⟩=L0 x k ⟨true,Dn⟩:=by unfold L0;rw [hjk]
  rw [hpu];have hpl2:(L0 x k ⟨true,Dn⟩).length<=1000:=by unfold L0;rw [bU,Oj];omega
  exact BE
theorem Ts (x:Aj) (n:Int) (v:Value) (F:aq) (h0:0<=x.next) (h1:x.next<=65535) (h2:0<=n) (h3:n<=65535) (hl:x.Ap.length<=8) (hs:∀s∈x.Ap,s.Dn.size<=8) :
  Fn prog 290 [v,aa n] [.isv Br v x F] [] (fun (s:Abz)=>s.y=Pd (Iy (Ev x.next n) x)/\s.es=N5 (Ev x.next n) x++Q8 (Iy (Ev x.next n) x))
   (fun s=>.tuple #[.agg #[aa s.y.next,ab s.a s.y.Ap.length s.c],ab s.ae s.es.length s.ce]) (fun s=>[.isv Br (.agg #[aa s.y.next,ab s.a s.y.Ap.length s.c]) s.y s.F,.ow A8 9 (ab s.ae s.es.length s.ce) s.es s.Fe]):=by
 have hgn:=Aj5 x.next n
 refine enter func290 rfl ntmps290 fun w0=>?_;refine Cu ?_;rintro a1 c1 F1 rfl l1;refine go ?_;intros;refine D0 [1,4,5] [0] (fun s:CpS=>[(6,Ga s.g 0 0)]) (fun s=>[.row s.g 73 0 [] [aa x.next,ab s.a x.Ap.length s.c] [],.ow Cw 107 (ab s.a x.Ap.length s.c) x.Ap s.F]) (fun _=>True) ?_ fun s _=>?_
 ·refine Ar [0,1] [8] ?_;refine Df 0 1 3 4 ?_;refine dM 2 7 ?_ ?_
  ·apply Kg;rfl;intro _;refine Cy Cw ?_;refine dk ?_;refine dM 5 7 ?_ ?_
   ·exact AY
   ·apply Cm;rfl;intro _;exact AF
  ·exact CZ
 obtain ⟨gg,a2,c2,F2⟩:=s;refine Av (xs:=x.Ap) fun F3=>?_;refine go ?_;intros;refine Cy A8 ?_;refine Bx [1,4,5,6] (fun s:Abz=>[(7,ab s.ae s.es.length s.ce)]) (fun s=>[.row gg 73 0 [] [aa s.y.next,ab s.a s.y.Ap.length s.c] [],.sl Cw (ab s.a s.y.Ap.length s.c) s.y.Ap s.F,.ow A8 9 (ab s.ae s.es.length s.ce) s.es s.Fe]) (Avy x n) (fun s=>Ev s.y.next n) ⟨[],x,a2,c2,F3,_,0,_⟩ ⟨h0,h1,hs,aL _,FB,rfl,rfl⟩ fun s hC=>?_;obtain ⟨n0,n1,hit,hln,hle,hw,he⟩:=hC;refine go ?_;refine ce (fun w s=>Qd _ _ _ EZ EZ) ?_;cases hb:Tl s.y.next n
 ·refine Io ?_;intros;refine Cb s.y ?_;refine go ?_;rw [Aj6 hb] at hw he;refine Bf (Vi s.y _ _ n0 n1 EZ hit) fun z hz=>?_;refine go ?_;intros;have hr:=Aof s.y;have hzl:z.es.length<=s.y.Ap.length:=by rw [hz.2];exact hr
  refine Av (xs:=z.es) fun F'=>?_;refine Ar [1] [] ?_;refine Dh 0 1 ?_;refine dt 2 ?_;refine dN 3 ?_;refine Ni Do Hv fun a' c' F2=>?_;refine dk ?_;refine dN 4 ?_;refine oS ?_;refine dk ?_;refine dt 5 ?_;refine dd ?_;exact EI
 have hst:=Ahg hb;have hmx:(Gg s.y.Ap).size<=maxLen:=by have:=R5 hit;unfold maxLen;omega
 refine go ?_;intros;refine Cy Cw ?_;refine A4 rfl (fun h4=>?_) (fun h4=>?_)
 ·refine Pg 0 ?_;rintro hi b o e s1;rw [e];refine go ?_;cases g1:s.y.Ap[0].Wm
  ·have hpl1:(⟨#[45]⟩:au)=Gg s.y.Ap:=(Aj1 hi g1).symm;refine go ?_;apply wO;refine sld 1 fun a5 c5 F5=>?_;refine go ?_;intros;rw [hpl1];apply wO;refine Nb (Tu _ hmx) Do fun a' c' F'=>?_;refine go ?_;refine ce (fun w s=>Ht _ _ _ EZ EZ) ?_;refine go ?_;exact CD
  ·have hz:=hit _ (aB hi);have h43:(⟨#[43]⟩:au).size=1:=rfl;have hpl2:(⟨#[43]⟩++s.y.Ap[0].Dn:au)=Gg s.y.Ap:=(Ac4 hi g1).symm;refine go ?_;apply wO;refine sld 1 fun a5 c5 F5=>?_;refine go ?_;intros;rw [hpl2];apply wO;refine Nb (Tu _ hmx) Do fun a' c' F'=>?_;refine go ?_;refine ce (fun w s=>Ht _ _ _ EZ EZ) ?_;refine go ?_
   exact CD
 ·have hnil:s.y.Ap=[]:=bF EZ;have hpl3:(⟨#[45]⟩:au)=Gg s.y.Ap:=by rw [hnil];rfl
  have hd:([]:List Ic)=s.y.Ap.drop 1:=by rw [hnil];rfl
  ·refine go ?_;intros;refine Av (E:=Cw) (xs:=[]) fun F6=>?_;rw [show (ab (some _) 0 0:Value)=Value.slice _ ([]:List Ic).length 0 from rfl];rw [hpl3];apply wO;refine Nb (Tu _ hmx) Do fun a' c' F'=>?_;refine go ?_;refine ce (fun w s=>Ht _ _ _ EZ EZ) ?_;refine go ?_;rw [hd];refine Ca ⟨s.es++[Gg s.y.Ap],Yw s.y,_,0,F6,a',c',F'⟩ ⟨(I7 _ _).1,(I7 _ _).2,fun z hz=>hit z (bu hz),HS,HS,by rw [hw,hst];rfl,by rw [he,hst];simp [N5,Yw]⟩ (by show Ev (Cc s.y.next 1) n < _;omega)
end Go.Proofs.YtkoldibamfjghaaGreatDoor
namespace Go.Proofs.YtkoldibamfjghaaGreatDoor

open Go.RowKit
end Go.Proofs.YtkoldibamfjghaaGreatDoor
namespace Go.Proofs.YtkoldibamfjghaaGreatDoor
open Go.RowKit
theorem Aci (x:Aj) (n:Int) (v:Value) (F:aq) (h0:0<=x.next) (h1:x.next<=65535) (h2:0<=n) (h3:n<=65535) :
  FV 272 [v,aa n] [.isv Br v x F] (.bool (Gs x n)):=by
 have hg:=Le x.next n
 refine enter func272 rfl ntmps272 fun w0=>?_;refine Cu ?_;rintro a1 c1 F1 rfl l1;refine go ?_;intros;refine ce (fun w s=>Jk _ _ _ EZ EZ) ?_;obtain ⟨k,hk⟩:∃k:Nat,gp x.next n=k:=⟨(gp x.next n).toNat,EZ⟩
 have hh:Iv x n=Jr x.Ap k:=by unfold Iv;rw [hk,ba]
 rw [hk];refine go ?_;refine ce (fun w s=>Qd _ _ _ EZ EZ) ?_;cases g1:Tl n x.next
 ·refine go ?_;refine D6 rfl rfl (fun h4=>?_) (fun h4=>?_)
  ·refine Pg (xs:=x.Ap) k ?_;rintro hi2 b2 o2 e s1;rw [e];refine go ?_;refine ret () trivial ?_;simp [Gs,g1,hh,Lf hi2,Tn]
  ·refine go ?_;refine ret () trivial ?_;simp [Gs,g1,hh,Q2 (show x.Ap.length<=k by omega),Tn]
 ·refine go ?_;refine ret () trivial ?_;simp [Gs,g1,Tn]
theorem Amc (n:Int) (j:Nat):Cc (Cc n 1) j=Cc n ((j+1:Nat):Int):=by unfold Cc;omega
theorem Sd {n:Int} (h0:0<=n) (h1:n<=65535):Cc n ((0:Nat):Int)=n:=by unfold Cc;omega
theorem Aba:∀(l:List Ic) (n:Int),0<=n->n<=65535->(rel n l).1=Cc n ((rel n l).2.2.length:Nat)
 | [],n,h0,h1=>(Sd h0 h1).symm
 | s::r,n,h0,h1=>by
  have ih:=Aba r (Cc n 1) (I7 _ _).1 (I7 _ _).2;unfold rel
  split
  ·dsimp only;rw [ih,Amc,aU]
  ·exact (Sd h0 h1).symm
theorem Aiy:∀(k:Nat) (x:Aj),0<=x.next->x.next<=65535->(Iy k x).next=Cc x.next (k:Nat)/\0<=(Iy k x).next/\(Iy k x).next<=65535
 | 0,x,h0,h1=>⟨(Sd h0 h1).symm,h0,h1⟩
 | k+1,x,h0,h1=>by
  obtain ⟨a,b,c⟩:=Aiy k (Yw x) (I7 _ _).1 (I7 _ _).2;unfold Iy;exact ⟨by rw [a];show Cc (Cc x.next 1) k=_;rw [Amc],b,c⟩
theorem Aes (n:Int) (i j:Nat):Cc (Cc n i) j=Cc n ((i+j:Nat):Int):=by unfold Cc;omega
theorem Adm (k:Nat) (x:Aj) (h0:0<=x.next) (h1:x.next<=65535):(Pd (Iy k x)).next=Cc x.next ((N5 k x++Q8 (Iy k x)).length:Nat):=by
 obtain ⟨a,b,c⟩:=Aiy k x h0 h1;have d:(Pd (Iy k x)).next=Cc (Iy k x).next ((Q8 (Iy k x)).length:Nat):=Aba (Iy k x).Ap (Iy k x).next b c
 have e:∀(k:Nat) (x:Aj),(N5 k x).length=k:=by
  intro k
  induction k with
  | zero=>intro x;rfl
  | succ k ih=>intro x;unfold N5;rw [aU,ih]
 rw [d,a,Aes,aA,e]
theorem Bed (n:Int) (j:Nat) (hj:j<=65535):gp n (Cc n j)=j:=by unfold gp Cc;omega
theorem Xo:∀(l:List Ic) (n:Int),(rel n l).2.1=l.drop (rel n l).2.2.length/\Jr (rel n l).2.1 0=false
 | [],n=>⟨rfl,rfl⟩
 | s::r,n=>by
  have ih:=Xo r (Cc n 1);unfold rel
  split
  ·dsimp only;rw [aU,List.drop_succ_cons];exact ih
  ·rename_i h;exact ⟨rfl,by simpa [Jr] using h⟩
theorem Sx:∀(k:Nat) (x:Aj),(Iy k x).Ap=x.Ap.drop k
 | 0,_=>rfl
 | k+1,x=>by unfold Iy;rw [Sx k (Yw x)];simp [Yw,Nat.add_comm]
theorem Vh (l:List Ic) (m i:Nat):Jr (l.drop m) i=Jr l (m+i):=by unfold Jr;rw [dD]
theorem Adl (k:Nat) (x:Aj) (hg:Cv x=true):Cv (Pd (Iy k x))=true:=by
 have g:=Rt hg;unfold Cv at hg;simp only [aw,aF] at hg;obtain ⟨⟨⟨h1,h2⟩,h3⟩,h4⟩:=hg;obtain ⟨d1,d2⟩:=Xo (Iy k x).Ap (Iy k x).next
 rw [Sx,cA] at d1;have hs:(Pd (Iy k x)).Ap=x.Ap.drop (k+(rel (Iy k x).next (x.Ap.drop k)).2.2.length):=by
  unfold Pd;dsimp only;rw [Sx,d1]
 have hn:=Adm k x g.n0 g.n1;generalize k+(rel (Iy k x).next (x.Ap.drop k)).2.2.length=m at hs;have h0:Jr (Pd (Iy k x)).Ap 0=false:=d2;rw [hs] at h0;have e1:Bz (Pd (Iy k x)).next=true:=by rw [hn];exact Pf _ _
 have e2:(x.Ap.drop m).all Hc=true:=aW.2 fun z hz=>aW.1 h3 z (bu hz);have e3:Wj (x.Ap.drop m)=true:=by
  unfold Wj;by_cases hz:(x.Ap.drop m).length=0
  ·rw [av hz];rfl
  ·rw [ay hz,h0,Vh];unfold Wj at h4;rw [aX] at hz ⊢;rw [ay (show ¬x.Ap.length=0 by omega)] at h4;simp only [fm,aw] at h4;rw [show m+(x.Ap.length - m - 1)=x.Ap.length - 1 by omega,h4.2];rfl
 unfold Cv;rw [e1,hs,e2,e3,av FF];rfl
theorem Apt {x:Aj} (hg:Cv x=true):Jr x.Ap 0=false:=by
 unfold Cv Wj at hg;simp only [aw,bZ,aF,bA] at hg;rcases hg.2 with h|h
 ·exact Q2 EZ
 ·exact h.1
theorem Ar9 (x:Aj):(Q8 x).length<=x.Ap.length:=by
 unfold Q8;have:∀(l:List Ic) n,(rel n l).2.2.length<=l.length:=by
  intro l
  induction l with
  | nil=>intro n;exact aL _
  | cons s r ih =>
   intro n;unfold rel
   split
   ·dsimp only;rw [aU,aU];exact Nat.succ_le_succ (ih _)
   ·exact aG _
 exact this _ _
theorem Ai1 (l:List Ic) (k i:Nat) (s:Ic) (hk:k < l.length):Jr (l.set k s) i=if i=k then s.Wm else Jr l i:=by
 unfold Jr;rw [List.getElem?_set];by_cases h:k=i
 ·subst h;simp [hk]
 ·rw [aC h,aC (fun e=>h e.symm)]
theorem An9 (x:Aj) (k:Nat) (s:Ic):(L0 x k s).length=max x.Ap.length (k+1):=by
 unfold L0;rw [bU,Oj];omega
theorem Ar5 (x:Aj) (k:Nat) (s:Ic):Jr (L0 x k s) k=s.Wm:=by
 unfold L0;rw [Ai1 _ _ _ _ (by rw [Oj];omega),aJ rfl]
theorem Ayn (x:Aj) (k:Nat) (s:Ic):(L0 x k s)[k]?=some s:=by
 unfold L0;rw [eC (by rw [Oj];omega)]
theorem Bcc {x:Aj} {k:Nat} {s:Ic} (hx:x.Ap.all Hc=true) (hs:Hc s=true):(L0 x k s).all Hc=true:=by
 rw [aW] at hx ⊢;intro z hz;unfold L0 at hz;rcases bE hz with h|rfl
 ·unfold Mc at h;rcases aK.1 h with h|h
  ·exact hx z h
  ·rw [(fg.1 h).2];decide
 ·exact hs
theorem Auv {x:Aj} {k:Nat} {s:Ic} (hx:Wj x.Ap=true) (hs:s.Wm=true):Jr (L0 x k s) ((L0 x k s).length - 1)=true:=by
 rw [An9];by_cases h:x.Ap.length<=k+1
 ·rw [show max x.Ap.length (k+1) - 1=k by omega,Ar5];exact hs
 ·unfold L0;rw [Ai1 _ _ _ _ (by rw [Oj];omega),aC EZ];unfold Wj at hx;rw [ay EZ] at hx;simp only [fm,aw] at hx;rw [show max x.Ap.length (k+1) - 1=x.Ap.length - 1 by omega];unfold Mc;rw [show k+1 - x.Ap.length=0 by omega];simpa using hx.2
theorem Ayt {n:Int} {L:List Ic} (hn:Bz n=true) (ho:L.all Hc=true) (hl:L.length<=8) (he:Jr L (L.length - 1)=true\/L=[]):Cv (Pd ⟨n,L⟩)=true:=by
 obtain ⟨d1,d2⟩:=Xo L n;have hs:(Pd ⟨n,L⟩).Ap=L.drop (rel n L).2.2.length:=d1;obtain ⟨p0,p1⟩:=A9.1 hn;have hnx:(Pd ⟨n,L⟩).next=Cc n ((rel n L).2.2.length:Nat):=Aba L n p0 p1
 generalize (rel n L).2.2.length=m at hs hnx;have h0:Jr (Pd ⟨n,L⟩).Ap 0=false:=d2;rw [hs] at h0;have e1:Bz (Pd ⟨n,L⟩).next=true:=by rw [hnx];exact Pf _ _
 have e2:(L.drop m).all Hc=true:=aW.2 fun z hz=>aW.1 ho z (bu hz);have e3:Wj (L.drop m)=true:=by
  unfold Wj;by_cases hz:(L.drop m).length=0
  ·rw [av hz];rfl
  ·rw [ay hz,h0,Vh];rw [aX] at hz ⊢;rcases he with he|he
   ·rw [show m+(L.length - m - 1)=L.length - 1 by omega,he];rfl
   ·subst he;simp at hz
 unfold Cv;rw [e1,hs,e2,e3,av FF];rfl
theorem Axv (x:Aj) (n:Int) (s:au):(Js x n s).2.2=true->Cv x=true/\Bz n=true/\Cv (Js x n s).1=true/\gp x.next (Js x n s).1.next=((Js x n s).2.1.length:Nat)/\Gs (Js x n s).1 n=true/\(n=x.next->∃r,(Js x n s).2.1=Agu s::r)/\(Js x n s).2.1.length<=8/\s.size<=8:=by
 unfold Js
 split
 rotate_left
 ·intro h;cases h
 rename_i h;intro _;unfold Vq at h;simp only [aw] at h;obtain ⟨⟨⟨h1,h2⟩,h3⟩,h4⟩:=h;have g:=Rt h1;have p0:=g.n0;have p1:=g.n1;have pl:=g.l;obtain ⟨n0,n1⟩:=A9.1 h2;refine ⟨h1,h2,?_⟩;dsimp only;cases ht:Gs x n with
 | true =>
  have eW:Lx x n s=x:=by unfold Lx;rw [ht];rfl
  have eE:Lp x n s=[]:=by unfold Lp;rw [ht];rfl
  rw [eW,eE];refine ⟨h1,?_,ht,fun e=>?_,FB,Up h3⟩
  ·unfold gp;simp
  ·subst e;exfalso;unfold Gs at ht;rw [bZ] at ht;rcases ht with h|h
   ·unfold Tl gp at h;simp at h;exact absurd h FA
   ·unfold Iv at h;rw [show gp x.next x.next=0 by unfold gp;omega] at h;rw [show (0:Int).toNat=0 from rfl,Apt h1] at h;cases h
 | false =>
  have hk8:gp x.next n < 8:=by unfold M9 at h4;rw [ht] at h4;simpa using h4
  have hgb:=Le x.next n
  obtain ⟨k,hk⟩:∃k:Nat,gp x.next n=k:=⟨(gp x.next n).toNat,EZ⟩
  have eW:Lx x n s=Pd ⟨x.next,L0 x k ⟨true,s⟩⟩:=by unfold Lx;rw [ht,av hk8];unfold Yv;rw [hk,ba];rfl
  have eE:Lp x n s=(rel x.next (L0 x k ⟨true,s⟩)).2.2:=by unfold Lp;rw [ht,av hk8];unfold Yv;rw [hk,ba];rfl
  have hx:x.Ap.all Hc=true/\Wj x.Ap=true:=by
   unfold Cv at h1;simp only [aw] at h1;exact ⟨h1.1.2,h1.2⟩
  have hos:Hc ⟨true,s⟩=true:=by unfold Hc;rw [h3];rfl
  have hL:=An9 x k ⟨true,s⟩;have hat:=Ar5 x k ⟨true,s⟩;have hget:=Ayn x k ⟨true,s⟩;have ho:=Bcc (k:=k) hx.1 hos;have hla:=Auv (k:=k) (s:=⟨true,s⟩) hx.2 rfl;rw [eW,eE];generalize L0 x k ⟨true,s⟩=L at *;have hl8:L.length<=8:=EZ
  have hrl:(rel x.next L).2.2.length<=L.length:=by
   have:=Ar9 ⟨x.next,L⟩;unfold Q8 at this;dsimp only at this;omega
  obtain ⟨d1,d2⟩:=Xo L x.next
  have hnx:=Aba L x.next p0 p1
  have hn:n=Cc x.next (k:Nat):=by rw [<-hk];unfold gp Cc;omega
  refine ⟨Ayt (A9.2 ⟨p0,p1⟩) ho hl8 (.inl hla),?_,?_,?_,EZ,Up h3⟩
  ·show gp x.next (rel x.next L).1=_
   rw [hnx];exact Bed _ _ EZ
  ·unfold Gs;show (Tl n (rel x.next L).1 || Jr (rel x.next L).2.1 (gp (rel x.next L).1 n).toNat)=true;rw [hnx,d1];generalize (rel x.next L).2.2.length=m at *;by_cases hkm:k < m
   ·rw [show Tl n (Cc x.next (m:Nat))=true by rw [hn];unfold Tl E8 gp Cc;rw [aw];simp only [aF];omega];rfl
   ·rw [show gp (Cc x.next (m:Nat)) n=((k - m:Nat):Int) by rw [hn];unfold gp Cc;omega,ba,Vh,show m+(k - m)=k by omega,hat];simp
  ·intro e;have hk0:k=0:=by rw [e] at hk;unfold gp at hk;omega
   subst hk0;cases L with
   | nil=>simp at hget
   | cons z r =>
    simp at hget;subst hget;exact ⟨(rel (Cc x.next 1) r).2.2,by simp [rel]⟩
def Ra (t:Int) (k:Nat):ar:=(List.range k).map fun i=>Cc t (i:Nat)
theorem Aab (t:Int) (k:Nat):Ra t (k+1)=Ra t k++[Cc t (k:Nat)]:=by unfold Ra;rw [dm,bD];rfl
theorem Ac5 (t:Int) (k:Nat):(Ra t k).length=k:=by unfold Ra;simp
theorem Rz (n:Int) (w:World):Cz Bc w [aa n] [n] []:=⟨_,[],[],[],FB,FB,⟨rfl,rfl⟩,rfl,rfl⟩
structure SpS where
 k:Nat
 a:aj
 c:Nat
 F:aq
theorem Be3 (t:Int) (n:Nat) (t0:0<=t) (t1:t<=65535) (hn:n<=65536):Fn prog 387 [aa t,aa (n:Nat)] [] [] (fun (_:aj × Nat × aq)=>True) (fun s=>.slice s.1 (Ra t n).length s.2.1) (fun s=>[.ow Bc 3 (.slice s.1 (Ra t n).length s.2.1) (Ra t n) s.2.2]):=by
 refine enter func387 rfl ntmps387 fun w0=>?_;refine go ?_;refine Cf Bc 3 ?_;refine Bx [0,4,7] (fun s:SpS=>[(5,.slice s.a (Ra t s.k).length s.c),(8,aa (s.k:Nat))]) (fun s=>[.ow Bc 3 (.slice s.a (Ra t s.k).length s.c) (Ra t s.k) s.F]) (fun s=>s.k<=n) (fun s=>n - s.k) ⟨0,none,0,[]⟩ (aG _) fun s hs=>?_;obtain ⟨k,a,c,F⟩:=s;dsimp only at hs ⊢;have hl:=Ac5 t k;refine go ?_;refine A4 rfl (fun h1=>?_) (fun h1=>?_)
 ·refine go ?_;refine ce (fun w s=>Rp _ _ _ EZ EZ) ?_;refine go ?_;intros;apply wO;refine Nb (Rz _) C6 fun a2 c2 F2=>?_;refine go ?_;rw [<-Aab];refine Ca ⟨k+1,a2,c2,F2⟩ (by show k+1<=n;omega) (by show n - (k+1) < n - k;omega)
 ·have hk:k=n:=EZ
  subst hk;refine go ?_;refine ret (a,c,F) trivial rfl
theorem Av0 (fid:FuncId) (bd caps:am) (A:List Pc) (hA:A.all (fun p=>!p.mu)=true) (xs:ar) (a:aj) (c:Nat) (F:aq) (p:Int->Bool) (hb:Qx prog fid=true) (hl:xs.length<=1000000000)
  (hp:∀x∈xs,∀w,Ob A w->Calls prog fid (bd++[(aa x:Value)]++caps).toArray w (RB (.bool (p x)) w)) :
  Fn prog 368 [ab a xs.length c,.func (.func fid) bd.toArray caps.toArray] (.sl Bc (ab a xs.length c) xs F::A) [] (fun (_:Unit)=>True) (fun _=>aa (Re p xs)) (fun _=>[]):=by
 refine enter func368 rfl ntmps368 (fun w0=>?_) rfl GA .nil;refine go ?_;refine Em [0,1,4,7] (fun k:Nat=>[(8,aa (k:Nat))]) (fun k=>k<=xs.length/\∀j (_:j < k) (hj:j < xs.length),p xs[j]=false) (fun k=>xs.length - k) 0 ⟨aG _,fun j h=>by omega⟩ fun k hk=>?_;obtain ⟨hk1,hk2⟩:=hk;refine go ?_;refine A4 rfl (fun h5=>?_) (fun h5=>?_)
 ·have hh:k < xs.length:=EZ
  refine go ?_;refine Hy (xs:=xs) k ?_;rintro hi b o e;rw [e];refine go ?_;apply wO;refine Aa8 rfl rfl hb Wk ?_;refine cb (fun w st=>hp xs[k] (aB hh) w (fun q hq=>st.on q GB)) ?_;cases hpk:p xs[k]
  ·refine go ?_;refine Vy ?_;refine Ca (hH:=Lb _) (k+1) ⟨hh,fun j hj h=>?_⟩ EZ;rcases bc (bC.1 hj) with h2|rfl
   ·exact hk2 j h2 h
   ·exact hpk
  ·refine go ?_;refine ret () trivial ?_;rw [Oh hh hk2 hpk];rfl
 ·obtain rfl:k=xs.length:=EZ
  exact BT
structure Avv where
 i:Nat
 j:Nat
 zs:ar
theorem Al2 (fid:FuncId) (bd caps:am) (A:List Pc) (hA:A.all (fun p=>!p.mu)=true) (xs:ar) (a:aj) (c:Nat) (F:aq) (p:Int->Bool) (hb:Qx prog fid=true) (hl:xs.length<=1000000000)
  (hp:∀x∈xs,∀w,Ob A w->Calls prog fid (bd++[(aa x:Value)]++caps).toArray w (RB (.bool (p x)) w)) :
  Fn prog 350 [ab a xs.length c,.func (.func fid) bd.toArray caps.toArray] A [.ow Bc 3 (ab a xs.length c) xs F] (fun (_:aj × Nat × aq)=>True)
   (fun z=>.slice z.1 (xs.filter fun x=>!p x).length z.2.1) (fun z=>[.ow Bc 3 (.slice z.1 (xs.filter fun x=>!p x).length z.2.1) (xs.filter fun x=>!p x) z.2.2]):=by
 refine enter func350 rfl ntmps350 (fun w0=>?_) rfl GA (.cons .nil);refine go ?_;refine cb (fun w st=>by
  obtain ⟨Fw, -,hw⟩:=(st.get (p:=.ow Bc 3 (ab a xs.length c) xs F) FB).2.read;refine (Av0 fid bd caps A hA xs a c Fw p hb hl hp).val w ?_ GA;intro q hq;rcases aH.1 hq with rfl|hq
  ·exact ⟨FA,hw⟩
  ·exact st.on q GB) ?_
 by_cases hany:xs.any p=true
 ·obtain ⟨i0,hi0,hfx,hpi,hfl⟩:=X7 hany;rw [hfx];refine Alq (xs:=xs) Ek (by rintro rfl;simp at hi0) ?_;rintro g rfl rfl - hc1 hc2;refine go ?_;refine Bx [0,1,4] (fun s:Avv=>[(5,aa (s.i:Nat)),(6,aa (s.j:Nat))]) (fun s=>[.ow Bc 3 (ab (some ⟨g,0,none⟩) xs.length c) s.zs [g]]) (fun s=>s.zs.length=xs.length/\s.j<=xs.length/\s.i < s.j/\s.zs.take s.i=(xs.take s.j).filter (fun x=>!p x)/\s.zs.drop s.j=xs.drop s.j) (fun s=>xs.length - s.j) ⟨i0,i0+1,xs⟩ ⟨rfl,hi0,Nat.lt_succ_self _,by rw [Da hi0 (by simp [hpi]),hfl],rfl⟩ fun s hs=>?_;obtain ⟨i,j,zs⟩:=s;obtain ⟨h1,h2,h3,h4,h5⟩:=hs
  dsimp only at h1 h2 h3 h4 h5 ⊢;refine go ?_;refine A4 rfl (fun h6=>?_) (fun h6=>?_)
  ·have hj:j < xs.length:=EZ
   have hjz:j < zs.length:=EZ
   have hx:zs[j]=xs[j]:=by
    have a1:=bS hjz;have a2:=bS hj;rw [h5,a2] at a1;exact (List.cons.inj a1).1.symm
   have hdz:zs.drop (j+1)=xs.drop (j+1):=by
    rw [<-cA,h5,cA]
   refine go ?_;refine Rf (m:=1) Ek j ?_ FE rfl hjz;rintro _ g2 A2 cs2 B2 e1 e2 hc3 hh;cases e1;obtain ⟨rfl, -⟩:=hc3 w0;refine go ?_;refine Pz zs[j] hh hc3 ?_;rw [bx,hx];apply wO;refine Aa8 rfl rfl hb Wk ?_;refine cb (fun w st=>hp xs[j] (aB hj) w (fun q hq=>st.on q GB)) ?_;cases hpj:p xs[j]
   ·refine go ?_;refine Rf (m:=1) Ek i ?_ FE rfl EZ;rintro _ g3 A3 cs3 B3 e1 e2 hc4 hh3;cases e1;obtain ⟨rfl, -⟩:=hc4 w0;refine go ?_;refine Pz xs[j] hh3 (fun w=>⟨rfl,rfl⟩) ?_;refine Ca (hH:=Lb _) (⟨i+1,j+1,zs.set i xs[j]⟩:Avv) ⟨by simp [h1],hj,Nat.succ_lt_succ h3,?_,?_⟩ HU
    ·dsimp only;rw [Gz hj (by simp [hpj]),<-h4,cC,eC EZ,gm (aL _)];rfl
    ·dsimp only;rw [gj EZ,hdz]
   ·refine go ?_;refine Ca (hH:=Lb _) (⟨i,j+1,zs⟩:Avv) ⟨h1,hj,Nat.lt_succ_of_lt h3,?_,hdz⟩ HU;dsimp only;rw [Da hj (by simp [hpj]),h4]
  ·obtain rfl:j=xs.length:=EZ
   have h4':zs.take i=xs.filter fun x=>!p x:=by rw [h4,bl]
   have hil:(xs.filter fun x=>!p x).length=i:=by rw [<-h4',aP];omega
   refine go ?_;apply wO;apply oc;rfl;exact Ku (i:=i) rfl rfl rfl EZ EZ EZ;refine go ?_;apply wO;refine Ar0 (z0:=0) (n:=xs.length) (cp:=c) (i:=i) (g:=g) Ek (fun w=>⟨rfl,rfl⟩) FA rfl rfl h3 h1.symm FE ?_;refine go ?_;refine Alt (xs:=zs.take i++List.replicate (xs.length - i) 0) i (fun F2=>?_) (by rw [aA,aP,bw];omega);rw [bT GE,h4'];apply wO;apply oc;rfl;exact O0 (i:=i) rfl rfl rfl EZ EZ;refine go ?_;subst hil
   refine ret (_,c,F2) trivial rfl
 ·obtain ⟨hfx,hfl⟩:=Aaw hany;rw [hfx,hfl];refine go ?_;refine ret (a,c,F) trivial rfl
def N6 (x:Aj) (n:Nat):ar:=(Ra x.next n).filter fun k=>!Iv x k
theorem Ajm {t k:Int} {n:Nat} (h:k∈Ra t n):0<=k/\k<=65535:=by
 unfold Ra at h;obtain ⟨i, -,rfl⟩:=bL.1 h;unfold Cc;omega
theorem Al8 (x:Aj) (k:Int) (n:Nat) (v:Value) (F:aq) (h0:0<=x.next) (h1:x.next<=65535) (h2:0<=k) (h3:k<=65535) (hn:gp x.next k=n) :
  Fn prog 380 [v,aa k] [.isv Br v x F] [] (fun (_:aj × Nat × aq)=>True) (fun s=>.slice s.1 (N6 x n).length s.2.1) (fun s=>[.ow Bc 3 (.slice s.1 (N6 x n).length s.2.1) (N6 x n) s.2.2]):=by
 have hg:=Le x.next k
 refine enter func380 rfl ntmps380 fun w0=>?_;refine Cu ?_;rintro a1 c1 F1 rfl l1;refine go ?_;intros;refine Ar [0] [] ?_;refine Df 0 1 2 3 ?_;refine Dh 4 7 ?_;refine dt 8 ?_ (hy:=Bfe Wk Wk);refine dN 5 ?_;refine oC ?_;refine ce (fun w s=>O6 _ _ _ EZ EZ EZ EZ) ?_;refine dk ?_;refine dN 6 ?_;refine oC ?_;rw [hn];refine Bf (Be3 x.next n EZ EZ EZ) fun s _=>?_;refine dk ?_;refine dN 9 ?_;refine oC ?_
 refine cf (Al2 229 [_] [] [.isv Br (.agg #[aa x.next,ab a1 x.Ap.length c1]) x F] rfl (Ra x.next n) s.1 s.2.1 s.2.2 (fun k=>Iv x k) rfl (by rw [Ac5];omega) (fun k hk w hw=>?_)) fun q _=>?_;exact (Aan x k _ F h0 h1 (Ajm hk).1 (Ajm hk).2).val w hw;refine Ot ?_;refine dk ?_;refine dt 10 ?_;refine dd ?_;refine go ?_;refine ret q trivial rfl
theorem Aun {x:Aj} {k:Nat} (hk:k<=65535) (h:Jr x.Ap k=true):N6 x (k+1)=N6 x k:=by
 have e:Iv x (Cc x.next k)=true:=JX
 unfold N6;rw [Aab,bW,fH];simp [e]
theorem Ant {x:Aj} {k:Nat} (hk:k<=65535) (h:Jr x.Ap k=false):N6 x (k+1)=N6 x k++[Cc x.next k]:=by
 have e:Iv x (Cc x.next k)=false:=JX
 unfold N6;rw [Aab,bW,fH];simp [e]
theorem Acv (x:Aj) (k:Nat):(N6 x k).length<=k:=by
 unfold N6;have:=bJ (fun k=>!Iv x k) (Ra x.next k);rw [Ac5] at this;exact this
theorem Akz (x:Aj) (k:Int) (n:Nat) (v:Value) (F:aq) (h0:0<=x.next) (h1:x.next<=65535) (h2:0<=k) (h3:k<=65535) (hn:gp x.next k=n) :
  Fn prog 332 [v,aa k] [.isv Br v x F] [] (fun (_:aj × Nat × aq)=>True) (fun s=>.slice s.1 (N6 x n).length s.2.1) (fun s=>[.ow Bc 3 (.slice s.1 (N6 x n).length s.2.1) (N6 x n) s.2.2]):=by
 have hg:=Le x.next k
 refine enter func332 rfl ntmps332 fun w0=>?_;refine Cu ?_;rintro a1 c1 F1 rfl l1;unfold maxLen at l1;refine Io ?_;intros;refine Cy Bc ?_;refine go ?_;refine Bx [1,2,4] (fun s:SpS=>[(5,.slice s.a (N6 x s.k).length s.c),(6,aa (s.k:Nat))]) (fun s=>[.ow Bc 3 (.slice s.a (N6 x s.k).length s.c) (N6 x s.k) s.F]) (fun s=>s.k<=n) (fun s=>n - s.k) ⟨0,_,_,_⟩ (aG _) fun s hs=>?_;obtain ⟨j,a,c,F5⟩:=s;dsimp only at hs ⊢;have hlk:=Acv x j;refine go ?_;refine ce (fun w s=>Jk _ _ _ EZ EZ) ?_;rw [hn];refine go ?_;refine A4 rfl (fun h4=>?_) (fun h4=>?_)
 ·refine go ?_;refine D6 rfl rfl (fun h5=>?_) (fun h5=>?_)
  ·refine go ?_;refine ce (fun w s=>Ht _ _ _ EZ EZ) ?_;refine go ?_;intros;apply wO;refine Nb (Rz _) C6 fun a2 c2 F2=>?_;refine go ?_;rw [<-Ant EZ (Q2 EZ)];refine Ca ⟨j+1,a2,c2,F2⟩ (by show j+1<=n;omega) KN
  ·refine Pg (xs:=x.Ap) j ?_;rintro hi2 b2 o2 e s1;rw [e];refine go ?_;cases g2:x.Ap[j].Wm
   ·refine go ?_;refine ce (fun w s=>Ht _ _ _ EZ EZ) ?_;refine go ?_;intros;apply wO;refine Nb (Rz _) C6 fun a2 c2 F2=>?_;refine go ?_;rw [<-Ant EZ (by rw [Lf hi2];exact g2)];refine Ca ⟨j+1,a2,c2,F2⟩ (by show j+1<=n;omega) KN
   ·refine go ?_;rw [<-Aun (x:=x) (k:=j) EZ (by rw [Lf hi2];exact g2)];refine Ca ⟨j+1,a,c,F5⟩ (by show j+1<=n;omega) KN
 ·obtain rfl:j=n:=EZ
  refine go ?_;refine ret (a,c,F5) trivial rfl
def Axd (d:Int):Bool:=E8 1 d 8
def Mw (base:Int) (r:Az):Bool:=Bz r.Ae && decide (gp base r.Ae < 8) && E8 1 r.state 3 && E8 0 r.Co 10007 && E8 0 r.Ee 3
def Ahy (l:List Az) (base:Int) (i:Nat):Bool:=match l[i]? with
 | none=>true
 | some r=>Mw base r && (decide (i=0) || match l[i - 1]? with|none=>true|some p=>!decide (gp base r.Ae<=gp base p.Ae))
theorem Vd {l:List Az} {base:Int} {i:Nat} (h:i < l.length):Ahy l base i=(Mw base l[i] && (decide (i=0) || !decide (gp base l[i].Ae<=gp base (l[i - 1]'EZ).Ae))):=by
 unfold Ahy;rw [aD h,aD (show i - 1 < l.length by omega)]
def Lz (l:List Az) (base:Int):Bool:=Bz base && decide ((l.length:Int)<=8) && (List.range l.length).all (Ahy l base)
theorem Arh {l:List Az} {base:Int} {i:Nat} (h:i < l.length) (hc:Ahy l base i=false):Lz l base=false:=by
 have:(List.range l.length).all (Ahy l base)=false:=cS.2 ⟨i,FJ,JG⟩;simp [Lz,this]
theorem Amh {l:List Az} {base:Int} (h1:Bz base=true) (h2:(l.length:Int)<=8) (h:∀j,j < l.length->Ahy l base j=true):Lz l base=true:=by
 unfold Lz;rw [h1,av h2,aW.2 fun j hj=>h j ID];rfl
theorem Dj {l:List Az} {base:Int}:Lz l base=true↔Bz base=true/\l.length<=8/\(∀r∈l,Mw base r=true)/\l.Pairwise fun a b=>gp base a.Ae < gp base b.Ae:=by
 unfold Lz;simp only [aw,aW,cP,aF];constructor
 ·rintro ⟨⟨h1,h2⟩,h4⟩;refine ⟨h1,EZ,fun r hr=>?_,?_⟩
  ·obtain ⟨i,hi,rfl⟩:=bi hr;have:=h4 i hi;rw [Vd hi] at this;simp only [aw] at this;exact this.1
  ·have step:∀i (hi:i+1 < l.length),gp base l[i].Ae < gp base l[i+1].Ae:=fun i hi=>by
    have:=h4 (i+1) hi;rw [Vd hi] at this;simp only [aw,bZ,aF,bA,bQ] at this;have h:=this.2;rcases h with h|h
    ·omega
    ·simpa using h
   refine bh.2 fun i j hi hj hij=>?_;obtain ⟨d,rfl⟩:∃d,j=i+1+d:=⟨j - i - 1,EZ⟩;clear hij
   induction d with
   | zero=>exact step i hj
   | succ d ih=>exact gz (ih EZ) (step (i+1+d) hj)
 ·rintro ⟨h1,h2,h4,h5⟩;refine ⟨⟨h1,EZ⟩,fun i hi=>?_⟩;rw [Vd hi,h4 l[i] (aB hi)];simp only [bV,bZ,aF,bA,bQ];rcases cy i with h0|h0
  ·exact .inl h0
  ·have:=bh.1 h5 (i - 1) i EZ hi EZ;right;omega
structure Av5 (base:Int) (r:Az):Prop where
 n:Bz r.Ae=true
 g:gp base r.Ae < 8
 s0:1<=r.state
 s1:r.state<=3
 u0:0<=r.Co
 u1:r.Co<=10007
 t0:0<=r.Ee
 t1:r.Ee<=3
theorem Er {base:Int} {r:Az}:Mw base r=true↔Av5 base r:=by
 unfold Mw E8;simp only [aw,aF];exact ⟨fun ⟨⟨⟨⟨a,b⟩,c,d⟩,e,f⟩,g,h⟩=>⟨a,b,c,d,e,f,g,h⟩,fun ⟨a,b,c,d,e,f,g,h⟩=>⟨⟨⟨⟨a,b⟩,c,d⟩,e,f⟩,g,h⟩⟩
def Ox (r:A1):Bool:=decide (r.Aa.next=0) && decide (r.Aa.Ap.length=0) && decide (r.Ao.length=0)
def Aix (r:A1):Bool:=r.Ao.all fun q=>!Iv r.Aa q.Ae
def Bp (r:A1):Bool:=Kq r.Ai && (if r.Be then Cv r.Aa && Lz r.Ao r.Aa.next && Aix r else Ox r)
def Ty (c d:Int) (r:Az):Option Az:=if c < r.Co then some r else if r.Ee=3 then none else if r.state=1 then some ⟨r.Ae,2,c+3,r.Ee+1⟩ else some ⟨r.Ae,1,c+d,r.Ee⟩
def P3 (c:Int) (r:Az):Option Int:=if c < r.Co then none else if r.Ee=3 then none else if r.state=1 then some r.Ae else none
def T7 (c:Int) (r:Az):Option Int:=if c < r.Co then none else if r.Ee=3 then some r.Ae else none
def pkR (n k:Int):As:=⟨3,k,n,n,⟨#[]⟩⟩
def Dk (l:ar):Int:=Cc (l.getLastD 0) 1
def Jd (w:Aj) (t:Int):Aj:=Pd (Iy (Ev w.next t) w)
def Jc (w:Aj) (t:Int):ai:=N5 (Ev w.next t) w++Q8 (Iy (Ev w.next t) w)
def Y5 (l:List Az) (n:Int):List Az:=l.filter fun q=>!Tl q.Ae n
def Eg (l:List Az) (w:Aj):List Az:=l.filter fun q=>!(Tl q.Ae w.next || Iv w q.Ae) && decide (gp w.next q.Ae < 8)
def Nh (r:A1) (d:Int):List Az:=r.Ao.filterMap (Ty (r.Ai+1) d)
def C9 (r:A1):ar:=r.Ao.filterMap (T7 (r.Ai+1))
def C1 (r:A1) (d:Int):A1:=if C9 r=[] then ⟨r.Be,r.Ai+1,r.Aa,Nh r d⟩ else ⟨r.Be,r.Ai+1,Jd r.Aa (Dk (C9 r)),Y5 (Nh r d) (Jd r.Aa (Dk (C9 r))).next⟩
def E9 (r:A1):List As:=(r.Ao.filterMap (P3 (r.Ai+1))).map (pkR r.Aa.next)
def Hh (r:A1):ai:=if C9 r=[] then [] else Jc r.Aa (Dk (C9 r))
def Bc7:A1:=⟨false,0,⟨0,[]⟩,[]⟩
structure Lu (r:A1):Prop where
 k0:0<=r.Ai
 k1:r.Ai<=9999
 w:Cv r.Aa=true
 q:Lz r.Ao r.Aa.next=true
 f:∀z∈r.Ao,Iv r.Aa z.Ae=false
 z:r.Be=false->r.Aa=⟨0,[]⟩/\r.Ao=[]
theorem Ej {r:A1}:Bp r=true↔Lu r:=by
 have hc:Kq r.Ai=true↔0<=r.Ai/\r.Ai<=9999:=by unfold Kq E8;simp
 have hf:Aix r=true↔∀z∈r.Ao,Iv r.Aa z.Ae=false:=by unfold Aix;simp
 have hz:Ox r=true↔r.Aa=⟨0,[]⟩/\r.Ao=[]:=by
  unfold Ox;obtain ⟨st,ck,⟨n,s⟩,q⟩:=r;simp [and_assoc]
 unfold Bp;constructor
 ·intro h;rw [aw,hc] at h;obtain ⟨⟨c0,c1⟩,h⟩:=h;cases hs:r.Be
  ·rw [hs] at h;obtain ⟨e1,e2⟩:=hz.1 FJ;refine ⟨c0,c1,by rw [e1];decide,by rw [e1,e2];decide,by rw [e2];simp,fun _=>⟨e1,e2⟩⟩
  ·rw [hs] at h;simp only [if_true,aw] at h;exact ⟨c0,c1,h.1.1,h.1.2,hf.1 h.2,fun h'=>by rw [hs] at h';cases h'⟩
 ·rintro ⟨c0,c1,h1,h2,h3,h4⟩;rw [aw,hc];refine ⟨⟨c0,c1⟩,?_⟩;cases hs:r.Be
  ·simpa using hz.2 (h4 hs)
  ·simp [h1,h2,hf.2 h3]
def Bo (p:As):Bool:=E8 1 p.Cq 5 && Bz p.Ae && Bz p.Am && Bz p.E7 && Pe p.data && decide (gp p.Am p.E7<=32767) && (decide (p.data=⟨#[]⟩) || decide (p.Cq=1) || decide (p.Cq=2))
theorem Kn {p:As} (h:Bo p=true):0<=p.Ae/\p.Ae<=65535:=by
 unfold Bo at h;simp only [aw] at h;exact A9.1 h.1.1.1.1.1.2
theorem Aby (fid:FuncId) (hbd:Yo prog fid) (caps:Array Value) (v:Value) (xs:ai) (F:aq) (p:au->Bool) (w:World) (h:Sl A8 w v xs F)
  (hp:∀(k:Nat) (hk:k < xs.length) (wr:World) (u:Value) (G:aq),Below w.heap.size w wr->IsC A8 wr u xs[k] G->Calls prog fid (#[u]++caps) wr fun e w'=>e=.returned (.bool (p xs[k]))/\Below wr.heap.size wr w') :
  Calls prog 325 #[v,.func (.func fid) #[] caps] w (RB (aa (Re p xs)) w):=by
 obtain ⟨a,cap,rfl⟩:=h.slice;have hl:=h.len;unfold maxLen at hl
 go_enter func325,ntmps325
 go_wp2
 go_loopw [5,8] (fun _ i wr=>∃k:Nat,k<=xs.length/\i=aa k/\Hid (∀j,j < k->∀hj:j < xs.length,p xs[j]=false)/\Below w.heap.size w wr) (fun _ i _=>xs.length - (intOf i).toNat)
 case atStart=>exact ⟨0,aG _,rfl,fun j hj=>by omega,Below.refl _ _⟩
 case round =>
  obtain ⟨k,hk,rfl,hz,hB⟩:=hrel;by_cases hlt:k < xs.length
  ·have hz0:=hz;clear hz;obtain ⟨b,off,_,F1,rfl,hx, -,ja⟩:=(h.below FA hB).at k hlt;obtain ⟨rfl, -, -⟩:=id hx;have a0:=ja 0 FA;simp only [show A8.sz=1 from rfl,cV,bR,bM,bH] at a0;clear ja;have hr:=hp k hlt wr _ F1 hB ⟨_,rfl,hx⟩;have hp:=Lib.hid hp;cases hpk:p xs[k]
   all_goals
    rw [hpk] at hr;have hpk:=Lib.hid hpk;have hr:=Lib.hid hr;go_wp2_with fail;refine hbd.upon hr.out ?_;rintro e w1 ⟨rfl,hb1⟩;refine ⟨_,rfl,?_⟩;have hB:=tr hB hb1 (aL _);clear hb1;go_wp2_with fail
   ·exact AV
   ·go_ret
    exact EN
  ·go_wp2
   go_ret
   exact DG
theorem Yp (fid:FuncId) (hbd:Yo prog fid) (caps:Array Value) (v:Value) (xs:ai) (F:aq) (p:au->Bool) (w:World) (h:Sl A8 w v xs F)
  (hp:∀(k:Nat) (hk:k < xs.length) (wr:World) (u:Value) (G:aq),Below w.heap.size w wr->IsC A8 wr u xs[k] G->Calls prog fid (#[u]++caps) wr fun e w'=>e=.returned (.bool (p xs[k]))/\Below wr.heap.size wr w') :
  Calls prog 281 #[v,.func (.func fid) #[] caps] w (RB (.bool (xs.any p)) w):=by
 have hp:=Lib.hid hp
 go_enter func281,ntmps281
 go_wp2_with fail;refine (Aby fid hbd caps v xs F p _ h hp.out).mono ?_;rintro e w1 ⟨rfl,hb1⟩;go_wp2_with fail
 go_ret
 exact ⟨Cn (Sw p xs),hb1⟩
theorem Aah (v:Value) (xs:ai) (F:aq) (w:World) (h:Sl A8 w v xs F) (hm:xs.length<=4294967296) :
  Calls prog 252 #[v] w (Wr A8 9 xs w):=by
 obtain ⟨ao,c,news,Fy,rfl,hl,hfy,hFy,hsrc⟩:=h.src;have hFl:=hfy.lt;have he:=fun w (a:aj) (n c:Nat)=>Lib.run_eql_slice_nil (P:=prog) w 27 _ a n c 0 0 underlying27
 go_enter func252,ntmps252
 rcases hsrc with ⟨rfl,rfl,rfl⟩|⟨ad,rfl,hn⟩
 ·go_wp2
  go_ret
  exact CE
 ·go_wp2_with (at_builtin;refine Oz Do FA FL _ _ _ FL 9 (af ⟨#[]⟩) 16 underlying27 Am4 rfl (ab (some ⟨w.heap.size,0,none⟩) 0 0) [] [w.heap.size] FL (Ow.empty (Ib.made _ _ _)) (Hd.one _) (some ad) xs c FL news Fy (hfy.frame fun b hb=>Below.heap_alloc _ _ _ (hFl b hb)) (.inr ⟨ad,rfl,fun j u hu=>kc ((Below.refl _ _).alloc (aL _) _) (hn j u hu)⟩) (fun b hb e=>by have:=hFl b hb;simp [Value.ownBlock] at e;omega) GY GV ?_);intro v2 w2 F2 hA;go_wp2_with fail
  go_ret
  have hB:Below w.heap.size w w2:=((Below.refl _ _).alloc (aL _) _).trans (hA.I0.below FB FB);have hs:∀b,v2.ownBlock=some b->w.heap.size<=b:=fun b hb=>by rcases hA.Aqo with e|e <;> rw [e] at hb <;> simp [Value.ownBlock] at hb <;> omega
  refine ⟨v2,F2,rfl,IM,hA.ow.scal Hv▸?_,fun b hb=>?_,hB⟩
  ·cases v2.ownBlock <;> simp
  ·rw [hA.ow.scal Hv] at hb;exact hs b IY
def D8 (x:Aw):Bool:=Bz x.Am && E8 1 x.size 6 && decide ((x.Ak.length:Int)<=x.size) && x.Ak.all Pe
theorem Ds {x:Aw}:D8 x=true↔(0<=x.Am/\x.Am<=65535)/\(1<=x.size/\x.size<=6)/\(x.Ak.length:Int)<=x.size/\x.Ak.all Pe=true:=by
 unfold D8;simp only [aw,A9,E8,aF,and_assoc]
theorem Akn (s:au) (w:World) (hs:s.size<=maxLen) :
  Calls prog 282 #[af s] w (RB (.bool (!Pe s)) w):=by
 go_enter func282,ntmps282
 go_wp2_with fail;refine (Aa1 s _ hs).mono ?_;rintro e w1 ⟨rfl,hb⟩;go_wp2_with fail
 go_ret
 exact ⟨rfl,hb⟩
theorem Apc (v:Value) (xs:ai) (F:aq) (w:World) (h:Sl A8 w v xs F) :
  Calls prog 220 #[v] w (RB (.bool (xs.all Pe)) w):=by
 have hq:(!xs.any fun s=>!Pe s)=xs.all Pe:=by rw [ej];simp
 replace hq:=Lib.hid hq
 go_enter func220,ntmps220
 go_wp2_with fail;refine (Yp _ (.mk' func282 rfl rfl) _ _ xs F (fun s=>!Pe s) _ h ?_).mono ?_
 ·rintro k hk wr u G hb ⟨_,rfl,hu⟩;obtain ⟨hu,hsz, -⟩:=hu;cases hu;exact Akn _ _ hsz
 rintro e w1 ⟨rfl,hb⟩;go_wp2_with fail
 go_ret
 exact ⟨Cn hq.out,hb⟩
theorem Rk (v:Value) (x:Aw) (F:aq) (w:World) (h:Ro Cj w v x F) :
  Calls prog 145 #[v] w (RB (.bool (D8 x)) w):=by
 obtain ⟨_,rfl,v1,rfl,h1⟩:=h;obtain ⟨a,c,rfl⟩:=h1.slice;have hl:=h1.len;unfold maxLen at hl;have hB0:∀A:Obj,Below w.heap.size w (w.alloc A):=fun A=>(Below.refl _ _).alloc (aL _) _
 go_enter func145,ntmps145
 go_wp2_with fail;refine (I6 _ _).mono ?_;rintro e w' ⟨rfl,rfl⟩;cases g1:Bz x.Am
 ·go_wp2_with fail
  go_ret
  exact ⟨Cn (by simp [D8,g1]),hB0 _⟩
 go_wp2_with fail;refine (H1 _ _ _ _).mono ?_;rintro e w' ⟨rfl,rfl⟩;cases g2:E8 1 x.size 6
 ·go_wp2_with fail
  go_ret
  exact ⟨Cn (by simp [D8,g2]),hB0 _⟩
 by_cases g3:(x.Ak.length:Int)<=x.size
 ·go_wp2_with fail;refine (Apc _ x.Ak F _ (h1.below FA (hB0 _))).mono ?_;rintro e w1 ⟨rfl,hb⟩;go_wp2_with fail
  go_ret
  exact ⟨Cn (by simp [D8,g1,g2,g3]),tr (hB0 _) hb (aL _)⟩
 ·go_wp2_with fail
  go_ret
  exact ⟨Cn KG,hB0 _⟩
theorem Zg (v:Value) (x:Aw) (F:aq) (w:World) (h:Ro Cj w v x F) (hm:x.Ak.length<=4294967296) :
  Calls prog 180 #[v] w (Awa Qu x w):=by
 obtain ⟨_,rfl,v1,rfl,h1⟩:=h;obtain ⟨a,c,rfl⟩:=h1.slice;have hB0:∀A B:Obj,Below w.heap.size w ((w.alloc A).alloc B):=fun A B=>((Below.refl _ _).alloc (aL _) _).alloc FB _
 go_enter func180,ntmps180
 go_wp2_with fail;refine (Aah _ x.Ak F _ (h1.below FA (hB0 _ _)) hm).mono ?_;rintro e w1 ⟨v2,F2,rfl,o,n,g,hb⟩;obtain ⟨a2,c2,rfl⟩:=o.slice;have r0:=Ib.below (g:=w.heap.size) (t:=29) (cs:=[aa x.Am,aa x.size,ab a x.Ak.length c]) GM hb;have r1:=Ib.below (g:=w.heap.size+1) (t:=29) (cs:=[aa 0,aa 0,ab none 0 0]) GM hb;have hB:=tr (hB0 _ _) hb (aL _);have c0:=r0.cells;have f0:=r0.frozens;have c1:=r1.cells;have f1:=r1.frozens;clear hb;replace o:=Lib.hid o;go_wp2_with fail
 refine bodyPost_ret (v:=.agg #[aa x.Am,aa x.size,ab a2 x.Ak.length c2]) ?_ rfl ?_
 ·simp [results,results180,go_sem,c0,c1,f1]
 ·refine ⟨_,F2,rfl,⟨_,rfl,_,rfl,?_⟩,n,fun b hb=>by have:=g b hb;simp at this;omega,?_⟩
  ·repeat refine Ow.setFar ?_ (fun hm=>by have:=g _ hm;simp at this <;> omega) _
   exact o.out
  ·repeat refine Below.setCell ?_ GQ _
   exact hB
theorem Anj (v:Value) (x:Aw) (F:aq) (w:World) (h:Ro Cj w v x F) :
  Calls prog 201 #[v] w (RB (.bool (D8 x)) w):=by
 obtain ⟨_,rfl,v1,rfl,h1⟩:=h;obtain ⟨a,c,rfl⟩:=h1.slice;have hl:=h1.len;unfold maxLen at hl;have hB0:∀A:Obj,Below w.heap.size w (w.alloc A):=fun A=>(Below.refl _ _).alloc (aL _) _
 go_enter func201,ntmps201
 go_wp2_with fail;refine (Nt _ _).mono ?_;rintro e w' ⟨rfl,rfl⟩;cases g1:Bz x.Am
 ·go_wp2_with fail
  go_ret
  exact ⟨Cn (by simp [D8,g1]),hB0 _⟩
 go_wp2_with fail;refine (Ka _ _ _ _).mono ?_;rintro e w' ⟨rfl,rfl⟩;cases g2:E8 1 x.size 6
 ·go_wp2_with fail
  go_ret
  exact ⟨Cn (by simp [D8,g2]),hB0 _⟩
 by_cases g3:x.size < (x.Ak.length:Int)
 ·go_wp2_with fail
  go_ret
  exact ⟨Cn KG,hB0 _⟩
 have hg:D8 x=x.Ak.all Pe:=by unfold D8;rw [g1,g2,av EZ];simp
 replace hg:=Lib.hid hg;go_wp2_with fail;have r0:=Ib.made w 29 [aa x.Am,aa x.size,ab a x.Ak.length c];have h2:=h1.below FA (hB0 (.cells #[aa x.Am,aa x.size,ab a x.Ak.length c] 29));have hB:=hB0 (.cells #[aa x.Am,aa x.size,ab a x.Ak.length c] 29);generalize w.alloc (.cells #[aa x.Am,aa x.size,ab a x.Ak.length c] 29)=w1 at *;have c0:=r0.cells
 go_loop [3] (fun i=>∃k:Nat,k<=x.Ak.length/\i=aa k/\Hid (∀j,j < k->∀hj:j < x.Ak.length,Pe x.Ak[j]=true)) (fun i=>x.Ak.length - (intOf i).toNat)
 case atStart=>exact ⟨0,aG _,rfl,fun j hj=>by omega⟩
 case round =>
  obtain ⟨k,hk,rfl,hz⟩:=hrel;by_cases hlt:k < x.Ak.length
  ·obtain ⟨hsz,b,off,rfl,hc⟩:=h2.str.2.2 k hlt;cases hi:Pe x.Ak[k]
   ·have hi2:(decide ((x.Ak[k].size:Int)<=8) && T4 x.Ak[k].data.toList)=false:=hi;go_wp2_with fail;refine (Q3 _ _ _ hsz).mono ?_;rintro e w' ⟨rfl,rfl⟩;go_wp2_with fail
    go_ret
    refine ⟨Cn ?_,hB⟩;rw [hg.out];exact (cS.2 ⟨x.Ak[k],aB _,by simp [hi]⟩).symm
   ·have hi2:(decide ((x.Ak[k].size:Int)<=8) && T4 x.Ak[k].data.toList)=true:=hi;go_wp2_with fail;refine (Q3 _ _ _ hsz).mono ?_;rintro e w' ⟨rfl,rfl⟩;go_wp2_with fail;exact ⟨⟨k+1,EZ,HQ,fun j hj hl=>by rcases bc (cL hj) with h|h;exact hz.out j h hl;subst h;exact hi⟩,GJ⟩
  ·have hk:k=x.Ak.length:=EZ
   go_wp2_with fail
   go_ret
   refine ⟨Cn ?_,hB⟩;rw [hg.out];refine (aW.2 fun s hs=>?_).symm;obtain ⟨j,hj,rfl⟩:=bi hs;exact hz.out j EZ hj
end Go.Proofs.YtkoldibamfjghaaGreatDoor
