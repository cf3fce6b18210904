/- Part 2 of the proof: 63 texts, one behind the other. -/
import Derived.Lib.Overlaps
import Derived.Lib.AppendZerosOnto
import Derived.Laws.IdiomCopy
import Derived.Test.YtkoldibamfjghaaGreatDoorShelf
import Derived.Lib.RowBridge
import Derived.Test.YtkoldibamfjghaaGreatDoorM1
open _root_.Go.Proofs.Tryz
set_option maxRecDepth 100000
set_option maxHeartbeats 8000000
set_option linter.all false
set_option linter.unusedVariables false
set_option linter.unusedSimpArgs false
namespace Go.Proofs.YtkoldibamfjghaaGreatDoor
theorem AA{p:Prop}(h:p:=by refine go ?_;refine ret () trivial rfl):p:=h
theorem AE{p:Prop}(h:p:=by refine h.h a w (s.add (N:=[_]) (Below.refl _ _) (by intro q hq;simp at hq;subst hq;exact ⟨_,rfl,_,rfl,(s.get m1).2⟩) ⟨by simp,trivial⟩ fun q hq b hb=>?_) g;simp at hq;subst hq;simp only [Pc.F,aJ] at hb;exact .inr ⟨rfl,_,m1,rfl,hb⟩):p:=h
theorem AG{p:Prop}(h:p:=by refine dk ?_;refine dN 5 ?_;refine Nm I1 Id fun a2 c2 F2=>?_;refine dk ?_;refine dt 6 ?_;refine dN 8 ?_;refine oS ?_;refine N2 ?_;refine dd ?_;refine Bh (⟨_,a2,c2,F2⟩:CpS) trivial):p:=h
theorem AI{p:Prop}(h:p:=by obtain ⟨cs,rfl,v1,rfl,h1⟩:=s.get hm;obtain ⟨a1,c1,rfl⟩:=h1.slice;have l1:=h1.len;have t1:=s.ro (p:=.sl _ _ _ _) hm rfl rfl ⟨by decide,h1⟩ fun b hb=>hb;exact (h a1 c1 F rfl  l1).h a w t1 g):p:=h
theorem AN{p:Prop}(h:p:=by refine dk ?_;refine dt 5 ?_;refine dd ?_;refine go ?_;refine Eh (xs:=[Rs x.Aa]) (De _ (by show (⟨#[]⟩:au).size<=maxLen;decide)) ?_ (by simp);refine ret ⟨_,_,_,_,_,_,_,_⟩ trivial rfl):p:=h
theorem AT{p:Prop}(h:p:=by obtain ⟨cs,rfl,v1,v2,G1,G2,rfl,h1,h2,rfl⟩:=s.get hm;obtain ⟨a1,c1,rfl⟩:=h1.slice;have l1:=h1.len;obtain ⟨a2,c2,rfl⟩:=h2.slice;have l2:=h2.len;have t2:=s.ro (p:=.sl _ _ _ _) hm rfl rfl ⟨by decide,h2⟩ (by intro b hb;simp only [Pc.F] at hb ⊢;simp [hb]);have t1:=t2.ro (p:=.sl _ _ _ _) (aN _ hm) rfl rfl ⟨by decide,h1⟩ (by intro b hb;simp only [Pc.F] at hb ⊢;simp [hb]);exact (h a1 c1 G1 a2 c2 G2 rfl  l1 l2).h a w t1 g):p:=h
theorem AV{p:Prop}(h:p:=by exact ⟨⟨k+1,by omega,by go_num,fun j hj hl=>by rcases ba (cI hj) with h|h;exact hz0.out j h hl;subst h;exact hpk.out,hB⟩,by simp [intOf];omega⟩):p:=h
theorem AY{p:Prop}(h:p:=by refine Nm I1 Id fun a2 c2 F2=>?_;refine dk ?_;refine dt 6 ?_;refine dN 7 ?_;apply Ci;rfl;intro _;refine dk ?_;refine dN 8 ?_;refine oS ?_;refine N2 ?_;refine dd ?_;refine Bh (⟨_,a2,c2,F2⟩:CpS) trivial):p:=h
theorem BF{p:Prop}(h:p:=by have hps:=Aad (x:=x) (k:=k) hs (s:=⟨true,Dj⟩) hi;refine Av (xs:=Md x k ⟨true,Dj⟩) fun F4=>?_;refine Ce ⟨x.next,Md x k ⟨true,Dj⟩⟩ ?_;refine go ?_;refine Be (Vn ⟨x.next,Md x k ⟨true,Dj⟩⟩ _ _ h0 h1 (by show (Md x k ⟨true,Dj⟩).length<=_;omega) hps) fun z hz=>?_;refine go ?_;refine ret z ⟨by rw [hz.1,hW],by rw [hz.2,hE]⟩ rfl):p:=h
theorem BJ{p:Prop}(h:p:=by rw [show M4 x=⟨x.Aa,x.Ai+1,x.quiet+1,Ip x.Aa (x.Ai+1) x.holds⟩ from by unfold M4 Rt;rw [aH (by omega)],show Nk x.Aa x.quiet=[] from aH (by omega)];refine go ?_;intros;refine C1 Al ?_;refine Av (E:=Bx) fun F9=>?_;refine En ⟨x.Aa,x.Ai+1,x.quiet+1,Ip x.Aa (x.Ai+1) x.holds⟩ (a1:=a5) ?_;refine ret ⟨_,_,_,_,_,_,_,_⟩ trivial rfl):p:=h
theorem BM{p:Prop}(h:p:=by refine ret (_,_,_) trivial rfl):p:=h
theorem BP{p:Prop}(h:p:=by exact ⟨⟨q+1,m+1,F2,by omega,by omega,by rw [C9 hlt (by simp [hpq.out]),hys.out];have:=hlen.out;omega,by rw [C9 hlt (by simp [hpq.out]),hys.out],by go_num,by rw [C9 hlt (by simp [hpq.out]),hys.out];exact hg2.out.below hbb,fun b hb=>hF1 b (hF2 b hb),hK.trans (Ei.ofBelow hbb)⟩,by simp [intOf];omega⟩):p:=h
theorem BS{p:Prop}(h:p:=by refine go ?_;refine ret () trivial ?_;rw [bad (by rw [hck,av h6,ay (show ¬k=0 by omega)];simp)];rfl):p:=h
theorem CA{p:Prop}(h:p:=by refine dk ?_;refine dN 11 ?_;refine Nm (E:=A8) (xs:=[]) (ys:=x.Ak.drop k) Dz Hv fun a7 c7 F7=>?_;rw [aZ];refine dk ?_;refine dt 12 ?_;refine dN 13 ?_;refine oS ?_;refine dk ?_;refine dd ?_;refine go ?_;refine ret ⟨a7,c7,F7⟩ trivial rfl):p:=h
theorem CB{p:Prop}(h:p:=by refine Cb ⟨s.es++[Gh s.y.Ao],Y6 s.y,a5,c5,F5,a',c',F'⟩ ⟨(Jb _ _).1,(Jb _ _).2,fun z hz=>hit z (bq hz),by simp [Y6];omega,by simp [Y6];omega,by rw [hw,hst];rfl,by rw [he,hst];simp [N8,Y6]⟩ (by show Ew (Cd s.y.next 1) n < _;omega)):p:=h
theorem CC{p:Prop}(h:p:=by exact ⟨ab none 0 0,[],rfl,.inl ⟨rfl,rfl,rfl⟩,by simp,by simp,Below.refl _ _⟩):p:=h
theorem CD{p:Prop}(h:p:=by refine ret (_,_) trivial rfl):p:=h
theorem CM{p:Prop}(h:p:=by obtain ⟨b,o,cs,G,ha,hrep,hG,hb,hne,hr⟩:=Wp (s.get hm) i hi;obtain ⟨rfl,s1,rfl⟩:=hrep;exact (h hi b o  ha s1 ).h ac w (s.ro hm rfl rfl ⟨hne,hr⟩ (by intro x hx;simp [Pc.F] at hx;subst hx;exact hb)) g):p:=h
theorem CO{p:Prop}(h:p:=by obtain ⟨a',c',rfl⟩:=h1.slice;exact ⟨(a',c',F'),trivial,rfl,⟨h2,h1⟩,fun b hb=>.inl (h3 b hb),h4⟩):p:=h
theorem CP{p:Prop}(h:p:=by obtain ⟨b,o,cs,G,ha,hrep,hG,hb,hne,hr⟩:=Wp (s.get hm) i hi;obtain ⟨rfl,rfl⟩:=hrep;exact (h hi b o  ha  ).h ac w (s.ro hm rfl rfl ⟨hne,hr⟩ (by intro x hx;simp [Pc.F] at hx;subst hx;exact hb)) g):p:=h
theorem CQ{p:Prop}(h:p:=by refine dd ?_;exact AA):p:=h
theorem CY{p:Prop}(h:p:=by rw [e];refine Cb ⟨s.j+1,a',c',F'⟩ (by show s.j+1<=_;omega) (by show _ - (s.j+1) < _;omega)):p:=h
theorem CZ{p:Prop}(h:p:=by apply Ci;rfl;intro _;refine dk ?_;refine dN 2 ?_;apply Kj;rfl;intro _;refine C1 Cv ?_;exact AG):p:=h
theorem DC{p:Prop}(h:p:=by refine ⟨_,F2,rfl,by rw [hys.out];exact hO.out,hn2,fun b hb=>hF1 b (hF2 b hb),hK.trans ?_⟩;rw [<-Mq wr];exact (Ly _ _ _).mono (fun b hb _=>by simp at hb;subst hb;exact hgF)):p:=h
theorem DG{p:Prop}(h:p:=by exact ⟨Lt (M6 (fun j hj=>hz.out j (by omega) hj)).symm,hB⟩):p:=h
theorem DL{p:Prop}(h:p:=by intro q hq b hb;simp at hq;subst hq;exact .inr (.inl ⟨_,aL.2 rfl,rfl,hb⟩)):p:=h
theorem DV{p:Prop}(h:p:=by refine go ?_;refine ret () trivial ?_;rw [bad (by rw [hck,g4];rfl)];rfl):p:=h
theorem EB{p:Prop}(h:p:=by refine ret ⟨_,_,_,_,_⟩ trivial rfl):p:=h
theorem ED{p:Prop}(h:p:=by refine oC ?_;refine ce (fun w s=>Pf _ _ _ (by omega) (by omega) (by omega) (by omega)) ?_;refine dk ?_;refine Dg 7 8 ?_;exact CQ):p:=h
theorem EE{p:Prop}(h:p:=by refine go ?_;refine ret () trivial ?_;show Value.bool _=Value.bool _;congr 1;unfold Bo;rw [g1,g2,g3,g4,g5,av h6,ay h7,ay h8];rfl):p:=h
theorem EF{p:Prop}(h:p:=by refine go ?_;refine ret ⟨s.es++z.es,z.y,z.a,z.c,z.F,a',c',F2⟩ ⟨by rw [hz.1,hw];rfl,by rw [hz.2,he,hw];simp [N8,I3]⟩ rfl):p:=h
theorem EJ{p:Prop}(h:p:=by exact ⟨Lt (Ok hlt hz0.out hpk.out).symm,hB⟩):p:=h
theorem EN{p:Prop}(h:p:=by refine go ?_;refine ret () trivial ?_;show Value.bool _=Value.bool _;congr 1;unfold Bo;rw [g1,g2,g3,g4,g5,av h6,av h8];simp):p:=h
theorem EP{p:Prop}(h:p:=by refine go ?_;refine ret () trivial ?_;show Value.bool _=Value.bool _;congr 1;unfold Bo;rw [g1,g2,g3,g4,g5,av h6,av h7];rfl):p:=h
theorem FG{p:Prop}(h:p:=by obtain ⟨v1,v2,F1,F2,rfl,h1,h2,rfl⟩:=h;exact ⟨v1,v2,F1,F2,rfl,h1.frame fun b hb=>hF b (by simp [hb]),h2.frame fun b hb=>hF b (by simp [hb]),rfl⟩):p:=h
theorem FP{p:Prop}(h:p:=by obtain ⟨v1,rfl,h1⟩:=h;exact ⟨v1,rfl,h1.frame hF⟩):p:=h
theorem FQ{p:Prop}(h:p:=by simp only [aA,aU,aY];omega):p:=h
theorem FZ{p:Prop}(h:p:=by simpa [fp,Pc.F,aM] using hn):p:=h
theorem GI{p:Prop}(h:p:=by simp [Jg] <;> omega):p:=h
theorem GK{p:Prop}(h:p:=by simp [fp,Pc.F]):p:=h
theorem GL{p:Prop}(h:p:=by simp <;> omega):p:=h
theorem GP{p:Prop}(h:p:=by obtain ⟨v1,rfl,h1⟩:=h;exact h1.lt (by decide)):p:=h
theorem GQ{p:Prop}(h:p:=by obtain ⟨v1,rfl,h1⟩:=h;rfl):p:=h
theorem GR{p:Prop}(h:p:=by unfold maxLen at hl;simp;omega):p:=h
theorem GV{p:Prop}(h:p:=by show (⟨#[]⟩:au).size<=maxLen;decide):p:=h
theorem HC{p:Prop}(h:p:=by rw [C9 hk0 (by simp [hpk]),hfl];simp;omega):p:=h
theorem HI{p:Prop}(h:p:=by obtain ⟨v1,v2,F1,F2,rfl,h1,h2,rfl⟩:=h;rfl):p:=h
theorem HO{p:Prop}(h:p:=by simp [Y6];omega):p:=h
theorem HS{p:Prop}(h:p:=by intro p hp;simp at hp;subst hp;rfl):p:=h
theorem IH{p:Prop}(h:p:=by rw [h7] at hF;simpa [Value.ownBlock] using hF):p:=h
theorem II{p:Prop}(h:p:=by simpa using hA.ow):p:=h
theorem IQ{p:Prop}(h:p:=by simp [hpq.out]):p:=h
theorem IR{p:Prop}(h:p:=by intro q hq;obtain rfl:=aL.1 hq;exact ⟨_,rfl,_,_,_,_,rfl,(s.get m1).2,(s.get m2).2,rfl⟩):p:=h
theorem IU{p:Prop}(h:p:=by simpa using hb):p:=h
theorem JC{p:Prop}(h:p:=by show Dj.size<=maxLen;unfold maxLen;omega):p:=h
theorem JQ{p:Prop}(h:p:=by rw [aX];omega):p:=h
theorem JT{p:Prop}(h:p:=by simpa using e):p:=h
theorem JW{p:Prop}(h:p:=by show hs.length - (k+1) < _;omega):p:=h
theorem JY{p:Prop}(h:p:=by simp only [D6,ay (show ¬(x.Ak.length:Int)<=x.size by omega),bZ,cU]):p:=h
theorem JZ{p:Prop}(h:p:=by (repeat (refine Ei.setCell ?_ hgF _));exact hK.trans (Ei.ofBelow hbb)):p:=h
theorem KD{p:Prop}(h:p:=by simp [hpk]):p:=h
theorem KE{p:Prop}(h:p:=by rw [Gw hlt (by simp [hpq.out]),hys.out];have:=hlen.out;simp;omega):p:=h
theorem KJ{p:Prop}(h:p:=by obtain ⟨v1,rfl,h1⟩:=h;exact h1.lt):p:=h
theorem KL{p:Prop}(h:p:=by simp only [Mi,eX,bg];exact Agp):p:=h
end Go.Proofs.YtkoldibamfjghaaGreatDoor
namespace Go.Proofs.YtkoldibamfjghaaGreatDoor
open Go.RowKit
abbrev FV (f:FuncId) (a:am) (A:List Pc) (v:Value):Prop:=Fn prog f a A [] (fun (_:Unit)=>True) (fun _=>v) (fun _=>[])
end Go.Proofs.YtkoldibamfjghaaGreatDoor
namespace Go.Proofs.YtkoldibamfjghaaGreatDoor
open Go.RowKit
theorem Li:∀(H:List Pc),Lj H H
 | []=>.nil
 | _::R=>.cons .here (Li R)
theorem Cw.all {α:Type} {E:Bw α} {w:World} {cs:am} {xs:List α} (h:Cw E w cs xs []) (w':World):Cw E w' cs xs []:=h.frame EX
theorem Cw.cutL {α:Type} {E:Bw α} {w:World} {cs:am} {xs:List α} (h:Cw E w cs xs []) (i:Nat) (hi:i<=xs.length):Cw E w (cs.take (i * E.sz)) (xs.take i) []/\Cw E w (cs.drop (i * E.sz)) (xs.drop i) []:=by
 rw [<-bo i xs] at h;obtain ⟨c1,c2,G1,G2,rfl,hG,h1,h2⟩:=h.split;obtain ⟨rfl,rfl⟩:=List.append_eq_nil_iff.1 hG.symm;have hl:=h1.len;rw [aO,cW hi] at hl;rw [bS hl,dy hl];exact ⟨h1,h2⟩
theorem Cw.insL {α:Type} {E:Bw α} {w:World} {cs c1:am} {xs:List α} {x:α} (h:Cw E w cs xs []) (h1:Cw E w c1 [x] []) (i:Nat) (hi:i<=xs.length):Cw E w (cs.take (i * E.sz)++c1++cs.drop (i * E.sz)) (xs.take i++x::xs.drop i) []:=by
 obtain ⟨ha,hb⟩:=h.cutL i hi;have:=(ha.append h1).append hb;exact ET
section
variable {P:Program} {n:Nat} {fr:Fr} {H:List Pc} {ty:TypeId} {x y z:Operand}
theorem Kx {t e m i g o len cp:Nat} {kd:IntKind} {q:Int} [hS:SlC P t e m] (hx:ev fr x=some (ab (some ⟨g,o,none⟩) len cp)) (hy:ev fr y=some (.int kd q)) (hq:q=(i:Int)) (hi:i<=len) (hc:i < cp) (hlc:len<=cp):Yd P n fr H (.slice t x (some y) none none) ty (ab (some ⟨g,o+i * m,none⟩) (len - i) (cp - i)):=.mk fun ac w d pos Cd gd hA _=>by
 subst hq;have he2:P.elem t=e:=JN
 have h3:(Instr.sliceAt t (ab (some ⟨g,o,none⟩) len cp) (some (.int kd (i:Int))) none none).run P w=.ok (ab (some ⟨g,o+i * m,none⟩) (len - i) (cp - i)) w:=by
  rw [run_sliceAt_slice (h:=GB),run_slice_l (ht:=GB) (h0:=EV) (h1:=EV),he2,Mw hS.s];have h0:¬(cp - i=0):=EV
  have h0':¬(cp=i):=EV
  simp [Result.andThen,sliced,h0,h0',Addr.add_lit]
 exact BK
theorem Ahs {k:IntKind} {a:Int} {s t:TypeId} [hS:IntC P s k] [hD:IntC P t .u64] (hx:ev fr x=some (.int k a)) (h0:0<=a) (h1:a<=18446744073709551615):Yd P n fr H (.convert s t x) ty (.int .u64 a):=.mk fun c w d pos Cd gd hA _=>by
 simp [execOp,hA.ev hx,convert,run_underlying hS.u,run_underlying hD.u,Conv.intToInt,IntWalk.u64_in _ ⟨h0,h1⟩]
theorem Alt {a:Int} {t t':TypeId} (hx:ev fr x=some (.int .u64 a)):Yd P n fr H (.binOp .shr t x (.const (.int .u64 1)) t') ty (.int .u64 (a / 2)):=.mk fun c w d pos Cd gd hA _=>by
 have e:Op.shift .shr .u64 a .u64 1=pure (.int .u64 (a / 2)):=by rw [shift_shr .u64 .u64 a 1 EW EW];rfl
 have e2:binOp .shr t (.int .u64 a) (.int .u64 1)=Op.shift .shr .u64 a .u64 1:=rfl;have e3:c.eval (.const (.int .u64 1))=.int .u64 1:=rfl;simp only [execOp,hA.ev hx,e3,eqGuard_shr,e2,e,Sem.run_bind,Sem.run_pure,Result.andThen_ok]
theorem Aq5 {a:aj} {len cp t e m:Nat} [hS:SlC P t e m] (hx:ev fr x=some (ab a len cp)):Yd P n fr H (.call { callee:=.builtin .cap,args:=#[x],argTypes:=#[t] }) ty (aa cp):=.mk fun ac w d pos Cd gd hA _=>by
 simp [execOp,hA.ev hx,resolve,invoke,builtin,Builtin.cap_,run_underlying hS.u,goInt]
end
section
variable {c:Cx} {fr:Fr} {H k':List Pc} {k:List It} {Φ:Gl} {d:Nat} {o:Op} {ty:TypeId} {v u:Value} {x y:Operand}
theorem All {α:Type} {E:Bw α} (sc:Aar E) {t n cp:Nat} {a:aj} {xs:List α} {F:aq} {S:List Pc} (h0:xs≠[])
  (h:∀g cs rest,a=some ⟨g,0,none⟩->n=xs.length->xs.length<=cp->cp<=9223372036854775807->cs.length=xs.length * E.sz->cs.length+rest.length=cp * E.sz->(∀w,Cw E w cs xs [])->T c fr (.row g t 0 [] (cs++rest) []::S) Φ)
  (hp:C2 H (.ow E t (ab a n cp) xs F) S:=by exact Dr):T c fr H Φ:=.mk fun ac w s g'=>by
 have s1:=s.pick hp;obtain ⟨hnd,ho⟩:=s1.on (.ow E t (ab a n cp) xs F) EX;have hF:=ho.scal sc;rcases ho with ⟨-,h2, -⟩|⟨g,cap,cs,rest,G,h1,h2,h3,h4,h5,h6,h7⟩
 ·exact absurd h2 h0
 ·cases h1;have hG:G=[]:=IH
  subst hG h7;have hl:=h6.len;refine (h g cs rest rfl rfl h3 (by unfold maxLen at h4;omega) hl h5 (fun w'=>h6.all w')).h ac w (s1.conv rfl ⟨rfl,HG⟩ IW) g'
theorem Ada {α:Type} {E:Bw α} {t g:Nat} {L cs rest:am} {xs:List α} {S:List Pc} (cp:Nat) (hL:L=cs++rest) (hf:∀w,Cw E w cs xs []) (h1:xs.length<=cp) (h2:cp<=9223372036854775807) (h3:L.length=cp * E.sz)
  (h:T c fr (.ow E t (ab (some ⟨g,0,none⟩) xs.length cp) xs [g]::S) Φ) (hp:C2 H (.row g t 0 [] L []) S:=by exact Dr):T c fr H Φ:=.mk fun ac w s g'=>by
 subst hL;have s1:=s.pick hp;have hr:=(s1.on (.row g t 0 [] (cs++rest) []) EX).2;exact h.h ac w (s1.conv rfl ⟨EX,.inr ⟨g,cp,cs,rest,[],rfl,GH,h1,FC,HT,hf w,rfl⟩⟩ IW) g'
theorem Aya {f:Nat} {aS:List Operand} {ts:Array TypeId} {vs:am} (hd:Nat.blt d c.n=true) (ha:Evs fr aS vs) (hv:∀w,St c.G c.D c.w0 H w->(callFunc f vs.toArray).run c.P w=.ok (.value v) w) (h:T c ((d,v)::fr) H Φ):On c fr H (some d) (.call { callee:=.value (.func f),args:=aS.toArray,argTypes:=ts }) ty Φ:=⟨fun _ _ _=>Pd fun Q a w s g=>by
 have e:∀pos Cd gd,(execOp a.eval ⟨some d,.call { callee:=.value (.func f),args:=aS.toArray,argTypes:=ts },ty,pos,Cd,gd⟩).run c.P w=.ok (.value v) w:=by
  intro pos Cd gd;simp [execOp,resolve,Deferred.ofValue,Act.eval,invoke,g.evs ha,hv w s]
 rw [e];exact h.h _ _ s (g.put hd)⟩
theorem Ajw {w:World} {g:Nat} {t:TypeId} {cs:am} (h:If w g t cs):w.shape? g=some (t,cs.length):=by
 unfold World.shape?;rw [show w.heap[g]?=_ from h];simp
theorem ovl {f:Nat} {tS tR e m:Nat} [hS:SlC c.P tS e m] {g o g2 o2 la ca lb cb t1 t2:Nat} {L L2:am}
  (he:∀(args:Array Value) (w:World),(callFunc f args).run c.P w=((Extern.SlicesOverlaps.overlaps #[tS,tS] #[tR] args).run c.P w).andThen fun v w=>.ok (.value v) w)
  (h1:C2 H (.row g t1 0 [] L []) k') (h2:.row g2 t2 0 [] L2 []∈k') (hL:L2≠[]) (w:World) (s:St c.G c.D c.w0 H w) :
  (callFunc f [ab (some ⟨g,o,none⟩) la ca,ab (some ⟨g2,o2,none⟩) lb cb].toArray).run c.P w=.ok (.value (.bool false)) w:=by
 have s1:=s.pick h1;have r1:=(s1.on (.row g t1 0 [] L []) EX).2;have r2:=(s1.on (.row g2 t2 0 [] L2 []) (by simp [h2])).2;have hne:g≠g2:=fun e'=>s1.sep.1 (.row g2 t2 0 [] L2 []) h2 (by simp [Pc.mu]) g IW (by simp [Pc.F,e']);simp only [aZ,bg] at r1 r2;rw [he,Lib.run_overlaps_apart w tS tR e hS.u m (fun w=>Mw hS.s w) ⟨g,o,none⟩ ⟨g2,o2,none⟩ la ca lb cb hne t1 t2 L.length L2.length (Ajw r1) (Ajw r2) (by simpa using hL) (r1.frozen _) (r1.frozen _)];rfl
theorem Aek {P M Q d L:am} {o:Nat} (hL:L=P++M++Q) (ho:o=P.length) (hd:M.length=d.length):P++d++Q=L.take o++d++L.drop (o+d.length):=by
 subst hL ho;rw [aM P M Q,fV,<-hd,<-aM,<-aA,fg]
theorem Aqp {B R:am} (m:Nat) (h:m<=R.length):∃X Y,B++R=X++Y++R.drop m/\X.length=m/\Y.length=B.length:=by
 refine ⟨(B++R).take m,((B++R).drop m).take B.length,?_,FB,FB⟩;have:R.drop m=((B++R).drop m).drop B.length:=by rw [cw,Nat.add_comm,<-cw,fg]
 rw [this,aM,bo,bo]
theorem Mx {g t o m:Nat} {L cs:am} (h1:.row g t 0 [] L []∈H) (hc:cs=(L.drop o).take m) (w:World) (s:St c.G c.D c.w0 H w):∀j u,cs[j]?=some u->w.cell? ((⟨g,o,none⟩:Addr).add j)=some u:=fun j u hu=>by
 subst hc;have r1:=(s.on (.row g t 0 [] L []) h1).2;simp only [aZ,bg] at r1;rw [Addr.add_lit,r1.cell];rw [List.getElem?_take] at hu
 split at hu
 ·rw [dw] at hu;exact hu
 ·cases hu
theorem Au2 {P:Program} (w:World) (dT sT ty elem m:TypeId) (b o dLen dCap:Nat) (a:Addr) (sLen sCap:Nat) (cs:am)
  (hu:P.underlying dT=some (.slice elem)) (hs:(P.info? elem).map (·.size)=some m) (hn:cs.length=Nat.min sLen dLen * m)
  (hsrc:∀j v,cs[j]?=some v->w.cell? (a.add j)=some v) (hc:∀j,j < cs.length->(w.cell? ⟨b,o+j,none⟩).isSome=true) (hf:∀j,j < cs.length->w.frozen? ⟨b,o+j,none⟩=false) (h1:∀v∈cs,v.oneCell'=true) :
  (Builtin.copy_ #[dT,sT] ty #[ab (some ⟨b,o,none⟩) dLen dCap,ab (some a) sLen sCap]).run P w=.ok (goInt (Nat.min sLen dLen:Nat)) (w.setCells b o cs):=by
 have hl:=run_loadCells_list (P:=P) w a cs hsrc;have hst:=run_storeCells_cells (P:=P) b o cs 0 w (by simpa using hc) (by simpa using hf) h1;cases hq:P.info? elem with
 | none=>simp [hq] at hs
 | some i =>
  have hi:i.size=m:=by simpa [hq] using hs
  simp [Builtin.copy_,run_underlying hu,Builtin.lenOf,Builtin.firstCells,sizeOf,typeInfo,hq,hi,<-hn,hl,hst]
theorem Wn {dT sT e m g t oo dn dc sn sc:Nat} {ad:Addr} {L L' cs:am} {S:List Pc} [hS:SlC c.P dT e m] (hd:Nat.blt d c.n=true) (hx:ev fr x=some (ab (some ⟨g,oo,none⟩) dn dc)) (hy:ev fr y=some (ab (some ad) sn sc))
  (hsrc:∀w,St c.G c.D c.w0 H w->∀j u,cs[j]?=some u->w.cell? (ad.add j)=some u) (hr:Rpl H (.row g t 0 [] L []) (.row g t 0 [] L' []) S)
  (hL:L'=L.take oo++cs++L.drop (oo+cs.length)) (hn:cs.length=Nat.min sn dn * m) (hfit:oo+cs.length<=L.length) (h1:∀v∈cs,v.oneCell'=true) (h:T c ((d,aa (Nat.min sn dn:Nat))::fr) S Φ) :
  On c fr H (some d) (.call { callee:=.builtin .copy,args:=#[x,y],argTypes:=#[dT,sT] }) ty Φ:=⟨fun _ _ _=>Pd fun Q a w s ag=>by
 have hP:(Pc.row g t 0 [] L []).P w:=by obtain ⟨R,h1,_⟩:=hr.picks;exact s.on _ h1.mem
 have r1:=hP.2;simp only [aZ,bg] at r1;have hrun:=fun ty=>Au2 (P:=c.P) w dT sT ty e m g oo dn dc ad sn sc cs hS.u hS.s hn (hsrc w s) (fun j hj=>by rw [r1.cell,aD EV];rfl) (fun j hj=>r1.frozen _) h1;have e1:∀pos Cd gd,(execOp a.eval ⟨some d,.call { callee:=.builtin .copy,args:=#[x,y],argTypes:=#[dT,sT] },ty,pos,Cd,gd⟩).run c.P w=.ok (.value (goInt (Nat.min sn dn:Nat))) (w.setCells g oo cs):=by
  intro pos Cd gd;simp only [execOp,resolve,invoke,builtin,Sem.run_bind,Sem.run_pure,Result.andThen_ok,cT,cH,dg,ag.ev hx,ag.ev hy,hrun]
 rw [e1];have hsplit:L=L.take oo++(L.drop oo).take cs.length++L.drop (oo+cs.length):=by
  rw [<-cw,aM,bo,bo]
 have r2:=r1;rw [hsplit] at r2;have r3:=If.put cs _ r2 (p:=oo) FB FB;have hk:=Ly (g:=g) cs w oo;rw [Mq w g cs w] at r3 hk;rw [<-hL] at r3;refine h.h _ _ (s.rpl hr rfl (fun b hb=>.inl hb) hk ⟨rfl,by simpa using r3⟩) (ag.put hd)⟩
theorem Ap4 {t tn e m b g oo n cp k:Nat} {zv:Value} {olds:am} {q:Int} [hS:SlC c.P t e m] [hE:ElT c.P e zv m b] [hI:IntC c.P tn .i64] (hd:Nat.blt d c.n=true) (hx:ev fr x=some (ab (some ⟨g,oo,none⟩) n cp)) (hy:ev fr y=some (aa q)) (hq:q=(k:Int))
  (hso:∀w,St c.G c.D c.w0 H w->∀j u,olds[j]?=some u->w.cell? ((⟨g,oo,none⟩:Addr).add j)=some u)
  (hlo:olds.length=n * m) (hm:0 < m) (hk:0 < k) (hg:cp < n+k) (h63:n+k<=4294967296) (hby:(n+k) * b<=140737488355328)
  (h:∀g' cp' Z rest,n+k<=cp'->cp'<=9223372036854775807->Z.length=k * m->(olds++Z++rest).length=cp' * m->T c ((d,ab (some ⟨g',0,none⟩) ((n+k:Nat)) cp')::fr) (.row g' e 0 [] (olds++Z++rest) []::H) Φ) :
  On c fr H (some d) (.call { callee:=.builtin .append,args:=#[x,y],argTypes:=#[t,tn] }) ty Φ:=⟨fun _ _ _=>Pd fun Q a w s ag=>by
 subst hq;obtain ⟨i,hi,hiz⟩:=cu.1 hE.i;simp only [Prod.mk.injEq] at hiz;obtain ⟨i1,i2,i3⟩:=hiz;subst i2 i3;have hold:(Builtin.firstCells i.size n (ab (some ⟨g,oo,none⟩) n cp)).run c.P w.drew=.ok olds.toArray w.drew:=run_firstCells_some w.drew i.size n ⟨g,oo,none⟩ n cp olds hlo (fun j v hj=>hso w s j v hj);have hr:=fun ty=>Lib.run_append_grow_zeros (P:=c.P) w t tn ty e i zv .i64 .i64 hS.u hI.u hi i1 (some ⟨g,oo,none⟩) n cp olds hold k hk hm hg EV (bD (cF _ EV) (bD hby EW)) (growslice_fits hg hby)
 have e1:∀pos Cd gd,(execOp a.eval ⟨some d,.call { callee:=.builtin .append,args:=#[x,y],argTypes:=#[t,tn] },ty,pos,Cd,gd⟩).run c.P w=.ok (.value (ab (some ⟨w.heap.size,0,none⟩) (n+k) (grownCap w (n+k) cp e))) (w.drew.alloc (.cells (olds.toArray++Builtin.zeroCells zv.cells k++Builtin.zeroCells zv.cells (grownCap w (n+k) cp e - (n+k))) e)):=by
  intro pos Cd gd;simp only [execOp,resolve,invoke,builtin,Sem.run_bind,Sem.run_pure,Result.andThen_ok,cT,cH,dg,ag.ev hx,ag.ev hy,hr]
 rw [e1];have hge:=grownCap_ge w (n+k) cp e;have hle:=grownCap_le_maxLen w (n+k) cp e FC;have hBel:Below w.heap.size w (w.drew.alloc (.cells (olds.toArray++Builtin.zeroCells zv.cells k++Builtin.zeroCells zv.cells (grownCap w (n+k) cp e - (n+k))) e)):=(E4 (Below.refl w.heap.size w) 1).alloc (aK _) _;have hz:∀q,(Builtin.zeroCells zv.cells q).toList.length=q * i.size:=fun q=>by rw [Nd,hE.s]
 refine (h w.heap.size (grownCap w (n+k) cp e) (Builtin.zeroCells zv.cells k).toList (Builtin.zeroCells zv.cells (grownCap w (n+k) cp e - (n+k))).toList hge (by unfold maxLen at hle;omega) (hz k) ?_).h _ _ (s.add (N:=[.row w.heap.size e 0 [] (olds++(Builtin.zeroCells zv.cells k).toList++(Builtin.zeroCells zv.cells (grownCap w (n+k) cp e - (n+k))).toList) []]) hBel ?_ ⟨EX,trivial⟩ ?_) (ag.put hd)
 ·rw [aA,aA,hz,hz,hlo,<-cD,<-cD];congr 1;omega
 ·intro p hp;rw [aL] at hp;subst hp;refine ⟨rfl,?_⟩;have:=If.made w.drew e (olds++(Builtin.zeroCells zv.cells k).toList++(Builtin.zeroCells zv.cells (grownCap w (n+k) cp e - (n+k))).toList);rw [aZ,bg];have e2:(olds++(Builtin.zeroCells zv.cells k).toList++(Builtin.zeroCells zv.cells (grownCap w (n+k) cp e - (n+k))).toList).toArray=olds.toArray++Builtin.zeroCells zv.cells k++Builtin.zeroCells zv.cells (grownCap w (n+k) cp e - (n+k)):=by apply fH;simp
  rw [e2] at this;exact this
 ·intro p hp b hb;rw [aL] at hp;subst hp;simp [Pc.F] at hb;subst hb;exact .inl (aK _)⟩
theorem Ak2 {t e m n cp i:Nat} {a:aj} {q:Int} [hS:SlC c.P t e m] (hd:Nat.blt d c.n=true) (hx:ev fr x=some (ab a n cp)) (hy:ev fr y=some (aa q)) (hq:q=(i:Int)) (hi:i<=n) (h:∀v,T c ((d,v)::fr) H Φ) (hlc:n<=cp:=by omega):On c fr H (some d) (.slice t x (some y) none none) ty Φ:=⟨fun _ _ _=>Pd fun Q ac w s g=>by
 subst hq;have he2:=Aew hS;obtain ⟨v,h3⟩:∃v,(Instr.sliceAt t (ab a n cp) (some (aa (i:Int))) none none).run c.P w=.ok v w:=by
  rw [run_sliceAt_slice (h:=GB),run_slice_l (ht:=GB) (h0:=EV) (h1:=EV),he2,Mw hS.s];exact ⟨_,rfl⟩
 have e1:∀pos Cd gd,(execOp ac.eval ⟨some d,.slice t x (some y) none none,ty,pos,Cd,gd⟩).run c.P w=.ok (.value v) w:=by
  intro pos Cd gd;simp only [execOp,cL,bV,g.ev hx,g.ev hy,Sem.run_bind,h3,Result.andThen_ok,Sem.run_pure]
 rw [e1];exact (h v).h _ w s (g.put hd)⟩
end
structure Iu where
 Ae:Int
 Cg:Int
def Bx:Bw Iu where
 sz:=2
 Kz _ cs x F:=cs=[aa x.Ae,aa x.Cg]/\F=[]
 len h:=by obtain ⟨rfl,rfl⟩:=h;rfl
 lt h:=by obtain ⟨rfl,rfl⟩:=h;simp
 frame h _:=h
theorem I0:One Bx:=fun h u hu=>by
 obtain ⟨rfl,rfl⟩:=h;simp only [aG,aT,bl] at hu;rcases hu with rfl|rfl
 ·rfl
 ·rfl
theorem Kv:Aar Bx:=fun h=>by obtain ⟨rfl,rfl⟩:=h;rfl
theorem Ai2:(prog.info? 191).map (fun i=>(i.zero,i.size,i.bytes))=some (some (.agg #[aa 0,aa 0]),2,16):=by kernel_rfl
section
variable {c:Cx} {fr:Fr} {H:List Pc} {Φ:Gl}
theorem Ann {v:Value} {x:Iu} {F:aq} (h:∀(_:Unit),v=.agg #[aa x.Ae,aa x.Cg]->T c fr (H) Φ) (hm:.isv Bx v x F∈H:=by exact Bn):T c fr H Φ:=.mk fun a w s g=>by
 obtain ⟨cs,rfl,rfl,rfl⟩:=s.get hm;exact (h () rfl  ).h a w s g
theorem T5 {a:aj} {n cp:Nat} {xs:List Iu} {F:aq} (i:Nat) (h:∀(hi:i < xs.length) (b o:Nat),a=some ⟨b,o,none⟩->T c fr (.cel b (o+i * 2) [aa xs[i].Ae,aa xs[i].Cg]::H) Φ) (hm:.sl Bx (ab a n cp) xs F∈H:=by exact Bn) (hi:i < xs.length:=by omega):T c fr H Φ:=.mk fun ac w s g=>by
 exact CP
end
def B8 (x:Int):Bool:=Ff 0 x 65535
def Kt (x:Int):Bool:=Ff 0 x 9999
def Ol (x:Int):Bool:=Ff 1 x 7
theorem Ja (x:Int) (w:World):Calls prog 147 #[aa x] w fun e w'=>e=.returned (.bool (B8 x))/\w=w':=by
 go_enter func147,ntmps147
 go_wp2_with (go_at_call 106;refine (Hy _ _ _ _).mono ?_;rintro e w' ⟨rfl,rfl⟩)
 go_ret
 exact DR
theorem Nw (x:Int) (w:World):Calls prog 96 #[aa x] w fun e w'=>e=.returned (.bool (B8 x))/\w=w':=by
 go_enter func96,ntmps96
 go_wp2_with (go_at_call 130;refine (Kg _ _ _ _).mono ?_;rintro e w' ⟨rfl,rfl⟩)
 go_ret
 exact DR
theorem So (x:Int) (w:World):Calls prog 146 #[aa x] w fun e w'=>e=.returned (.bool (Kt x))/\w=w':=by
 go_enter func146,ntmps146
 go_wp2_with (go_at_call 106;refine (Hy _ _ _ _).mono ?_;rintro e w' ⟨rfl,rfl⟩)
 go_ret
 exact DR
theorem Z6 (x:Int) (w:World):Calls prog 202 #[aa x] w fun e w'=>e=.returned (.bool (Kt x))/\w=w':=by
 go_enter func202,ntmps202
 go_wp2_with (go_at_call 130;refine (Kg _ _ _ _).mono ?_;rintro e w' ⟨rfl,rfl⟩)
 go_ret
 exact DR
theorem Uq (x:Int) (w:World):Calls prog 188 #[aa x] w fun e w'=>e=.returned (.bool (Ol x))/\w=w':=by
 go_enter func188,ntmps188
 go_wp2_with (go_at_call 106;refine (Hy _ _ _ _).mono ?_;rintro e w' ⟨rfl,rfl⟩)
 go_ret
 exact DR
def Ad8 (lo hi:Int) (zs:ar) (i:Nat):Bool:=Ff lo (zs.getD i 0) hi && (i == 0 || decide (zs.getD (i - 1) 0 < zs.getD i 0))
def Qo (lo hi:Int) (zs:ar):Bool:=O1 (Ad8 lo hi zs) zs.length
theorem Vy {lo hi:Int} {zs:ar} (h:0 < zs.length):Ad8 lo hi zs 0=Ff lo zs[0] hi:=by simp [Ad8,h]
theorem Tj {lo hi:Int} {zs:ar} {m:Nat} (h:m+1 < zs.length):Ad8 lo hi zs (m+1)=(Ff lo zs[m+1] hi && decide (zs[m]'EV < zs[m+1])):=by
 simp [Ad8,h,show m < zs.length by omega]
theorem Afj (v:Value) (zs:ar) (F:aq) (w:World) (h:Sl Bb w v zs F) :
  Calls prog 230 #[v] w fun e w'=>e=.returned (.bool (Qo 1 7 zs))/\w=w':=by
 obtain ⟨a,cap,rfl⟩:=h.slice;obtain ⟨-,hl,hc⟩:=h.int;unfold maxLen at hl
 go_enter func230,ntmps230
 go_wp2
 go_loop [3,4,7] (fun _ _ i=>∃k:Nat,k<=zs.length/\i=aa k/\Hid (∀j,j < k->Ad8 1 7 zs j=true)) (fun _ _ i=>zs.length - (intOf i).toNat)
 case atStart=>exact ⟨0,aE _,rfl,fun j hj=>by omega⟩
 case round =>
  obtain ⟨k,hk,rfl,hz⟩:=hrel;by_cases hlt:k < zs.length
  ·obtain ⟨b,off,rfl,c0⟩:=hc k hlt;rcases k with _|m
   ·have hr:=Lib.hid (Vy (lo:=1) (hi:=7) hlt);clear hc;simp only [bN] at c0;go_wp2_with (go_at_call 188;refine (Uq _ _).mono ?_;rintro e w' ⟨rfl,rfl⟩)
    ·have t:Ff 1 zs[0] 7=true:=FM
     exact ⟨⟨1,EV,HM,U8 hz.out (by rw [hr.out,t])⟩,GG⟩
    ·have t:¬Ff 1 zs[0] 7=true:=FM
     go_ret
     exact ⟨Co (Lw hlt (by rw [hr.out];simpa using t)).symm,rfl⟩
   ·obtain ⟨b',off',hb',c1⟩:=hc m EV;cases hb';have hr:=Lib.hid (Tj (lo:=1) (hi:=7) hlt);clear hc;go_wp2_with (go_at_call 188;refine (Uq _ _).mono ?_;rintro e w' ⟨rfl,rfl⟩)
    ·have t:zs[m+1]<=zs[m]:=FM
     go_ret
     exact ⟨Co (Lw hlt (by rw [hr.out];simp;omega)).symm,rfl⟩
    ·have t:Ff 1 zs[m+1] 7=true:=FM
     have t2:zs[m] < zs[m+1]:=FM
     exact ⟨⟨m+2,EV,HM,U8 hz.out (by rw [hr.out,t];simp;omega)⟩,GG⟩
    ·have t:¬Ff 1 zs[m+1] 7=true:=FM
     go_ret
     exact ⟨Co (Lw hlt (by rw [hr.out];simp [t])).symm,rfl⟩
  ·go_wp2
   go_ret
   exact ⟨Co (Ki (fun i hi=>hz.out i EV)).symm,rfl⟩
theorem Apy (v:Value) (zs:ar) (F:aq) (lo hi:Int) (w:World) (h:Sl Bb w v zs F) :
  Calls prog 321 #[v,aa lo,aa hi] w (RB (.bool (Qo lo hi zs)) w):=by
 obtain ⟨a,cap,rfl⟩:=h.slice;obtain ⟨-,hl, -⟩:=h.int;unfold maxLen at hl
 go_enter func321,ntmps321
 go_wp2
 go_loopw [7] (fun i wr=>∃k:Nat,k<=zs.length/\i=aa k/\Hid (∀j,j < k->Ad8 lo hi zs j=true)/\Below w.heap.size w wr) (fun i _=>zs.length - (intOf i).toNat)
 case atStart=>exact ⟨0,aE _,rfl,fun j hj=>by omega,Below.refl _ _⟩
 case round =>
  obtain ⟨k,hk,rfl,hz,hB⟩:=hrel;have hc:=(h.below EW hB).int.2.2;by_cases hlt:k < zs.length
  ·obtain ⟨b,off,rfl,c0⟩:=hc k hlt;rcases k with _|m
   ·have hr:=Lib.hid (Vy (lo:=lo) (hi:=hi) hlt);clear hc;simp only [bN] at c0;cases t:Ff lo zs[0] hi
    ·go_wp2_with fail
     go_quiet ((go_at_call 130;exact X2 (Kg _ _ _ _)))
     go_wp2_with fail
     go_ret
     exact ⟨Co (Lw hlt (by rw [hr.out,t])).symm,E4 hB _⟩
    ·go_wp2_with fail
     go_quiet ((go_at_call 130;exact X2 (Kg _ _ _ _)))
     go_wp2_with fail;exact ⟨⟨1,EV,HM,U8 hz.out (by rw [hr.out,t]),E4 hB _⟩,GG⟩
   ·obtain ⟨b',off',hb',c1⟩:=hc m EV;cases hb';have hr:=Lib.hid (Tj (lo:=lo) (hi:=hi) hlt);clear hc;cases t:Ff lo zs[m+1] hi
    ·go_wp2_with fail
     go_quiet ((go_at_call 130;exact X2 (Kg _ _ _ _)))
     go_wp2_with fail
     go_ret
     exact ⟨Co (Lw hlt (by rw [hr.out,t];rfl)).symm,E4 hB _⟩
    ·by_cases t2:zs[m] < zs[m+1]
     ·go_wp2_with fail
      go_quiet ((go_at_call 130;exact X2 (Kg _ _ _ _)))
      go_wp2_with fail;exact ⟨⟨m+2,EV,HM,U8 hz.out (by rw [hr.out,t];simpa using t2),E4 hB _⟩,GG⟩
     ·have t3:zs[m+1]<=zs[m]:=EV
      go_wp2_with fail
      go_quiet ((go_at_call 130;exact X2 (Kg _ _ _ _)))
      go_wp2_with fail
      go_ret
      exact ⟨Co (Lw hlt (by rw [hr.out];simp;omega)).symm,E4 hB _⟩
  ·go_wp2
   go_ret
   exact ⟨Co (Ki (fun i hi=>hz.out i EV)).symm,hB⟩
theorem Apw (v:Value) (zs:ar) (F:aq) (w:World) (h:Sl Bb w v zs F) :
  Calls prog 269 #[v] w (RB (.bool (Qo 1 7 zs)) w):=by
 go_enter func269,ntmps269
 go_wp2_with (go_at_call 321;refine (Apy _ zs F _ _ _ h).mono ?_;rintro e w' ⟨rfl,hb1⟩)
 go_ret
 exact ⟨rfl,hb1⟩
theorem A4 {x:Int}:B8 x=true↔0<=x/\x<=65535:=by unfold B8 Ff;simp
def Cd (x n:Int):Int:=(x+n) % 65536
def gp (a b:Int):Int:=(b - a) % 65536
def To (a b:Int):Bool:=Ff 1 (gp a b) 32767
theorem Ll (a b:Int):0<=gp a b/\gp a b<=65535:=by unfold gp;omega
theorem Jb (a b:Int):0<=Cd a b/\Cd a b<=65535:=by unfold Cd;omega
theorem Pm (a b:Int):B8 (Cd a b)=true:=A4.2 (Jb a b)
theorem Aqz (z:Int):((z.tmod 65536)+65536).tmod 65536=z % 65536:=by
 rw [eC (a:=z.tmod 65536+65536),eC]
 split <;> split <;> omega
theorem Bc1 (z:Int):-65535<=z.tmod 65536/\z.tmod 65536<=65535:=by
 rw [eC]
 split <;> omega
theorem Rv (x n:Int) (w:World) (h0:-4611686018427387904<=x+n) (h1:x+n<=4611686018427387904) :
  Calls prog 221 #[aa x,aa n] w fun e w'=>e=.returned (aa (Cd x n))/\w=w':=by
 have hb:=Bc1 (x+n);have hb1:=hb.1;have hb2:=hb.2;clear hb;by_cases hz:0<=x+n
 ·go_enter func221,ntmps221
  go_wp2
  go_ret
  exact ⟨Lt (by unfold Cd;omega),rfl⟩
 ·have ht:=Aqz (x+n);have ht:=Lib.hid ht
  go_enter func221,ntmps221
  go_wp2
  go_ret
  refine ⟨Lt ?_,rfl⟩;have:=ht.out;rw [eC (a:=(x+n).tmod 65536+65536)] at this;unfold Cd
  split at this <;> omega
theorem Pf (a b:Int) (w:World) (h0:-4611686018427387904<=b - a) (h1:b - a<=4611686018427387904) (ha:-4611686018427387904<=a) (ha':a<=4611686018427387904) :
  Calls prog 149 #[aa a,aa b] w fun e w'=>e=.returned (aa (gp a b))/\w=w':=by
 go_enter func149,ntmps149
 go_wp2_with fail;refine (Rv b (-a) _ EV EV).mono ?_;rintro e w' ⟨rfl,rfl⟩;go_wp2_with fail
 go_ret
 exact ⟨Lt (by unfold Cd gp;omega),rfl⟩
theorem Ns (a b:Int) (w:World) (h0:-4611686018427387904<=b - a) (h1:b - a<=4611686018427387904) (ha:-4611686018427387904<=a) (ha':a<=4611686018427387904) :
  Calls prog 343 #[aa a,aa b] w fun e w'=>e=.returned (.bool (To a b))/\w=w':=by
 go_enter func343,ntmps343
 go_wp2_with fail;refine (Pf a b _ h0 h1 ha ha').mono ?_;rintro e w' ⟨rfl,rfl⟩;go_wp2_with fail;refine (Hy _ _ _ _).mono ?_;rintro e w' ⟨rfl,rfl⟩;go_wp2_with fail
 go_ret
 exact DR
theorem Ht (x n:Int) (w:World) (h0:-131072<=x+n) (h1:x+n<=4611686018427387904) :
  Calls prog 91 #[aa x,aa n] w fun e w'=>e=.returned (aa (Cd x n))/\w=w':=by
 have h2:0<=x+n+131072:=EV
 go_enter func91,ntmps91
 go_wp2
 go_ret
 exact ⟨Lt (by unfold Cd;omega),rfl⟩
theorem Jm (a b:Int) (w:World) (h0:-65536<=b - a) (h1:b - a<=4611686018427387904) :
  Calls prog 204 #[aa a,aa b] w fun e w'=>e=.returned (aa (gp a b))/\w=w':=by
 have h2:0<=b - a+65536:=EV
 go_enter func204,ntmps204
 go_wp2
 go_ret
 exact ⟨Lt (by unfold gp;omega),rfl⟩
theorem Qi (a b:Int) (w:World) (h0:-65536<=b - a) (h1:b - a<=4611686018427387904) :
  Calls prog 322 #[aa a,aa b] w fun e w'=>e=.returned (.bool (To a b))/\w=w':=by
 go_enter func322,ntmps322
 go_wp2_with fail;refine (Jm a b _ h0 h1).mono ?_;rintro e w' ⟨rfl,rfl⟩;go_wp2_with fail;refine (Kg _ _ _ _).mono ?_;rintro e w' ⟨rfl,rfl⟩;go_wp2_with fail
 go_ret
 exact DR
end Go.Proofs.YtkoldibamfjghaaGreatDoor
namespace Go.Proofs.YtkoldibamfjghaaGreatDoor
open Go.RowKit Go.Shelf
def low (b:UInt8):Bool:=Ff 97 b.toNat 122
def T7 (l:List UInt8):Bool:=l.all low
def Pk (s:au):Bool:=decide ((s.size:Int)<=8) && T7 s.data.toList
def abc:List UInt8:=[97,98,99,100,101,102,103,104,105,106,107,108,109,110,111,112,113,114,115,116,117,118,119,120,121,122]
theorem Ba0 (b:UInt8):abc.contains b=low b:=by
 have h:∀n:Fin 256,abc.contains (UInt8.ofNat n.val)=low (UInt8.ofNat n.val):=by decide +kernel
 have:=h ⟨b.toNat,b.toNat_lt⟩;exact ET
theorem dropWhile_nil {α:Type} (p:α->Bool) (l:List α):l.dropWhile p=[]↔l.all p=true:=by
 induction l with
 | nil=>simp
 | cons x r ih=>rw [eV];cases h:p x <;> simp [h,ih]
theorem Ahw {α:Type} (p:α->Bool) (l:List α):(l.dropWhile p).all p=l.all p:=by
 induction l with
 | nil=>simp
 | cons x r ih=>rw [eV];cases h:p x <;> simp [h,ih]
theorem Avf (l cs:List UInt8):(Lib.trimS l cs=[])↔l.all (cs.contains ·)=true:=by
 unfold Lib.trimS Lib.trimLeftS Lib.trimRightS;rw [dropWhile_nil,List.all_reverse,Ahw,List.all_reverse]
theorem Azy (l:List UInt8):(Lib.trimS l abc == [])=T7 l:=by
 rw [cC,eQ,Avf];unfold T7;rw [show (fun b=>abc.contains b)=low from funext Ba0]
theorem Aa7 (s:au) (w:World) (hs:s.size<=maxLen) :
  Calls prog 187 #[af s] w (RB (.bool (Pk s)) w):=by
 unfold maxLen at hs;have hc:=fun w=>Any.strings_Trim_laid Tryz.lays160 EY s ⟨abc.toArray⟩ w hs EW (ascii_of_all EW);change ∀w,Calls prog 255 #[af s,af ⟨abc.toArray⟩] w (RB (af ⟨(Lib.trimS s.data.toList abc).toArray⟩) w) at hc;have ht:=Azy s.data.toList;replace hc:=Lib.hid hc;by_cases h8:s.size<=8
 ·generalize Lib.trimS s.data.toList abc=t at *;have hi:Pk s=(t == []):=by unfold Pk;rw [ht,av EV];rfl
  replace hi:=Lib.hid hi;clear ht;cases t with
  | nil =>
   go_enter func187,ntmps187
   go_wp2_with fail;refine (hc.out _).mono ?_;rintro e w1 ⟨rfl,hb⟩;go_wp2_with fail
   go_ret
   exact ⟨Co hi.out.symm,hb⟩
  | cons a r =>
   go_enter func187,ntmps187
   go_wp2_with fail;refine (hc.out _).mono ?_;rintro e w1 ⟨rfl,hb⟩;go_wp2_with fail
   go_ret
   exact ⟨Co hi.out.symm,hb⟩
 ·have hi:Pk s=false:=by unfold Pk;rw [ay EV];rfl
  replace hi:=Lib.hid hi
  go_enter func187,ntmps187
  go_wp2_with fail
  go_ret
  exact ⟨Co hi.out.symm,Below.refl _ _⟩
theorem Auf (s:au) (k:Nat) (h:k < s.size):T7 (s.data.toList.drop k)=(low s[k] && T7 (s.data.toList.drop (k+1))):=by rw [Aev s k h];rfl
theorem Q7 (s:au) (n:Int) (w:World) (hs:s.size<=maxLen) :
  Calls prog 216 #[af s,aa n] w fun e w'=>e=.returned (.bool (decide ((s.size:Int)<=n) && T7 s.data.toList))/\w=w':=by
 unfold maxLen at hs
 go_enter func216,ntmps216
 go_wp2
 go_loop [5] (fun i=>∃k:Nat,k<=s.size/\i=aa k/\Hid (T7 s.data.toList=T7 (s.data.toList.drop k))) (fun i=>s.size - (intOf i).toNat)
 case atStart=>exact ⟨0,aE _,rfl,rfl⟩
 case round =>
  obtain ⟨k,hk,rfl,hz⟩:=hrel;by_cases hlt:k < s.size
  ·have hz:=Lib.hid (hz.out.trans (Auf s k hlt));have hb:(s[k].toNat:Int)<=255:=HX
   cases hl:low s[k]
   ·have hl1:low s[k]=false:=hl;unfold low Ff at hl;by_cases h1:(s[k].toNat:Int) < 97
    ·clear hl
     go_wp2
     go_ret
     exact ⟨Co (by rw [hz.out,hl1];simp),rfl⟩
    ·have h2:(122:Int) < s[k].toNat:=by simp at hl;omega
     clear hl
     go_wp2
     go_ret
     exact ⟨Co (by rw [hz.out,hl1];simp),rfl⟩
   ·have hl1:low s[k]=true:=hl;unfold low Ff at hl;simp only [aw,aF] at hl;have h1:¬(s[k].toNat:Int) < 97:=EV
    have h2:¬(122:Int) < s[k].toNat:=EV
    clear hl;replace hl1:=Lib.hid hl1
    go_wp2
    go_round
    case rel=>exact ⟨k+1,EV,HM,by refine Lib.hid ?_;rw [hz.out,hl1.out];rfl⟩
    case measure=>simp [intOf];omega
  ·go_wp2
   go_ret
   exact ⟨Co (by rw [hz.out,Aay s k hlt];simp [T7]),rfl⟩
end Go.Proofs.YtkoldibamfjghaaGreatDoor
namespace Go.Proofs.YtkoldibamfjghaaGreatDoor
open Go.RowKit
structure Aw where
 Am:Int
 size:Int
 Ak:ai
def Cf:Bw Aw where
 sz:=3
 Kz w cs x F:=∃v1,cs=[aa x.Am,aa x.size,v1]/\Sl A8 w v1 x.Ak F
 len h:=GQ
 lt h:=GP
 frame h hF:=FP
def Qz:Bw Aw where
 sz:=3
 Kz w cs x F:=∃v1,cs=[aa x.Am,aa x.size,v1]/\Ow A8 9 w v1 x.Ak F
 len h:=GQ
 lt h:=KJ
 frame h hF:=FP
theorem Ab4 (fid:FuncId) (hbd:Y0 prog fid) (caps:Array Value) (v:Value) (xs:ai) (F:aq) (p:au->Bool) (w:World) (h:Sl A8 w v xs F)
  (hp:∀(k:Nat) (hk:k < xs.length) (wr:World) (u:Value) (G:aq),Below w.heap.size w wr->IsC A8 wr u xs[k] G->Calls prog fid (#[u]++caps) wr fun e w'=>e=.returned (.bool (p xs[k]))/\Below wr.heap.size wr w') :
  Calls prog 325 #[v,.func (.func fid) #[] caps] w (RB (aa (Rl p xs)) w):=by
 obtain ⟨a,cap,rfl⟩:=h.slice;have hl:=h.len;unfold maxLen at hl
 go_enter func325,ntmps325
 go_wp2
 go_loopw [5,8] (fun _ i wr=>∃k:Nat,k<=xs.length/\i=aa k/\Hid (∀j,j < k->∀hj:j < xs.length,p xs[j]=false)/\Below w.heap.size w wr) (fun _ i _=>xs.length - (intOf i).toNat)
 case atStart=>exact ⟨0,aE _,rfl,fun j hj=>by omega,Below.refl _ _⟩
 case round =>
  obtain ⟨k,hk,rfl,hz,hB⟩:=hrel;by_cases hlt:k < xs.length
  ·have hz0:=hz;clear hz;obtain ⟨b,off,_,F1,rfl,hx, -,ja⟩:=(h.below EW hB).at k hlt;obtain ⟨rfl, -, -⟩:=id hx;have a0:=ja 0 EW;simp only [show A8.sz=1 from rfl,cS,bN,bH,bF] at a0;clear ja;have hr:=hp k hlt wr _ F1 hB ⟨_,rfl,hx⟩;have hp:=Lib.hid hp;cases hpk:p xs[k]
   all_goals
    rw [hpk] at hr;have hpk:=Lib.hid hpk;have hr:=Lib.hid hr;go_wp2_with fail;refine hbd.upon hr.out ?_;rintro e w1 ⟨rfl,hb1⟩;refine ⟨_,rfl,?_⟩;have hB:=tr hB hb1 (aK _);clear hb1;go_wp2_with fail
   ·exact AV
   ·go_ret
    exact EJ
  ·go_wp2
   go_ret
   exact DG
theorem Y1 (fid:FuncId) (hbd:Y0 prog fid) (caps:Array Value) (v:Value) (xs:ai) (F:aq) (p:au->Bool) (w:World) (h:Sl A8 w v xs F)
  (hp:∀(k:Nat) (hk:k < xs.length) (wr:World) (u:Value) (G:aq),Below w.heap.size w wr->IsC A8 wr u xs[k] G->Calls prog fid (#[u]++caps) wr fun e w'=>e=.returned (.bool (p xs[k]))/\Below wr.heap.size wr w') :
  Calls prog 281 #[v,.func (.func fid) #[] caps] w (RB (.bool (xs.any p)) w):=by
 have hp:=Lib.hid hp
 go_enter func281,ntmps281
 go_wp2_with fail;refine (Ab4 fid hbd caps v xs F p _ h hp.out).mono ?_;rintro e w1 ⟨rfl,hb1⟩;go_wp2_with fail
 go_ret
 exact ⟨Co (S8 p xs),hb1⟩
theorem Aal (v:Value) (xs:ai) (F:aq) (w:World) (h:Sl A8 w v xs F) (hm:xs.length<=4294967296) :
  Calls prog 252 #[v] w (W8 A8 9 xs w):=by
 obtain ⟨ao,c,news,Fy,rfl,hl,hfy,hFy,hsrc⟩:=h.src;have hFl:=hfy.lt;have he:=fun w (a:aj) (n c:Nat)=>Lib.run_eql_slice_nil (P:=prog) w 27 _ a n c 0 0 underlying27
 go_enter func252,ntmps252
 rcases hsrc with ⟨rfl,rfl,rfl⟩|⟨ad,rfl,hn⟩
 ·go_wp2
  go_ret
  exact CC
 ·go_wp2_with (at_builtin;refine O7 Dz EW FH _ _ _ FH 9 (af ⟨#[]⟩) 16 underlying27 Amv rfl (ab (some ⟨w.heap.size,0,none⟩) 0 0) [] [w.heap.size] FH (Ow.empty (If.made _ _ _)) (Hd.one _) (some ad) xs c FH news Fy (hfy.frame fun b hb=>Below.heap_alloc _ _ _ (hFl b hb)) (.inr ⟨ad,rfl,fun j u hu=>kc ((Below.refl _ _).alloc (aK _) _) (hn j u hu)⟩) (fun b hb e=>by have:=hFl b hb;simp [Value.ownBlock] at e;omega) GU GR ?_);intro v2 w2 F2 hA;go_wp2_with fail
  go_ret
  have hB:Below w.heap.size w w2:=((Below.refl _ _).alloc (aK _) _).trans (hA.I5.below EX EX);have hs:∀b,v2.ownBlock=some b->w.heap.size<=b:=fun b hb=>by rcases hA.Aqm with e|e <;> rw [e] at hb <;> simp [Value.ownBlock] at hb <;> omega
  refine ⟨v2,F2,rfl,II,hA.ow.scal Hv▸?_,fun b hb=>?_,hB⟩
  ·cases v2.ownBlock <;> simp
  ·rw [hA.ow.scal Hv] at hb;exact hs b IU
def D6 (x:Aw):Bool:=B8 x.Am && Ff 1 x.size 6 && decide ((x.Ak.length:Int)<=x.size) && x.Ak.all Pk
theorem Dq {x:Aw}:D6 x=true↔(0<=x.Am/\x.Am<=65535)/\(1<=x.size/\x.size<=6)/\(x.Ak.length:Int)<=x.size/\x.Ak.all Pk=true:=by
 unfold D6;simp only [aw,A4,Ff,aF,and_assoc]
theorem Akj (s:au) (w:World) (hs:s.size<=maxLen) :
  Calls prog 282 #[af s] w (RB (.bool (!Pk s)) w):=by
 go_enter func282,ntmps282
 go_wp2_with fail;refine (Aa7 s _ hs).mono ?_;rintro e w1 ⟨rfl,hb⟩;go_wp2_with fail
 go_ret
 exact ⟨rfl,hb⟩
theorem Ao6 (v:Value) (xs:ai) (F:aq) (w:World) (h:Sl A8 w v xs F) :
  Calls prog 220 #[v] w (RB (.bool (xs.all Pk)) w):=by
 have hq:(!xs.any fun s=>!Pk s)=xs.all Pk:=by rw [eh];simp
 replace hq:=Lib.hid hq
 go_enter func220,ntmps220
 go_wp2_with fail;refine (Y1 _ (.mk' func282 rfl rfl) _ _ xs F (fun s=>!Pk s) _ h ?_).mono ?_
 ·rintro k hk wr u G hb ⟨_,rfl,hu⟩;obtain ⟨hu,hsz, -⟩:=hu;cases hu;exact Akj _ _ hsz
 rintro e w1 ⟨rfl,hb⟩;go_wp2_with fail
 go_ret
 exact ⟨Co hq.out,hb⟩
theorem Rr (v:Value) (x:Aw) (F:aq) (w:World) (h:Ru Cf w v x F) :
  Calls prog 145 #[v] w (RB (.bool (D6 x)) w):=by
 obtain ⟨_,rfl,v1,rfl,h1⟩:=h;obtain ⟨a,c,rfl⟩:=h1.slice;have hl:=h1.len;unfold maxLen at hl;have hB0:∀A:Obj,Below w.heap.size w (w.alloc A):=fun A=>(Below.refl _ _).alloc (aK _) _
 go_enter func145,ntmps145
 go_wp2_with fail;refine (Ja _ _).mono ?_;rintro e w' ⟨rfl,rfl⟩;cases g1:B8 x.Am
 ·go_wp2_with fail
  go_ret
  exact ⟨Co (by simp [D6,g1]),hB0 _⟩
 go_wp2_with fail;refine (Hy _ _ _ _).mono ?_;rintro e w' ⟨rfl,rfl⟩;cases g2:Ff 1 x.size 6
 ·go_wp2_with fail
  go_ret
  exact ⟨Co (by simp [D6,g2]),hB0 _⟩
 by_cases g3:(x.Ak.length:Int)<=x.size
 ·go_wp2_with fail;refine (Ao6 _ x.Ak F _ (h1.below EW (hB0 _))).mono ?_;rintro e w1 ⟨rfl,hb⟩;go_wp2_with fail
  go_ret
  exact ⟨Co (by simp [D6,g1,g2,g3]),tr (hB0 _) hb (aK _)⟩
 ·go_wp2_with fail
  go_ret
  exact ⟨Co JY,hB0 _⟩
theorem Zp (v:Value) (x:Aw) (F:aq) (w:World) (h:Ru Cf w v x F) (hm:x.Ak.length<=4294967296) :
  Calls prog 180 #[v] w (Awa Qz x w):=by
 obtain ⟨_,rfl,v1,rfl,h1⟩:=h;obtain ⟨a,c,rfl⟩:=h1.slice;have hB0:∀A B:Obj,Below w.heap.size w ((w.alloc A).alloc B):=fun A B=>((Below.refl _ _).alloc (aK _) _).alloc EX _
 go_enter func180,ntmps180
 go_wp2_with fail;refine (Aal _ x.Ak F _ (h1.below EW (hB0 _ _)) hm).mono ?_;rintro e w1 ⟨v2,F2,rfl,o,n,g,hb⟩;obtain ⟨a2,c2,rfl⟩:=o.slice;have r0:=If.below (g:=w.heap.size) (t:=29) (cs:=[aa x.Am,aa x.size,ab a x.Ak.length c]) GI hb;have r1:=If.below (g:=w.heap.size+1) (t:=29) (cs:=[aa 0,aa 0,ab none 0 0]) GI hb;have hB:=tr (hB0 _ _) hb (aK _);have c0:=r0.cells;have f0:=r0.frozens;have c1:=r1.cells;have f1:=r1.frozens;clear hb;replace o:=Lib.hid o;go_wp2_with fail
 refine bodyPost_ret (v:=.agg #[aa x.Am,aa x.size,ab a2 x.Ak.length c2]) ?_ rfl ?_
 ·simp [results,results180,go_sem,c0,c1,f1]
 ·refine ⟨_,F2,rfl,⟨_,rfl,_,rfl,?_⟩,n,fun b hb=>by have:=g b hb;simp at this;omega,?_⟩
  ·repeat refine Ow.setFar ?_ (fun hm=>by have:=g _ hm;simp at this <;> omega) _
   exact o.out
  ·repeat refine Below.setCell ?_ GL _
   exact hB
theorem Am8 (v:Value) (x:Aw) (F:aq) (w:World) (h:Ru Cf w v x F) :
  Calls prog 201 #[v] w (RB (.bool (D6 x)) w):=by
 obtain ⟨_,rfl,v1,rfl,h1⟩:=h;obtain ⟨a,c,rfl⟩:=h1.slice;have hl:=h1.len;unfold maxLen at hl;have hB0:∀A:Obj,Below w.heap.size w (w.alloc A):=fun A=>(Below.refl _ _).alloc (aK _) _
 go_enter func201,ntmps201
 go_wp2_with fail;refine (Nw _ _).mono ?_;rintro e w' ⟨rfl,rfl⟩;cases g1:B8 x.Am
 ·go_wp2_with fail
  go_ret
  exact ⟨Co (by simp [D6,g1]),hB0 _⟩
 go_wp2_with fail;refine (Kg _ _ _ _).mono ?_;rintro e w' ⟨rfl,rfl⟩;cases g2:Ff 1 x.size 6
 ·go_wp2_with fail
  go_ret
  exact ⟨Co (by simp [D6,g2]),hB0 _⟩
 by_cases g3:x.size < (x.Ak.length:Int)
 ·go_wp2_with fail
  go_ret
  exact ⟨Co JY,hB0 _⟩
 have hg:D6 x=x.Ak.all Pk:=by unfold D6;rw [g1,g2,av EV];simp
 replace hg:=Lib.hid hg;go_wp2_with fail;have r0:=If.made w 29 [aa x.Am,aa x.size,ab a x.Ak.length c];have h2:=h1.below EW (hB0 (.cells #[aa x.Am,aa x.size,ab a x.Ak.length c] 29));have hB:=hB0 (.cells #[aa x.Am,aa x.size,ab a x.Ak.length c] 29);generalize w.alloc (.cells #[aa x.Am,aa x.size,ab a x.Ak.length c] 29)=w1 at *;have c0:=r0.cells
 go_loop [3] (fun i=>∃k:Nat,k<=x.Ak.length/\i=aa k/\Hid (∀j,j < k->∀hj:j < x.Ak.length,Pk x.Ak[j]=true)) (fun i=>x.Ak.length - (intOf i).toNat)
 case atStart=>exact ⟨0,aE _,rfl,fun j hj=>by omega⟩
 case round =>
  obtain ⟨k,hk,rfl,hz⟩:=hrel;by_cases hlt:k < x.Ak.length
  ·obtain ⟨hsz,b,off,rfl,hc⟩:=h2.str.2.2 k hlt;cases hi:Pk x.Ak[k]
   ·have hi2:(decide ((x.Ak[k].size:Int)<=8) && T7 x.Ak[k].data.toList)=false:=hi;go_wp2_with fail;refine (Q7 _ _ _ hsz).mono ?_;rintro e w' ⟨rfl,rfl⟩;go_wp2_with fail
    go_ret
    refine ⟨Co ?_,hB⟩;rw [hg.out];exact (cP.2 ⟨x.Ak[k],aB _,by simp [hi]⟩).symm
   ·have hi2:(decide ((x.Ak[k].size:Int)<=8) && T7 x.Ak[k].data.toList)=true:=hi;go_wp2_with fail;refine (Q7 _ _ _ hsz).mono ?_;rintro e w' ⟨rfl,rfl⟩;go_wp2_with fail;exact ⟨⟨k+1,EV,HM,fun j hj hl=>by rcases ba (cI hj) with h|h;exact hz.out j h hl;subst h;exact hi⟩,GG⟩
  ·have hk:k=x.Ak.length:=EV
   go_wp2_with fail
   go_ret
   refine ⟨Co ?_,hB⟩;rw [hg.out];refine (aV.2 fun s hs=>?_).symm;obtain ⟨j,hj,rfl⟩:=bi hs;exact hz.out j EV hj
section
variable {P:Program} {n:Nat} {fr:Fr} {H:List Pc} {ty:TypeId}
theorem Bfr {f:Nat} {bs caps:List Operand} {us vs:am} (hb:Evs fr bs us) (hc:Evs fr caps vs):Yd P n fr H (.makeFunc (.func f) bs.toArray caps.toArray) ty (.func (.func f) us.toArray vs.toArray):=.mk fun c w d pos Cd gd hA _=>by
 simp [execOp,Instr.makeFunc,hA.evs hb,hA.evs hc]
end
section
variable {c:Cx} {fr:Fr} {H:List Pc} {k:List It} {Φ:Gl} {d:Nat} {ty:TypeId} {x:Operand}
theorem Abd {fo:Operand} {f:Nat} {bd caps:am} {aS:List Operand} {ts:Array TypeId} {vs:am} (hd:Nat.blt d c.n=true) (hf:ev fr fo=some (.func (.func f) bd.toArray caps.toArray)) (hb:Q2 c.P f=true) (ha:Evs fr aS vs) (h:Cl c fr H d f (bd++vs++caps) Φ):On c fr H (some d) (.call { callee:=.value fo,args:=aS.toArray,argTypes:=ts }) ty Φ:=⟨fun _ _ _=>Pd fun Q a w s g=>by
 have e:∀pos Cd gd,(execOp a.eval ⟨some d,.call { callee:=.value fo,args:=aS.toArray,argTypes:=ts },ty,pos,Cd,gd⟩).run c.P w=(callFunc f (bd++vs++caps).toArray).run c.P w:=by
  intro pos Cd gd;simp [execOp,resolve,Deferred.ofValue,g.ev hf,invoke,g.evs ha]
 rw [e];obtain ⟨R,hc,hk⟩:=h.h w s;refine (Ve hb).upon hc fun e w' hR=>?_;obtain ⟨v,he,hv⟩:=hk e w' hR;exact ⟨v,he,hv _ (g.put hd)⟩⟩
theorem Alj {α:Type} {E:Bw α} (sc:Aar E) {t n cp:Nat} {a:aj} {xs:List α} {F:aq} (h0:xs≠[])
  (h:∀g,a=some ⟨g,0,none⟩->F=[g]->n=xs.length->n<=cp->cp<=9223372036854775807->T c fr H Φ) (hm:.ow E t (ab a n cp) xs F∈H:=by exact Bn):T c fr H Φ:=.mk fun ac w s g'=>by
 obtain ⟨hnd,ho⟩:=s.get hm;have hF:=ho.scal sc;rcases ho with ⟨-,h2, -⟩|⟨g,cap,cs,rest,G,h1,h2,h3,h4,h5,h6,h7⟩
 ·exact absurd h2 h0
 ·cases h1;exact (h g rfl (by simpa [Value.ownBlock] using hF) rfl h3 (by unfold maxLen at h4;omega)).h ac w s g'
theorem Cw.rep0 {α:Type} {E:Bw α} {w:World} {zs:am} {z:α} (h:E.Kz w zs z []):∀n,Cw E w (List.replicate n zs).flatten (List.replicate n z) []
 | 0=>⟨rfl,rfl⟩
 | n+1=>⟨zs,(List.replicate n zs).flatten,[],[],by simp [cQ],EX,h,Cw.rep0 h n⟩
theorem Aht (z:Array Value) (n:Nat):(Builtin.zeroCells z n).toList=(List.replicate n z.toList).flatten:=by
 have:=Nx z n;exact this
theorem Art {α:Type} {E:Bw α} (sc:Aar E) {t e m b g n cp i:Nat} {zv:Value} {z0:α} [hS:SlC c.P t e m] [hE:ElT c.P e zv m b] (hz:∀w,E.Kz w zv.cells.toList z0 []) (one:∀u∈zv.cells,u.oneCell'=true) (hm:E.sz=m) {xs:List α} {F:aq} {S:List Pc}
  (hx:ev fr x=some (ab (some ⟨g,0+i * m,none⟩) (n - i) (cp - i))) (hi:i < n) (hn:n=xs.length) (hp:C2 H (.ow E e (ab (some ⟨g,0,none⟩) n cp) xs F) S) (h:T c fr (.ow E e (ab (some ⟨g,0,none⟩) n cp) (xs.take i++List.replicate (n - i) z0) F::S) Φ) :
  On c fr H none (.call { callee:=.builtin .clear,args:=#[x],argTypes:=#[t] }) ty Φ:=⟨fun _ _ _=>Pd fun Q a w s ag=>by
 subst hm;have s1:=s.pick hp;obtain ⟨hnd,ho⟩:=s1.on (.ow E e (ab (some ⟨g,0,none⟩) n cp) xs F) EX;have hF:=ho.scal sc;rcases ho with ⟨h1, -, -⟩|⟨g2,cap,cs,rest,G,h1,h2,h3,h4,h5,h6,h7⟩
 ·cases h1
 cases h1;have hG:G=[]:=IH
 subst hG h7;have hl:=h6.len;obtain ⟨f1,f2⟩:=h6.cutL i EV;have hcs:=bo (i * E.sz) cs;have hd1:(cs.take (i * E.sz)).length=i * E.sz:=by have:=f1.len;rw [aO (l:=xs),cW EV] at this;exact this
 have hd2:(cs.drop (i * E.sz)).length=(xs.length - i) * E.sz:=by have:=f2.len;rwa [aX (l:=xs)] at this
 have hr:=fun ty=>Tk (P:=c.P) w t e ty zv hS.u (Wf hE.i) one g (0+i * E.sz) (xs.length - i) (cp - i) EV
  (fun j hj=>by rw [hE.s] at hj;rw [h2.cell,aD (by rw [aA,<-hcs,aA,hd1,hd2];omega)];rfl) (fun j _=>h2.frozen _)
 have e1:∀pos Cd gd,(execOp a.eval ⟨none,.call { callee:=.builtin .clear,args:=#[x],argTypes:=#[t] },ty,pos,Cd,gd⟩).run c.P w=.ok (.value (.tuple #[])) (w.setCells g (0+i * E.sz) (Builtin.zeroCells zv.cells (xs.length - i)).toList):=by
  intro pos Cd gd;simp only [execOp,resolve,invoke,builtin,Sem.run_bind,Sem.run_pure,Result.andThen_ok,cT,cH,dg,ag.ev hx,hr]
 rw [e1];have hzl:(Builtin.zeroCells zv.cells (xs.length - i)).toList.length=(xs.length - i) * E.sz:=by rw [Nd,hE.s]
 have R0:If w g e (cs.take (i * E.sz)++cs.drop (i * E.sz)++rest):=by rw [hcs];exact h2
 have R1:=If.put (Builtin.zeroCells zv.cells (xs.length - i)).toList _ R0 (p:=0+i * E.sz) EV (by rw [hzl,hd2]);have hk:=Ly (g:=g) (Builtin.zeroCells zv.cells (xs.length - i)).toList w (0+i * E.sz);rw [Mq w g] at R1 hk;have hW:(Pc.ow E e (ab (some ⟨g,0,none⟩) xs.length cp) (xs.take i++List.replicate (xs.length - i) z0) [g]).P (w.setCells g (0+i * E.sz) (Builtin.zeroCells zv.cells (xs.length - i)).toList):=by
  have hll:(xs.take i++List.replicate (xs.length - i) z0).length=xs.length:=by rw [aA,aO,bw];omega
  have hfl:Cw E (w.setCells g (0+i * E.sz) (Builtin.zeroCells zv.cells (xs.length - i)).toList) (cs.take (i * E.sz)++(Builtin.zeroCells zv.cells (xs.length - i)).toList) (xs.take i++List.replicate (xs.length - i) z0) []:=by
   rw [Aht];exact (f1.all _).append (Cw.rep0 (hz _) _)
  refine ⟨EX,.inr ⟨g,cp,cs.take (i * E.sz)++(Builtin.zeroCells zv.cells (xs.length - i)).toList,rest,[],by rw [hll],R1,by rw [hll];exact h3,h4,?_,hfl,rfl⟩⟩;rw [aA,hzl,hd1,<-cD];rw [<-h5,hl]
  congr 2
  omega
 exact h.h _ _ (St.turn (M:=[.ow E e (ab (some ⟨g,0,none⟩) xs.length cp) xs [g]]) (N:=[.ow E e (ab (some ⟨g,0,none⟩) xs.length cp) (xs.take i++List.replicate (xs.length - i) z0) [g]]) s1 GZ (by intro q hq;rw [aL] at hq;subst hq;exact hW) ⟨EX,trivial⟩ (by
   intro q hq b hb;rw [aL] at hq;subst hq;exact .inr (.inl ⟨_,aL.2 rfl,rfl,hb⟩))) ag⟩
end
theorem Jo {p:Prop} (h:p:=by first|omega|(simp only [aA,aO,aX,aU,aY,bQ,bw];omega)):p:=h
def EC (m:Nat):Bw (am) where
 sz:=m
 Kz _ cs x F:=cs=x/\(x.length=m/\∀u∈x,u.oneCell'=true)/\F=[]
 len h:=by obtain ⟨rfl,⟨h,_⟩,_⟩:=h;exact h
 lt h:=by obtain ⟨_,_,rfl⟩:=h;simp
 frame h _:=h
theorem Ib (m:Nat):Aar (EC m):=fun h=>h.2.2
theorem Pv (m:Nat):One (EC m):=fun h=>by obtain ⟨rfl,⟨_,h⟩,_⟩:=h;exact h
theorem Akp {m:Nat} {w:World}:∀{ys:List (am)} {cs:am} {F:aq},Cw (EC m) w cs ys F->cs=ys.flatten/\F=[]/\∀y∈ys,y.length=m
 | [],_,_,h=>⟨h.1,h.2,EX⟩
 | y::r,_,_,h=>by
  obtain ⟨c1,c2,F1,F2,rfl,rfl,⟨rfl,⟨h1,_⟩,rfl⟩,h2⟩:=h;obtain ⟨rfl,rfl,h4⟩:=Akp h2;refine ⟨EX,rfl,fun z hz=>?_⟩;rcases aG.1 hz with rfl|hz
  ·exact h1
  ·exact h4 z hz
theorem Akq {α:Type} {E:Bw α} {w w':World} (one:One E):∀{xs:List α} {cs:am} {G:aq},Cw E w cs xs G->∃ys:List (am),ys.length=xs.length/\cs=ys.flatten/\(∀y∈ys,y.length=E.sz)/\Cw (EC E.sz) w' cs ys []
 | [],_,_,h=>⟨[],rfl,h.1,EX,h.1,rfl⟩
 | x::r,_,_,h=>by
  obtain ⟨c1,c2,F1,F2,rfl,rfl,h1,h2⟩:=h;obtain ⟨ys,e1,rfl,e2,h3⟩:=Akq (w':=w') one h2;refine ⟨c1::ys,by simp [e1],EX,fun z hz=>?_,c1,ys.flatten,[],[],rfl,rfl,⟨rfl,⟨E.len h1,one h1⟩,rfl⟩,h3⟩;rcases aG.1 hz with rfl|hz
  ·exact E.len h1
  ·exact e2 z hz
theorem Amp {m:Nat}:∀{ys:List (am)},(∀y∈ys,y.length=m)->ys.flatten.length=ys.length * m
 | [],_=>by simp
 | y::r,h=>by
  have:=Amp (m:=m) (ys:=r) fun z hz=>h z IS;rw [ci,aA,this,h y EX,aU,cD];omega
theorem Cw.cut {α:Type} {E:Bw α} {w:World} {c1 c2:am} {x1 x2:List α} {G:aq} (h:Cw E w (c1++c2) (x1++x2) G) (hl:c1.length=x1.length * E.sz):∃G1 G2,G=G1++G2/\Cw E w c1 x1 G1/\Cw E w c2 x2 G2:=by
 obtain ⟨d1,d2,G1,G2,he,hG,h1,h2⟩:=h.split;have:d1.length=c1.length:=by rw [h1.len,hl]
 obtain ⟨rfl,rfl⟩:=eK he this.symm;exact ⟨G1,G2,hG,h1,h2⟩
theorem Azb:∀{N:List Pc},(fp N).Nodup->Si N
 | [],_=>trivial
 | p::N,h=>⟨fun q hq _ b hb hqb=>Aul h hb (Ro.2 ⟨q,hq,hqb⟩),Azb (bK.1 h).2.1⟩
theorem St.swap {G D w0 H M N R w} (s:St G D w0 H w) (hM:Km H M R) (hm:∀p∈M,p.mu=true) (hN:Od N w) (hnd:(fp M).Nodup->(fp N).Nodup) (hF:∀b∈fp N,b∈fp M):St G D w0 (N++R) w :=
 have s1:St G D w0 (M++R) w:=by simpa using hM.st (X:=[]) HP
 have sM:Si M:=by
  have:∀(M:List Pc),Si (M++R)->Si M:=by
   intro M
   induction M with
   | nil=>intro _;trivial
   | cons p M ih=>intro h;exact ⟨fun q hq=>h.1 q FX,ih h.2⟩
  exact this M s1.sep
 have hn:(fp M).Nodup:=Amr IP (fun p hp=>s1.on p HD) sM
 St.turn (M:=M) (N:=N) s1 (Ei.refl _ w) hN (Azb (hnd hn)) fun p hp b hb=>by
  obtain ⟨q,hq,hqb⟩:=Ro.1 (hF b (Ro.2 ⟨p,hp,hb⟩));exact .inr (.inl ⟨q,hq,hm q hq,hqb⟩)
section
variable {c:Cx} {fr:Fr} {H:List Pc} {Φ:Gl}
theorem Adb {α:Type} {E:Bw α} (one:One E) {t:TypeId} {v:Value} {xs:List α} {F:aq} {S:List Pc} {m:Nat} (hm:E.sz=m)
  (h:∀(ys:List (am)) F0 G,ys.length=xs.length->(∀y∈ys,y.length=m)->T c fr (.ow (EC m) t v ys F0::.flat E ys.flatten xs G::S) Φ) (hp:C2 H (.ow E t v xs F) S:=by exact Dr):T c fr H Φ:=.mk fun a w s g=>by
 subst hm;have s1:=s.pick hp;obtain ⟨hnd,ho⟩:=s1.on (.ow E t v xs F) EX;rcases ho with ⟨rfl,rfl,rfl⟩|⟨b,cap,cs,rest,G,rfl,h2,h3,h4,h5,h6,rfl⟩
 ·refine (h [] [] [] rfl EX).h a w (s1.swap (M:=[_]) (N:=[.ow (EC E.sz) t (ab none 0 0) [] [],.flat E [] [] []]) (.cons .here .nil) HS ?_ (fun _=>by simp [fp,Pc.F]) GK) g;intro p hp;simp only [aG,aT,bl] at hp;rcases hp with rfl|rfl
  ·exact ⟨EX,.inl ⟨rfl,rfl,rfl⟩⟩
  ·exact ⟨EX,rfl,rfl⟩
 ·obtain ⟨ys,e1,rfl,e2,h7⟩:=Akq (w':=w) one h6;refine (h ys [b] G e1 e2).h a w (s1.swap (M:=[_]) (N:=[.ow (EC E.sz) t (ab (some ⟨b,0,none⟩) xs.length cap) ys [b],.flat E ys.flatten xs G]) (.cons .here .nil) HS ?_ (fun hn=>by simpa [fp,Pc.F] using hn) GK) g;intro p hp;simp only [aG,aT,bl] at hp;rcases hp with rfl|rfl
  ·exact ⟨EX,.inr ⟨b,cap,ys.flatten,rest,[],by rw [e1],h2,by rw [e1];exact h3,h4,h5,h7,rfl⟩⟩
  ·exact ⟨(dl.1 hnd).2,h6⟩
theorem Azm {α:Type} {E:Bw α} {t:TypeId} {a:aj} {n cp:Nat} {ys:List (am)} {cs:am} {xs:List α} {F G:aq} {S S2:List Pc} {m:Nat}
  (h:T c fr (.ow E t (ab a n cp) xs (F++G)::S2) Φ) (hm:E.sz=m) (hc:cs=ys.flatten) (hl:ys.length=xs.length) (hp:C2 H (.ow (EC m) t (ab a n cp) ys F) S:=by exact Dr) (hp2:C2 S (.flat E cs xs G) S2:=by exact Dr):T c fr H Φ:=.mk fun ac w s g=>by
 subst hm hc;have a1:=s.on _ hp.mem;have a2:=s.on _ (hp.sub _ hp2.mem);obtain ⟨nd1,o1⟩:=a1;obtain ⟨nd2,f2⟩:=a2;refine h.h ac w (s.swap (M:=[.ow (EC E.sz) t (ab a n cp) ys F,.flat E ys.flatten xs G]) (N:=[.ow E t (ab a n cp) xs (F++G)]) (.cons hp (.cons hp2 .nil)) (by intro p hp;simp at hp;rcases hp with rfl|rfl <;> rfl) ?_ (fun hn=>by simpa [fp,Pc.F] using hn) GK) g;have hnd:(F++G).Nodup:=by
  have s2:=s.pick hp;refine bK.2 ⟨nd1,nd2,fun b hb b' hb' e=>?_⟩;subst e;exact s2.sep.1 (.flat E ys.flatten xs G) hp2.mem rfl b hb hb'
 intro p hp;simp only [aG,aT,bl] at hp;subst hp;refine ⟨hnd,?_⟩;rcases o1 with ⟨h1,rfl,rfl⟩|⟨b,cap,cs,rest,G',h1,h2,h3,h4,h5,h6,rfl⟩
 ·cases h1;have:xs=[]:=bE hl.symm;subst this;exact .inl ⟨rfl,rfl,by simpa using f2.2⟩
 ·cases h1;obtain ⟨rfl,rfl, -⟩:=Akp h6;exact .inr ⟨b,cp,ys.flatten,rest,G,by rw [hl],h2,by rw [<-hl];exact h3,h4,h5,f2,rfl⟩
theorem Azo {α:Type} {E:Bw α} {ys:List (am)} {xs:List α} {G:aq} {S:List Pc} (i:Nat) (hi:i < xs.length) (hl:ys.length=xs.length) (hm:∀y∈ys,y.length=E.sz)
  (h:∀G1 Gi G2,T c fr (.flat E (ys.take i).flatten (xs.take i) G1::.own E (.agg (ys[i]'EV).toArray) xs[i] Gi::.flat E (ys.drop (i+1)).flatten (xs.drop (i+1)) G2::S) Φ) (hp:C2 H (.flat E ys.flatten xs G) S:=by exact Dr):T c fr H Φ:=.mk fun ac w s g=>by
 have s1:=s.pick hp;obtain ⟨hnd,hf⟩:=s1.on (.flat E ys.flatten xs G) EX;have e1:ys.flatten=(ys.take i).flatten++(ys[i]'EV++(ys.drop (i+1)).flatten):=by
  rw [<-ci,<-bP,<-cY,bo]
 have e2:xs=xs.take i++([xs[i]]++xs.drop (i+1)):=EX
 have hf2:Cw E w ((ys.take i).flatten++(ys[i]'EV++(ys.drop (i+1)).flatten)) (xs.take i++([xs[i]]++xs.drop (i+1))) G:=by rw [<-e1,<-e2];exact hf
 obtain ⟨G1,G',rfl,f1,f2⟩:=hf2.cut (by rw [Amp (m:=E.sz) fun y hy=>hm y (bR hy)];simp [hl]);obtain ⟨Gi,G2,rfl,⟨d1,d2,F1,F2,h1,h2,h3,h4⟩,f3⟩:=f2.cut (by rw [hm _ (aB _)];simp);obtain ⟨rfl,rfl⟩:=h4;simp only [bg] at h1 h2;subst h1 h2;refine (h G1 Gi G2).h ac w (s1.swap (M:=[_]) (N:=[.flat E (ys.take i).flatten (xs.take i) G1,.own E (.agg (ys[i]'EV).toArray) xs[i] Gi,.flat E (ys.drop (i+1)).flatten (xs.drop (i+1)) G2]) (.cons .here .nil) HS ?_ (fun hn=>by simpa [fp,Pc.F] using hn) GK) g
 have hn1:=bK.1 hnd;have hn2:=bK.1 hn1.2.1;intro p hp;simp only [aG,aT,bl] at hp;rcases hp with rfl|rfl|rfl
 ·exact ⟨hn1.1,f1⟩
 ·exact ⟨hn2.1,_,rfl,h3⟩
 ·exact ⟨hn2.2.1,f3⟩
theorem Ar6 {α:Type} {E:Bw α} {c1 c2:am} {x1 x2:List α} {G1 G2:aq} {S S2:List Pc} (h:T c fr (.flat E (c1++c2) (x1++x2) (G1++G2)::S2) Φ) (hp:C2 H (.flat E c1 x1 G1) S:=by exact Dr) (hp2:C2 S (.flat E c2 x2 G2) S2:=by exact Dr):T c fr H Φ:=.mk fun ac w s g=>by
 obtain ⟨nd1,f1⟩:=s.on _ hp.mem;obtain ⟨nd2,f2⟩:=s.on _ (hp.sub _ hp2.mem);refine h.h ac w (s.swap (M:=[.flat E c1 x1 G1,.flat E c2 x2 G2]) (N:=[.flat E (c1++c2) (x1++x2) (G1++G2)]) (.cons hp (.cons hp2 .nil)) (by intro p hp;simp at hp;rcases hp with rfl|rfl <;> rfl) ?_ (fun hn=>by simpa [fp,Pc.F] using hn) GK) g;intro p hq;simp only [aG,aT,bl] at hq;subst hq;refine ⟨bK.2 ⟨nd1,nd2,fun b hb b' hb' e=>?_⟩,f1.append f2⟩;subst e;exact (s.pick hp).sep.1 (.flat E c2 x2 G2) hp2.mem rfl b hb hb'
def Bdh {α:Type} (E:Bw α) (t:TypeId) (g:Nat) (v:Value) (xs:List α) (i:Nat) (A B c1 c2:am):Prop :=
 ∀w cs y G1 Gi G2,If w g t (A++cs++B)->Cw E w c1 (xs.take i) G1->E.Kz w cs y Gi->Cw E w c2 (xs.drop (i+1)) G2->Ow E t w v (xs.set i y) (g::(G1++Gi++G2))
theorem Ace {α:Type} {E:Bw α} {t:TypeId} {a:aj} {n cp m:Nat} {xs:List α} {F:aq} {S:List Pc} (i:Nat)
  (h:∀(_:i < xs.length) g A cs B c1 c2 G1 Gi G2,a=some ⟨g,0,none⟩->n=xs.length->n<=cp->Bdh E t g (ab (some ⟨g,0,none⟩) n cp) xs i A B c1 c2->T c fr (.row g t (0+i * m) A cs B::.own E (.agg cs.toArray) xs[i] Gi::.flat E c1 (xs.take i) G1::.flat E c2 (xs.drop (i+1)) G2::S) Φ)
  (hm:E.sz=m) (hi:i < xs.length) (hp:C2 H (.ow E t (ab a n cp) xs F) S:=by exact Dr):T c fr H Φ:=.mk fun ac w s ag=>by
 subst hm;have s1:=s.pick hp;obtain ⟨hnd,ho⟩:=s1.on (.ow E t (ab a n cp) xs F) EX;rcases ho with ⟨-,rfl, -⟩|⟨g,cap,cs0,rest,G,h1,h2,h3,h4,h5,h6,rfl⟩
 ·simp at hi
 cases h1;obtain ⟨A,cs,B,G1,Gi,G2,rfl,rfl,hA,hc,f1,f2,f3⟩:=h6.focus i hi
 refine (h hi g A cs (B++rest) A B G1 Gi G2 rfl rfl h3 ?_).h ac w (s1.swap (M:=[_]) (N:=[.row g t (0+i * E.sz) A cs (B++rest),.own E (.agg cs.toArray) xs[i] Gi,.flat E A (xs.take i) G1,.flat E B (xs.drop (i+1)) G2]) (.cons .here .nil) HS ?_ (fun hn=>?_) (fun b hb=>?_)) ag
 ·intro w' cs' y G1' Gi' G2' hr k1 k2 k3;have:=Cw.build hi k1 k2 k3;have hl:=this.len;exact .inr ⟨g,cp,A++cs'++B,rest,G1'++Gi'++G2',EX,GH,HT,h4,by
   have e1:=E.len k2;simp only [aA] at h5 ⊢;omega,this,rfl⟩
 ·have hn1:=bK.1 (dl.1 hnd).2;have hn2:=bK.1 hn1.1;intro p hp;simp only [aG,aT,bl] at hp;rcases hp with rfl|rfl|rfl|rfl
  ·exact ⟨EV,HG⟩
  ·exact ⟨hn2.2.1,_,rfl,f2⟩
  ·exact ⟨hn2.1,f1⟩
  ·exact ⟨hn1.2.1,f3⟩
 ·have:(g::(G1++Gi++G2)).Perm ([g]++(Gi++(G1++(G2++[])))):=by
   simp only [dG,bg,aM];refine List.Perm.cons _ ?_;rw [<-aM,<-aM];exact (fW).append_right _
  exact this.nodup_iff.1 (by simpa [fp,Pc.F] using hn)
 ·simp only [fp,Pc.F,bg,aJ,aG,aT,bl] at hb ⊢
  grind
theorem Wa {α:Type} {E:Bw α} {t:TypeId} {g o i:Nat} {u v:Value} {xs:List α} {A cs B c1 c2:am} {x1 x2:List α} {G1 Gi G2:aq} {S1 S2 S3 S4:List Pc} (y:α) (hh:Bdh E t g u xs i A B c1 c2) (hv:v=.agg cs.toArray) (h:∀F',T c fr (.ow E t u (xs.set i y) F'::S4) Φ) (e1:x1=xs.take i:=by rfl) (e2:x2=xs.drop (i+1):=by rfl)
  (hp1:C2 H (.row g t o A cs B) S1:=by exact Dr) (hp2:C2 S1 (.own E v y Gi) S2:=by exact Dr) (hp3:C2 S2 (.flat E c1 x1 G1) S3:=by exact Dr) (hp4:C2 S3 (.flat E c2 x2 G2) S4:=by exact Dr):T c fr H Φ:=.mk fun ac w s ag=>by
 subst hv e1 e2;have hP:Km H [.row g t o A cs B,.own E (.agg cs.toArray) y Gi,.flat E c1 (xs.take i) G1,.flat E c2 (xs.drop (i+1)) G2] S4:=.cons hp1 (.cons hp2 (.cons hp3 (.cons hp4 .nil)));have s1:St c.G c.D c.w0 ([.row g t o A cs B,.own E (.agg cs.toArray) y Gi,.flat E c1 (xs.take i) G1,.flat E c2 (xs.drop (i+1)) G2]++S4) w:=by simpa using hP.st (X:=[]) HP
 obtain ⟨-,r⟩:=s1.on (.row g t o A cs B) EX;obtain ⟨-,cs',e,hr⟩:=s1.on (.own E (.agg cs.toArray) y Gi) EX;obtain rfl:cs=cs':=JT
 have f1:=(s1.on (.flat E c1 (xs.take i) G1) EX).2;have f3:=(s1.on (.flat E c2 (xs.drop (i+1)) G2) EX).2;have hO:=hh w cs y G1 Gi G2 r f1 hr f3;have hpm:(g::(G1++Gi++G2)).Perm ([g]++(Gi++(G1++(G2++[])))):=by
  simp only [dG,bg,aM];refine List.Perm.cons _ ?_;rw [<-aM,<-aM];exact (fW).append_right _
 have hmM:∀p∈[Pc.row g t o A cs B,.own E (.agg cs.toArray) y Gi,.flat E c1 (xs.take i) G1,.flat E c2 (xs.drop (i+1)) G2],p.mu=true:=by intro p hp;simp only [aG,aT,bl] at hp;rcases hp with rfl|rfl|rfl|rfl <;> rfl
 have hndM:(fp [Pc.row g t o A cs B,.own E (.agg cs.toArray) y Gi,.flat E c1 (xs.take i) G1,.flat E c2 (xs.drop (i+1)) G2]).Nodup:=Amr (by simpa using hmM) (fun p hp=>s1.on p (cA _ hp)) (by
  have sp:=s1.sep;exact ⟨fun q hq=>sp.1 q (cA _ hq),fun q hq=>sp.2.1 q (cA _ hq),fun q hq=>sp.2.2.1 q (cA _ hq),fun q hq=>sp.2.2.2.1 q (cA _ hq),trivial⟩)
 have hnd:(g::(G1++Gi++G2)).Nodup:=hpm.nodup_iff.2 (by simpa [fp,Pc.F] using hndM);refine (h (g::(G1++Gi++G2))).h ac w (s.swap hP hmM (N:=[.ow E t u (xs.set i y) (g::(G1++Gi++G2))]) (by intro p hp;rw [aL] at hp;subst hp;exact ⟨hnd,hO⟩) (fun _=>by simpa [fp,Pc.F] using hnd) (fun b hb=>?_)) ag;simp only [fp,Pc.F,bg,aJ,aG,aT,bl] at hb ⊢
 grind
theorem Ab7 {α:Type} {E:Bw α} {t e m b:Nat} {z:Value} [hS:SlC c.P t e m] [hE:ElT c.P e z m b] {xs:List α} {F Fy:aq} {g tt:Nat} {cs:am} {u:Value} {R R2 S:List Pc} {d:Nat} {ty:TypeId} {v:Value} {x y:Operand} (one:One E) (ey:α) (hu:u=.agg cs.toArray)
  (h:∀a' c' F',T c ((d,.slice a' (xs++[ey]).length c')::fr) (.ow E e (.slice a' (xs++[ey]).length c') (xs++[ey]) F'::S) Φ)
  (hx:ev fr x=some v:=by rfl) (hy:ev fr y=some (ab (some ⟨g,0,none⟩) 1 1):=by rfl) (hp:C2 H (.ow E e v xs F) R:=by exact Dr) (hp2:C2 R (.row g tt 0 [] cs []) R2:=by exact Dr) (hp3:C2 R2 (.own E u ey Fy) S:=by exact Dr) (hz:0 < E.sz:=by decide) (hm:E.sz=m:=by rfl)
  (h63:xs.length+1<=9223372036854775807:=by omega) (hby:(xs.length+1) * b<=140737488355328:=by omega) (hd:Nat.blt d c.n=true:=by rfl) :
  On c fr H (some d) (.call { callee:=.builtin .append,args:=#[x,y],argTypes:=#[t,t] }) ty Φ:=⟨fun _ _ _=>by
 subst hu;refine ap (ys:=[ey]) (Fy:=Fy) (S:=S) one hz hm hp hx hy rfl (fun w s=>?_) (fun w v' F' s hF w' hk hv=>?_) (by unfold maxLen;exact h63) hby h hd
 ·have hro:=s.on (.row g tt 0 [] cs []) (by simp [hp2.mem]);have how:=s.on (.own E (.agg cs.toArray) ey Fy) (by simp [hp2.sub _ hp3.mem]);obtain ⟨hnd,cs',e1,hrep⟩:=how;obtain rfl:cs=cs':=by simpa using e1
  refine ⟨cs,Cw.one hrep,.inr ⟨_,rfl,fun j u hu=>?_⟩,fun b hb hbF=>?_,hnd⟩
  ·have hr:=hro.2;have:=hr.cell j;simp only [aZ,bg] at this;rw [hu] at this;unfold Addr.add
   split
   ·rename_i e;subst e;exact this
   ·exact ET
  ·exact s.sep.1 (.own E (.agg cs.toArray) ey Fy) (hp2.sub _ hp3.mem) rfl b hbF hb
 ·have hP:Km (.ow E e v xs F::R) [.ow E e v xs F,.own E (.agg cs.toArray) ey Fy,.row g tt 0 [] cs []] S:=.cons .here (by
   have:∀{R R2 S:List Pc} {p q:Pc},C2 R p R2->C2 R2 q S->Km R [q,p] S:=by
    intro R R2 S p q h1
    induction h1 generalizing S with
    | here=>intro h2;exact .cons (.there h2) (.cons .here .nil)
    | @there x p R R' h ih =>
     intro h2;cases h2 with
     | here=>exact .cons .here (.cons h .nil)
     | there h3 =>
      cases ih h3 with
      | cons a1 a2 =>
       cases a2 with
       | cons b1 b2=>cases b2;exact .cons (.there a1) (.cons (.there b1) .nil)
   exact this hp2 hp3)
  have s1:St c.G c.D c.w0 ([.ow E e v xs F,.own E (.agg cs.toArray) ey Fy]++S) w:=by
   have s0:St c.G c.D c.w0 ([.ow E e v xs F,.own E (.agg cs.toArray) ey Fy,.row g tt 0 [] cs []]++S) w:=by simpa using hP.st (X:=[]) HP
   have sp:=s0.sep;have hm3:∀q,q∈[Pc.ow E e v xs F,.own E (.agg cs.toArray) ey Fy]++S->q∈[Pc.ow E e v xs F,.own E (.agg cs.toArray) ey Fy,.row g tt 0 [] cs []]++S:=fun q hq=>by
    simp only [cg,aZ,aG] at hq ⊢;rcases hq with h|h|h
    ·exact .inl h
    ·exact .inr (.inl h)
    ·exact .inr (.inr (.inr h))
   exact ⟨s0.I5,fun q hq=>s0.on q (hm3 q hq),⟨fun q hq=>sp.1 q (by
    rcases aG.1 hq with h|h
    ·simp [h]
    ·exact aN _ (aN _ h)),fun q hq=>sp.2.1 q (aN _ hq),sp.2.2.2⟩,fun q hq=>s0.Acz q (hm3 q hq)⟩
  refine St.turn (M:=[.ow E e v xs F,.own E (.agg cs.toArray) ey Fy]) (N:=[.ow E e v' (xs++[ey]) F']) s1 (hk.mono (fun b hb _=>by simp [List.filter,Pc.mu,fp,Pc.F,hb])) IT ⟨EX,trivial⟩ ?_;intro q hq b hb;simp only [aG,aT,bl] at hq;subst hq;rcases hF b hb with h|h|h
  ·exact .inr (.inl ⟨.ow E e v xs F,EX,rfl,h⟩)
  ·exact .inr (.inl ⟨.own E (.agg cs.toArray) ey Fy,EX,rfl,h⟩)
  ·exact .inl EV⟩
theorem Azr {α:Type} {E:Bw α} {a:aj} {n cp:Nat} {xs:List α} {F:aq} (k:Nat) (hk:k<=xs.length) (h:∀F',n<=cp->cp<=9223372036854775807->T c fr (.sl E (ab a k cp) (xs.take k) F'::H) Φ) (hm:.sl E (ab a n cp) xs F∈H:=by exact Bn):T c fr H Φ:=.mk fun ac w s g=>by
 obtain ⟨hz,hs⟩:=s.get hm;obtain ⟨rfl,hnc,hmx⟩:=hs.caps;obtain ⟨F',hF,h2⟩:=hs.takeS k hk;exact (h F' hnc (by unfold maxLen at hmx;omega)).h ac w (s.ro hm rfl rfl ⟨hz,h2⟩ hF) g
/-! the same for slices that read -/
def EA {α:Type} (E:Bw α) (n:Nat):Bw (List α) where
 sz:=n * E.sz
 Kz w cs xs F:=xs.length=n/\Cw E w cs xs F
 len h:=by obtain ⟨rfl,h⟩:=h;exact h.len
 lt h:=h.2.lt
 frame h hF:=⟨h.1,h.2.frame hF⟩
theorem Ae3 {α:Type} {E:Bw α} (one:One E) {a:aj} {n cp:Nat} {xs:List α} {F:aq} {m:Nat} (hm:E.sz=m)
  (h:∀(ys:List (am)) F1 F2,ys.length=xs.length->(∀y∈ys,y.length=m)->T c fr (.sl (EC m) (ab a n cp) ys F1::.isv (EA E xs.length) (.agg ys.flatten.toArray) xs F2::H) Φ) (hp:.sl E (ab a n cp) xs F∈H:=by exact Bn):T c fr H Φ:=.mk fun ac w s g=>by
 subst hm;obtain ⟨hz,a',cap,hv,hl,hh⟩:=s.get hp;cases hv;rcases hh with ⟨rfl,rfl,h0⟩|⟨b,off,F',rfl,hne,rfl,hc⟩
 ·refine (h [] [] [] rfl EX).h ac w (s.add (N:=[.sl (EC E.sz) (ab a 0 cp) [] [],.isv (EA E 0) (.agg #[]) [] []]) (Below.refl _ _) ?_ ?_ ?_) g
  ·intro p hp;simp only [aG,aT,bl] at hp;rcases hp with rfl|rfl
   ·exact ⟨hz,a,cp,rfl,hl,.inl ⟨rfl,rfl,h0⟩⟩
   ·exact ⟨[],rfl,rfl,rfl,rfl⟩
  ·exact ⟨fun q _ hm=>by simp at *;subst_vars;simp [Pc.mu] at hm,fun q hq=>by simp at hq,trivial⟩
  ·intro p hp b hb;simp only [aG,aT,bl] at hp;rcases hp with rfl|rfl <;> simp [Pc.F] at hb
 ·have key:∀(xs:List α) (off:Nat) (G:aq),N6 E w b off xs G->∃cs,Cw E w cs xs G/\∀j u,cs[j]?=some u->w.cell? ⟨b,off+j,none⟩=some u:=by
   intro xs
   induction xs with
   | nil=>intro off G h;exact ⟨[],⟨rfl,h⟩,EX⟩
   | cons x r ih =>
    intro off G h;obtain ⟨c1,F1,F2,rfl,h1,h2,h3⟩:=h;obtain ⟨c2,f2,k2⟩:=ih _ _ h3;have hl1:=E.len h1;refine ⟨c1++c2,⟨c1,c2,F1,F2,rfl,rfl,h1,f2⟩,fun j u hu=>?_⟩;by_cases hj:j < c1.length
    ·rw [bx hj] at hu;rw [h2 j EV];exact hu
    ·rw [bU EV] at hu;have:=k2 _ _ hu
     rwa [show off+E.sz+(j - c1.length)=off+j by omega] at this
  obtain ⟨cs,f1,k1⟩:=key xs off F' hc;obtain ⟨ys,e1,rfl,e2,f2⟩:=Akq (w':=w) one f1;have hys:ys≠[]:=by rintro rfl;exact hne (bE e1.symm)
  refine (h ys [b] F' e1 e2).h ac w (s.add (N:=[.sl (EC E.sz) (ab (some ⟨b,off,none⟩) xs.length cp) ys [b],.isv (EA E xs.length) (.agg ys.flatten.toArray) xs F']) (Below.refl _ _) ?_ ?_ ?_) g
  ·intro p hp;simp only [aG,aT,bl] at hp;rcases hp with rfl|rfl
   ·refine ⟨hz,_,cp,by rw [e1],by rw [e1];exact hl,.inr ⟨b,off,[],rfl,hys,rfl,f2.cells (fun j u hu=>k1 j u hu)⟩⟩
   ·exact ⟨_,rfl,rfl,f1⟩
  ·exact ⟨fun q hq hm=>by simp only [aG,aT,bl] at hq;subst hq;simp [Pc.mu] at hm,fun q hq=>by simp at hq,trivial⟩
  ·intro p hq z hb;simp only [aG,aT,bl] at hq;rcases hq with rfl|rfl
   ·exact .inr ⟨rfl,_,hp,rfl,by simp only [Pc.F,aG,aT,bl] at hb ⊢;exact .inl hb⟩
   ·exact .inr ⟨rfl,_,hp,rfl,by simp only [Pc.F,aG] at hb ⊢;exact .inr hb⟩
theorem P0 {α:Type} {E:Bw α} {a:aj} {n cp m k:Nat} {ys:List (am)} {v:Value} {xs:List α} {F G:aq} (hm:E.sz=m) (hl:ys.length=xs.length) (hv:v=.agg ys.flatten.toArray)
  (h:∀F',T c fr (.sl E (ab a n cp) xs F'::H) Φ) (hp:.sl (EC m) (ab a n cp) ys F∈H:=by exact Bn) (hp2:.isv (EA E k) v xs G∈H:=by exact Bn):T c fr H Φ:=.mk fun ac w s g=>by
 subst hm hv;obtain ⟨hz,a',cap,hv,hlc,hh⟩:=s.get hp;cases hv;obtain ⟨cs,e, -,hf⟩:=s.get hp2;obtain rfl:ys.flatten=cs:=JT
 rcases hh with ⟨rfl,rfl,h0⟩|⟨b,off,F',rfl,hne,rfl,hc⟩
 ·have:xs=[]:=bE hl.symm;subst this;refine (h []).h ac w (s.add (N:=[.sl E (ab a 0 cp) [] []]) (Below.refl _ _) (by intro p hp;simp only [aG,aT,bl] at hp;subst hp;exact ⟨hz,a,cp,rfl,hlc,.inl ⟨rfl,rfl,h0⟩⟩) ⟨EX,trivial⟩ (by intro p hp b hb;simp only [aG,aT,bl] at hp;subst hp;simp [Pc.F] at hb)) g
 ·have hxs:xs≠[]:=by rintro rfl;exact hne (bE hl)
  have key:∀(ys:List (am)) (off:Nat) (G:aq),N6 (EC E.sz) w b off ys G->∀j u,ys.flatten[j]?=some u->w.cell? ⟨b,off+j,none⟩=some u:=by
   intro ys
   induction ys with
   | nil=>intro off G _ j u hu;simp at hu
   | cons y r ih =>
    intro off G h j u hu;obtain ⟨c1,F1,F2,rfl,⟨rfl,⟨hy, -⟩, -⟩,h2,h3⟩:=h;rw [ci] at hu;by_cases hj:j < c1.length
    ·rw [bx hj] at hu;rw [h2 j (by show j < E.sz;omega)];exact hu
    ·rw [bU EV] at hu;have:=ih _ _ h3 _ _ hu
     rwa [show off+(EC E.sz).sz+(j - c1.length)=off+j by show off+E.sz+(j - c1.length)=off+j;omega] at this
  refine (h (b::G)).h ac w (s.add (N:=[.sl E (ab (some ⟨b,off,none⟩) ys.length cp) xs (b::G)]) (Below.refl _ _) (by
   intro p hp;simp only [aG,aT,bl] at hp;subst hp;exact ⟨hz,_,cp,by rw [hl],by rw [<-hl];exact hlc,.inr ⟨b,off,G,rfl,hxs,rfl,hf.cells (fun j u hu=>key ys off F' hc j u hu)⟩⟩) ⟨EX,trivial⟩ (by
   intro p hq z hb;simp only [aG,aT,bl] at hq;subst hq;simp only [Pc.F,aG] at hb;rcases hb with rfl|hb
   ·exact .inr ⟨rfl,_,hp,rfl,IW⟩
   ·exact .inr ⟨rfl,_,hp2,rfl,hb⟩)) g
theorem Aof {α:Type} {E:Bw α} {v:Value} {x:α} {F:aq} (h:T c fr (.isv (EA E 1) v [x] F::H) Φ) (hp:.isv E v x F∈H:=by exact Bn):T c fr H Φ:=.mk fun ac w s g=>by
 obtain ⟨cs,e,hr⟩:=s.get hp;exact h.h ac w (s.ro hp rfl rfl ⟨cs,e,rfl,Cw.one hr⟩ (fun b hb=>hb)) g
theorem Azn {α:Type} {E:Bw α} {k1 k2:Nat} {c1 c2:am} {v1 v2:Value} {x1 x2:List α} {F1 F2:aq} (e1:v1=.agg c1.toArray) (e2:v2=.agg c2.toArray) (h:T c fr (.isv (EA E (k1+k2)) (.agg (c1++c2).toArray) (x1++x2) (F1++F2)::H) Φ) (hp:.isv (EA E k1) v1 x1 F1∈H:=by exact Bn) (hp2:.isv (EA E k2) v2 x2 F2∈H:=by exact Bn):T c fr H Φ:=.mk fun ac w s g=>by
 subst e1 e2;obtain ⟨cs,e,hl,hf⟩:=s.get hp;obtain ⟨cs2,e2,hl2,hf2⟩:=s.get hp2;obtain rfl:c1=cs:=JT
 obtain rfl:c2=cs2:=by simpa using e2
 refine h.h ac w (s.add (N:=[.isv (EA E (k1+k2)) (.agg (c1++c2).toArray) (x1++x2) (F1++F2)]) (Below.refl _ _) (by intro p hp;rw [aL] at hp;subst hp;exact ⟨_,rfl,by simp [hl,hl2],hf.append hf2⟩) ⟨EX,trivial⟩ (by
  intro p hq z hb;rw [aL] at hq;subst hq;rcases aJ.1 hb with hb|hb
  ·exact .inr ⟨rfl,_,hp,rfl,hb⟩
  ·exact .inr ⟨rfl,_,hp2,rfl,hb⟩)) g
theorem Xg {m:Nat} {cs:am} (hm:cs.length=m) (h1:∀u∈cs,u.oneCell'=true) (w:World):Cw (EC m) w cs [cs] []:=Cw.one ⟨rfl,⟨hm,h1⟩,rfl⟩
theorem Sg {α:Type} {O R:Bw α} (hW:Mu O R) {v:Value} {x:α} {F:aq} {S:List Pc} (h:∀F',T c fr (.isv R v x F'::S) Φ) (hp:C2 H (.own O v x F) S:=by exact Dr):T c fr H Φ:=.mk fun a w s g=>by
 have s1:=s.pick hp;obtain ⟨-,ho⟩:=s1.on (.own O v x F) EX;obtain ⟨F',hF,hs⟩:=Ru.weak hW ho;exact (h F').h a w (s1.conv rfl hs hF) g
end
theorem Xk {p:Pc} {N:List Pc} {w:World} (h:p.P w) (hN:Od N w):Od (p::N) w:=fun q hq=>by
 rcases aG.1 hq with rfl|hq
 ·exact h
 ·exact hN q hq
theorem Axf {w:World}:Od [] w:=fun q hq=>by cases hq
theorem P6 {p:Pc} {N:List Pc} {w:World} (h:Od (p::N) w):p.P w:=h p EX
theorem Hn {p:Pc} {N:List Pc} {w:World} (h:Od (p::N) w):Od N w:=fun q hq=>h q FX
theorem Tg {A B:aq} (h:(A++B).Nodup):A.Nodup:=(bK.1 h).1
theorem Anj {A B:aq} (h:(A++B).Nodup):B.Nodup:=(bK.1 h).2.1
theorem St.mer {G D w0 H M N R w} (s:St G D w0 H w) (hM:Km H M R) (hN:Od M w->(fp M).Nodup->Od N w/\(fp N).Nodup) (hF:∀b∈fp N,b∈fp M) (hm:∀p∈M,p.mu=true:=by simp [Pc.mu]):St G D w0 (N++R) w :=
 have s1:St G D w0 (M++R) w:=by simpa using hM.st (X:=[]) HP
 have sM:Si M:=by
  have:∀(M:List Pc),Si (M++R)->Si M:=by
   intro M
   induction M with
   | nil=>intro _;trivial
   | cons p M ih=>intro h;exact ⟨fun q hq=>h.1 q FX,ih h.2⟩
  exact this M s1.sep
 have hh:Od M w:=fun p hp=>s1.on p HD;have hn:=hN hh (Amr IP hh sM)
 s.swap hM hm hn.1 (fun _=>hn.2) hF
structure Cs where
 Aa:Aw
 Ai:Int
 quiet:Int
 holds:List Iu
def El:Bw Cs where
 sz:=6
 Kz w cs x F:=∃v1 v2 F1 F2,cs=[aa x.Aa.Am,aa x.Aa.size,v1,aa x.Ai,aa x.quiet,v2]/\Sl A8 w v1 x.Aa.Ak F1/\Sl Bx w v2 x.holds F2/\F=F1++F2
 len h:=HI
 lt h:=by
  obtain ⟨v1,v2,F1,F2,rfl,h1,h2,rfl⟩:=h;intro b hb;simp only [aJ] at hb;rcases hb with hb|hb
  ·exact h1.lt EW b hb
  ·exact h2.lt EW b hb
 frame h hF:=FG
def Yg:Bw Cs where
 sz:=6
 Kz w cs x F:=∃v1 v2 F1 F2,cs=[aa x.Aa.Am,aa x.Aa.size,v1,aa x.Ai,aa x.quiet,v2]/\Ow A8 9 w v1 x.Aa.Ak F1/\Ow Bx 191 w v2 x.holds F2/\F=F1++F2
 len h:=HI
 lt h:=by
  obtain ⟨v1,v2,F1,F2,rfl,h1,h2,rfl⟩:=h;intro b hb;simp only [aJ] at hb;rcases hb with hb|hb
  ·exact h1.lt b hb
  ·exact h2.lt b hb
 frame h hF:=FG
section
variable {c:Cx} {fr:Fr} {H:List Pc} {Φ:Gl}
theorem Gn {v:Value} {x:Cs} {F:aq} (h:∀(a1:aj) (c1:Nat) (F1:aq) (a2:aj) (c2:Nat) (F2:aq),v=.agg #[aa x.Aa.Am,aa x.Aa.size,ab a1 x.Aa.Ak.length c1,aa x.Ai,aa x.quiet,ab a2 x.holds.length c2]->x.Aa.Ak.length<=maxLen->x.holds.length<=maxLen->T c fr (.sl A8 (ab a1 x.Aa.Ak.length c1) x.Aa.Ak F1::.sl Bx (ab a2 x.holds.length c2) x.holds F2::H) Φ) (hm:.isv El v x F∈H:=by exact Bn):T c fr H Φ:=.mk fun a w s g=>by
 exact AT
theorem En (x:Cs) {a1:aj} {c1:Nat} {F1:aq} {a2:aj} {c2:Nat} {F2:aq}  (h:T c fr (.isv El (.agg #[aa x.Aa.Am,aa x.Aa.size,ab a1 x.Aa.Ak.length c1,aa x.Ai,aa x.quiet,ab a2 x.holds.length c2]) x (F1++F2)::H) Φ) (m1:.sl A8 (ab a1 x.Aa.Ak.length c1) x.Aa.Ak F1∈H:=by exact Bn) (m2:.sl Bx (ab a2 x.holds.length c2) x.holds F2∈H:=by exact Bn):T c fr H Φ:=.mk fun a w s g=>by
 refine h.h a w (s.add (N:=[_]) (Below.refl _ _) IR ⟨EX,trivial⟩ fun q hq b hb=>?_) g;obtain rfl:=aL.1 hq;simp only [Pc.F,aJ] at hb;rcases hb with hb|hb
 ·exact .inr ⟨rfl,_,m1,rfl,hb⟩
 ·exact .inr ⟨rfl,_,m2,rfl,hb⟩
theorem Xx {v:Value} {x:Cs} {F:aq} {S:List Pc} (h:∀(a1:aj) (c1:Nat) (F1:aq) (a2:aj) (c2:Nat) (F2:aq),v=.agg #[aa x.Aa.Am,aa x.Aa.size,ab a1 x.Aa.Ak.length c1,aa x.Ai,aa x.quiet,ab a2 x.holds.length c2]->x.Aa.Ak.length<=maxLen->x.holds.length<=maxLen->T c fr (.ow A8 9 (ab a1 x.Aa.Ak.length c1) x.Aa.Ak F1::.ow Bx 191 (ab a2 x.holds.length c2) x.holds F2::S) Φ) (hp:C2 H (.own Yg v x F) S:=by exact Dr):T c fr H Φ:=.mk fun a w s g=>by
 obtain ⟨hn,cs,rfl,v1,v2,G1,G2,rfl,h1,h2,rfl⟩:=(s.pick hp).on (.own Yg v x F) EX;obtain ⟨a1,c1,rfl⟩:=h1.slice;have l1:=h1.len;obtain ⟨a2,c2,rfl⟩:=h2.slice;have l2:=h2.len;exact (h a1 c1 G1 a2 c2 G2 rfl  l1 l2).h a w (s.mer (M:=[.own Yg _ x _]) (N:=[.ow A8 _ _ _ G1,.ow Bx _ _ _ G2]) (.cons hp .nil) (fun _ _=>⟨Xk ⟨(Tg hn),h1⟩ (Xk ⟨Anj hn,h2⟩ (Axf)),FZ⟩) GK) g
theorem Akm (x:Cs) {a1:aj} {c1:Nat} {F1:aq} {a2:aj} {c2:Nat} {F2:aq} {S1 S2:List Pc}  (h:T c fr (.own Yg (.agg #[aa x.Aa.Am,aa x.Aa.size,ab a1 x.Aa.Ak.length c1,aa x.Ai,aa x.quiet,ab a2 x.holds.length c2]) x (F1++F2)::S2) Φ) (m1:C2 H (.ow A8 9 (ab a1 x.Aa.Ak.length c1) x.Aa.Ak F1) S1:=by exact Dr) (m2:C2 S1 (.ow Bx 191 (ab a2 x.holds.length c2) x.holds F2) S2:=by exact Dr)  : T c fr H Φ:=.mk fun a w s g =>
 h.h a w (s.mer (M:=[.ow A8 _ _ _ F1,.ow Bx _ _ _ F2]) (N:=[.own Yg _ x (F1++F2)]) (.cons m1 (.cons m2 (.nil))) (fun hk hn=>⟨I4 ⟨FZ,_,rfl,_,_,_,_,rfl,(P6 hk).2,(P6 (Hn hk)).2,rfl⟩,FZ⟩) GK) g
end
section
variable {c:Cx} {fr:Fr} {H:List Pc} {Φ:Gl}
theorem E6 {v:Value} {x:Aw} {F:aq} (h:∀(a1:aj) (c1:Nat) (F1:aq),v=.agg #[aa x.Am,aa x.size,ab a1 x.Ak.length c1]->x.Ak.length<=maxLen->T c fr (.sl A8 (ab a1 x.Ak.length c1) x.Ak F1::H) Φ) (hm:.isv Cf v x F∈H:=by exact Bn):T c fr H Φ:=.mk fun a w s g=>by
 exact AI
theorem Cn (x:Aw) {a1:aj} {c1:Nat} {F1:aq}  (h:T c fr (.isv Cf (.agg #[aa x.Am,aa x.size,ab a1 x.Ak.length c1]) x (F1)::H) Φ) (m1:.sl A8 (ab a1 x.Ak.length c1) x.Ak F1∈H:=by exact Bn):T c fr H Φ:=.mk fun a w s g=>by
 exact AE
theorem J0 {v:Value} {x:Aw} {F:aq} {S:List Pc} (h:∀(a1:aj) (c1:Nat) (F1:aq),v=.agg #[aa x.Am,aa x.size,ab a1 x.Ak.length c1]->x.Ak.length<=maxLen->T c fr (.ow A8 9 (ab a1 x.Ak.length c1) x.Ak F1::S) Φ) (hp:C2 H (.own Qz v x F) S:=by exact Dr):T c fr H Φ:=.mk fun a w s g=>by
 have z1:=s.pick hp;obtain ⟨hn,cs,rfl,v1,rfl,h1⟩:=z1.on (.own Qz v x F) EX;obtain ⟨a1,c1,rfl⟩:=h1.slice;have l1:=h1.len;refine (h a1 c1 F rfl  l1).h a w (St.turn (M:=[.own Qz (.agg #[aa x.Am,aa x.size,ab a1 x.Ak.length c1]) x _]) (N:=[.ow A8 9 (ab a1 x.Ak.length c1) x.Ak F]) z1 (Ei.refl _ w) ?_ ?_ ?_) g
 ·intro q hq;simp at hq;subst hq;exact ⟨hn,h1⟩
 ·exact ⟨EX,trivial⟩
 ·exact DL
end
def I8 (w:Aw) (n:Int):Bool:=decide (gp w.Am n < (w.Ak.length:Int))
theorem Akl {n:Int} (h:Kt n=true):0<=n/\n<=9999:=by unfold Kt Ff at h;simpa using h
def Ahx (x:Cs) (i:Nat):Bool:=match x.holds[i]? with
 | none=>true
 | some h=>B8 h.Ae && I8 x.Aa h.Ae && Ff (x.Ai+1) h.Cg (x.Ai+3) && (decide (i=0) || match x.holds[i - 1]? with|none=>true|some p=>!decide (gp x.Aa.Am h.Ae<=gp x.Aa.Am p.Ae))
theorem Po {x:Cs} {i:Nat} (h:i < x.holds.length):Ahx x i=(B8 x.holds[i].Ae && I8 x.Aa x.holds[i].Ae && Ff (x.Ai+1) x.holds[i].Cg (x.Ai+3) && (decide (i=0) || !decide (gp x.Aa.Am x.holds[i].Ae<=gp x.Aa.Am (x.holds[i - 1]'EV).Ae))):=by
 unfold Ahx;rw [aD h,aD (show i - 1 < x.holds.length by omega)]
def Cr (x:Cs):Bool:=D6 x.Aa && Kt x.Ai && Ff 0 x.quiet 3 && (List.range x.holds.length).all (Ahx x)
theorem Af1 {x:Cs} {i:Nat} (h:i < x.holds.length) (hc:Ahx x i=false):Cr x=false:=by
 have:(List.range x.holds.length).all (Ahx x)=false:=cP.2 ⟨i,FF,JA⟩;simp [Cr,this]
theorem Adr {x:Cs} (h1:D6 x.Aa=true) (h2:Kt x.Ai=true) (h3:Ff 0 x.quiet 3=true) (h:∀j,j < x.holds.length->Ahx x j=true):Cr x=true:=by
 unfold Cr;rw [h1,h2,h3,aV.2 fun j hj=>h j HZ];rfl
theorem Xl (x:Aw) (n:Int) (v:Value) (F:aq) (h0:0<=x.Am) (h1:x.Am<=65535) (h2:0<=n) (h3:n<=65535) :
  FV 148 [v,aa n] [.isv Cf v x F] (.bool (I8 x n)):=by
 refine enter func148 rfl ntmps148 fun w0=>?_;refine E6 ?_;rintro a1 c1 F1 rfl l1;refine go ?_;intros;refine Ar [0] [] ?_;refine C8 0 1 2 4 ?_;refine Dg 5 6 ?_;refine dN 3 ?_;exact ED
theorem Yq (x:Aw) (n:Int) (v:Value) (F:aq) (h0:0<=x.Am) (h1:x.Am<=65535) (h2:-1<=n) (h3:n<=65536) :
  FV 203 [v,aa n] [.isv Cf v x F] (.bool (I8 x n)):=by
 refine enter func203 rfl ntmps203 fun w0=>?_;refine E6 ?_;rintro a1 c1 F1 rfl l1;refine go ?_;intros;refine Ar [0] [] ?_;refine C8 0 1 2 4 ?_;refine Dg 5 6 ?_;refine dN 3 ?_;refine oC ?_;refine ce (fun w s=>Jm _ _ _ EV EV) ?_;refine dk ?_;refine Dg 7 8 ?_;exact CQ
theorem Am9 (x:Aw) (n:Int) (v:Value) (F:aq) (h0:0<=x.Am) (h1:x.Am<=65535) (h2:0<=n) (h3:n<=65535) :
  FV 203 [v,aa n] [.isv Cf v x F] (.bool (I8 x n)):=Yq x n v F h0 h1 EV EV
theorem Aeh (x:Cs) (v:Value) (F:aq):FV 80 [v] [.isv El v x F] (.bool (Cr x)):=by
 refine enter func80 rfl ntmps80 fun w0=>?_;refine Gn ?_;rintro a1 c1 F1 a2 c2 F2 rfl l1 l2;unfold maxLen at l1 l2;refine Cn x.Aa ?_;generalize F1=F3;refine go ?_;intros;refine cb (fun w st=>Rr _ x.Aa _ w (st.get (p:=.isv Cf (.agg #[aa x.Aa.Am,aa x.Aa.size,ab a1 x.Aa.Ak.length c1]) x.Aa F3) EX)) ?_;cases g1:D6 x.Aa
 ·refine go ?_;refine ret () trivial ?_;simp [Cr,g1,Tp]
 obtain ⟨⟨t0,t1⟩, -⟩:=Dq.1 g1;refine go ?_;refine ce (fun w s=>So _ _) ?_;cases g2:Kt x.Ai
 ·refine go ?_;refine ret () trivial ?_;simp [Cr,g2,Tp]
 obtain ⟨k0,k1⟩:=Akl g2;refine go ?_;refine ce (fun w s=>Hy _ _ _ _) ?_;cases g3:Ff 0 x.quiet 3
 ·refine go ?_;refine ret () trivial ?_;simp [Cr,g3,Tp]
 refine go ?_;refine Dk [1,2,22,23] (fun k:Nat=>[(24,aa k)]) (fun k=>k<=x.holds.length/\∀j,j < k->Ahx x j=true) (fun k=>x.holds.length - k) 0 ⟨aE _,fun j h=>by omega⟩ fun k hk=>?_;obtain ⟨hk1,hk2⟩:=hk;refine go ?_;refine A1 rfl (fun h3=>?_) (fun h3=>?_)
 ·have hk3:k < x.holds.length:=EV
  have bad:Ahx x k=false->Cr x=false:=fun h=>Af1 hk3 h;have hck:=Po hk3;refine T5 (xs:=x.holds) k ?_;rintro hi b o e;rw [e];refine go ?_;intros;refine ce (fun w s=>Ja _ _) ?_;cases g4:B8 x.holds[k].Ae
  ·exact DV
  obtain ⟨m0,m1⟩:=A4.1 g4;refine go ?_;refine cb (fun w st=>(Xl x.Aa x.holds[k].Ae _ _ t0 t1 m0 m1).val w (I4 (st.get (p:=.isv Cf (.agg #[aa x.Aa.Am,aa x.Aa.size,ab a1 x.Aa.Ak.length c1]) x.Aa F3) EX))) ?_;cases g5:I8 x.Aa x.holds[k].Ae
  ·refine go ?_;refine ret () trivial ?_;rw [bad (by rw [hck,g4,g5];rfl)];rfl
  refine go ?_;refine ce (fun w s=>Hy _ _ _ _) ?_;cases g6:Ff (x.Ai+1) x.holds[k].Cg (x.Ai+3)
  ·refine go ?_;refine ret () trivial ?_;rw [bad (by rw [hck,g4,g5,g6];rfl)];rfl
  refine go ?_;by_cases hk0:0 < k
  ·have hk4:k - 1 < x.holds.length:=EV
   have hp:=hk2 (k - 1) EV;rw [Po hk4] at hp;simp only [aw] at hp;obtain ⟨p0,p1⟩:=A4.1 hp.1.1.1;rw [<-e];refine T5 (xs:=x.holds) (k - 1) ?_;rintro hi5 b5 o5 e5;rw [e5];refine Ar [0,1,3] [] ?_;refine Dg 0 1 ?_;rw [av (show (0:Int) < k by omega)];refine dt 2 ?_;refine Dd 3 ?_;refine Dd 4 ?_;refine Dd 5 ?_;refine Dd 6 ?_;refine Dd 7 ?_;refine Dd 8 ?_;refine Dd 9 ?_;rw [show (k:Int) - 1=((k - 1:Nat):Int) by omega];refine Dd 10 ?_;refine Dd 11 ?_;refine Dd 12 ?_;refine Dd 14 ?_;refine Dd 15 ?_;refine Dd 16 ?_;refine Dd 17 ?_;refine Dd 18 ?_;refine d1g 13 ?_
   apply On.h;refine oC ?_;refine ce (fun w s=>Pf _ _ _ EV EV EV EV) ?_;refine dk ?_;refine d1g 19 ?_;apply On.h;refine oC ?_;refine ce (fun w s=>Pf _ _ _ EV EV EV EV) ?_;refine dk ?_;refine Dd 20 ?_;refine dt 21 ?_;refine dd ?_;refine go ?_;refine A1 rfl (fun h6=>?_) (fun h6=>?_)
   ·exact BS
   ·refine go ?_;refine Cb (k+1) ⟨EV,fun j hj=>?_⟩ EV;rcases ba (bA.1 hj) with h|rfl
    ·exact hk2 j h
    ·rw [hck,g4,g5,g6,ay h6];simp
  ·have hz:k=0:=EV
   refine Ar [0,2] [] ?_;refine Dg 0 1 ?_;rw [ay (show ¬(0:Int) < k by omega)];refine dt 2 ?_;refine ds 3 ?_;refine ds 4 ?_;refine ds 5 ?_;refine ds 6 ?_;refine ds 7 ?_;refine ds 8 ?_;refine ds 9 ?_;refine ds 10 ?_;refine ds 11 ?_;refine ds 12 ?_;refine ds 13 ?_;refine ds 14 ?_;refine ds 15 ?_;refine ds 16 ?_;refine ds 17 ?_;refine ds 18 ?_;refine ds 19 ?_;refine ds 20 ?_;refine dt 21 ?_;refine dd ?_;refine go ?_;refine Cb (k+1) ⟨EV,fun j hj=>?_⟩ EV;rcases ba (bA.1 hj) with h|rfl
   ·exact hk2 j h
   ·rw [hck,g4,g5,g6,av hz];simp
 have hkl:k=x.holds.length:=EV
 refine go ?_;refine ret () trivial ?_;rw [Adr g1 g2 g3 (hkl▸hk2)];rfl
theorem Ai7 (x:Cs) (v:Value) (F:aq):FV 119 [v] [.isv El v x F] (.bool (Cr x)):=by
 refine enter func119 rfl ntmps119 fun w0=>?_;refine Gn ?_;rintro a1 c1 F1 a2 c2 F2 rfl l1 l2;unfold maxLen at l1 l2;refine Cn x.Aa ?_;generalize F1=F3;refine go ?_;intros;refine cb (fun w st=>Am8 _ x.Aa _ w (st.get (p:=.isv Cf (.agg #[aa x.Aa.Am,aa x.Aa.size,ab a1 x.Aa.Ak.length c1]) x.Aa F3) EX)) ?_;cases g1:D6 x.Aa
 ·refine go ?_;refine ret () trivial ?_;simp [Cr,g1,Tp]
 obtain ⟨⟨t0,t1⟩, -⟩:=Dq.1 g1;refine go ?_;refine ce (fun w s=>Z6 _ _) ?_;cases g2:Kt x.Ai
 ·refine go ?_;refine ret () trivial ?_;simp [Cr,g2,Tp]
 obtain ⟨k0,k1⟩:=Akl g2;refine go ?_;refine ce (fun w s=>Kg _ _ _ _) ?_;cases g3:Ff 0 x.quiet 3
 ·refine go ?_;refine ret () trivial ?_;simp [Cr,g3,Tp]
 refine go ?_;refine Dk [1,2] (fun k:Nat=>[(3,aa k)]) (fun k=>k<=x.holds.length/\∀j,j < k->Ahx x j=true) (fun k=>x.holds.length - k) 0 ⟨aE _,fun j h=>by omega⟩ fun k hk=>?_;obtain ⟨hk1,hk2⟩:=hk;refine go ?_;refine A1 rfl (fun h3=>?_) (fun h3=>?_)
 ·have hk3:k < x.holds.length:=EV
  have bad:Ahx x k=false->Cr x=false:=fun h=>Af1 hk3 h;have hck:=Po hk3;refine T5 (xs:=x.holds) k ?_;rintro hi b o e;rw [e];refine go ?_;intros;refine ce (fun w s=>Nw _ _) ?_;cases g4:B8 x.holds[k].Ae
  ·exact DV
  obtain ⟨m0,m1⟩:=A4.1 g4;refine go ?_;refine cb (fun w st=>(Am9 x.Aa x.holds[k].Ae _ _ t0 t1 m0 m1).val w (I4 (st.get (p:=.isv Cf (.agg #[aa x.Aa.Am,aa x.Aa.size,ab a1 x.Aa.Ak.length c1]) x.Aa F3) EX))) ?_;cases g5:I8 x.Aa x.holds[k].Ae
  ·refine go ?_;refine ret () trivial ?_;rw [bad (by rw [hck,g4,g5];rfl)];rfl
  refine go ?_;refine ce (fun w s=>Kg _ _ _ _) ?_;cases g6:Ff (x.Ai+1) x.holds[k].Cg (x.Ai+3)
  ·refine go ?_;refine ret () trivial ?_;rw [bad (by rw [hck,g4,g5,g6];rfl)];rfl
  refine go ?_;by_cases hk0:0 < k
  ·have hk4:k - 1 < x.holds.length:=EV
   have hp:=hk2 (k - 1) EV;rw [Po hk4] at hp;simp only [aw] at hp;obtain ⟨p0,p1⟩:=A4.1 hp.1.1.1;rw [<-e];refine T5 (xs:=x.holds) (k - 1) ?_;rintro hi5 b5 o5 e5;rw [e5];refine Ar [0,1,3] [] ?_;refine Dg 0 1 ?_;rw [av (show (0:Int) < k by omega)];refine dt 2 ?_;refine Dd 3 ?_;refine Dd 4 ?_;refine Dd 5 ?_;refine Dd 6 ?_;refine Dd 7 ?_;refine Dd 8 ?_;refine Dd 9 ?_;rw [show (k:Int) - 1=((k - 1:Nat):Int) by omega];refine Dd 10 ?_;refine Dd 11 ?_;refine Dd 12 ?_;refine Dd 14 ?_;refine Dd 15 ?_;refine Dd 16 ?_;refine Dd 17 ?_;refine Dd 18 ?_;refine d1g 13 ?_
   apply On.h;refine oC ?_;refine ce (fun w s=>Jm _ _ _ EV EV) ?_;refine dk ?_;refine d1g 19 ?_;apply On.h;refine oC ?_;refine ce (fun w s=>Jm _ _ _ EV EV) ?_;refine dk ?_;refine Dd 20 ?_;refine dt 21 ?_;refine dd ?_;refine go ?_;refine A1 rfl (fun h6=>?_) (fun h6=>?_)
   ·exact BS
   ·refine go ?_;refine Cb (k+1) ⟨EV,fun j hj=>?_⟩ EV;rcases ba (bA.1 hj) with h|rfl
    ·exact hk2 j h
    ·rw [hck,g4,g5,g6,ay h6];simp
  ·have hz:k=0:=EV
   refine Ar [0,2] [] ?_;refine Dg 0 1 ?_;rw [ay (show ¬(0:Int) < k by omega)];refine dt 2 ?_;refine ds 3 ?_;refine ds 4 ?_;refine ds 5 ?_;refine ds 6 ?_;refine ds 7 ?_;refine ds 8 ?_;refine ds 9 ?_;refine ds 10 ?_;refine ds 11 ?_;refine ds 12 ?_;refine ds 13 ?_;refine ds 14 ?_;refine ds 15 ?_;refine ds 16 ?_;refine ds 17 ?_;refine ds 18 ?_;refine ds 19 ?_;refine ds 20 ?_;refine dt 21 ?_;refine dd ?_;refine go ?_;refine Cb (k+1) ⟨EV,fun j hj=>?_⟩ EV;rcases ba (bA.1 hj) with h|rfl
   ·exact hk2 j h
   ·rw [hck,g4,g5,g6,av hz];simp
 have hkl:k=x.holds.length:=EV
 refine go ?_;refine ret () trivial ?_;rw [Adr g1 g2 g3 (hkl▸hk2)];rfl
theorem Afc (fid:FuncId) (hbd:Y0 prog fid) (caps:Array Value) (v:Value) (xs:List Iu) (F:aq) (p:Iu->Bool) (w:World) (h:Sl Bx w v xs F)
  (hp:∀(k:Nat) (hk:k < xs.length) (wr:World) (u:Value) (G:aq),Below w.heap.size w wr->Ru Bx wr u xs[k] G->Calls prog fid (#[u]++caps) wr fun e w'=>e=.returned (.bool (p xs[k]))/\Below wr.heap.size wr w') :
  Calls prog 342 #[v,.func (.func fid) #[] caps] w (RB (aa (Rl p xs)) w):=by
 obtain ⟨a,cap,rfl⟩:=h.slice;have hl:=h.len;unfold maxLen at hl
 go_enter func342,ntmps342
 go_wp2
 go_loopw [5,8] (fun _ i wr=>∃k:Nat,k<=xs.length/\i=aa k/\Hid (∀j,j < k->∀hj:j < xs.length,p xs[j]=false)/\Below w.heap.size w wr) (fun _ i _=>xs.length - (intOf i).toNat)
 case atStart=>exact ⟨0,aE _,rfl,fun j hj=>by omega,Below.refl _ _⟩
 case round =>
  obtain ⟨k,hk,rfl,hz,hB⟩:=hrel;by_cases hlt:k < xs.length
  ·have hz0:=hz;clear hz;obtain ⟨b,off,_,F1,rfl,hx, -,ja⟩:=(h.below EW hB).at k hlt;obtain ⟨rfl,rfl⟩:=id hx;have a0:=ja 0 EW;have a1:=ja 1 EW;simp only [show Bx.sz=2 from rfl,cS,bN,bH,bF] at a0 a1;clear ja;have hr:=hp k hlt wr _ _ hB ⟨_,rfl,hx⟩;have hp:=Lib.hid hp;cases hpk:p xs[k]
   all_goals
    rw [hpk] at hr;have hpk:=Lib.hid hpk;have hr:=Lib.hid hr;go_wp2_with fail;refine hbd.upon hr.out ?_;rintro e w1 ⟨rfl,hb1⟩;refine ⟨_,rfl,?_⟩;have hB:=tr hB hb1 (aK _);clear hb1;go_wp2_with fail
   ·exact AV
   ·go_ret
    exact EJ
  ·go_wp2
   go_ret
   exact DG
theorem Ao0 (v:Value) (xs:List Iu) (F:aq) (w:World) (h:Sl Bx w v xs F) (hm:xs.length<=4294967296) :
  Calls prog 181 #[v] w (W8 Bx 191 xs w):=by
 obtain ⟨ao,c,news,Fy,rfl,hl,hfy,hFy,hsrc⟩:=h.src;have hFl:=hfy.lt;have he:=fun w (a:aj) (n c:Nat)=>Lib.run_eql_slice_nil (P:=prog) w 30 _ a n c 0 0 underlying30
 go_enter func181,ntmps181
 rcases hsrc with ⟨rfl,rfl,rfl⟩|⟨ad,rfl,hn⟩
 ·go_wp2
  go_ret
  exact CC
 ·go_wp2_with (at_builtin;refine O7 I0 EW FH _ _ _ FH 191 (.agg #[aa 0,aa 0]) 16 underlying30 Ai2 rfl (ab (some ⟨w.heap.size,0,none⟩) 0 0) [] [w.heap.size] FH (Ow.empty (If.made _ _ _)) (Hd.one _) (some ad) xs c FH news Fy (hfy.frame fun b hb=>Below.heap_alloc _ _ _ (hFl b hb)) (.inr ⟨ad,rfl,fun j u hu=>kc ((Below.refl _ _).alloc (aK _) _) (hn j u hu)⟩) (fun b hb e=>by have:=hFl b hb;simp [Value.ownBlock] at e;omega) GU GR ?_);intro v2 w2 F2 hA;go_wp2_with fail
  go_ret
  have hB:Below w.heap.size w w2:=((Below.refl _ _).alloc (aK _) _).trans (hA.I5.below EX EX);have hs:∀b,v2.ownBlock=some b->w.heap.size<=b:=fun b hb=>by rcases hA.Aqm with e|e <;> rw [e] at hb <;> simp [Value.ownBlock] at hb <;> omega
  refine ⟨v2,F2,rfl,II,hA.ow.scal Kv▸?_,fun b hb=>?_,hB⟩
  ·cases v2.ownBlock <;> simp
  ·rw [hA.ow.scal Kv] at hb;exact hs b IU
theorem Wg (fid:FuncId) (hbd:Y0 prog fid) (caps:Array Value) (v:Value) (xs:List Iu) (F:aq) (p:Iu->Bool) (w:World) (h:Ow Bx 191 w v xs F) (hn:F.Nodup)
  (hp:∀(k:Nat) (hk:k < xs.length) (wr:World) (u:Value) (G:aq),Ei F w wr->Ru Bx wr u xs[k] G->Calls prog fid (#[u]++caps) wr fun e w'=>e=.returned (.bool (p xs[k]))/\Below wr.heap.size wr w') :
  Calls prog 306 #[v,.func (.func fid) #[] caps] w fun e w'=>∃v' F',e=.returned v'/\Ow Bx 191 w' v' (xs.filter fun x=>!p x) F'/\F'.Nodup/\(∀b∈F',b∈F)/\Ei F w w':=by
 obtain ⟨F1,hF1,hs⟩:=h.sl (Mu.refl _);obtain ⟨a,cap,rfl⟩:=h.slice;have hl:=h.len;unfold maxLen at hl;have hp:=Lib.hid hp
 go_enter func306,ntmps306
 go_wp2_with fail;refine (Afc fid hbd caps _ xs F1 p _ hs (fun k hk wr u G hb hu=>hp.out k hk wr u G (Ei.ofBelow hb) hu)).mono ?_;rintro e w1 ⟨rfl,hb1⟩;have hK1:=Ei.ofBelow (F:=F) hb1;by_cases hany:xs.any p=true
 ·obtain ⟨k0,hk0,hfx,hpk,hfl⟩:=Ym hany;rw [hfx];obtain ⟨g,rfl, -,hg0⟩:=Gap.start (h.below hb1) hn (ys:=xs.take k0) (zs:=xs[k0]::xs.drop (k0+1)) EX EV;obtain ⟨F0,hg0,hF0⟩:=hg0.skip;have hG0:=Lib.hid hg0;clear hg0;have hk1:((k0:Int) == -1)=false:=EX
  go_wp2_with fail
  go_loopw [5,6,7] (fun i j _ wr=>∃(q m:Nat) (F1:aq),q<=xs.length/\0 < m/\((xs.take q).filter fun x=>!p x).length+m=q/\i=aa ((xs.take q).filter fun x=>!p x).length/\j=aa q/\Hid (Gap Bx 191 wr g xs.length cap ((xs.take q).filter fun x=>!p x) m (xs.drop q) F1)/\(∀b∈F1,b∈F)/\Ei F w wr) (fun _ j _ _=>xs.length - (intOf j).toNat)
  case atStart=>exact ⟨k0+1,1,F0,hk0,EV,HC,HC,HM,by rw [C9 hk0 KD,hfl];exact hG0,hF0,hK1⟩
  case round =>
   obtain ⟨q,m,F1,hq,hm,hlen,rfl,rfl,hG,hF1,hK⟩:=hrel;obtain ⟨-,hcap, -⟩:=hG.out.caps;generalize hys:((xs.take q).filter fun x=>!p x)=ys at *;by_cases hlt:q < xs.length
   ·rw [bP hlt] at hG;obtain ⟨c,Fx,hx,hFx,hcell⟩:=hG.out.first
    obtain ⟨Fx2, -,hxe⟩:=(Mu.refl _).Kz hx;obtain ⟨rfl,rfl⟩:=id hx;have a0:=hcell 0 EW;have a1:=hcell 1 EW;simp only [hlen,show Bx.sz=2 from rfl,cS,bN,bH,bF] at a0 a1;have hr:=fun A=>hp.out q hlt (wr.alloc A) _ Fx2 (hK.alloc A) ⟨_,rfl,Bx.below hxe ((Below.refl wr.heap.size wr).alloc (aK _) A)⟩;cases hpq:p xs[q]
    ·obtain ⟨st,c2,Fx3,hx3, -,hcell2,back⟩:=hG.out.move hm;simp only [hpq] at hr;obtain rfl:=Ag2 (Bx.len hx) (Bx.len hx3) hcell hcell2;have st:=st;obtain ⟨⟨x0,z0⟩,g0⟩:=st 0 EW;obtain ⟨⟨x1,z1⟩,g1⟩:=st 1 EW;simp only [show Bx.sz=2 from rfl,cS,bN] at z0 g0 z1 g1;have hr:=Lib.hid hr;have hbk:=Lib.hid back;have hpq:=Lib.hid hpq;have hys:=Lib.hid hys;have hlen:=Lib.hid hlen;have hyl:ys.length < xs.length:=by have:=hlen.out;omega
     clear hx hxe hcell hcell2 hx3 back st hfx hpk hfl;go_wp2_with fail;refine hbd.upon (hr.out _) ?_;rintro e w2 ⟨rfl,hb2⟩;refine ⟨_,rfl,?_⟩;have b2:=(If.below (g:=wr.heap.size) (t:=191) (cs:=[aa xs[q].Ae,aa xs[q].Cg]) (by simp [Jg]) hb2).cells;have hbb:=tr ((Below.refl wr.heap.size wr).alloc (aK _) _) hb2 (aK _);clear hb2;have g0:=(kf hbb z0).trans g0;have z0:=kc hbb z0;have g1:=(kf hbb z1).trans g1;have z1:=kc hbb z1;obtain ⟨F2,hg2,hF2⟩:=hbk.out w2 hbb;simp only [Ny,show Bx.sz=2 from rfl,cS] at hg2;have hg2:=Lib.hid hg2
     have hgF:g∈F:=hF1 g hG.out.caps.2.2.2.2.1;go_wp2_with fail;exact ⟨⟨q+1,m,F2,EV,hm,KE,by rw [Gw hlt IQ,hys.out,aA];go_num,HM,by rw [Gw hlt IQ,hys.out];exact hg2.out,fun b hb=>hF1 b (hF2 b hb),JZ⟩,GG⟩
    ·obtain ⟨F2,hg2,hF2⟩:=hG.out.skip;simp only [hpq] at hr;have hr:=Lib.hid hr;have hg2:=Lib.hid hg2;have hpq:=Lib.hid hpq;have hys:=Lib.hid hys;have hlen:=Lib.hid hlen;clear hx hxe hcell hfx hpk hfl;go_wp2_with fail;refine hbd.upon (hr.out _) ?_;rintro e w2 ⟨rfl,hb2⟩;refine ⟨_,rfl,?_⟩;have hbb:=tr ((Below.refl wr.heap.size wr).alloc (aK _) _) hb2 (aK _);clear hb2;go_wp2_with fail
     exact BP
   ·have hqe:q=xs.length:=EV
    subst hqe;simp only [List.drop_length,bm] at hG hys;obtain ⟨hc,F2,ho2,hn2,hF2⟩:=hG.out.done (z:=#[aa 0,aa 0]) rfl;have hmm:xs.length - ys.length=m:=EV
    have hcl:=fun ty=>Tk (P:=prog) wr 30 191 ty (.agg #[aa 0,aa 0]) underlying30 (Wf Ai2) (by simp [Value.cells,Value.oneCell']) g (ys.length * 2) m (cap - ys.length) hm (fun j hj=>(hc j hj).1) (fun j hj=>(hc j hj).2);have hyl:ys.length < xs.length:=EV
    have hgF:g∈F:=hF1 g hG.out.caps.2.2.2.2.1;have hO:=Lib.hid ho2;have hlen:=Lib.hid hlen;have hys:=Lib.hid hys;clear ho2 hc hfx hpk hfl;go_wp2_with fail
    go_ret
    exact DC
 ·obtain ⟨hfx,hfl⟩:=Aa2 hany;rw [hfx];go_wp2_with fail
  go_ret
  exact ⟨_,F,rfl,by rw [hfl];exact h.below hb1,hn,fun b hb=>hb,hK1⟩
theorem Aff (x:Cs) (v:Value) (F:aq) (hl:x.Aa.Ak.length<=4294967296) (hl2:x.holds.length<=4294967296):Fn prog 102 [v] [.isv El v x F] [] (fun (_:Value × aq)=>True)
  (fun s=>s.1) (fun s=>[.own Yg s.1 x s.2]):=by
 refine enter func102 rfl ntmps102 fun w0=>?_;refine Gn ?_;rintro a1 c1 F1 a2 c2 F2 rfl l1 l2;refine Cn x.Aa ?_;generalize F1=F3;refine go ?_;intros;refine cv (fun w s=>Zp _ x.Aa _ w (s.get (p:=.isv Cf (.agg #[aa x.Aa.Am,aa x.Aa.size,ab a1 x.Aa.Ak.length c1]) x.Aa F3) EX) hl) fun v F'=>?_;refine J0 ?_;rintro a5 c5 F5 rfl l5;refine go ?_;refine cn (fun w s=>Ao0 _ _ _ _ (s.get (p:=.sl Bx (ab a2 x.holds.length c2) x.holds F2) EX).2 hl2) fun a6 c6 F6=>?_;refine go ?_;refine Akm x ?_;exact CD
theorem Bbp (W:Aw) (h:Iu) (gb g o:Nat) (u:Value) (a:aj) (c:Nat) (cl q:Value) (Hs:Value) (G Fw:aq) (t0:0<=W.Am) (t1:W.Am<=65535) (n0:0<=h.Ae) (n1:h.Ae<=65535) :
  FV 307 [u,Gc gb 0 0] [.isv Bx u h G,.cel gb 0 [Gc g o 0],.cel g o [aa W.Am,aa W.size,ab a W.Ak.length c,cl,q,Hs],.isv Cf (.agg #[aa W.Am,aa W.size,ab a W.Ak.length c]) W Fw] (.bool (!I8 W h.Ae)):=by
 refine enter func307 rfl ntmps307 fun w0=>?_;refine Ann ?_;rintro _ rfl;refine go ?_;intros;refine Ar [0,2,3] [] ?_;refine C8 0 1 2 3 ?_;refine Dg 4 5 ?_;refine dN 6 ?_;refine oC ?_;refine cb (fun w st=>(Xl W h.Ae _ _ t0 t1 n0 n1).val w (I4 (st.get (p:=.isv Cf (.agg #[aa W.Am,aa W.size,ab a W.Ak.length c]) W Fw) EX))) ?_;refine dk ?_;refine Dg 7 8 ?_;refine dd ?_;refine go ?_;refine ret () trivial ?_;simp only [I8,Tp,decide_not]
theorem Apn {P:Program} {f:FuncId} {args:am} {p:Pc} {R:List Pc} {σ:Type} {C:σ->Prop} {v:σ->Value} {N:σ->Pc} (hm:p.mu=true)
  (h:∀w,p.P w->Od R w->(∀wr,Ei p.F w wr->Od R wr)->Calls P f args.toArray w fun e w'=>∃s,C s/\e=.returned (v s)/\(N s).P w'/\(∀b∈(N s).F,b∈p.F\/w.heap.size<=b)/\Ei p.F w w'):Fn P f args [] (p::R) C v (fun s=>N s::R):=fun w hH hS=>by
 rw [bg] at hH hS;have hR:Od R w:=fun q hq=>hH q FX;have ap:∀q∈R,∀b∈q.F,b ∉ p.F:=fun q hq b hb hp=>hS.1 q hq (by simp [hm]) b hp hb;have hk:∀wr,Ei p.F w wr->Od R wr:=fun wr k q hq=>q.st (hR q hq) fun b hb=>k.block b (q.lt (hR q hq) b hb) (ap q hq b hb);refine (h w (hH p EX) hR hk).mono ?_;rintro e w' ⟨s,hC,he,hN,hF,k⟩;refine ⟨s,hC,he,?_,⟨fun q hq _ b hb hbq=>?_,hS.2⟩,k.mono (fun b hb _=>by simp [fp,hb]),?_⟩
 ·intro q hq;rcases aG.1 hq with rfl|hq
  ·exact hN
  ·exact hk w' k q hq
 ·rcases hF b hb with h|h
  ·exact ap q hq b hbq h
  ·have:=q.lt (hR q hq) b hbq;omega
 ·intro q hq b hb;rcases aG.1 hq with rfl|hq
  ·rcases hF b hb with h|h
   ·exact .inr (.inl ⟨p,EX,h⟩)
   ·exact .inl h
  ·exact .inr (.inl ⟨q,FX,hb⟩)
theorem Bgq {P:Program} {fn:Func} {R:Ending->World->Prop} {G D:aq} {w0:World} {n:Nat} {fr:Fr} {H:List Pc} (h:T ⟨P,G,D,w0,n,bodyPost P fn R⟩ fr H (.fin .ret)):T ⟨P,G,D,w0,n,bodyPost P fn R⟩ fr H (.norm []):=.mk fun a w s g=>h.h a w s g
def Nt (W:Aw) (hs:List Iu):List Iu:=hs.filter fun h=>I8 W h.Ae
theorem Bbq (W:Aw) (hs:List Iu) (gb tb g t o:Nat) (A B:am) (a a2:aj) (c c2:Nat) (cl q:Int) (F F2:aq) (t0:0<=W.Am) (t1:W.Am<=65535) (hn:∀h∈hs,B8 h.Ae=true) :
  Fn prog 306 [ab a2 hs.length c2,.func (.func 307) #[] #[Gc gb 0 0]] [] [.ow Bx 191 (ab a2 hs.length c2) hs F2,.row gb tb 0 [] [Gc g o 0] [],.row g t o A [aa W.Am,aa W.size,ab a W.Ak.length c,aa cl,aa q,ab a2 hs.length c2] B,.ow A8 9 (ab a W.Ak.length c) W.Ak F] (fun (_:aj × Nat × aq)=>True)
   (fun z=>.slice z.1 (Nt W hs).length z.2.1) (fun z=>[.ow Bx 191 (.slice z.1 (Nt W hs).length z.2.1) (Nt W hs) z.2.2,.row gb tb 0 [] [Gc g o 0] [],.row g t o A [aa W.Am,aa W.size,ab a W.Ak.length c,aa cl,aa q,ab a2 hs.length c2] B,.ow A8 9 (ab a W.Ak.length c) W.Ak F]):=by
 refine Apn rfl fun w ⟨hnd,ho⟩ _ hk=>?_;refine (Wg _ (Ve EY) #[Gc gb 0 0] _ hs F2 (fun h=>!I8 W h.Ae) w ho hnd fun k hk2 wr u G hK hu=>?_).mono ?_
 ·have hr:=hk wr hK;have r1:=hr (.row gb tb 0 [] [Gc g o 0] []) EX;have r2:=hr (.row g t o A [aa W.Am,aa W.size,ab a W.Ak.length c,aa cl,aa q,ab a2 hs.length c2] B) EX;obtain ⟨Fw, -,hw⟩:=(hr (.ow A8 9 (ab a W.Ak.length c) W.Ak F) EX).2.read;obtain ⟨n0,n1⟩:=A4.1 (hn hs[k] (aB hk2));refine (Bbp W hs[k] gb g o u a c (aa cl) (aa q) (ab a2 hs.length c2) G Fw t0 t1 n0 n1).val wr ?_;intro p hp;simp only [aG,aT,bl] at hp;rcases hp with rfl|rfl|rfl|rfl
  ·exact hu
  ·exact ⟨EX,Ik r1⟩
  ·exact ⟨EX,Ik r2⟩
  ·exact ⟨_,rfl,_,rfl,hw⟩
 ·rintro e w' ⟨v',F',rfl,h1,h2,h3,h4⟩;have e:(hs.filter fun x=>!(fun h:Iu=>!I8 W h.Ae) x)=Nt W hs:=by simp [Nt]
  rw [e] at h1;exact CO
theorem Am1 (W:Aw) (hs:List Iu) (g t o:Nat) (A B:am) (a a2:aj) (c c2:Nat) (cl q:Int) (F F2:aq) (t0:0<=W.Am) (t1:W.Am<=65535) (hn:∀h∈hs,B8 h.Ae=true) :
  Fn prog 258 [Gc g o 0] [] [.row g t o A [aa W.Am,aa W.size,ab a W.Ak.length c,aa cl,aa q,ab a2 hs.length c2] B,.ow Bx 191 (ab a2 hs.length c2) hs F2,.ow A8 9 (ab a W.Ak.length c) W.Ak F] (fun (_:aj × Nat × aq)=>True)
   (fun _=>.tuple #[]) (fun z=>[.row g t o A [aa W.Am,aa W.size,ab a W.Ak.length c,aa cl,aa q,.slice z.1 (Nt W hs).length z.2.1] B,.ow Bx 191 (.slice z.1 (Nt W hs).length z.2.1) (Nt W hs) z.2.2,.ow A8 9 (ab a W.Ak.length c) W.Ak F]):=by
 refine enter func258 rfl ntmps258 fun w0=>?_;refine go ?_;intros;refine Ar [0,1] [9] ?_;refine C8 0 1 2 3 ?_;refine Dg 4 5 ?_;refine dN 6 ?_;refine oC ?_;refine Be (Bbq W hs _ _ g t o A B a a2 c c2 cl q F F2 t0 t1 hn) fun z _=>?_;refine dk ?_;refine Dg 7 8 ?_;refine dN 9 ?_;refine oS ?_;refine N2 ?_;refine dd ?_;refine Bgq ?_;exact BM
end Go.Proofs.YtkoldibamfjghaaGreatDoor
namespace Go.Proofs.YtkoldibamfjghaaGreatDoor

def Ban:Cs:=⟨⟨0,0,[]⟩,0,0,[]⟩
end Go.Proofs.YtkoldibamfjghaaGreatDoor
namespace Go.Proofs.YtkoldibamfjghaaGreatDoor
open Go.RowKit
structure Akg where
 a:aj
 c:Nat
 a2:aj
 c2:Nat
 F:aq
def Aov (x:Cs) (W:Aw):Cs:=⟨W,x.Ai,x.quiet,Nt W x.holds⟩
structure Bgc (x:Cs):Prop where
 w:D6 x.Aa=true
 l:x.Aa.Ak.length<=6
 t0:0<=x.Aa.Am
 t1:x.Aa.Am<=65535
 k0:0<=x.Ai
 k1:x.Ai<=9999
 m:x.holds.length<=6
 n:∀h∈x.holds,B8 h.Ae=true
 u:∀h∈x.holds,x.Ai+1<=h.Cg
 b:∀h∈x.holds,h.Cg<=x.Ai+3
theorem J9 {x:Cs} (h:Cr x=true):Bgc x:=by
 unfold Cr at h;simp only [aw] at h;obtain ⟨⟨⟨h1,h2⟩,h3⟩,h4⟩:=h;obtain ⟨⟨t0,t1⟩,⟨s0,s1⟩,s2, -⟩:=Dq.1 h1;obtain ⟨k0,k1⟩:=Akl h2;have hc:∀h∈x.holds,B8 h.Ae=true/\x.Ai+1<=h.Cg/\h.Cg<=x.Ai+3:=fun h hh=>by
  obtain ⟨i,hi,rfl⟩:=bi hh;have:=aV.1 h4 i HW;rw [Po hi] at this;simp only [aw,Ff,aF] at this;exact ⟨this.1.1.1,this.1.2.1,this.1.2.2⟩
 have hg:∀i,(hi:i < x.holds.length)->(i:Int)<=gp x.Aa.Am x.holds[i].Ae/\gp x.Aa.Am x.holds[i].Ae < 6:=by
  intro i
  induction i with
  | zero =>
   intro hi;have:=aV.1 h4 0 HW;rw [Po hi] at this;simp only [aw,I8,aF] at this;have b:=Ll x.Aa.Am x.holds[0].Ae;exact ⟨EV,by have:=this.1.1.2;omega⟩
  | succ i ih =>
   intro hi;have p:=ih EV;have:=aV.1 h4 (i+1) HW;rw [Po hi] at this;simp only [aw,I8,aF,bW,bu,bM] at this;have q:=this.2;have q2:=this.1.1.2;simp only [d9] at q;rcases q with q|q
   ·omega
   ·exact ⟨EV,EV⟩
 have hm:x.holds.length<=6:=by
  by_cases h0:x.holds.length<=6
  ·exact h0
  ·have:=hg 6 EV;omega
 exact ⟨h1,EV,t0,t1,k0,k1,hm,fun h hh=>(hc h hh).1,fun h hh=>(hc h hh).2.1,fun h hh=>(hc h hh).2.2⟩
def Zj (hs:List Iu):Prop:=∀h∈hs, -1<=h.Ae/\h.Ae<=65536
theorem Ae7 {hs:List Iu} (hn:∀h∈hs,B8 h.Ae=true):Zj hs:=fun h hh=>by have:=A4.1 (hn h hh);omega
def Ip (W:Aw) (cl:Int) (hs:List Iu):List Iu:=hs.filter fun h=>I8 W h.Ae && decide (cl < h.Cg)
theorem Xp {W:Aw} {cl:Int} {hs:List Iu} (h:∀z∈hs,cl+1<=z.Cg):Ip W cl hs=Nt W hs:=by
 unfold Ip Nt;refine eu fun z hz=>?_;rw [av (show cl < z.Cg by have:=h z hz;omega),fz]
theorem Ayu (h:Iu) (w:World):Cw Bx w [aa h.Ae,aa h.Cg] [h] []:=⟨_,[],[],[],EX,EX,⟨rfl,rfl⟩,rfl,rfl⟩
structure HoS where
 k:Nat
 a:aj
 c:Nat
 F:aq
theorem Adv (W:Aw) (hs:List Iu) (cl:Int) (v:Value) (a2:aj) (c2:Nat) (F G:aq) (t0:0<=W.Am) (t1:W.Am<=65535) (hl:hs.length<=1000) (hn:Zj hs) :
  Fn prog 246 [ab a2 hs.length c2,v,aa cl] [.isv Cf v W F,.sl Bx (ab a2 hs.length c2) hs G] [] (fun (_:aj × Nat × aq)=>True)
   (fun z=>.slice z.1 (Ip W cl hs).length z.2.1) (fun z=>[.ow Bx 191 (.slice z.1 (Ip W cl hs).length z.2.1) (Ip W cl hs) z.2.2]):=by
 refine enter func246 rfl ntmps246 fun w0=>?_;refine E6 ?_;rintro a1 c1 F1 rfl l1;refine go ?_;intros;refine C1 Bx ?_;refine Ca [0,2,4,6] (fun s:HoS=>[(7,.slice s.a (Ip W cl (hs.take s.k)).length s.c),(8,aa s.k)]) (fun s=>[.ow Bx 191 (.slice s.a (Ip W cl (hs.take s.k)).length s.c) (Ip W cl (hs.take s.k)) s.F]) (fun s=>s.k<=hs.length) (fun s=>hs.length - s.k) ⟨0,_,0,_⟩ (aE _) fun s hk=>?_;obtain ⟨k,a5,c5,F5⟩:=s;dsimp only at hk ⊢;refine go ?_;refine A1 rfl (fun h3=>?_) (fun h3=>?_)
 ·have hk3:k < hs.length:=EV
  obtain ⟨n0,n1⟩:=hn hs[k] (aB hk3);have hkl:(Ip W cl (hs.take k)).length<=1000:=by have:=bJ (fun h:Iu=>I8 W h.Ae && decide (cl < h.Cg)) (hs.take k);unfold Ip;simp only [aO] at this;omega
  refine T5 (xs:=hs) k ?_;rintro hi b o e;rw [e];cases g5:I8 W hs[k].Ae
  ·refine Ih ?_;intros;refine Ar [0,2] [] ?_;refine C8 0 1 2 3 ?_;refine Dg 4 5 ?_;refine dN 6 ?_;refine oC ?_;refine cb (fun w st=>(Yq W hs[k].Ae _ _ t0 t1 n0 n1).val w (I4 (st.get (p:=.isv Cf (.agg #[aa W.Am,aa W.size,ab a1 W.Ak.length c1]) W F) EX))) ?_;rw [g5];refine dk ?_;refine dt 7 ?_;refine ds 8 ?_;refine ds 9 ?_;refine ds 10 ?_;refine ds 11 ?_;refine ds 12 ?_;refine ds 13 ?_;refine ds 14 ?_;refine dt 15 ?_;refine dd ?_;refine go ?_;have hf:Ip W cl (hs.take (k+1))=Ip W cl (hs.take k):=C9 hk3 (by rw [g5];rfl);rw [<-hf]
   refine Cb ⟨k+1,a5,c5,F5⟩ hk3 JW
  ·refine Ih ?_;intros;refine Ar [0,2] [] ?_;refine C8 0 1 2 3 ?_;refine Dg 4 5 ?_;refine dN 6 ?_;refine oC ?_;refine cb (fun w st=>(Yq W hs[k].Ae _ _ t0 t1 n0 n1).val w (I4 (st.get (p:=.isv Cf (.agg #[aa W.Am,aa W.size,ab a1 W.Ak.length c1]) W F) EX))) ?_;rw [g5];refine dk ?_;refine dt 7 ?_;refine Dd 8 ?_;refine Dd 9 ?_;refine Dd 10 ?_;refine Dd 11 ?_;refine Dd 12 ?_;refine Dd 13 ?_;refine Dd 14 ?_;refine dt 15 ?_;refine dd ?_;refine go ?_;refine A1 rfl (fun h5=>?_) (fun h5=>?_)
   ·refine go ?_;intros;apply wO;refine Np (Ayu hs[k]) I0 fun a6 c6 F6=>?_;have hf:Ip W cl (hs.take (k+1))=Ip W cl (hs.take k)++[hs[k]]:=Gw hk3 (by rw [g5,av h5];rfl);rw [<-hf];refine go ?_;refine Cb ⟨k+1,a6,c6,F6⟩ hk3 JW
   ·refine go ?_;have hf:Ip W cl (hs.take (k+1))=Ip W cl (hs.take k):=C9 hk3 (by rw [g5,ay h5];rfl);rw [<-hf];refine Cb ⟨k+1,a5,c5,F5⟩ hk3 JW
 ·have hkl:k=hs.length:=EV
  subst hkl;rw [bm];refine go ?_;refine ret (a5,c5,F5) trivial rfl
def Yf (x:Cs) (W:Aw):Cs:=⟨W,x.Ai,x.quiet,Ip W x.Ai x.holds⟩
theorem Bae {x:Cs} {W:Aw} (h:∀z∈x.holds,x.Ai+1<=z.Cg):Yf x W=Aov x W:=by unfold Yf Aov;rw [Xp h]
theorem Tb (x:Cs) (W:Aw) (v vw:Value) (F Fw:aq) (y0:0<=W.Am) (y1:W.Am<=65535) (hl:x.holds.length<=1000) (hn:Zj x.holds) :
  Fn prog 234 [v,vw] [.isv El v x F,.isv Cf vw W Fw] [] (fun (_:Akg)=>True) (fun s=>.agg #[aa W.Am,aa W.size,ab s.a W.Ak.length s.c,aa x.Ai,aa x.quiet,.slice s.a2 (Ip W x.Ai x.holds).length s.c2])
   (fun s=>[.isv El (.agg #[aa W.Am,aa W.size,ab s.a W.Ak.length s.c,aa x.Ai,aa x.quiet,.slice s.a2 (Ip W x.Ai x.holds).length s.c2]) (Yf x W) s.F]):=by
 refine enter func234 rfl ntmps234 fun w0=>?_;refine Gn ?_;rintro a1 c1 F1 a2 c2 F2 rfl l1 l2;refine E6 (x:=W) (F:=Fw) ?_;rintro a3 c3 F3 rfl l3;refine go ?_;intros;refine Ar [1,2] [] ?_;refine C8 0 1 2 3 ?_;refine C8 4 5 6 7 ?_;refine Dg 8 9 ?_;refine dN 10 ?_;refine oC ?_;refine Be (Adv W x.holds x.Ai _ a2 c2 Fw F2 y0 y1 EV hn) fun z _=>?_;refine dk ?_;refine dt 11 ?_;refine dN 12 ?_;refine oS ?_;refine dk ?_;refine dd ?_;refine go ?_;refine Av (E:=Bx) fun F9=>?_;refine En (Yf x W) ?_;exact EB
theorem Atx (x:Cs) (W:Aw) (v vw:Value) (F Fw:aq) (y0:0<=W.Am) (y1:W.Am<=65535) (hl:x.holds.length<=1000) (hn:∀h∈x.holds,B8 h.Ae=true) (hu:∀h∈x.holds,x.Ai+1<=h.Cg) :
  Fn prog 234 [v,vw] [.isv El v x F,.isv Cf vw W Fw] [] (fun (_:Akg)=>True) (fun s=>.agg #[aa W.Am,aa W.size,ab s.a W.Ak.length s.c,aa x.Ai,aa x.quiet,.slice s.a2 (Nt W x.holds).length s.c2])
   (fun s=>[.isv El (.agg #[aa W.Am,aa W.size,ab s.a W.Ak.length s.c,aa x.Ai,aa x.quiet,.slice s.a2 (Nt W x.holds).length s.c2]) (Aov x W) s.F]):=by
 have h:=Tb x W v vw F Fw y0 y1 hl (Ae7 hn);rw [Bae hu,Xp hu] at h;exact h
structure As where
 Cq:Int
 Ae:Int
 Am:Int
 Er:Int
 data:au
def Al:Bw As where
 sz:=5
 Kz _ cs x F:=cs=[aa x.Cq,aa x.Ae,aa x.Am,aa x.Er,af x.data]/\x.data.size<=maxLen/\F=[]
 len h:=by obtain ⟨rfl,s1,rfl⟩:=h;rfl
 lt h:=by obtain ⟨rfl,s1,rfl⟩:=h;simp
 frame h _:=h
theorem Ho:One Al:=fun h u hu=>by
 obtain ⟨rfl,s1,rfl⟩:=h;simp only [aG,aT,bl] at hu;rcases hu with rfl|rfl|rfl|rfl|rfl
 ·rfl
 ·rfl
 ·rfl
 ·rfl
 ·rfl
theorem Jp:Aar Al:=fun h=>by obtain ⟨rfl,s1,rfl⟩:=h;rfl
end Go.Proofs.YtkoldibamfjghaaGreatDoor
namespace Go.Proofs.YtkoldibamfjghaaGreatDoor

open Go.RowKit Go.Shelf
end Go.Proofs.YtkoldibamfjghaaGreatDoor
namespace Go.Proofs.YtkoldibamfjghaaGreatDoor
open Go.RowKit
theorem Ru.frame {α:Type} {E:Bw α} {w w':World} {v x F} (h:Ru E w v x F) (hF:∀b∈F,w'.heap[b]?=w.heap[b]?):Ru E w' v x F:=by
 obtain ⟨cs,hv,h⟩:=h;exact ⟨cs,hv,E.frame h hF⟩
theorem Ara (t n:Int):Cd (Cd t 1) (n - 1)=Cd t n:=by unfold Cd;omega
def Df (x:Aw):Aw:=if (x.Ak.length:Int)=x.size then ⟨Cd x.Am 1,x.size,x.Ak.drop 1⟩ else x
def Dh (x:Aw) (s:au):Aw:=⟨(Df x).Am,x.size,(Df x).Ak++[s]⟩
def Dv (x:Aw) (s:au):As:=⟨1,Cd x.Am x.Ak.length,(Df x).Am,Cd (Df x).Am ((Df x).Ak.length+1),s⟩
theorem Iv (t z:Int) (a:aj) (n c:Nat) (w:World) (h0:0<=t) (h1:t<=65535) (hn:n<=4294967296) :
  Calls prog 195 #[.agg #[aa t,aa z,ab a n c]] w (RB (aa (Cd t n)) w):=by
 go_enter func195,ntmps195
 go_wp2_with fail;refine (Rv _ _ _ EV EV).mono ?_;rintro e w' ⟨rfl,rfl⟩;go_wp2_with fail
 go_ret
 exact ⟨rfl,(Below.refl _ _).alloc (aK _) _⟩
theorem Td (t z:Int) (a:aj) (n c:Nat) (w:World) (h0:0<=t) (h1:t<=65535) (hn:n<=4294967296) :
  Calls prog 133 #[.agg #[aa t,aa z,ab a n c]] w (RB (aa (Cd t n)) w):=by
 go_enter func133,ntmps133
 go_wp2_with fail;refine (Ht _ _ _ EV EV).mono ?_;rintro e w' ⟨rfl,rfl⟩;go_wp2_with fail
 go_ret
 exact ⟨rfl,(Below.refl _ _).alloc (aK _) _⟩
structure Bho where
 Bdr:ai
 Bdm:au
 Bg3:Int
end Go.Proofs.YtkoldibamfjghaaGreatDoor
namespace Go.Proofs.YtkoldibamfjghaaGreatDoor

open Go.RowKit Go.Shelf
end Go.Proofs.YtkoldibamfjghaaGreatDoor
namespace Go.Proofs.YtkoldibamfjghaaGreatDoor
open Go.RowKit
structure Bia (x:Bho):Prop where
 l:x.Bdr.length<=8
 q:∀s∈x.Bdr,s.size<=60
 f:x.Bdm.size<=40
 u0:0<=x.Bg3
 u1:x.Bg3<=x.Bdm.size
end Go.Proofs.YtkoldibamfjghaaGreatDoor
namespace Go.Proofs.YtkoldibamfjghaaGreatDoor

open Go.RowKit Go.Shelf
end Go.Proofs.YtkoldibamfjghaaGreatDoor
namespace Go.Proofs.YtkoldibamfjghaaGreatDoor
open Go.RowKit
section
variable {c:Cx} {fr:Fr} {H:List Pc} {Φ:Gl}
end
end Go.Proofs.YtkoldibamfjghaaGreatDoor
namespace Go.Proofs.YtkoldibamfjghaaGreatDoor

open Go.RowKit
end Go.Proofs.YtkoldibamfjghaaGreatDoor
namespace Go.Proofs.YtkoldibamfjghaaGreatDoor
open Go.RowKit
theorem Ald:∀(A:List Pc),A.all (fun p=>!p.mu)=true->Si A
 | [],_=>trivial
 | p::A,h=>by
  simp only [dL,aw,bu] at h;exact ⟨fun q hq hm=>by
   have hq':=aV.1 h.2 q hq;simp only [bu] at hq';rw [h.1,hq'] at hm;simp at hm,Ald A h.2⟩
section
variable {c:Cx} {fr:Fr} {H:List Pc} {d:Nat} {Φ:Gl}
theorem cfr {f:Nat} {vs:am} {σ:Type} {C:σ->Prop} {vv:σ->Value} {N:σ->List Pc} (hf:∀w,St c.G c.D c.w0 H w->∃A,Od A w/\A.all (fun p=>!p.mu)=true/\Fn c.P f vs A [] C vv N)
  (h:∀s,C s->T c ((d,vv s)::fr) (N s++H) Φ) (hN:∀s,(N s).all (·.mu)=true:=by intro s;rfl):Cl c fr H d f vs Φ :=
 Aat (R:=fun w e w'=>∃s,C s/\e=.returned (vv s)/\Od (N s) w'/\Si (N s)/\Ei [] w w'/\∀p∈N s,∀b∈p.F,w.heap.size<=b)
  (fun w s=>by
   obtain ⟨A,hA,hm,hF⟩:=hf w s;refine (hF w IV (by simpa using Ald A hm)).mono fun e w' ⟨z,hz,he,h1,h2,h3,h4⟩=>⟨z,hz,he,h1,h2,h3,fun p hp b hb=>?_⟩;rcases h4 p hp b hb with h|⟨q,hq, -⟩|⟨hp', -⟩
   ·exact h
   ·cases hq
   ·have:=aV.1 (hN z) p hp;rw [hp'] at this;cases this)
  (fun w e w' s ⟨z,hz,he,h1,h2,h3,h4⟩=>⟨_,he,fun a g=>(h z hz).h a w' (St.turn (M:=[]) (R:=H) (N:=N z) s h3 h1 h2 fun p hp b hb=>.inl (h4 p hp b hb)) g⟩)
theorem Aza {M A R:List Pc} (hm:M.all (·.mu)=true) (hA:A.all (fun p=>!p.mu)=true) (hb:∀p∈A,∀b∈p.F,∃q∈R,b∈q.F):Si (M++R)->Si (M++A):=by
 induction M with
 | nil=>intro _;exact Ald A hA
 | cons p M ih =>
  simp only [dL,aw] at hm;intro s;refine ⟨fun q hq=>?_,ih hm.2 s.2⟩;rcases aJ.1 hq with h|h
  ·exact s.1 q JM
  ·intro _ b hp hq2;obtain ⟨r,hr,hbr⟩:=hb q h b hq2;exact s.1 r (by simp [hr]) (by rw [hm.1];rfl) b hp hbr
theorem cfm {f:Nat} {vs:am} {M R:List Pc} {σ:Type} {C:σ->Prop} {vv:σ->Value} {N:σ->List Pc} (hM:Km H M R) (hf:∀w,St c.G c.D c.w0 (M++R) w->∃A,Od A w/\A.all (fun p=>!p.mu)=true/\(∀p∈A,∀b∈p.F,∃q∈R,b∈q.F)/\Fn c.P f vs A M C vv N)
  (h:∀s,C s->T c ((d,vv s)::fr) (N s++R) Φ) (hmM:M.all (·.mu)=true:=by rfl) (hN:∀s,(N s).all (·.mu)=true:=by intro s;rfl):Cl c fr H d f vs Φ :=
 have hMR:∀w,St c.G c.D c.w0 H w->St c.G c.D c.w0 (M++R) w:=fun w s=>by simpa using hM.st (X:=[]) HP
 have hmu:∀p∈M,p.mu=true:=fun p hp=>aV.1 hmM p hp
 Aat (R:=fun w e w'=>∃s,C s/\e=.returned (vv s)/\Od (N s) w'/\Si (N s)/\Ei (fp M) w w'/\∀p∈N s,∀b∈p.F,w.heap.size<=b\/∃q∈M,b∈q.F)
  (fun w s=>by
   obtain ⟨A,hA,hm,hb,hF⟩:=hf w (hMR w s);have s2:=hMR w s;refine (hF w (fun p hp=>?_) (Aza hmM hm hb s2.sep)).mono fun e w' ⟨z,hz,he,h1,h2,h3,h4⟩=>⟨z,hz,he,h1,h2,h3,fun p hp b hb=>?_⟩
   ·rcases aJ.1 hp with hp|hp
    ·exact s2.on p HD
    ·exact hA p hp
   ·rcases h4 p hp b hb with h|h|⟨hp', -⟩
    ·exact .inl h
    ·exact .inr h
    ·have:=aV.1 (hN z) p hp;rw [hp'] at this;cases this)
  (fun w e w' s ⟨z,hz,he,h1,h2,h3,h4⟩=>⟨_,he,fun a g=>(h z hz).h a w' (St.turn (hMR w s) (by rwa [dv.2 hmu]) h1 h2 fun p hp b hb=>by
   rcases h4 p hp b hb with h|⟨q,hq,hqb⟩
   ·exact .inl h
   ·exact .inr (.inl ⟨q,hq,hmu q hq,hqb⟩)) g⟩)
theorem Ali {α:Type} {E:Bw α} (Q:α->Prop) (hQ:∀w cs x F,E.Kz w cs x F->Q x) {a:aj} {n cp:Nat} {xs:List α} {F:aq} (h:(∀x∈xs,Q x)->T c fr H Φ) (hm:.sl E (ab a n cp) xs F∈H:=by exact Bn):T c fr H Φ:=.mk fun ac w s g =>
 (h fun x hx=>by
  obtain ⟨k,hk,rfl⟩:=bi hx;obtain ⟨-,hs⟩:=s.get hm;obtain ⟨-, -,cs,F1, -,h1, -, -⟩:=hs.at k hk;exact hQ _ _ _ _ h1).h ac w s g
theorem V9 {P:Program} {fn:Func} {G D:aq} {w0:World} {n:Nat} {R:Ending->World->Prop} (h:T ⟨P,G,D,w0,n,bodyPost P fn R⟩ fr H (.fin .ret)):T ⟨P,G,D,w0,n,bodyPost P fn R⟩ fr H (.norm []):=Bgp ⟨fun a w s g=>h.h a w s g⟩
end
structure PuS where
 a:aj
 c:Nat
 F:aq
theorem Qp {x:Aw} (t0:0<=x.Am) (t1:x.Am<=65535):0<=(Df x).Am/\(Df x).Am<=65535:=by
 unfold Df
 split
 ·exact Jb _ _
 ·exact ⟨t0,t1⟩
theorem Baz (x:Aw) (k:Nat) (g t o:Nat) (A B:am) (r1 r2 r3:Value) (a:aj) (c:Nat) (F:aq) (hl:x.Ak.length<=6) (hk:k<=x.Ak.length) (t0:0<=x.Am) (t1:x.Am<=65535) :
  Fn prog 305 [Gc g o 0,aa (k:Nat)] [] [.row g t o A [aa x.Am,aa x.size,ab a x.Ak.length c,r1,r2,r3] B,.ow A8 9 (ab a x.Ak.length c) x.Ak F] (fun (_:PuS)=>True) (fun _=>.tuple #[]) (fun z=>[.row g t o A [aa (Cd x.Am k),aa x.size,.slice z.a (x.Ak.drop k).length z.c,r1,r2,r3] B,.ow A8 9 (.slice z.a (x.Ak.drop k).length z.c) (x.Ak.drop k) z.F]):=by
 refine enter func305 rfl ntmps305 fun w0=>?_;refine Av (E:=A8) (xs:=x.Ak) fun Fr=>?_;refine go ?_;apply wO;refine sld k fun a2 c2 F2=>?_;refine go ?_;refine cn (fun w st=>Aal _ _ _ _ (st.get (p:=.sl A8 (.slice a2 (x.Ak.drop k).length c2) (x.Ak.drop k) F2) FA).2 JQ) fun a6 c6 F6=>?_;refine go ?_;refine ce (fun w st=>Rv x.Am k w EV EV) ?_;refine go ?_;refine V9 ?_;refine ret ⟨a6,c6,F6⟩ trivial rfl
theorem Bez (x:Aw) (s:au) (g t o:Nat) (A B:am) (r1 r2 r3:Value) (a:aj) (c:Nat) (F:aq) (hl:x.Ak.length<=6) (ht:B8 x.Am=true) (hs:s.size<=maxLen) (hz:1<=x.size) :
  Fn prog 257 [Gc g o 0,af s] [] [.row g t o A [aa x.Am,aa x.size,ab a x.Ak.length c,r1,r2,r3] B,.ow A8 9 (ab a x.Ak.length c) x.Ak F] (fun (_:PuS)=>True) (fun _=>.agg #[aa 1,aa (Dv x s).Ae,aa (Dv x s).Am,aa (Dv x s).Er,af s])
   (fun z=>[.row g t o A [aa (Dh x s).Am,aa (Dh x s).size,.slice z.a (Dh x s).Ak.length z.c,r1,r2,r3] B,.ow A8 9 (.slice z.a (Dh x s).Ak.length z.c) (Dh x s).Ak z.F]):=by
 obtain ⟨t0,t1⟩:=A4.1 ht;obtain ⟨R,hR⟩:∃R,Df x=R:=⟨_,rfl⟩;have hb:=Qp t0 t1;have hRl:R.Ak.length<=6:=by
  rw [<-hR];unfold Df
  split
  ·show (x.Ak.drop 1).length<=6;rw [aX];omega
  ·exact hl
 have hnum:Cd R.Am R.Ak.length=Cd x.Am x.Ak.length:=by
  rw [<-hR];unfold Df
  split
  ·rename_i h;show Cd (Cd x.Am 1) ((x.Ak.drop 1).length:Nat)=_;rw [aX,show ((x.Ak.length - 1:Nat):Int)=(x.Ak.length:Int) - 1 by omega,Ara]
  ·rfl
 rw [show Dh x s=⟨R.Am,x.size,R.Ak++[s]⟩ by unfold Dh;rw [hR],show Dv x s=⟨1,Cd x.Am x.Ak.length,R.Am,Cd R.Am (R.Ak.length+1),s⟩ by unfold Dv;rw [hR]];dsimp only;rw [hR] at hb;refine enter func257 rfl ntmps257 fun w0=>?_;refine go ?_;intros;refine cb (fun w st=>Iv _ _ _ _ _ w t0 t1 EV) ?_;refine go ?_;refine Ar [1] [] ?_;refine C8 0 1 2 3 ?_;refine C8 4 5 6 7 ?_;refine Dg 8 9 ?_;refine dd ?_;refine go ?_
 refine Du [0,1,4,5] [0] (fun _:PuS=>[]) (fun z=>[.row g t o A [aa R.Am,aa x.size,ab z.a R.Ak.length z.c,r1,r2,r3] B,.ow A8 9 (ab z.a R.Ak.length z.c) R.Ak z.F]) (fun _=>True) ?_ fun z _=>?_
 ·refine A1 rfl (fun h1=>?_) (fun h1=>?_)
  ·have e:R=⟨Cd x.Am 1,x.size,x.Ak.drop 1⟩:=by rw [<-hR];unfold Df;rw [aH h1]
   rw [e];refine go ?_;refine Be (Baz x 1 g t o A B _ _ _ a c F hl EV t0 t1) fun z _=>?_;refine go ?_;refine Bh z trivial
  ·have e:R=x:=by rw [<-hR];unfold Df;rw [aC h1]
   rw [e];refine go ?_;refine Bh ⟨a,c,F⟩ trivial
 refine go ?_;intros;apply wO;refine Np (E:=A8) (ys:=[s]) (fun w=>⟨[af s],[],[],[],rfl,rfl,⟨rfl,hs,rfl⟩,rfl,rfl⟩) Dz fun a7 c7 F7=>?_;have hla:((R.Ak++[s]).length:Int)=R.Ak.length+1:=EX
 refine go ?_;dsimp only [List.append];refine Ar [1] [] ?_;refine C8 0 1 2 3 ?_;refine C8 4 5 6 7 ?_;refine dt 9 ?_;refine dN 8 ?_;refine oC ?_;refine cb (fun w st=>Iv _ _ _ _ _ w hb.1 hb.2 EV) ?_;refine dk ?_;refine dt 10 ?_;refine dN 11 ?_;refine oS ?_;refine dk ?_;refine dd ?_;refine go ?_;refine ret ⟨a7,c7,F7⟩ trivial ?_;rw [hla];rfl
theorem Acw (x:Aw) (k:Nat) (v:Value) (F:aq) (hl:x.Ak.length<=4294967296) (hk:k<=x.Ak.length) (t0:0<=x.Am) (t1:x.Am<=65535) :
  Fn prog 235 [v,aa (k:Nat)] [.isv Cf v x F] [] (fun (_:PuS)=>True) (fun z=>.agg #[aa (Cd x.Am k),aa x.size,.slice z.a (x.Ak.drop k).length z.c]) (fun z=>[.ow A8 9 (.slice z.a (x.Ak.drop k).length z.c) (x.Ak.drop k) z.F]):=by
 refine enter func235 rfl ntmps235 fun w0=>?_;refine E6 ?_;rintro a1 c1 F1 rfl l1;have hdk:(x.Ak.drop k).length=x.Ak.length - k:=aX;refine go ?_;intros;refine Ar [1,2] [] ?_;refine C8 0 1 2 4 ?_;refine C8 5 7 8 9 ?_;refine Apg 10 k fun a5 c5 F5=>?_;refine dM 3 6 ?_ ?_
 ·refine oC ?_;refine ce (fun w st=>Ht x.Am k w EV EV) ?_;refine dk ?_;refine dN 6 ?_;apply Kj;rfl;intro _;refine C1 A8 ?_;exact CA
 ·apply Kj;rfl;intro _;refine C1 A8 ?_;refine dk ?_;refine dN 3 ?_;refine oC ?_;refine ce (fun w st=>Ht x.Am k w EV EV) ?_;exact CA
theorem Axv (x:Aw) (s:au) (v:Value) (F:aq) (hl:x.Ak.length<=6) (t0:0<=x.Am) (t1:x.Am<=65535) (hs:s.size<=maxLen) (hz:1<=x.size) :
  Fn prog 236 [v,af s] [.isv Cf v x F] [] (fun (_:Value × aq)=>True) (fun z=>.tuple #[z.1,.agg #[aa 1,aa (Dv x s).Ae,aa (Dv x s).Am,aa (Dv x s).Er,af s]]) (fun z=>[.isv Cf z.1 (Dh x s) z.2]):=by
 have e0:Cd x.Am ((0:Nat):Int)=x.Am:=by unfold Cd;omega
 obtain ⟨R,hR⟩:∃R,Df x=R:=⟨_,rfl⟩;have hb:=Qp t0 t1;have hRl:R.Ak.length<=6:=by
  rw [<-hR];unfold Df
  split
  ·show (x.Ak.drop 1).length<=6;rw [aX];omega
  ·exact hl
 have hnum:Cd R.Am R.Ak.length=Cd x.Am x.Ak.length:=by
  rw [<-hR];unfold Df
  split
  ·rename_i h;show Cd (Cd x.Am 1) ((x.Ak.drop 1).length:Nat)=_;rw [aX,show ((x.Ak.length - 1:Nat):Int)=(x.Ak.length:Int) - 1 by omega,Ara]
  ·rfl
 rw [show Dh x s=⟨R.Am,x.size,R.Ak++[s]⟩ by unfold Dh;rw [hR],show Dv x s=⟨1,Cd x.Am x.Ak.length,R.Am,Cd R.Am (R.Ak.length+1),s⟩ by unfold Dv;rw [hR]];dsimp only;rw [hR] at hb;refine enter func236 rfl ntmps236 fun w0=>?_;refine E6 ?_;rintro a1 c1 F1 rfl l1;refine go ?_;intros;refine Be (Acw x 0 _ F EV (aE _) t0 t1) fun y _=>?_;rw [e0,du];refine go ?_;intros;rename_i g
 refine Du [1,2,4,5,6] [2,3,4,5,6] (fun _:PuS=>[]) (fun z=>[.row g 29 0 [] [aa R.Am,aa x.size,ab z.a R.Ak.length z.c] [],.ow A8 9 (ab z.a R.Ak.length z.c) R.Ak z.F]) (fun _=>True) ?_ fun z _=>?_
 ·refine A1 rfl (fun h1=>?_) (fun h1=>?_)
  ·have e:R=⟨Cd x.Am 1,x.size,x.Ak.drop 1⟩:=by rw [<-hR];unfold Df;rw [aH h1]
   rw [e];refine go ?_;refine Be (Acw x 1 _ F EV EV t0 t1) fun z _=>?_;refine go ?_;refine Bh z trivial
  ·have e:R=x:=by rw [<-hR];unfold Df;rw [aC h1]
   rw [e];refine go ?_;refine Bh ⟨y.a,y.c,y.F⟩ trivial
 refine go ?_;refine cb (fun w st=>Td _ _ _ _ _ w hb.1 hb.2 EV) ?_;rw [hnum];refine go ?_;intros;apply wO;refine Np (E:=A8) (ys:=[s]) (fun w=>⟨[af s],[],[],[],rfl,rfl,⟨rfl,hs,rfl⟩,rfl,rfl⟩) Dz fun a7 c7 F7=>?_;have hla:((R.Ak++[s]).length:Int)=R.Ak.length+1:=EX
 refine go ?_;dsimp only [List.append];refine Ar [1] [] ?_;refine C8 0 1 2 3 ?_;refine Dg 4 6 ?_;refine dN 5 ?_;refine oC ?_;refine cb (fun w st=>Td _ _ _ _ _ w hb.1 hb.2 EV) ?_;refine dk ?_;refine dt 7 ?_;refine dN 8 ?_;refine oS ?_;refine dk ?_;refine dN 9 ?_;refine oS ?_;refine dk ?_;refine dd ?_;refine Av (E:=A8) (xs:=R.Ak++[s]) fun F8=>?_;refine Cn ⟨R.Am,x.size,R.Ak++[s]⟩ ?_;refine go ?_;refine ret (_,_) trivial ?_;rw [hla];rfl
structure SeS where
 a:aj
 c:Nat
 F:aq
 a2:aj
 c2:Nat
 F2:aq
theorem Bax (x:Aw) (s:au) (hs:List Iu) (g t o:Nat) (A B:am) (a a2:aj) (c c2:Nat) (cl q:Int) (F F2:aq) (hl:x.Ak.length<=6) (t0:0<=x.Am) (t1:x.Am<=65535) (hss:s.size<=maxLen) (hz:1<=x.size) (hn:∀h∈hs,B8 h.Ae=true) :
  Fn prog 191 [Gc g o 0,af s] [] [.row g t o A [aa x.Am,aa x.size,ab a x.Ak.length c,aa cl,aa q,ab a2 hs.length c2] B,.ow Bx 191 (ab a2 hs.length c2) hs F2,.ow A8 9 (ab a x.Ak.length c) x.Ak F] (fun (_:SeS)=>True) (fun _=>.agg #[aa 1,aa (Dv x s).Ae,aa (Dv x s).Am,aa (Dv x s).Er,af s])
   (fun z=>[.row g t o A [aa (Dh x s).Am,aa (Dh x s).size,.slice z.a (Dh x s).Ak.length z.c,aa cl,aa 0,.slice z.a2 (Nt (Dh x s) hs).length z.c2] B,.ow Bx 191 (.slice z.a2 (Nt (Dh x s) hs).length z.c2) (Nt (Dh x s) hs) z.F2,.ow A8 9 (.slice z.a (Dh x s).Ak.length z.c) (Dh x s).Ak z.F]):=by
 have hb:=Qp t0 t1;refine enter func191 rfl ntmps191 fun w0=>?_;refine go ?_;intros;refine Be (Bez x s g t o A B _ _ _ a c F hl (A4.2 ⟨t0,t1⟩) hss hz) fun z _=>?_;refine go ?_;intros;refine Be (Am1 (Dh x s) hs g t o A B z.a a2 z.c c2 cl 0 z.F F2 hb.1 hb.2 hn) fun y _=>?_;refine go ?_;refine ret ⟨z.a,z.c,z.F,y.1,y.2.1,y.2.2⟩ trivial rfl
def Rd (x:Cs) (s:au):Cs:=⟨Dh x.Aa s,x.Ai,0,Nt (Dh x.Aa s) x.holds⟩
def zPk:As:=⟨0,0,0,0,⟨#[]⟩⟩
def Aab (x:Aw) (s:au):Bool:=D6 x && Pk s
end Go.Proofs.YtkoldibamfjghaaGreatDoor
namespace Go.Proofs.YtkoldibamfjghaaGreatDoor

open Go.RowKit
end Go.Proofs.YtkoldibamfjghaaGreatDoor
namespace Go.Proofs.YtkoldibamfjghaaGreatDoor
open Go.RowKit
def Re (t:Int) (k:Nat):ar:=(List.range k).map fun i=>Cd t (i:Nat)
theorem Aag (t:Int) (k:Nat):Re t (k+1)=Re t k++[Cd t (k:Nat)]:=by unfold Re;rw [dz,bB];rfl
theorem Ac8 (t:Int) (k:Nat):(Re t k).length=k:=by unfold Re;simp
theorem Sc (n:Int) (w:World):Cw Bb w [aa n] [n] []:=⟨_,[],[],[],EX,EX,⟨rfl,rfl⟩,rfl,rfl⟩
structure SpS where
 k:Nat
 a:aj
 c:Nat
 F:aq
theorem Bfe (t:Int) (n:Nat) (t0:0<=t) (t1:t<=65535) (hn:n<=65536):Fn prog 387 [aa t,aa (n:Nat)] [] [] (fun (_:aj × Nat × aq)=>True) (fun s=>.slice s.1 (Re t n).length s.2.1) (fun s=>[.ow Bb 3 (.slice s.1 (Re t n).length s.2.1) (Re t n) s.2.2]):=by
 refine enter func387 rfl ntmps387 fun w0=>?_;refine go ?_;refine Cj Bb 3 ?_;refine Ca [0,4,7] (fun s:SpS=>[(5,.slice s.a (Re t s.k).length s.c),(8,aa (s.k:Nat))]) (fun s=>[.ow Bb 3 (.slice s.a (Re t s.k).length s.c) (Re t s.k) s.F]) (fun s=>s.k<=n) (fun s=>n - s.k) ⟨0,none,0,[]⟩ (aE _) fun s hs=>?_;obtain ⟨k,a,c,F⟩:=s;dsimp only at hs ⊢;have hl:=Ac8 t k;refine go ?_;refine A1 rfl (fun h1=>?_) (fun h1=>?_)
 ·refine go ?_;refine ce (fun w s=>Rv _ _ _ EV EV) ?_;refine go ?_;intros;apply wO;refine Np (Sc _) Da fun a2 c2 F2=>?_;refine go ?_;rw [<-Aag];refine Cb ⟨k+1,a2,c2,F2⟩ (by show k+1<=n;omega) (by show n - (k+1) < n - k;omega)
 ·have hk:k=n:=EV
  subst hk;refine go ?_;refine ret (a,c,F) trivial rfl
def Bo (p:As):Bool:=Ff 1 p.Cq 5 && B8 p.Ae && B8 p.Am && B8 p.Er && Pk p.data && decide (gp p.Am p.Er<=32767) && (decide (p.data=⟨#[]⟩) || decide (p.Cq=1) || decide (p.Cq=2))
theorem Kr {p:As} (h:Bo p=true):0<=p.Ae/\p.Ae<=65535:=by
 unfold Bo at h;simp only [aw] at h;exact A4.1 h.1.1.1.1.1.2
def Lo (x:Aw):Int:=Cd x.Am x.Ak.length
def Z0 (x:Aw) (n:Int):au:=x.Ak.getD (gp x.Am n).toNat ⟨#[]⟩
def Ayb (x:Aw) (n:Int):Bool:=D6 x && B8 n && I8 x n
def Rs (x:Aw):As:=⟨5,x.Am,x.Am,Lo x,⟨#[]⟩⟩
def Kc (x:Aw) (p:As):Bool:=D6 x && Bo p && decide (p.Cq=3) && I8 x p.Ae
def Al7 (x:Aw) (n:Int):As:=⟨2,n,x.Am,Lo x,Z0 x n⟩
def Dn (x:Aw) (p:As):As × Bool:=if Kc x p then (Al7 x p.Ae,true) else (zPk,false)
theorem Abb (x:Aw):0<=Lo x/\Lo x<=65535:=Jb _ _
theorem An6 {x:Aw} (h1:1<=x.size):Lo (Df x)=Lo x:=by
 unfold Df
 split
 ·rename_i h;unfold Lo;simp only [aX];unfold Cd;omega
 ·rfl
theorem Aqb {x:Aw} {s:au} (h:Aab x s=true):D6 x=true/\D6 (Dh x s)=true/\Ayb (Dh x s) (Dv x s).Ae=true/\Z0 (Dh x s) (Dv x s).Ae=s/\(Dv x s).Ae=Lo x/\gp (Lo x) (Lo (Dh x s))=1/\(Dv x s).Er=Lo (Dh x s)/\(Dv x s).Am=(Dh x s).Am:=by
 unfold Aab at h;simp only [aw] at h;obtain ⟨hg,hs⟩:=h;obtain ⟨⟨t0,t1⟩,⟨z0,z1⟩,hl,hi⟩:=Dq.1 hg;have hr:0<=(Df x).Am/\(Df x).Am<=65535:=Qp t0 t1;have hn:((Df x).Ak.length:Int)+1<=x.size/\(Df x).Ak.all Pk=true:=by
  unfold Df
  split
  ·rename_i h;refine ⟨by simp only [aX];omega,?_⟩;rw [aV] at hi ⊢;exact fun z hz=>hi z (bq hz)
  ·exact ⟨EV,hi⟩
 have hlead:=An6 (x:=x) z0;have hgo:D6 (Dh x s)=true:=by
  refine Dq.2 ⟨hr,⟨z0,z1⟩,?_,?_⟩
  ·show (((Df x).Ak++[s]).length:Int)<=x.size;simp only [aA,aU,aY];omega
  ·show ((Df x).Ak++[s]).all Pk=true;simp [hn.2,hs]
 have hnum:(Dv x s).Ae=Lo x:=rfl;have hgap:gp (Dh x s).Am (Lo x)=((Df x).Ak.length:Nat):=by
  rw [<-hlead];show gp (Df x).Am (Lo (Df x))=_;unfold Lo gp Cd;omega
 have b:=Abb x;refine ⟨hg,hgo,?_,?_,rfl,?_,?_,rfl⟩
 ·unfold Ayb;rw [hgo,hnum,A4.2 b,I8,hgap];show decide (((Df x).Ak.length:Int) < (((Df x).Ak++[s]).length:Nat))=true;simp only [aA,aU,aY,aF];omega
 ·unfold Z0;rw [hnum,hgap];show ((Df x).Ak++[s]).getD _ _=s;simp
 ·rw [<-hlead];show gp (Lo (Df x)) (Cd (Df x).Am (((Df x).Ak++[s]).length:Nat))=1;unfold Lo gp Cd;simp only [aA,aU,aY];omega
 ·show Cd (Df x).Am (((Df x).Ak.length:Nat)+1)=Cd (Df x).Am ((((Df x).Ak++[s]).length:Nat));simp
section
variable {c:Cx} {fr:Fr} {H:List Pc} {Φ:Gl}
theorem Oj {a:aj} {n cp:Nat} {xs:List As} {F:aq} (i:Nat) (h:∀(hi:i < xs.length) (b o:Nat),a=some ⟨b,o,none⟩->xs[i].data.size<=maxLen->T c fr (.cel b (o+i * 5) [aa xs[i].Cq,aa xs[i].Ae,aa xs[i].Am,aa xs[i].Er,af xs[i].data]::H) Φ) (hm:.sl Al (ab a n cp) xs F∈H:=by exact Bn) (hi:i < xs.length:=by omega):T c fr H Φ:=.mk fun ac w s g=>by
 exact CM
theorem As8 {t:TypeId} {a:aj} {n cp:Nat} {xs:List As} {F:aq} {S:List Pc} (i:Nat) (h:∀(_:i < xs.length) g A B,a=some ⟨g,0,none⟩->F=[g]->xs[i].data.size<=maxLen->Avz Al t g (ab (some ⟨g,0,none⟩) n cp) xs i A B->T c fr (.row g t (0+i * 5) A [aa xs[i].Cq,aa xs[i].Ae,aa xs[i].Am,aa xs[i].Er,af xs[i].data] B::S) Φ) (hp:C2 H (.ow Al t (ab a n cp) xs F) S:=by exact Dr) (hi:i < xs.length:=by omega):T c fr H Φ :=
 Rm Jp i (fun hi g A cs B ha hF hr hh=>by obtain ⟨rfl,s1, -⟩:=hr default;exact h hi g A B ha hF s1 hh) hp rfl hi
theorem De (x:As) (s1:x.data.size<=maxLen) (w:World):Cw Al w [aa x.Cq,aa x.Ae,aa x.Am,aa x.Er,af x.data] [x] []:=⟨_,[],[],[],EX,EX,⟨rfl,s1,rfl⟩,rfl,rfl⟩
end
theorem Aoa (t z:Int) (a:aj) (n c:Nat) (h0:0<=t) (h1:t<=65535) (hn:n<=4294967296):FV 309 [.agg #[aa t,aa z,ab a n c]] [] (.agg #[aa 5,aa t,aa t,aa (Cd t n),af ⟨#[]⟩]):=by
 refine enter func309 rfl ntmps309 fun w0=>?_;refine go ?_;intros;refine Ar [1] [7] ?_;refine C8 0 1 2 3 ?_;refine dt 4 ?_;refine dN 5 ?_;refine oC ?_;refine cb (fun w _=>Iv t z a n c w h0 h1 hn) ?_;refine dk ?_;refine dt 6 ?_;refine dN 7 ?_;refine oS ?_;refine N2 ?_;exact CQ
theorem Z8 (t z:Int) (a:aj) (n c:Nat) (h0:0<=t) (h1:t<=65535) (hn:n<=4294967296):FV 243 [.agg #[aa t,aa z,ab a n c]] [] (.agg #[aa 5,aa t,aa t,aa (Cd t n),af ⟨#[]⟩]):=by
 refine enter func243 rfl ntmps243 fun w0=>?_;refine go ?_;intros;refine Ar [1] [7] ?_;refine C8 0 1 2 3 ?_;refine dt 4 ?_;refine dN 5 ?_;refine oC ?_;refine cb (fun w _=>Td t z a n c w h0 h1 hn) ?_;refine dk ?_;refine dt 6 ?_;refine dN 7 ?_;refine oS ?_;refine N2 ?_;exact CQ
def Uu (cl:Int) (hs:List Iu):List Iu:=hs.filter fun h=>!decide (h.Cg<=cl)
def Rt (q:Int):Int:=if q+1 < 4 then q+1 else 0
def Nk (x:Aw) (q:Int):List As:=if q+1 < 4 then [] else [Rs x]
def M3 (x:Cs):Cs:=⟨x.Aa,x.Ai+1,Rt x.quiet,Uu (x.Ai+1) x.holds⟩
theorem Anx {x:Cs} (h:Cr x=true):0<=x.quiet/\x.quiet<=3:=by
 unfold Cr Ff at h;simp only [aw,aF] at h;exact h.1.2
theorem Atd {x:Cs} (h:Cr x=true):∀z∈x.holds,I8 x.Aa z.Ae=true:=fun z hz=>by
 unfold Cr at h;simp only [aw] at h;obtain ⟨i,hi,rfl⟩:=bi hz;have:=aV.1 h.2 i HW;rw [Po hi] at this;simp only [aw] at this;exact this.1.1.2
structure TiS where
 a:aj
 c:Nat
 a2:aj
 c2:Nat
 F:aq
 ae:aj
 ce:Nat
 Fe:aq
theorem Bcy (h:Iu) (gb g o:Nat) (u v0 v1 v2 q Hs:Value) (cl:Int) (G:aq) :
  FV 308 [u,Gc gb 0 0] [.isv Bx u h G,.cel gb 0 [Gc g o 0],.cel g o [v0,v1,v2,aa cl,q,Hs]] (.bool (decide (h.Cg<=cl))):=by
 refine enter func308 rfl ntmps308 fun w0=>?_;refine Ann ?_;rintro _ rfl;refine go ?_;intros;refine Ar [0,2,3] [] ?_;refine C8 0 1 2 3 ?_;refine C8 4 5 6 7 ?_;exact CQ
theorem Bcz (hs:List Iu) (gb tb g t o:Nat) (A B:am) (v0 v1 v2:Value) (v3:Value) (a2:aj) (c2:Nat) (cl q:Int) (F2:aq) :
  Fn prog 306 [ab a2 hs.length c2,.func (.func 308) #[] #[Gc gb 0 0]] [] [.ow Bx 191 (ab a2 hs.length c2) hs F2,.row gb tb 0 [] [Gc g o 0] [],.row g t o A [v0,v1,v2,aa cl,aa q,v3] B] (fun (_:aj × Nat × aq)=>True)
   (fun z=>.slice z.1 (Uu cl hs).length z.2.1) (fun z=>[.ow Bx 191 (.slice z.1 (Uu cl hs).length z.2.1) (Uu cl hs) z.2.2,.row gb tb 0 [] [Gc g o 0] [],.row g t o A [v0,v1,v2,aa cl,aa q,v3] B]):=by
 refine Apn rfl fun w ⟨hnd,ho⟩ _ hk=>?_;refine (Wg _ (Ve EY) #[Gc gb 0 0] _ hs F2 (fun h=>decide (h.Cg<=cl)) w ho hnd fun k hk2 wr u G hK hu=>?_).mono ?_
 ·have hr:=hk wr hK;have r1:=hr (.row gb tb 0 [] [Gc g o 0] []) EX;have r2:=hr (.row g t o A [v0,v1,v2,aa cl,aa q,v3] B) EX;refine (Bcy hs[k] gb g o u v0 v1 v2 (aa q) v3 cl G).val wr ?_;intro p hp;simp only [aG,aT,bl] at hp;rcases hp with rfl|rfl|rfl
  ·exact hu
  ·exact ⟨EX,Ik r1⟩
  ·exact ⟨EX,Ik r2⟩
 ·rintro e w' ⟨v',F',rfl,h1,h2,h3,h4⟩;have e:(hs.filter fun x=>!(fun h:Iu=>decide (h.Cg<=cl)) x)=Uu cl hs:=rfl;rw [e] at h1;exact CO
theorem Bay (W:Aw) (hs:List Iu) (g t o:Nat) (A B:am) (a a2:aj) (c c2:Nat) (cl q:Int) (F2:aq) (t0:0<=W.Am) (t1:W.Am<=65535) (hl:W.Ak.length<=6) (k0:0<=cl) (k1:cl<=9999) (q0:0<=q) (q3:q<=3) :
  Fn prog 259 [Gc g o 0] [] [.row g t o A [aa W.Am,aa W.size,ab a W.Ak.length c,aa cl,aa q,ab a2 hs.length c2] B,.ow Bx 191 (ab a2 hs.length c2) hs F2] (fun (_:TiS)=>True)
   (fun z=>.slice z.ae (Nk W q).length z.ce) (fun z=>[.row g t o A [aa W.Am,aa W.size,ab a W.Ak.length c,aa (cl+1),aa (Rt q),.slice z.a2 (Uu (cl+1) hs).length z.c2] B,.ow Bx 191 (.slice z.a2 (Uu (cl+1) hs).length z.c2) (Uu (cl+1) hs) z.F,.ow Al 141 (.slice z.ae (Nk W q).length z.ce) (Nk W q) z.Fe]):=by
 refine enter func259 rfl ntmps259 fun w0=>?_;refine go ?_;intros;refine Ar [0,1] [9] ?_;refine C8 0 1 2 3 ?_;refine Dg 4 5 ?_;refine dN 6 ?_;refine oC ?_;refine Be (Bcz hs _ _ g t o A B _ _ _ _ a2 c2 (cl+1) q F2) fun z _=>?_;refine dk ?_;refine Dg 7 8 ?_;refine dN 9 ?_;refine oS ?_;refine N2 ?_;refine dd ?_;refine go ?_;refine A1 rfl (fun h1=>?_) (fun h1=>?_)
 ·refine Cj Al 141 ?_;refine go ?_;rw [show Rt q=q+1 from aH h1,show Nk W q=[] from aH h1];refine ret ⟨none,0,z.1,z.2.1,z.2.2,none,0,[]⟩ trivial rfl
 ·refine go ?_;refine Be (Aoa W.Am W.size a W.Ak.length c t0 t1 EV) fun _ _=>?_;refine go ?_;intros;refine Eh (xs:=[Rs W]) (De _ GV) ?_ EX;rw [show Rt q=0 from aC h1,show Nk W q=[Rs W] from aC h1];refine ret ⟨none,0,z.1,z.2.1,z.2.2,_,_,_⟩ trivial rfl
theorem Sr (x:Aw) (v:Value) (F:aq) (t0:0<=x.Am) (t1:x.Am<=65535) (hl:x.Ak.length<=4294967296):Fn prog 235 [v,aa 0] [.isv Cf v x F] [] (fun (_:Value × aq)=>True) (fun s=>s.1) (fun s=>[.own Qz s.1 x s.2]):=by
 have e0:Cd x.Am ((0:Nat):Int)=x.Am:=by unfold Cd;omega
 have h:=Acw x 0 v F hl (aE _) t0 t1;rw [e0,du] at h;refine Bbg fun w hA=>(h.made w hA (fun _=>rfl)).mono ?_;rintro e w' ⟨z, -,he,hh,hn,hF,hB⟩;obtain ⟨h1,h2⟩:=hh (.ow A8 9 (ab z.a x.Ak.length z.c) x.Ak z.F) EX;exact ⟨(_,z.F),trivial,he,⟨h1,_,rfl,_,rfl,h2⟩,fun b hb=>hF b (by simpa [fp,Pc.F,Pc.mu] using hb),hB⟩
theorem Bbr {W:Aw} {cl:Int} {hs:List Iu} (h:∀z∈hs,I8 W z.Ae=true):Ip W cl hs=Uu cl hs:=by
 unfold Ip Uu;refine eu fun z hz=>?_;rw [h z hz,bT];by_cases hc:cl < z.Cg
 ·rw [av hc,ay EV];rfl
 ·rw [ay hc,av EV];rfl
def M4 (x:Cs):Cs:=⟨x.Aa,x.Ai+1,Rt x.quiet,Ip x.Aa (x.Ai+1) x.holds⟩
theorem Af8 (x:Cs) (v:Value) (F:aq) (t0:0<=x.Aa.Am) (t1:x.Aa.Am<=65535) (hl:x.Aa.Ak.length<=6) (k0:0<=x.Ai) (k1:x.Ai<=99999) (q0:0<=x.quiet) (q3:x.quiet<=3) (hm:x.holds.length<=1000) (hn:Zj x.holds) :
  Fn prog 169 [v] [.isv El v x F] [] (fun (_:TiS)=>True) (fun s=>.tuple #[.agg #[aa (M4 x).Aa.Am,aa (M4 x).Aa.size,.slice s.a (M4 x).Aa.Ak.length s.c,aa (M4 x).Ai,aa (M4 x).quiet,.slice s.a2 (M4 x).holds.length s.c2],.slice s.ae (Nk x.Aa x.quiet).length s.ce])
   (fun s=>[.isv El (.agg #[aa (M4 x).Aa.Am,aa (M4 x).Aa.size,.slice s.a (M4 x).Aa.Ak.length s.c,aa (M4 x).Ai,aa (M4 x).quiet,.slice s.a2 (M4 x).holds.length s.c2]) (M4 x) s.F,.ow Al 141 (.slice s.ae (Nk x.Aa x.quiet).length s.ce) (Nk x.Aa x.quiet) s.Fe]):=by
 refine enter func169 rfl ntmps169 fun w0=>?_;refine Gn ?_;rintro a1 c1 F1 a2 c2 F2 rfl l1 l2;refine Cn x.Aa (a1:=a1) ?_;refine go ?_;intros;refine Be (Sr x.Aa _ F1 t0 t1 EV) fun y _=>?_;refine J0 ?_;rintro a5 c5 F5 e5 l5;rw [e5];have hH:=fun v a c F G=>Adv x.Aa x.holds (x.Ai+1) v a c F G t0 t1 EV hn;refine go ?_;intros;refine Av (xs:=x.Aa.Ak) fun F8=>?_;refine Cn x.Aa (a1:=a5) ?_;refine Ar [2,4] [] ?_;refine C8 0 1 2 3 ?_;refine C8 4 5 6 7 ?_;refine C8 8 9 10 11 ?_;refine dt 12 ?_;refine dM 13 15 ?_ ?_
 ·refine oC ?_;refine Be (hH _ a2 c2 _ _) fun z _=>?_;refine dk ?_;refine dt 14 ?_;refine dN 15 ?_;apply Ci;rfl;intro _;refine dk ?_;refine dN 16 ?_;refine oS ?_;refine dk ?_;refine dd ?_;refine go ?_;refine A1 rfl (fun h1=>?_) (fun h1=>?_)
  ·rw [show M4 x=⟨x.Aa,x.Ai+1,0,Ip x.Aa (x.Ai+1) x.holds⟩ from by unfold M4 Rt;rw [aC EV],show Nk x.Aa x.quiet=[Rs x.Aa] from aC EV];refine go ?_;refine Av (E:=Bx) fun F9=>?_;refine En ⟨x.Aa,x.Ai+1,0,Ip x.Aa (x.Ai+1) x.holds⟩ (a1:=a5) ?_;refine Ar [2,5] [] ?_;refine Dg 0 1 ?_;refine dN 2 ?_;refine oC ?_;refine Be (Z8 x.Aa.Am x.Aa.size _ x.Aa.Ak.length _ t0 t1 EV) fun _ _=>?_;refine dk ?_;refine dM 3 4 ?_ ?_
   ·apply Iz;rfl;rfl;rfl;rfl;exact Ir;exact Io;intro _;refine dk ?_;refine dN 4 ?_;refine oS ?_;exact AN
   ·refine oS ?_;refine dk ?_;refine dN 3 ?_;apply Iz;rfl;rfl;rfl;rfl;exact Ir;exact Io;intro _;exact AN
  ·exact BJ
 ·apply Ci;rfl;intro _;refine dk ?_;refine dN 13 ?_;refine oC ?_;refine Be (hH _ a2 c2 _ _) fun z _=>?_;refine dk ?_;refine dt 14 ?_;refine dN 16 ?_;refine oS ?_;refine dk ?_;refine dd ?_;refine go ?_;refine A1 rfl (fun h1=>?_) (fun h1=>?_)
  ·rw [show M4 x=⟨x.Aa,x.Ai+1,0,Ip x.Aa (x.Ai+1) x.holds⟩ from by unfold M4 Rt;rw [aC EV],show Nk x.Aa x.quiet=[Rs x.Aa] from aC EV];refine go ?_;refine Av (E:=Bx) fun F9=>?_;refine En ⟨x.Aa,x.Ai+1,0,Ip x.Aa (x.Ai+1) x.holds⟩ (a1:=a5) ?_;refine Ar [2,5] [] ?_;refine Dg 0 1 ?_;refine dN 2 ?_;refine oC ?_;refine Be (Z8 x.Aa.Am x.Aa.size _ x.Aa.Ak.length _ t0 t1 EV) fun _ _=>?_;refine dk ?_;refine dM 3 4 ?_ ?_
   ·apply Iz;rfl;rfl;rfl;rfl;exact Ir;exact Io;intro _;refine dk ?_;refine dN 4 ?_;refine oS ?_;exact AN
   ·refine oS ?_;refine dk ?_;refine dN 3 ?_;apply Iz;rfl;rfl;rfl;rfl;exact Ir;exact Io;intro _;exact AN
  ·exact BJ
theorem Azv {x:Cs} (hg:Cr x=true):M4 x=M3 x:=by unfold M4 M3;rw [Bbr (Atd hg)]
theorem Atw (x:Cs) (v:Value) (F:aq) (hg:Cr x=true) :
  Fn prog 169 [v] [.isv El v x F] [] (fun (_:TiS)=>True) (fun s=>.tuple #[.agg #[aa (M3 x).Aa.Am,aa (M3 x).Aa.size,.slice s.a (M3 x).Aa.Ak.length s.c,aa (M3 x).Ai,aa (M3 x).quiet,.slice s.a2 (M3 x).holds.length s.c2],.slice s.ae (Nk x.Aa x.quiet).length s.ce])
   (fun s=>[.isv El (.agg #[aa (M3 x).Aa.Am,aa (M3 x).Aa.size,.slice s.a (M3 x).Aa.Ak.length s.c,aa (M3 x).Ai,aa (M3 x).quiet,.slice s.a2 (M3 x).holds.length s.c2]) (M3 x) s.F,.ow Al 141 (.slice s.ae (Nk x.Aa x.quiet).length s.ce) (Nk x.Aa x.quiet) s.Fe]):=by
 obtain ⟨gw,hl,t0,t1,k0,k1,hm,hn,hu,hb⟩:=J9 hg;obtain ⟨q0,q3⟩:=Anx hg;have h:=Af8 x v F t0 t1 hl k0 EV q0 q3 EV (Ae7 hn);rw [Azv hg] at h;exact h
structure Hz where
 T6:Bool
 Dj:au
def Cv:Bw Hz where
 sz:=2
 Kz _ cs x F:=cs=[.bool x.T6,af x.Dj]/\x.Dj.size<=maxLen/\F=[]
 len h:=by obtain ⟨rfl,s1,rfl⟩:=h;rfl
 lt h:=by obtain ⟨rfl,s1,rfl⟩:=h;simp
 frame h _:=h
theorem I1:One Cv:=fun h u hu=>by
 obtain ⟨rfl,s1,rfl⟩:=h;simp only [aG,aT,bl] at hu;rcases hu with rfl|rfl
 ·rfl
 ·rfl
theorem Id:Aar Cv:=fun h=>by obtain ⟨rfl,s1,rfl⟩:=h;rfl
theorem Atk:(prog.info? 107).map (fun i=>(i.zero,i.size,i.bytes))=some (some (.agg #[.bool false,af ⟨#[]⟩]),2,24):=by kernel_rfl
structure Aj where
 next:Int
 Ao:List Hz
def Br:Bw Aj where
 sz:=2
 Kz w cs x F:=∃v1,cs=[aa x.next,v1]/\Sl Cv w v1 x.Ao F
 len h:=GQ
 lt h:=GP
 frame h hF:=FP
section
variable {c:Cx} {fr:Fr} {H:List Pc} {Φ:Gl}
theorem Ck {v:Value} {x:Aj} {F:aq} (h:∀(a1:aj) (c1:Nat) (F1:aq),v=.agg #[aa x.next,ab a1 x.Ao.length c1]->x.Ao.length<=maxLen->T c fr (.sl Cv (ab a1 x.Ao.length c1) x.Ao F1::H) Φ) (hm:.isv Br v x F∈H:=by exact Bn):T c fr H Φ:=.mk fun a w s g=>by
 exact AI
theorem Ce (x:Aj) {a1:aj} {c1:Nat} {F1:aq}  (h:T c fr (.isv Br (.agg #[aa x.next,ab a1 x.Ao.length c1]) x (F1)::H) Φ) (m1:.sl Cv (ab a1 x.Ao.length c1) x.Ao F1∈H:=by exact Bn):T c fr H Φ:=.mk fun a w s g=>by
 exact AE
end
section
variable {c:Cx} {fr:Fr} {H:List Pc} {Φ:Gl}
theorem Ayg {v:Value} {x:Hz} {F:aq} (h:∀(_:Unit),v=.agg #[.bool x.T6,af x.Dj]->x.Dj.size<=maxLen->T c fr (H) Φ) (hm:.isv Cv v x F∈H:=by exact Bn):T c fr H Φ:=.mk fun a w s g=>by
 obtain ⟨cs,rfl,rfl,s1,rfl⟩:=s.get hm;exact (h () rfl s1 ).h a w s g
theorem Oe {a:aj} {n cp:Nat} {xs:List Hz} {F:aq} (i:Nat) (h:∀(hi:i < xs.length) (b o:Nat),a=some ⟨b,o,none⟩->xs[i].Dj.size<=maxLen->T c fr (.cel b (o+i * 2) [.bool xs[i].T6,af xs[i].Dj]::H) Φ) (hm:.sl Cv (ab a n cp) xs F∈H:=by exact Bn) (hi:i < xs.length:=by omega):T c fr H Φ:=.mk fun ac w s g=>by
 exact CM
theorem Akr {t:TypeId} {a:aj} {n cp:Nat} {xs:List Hz} {F:aq} {S:List Pc} (i:Nat) (h:∀(_:i < xs.length) g A B,a=some ⟨g,0,none⟩->F=[g]->xs[i].Dj.size<=maxLen->Avz Cv t g (ab (some ⟨g,0,none⟩) n cp) xs i A B->T c fr (.row g t (0+i * 2) A [.bool xs[i].T6,af xs[i].Dj] B::S) Φ) (hp:C2 H (.ow Cv t (ab a n cp) xs F) S:=by exact Dr) (hi:i < xs.length:=by omega):T c fr H Φ :=
 Rm Id i (fun hi g A cs B ha hF hr hh=>by obtain ⟨rfl,s1, -⟩:=hr default;exact h hi g A B ha hF s1 hh) hp rfl hi
end
theorem Afd (fid:FuncId) (hbd:Y0 prog fid) (caps:Array Value) (v:Value) (xs:List Hz) (F:aq) (p:Hz->Bool) (w:World) (h:Sl Cv w v xs F)
  (hp:∀(k:Nat) (hk:k < xs.length) (wr:World) (u:Value) (G:aq),Below w.heap.size w wr->Ru Cv wr u xs[k] G->Calls prog fid (#[u]++caps) wr fun e w'=>e=.returned (.bool (p xs[k]))/\Below wr.heap.size wr w') :
  Calls prog 326 #[v,.func (.func fid) #[] caps] w (RB (aa (Rl p xs)) w):=by
 obtain ⟨a,cap,rfl⟩:=h.slice;have hl:=h.len;unfold maxLen at hl
 go_enter func326,ntmps326
 go_wp2
 go_loopw [5,8] (fun _ i wr=>∃k:Nat,k<=xs.length/\i=aa k/\Hid (∀j,j < k->∀hj:j < xs.length,p xs[j]=false)/\Below w.heap.size w wr) (fun _ i _=>xs.length - (intOf i).toNat)
 case atStart=>exact ⟨0,aE _,rfl,fun j hj=>by omega,Below.refl _ _⟩
 case round =>
  obtain ⟨k,hk,rfl,hz,hB⟩:=hrel;by_cases hlt:k < xs.length
  ·have hz0:=hz;clear hz;obtain ⟨b,off,_,F1,rfl,hx, -,ja⟩:=(h.below EW hB).at k hlt;obtain ⟨rfl,s1,rfl⟩:=id hx;have a0:=ja 0 EW;have a1:=ja 1 EW;simp only [show Cv.sz=2 from rfl,cS,bN,bH,bF] at a0 a1;clear ja;have hr:=hp k hlt wr _ _ hB ⟨_,rfl,hx⟩;have hp:=Lib.hid hp;cases hpk:p xs[k]
   all_goals
    rw [hpk] at hr;have hpk:=Lib.hid hpk;have hr:=Lib.hid hr;go_wp2_with fail;refine hbd.upon hr.out ?_;rintro e w1 ⟨rfl,hb1⟩;refine ⟨_,rfl,?_⟩;have hB:=tr hB hb1 (aK _);clear hb1;go_wp2_with fail
   ·exact AV
   ·go_ret
    exact EJ
  ·go_wp2
   go_ret
   exact DG
theorem Aam (fid:FuncId) (hbd:Y0 prog fid) (caps:Array Value) (v:Value) (xs:List Hz) (F:aq) (p:Hz->Bool) (w:World) (h:Sl Cv w v xs F)
  (hp:∀(k:Nat) (hk:k < xs.length) (wr:World) (u:Value) (G:aq),Below w.heap.size w wr->Ru Cv wr u xs[k] G->Calls prog fid (#[u]++caps) wr fun e w'=>e=.returned (.bool (p xs[k]))/\Below wr.heap.size wr w') :
  Calls prog 283 #[v,.func (.func fid) #[] caps] w (RB (.bool (xs.any p)) w):=by
 have hp:=Lib.hid hp
 go_enter func283,ntmps283
 go_wp2_with fail;refine (Afd fid hbd caps v xs F p _ h hp.out).mono ?_;rintro e w1 ⟨rfl,hb1⟩;go_wp2_with fail
 go_ret
 exact ⟨Co (S8 p xs),hb1⟩
theorem Zk (v:Value) (xs:List Hz) (F:aq) (w:World) (h:Sl Cv w v xs F) (hm:xs.length<=4294967296) :
  Calls prog 253 #[v] w (W8 Cv 107 xs w):=by
 obtain ⟨ao,c,news,Fy,rfl,hl,hfy,hFy,hsrc⟩:=h.src;have hFl:=hfy.lt;have he:=fun w (a:aj) (n c:Nat)=>Lib.run_eql_slice_nil (P:=prog) w 71 _ a n c 0 0 underlying71
 go_enter func253,ntmps253
 rcases hsrc with ⟨rfl,rfl,rfl⟩|⟨ad,rfl,hn⟩
 ·go_wp2
  go_ret
  exact CC
 ·go_wp2_with (at_builtin;refine O7 I1 EW FH _ _ _ FH 107 (.agg #[.bool false,af ⟨#[]⟩]) 24 underlying71 Atk rfl (ab (some ⟨w.heap.size,0,none⟩) 0 0) [] [w.heap.size] FH (Ow.empty (If.made _ _ _)) (Hd.one _) (some ad) xs c FH news Fy (hfy.frame fun b hb=>Below.heap_alloc _ _ _ (hFl b hb)) (.inr ⟨ad,rfl,fun j u hu=>kc ((Below.refl _ _).alloc (aK _) _) (hn j u hu)⟩) (fun b hb e=>by have:=hFl b hb;simp [Value.ownBlock] at e;omega) GU GR ?_);intro v2 w2 F2 hA;go_wp2_with fail
  go_ret
  have hB:Below w.heap.size w w2:=((Below.refl _ _).alloc (aK _) _).trans (hA.I5.below EX EX);have hs:∀b,v2.ownBlock=some b->w.heap.size<=b:=fun b hb=>by rcases hA.Aqm with e|e <;> rw [e] at hb <;> simp [Value.ownBlock] at hb <;> omega
  refine ⟨v2,F2,rfl,II,hA.ow.scal Id▸?_,fun b hb=>?_,hB⟩
  ·cases v2.ownBlock <;> simp
  ·rw [hA.ow.scal Id] at hb;exact hs b IU
def Hc (s:Hz):Bool:=Pk s.Dj && (s.T6 || decide (s.Dj=⟨#[]⟩))
def Jt (l:List Hz) (k:Nat):Bool:=match l[k]? with|some s=>s.T6|none=>false
def Wr (l:List Hz):Bool:=decide (l.length=0) || (!Jt l 0 && Jt l (l.length - 1))
def Cy (x:Aj):Bool:=B8 x.next && decide ((x.Ao.length:Int)<=8) && x.Ao.all Hc && Wr x.Ao
theorem Lm {l:List Hz} {k:Nat} (h:k < l.length):Jt l k=l[k].T6:=by unfold Jt;rw [aD h]
theorem Q6 {l:List Hz} {k:Nat} (h:l.length<=k):Jt l k=false:=by unfold Jt;rw [bn h]
def I2 (x:Aj) (k:Int):Bool:=Jt x.Ao (gp x.next k).toNat
theorem Aaq (x:Aj) (k:Int) (v:Value) (F:aq) (h0:0<=x.next) (h1:x.next<=65535) (h2:0<=k) (h3:k<=65535) :
  FV 229 [v,aa k] [.isv Br v x F] (.bool (I2 x k)):=by
 refine enter func229 rfl ntmps229 fun w0=>?_;refine Ck ?_;rintro a1 c1 F1 rfl l1;unfold maxLen at l1;have hg:=Ll x.next k
 refine go ?_;intros;refine ce (fun w s=>Pf _ _ _ EV EV EV EV) ?_;refine go ?_;refine Dc rfl rfl (fun h=>?_) (fun h=>?_)
 ·refine Oe (gp x.next k).toNat ?_;rintro hi b o rfl s1;refine go ?_;refine ret () trivial ?_;unfold I2;rw [Lm hi];rfl
 ·refine go ?_;refine ret () trivial ?_;unfold I2;rw [Q6 EV];rfl
theorem Bd4 (x:Hz) (v:Value) (F:aq):FV 284 [v] [.isv Cv v x F] (.bool (!Hc x)):=by
 refine enter func284 rfl ntmps284 fun w0=>?_;refine Ayg ?_;rintro _ rfl s1;refine go ?_;intros;refine cb (fun w s=>Aa7 _ _ s1) ?_;cases g:Pk x.Dj
 ·refine go ?_;refine ret () trivial ?_;simp [Hc,g,Tp]
 refine go ?_;cases g2:x.T6
 ·refine go ?_;refine ret () trivial ?_;simp [Hc,g,g2,Tp]
 ·refine go ?_;refine ret () trivial ?_;simp [Hc,g,g2,Tp]
theorem Av6 (x:Aj) (v:Value) (F:aq):FV 225 [v] [.isv Br v x F] (.bool (Cy x)):=by
 refine enter func225 rfl ntmps225 fun w0=>?_;refine Ck ?_;rintro a1 c1 F1 rfl l1;unfold maxLen at l1;refine go ?_;intros;refine ce (fun w s=>Ja _ _) ?_;cases g1:B8 x.next
 ·refine go ?_;refine ret () trivial ?_;simp [Cy,g1,Tp]
 refine go ?_;refine A1 rfl (fun h=>?_) (fun h=>?_)
 ·refine go ?_;refine ret () trivial ?_;simp [Cy,g1,Tp];omega
 refine go ?_;refine cb (fun w s=>Aam _ (.mk' func284 rfl rfl) #[] _ x.Ao F1 (fun s=>!Hc s) _ (s.get (p:=.sl Cv (ab a1 x.Ao.length c1) x.Ao F1) EX).2 ?_) ?_
 ·intro k hk wr u G _ hu;exact (Bd4 x.Ao[k] u G).val wr (I4 hu)
 cases g2:x.Ao.all Hc
 ·have:(x.Ao.any fun s=>!Hc s)=true:=by rw [<-ei,g2];rfl
  rw [this];refine go ?_;refine ret () trivial ?_;simp [Cy,g2,Tp]
 have hx:(x.Ao.any fun s=>!Hc s)=false:=by rw [<-ei,g2];rfl
 rw [hx];refine go ?_;have g3:Cy x=Wr x.Ao:=by simp [Cy,g1,g2];omega
 refine Dc rfl rfl (fun h=>?_) (fun h=>?_)
 ·refine go ?_;refine ret () trivial ?_;rw [g3];have:x.Ao.length=0:=EV
  simp [Wr,this,Tp]
 refine Oe 0 ?_;rintro hi b o rfl s1;refine go ?_;cases g4:x.Ao[0].T6
 rotate_left
 ·refine go ?_;refine ret () trivial ?_;rw [g3];unfold Wr;rw [Lm hi,g4,ay EV];rfl
 refine Oe (x.Ao.length - 1) ?_;rintro hi2 b2 o2 e s2;cases e;refine go ?_;have hl:((x.Ao.length:Int) - 1).toNat=x.Ao.length - 1:=EV
 rw [hl];refine go ?_;refine ret () trivial ?_;rw [g3];unfold Wr;rw [Lm hi,Lm hi2,g4,ay EV];rfl
theorem Bgm (s:au):(decide ((s.size:Int)<=8) && T7 s.data.toList)=Pk s:=rfl
theorem Y8 {α:Type} {p:α->Bool} {l:List α} {k:Nat} (h:k < l.length):(l.take (k+1)).all p=((l.take k).all p && p l[k]):=by
 rw [aR h,dV];simp
theorem Afh {α:Type} {p:α->Bool} {l:List α} {k:Nat} (h:k < l.length) (hp:p l[k]=false):l.all p=false:=by
 rw [cP];exact ⟨l[k],aB h,HD⟩
theorem Atr (x:Aj) (v:Value) (F:aq):FV 270 [v] [.isv Br v x F] (.bool (Cy x)):=by
 refine enter func270 rfl ntmps270 fun w0=>?_;refine Ck ?_;rintro a1 c1 F1 rfl l1;unfold maxLen at l1;refine go ?_;intros;refine ce (fun w s=>Nw _ _) ?_;cases g1:B8 x.next
 ·refine go ?_;refine ret () trivial ?_;simp [Cy,g1,Tp]
 refine go ?_;refine A1 rfl (fun h=>?_) (fun h=>?_)
 ·refine go ?_;refine ret () trivial ?_;simp [Cy,g1,Tp];omega
 refine go ?_;refine Dk [1,2,3] (fun k:Nat=>[(4,aa k)]) (fun k=>k<=x.Ao.length/\(x.Ao.take k).all Hc=true) (fun k=>x.Ao.length - k) 0 ⟨aE _,rfl⟩ fun k hk=>?_;obtain ⟨hk1,hk2⟩:=hk;refine go ?_;refine A1 rfl (fun h3=>?_) (fun h3=>?_)
 ·have hk3:k < x.Ao.length:=EV
  refine Oe k ?_;rintro hi b o e s1;cases e;refine go ?_;refine ce (fun w s=>Q7 _ _ _ s1) ?_;rw [Bgm];cases g2:Pk x.Ao[k].Dj
  ·refine go ?_;refine ret () trivial ?_;have:x.Ao.all Hc=false:=Afh hk3 (by simp [Hc,g2]);simp [Cy,this,Tp]
  refine go ?_;cases g3:x.Ao[k].T6
  rotate_left
  ·refine go ?_;refine Cb (k+1) ⟨EV,by rw [Y8 hk3,hk2];simp [Hc,g2,g3]⟩ EV
  refine go ?_;refine A1 rfl (fun g4=>?_) (fun g4=>?_)
  ·refine go ?_;refine ret () trivial ?_;have:x.Ao.all Hc=false:=Afh hk3 (by simp [Hc,g2,g3,g4]);simp [Cy,this,Tp]
  ·refine go ?_;simp only [cX] at g4;have ho:Hc x.Ao[k]=true:=by unfold Hc;rw [g2,g3,av g4];rfl
   refine Cb (k+1) ⟨EV,by rw [Y8 hk3,hk2,ho];rfl⟩ EV
 have hkl:k=x.Ao.length:=EV
 subst hkl;rw [bm] at hk2;have g3:Cy x=Wr x.Ao:=by simp [Cy,g1,hk2];omega
 refine go ?_;refine Dc rfl rfl (fun h4=>?_) (fun h4=>?_)
 ·refine go ?_;refine ret () trivial ?_;rw [g3];have:x.Ao.length=0:=EV
  simp [Wr,this,Tp]
 refine Oe 0 ?_;rintro hi b o e s1;cases e;refine go ?_;cases g4:x.Ao[0].T6
 rotate_left
 ·refine go ?_;refine ret () trivial ?_;rw [g3];unfold Wr;rw [Lm hi,g4,ay EV];rfl
 refine Oe (x.Ao.length - 1) ?_;rintro hi2 b2 o2 e s2;cases e;refine go ?_;have hl:((x.Ao.length:Int) - 1).toNat=x.Ao.length - 1:=EV
 rw [hl];refine go ?_;refine ret () trivial ?_;rw [g3];unfold Wr;rw [Lm hi,Lm hi2,g4,ay EV];rfl
def Agr (s:au):au:=⟨#[43]⟩++s
def Anf:au:=⟨#[45]⟩
def Gh (l:List Hz):au:=match l with|[]=>Anf|s::_=>if s.T6 then Agr s.Dj else Anf
theorem Ac7 {l:List Hz} (hi:0 < l.length) (h:l[0].T6=true):Gh l=Agr l[0].Dj:=by
 cases l with
 | nil=>simp at hi
 | cons s r=>simp at h;simp [Gh,h]
theorem Ajx {l:List Hz} (hi:0 < l.length) (h:l[0].T6=false):Gh l=Anf:=by
 cases l with
 | nil=>simp at hi
 | cons s r=>simp at h;simp [Gh,h]
def rel:Int->List Hz->Int × List Hz × ai
 | n,[]=>(n,[],[])
 | n,s::r=>if s.T6 then ((rel (Cd n 1) r).1,(rel (Cd n 1) r).2.1,Agr s.Dj::(rel (Cd n 1) r).2.2) else (n,s::r,[])
theorem Be5 {n:Int} {l:List Hz} (h:Jt l 0=false):rel n l=(n,l,[]):=by
 cases l with
 | nil=>rfl
 | cons s r=>have:s.T6=false:=h;simp [rel,this]
theorem Bcm {n:Int} {l:List Hz} (h:Jt l 0=true):rel n l=((rel (Cd n 1) (l.drop 1)).1,(rel (Cd n 1) (l.drop 1)).2.1,Gh l::(rel (Cd n 1) (l.drop 1)).2.2):=by
 cases l with
 | nil=>cases h
 | cons s r=>have:s.T6=true:=h;simp [rel,Gh,this]
theorem Be1 {w:World} {a:aj} {c:Nat} {x:Aj} {F:aq} (h:(Pc.ow Cv 107 (ab a x.Ao.length c) x.Ao F).P w):∃F',(Pc.isv Br (.agg #[aa x.next,ab a x.Ao.length c]) x F').P w:=by
 obtain ⟨F', -,hs⟩:=h.2.read;exact ⟨F',_,rfl,_,rfl,hs⟩
theorem Ask (x:Aj) (v:Value) (F:aq) (hl:x.Ao.length<=4294967296):Fn prog 184 [v] [.isv Br v x F] [] (fun (_:aj × Nat × aq)=>True)
  (fun s=>.agg #[aa x.next,ab s.1 x.Ao.length s.2.1]) (fun s=>[.ow Cv 107 (ab s.1 x.Ao.length s.2.1) x.Ao s.2.2]):=by
 refine enter func184 rfl ntmps184 fun w0=>?_;refine Ck ?_;rintro a1 c1 F1 rfl l1;refine go ?_;intros;refine cn (fun w s=>Zk _ _ _ _ (s.get (p:=.sl Cv (ab a1 x.Ao.length c1) x.Ao F1) EX).2 hl) fun a cp F'=>?_;refine go ?_;refine ret (a,cp,F') trivial rfl
theorem Aia (x:Aj) (g t o:Nat) (A B:am) (a:aj) (cc:Nat) (F:aq) (h0:0<=x.next) (h1:x.next<=65535) (hl:x.Ao.length<=4294967296) (hs:∀s∈x.Ao,s.Dj.size<=8) :
  Fn prog 344 [Gc g o 0] [] [.row g t o A [aa x.next,ab a x.Ao.length cc] B,.ow Cv 107 (ab a x.Ao.length cc) x.Ao F] (fun (_:aj × Nat × aq)=>True)
   (fun _=>af (Gh x.Ao)) (fun s=>[.row g t o A [aa (Cd x.next 1),.slice s.1 (x.Ao.drop 1).length s.2.1] B,.ow Cv 107 (.slice s.1 (x.Ao.drop 1).length s.2.1) (x.Ao.drop 1) s.2.2]):=by
 refine enter func344 rfl ntmps344 fun w0=>?_;refine go ?_;refine A1 rfl (fun h=>?_) (fun h=>?_)
 ·refine Av fun F'=>?_;refine Oe 0 ?_;rintro hi b o2 e s1;cases e;refine go ?_;have s8:=hs _ (aB hi);have s9:(⟨#[43]⟩:au).size=1:=rfl;cases g1:x.Ao[0].T6
  ·refine go ?_;apply wO;refine sld 1 fun a2 c2 F2=>?_;refine go ?_;refine cn (fun w s=>Zk _ _ _ _ (s.get (p:=.sl Cv (.slice a2 (x.Ao.drop 1).length c2) (x.Ao.drop 1) F2) EX).2 FB) fun a3 c3 F3=>?_;refine go ?_;refine ce (fun w s=>Rv _ _ _ EV EV) ?_;refine go ?_;refine ret (a3,c3,F3) trivial ?_;rw [Ajx hi g1];rfl
  ·refine go ?_;apply wO;refine sld 1 fun a2 c2 F2=>?_;refine go ?_;refine cn (fun w s=>Zk _ _ _ _ (s.get (p:=.sl Cv (.slice a2 (x.Ao.drop 1).length c2) (x.Ao.drop 1) F2) EX).2 FB) fun a3 c3 F3=>?_;refine go ?_;refine ce (fun w s=>Rv _ _ _ EV EV) ?_;refine go ?_;refine ret (a3,c3,F3) trivial ?_;rw [Ac7 hi g1];rfl
 ·obtain ⟨n,l⟩:=x;obtain rfl:l=[]:=bE FF;refine go ?_;refine ce (fun w s=>Rv _ _ _ EV EV) ?_;refine go ?_;refine ret (a,cc,F) trivial rfl
def Pj (x:Aj):Aj:=⟨(rel x.next x.Ao).1,(rel x.next x.Ao).2.1⟩
def Rc (x:Aj):ai:=(rel x.next x.Ao).2.2
def Y6 (x:Aj):Aj:=⟨Cd x.next 1,x.Ao.drop 1⟩
theorem Abh {x:Aj} (h:Jt x.Ao 0=false):Pj x=x/\Rc x=[]:=by unfold Pj Rc;rw [Be5 h];exact ⟨rfl,rfl⟩
theorem Ak7 {x:Aj} (h:Jt x.Ao 0=true):Pj x=Pj (Y6 x)/\Rc x=Gh x.Ao::Rc (Y6 x):=by unfold Pj Rc;rw [Bcm h];exact ⟨rfl,rfl⟩
theorem Sd {l:List Hz} (h:∀s∈l,s.Dj.size<=8):(Gh l).size<=9:=by
 cases l with
 | nil=>decide
 | cons s r =>
  have:=h s EX;unfold Gh;dsimp only
  split
  ·unfold Agr;rw [aQ];show 1+s.Dj.size<=9;omega
  ·decide
theorem Atj (y:Aj):I2 y y.next=Jt y.Ao 0:=by
 unfold I2 gp;rw [Int.sub_self];rfl
theorem Tx (s:au) (h:s.size<=maxLen) (w:World):Cw A8 w [af s] [s] []:=⟨_,[],[],[],EX,EX,⟨rfl,h,rfl⟩,rfl,rfl⟩
structure Ab6 where
 es:ai
 y:Aj
 a:aj
 c:Nat
 F:aq
 ae:aj
 ce:Nat
 Fe:aq
structure Bdj (x:Aj) (s:Ab6):Prop where
 n0:0<=s.y.next
 n1:s.y.next<=65535
 it:∀z∈s.y.Ao,z.Dj.size<=8
 ln:s.es.length+s.y.Ao.length<=x.Ao.length
 w:Pj x=Pj s.y
 e:Rc x=s.es++Rc s.y
theorem Adk (x:Aj) (g t o:Nat) (A B:am) (a:aj) (cc:Nat) (F:aq) (h0:0<=x.next) (h1:x.next<=65535) (hl:x.Ao.length<=1000000) (hs:∀s∈x.Ao,s.Dj.size<=8) :
  Fn prog 345 [Gc g o 0] [] [.row g t o A [aa x.next,ab a x.Ao.length cc] B,.ow Cv 107 (ab a x.Ao.length cc) x.Ao F] (fun (s:Ab6)=>s.y=Pj x/\s.es=Rc x)
   (fun s=>ab s.ae s.es.length s.ce) (fun s=>[.row g t o A [aa s.y.next,ab s.a s.y.Ao.length s.c] B,.ow Cv 107 (ab s.a s.y.Ao.length s.c) s.y.Ao s.F,.ow A8 9 (ab s.ae s.es.length s.ce) s.es s.Fe]):=by
 refine enter func345 rfl ntmps345 fun w0=>?_;refine go ?_;refine Cj A8 9 ?_;refine Ca [0,2] (fun s:Ab6=>[(3,ab s.ae s.es.length s.ce)]) (fun s=>[.row g t o A [aa s.y.next,ab s.a s.y.Ao.length s.c] B,.ow Cv 107 (ab s.a s.y.Ao.length s.c) s.y.Ao s.F,.ow A8 9 (ab s.ae s.es.length s.ce) s.es s.Fe]) (Bdj x) (fun s=>s.y.Ao.length) ⟨[],x,a,cc,F,none,0,[]⟩ ⟨h0,h1,hs,EX,rfl,rfl⟩ fun s hC=>?_;obtain ⟨n0,n1,hit,hln,hw,he⟩:=hC;refine go ?_;refine Ar [0] [] ?_;refine C8 0 1 2 3 ?_;refine Dg 4 5 ?_;refine dt 6 ?_;refine dN 7 ?_;refine oC ?_;refine cb (fun w st=>by
  obtain ⟨F',h⟩:=Be1 (st.get (p:=.ow Cv 107 (ab s.a s.y.Ao.length s.c) s.y.Ao s.F) EX);exact (Aaq s.y s.y.next _ F' n0 n1 n0 n1).val w (I4 h)) ?_
 refine dk ?_;refine dd ?_;rw [Atj];cases hv:Jt s.y.Ao 0
 ·refine go ?_;refine ret s ⟨by rw [hw,(Abh hv).1],by rw [he,(Abh hv).2,bg]⟩ rfl
 refine go ?_;refine cf (Aia s.y g t o A B s.a s.c s.F n0 n1 EV hit) fun z _=>?_;obtain ⟨az,cz,Fz⟩:=z;refine Oz ?_;have hsz:=Sd hit;have hmx:(Gh s.y.Ao).size<=maxLen:=FC
 have hlt:0 < s.y.Ao.length:=by
  rcases cm s.y.Ao.length with h|h
  ·rw [Q6 EV] at hv;cases hv
  ·exact h
 have hll:s.es.length+1<=1000000:=EV
 refine go ?_;intros;apply wO;refine Np (Tx _ hmx) Dz fun a' c' F'=>?_;refine go ?_;refine Cb ⟨s.es++[Gh s.y.Ao],Y6 s.y,az,cz,Fz,a',c',F'⟩ ⟨(Jb _ _).1,(Jb _ _).2,fun z hz=>hit z (bq hz),HO,by rw [hw,(Ak7 hv).1],by rw [he,(Ak7 hv).2];simp⟩ HO
def zsl:Hz:=⟨false,⟨#[]⟩⟩
def Mi (x:Aj) (j:Nat):List Hz:=x.Ao++List.replicate j zsl
theorem Om (x:Aj) (j:Nat):(Mi x j).length=x.Ao.length+j:=by simp [Mi]
def Md (x:Aj) (k:Nat) (s:Hz):List Hz:=(Mi x (k+1 - x.Ao.length)).set k s
def Gs (x:Aj) (n:Int):Bool:=To n x.next || I2 x n
def Ng (x:Aj) (n:Int):Bool:=Gs x n || decide (gp x.next n < 8)
def Y5 (x:Aj) (n:Int) (s:au):Aj:=⟨x.next,Md x (gp x.next n).toNat ⟨true,s⟩⟩
def L8 (x:Aj) (n:Int) (s:au):Aj:=if Gs x n || !decide (gp x.next n < 8) then x else Pj (Y5 x n s)
def Lu (x:Aj) (n:Int) (s:au):ai:=if Gs x n || !decide (gp x.next n < 8) then [] else Rc (Y5 x n s)
def Ew (a b:Int):Nat:=if To a b then (gp a b).toNat else 0
def I3:Nat->Aj->Aj
 | 0,y=>y
 | k+1,y=>I3 k (Y6 y)
def N8:Nat->Aj->ai
 | 0,_=>[]
 | k+1,y=>Gh y.Ao::N8 k (Y6 y)
theorem Aj2 {a b:Int} (h:To a b=false):Ew a b=0:=by unfold Ew;rw [h];rfl
theorem Ahe {a b:Int} (h:To a b=true):Ew a b=Ew (Cd a 1) b+1:=by
 unfold Ew;rw [h];unfold To Ff gp Cd at *;simp only [aw,aF,if_true] at h ⊢
 split <;> omega
theorem Aj1 (a b:Int):Ew a b<=32767:=by
 unfold Ew
 split
 ·rename_i h;unfold To Ff at h;simp only [aw,aF] at h;omega
 ·omega
theorem Agw (s:Hz) (h:s.Dj.size<=maxLen) (w:World):Cw Cv w [.bool s.T6,af s.Dj] [s] []:=⟨_,[],[],[],EX,EX,⟨rfl,h,rfl⟩,rfl,rfl⟩
theorem Aad {x:Aj} {k:Nat} (hs:∀s∈x.Ao,s.Dj.size<=8) {s:Hz} (hi:s.Dj.size<=8):∀z∈Md x k s,z.Dj.size<=8:=fun z hz=>by
 unfold Md at hz;rcases bC hz with h|rfl
 ·unfold Mi at h;rcases aJ.1 h with h|h
  ·exact hs z h
  ·rw [(fm.1 h).2];decide
 ·exact hi
structure Bd3 where
 j:Nat
 a:aj
 c:Nat
 F:aq
theorem Av7 (x:Aj) (n:Int) (Dj:au) (g t o:Nat) (A B:am) (a:aj) (cc:Nat) (F:aq) (h0:0<=x.next) (h1:x.next<=65535) (h2:0<=n) (h3:n<=65535) (hl:x.Ao.length<=8) (hs:∀s∈x.Ao,s.Dj.size<=8) (hi:Dj.size<=8) :
  Fn prog 363 [Gc g o 0,aa n,af Dj] [] [.row g t o A [aa x.next,ab a x.Ao.length cc] B,.ow Cv 107 (ab a x.Ao.length cc) x.Ao F] (fun (s:Ab6)=>s.y=L8 x n Dj/\s.es=Lu x n Dj)
   (fun s=>.tuple #[ab s.ae s.es.length s.ce,.bool (Ng x n)]) (fun s=>[.row g t o A [aa s.y.next,ab s.a s.y.Ao.length s.c] B,.ow Cv 107 (ab s.a s.y.Ao.length s.c) s.y.Ao s.F,.ow A8 9 (ab s.ae s.es.length s.ce) s.es s.Fe]):=by
 have hg:=Ll x.next n
 refine enter func363 rfl ntmps363 fun w0=>?_;refine go ?_;refine ce (fun w s=>Ns _ _ _ EV EV EV EV) ?_;cases g1:To n x.next
 rotate_left
 ·refine go ?_;refine Cj A8 9 ?_;refine ret ⟨[],x,a,cc,F,none,0,[]⟩ ⟨by simp [L8,Gs,g1],by simp [Lu,Gs,g1]⟩ ?_;simp [Ng,Gs,g1,Tp]
 refine go ?_;refine cb (fun w st=>by
  obtain ⟨F',h⟩:=Be1 (st.get (p:=.ow Cv 107 (ab a x.Ao.length cc) x.Ao F) EX);exact (Aaq x n _ F' h0 h1 h2 h3).val w (I4 h)) ?_
 cases g2:I2 x n
 rotate_left
 ·refine go ?_;refine Cj A8 9 ?_;refine ret ⟨[],x,a,cc,F,none,0,[]⟩ ⟨by simp [L8,Gs,g1,g2],by simp [Lu,Gs,g1,g2]⟩ ?_;simp [Ng,Gs,g1,g2,Tp]
 refine go ?_;refine ce (fun w s=>Pf _ _ _ EV EV EV EV) ?_;refine go ?_;refine A1 rfl (fun h8=>?_) (fun h8=>?_)
 ·refine go ?_;refine Cj A8 9 ?_;have h9:¬gp x.next n < 8:=EV
  refine ret ⟨[],x,a,cc,F,none,0,[]⟩ ⟨by simp [L8,h9],by simp [Lu,h9]⟩ ?_;simp [Ng,Gs,g1,g2,h9,Tp]
 have hW:L8 x n Dj=Pj (Y5 x n Dj):=by unfold L8 Gs;rw [g1,g2,av EV];rfl
 have hE:Lu x n Dj=Rc (Y5 x n Dj):=by unfold Lu Gs;rw [g1,g2,av EV];rfl
 have hO:Ng x n=true:=by unfold Ng;rw [av (show gp x.next n < 8 by omega)];simp
 unfold Y5 at hW hE;obtain ⟨k,hk⟩:∃k:Nat,gp x.next n=k:=⟨(gp x.next n).toNat,EV⟩
 rw [hk] at hW hE ⊢;rw [bc] at hW hE;refine go ?_;refine Ca [0,2,6,7,8] (fun s:Bd3=>[]) (fun s=>[.row g t o A [aa x.next,.slice s.a (Mi x s.j).length s.c] B,.ow Cv 107 (.slice s.a (Mi x s.j).length s.c) (Mi x s.j) s.F]) (fun s=>s.j<=k+1 - x.Ao.length) (fun s=>k+1 - x.Ao.length - s.j) ⟨0,a,cc,F⟩ (aE _) (fun s hj=>?_) (hH:=KL);have hpl:=Om x s.j;refine go ?_;refine A1 rfl (fun h9=>?_) (fun h9=>?_)
 ·refine go ?_;intros;apply wO;refine Np (Agw zsl EW) I1 fun a' c' F'=>?_;refine go ?_;have e:Mi x s.j++[zsl]=Mi x (s.j+1):=by simp [Mi,eL]
  exact CY
 have hjk:s.j=k+1 - x.Ao.length:=EV
 refine go ?_;have hkl:k < (Mi x s.j).length:=EV
 refine Akr k ?_;rintro hi2 g2 A2 B2 e eF hs2 hh;rw [e];refine Ih ?_;intros;refine P5 (⟨true,Dj⟩:Hz) hh (fun w=>⟨rfl,JC,rfl⟩) ?_;have hsl:(Mi x s.j).length=((Mi x s.j).set k ⟨true,Dj⟩).length:=by rw [bQ]
 rw [hsl];have hpu:(Mi x s.j).set k ⟨true,Dj⟩=Md x k ⟨true,Dj⟩:=by unfold Md;rw [hjk]
 rw [hpu];have hpl2:(Md x k ⟨true,Dj⟩).length<=1000:=by unfold Md;rw [bQ,Om];omega
 have hps:=Aad (x:=x) (k:=k) hs (s:=⟨true,Dj⟩) hi;refine go ?_;refine Be (Adk ⟨x.next,Md x k ⟨true,Dj⟩⟩ g t o A B _ _ _ h0 h1 (by show (Md x k ⟨true,Dj⟩).length<=_;omega) hps) fun z hz=>?_;refine go ?_;refine ret z ⟨by rw [hz.1,hW],by rw [hz.2,hE]⟩ ?_;rw [hO];rfl
structure Avy (x:Aj) (n:Int) (s:Ab6):Prop where
 n0:0<=s.y.next
 n1:s.y.next<=65535
 it:∀z∈s.y.Ao,z.Dj.size<=8
 ln:s.y.Ao.length<=x.Ao.length
 le:s.es.length+Ew s.y.next n<=Ew x.next n
 w:I3 (Ew x.next n) x=I3 (Ew s.y.next n) s.y
 e:N8 (Ew x.next n) x=s.es++N8 (Ew s.y.next n) s.y
theorem An1 (x:Aj):(Rc x).length<=x.Ao.length:=by
 unfold Rc;have:∀(l:List Hz) n,(rel n l).2.2.length<=l.length:=by
  intro l
  induction l with
  | nil=>intro n;simp [rel]
  | cons s r ih=>intro n;unfold rel;split;simp;exact ih _;simp
 exact this _ _
theorem Al1 (x:Aj) (n:Int) (g t o:Nat) (A B:am) (a:aj) (cc:Nat) (F:aq) (h0:0<=x.next) (h1:x.next<=65535) (h2:0<=n) (h3:n<=65535) (hl:x.Ao.length<=8) (hs:∀s∈x.Ao,s.Dj.size<=8) :
  Fn prog 313 [Gc g o 0,aa n] [] [.row g t o A [aa x.next,ab a x.Ao.length cc] B,.ow Cv 107 (ab a x.Ao.length cc) x.Ao F] (fun (s:Ab6)=>s.y=Pj (I3 (Ew x.next n) x)/\s.es=N8 (Ew x.next n) x++Rc (I3 (Ew x.next n) x))
   (fun s=>ab s.ae s.es.length s.ce) (fun s=>[.row g t o A [aa s.y.next,ab s.a s.y.Ao.length s.c] B,.ow Cv 107 (ab s.a s.y.Ao.length s.c) s.y.Ao s.F,.ow A8 9 (ab s.ae s.es.length s.ce) s.es s.Fe]):=by
 have hgn:=Aj1 x.next n
 refine enter func313 rfl ntmps313 fun w0=>?_;refine go ?_;refine Cj A8 9 ?_;refine Ca [0,1,4] (fun s:Ab6=>[(5,ab s.ae s.es.length s.ce)]) (fun s=>[.row g t o A [aa s.y.next,ab s.a s.y.Ao.length s.c] B,.ow Cv 107 (ab s.a s.y.Ao.length s.c) s.y.Ao s.F,.ow A8 9 (ab s.ae s.es.length s.ce) s.es s.Fe]) (Avy x n) (fun s=>Ew s.y.next n) ⟨[],x,a,cc,F,none,0,[]⟩ ⟨h0,h1,hs,aK _,EX,rfl,rfl⟩ fun s hC=>?_;obtain ⟨n0,n1,hit,hln,hle,hw,he⟩:=hC;refine go ?_;refine ce (fun w s=>Ns _ _ _ EV EV EV EV) ?_;cases hb:To s.y.next n
 ·refine go ?_;rw [Aj2 hb] at hw he;refine Be (Adk s.y g t o A B s.a s.c s.F n0 n1 EV hit) fun z hz=>?_;refine go ?_;have hr:=An1 s.y;have hzl:z.es.length<=s.y.Ao.length:=by rw [hz.2];exact hr
  refine Av (xs:=z.es) fun F'=>?_;apply wO;refine Nm Dz Hv fun a' c' F2=>?_;exact EF
 have hst:=Ahe hb;refine go ?_;refine cf (Aia s.y g t o A B s.a s.c s.F n0 n1 EV hit) fun z _=>?_;obtain ⟨az,cz,Fz⟩:=z;refine Oz ?_;have hsz:=Sd hit;have hmx:(Gh s.y.Ao).size<=maxLen:=FC
 refine go ?_;intros;apply wO;refine Np (Tx _ hmx) Dz fun a' c' F'=>?_;refine go ?_;refine Cb ⟨s.es++[Gh s.y.Ao],Y6 s.y,az,cz,Fz,a',c',F'⟩ ⟨(Jb _ _).1,(Jb _ _).2,fun z hz=>hit z (bq hz),HO,HO,by rw [hw,hst];rfl,by rw [he,hst];simp [N8,Y6]⟩ (by show Ew (Cd s.y.next 1) n < _;omega)
def zRW:Aj:=⟨0,[]⟩
def Vv (x:Aj) (n:Int) (s:au):Bool:=Cy x && B8 n && Pk s && Ng x n
def Ju (x:Aj) (n:Int) (s:au):Aj × ai × Bool:=if Vv x n s then (L8 x n s,Lu x n s,true) else (zRW,[],false)
theorem Anm {s:Hz} (h:Hc s=true):s.Dj.size<=8:=by
 unfold Hc Pk at h;simp only [aw,aF] at h;omega
structure Bd1 (x:Aj):Prop where
 n0:0<=x.next
 n1:x.next<=65535
 l:x.Ao.length<=8
 it:∀s∈x.Ao,s.Dj.size<=8
theorem Tt {x:Aj} (h:Cy x=true):Bd1 x:=by
 unfold Cy at h;simp only [aw,aF] at h;have hs:=A4.1 h.1.1.1;exact ⟨hs.1,hs.2,EV,fun s hs=>Anm (aV.1 h.1.2 s hs)⟩
theorem Ut {s:au} (h:Pk s=true):s.size<=8:=by unfold Pk at h;simp only [aw,aF] at h;omega
structure CpS where
 g:Nat
 a:aj
 c:Nat
 F:aq
theorem Vn (x:Aj) (v:Value) (F:aq) (h0:0<=x.next) (h1:x.next<=65535) (hl:x.Ao.length<=1000000) (hs:∀s∈x.Ao,s.Dj.size<=8) :
  Fn prog 327 [v] [.isv Br v x F] [] (fun (s:Ab6)=>s.y=Pj x/\s.es=Rc x)
   (fun s=>.tuple #[.agg #[aa s.y.next,ab s.a s.y.Ao.length s.c],ab s.ae s.es.length s.ce]) (fun s=>[.isv Br (.agg #[aa s.y.next,ab s.a s.y.Ao.length s.c]) s.y s.F,.ow A8 9 (ab s.ae s.es.length s.ce) s.es s.Fe]):=by
 refine enter func327 rfl ntmps327 fun w0=>?_;refine Ck ?_;rintro a1 c1 F1 rfl l1;unfold maxLen at l1;refine go ?_;intros;refine Du [2,3] [0] (fun s:CpS=>[(4,Gc s.g 0 0)]) (fun s=>[.row s.g 73 0 [] [aa x.next,ab s.a x.Ao.length s.c] [],.ow Cv 107 (ab s.a x.Ao.length s.c) x.Ao s.F]) (fun _=>True) ?_ fun s _=>?_
 ·refine Ar [0,1] [8] ?_;refine C8 0 1 3 4 ?_;refine dM 2 7 ?_ ?_
  ·apply Kj;rfl;intro _;refine C1 Cv ?_;refine dk ?_;refine dM 5 7 ?_ ?_
   ·exact AY
   ·apply Ci;rfl;intro _;exact AG
  ·exact CZ
 obtain ⟨gg,a2,c2,F2⟩:=s;refine Av (xs:=x.Ao) fun F3=>?_;refine go ?_;intros;refine C1 A8 ?_;refine Ca [2,3,4] (fun s:Ab6=>[(5,ab s.ae s.es.length s.ce)]) (fun s=>[.row gg 73 0 [] [aa s.y.next,ab s.a s.y.Ao.length s.c] [],.sl Cv (ab s.a s.y.Ao.length s.c) s.y.Ao s.F,.ow A8 9 (ab s.ae s.es.length s.ce) s.es s.Fe]) (Bdj x) (fun s=>s.y.Ao.length) ⟨[],x,a2,c2,F3,_,0,_⟩ ⟨h0,h1,hs,EX,rfl,rfl⟩ fun s hC=>?_;obtain ⟨n0,n1,hit,hln,hw,he⟩:=hC;have stop:Jt s.y.Ao 0=false->s.y=Pj x/\s.es=Rc x:=fun h=>⟨by rw [hw,(Abh h).1],by rw [he,(Abh h).2,bg]⟩;refine go ?_
 refine Dc rfl rfl (fun h4=>?_) (fun h4=>?_)
 rotate_left
 ·refine go ?_;have hv:Jt s.y.Ao 0=false:=Q6 EV;refine Ce s.y ?_;refine ret s (stop hv) rfl
 refine Oe 0 ?_;rintro hi b o e s1;rw [e];refine go ?_;cases g1:s.y.Ao[0].T6
 ·refine go ?_;rw [<-e];refine Ce s.y ?_;refine ret s (stop (by rw [Lm hi,g1])) rfl
 have hv:Jt s.y.Ao 0=true:=by rw [Lm hi,g1]
 have hz:=hit _ (aB hi);have h43:(⟨#[43]⟩:au).size=1:=rfl;have hpl:(⟨#[43]⟩++s.y.Ao[0].Dj:au)=Gh s.y.Ao:=(Ac7 hi g1).symm;have hmx:(Gh s.y.Ao).size<=maxLen:=by have:=Sd hit;unfold maxLen;omega
 have hll:s.es.length+1<=1000000:=EV
 refine go ?_;intros;rw [hpl];apply wO;refine Np (Tx _ hmx) Dz fun a' c' F'=>?_;refine go ?_;refine Ar [1,2] [7] ?_;refine C8 0 1 3 4 ?_;refine Apg 5 1 fun a5 c5 F5=>?_;refine dN 2 ?_;refine oC ?_;refine ce (fun w s=>Ht _ _ _ EV EV) ?_;refine dk ?_;refine dt 6 ?_;refine dN 7 ?_;refine oS ?_;refine N2 ?_;refine dd ?_;refine go ?_;refine Cb ⟨s.es++[Gh s.y.Ao],Y6 s.y,a5,c5,F5,a',c',F'⟩ ⟨(Jb _ _).1,(Jb _ _).2,fun z hz=>hit z (bq hz),HO,by rw [hw,(Ak7 hv).1],by rw [he,(Ak7 hv).2];simp⟩ HO
theorem Apv (x:Aj) (n:Int) (v:Value) (F:aq) (h0:0<=x.next) (h1:x.next<=65535) (h2:0<=n) (h3:n<=65535) (hl:x.Ao.length<=8) :
  FV 329 [v,aa n] [.isv Br v x F] (.bool (Ng x n)):=by
 have hg:=Ll x.next n
 have hh:¬gp x.next n < 8->I2 x n=false:=fun h=>Q6 EV
 refine enter func329 rfl ntmps329 fun w0=>?_;refine Ck ?_;rintro a1 c1 F1 rfl l1;refine go ?_;intros;refine ce (fun w s=>Qi _ _ _ EV EV) ?_;cases g1:To n x.next
 ·refine go ?_;refine ce (fun w s=>Jm _ _ _ EV EV) ?_;refine go ?_;refine ret () trivial ?_;unfold Ng Gs;rw [g1];by_cases h8:gp x.next n < 8
  ·simp [h8,Tp]
  ·simp [h8,hh h8,Tp]
 ·refine go ?_;refine ret () trivial ?_;simp [Ng,Gs,g1,Tp]
theorem Ats (x:Aj) (n:Int) (Dj:au) (v:Value) (F:aq) (h0:0<=x.next) (h1:x.next<=65535) (h2:0<=n) (h3:n<=65535) (hl:x.Ao.length<=8) (hs:∀s∈x.Ao,s.Dj.size<=8) (hi:Dj.size<=8) (hok:Ng x n=true) :
  Fn prog 330 [v,aa n,af Dj] [.isv Br v x F] [] (fun (s:Ab6)=>s.y=L8 x n Dj/\s.es=Lu x n Dj)
   (fun s=>.tuple #[.agg #[aa s.y.next,ab s.a s.y.Ao.length s.c],ab s.ae s.es.length s.ce]) (fun s=>[.isv Br (.agg #[aa s.y.next,ab s.a s.y.Ao.length s.c]) s.y s.F,.ow A8 9 (ab s.ae s.es.length s.ce) s.es s.Fe]):=by
 have hg:=Ll x.next n
 refine enter func330 rfl ntmps330 fun w0=>?_;refine Ck ?_;rintro a1 c1 F1 rfl l1;refine go ?_;intros;refine ce (fun w s=>Jm _ _ _ EV EV) ?_;obtain ⟨k,hk⟩:∃k:Nat,gp x.next n=k:=⟨(gp x.next n).toNat,EV⟩
 rw [hk];refine go ?_;refine Du [1,2,3,6,7,8] [0,1,2] (fun s:CpS=>[(9,Gc s.g 0 0)]) (fun s=>[.row s.g 73 0 [] [aa x.next,ab s.a x.Ao.length s.c] [],.ow Cv 107 (ab s.a x.Ao.length s.c) x.Ao s.F]) (fun _=>True) ?_ fun s _=>?_
 ·refine Ar [0,1] [8] ?_;refine C8 0 1 3 4 ?_;refine dM 2 7 ?_ ?_
  ·apply Kj;rfl;intro _;refine C1 Cv ?_;refine dk ?_;refine dM 5 7 ?_ ?_
   ·exact AY
   ·apply Ci;rfl;intro _;exact AG
  ·exact CZ
 obtain ⟨gg,a2,c2,F2⟩:=s;refine go ?_;refine ce (fun w s=>Qi _ _ _ EV EV) ?_;cases g1:To n x.next
 rotate_left
 ·refine go ?_;intros;refine C1 A8 ?_;refine Av (xs:=x.Ao) fun F3=>?_;refine Ce x ?_;refine ret ⟨[],x,a2,c2,F3,_,0,_⟩ ⟨by simp [L8,Gs,g1],by simp [Lu,Gs,g1]⟩ rfl
 refine go ?_;refine Dc rfl rfl (fun h4=>?_) (fun h4=>?_)
 ·refine Oe k ?_;rintro hi2 b2 o2 e s1;cases e;refine go ?_;cases g4:x.Ao[k].T6
  rotate_left
  ·have hb:I2 x n=true:=by unfold I2;rw [hk,bc,Lm hi2];exact g4
   refine go ?_;intros;refine C1 A8 ?_;refine Av (xs:=x.Ao) fun F3=>?_;refine Ce x ?_;refine ret ⟨[],x,a2,c2,F3,_,0,_⟩ ⟨by simp [L8,Gs,hb],by simp [Lu,Gs,hb]⟩ rfl
  have hpad:I2 x n=false:=by unfold I2;rw [hk,bc,Lm hi2];exact g4
  have hno:Gs x n=false:=by unfold Gs;rw [g1,hpad];rfl
  have h8:gp x.next n < 8:=by unfold Ng at hok;rw [hno] at hok;simpa using hok
  have hW:L8 x n Dj=Pj (Y5 x n Dj):=by unfold L8;rw [hno,av h8];rfl
  have hE:Lu x n Dj=Rc (Y5 x n Dj):=by unfold Lu;rw [hno,av h8];rfl
  unfold Y5 at hW hE;rw [hk,bc] at hW hE;refine go ?_;refine Ca [2,6,7,8,9] (fun s:Bd3=>[]) (fun s=>[.row gg 73 0 [] [aa x.next,.slice s.a (Mi x s.j).length s.c] [],.ow Cv 107 (.slice s.a (Mi x s.j).length s.c) (Mi x s.j) s.F]) (fun s=>s.j<=k+1 - x.Ao.length) (fun s=>k+1 - x.Ao.length - s.j) ⟨0,a2,c2,F2⟩ (aE _) (fun s hj=>?_) (hH:=KL);have hpl:=Om x s.j;refine go ?_;refine A1 rfl (fun h9=>?_) (fun h9=>?_)
  ·refine go ?_;intros;apply wO;refine Np (Agw zsl EW) I1 fun a' c' F'=>?_;refine go ?_;have e:Mi x s.j++[zsl]=Mi x (s.j+1):=by simp [Mi,eL]
   exact CY
  have hjk:s.j=k+1 - x.Ao.length:=EV
  refine go ?_;have hkl:k < (Mi x s.j).length:=EV
  refine Akr k ?_;rintro hi2 g2 A2 B2 e eF hs2 hh;rw [e];refine Ih ?_;intros;refine P5 (⟨true,Dj⟩:Hz) hh (fun w=>⟨rfl,JC,rfl⟩) ?_;have hsl:(Mi x s.j).length=((Mi x s.j).set k ⟨true,Dj⟩).length:=by rw [bQ]
  rw [hsl];have hpu:(Mi x s.j).set k ⟨true,Dj⟩=Md x k ⟨true,Dj⟩:=by unfold Md;rw [hjk]
  rw [hpu];have hpl2:(Md x k ⟨true,Dj⟩).length<=1000:=by unfold Md;rw [bQ,Om];omega
  exact BF
 ·have hpad:I2 x n=false:=Q6 EV;have hno:Gs x n=false:=by unfold Gs;rw [g1,hpad];rfl
  have h8:gp x.next n < 8:=by unfold Ng at hok;rw [hno] at hok;simpa using hok
  have hW:L8 x n Dj=Pj (Y5 x n Dj):=by unfold L8;rw [hno,av h8];rfl
  have hE:Lu x n Dj=Rc (Y5 x n Dj):=by unfold Lu;rw [hno,av h8];rfl
  unfold Y5 at hW hE;rw [hk,bc] at hW hE;refine go ?_;refine Ca [2,6,7,8,9] (fun s:Bd3=>[]) (fun s=>[.row gg 73 0 [] [aa x.next,.slice s.a (Mi x s.j).length s.c] [],.ow Cv 107 (.slice s.a (Mi x s.j).length s.c) (Mi x s.j) s.F]) (fun s=>s.j<=k+1 - x.Ao.length) (fun s=>k+1 - x.Ao.length - s.j) ⟨0,a2,c2,F2⟩ (aE _) (fun s hj=>?_) (hH:=KL);have hpl:=Om x s.j;refine go ?_;refine A1 rfl (fun h9=>?_) (fun h9=>?_)
  ·refine go ?_;intros;apply wO;refine Np (Agw zsl EW) I1 fun a' c' F'=>?_;refine go ?_;have e:Mi x s.j++[zsl]=Mi x (s.j+1):=by simp [Mi,eL]
   exact CY
  have hjk:s.j=k+1 - x.Ao.length:=EV
  refine go ?_;have hkl:k < (Mi x s.j).length:=EV
  refine Akr k ?_;rintro hi2 g2 A2 B2 e eF hs2 hh;rw [e];refine Ih ?_;intros;refine P5 (⟨true,Dj⟩:Hz) hh (fun w=>⟨rfl,JC,rfl⟩) ?_;have hsl:(Mi x s.j).length=((Mi x s.j).set k ⟨true,Dj⟩).length:=by rw [bQ]
  rw [hsl];have hpu:(Mi x s.j).set k ⟨true,Dj⟩=Md x k ⟨true,Dj⟩:=by unfold Md;rw [hjk]
  rw [hpu];have hpl2:(Md x k ⟨true,Dj⟩).length<=1000:=by unfold Md;rw [bQ,Om];omega
  exact BF
theorem Tv (x:Aj) (n:Int) (v:Value) (F:aq) (h0:0<=x.next) (h1:x.next<=65535) (h2:0<=n) (h3:n<=65535) (hl:x.Ao.length<=8) (hs:∀s∈x.Ao,s.Dj.size<=8) :
  Fn prog 290 [v,aa n] [.isv Br v x F] [] (fun (s:Ab6)=>s.y=Pj (I3 (Ew x.next n) x)/\s.es=N8 (Ew x.next n) x++Rc (I3 (Ew x.next n) x))
   (fun s=>.tuple #[.agg #[aa s.y.next,ab s.a s.y.Ao.length s.c],ab s.ae s.es.length s.ce]) (fun s=>[.isv Br (.agg #[aa s.y.next,ab s.a s.y.Ao.length s.c]) s.y s.F,.ow A8 9 (ab s.ae s.es.length s.ce) s.es s.Fe]):=by
 have hgn:=Aj1 x.next n
 refine enter func290 rfl ntmps290 fun w0=>?_;refine Ck ?_;rintro a1 c1 F1 rfl l1;refine go ?_;intros;refine Du [1,4,5] [0] (fun s:CpS=>[(6,Gc s.g 0 0)]) (fun s=>[.row s.g 73 0 [] [aa x.next,ab s.a x.Ao.length s.c] [],.ow Cv 107 (ab s.a x.Ao.length s.c) x.Ao s.F]) (fun _=>True) ?_ fun s _=>?_
 ·refine Ar [0,1] [8] ?_;refine C8 0 1 3 4 ?_;refine dM 2 7 ?_ ?_
  ·apply Kj;rfl;intro _;refine C1 Cv ?_;refine dk ?_;refine dM 5 7 ?_ ?_
   ·exact AY
   ·apply Ci;rfl;intro _;exact AG
  ·exact CZ
 obtain ⟨gg,a2,c2,F2⟩:=s;refine Av (xs:=x.Ao) fun F3=>?_;refine go ?_;intros;refine C1 A8 ?_;refine Ca [1,4,5,6] (fun s:Ab6=>[(7,ab s.ae s.es.length s.ce)]) (fun s=>[.row gg 73 0 [] [aa s.y.next,ab s.a s.y.Ao.length s.c] [],.sl Cv (ab s.a s.y.Ao.length s.c) s.y.Ao s.F,.ow A8 9 (ab s.ae s.es.length s.ce) s.es s.Fe]) (Avy x n) (fun s=>Ew s.y.next n) ⟨[],x,a2,c2,F3,_,0,_⟩ ⟨h0,h1,hs,aK _,EX,rfl,rfl⟩ fun s hC=>?_;obtain ⟨n0,n1,hit,hln,hle,hw,he⟩:=hC;refine go ?_;refine ce (fun w s=>Qi _ _ _ EV EV) ?_;cases hb:To s.y.next n
 ·refine Ih ?_;intros;refine Ce s.y ?_;refine go ?_;rw [Aj2 hb] at hw he;refine Be (Vn s.y _ _ n0 n1 EV hit) fun z hz=>?_;refine go ?_;intros;have hr:=An1 s.y;have hzl:z.es.length<=s.y.Ao.length:=by rw [hz.2];exact hr
  refine Av (xs:=z.es) fun F'=>?_;refine Ar [1] [] ?_;refine Dg 0 1 ?_;refine dt 2 ?_;refine dN 3 ?_;refine Nm Dz Hv fun a' c' F2=>?_;refine dk ?_;refine dN 4 ?_;refine oS ?_;refine dk ?_;refine dt 5 ?_;refine dd ?_;exact EF
 have hst:=Ahe hb;have hmx:(Gh s.y.Ao).size<=maxLen:=by have:=Sd hit;unfold maxLen;omega
 refine go ?_;intros;refine C1 Cv ?_;refine A1 rfl (fun h4=>?_) (fun h4=>?_)
 ·refine Oe 0 ?_;rintro hi b o e s1;rw [e];refine go ?_;cases g1:s.y.Ao[0].T6
  ·have hpl1:(⟨#[45]⟩:au)=Gh s.y.Ao:=(Ajx hi g1).symm;refine go ?_;apply wO;refine sld 1 fun a5 c5 F5=>?_;refine go ?_;intros;rw [hpl1];apply wO;refine Np (Tx _ hmx) Dz fun a' c' F'=>?_;refine go ?_;refine ce (fun w s=>Ht _ _ _ EV EV) ?_;refine go ?_;exact CB
  ·have hz:=hit _ (aB hi);have h43:(⟨#[43]⟩:au).size=1:=rfl;have hpl2:(⟨#[43]⟩++s.y.Ao[0].Dj:au)=Gh s.y.Ao:=(Ac7 hi g1).symm;refine go ?_;apply wO;refine sld 1 fun a5 c5 F5=>?_;refine go ?_;intros;rw [hpl2];apply wO;refine Np (Tx _ hmx) Dz fun a' c' F'=>?_;refine go ?_;refine ce (fun w s=>Ht _ _ _ EV EV) ?_;refine go ?_
   exact CB
 ·have hnil:s.y.Ao=[]:=bE EV;have hpl3:(⟨#[45]⟩:au)=Gh s.y.Ao:=by rw [hnil];rfl
  have hd:([]:List Hz)=s.y.Ao.drop 1:=by rw [hnil];rfl
  ·refine go ?_;intros;refine Av (E:=Cv) (xs:=[]) fun F6=>?_;rw [show (ab (some _) 0 0:Value)=Value.slice _ ([]:List Hz).length 0 from rfl];rw [hpl3];apply wO;refine Np (Tx _ hmx) Dz fun a' c' F'=>?_;refine go ?_;refine ce (fun w s=>Ht _ _ _ EV EV) ?_;refine go ?_;rw [hd];refine Cb ⟨s.es++[Gh s.y.Ao],Y6 s.y,_,0,F6,a',c',F'⟩ ⟨(Jb _ _).1,(Jb _ _).2,fun z hz=>hit z (bq hz),HO,HO,by rw [hw,hst];rfl,by rw [he,hst];simp [N8,Y6]⟩ (by show Ew (Cd s.y.next 1) n < _;omega)
end Go.Proofs.YtkoldibamfjghaaGreatDoor
namespace Go.Proofs.YtkoldibamfjghaaGreatDoor

open Go.RowKit
end Go.Proofs.YtkoldibamfjghaaGreatDoor
namespace Go.Proofs.YtkoldibamfjghaaGreatDoor
open Go.RowKit
theorem Acn (x:Aj) (n:Int) (v:Value) (F:aq) (h0:0<=x.next) (h1:x.next<=65535) (h2:0<=n) (h3:n<=65535) :
  FV 272 [v,aa n] [.isv Br v x F] (.bool (Gs x n)):=by
 have hg:=Ll x.next n
 refine enter func272 rfl ntmps272 fun w0=>?_;refine Ck ?_;rintro a1 c1 F1 rfl l1;refine go ?_;intros;refine ce (fun w s=>Jm _ _ _ EV EV) ?_;obtain ⟨k,hk⟩:∃k:Nat,gp x.next n=k:=⟨(gp x.next n).toNat,EV⟩
 have hh:I2 x n=Jt x.Ao k:=by unfold I2;rw [hk,bc]
 rw [hk];refine go ?_;refine ce (fun w s=>Qi _ _ _ EV EV) ?_;cases g1:To n x.next
 ·refine go ?_;refine Dc rfl rfl (fun h4=>?_) (fun h4=>?_)
  ·refine Oe (xs:=x.Ao) k ?_;rintro hi2 b2 o2 e s1;rw [e];refine go ?_;refine ret () trivial ?_;simp [Gs,g1,hh,Lm hi2,Tp]
  ·refine go ?_;refine ret () trivial ?_;simp [Gs,g1,hh,Q6 (show x.Ao.length<=k by omega),Tp]
 ·refine go ?_;refine ret () trivial ?_;simp [Gs,g1,Tp]
theorem Wi (p:As) (hs:p.data.size<=maxLen):FV 223 [.agg #[aa p.Cq,aa p.Ae,aa p.Am,aa p.Er,af p.data]] [] (.bool (Bo p)):=by
 refine enter func223 rfl ntmps223 fun w0=>?_;refine go ?_;intros;refine ce (fun w s=>Hy _ _ _ _) ?_;cases g1:Ff 1 p.Cq 5
 ·refine go ?_;refine ret () trivial ?_;show Value.bool _=Value.bool _;congr 1;unfold Bo;simp [g1]
 refine go ?_;refine ce (fun w s=>Ja _ _) ?_;cases g2:B8 p.Ae
 ·refine go ?_;refine ret () trivial ?_;show Value.bool _=Value.bool _;congr 1;unfold Bo;simp [g2]
 refine go ?_;refine ce (fun w s=>Ja _ _) ?_;cases g3:B8 p.Am
 ·refine go ?_;refine ret () trivial ?_;show Value.bool _=Value.bool _;congr 1;unfold Bo;simp [g3]
 refine go ?_;refine ce (fun w s=>Ja _ _) ?_;cases g4:B8 p.Er
 ·refine go ?_;refine ret () trivial ?_;show Value.bool _=Value.bool _;congr 1;unfold Bo;simp [g4]
 refine go ?_;refine cb (fun w s=>Aa7 _ _ hs) ?_;cases g5:Pk p.data
 ·refine go ?_;refine ret () trivial ?_;show Value.bool _=Value.bool _;congr 1;unfold Bo;simp [g5]
 obtain ⟨t0,t1⟩:=A4.1 g3;obtain ⟨l0,l1⟩:=A4.1 g4;refine go ?_;refine ce (fun w s=>Pf _ _ _ EV EV EV EV) ?_;refine go ?_;refine Dc rfl rfl (fun h6=>?_) (fun h6=>?_)
 ·refine go ?_;refine Dc rfl rfl (fun h7=>?_) (fun h7=>?_)
  ·exact EP
  refine go ?_;refine Dc rfl rfl (fun h8=>?_) (fun h8=>?_)
  ·exact EN
  ·exact EE
 ·refine go ?_;refine ret () trivial ?_;show Value.bool _=Value.bool _;congr 1;unfold Bo;simp [h6]
theorem Am7 (p:As) (hs:p.data.size<=maxLen):FV 273 [.agg #[aa p.Cq,aa p.Ae,aa p.Am,aa p.Er,af p.data]] [] (.bool (Bo p)):=by
 refine enter func273 rfl ntmps273 fun w0=>?_;refine go ?_;intros;refine ce (fun w s=>Kg _ _ _ _) ?_;cases g1:Ff 1 p.Cq 5
 ·refine go ?_;refine ret () trivial ?_;show Value.bool _=Value.bool _;congr 1;unfold Bo;simp [g1]
 refine go ?_;refine ce (fun w s=>Nw _ _) ?_;cases g2:B8 p.Ae
 ·refine go ?_;refine ret () trivial ?_;show Value.bool _=Value.bool _;congr 1;unfold Bo;simp [g2]
 refine go ?_;refine ce (fun w s=>Nw _ _) ?_;cases g3:B8 p.Am
 ·refine go ?_;refine ret () trivial ?_;show Value.bool _=Value.bool _;congr 1;unfold Bo;simp [g3]
 refine go ?_;refine ce (fun w s=>Nw _ _) ?_;cases g4:B8 p.Er
 ·refine go ?_;refine ret () trivial ?_;show Value.bool _=Value.bool _;congr 1;unfold Bo;simp [g4]
 obtain ⟨t0,t1⟩:=A4.1 g3;obtain ⟨l0,l1⟩:=A4.1 g4;refine go ?_;refine ce (fun w s=>Jm _ _ _ EV EV) ?_;refine go ?_;refine Dc rfl rfl (fun h6=>?_) (fun h6=>?_)
 ·refine go ?_;refine ret () trivial ?_;have h6:¬gp p.Am p.Er<=32767:=EV
  show Value.bool _=Value.bool _;congr 1;unfold Bo;simp [h6]
 have h6:gp p.Am p.Er<=32767:=EV
 refine go ?_;refine ce (fun w s=>Q7 _ _ _ hs) ?_;rw [show (decide ((p.data.size:Int)<=8) && T7 p.data.data.toList)=Pk p.data from rfl];cases g5:Pk p.data
 ·refine go ?_;refine ret () trivial ?_;show Value.bool _=Value.bool _;congr 1;unfold Bo;simp [g5]
 refine go ?_;refine Dc rfl rfl (fun h7=>?_) (fun h7=>?_)
 ·exact EP
 refine go ?_;refine Dc rfl rfl (fun h8=>?_) (fun h8=>?_)
 ·exact EN
 ·exact EE
end Go.Proofs.YtkoldibamfjghaaGreatDoor
