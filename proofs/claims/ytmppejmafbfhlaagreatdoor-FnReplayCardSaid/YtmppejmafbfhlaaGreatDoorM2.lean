/- Part 2 of the proof: 63 texts, one behind the other. -/
import Derived.Lib.Overlaps
import Derived.Lib.AppendZerosOnto
import Derived.Laws.IdiomCopy
import Derived.Test.YtmppejmafbfhlaaGreatDoorShelf
import Derived.Lib.RowBridge
import Derived.Test.YtmppejmafbfhlaaGreatDoorM1
open _root_.Go.Proofs.Tryz
set_option maxRecDepth 100000
set_option maxHeartbeats 8000000
set_option linter.all false
set_option linter.unusedVariables false
set_option linter.unusedSimpArgs false
namespace Go.Proofs.YtmppejmafbfhlaaGreatDoor
theorem AA{p:Prop}(h:p:=by refine go ?_;refine ret () trivial rfl):p:=h
theorem AE{p:Prop}(h:p:=by refine h.h a w (s.add (N:=[_]) (Below.refl _ _) (by intro q hq;simp at hq;subst hq;exact ⟨_,rfl,_,rfl,(s.get m1).2⟩) ⟨by simp,trivial⟩ fun q hq b hb=>?_) g;simp at hq;subst hq;simp only [Pc.F,aJ] at hb;exact .inr ⟨rfl,_,m1,rfl,hb⟩):p:=h
theorem AG{p:Prop}(h:p:=by refine dk ?_;refine dN 5 ?_;refine N5 Ja Io fun a2 c2 F2=>?_;refine dk ?_;refine dt 6 ?_;refine dN 8 ?_;refine oS ?_;refine Nm ?_;refine dd ?_;refine Bk (⟨_,a2,c2,F2⟩:CpS) trivial):p:=h
theorem AI{p:Prop}(h:p:=by obtain ⟨cs,rfl,v1,rfl,h1⟩:=s.get hm;obtain ⟨a1,c1,rfl⟩:=h1.slice;have l1:=h1.len;have t1:=s.ro (p:=.sl _ _ _ _) hm rfl rfl ⟨by decide,h1⟩ fun b hb=>hb;exact (h a1 c1 F rfl  l1).h a w t1 g):p:=h
theorem AN{p:Prop}(h:p:=by refine dk ?_;refine dt 5 ?_;refine dd ?_;refine go ?_;refine Dy (xs:=[Sr x.Aa]) (De _ (by show (⟨#[]⟩:au).size<=maxLen;decide)) ?_ (by simp);refine ret ⟨_,_,_,_,_,_,_,_⟩ trivial rfl):p:=h
theorem AT{p:Prop}(h:p:=by obtain ⟨cs,rfl,v1,v2,G1,G2,rfl,h1,h2,rfl⟩:=s.get hm;obtain ⟨a1,c1,rfl⟩:=h1.slice;have l1:=h1.len;obtain ⟨a2,c2,rfl⟩:=h2.slice;have l2:=h2.len;have t2:=s.ro (p:=.sl _ _ _ _) hm rfl rfl ⟨by decide,h2⟩ (by intro b hb;simp only [Pc.F] at hb ⊢;simp [hb]);have t1:=t2.ro (p:=.sl _ _ _ _) (aQ _ hm) rfl rfl ⟨by decide,h1⟩ (by intro b hb;simp only [Pc.F] at hb ⊢;simp [hb]);exact (h a1 c1 G1 a2 c2 G2 rfl  l1 l2).h a w t1 g):p:=h
theorem AV{p:Prop}(h:p:=by exact ⟨⟨k+1,by omega,by go_num,fun j hj hl=>by rcases be (cK hj) with h|h;exact hz0.out j h hl;subst h;exact hpk.out,hB⟩,by simp [intOf];omega⟩):p:=h
theorem AY{p:Prop}(h:p:=by refine N5 Ja Io fun a2 c2 F2=>?_;refine dk ?_;refine dt 6 ?_;refine dN 7 ?_;apply Cn;rfl;intro _;refine dk ?_;refine dN 8 ?_;refine oS ?_;refine Nm ?_;refine dd ?_;refine Bk (⟨_,a2,c2,F2⟩:CpS) trivial):p:=h
theorem BF{p:Prop}(h:p:=by have hps:=Aa9 (x:=x) (k:=k) hs (s:=⟨true,Dk⟩) hi;refine Av (xs:=Mp x k ⟨true,Dk⟩) fun F4=>?_;refine Ch ⟨x.next,Mp x k ⟨true,Dk⟩⟩ ?_;refine go ?_;refine Be (Wp ⟨x.next,Mp x k ⟨true,Dk⟩⟩ _ _ h0 h1 (by show (Mp x k ⟨true,Dk⟩).length<=_;omega) hps) fun z hz=>?_;refine go ?_;refine ret z ⟨by rw [hz.1,hW],by rw [hz.2,hE]⟩ rfl):p:=h
theorem BJ{p:Prop}(h:p:=by rw [show Nk x=⟨x.Aa,x.Ai+1,x.quiet+1,Iz x.Aa (x.Ai+1) x.holds⟩ from by unfold Nk Ss;rw [aH (by omega)],show N2 x.Aa x.quiet=[] from aH (by omega)];refine go ?_;intros;refine C3 Ak ?_;refine Av (E:=Bv) fun F9=>?_;refine D6 ⟨x.Aa,x.Ai+1,x.quiet+1,Iz x.Aa (x.Ai+1) x.holds⟩ (a1:=a5) ?_;refine ret ⟨_,_,_,_,_,_,_,_⟩ trivial rfl):p:=h
theorem BL{p:Prop}(h:p:=by refine ret (_,_) trivial rfl):p:=h
theorem BN{p:Prop}(h:p:=by refine ret (_,_,_) trivial rfl):p:=h
theorem BQ{p:Prop}(h:p:=by exact ⟨⟨q+1,m+1,F2,by omega,by omega,by rw [Db hlt (by simp [hpq.out]),hys.out];have:=hlen.out;omega,by rw [Db hlt (by simp [hpq.out]),hys.out],by go_num,by rw [Db hlt (by simp [hpq.out]),hys.out];exact hg2.out.below hbb,fun b hb=>hF1 b (hF2 b hb),hK.trans (Ek.ofBelow hbb)⟩,by simp [intOf];omega⟩):p:=h
theorem BT{p:Prop}(h:p:=by refine go ?_;refine ret () trivial ?_;rw [bad (by rw [hck,av h6,ay (show ¬k=0 by omega)];simp)];rfl):p:=h
theorem CC{p:Prop}(h:p:=by refine dk ?_;refine dN 11 ?_;refine N5 (E:=A9) (xs:=[]) (ys:=x.Al.drop k) D7 Ie fun a7 c7 F7=>?_;rw [aZ];refine dk ?_;refine dt 12 ?_;refine dN 13 ?_;refine oS ?_;refine dk ?_;refine dd ?_;refine go ?_;refine ret ⟨a7,c7,F7⟩ trivial rfl):p:=h
theorem CD{p:Prop}(h:p:=by refine Ce ⟨s.es++[Gt s.y.Ao],Z4 s.y,a5,c5,F5,a',c',F'⟩ ⟨(Jk _ _).1,(Jk _ _).2,fun z hz=>hit z (br hz),by simp [Z4];omega,by simp [Z4];omega,by rw [hw,hst];rfl,by rw [he,hst];simp [O1,Z4]⟩ (by show Ez (Cf s.y.next 1) n < _;omega)):p:=h
theorem CE{p:Prop}(h:p:=by exact ⟨ab none 0 0,[],rfl,.inl ⟨rfl,rfl,rfl⟩,by simp,by simp,Below.refl _ _⟩):p:=h
theorem CN{p:Prop}(h:p:=by obtain ⟨b,o,cs,G,ha,hrep,hG,hb,hne,hr⟩:=Xu (s.get hm) i hi;obtain ⟨rfl,s1,rfl⟩:=hrep;exact (h hi b o  ha s1 ).h ac w (s.ro hm rfl rfl ⟨hne,hr⟩ (by intro x hx;simp [Pc.F] at hx;subst hx;exact hb)) g):p:=h
theorem CP{p:Prop}(h:p:=by obtain ⟨a',c',rfl⟩:=h1.slice;exact ⟨(a',c',F'),trivial,rfl,⟨h2,h1⟩,fun b hb=>.inl (h3 b hb),h4⟩):p:=h
theorem CQ{p:Prop}(h:p:=by obtain ⟨b,o,cs,G,ha,hrep,hG,hb,hne,hr⟩:=Xu (s.get hm) i hi;obtain ⟨rfl,rfl⟩:=hrep;exact (h hi b o  ha  ).h ac w (s.ro hm rfl rfl ⟨hne,hr⟩ (by intro x hx;simp [Pc.F] at hx;subst hx;exact hb)) g):p:=h
theorem CR{p:Prop}(h:p:=by refine dd ?_;exact AA):p:=h
theorem CZ{p:Prop}(h:p:=by rw [e];refine Ce ⟨s.j+1,a',c',F'⟩ (by show s.j+1<=_;omega) (by show _ - (s.j+1) < _;omega)):p:=h
theorem DA{p:Prop}(h:p:=by apply Cn;rfl;intro _;refine dk ?_;refine dN 2 ?_;apply Kt;rfl;intro _;refine C3 C0 ?_;exact AG):p:=h
theorem DE{p:Prop}(h:p:=by refine ⟨_,F2,rfl,by rw [hys.out];exact hO.out,hn2,fun b hb=>hF1 b (hF2 b hb),hK.trans ?_⟩;rw [<-M5 wr];exact (Mi _ _ _).mono (fun b hb _=>by simp at hb;subst hb;exact hgF)):p:=h
theorem DI{p:Prop}(h:p:=by exact ⟨L8 (No (fun j hj=>hz.out j (by omega) hj)).symm,hB⟩):p:=h
theorem DN{p:Prop}(h:p:=by intro q hq b hb;simp at hq;subst hq;exact .inr (.inl ⟨_,aL.2 rfl,rfl,hb⟩)):p:=h
theorem DY{p:Prop}(h:p:=by refine go ?_;refine ret () trivial ?_;rw [bad (by rw [hck,g4];rfl)];rfl):p:=h
theorem EE{p:Prop}(h:p:=by refine ret ⟨_,_,_,_,_⟩ trivial rfl):p:=h
theorem EF{p:Prop}(h:p:=by refine oC ?_;refine ce (fun w s=>P3 _ _ _ (by omega) (by omega) (by omega) (by omega)) ?_;refine dk ?_;refine Dh 7 8 ?_;exact CR):p:=h
theorem EG{p:Prop}(h:p:=by refine go ?_;refine ret () trivial ?_;show Value.bool _=Value.bool _;congr 1;unfold Br;rw [g1,g2,g3,g4,g5,av h6,ay h7,ay h8];rfl):p:=h
theorem EH{p:Prop}(h:p:=by refine go ?_;refine ret ⟨s.es++z.es,z.y,z.a,z.c,z.F,a',c',F2⟩ ⟨by rw [hz.1,hw];rfl,by rw [hz.2,he,hw];simp [O1,Jd]⟩ rfl):p:=h
theorem EL{p:Prop}(h:p:=by exact ⟨L8 (Pi hlt hz0.out hpk.out).symm,hB⟩):p:=h
theorem EP{p:Prop}(h:p:=by refine go ?_;refine ret () trivial ?_;show Value.bool _=Value.bool _;congr 1;unfold Br;rw [g1,g2,g3,g4,g5,av h6,av h8];simp):p:=h
theorem ER{p:Prop}(h:p:=by refine go ?_;refine ret () trivial ?_;show Value.bool _=Value.bool _;congr 1;unfold Br;rw [g1,g2,g3,g4,g5,av h6,av h7];rfl):p:=h
theorem FK{p:Prop}(h:p:=by obtain ⟨v1,v2,F1,F2,rfl,h1,h2,rfl⟩:=h;exact ⟨v1,v2,F1,F2,rfl,h1.frame fun b hb=>hF b (by simp [hb]),h2.frame fun b hb=>hF b (by simp [hb]),rfl⟩):p:=h
theorem FX{p:Prop}(h:p:=by obtain ⟨v1,rfl,h1⟩:=h;exact ⟨v1,rfl,h1.frame hF⟩):p:=h
theorem FY{p:Prop}(h:p:=by simp only [aA,aU,aY];omega):p:=h
theorem FZ{p:Prop}(h:p:=by simpa [fp,Pc.F,aM] using hn):p:=h
theorem GK{p:Prop}(h:p:=by simp [fp,Pc.F]):p:=h
theorem GM{p:Prop}(h:p:=by simp [Jr] <;> omega):p:=h
theorem GP{p:Prop}(h:p:=by simp <;> omega):p:=h
theorem GS{p:Prop}(h:p:=by obtain ⟨v1,rfl,h1⟩:=h;exact h1.lt (by decide)):p:=h
theorem GT{p:Prop}(h:p:=by obtain ⟨v1,rfl,h1⟩:=h;rfl):p:=h
theorem GU{p:Prop}(h:p:=by unfold maxLen at hl;simp;omega):p:=h
theorem GZ{p:Prop}(h:p:=by show (⟨#[]⟩:au).size<=maxLen;decide):p:=h
theorem HG{p:Prop}(h:p:=by unfold Cf;omega):p:=h
theorem HJ{p:Prop}(h:p:=by rw [Db hk0 (by simp [hpk]),hfl];simp;omega):p:=h
theorem HP{p:Prop}(h:p:=by obtain ⟨v1,v2,F1,F2,rfl,h1,h2,rfl⟩:=h;rfl):p:=h
theorem HV{p:Prop}(h:p:=by simp [Z4];omega):p:=h
theorem HZ{p:Prop}(h:p:=by intro p hp;simp at hp;subst hp;rfl):p:=h
theorem IQ{p:Prop}(h:p:=by rw [h7] at hF;simpa [Value.ownBlock] using hF):p:=h
theorem IR{p:Prop}(h:p:=by simpa using hA.ow):p:=h
theorem IZ{p:Prop}(h:p:=by simp [hpq.out]):p:=h
theorem JA{p:Prop}(h:p:=by intro q hq;obtain rfl:=aL.1 hq;exact ⟨_,rfl,_,_,_,_,rfl,(s.get m1).2,(s.get m2).2,rfl⟩):p:=h
theorem JD{p:Prop}(h:p:=by simpa using hb):p:=h
theorem JM{p:Prop}(h:p:=by show Dk.size<=maxLen;unfold maxLen;omega):p:=h
theorem JX{p:Prop}(h:p:=by rw [aX];omega):p:=h
theorem KB{p:Prop}(h:p:=by simpa using e):p:=h
theorem KD{p:Prop}(h:p:=by show hs.length - (k+1) < _;omega):p:=h
theorem KG{p:Prop}(h:p:=by simp only [Ed,ay (show ¬(x.Al.length:Int)<=x.size by omega),bZ,cJ]):p:=h
theorem KH{p:Prop}(h:p:=by (repeat (refine Ek.setCell ?_ hgF _));exact hK.trans (Ek.ofBelow hbb)):p:=h
theorem KK{p:Prop}(h:p:=by simp [hpk]):p:=h
theorem KM{p:Prop}(h:p:=by rw [Hj hlt (by simp [hpq.out]),hys.out];have:=hlen.out;simp;omega):p:=h
theorem KQ{p:Prop}(h:p:=by obtain ⟨v1,rfl,h1⟩:=h;exact h1.lt):p:=h
theorem KS{p:Prop}(h:p:=by simp only [Mw,fh,bc];exact Ahs):p:=h
end Go.Proofs.YtmppejmafbfhlaaGreatDoor
namespace Go.Proofs.YtmppejmafbfhlaaGreatDoor
open Go.RowKit
abbrev FV (f:FuncId) (a:am) (A:List Pc) (v:Value):Prop:=Fn prog f a A [] (fun (_:Unit)=>True) (fun _=>v) (fun _=>[])
end Go.Proofs.YtmppejmafbfhlaaGreatDoor
namespace Go.Proofs.YtmppejmafbfhlaaGreatDoor
open Go.RowKit
def Lq:∀(H:List Pc),Lr H H
 | []=>.nil
 | _::R=>.cons .here (Lq R)
def Cw.all {α:Type} {E:B8 α} {w:World} {cs:am} {xs:List α} (h:Cw E w cs xs []) (w':World):Cw E w' cs xs []:=h.frame FA
def Cw.cutL {α:Type} {E:B8 α} {w:World} {cs:am} {xs:List α} (h:Cw E w cs xs []) (i:Nat) (hi:i<=xs.length):Cw E w (cs.take (i * E.sz)) (xs.take i) []/\Cw E w (cs.drop (i * E.sz)) (xs.drop i) []:=by
 rw [<-bo i xs] at h;obtain ⟨c1,c2,G1,G2,rfl,hG,h1,h2⟩:=h.split;obtain ⟨rfl,rfl⟩:=List.append_eq_nil_iff.1 hG.symm;have hl:=h1.len;rw [aP,cY hi] at hl;rw [bU hl,dF hl];exact ⟨h1,h2⟩
def Cw.insL {α:Type} {E:B8 α} {w:World} {cs c1:am} {xs:List α} {x:α} (h:Cw E w cs xs []) (h1:Cw E w c1 [x] []) (i:Nat) (hi:i<=xs.length):Cw E w (cs.take (i * E.sz)++c1++cs.drop (i * E.sz)) (xs.take i++x::xs.drop i) []:=by
 obtain ⟨ha,hb⟩:=h.cutL i hi;have:=(ha.append h1).append hb;exact EV
section
variable {P:Program} {n:Nat} {fr:Fr} {H:List Pc} {ty:TypeId} {x y z:Operand}
def Li {t e m i g o len cp:Nat} {kd:IntKind} {q:Int} [hS:SlC P t e m] (hx:ev fr x=some (ab (some ⟨g,o,none⟩) len cp)) (hy:ev fr y=some (.int kd q)) (hq:q=(i:Int)) (hi:i<=len) (hc:i < cp) (hlc:len<=cp):Yd P n fr H (.slice t x (some y) none none) ty (ab (some ⟨g,o+i * m,none⟩) (len - i) (cp - i)):=.mk fun ac w d pos Cf gd hA _=>by
 subst hq;have he2:P.elem t=e:=IH
 have h3:(Instr.sliceAt t (ab (some ⟨g,o,none⟩) len cp) (some (.int kd (i:Int))) none none).run P w=.ok (ab (some ⟨g,o+i * m,none⟩) (len - i) (cp - i)) w:=by
  rw [run_sliceAt_slice (h:=GE),run_slice_l (ht:=GE) (h0:=EY) (h1:=EY),he2,Nb hS.s];have h0:¬(cp - i=0):=EY
  have h0':¬(cp=i):=EY
  simp [Result.andThen,sliced,h0,h0',Addr.add_lit]
 exact BK
def Aiw {k:IntKind} {a:Int} {s t:TypeId} [hS:IntC P s k] [hD:IntC P t .u64] (hx:ev fr x=some (.int k a)) (h0:0<=a) (h1:a<=18446744073709551615):Yd P n fr H (.convert s t x) ty (.int .u64 a):=.mk fun c w d pos Cf gd hA _=>by
 simp [execOp,hA.ev hx,convert,run_underlying hS.u,run_underlying hD.u,Conv.intToInt,IntWalk.u64_in _ ⟨h0,h1⟩]
def Amx {a:Int} {t t':TypeId} (hx:ev fr x=some (.int .u64 a)):Yd P n fr H (.binOp .shr t x (.const (.int .u64 1)) t') ty (.int .u64 (a / 2)):=.mk fun c w d pos Cf gd hA _=>by
 have e:Op.shift .shr .u64 a .u64 1=pure (.int .u64 (a / 2)):=by rw [shift_shr .u64 .u64 a 1 EZ EZ];rfl
 have e2:binOp .shr t (.int .u64 a) (.int .u64 1)=Op.shift .shr .u64 a .u64 1:=rfl;have e3:c.eval (.const (.int .u64 1))=.int .u64 1:=rfl;simp only [execOp,hA.ev hx,e3,eqGuard_shr,e2,e,Sem.run_bind,Sem.run_pure,Result.andThen_ok]
def Ar7 {a:aj} {len cp t e m:Nat} [hS:SlC P t e m] (hx:ev fr x=some (ab a len cp)):Yd P n fr H (.call { callee:=.builtin .cap,args:=#[x],argTypes:=#[t] }) ty (aa cp):=.mk fun ac w d pos Cf gd hA _=>by
 simp [execOp,hA.ev hx,resolve,invoke,builtin,Builtin.cap_,run_underlying hS.u,goInt]
end
section
variable {c:Cx} {fr:Fr} {H k':List Pc} {k:List It} {Φ:Gl} {d:Nat} {o:Op} {ty:TypeId} {v u:Value} {x y:Operand}
def Amp {α:Type} {E:B8 α} (sc:Abn E) {t n cp:Nat} {a:aj} {xs:List α} {F:aq} {S:List Pc} (h0:xs≠[])
  (h:∀g cs rest,a=some ⟨g,0,none⟩->n=xs.length->xs.length<=cp->cp<=9223372036854775807->cs.length=xs.length * E.sz->cs.length+rest.length=cp * E.sz->(∀w,Cw E w cs xs [])->T c fr (.row g t 0 [] (cs++rest) []::S) Φ)
  (hp:C1 H (.ow E t (ab a n cp) xs F) S:=by exact Do):T c fr H Φ:=.mk fun ac w s g'=>by
 have s1:=s.pick hp;obtain ⟨hnd,ho⟩:=s1.on (.ow E t (ab a n cp) xs F) FA;have hF:=ho.scal sc;rcases ho with ⟨-,h2, -⟩|⟨g,cap,cs,rest,G,h1,h2,h3,h4,h5,h6,h7⟩
 ·exact absurd h2 h0
 ·cases h1;have hG:G=[]:=IQ
  subst hG h7;have hl:=h6.len;refine (h g cs rest rfl rfl h3 (by unfold maxLen at h4;omega) hl h5 (fun w'=>h6.all w')).h ac w (s1.conv rfl ⟨rfl,HN⟩ JG) g'
def Ad9 {α:Type} {E:B8 α} {t g:Nat} {L cs rest:am} {xs:List α} {S:List Pc} (cp:Nat) (hL:L=cs++rest) (hf:∀w,Cw E w cs xs []) (h1:xs.length<=cp) (h2:cp<=9223372036854775807) (h3:L.length=cp * E.sz)
  (h:T c fr (.ow E t (ab (some ⟨g,0,none⟩) xs.length cp) xs [g]::S) Φ) (hp:C1 H (.row g t 0 [] L []) S:=by exact Do):T c fr H Φ:=.mk fun ac w s g'=>by
 subst hL;have s1:=s.pick hp;have hr:=(s1.on (.row g t 0 [] (cs++rest) []) FA).2;exact h.h ac w (s1.conv rfl ⟨FA,.inr ⟨g,cp,cs,rest,[],rfl,GL,h1,FE,IA,hf w,rfl⟩⟩ JG) g'
def Azg {f:Nat} {aS:List Operand} {ts:Array TypeId} {vs:am} (hd:Nat.blt d c.n=true) (ha:Evs fr aS vs) (hv:∀w,St c.G c.D c.w0 H w->(callFunc f vs.toArray).run c.P w=.ok (.value v) w) (h:T c ((d,v)::fr) H Φ):On c fr H (some d) (.call { callee:=.value (.func f),args:=aS.toArray,argTypes:=ts }) ty Φ:=⟨fun _ _ _=>Ph fun Q a w s g=>by
 have e:∀pos Cf gd,(execOp a.eval ⟨some d,.call { callee:=.value (.func f),args:=aS.toArray,argTypes:=ts },ty,pos,Cf,gd⟩).run c.P w=.ok (.value v) w:=by
  intro pos Cf gd;simp [execOp,resolve,Deferred.ofValue,Act.eval,invoke,g.evs ha,hv w s]
 rw [e];exact h.h _ _ s (g.put hd)⟩
def Akz {w:World} {g:Nat} {t:TypeId} {cs:am} (h:Ip w g t cs):w.shape? g=some (t,cs.length):=by
 unfold World.shape?;rw [show w.heap[g]?=_ from h];simp
def ovl {f:Nat} {tS tR e m:Nat} [hS:SlC c.P tS e m] {g o g2 o2 la ca lb cb t1 t2:Nat} {L L2:am}
  (he:∀(args:Array Value) (w:World),(callFunc f args).run c.P w=((Extern.SlicesOverlaps.overlaps #[tS,tS] #[tR] args).run c.P w).andThen fun v w=>.ok (.value v) w)
  (h1:C1 H (.row g t1 0 [] L []) k') (h2:.row g2 t2 0 [] L2 []∈k') (hL:L2≠[]) (w:World) (s:St c.G c.D c.w0 H w) :
  (callFunc f [ab (some ⟨g,o,none⟩) la ca,ab (some ⟨g2,o2,none⟩) lb cb].toArray).run c.P w=.ok (.value (.bool false)) w:=by
 have s1:=s.pick h1;have r1:=(s1.on (.row g t1 0 [] L []) FA).2;have r2:=(s1.on (.row g2 t2 0 [] L2 []) (by simp [h2])).2;have hne:g≠g2:=fun e'=>s1.sep.1 (.row g2 t2 0 [] L2 []) h2 (by simp [Pc.mu]) g JG (by simp [Pc.F,e']);simp only [aZ,bc] at r1 r2;rw [he,Lib.run_overlaps_apart w tS tR e hS.u m (fun w=>Nb hS.s w) ⟨g,o,none⟩ ⟨g2,o2,none⟩ la ca lb cb hne t1 t2 L.length L2.length (Akz r1) (Akz r2) (by simpa using hL) (r1.frozen _) (r1.frozen _)];rfl
def Afh {P M Q d L:am} {o:Nat} (hL:L=P++M++Q) (ho:o=P.length) (hd:M.length=d.length):P++d++Q=L.take o++d++L.drop (o+d.length):=by
 subst hL ho;rw [aM P M Q,gi,<-hd,<-aM,<-aA,ej]
def Aro {B R:am} (m:Nat) (h:m<=R.length):∃X Y,B++R=X++Y++R.drop m/\X.length=m/\Y.length=B.length:=by
 refine ⟨(B++R).take m,((B++R).drop m).take B.length,?_,FF,FF⟩;have:R.drop m=((B++R).drop m).drop B.length:=by rw [cw,Nat.add_comm,<-cw,ej]
 rw [this,aM,bo,bo]
def Nc {g t o m:Nat} {L cs:am} (h1:.row g t 0 [] L []∈H) (hc:cs=(L.drop o).take m) (w:World) (s:St c.G c.D c.w0 H w):∀j u,cs[j]?=some u->w.cell? ((⟨g,o,none⟩:Addr).add j)=some u:=fun j u hu=>by
 subst hc;have r1:=(s.on (.row g t 0 [] L []) h1).2;simp only [aZ,bc] at r1;rw [Addr.add_lit,r1.cell];rw [List.getElem?_take] at hu
 split at hu
 ·rw [dH] at hu;exact hu
 ·cases hu
def Av5 {P:Program} (w:World) (dT sT ty elem m:TypeId) (b o dLen dCap:Nat) (a:Addr) (sLen sCap:Nat) (cs:am)
  (hu:P.underlying dT=some (.slice elem)) (hs:(P.info? elem).map (·.size)=some m) (hn:cs.length=Nat.min sLen dLen * m)
  (hsrc:∀j v,cs[j]?=some v->w.cell? (a.add j)=some v) (hc:∀j,j < cs.length->(w.cell? ⟨b,o+j,none⟩).isSome=true) (hf:∀j,j < cs.length->w.frozen? ⟨b,o+j,none⟩=false) (h1:∀v∈cs,v.oneCell'=true) :
  (Builtin.copy_ #[dT,sT] ty #[ab (some ⟨b,o,none⟩) dLen dCap,ab (some a) sLen sCap]).run P w=.ok (goInt (Nat.min sLen dLen:Nat)) (w.setCells b o cs):=by
 have hl:=run_loadCells_list (P:=P) w a cs hsrc;have hst:=run_storeCells_cells (P:=P) b o cs 0 w (by simpa using hc) (by simpa using hf) h1;cases hq:P.info? elem with
 | none=>simp [hq] at hs
 | some i =>
  have hi:i.size=m:=by simpa [hq] using hs
  simp [Builtin.copy_,run_underlying hu,Builtin.lenOf,Builtin.firstCells,sizeOf,typeInfo,hq,hi,<-hn,hl,hst]
def Xt {dT sT e m g t oo dn dc sn sc:Nat} {ad:Addr} {L L' cs:am} {S:List Pc} [hS:SlC c.P dT e m] (hd:Nat.blt d c.n=true) (hx:ev fr x=some (ab (some ⟨g,oo,none⟩) dn dc)) (hy:ev fr y=some (ab (some ad) sn sc))
  (hsrc:∀w,St c.G c.D c.w0 H w->∀j u,cs[j]?=some u->w.cell? (ad.add j)=some u) (hr:Rpl H (.row g t 0 [] L []) (.row g t 0 [] L' []) S)
  (hL:L'=L.take oo++cs++L.drop (oo+cs.length)) (hn:cs.length=Nat.min sn dn * m) (hfit:oo+cs.length<=L.length) (h1:∀v∈cs,v.oneCell'=true) (h:T c ((d,aa (Nat.min sn dn:Nat))::fr) S Φ) :
  On c fr H (some d) (.call { callee:=.builtin .copy,args:=#[x,y],argTypes:=#[dT,sT] }) ty Φ:=⟨fun _ _ _=>Ph fun Q a w s ag=>by
 have hP:(Pc.row g t 0 [] L []).P w:=by obtain ⟨R,h1,_⟩:=hr.picks;exact s.on _ h1.mem
 have r1:=hP.2;simp only [aZ,bc] at r1;have hrun:=fun ty=>Av5 (P:=c.P) w dT sT ty e m g oo dn dc ad sn sc cs hS.u hS.s hn (hsrc w s) (fun j hj=>by rw [r1.cell,aE EY];rfl) (fun j hj=>r1.frozen _) h1;have e1:∀pos Cf gd,(execOp a.eval ⟨some d,.call { callee:=.builtin .copy,args:=#[x,y],argTypes:=#[dT,sT] },ty,pos,Cf,gd⟩).run c.P w=.ok (.value (goInt (Nat.min sn dn:Nat))) (w.setCells g oo cs):=by
  intro pos Cf gd;simp only [execOp,resolve,invoke,builtin,Sem.run_bind,Sem.run_pure,Result.andThen_ok,cW,cI,di,ag.ev hx,ag.ev hy,hrun]
 rw [e1];have hsplit:L=L.take oo++(L.drop oo).take cs.length++L.drop (oo+cs.length):=by
  rw [<-cw,aM,bo,bo]
 have r2:=r1;rw [hsplit] at r2;have r3:=Ip.put cs _ r2 (p:=oo) FF FF;have hk:=Mi (g:=g) cs w oo;rw [M5 w g cs w] at r3 hk;rw [<-hL] at r3;refine h.h _ _ (s.rpl hr rfl (fun b hb=>.inl hb) hk ⟨rfl,by simpa using r3⟩) (ag.put hd)⟩
def Aq6 {t tn e m b g oo n cp k:Nat} {zv:Value} {olds:am} {q:Int} [hS:SlC c.P t e m] [hE:ElT c.P e zv m b] [hI:IntC c.P tn .i64] (hd:Nat.blt d c.n=true) (hx:ev fr x=some (ab (some ⟨g,oo,none⟩) n cp)) (hy:ev fr y=some (aa q)) (hq:q=(k:Int))
  (hso:∀w,St c.G c.D c.w0 H w->∀j u,olds[j]?=some u->w.cell? ((⟨g,oo,none⟩:Addr).add j)=some u)
  (hlo:olds.length=n * m) (hm:0 < m) (hk:0 < k) (hg:cp < n+k) (h63:n+k<=4294967296) (hby:(n+k) * b<=140737488355328)
  (h:∀g' cp' Z rest,n+k<=cp'->cp'<=9223372036854775807->Z.length=k * m->(olds++Z++rest).length=cp' * m->T c ((d,ab (some ⟨g',0,none⟩) ((n+k:Nat)) cp')::fr) (.row g' e 0 [] (olds++Z++rest) []::H) Φ) :
  On c fr H (some d) (.call { callee:=.builtin .append,args:=#[x,y],argTypes:=#[t,tn] }) ty Φ:=⟨fun _ _ _=>Ph fun Q a w s ag=>by
 subst hq;obtain ⟨i,hi,hiz⟩:=cu.1 hE.i;simp only [Prod.mk.injEq] at hiz;obtain ⟨i1,i2,i3⟩:=hiz;subst i2 i3;have hold:(Builtin.firstCells i.size n (ab (some ⟨g,oo,none⟩) n cp)).run c.P w.drew=.ok olds.toArray w.drew:=run_firstCells_some w.drew i.size n ⟨g,oo,none⟩ n cp olds hlo (fun j v hj=>hso w s j v hj);have hr:=fun ty=>Lib.run_append_grow_zeros (P:=c.P) w t tn ty e i zv .i64 .i64 hS.u hI.u hi i1 (some ⟨g,oo,none⟩) n cp olds hold k hk hm hg EY (bE (cF _ EY) (bE hby EZ)) (growslice_fits hg hby)
 have e1:∀pos Cf gd,(execOp a.eval ⟨some d,.call { callee:=.builtin .append,args:=#[x,y],argTypes:=#[t,tn] },ty,pos,Cf,gd⟩).run c.P w=.ok (.value (ab (some ⟨w.heap.size,0,none⟩) (n+k) (grownCap w (n+k) cp e))) (w.drew.alloc (.cells (olds.toArray++Builtin.zeroCells zv.cells k++Builtin.zeroCells zv.cells (grownCap w (n+k) cp e - (n+k))) e)):=by
  intro pos Cf gd;simp only [execOp,resolve,invoke,builtin,Sem.run_bind,Sem.run_pure,Result.andThen_ok,cW,cI,di,ag.ev hx,ag.ev hy,hr]
 rw [e1];have hge:=grownCap_ge w (n+k) cp e;have hle:=grownCap_le_maxLen w (n+k) cp e FE;have hBel:Below w.heap.size w (w.drew.alloc (.cells (olds.toArray++Builtin.zeroCells zv.cells k++Builtin.zeroCells zv.cells (grownCap w (n+k) cp e - (n+k))) e)):=(Eu (Below.refl w.heap.size w) 1).alloc (aK _) _;have hz:∀q,(Builtin.zeroCells zv.cells q).toList.length=q * i.size:=fun q=>by rw [Nv,hE.s]
 refine (h w.heap.size (grownCap w (n+k) cp e) (Builtin.zeroCells zv.cells k).toList (Builtin.zeroCells zv.cells (grownCap w (n+k) cp e - (n+k))).toList hge (by unfold maxLen at hle;omega) (hz k) ?_).h _ _ (s.add (N:=[.row w.heap.size e 0 [] (olds++(Builtin.zeroCells zv.cells k).toList++(Builtin.zeroCells zv.cells (grownCap w (n+k) cp e - (n+k))).toList) []]) hBel ?_ ⟨FA,trivial⟩ ?_) (ag.put hd)
 ·rw [aA,aA,hz,hz,hlo,<-cC,<-cC];congr 1;omega
 ·intro p hp;rw [aL] at hp;subst hp;refine ⟨rfl,?_⟩;have:=Ip.made w.drew e (olds++(Builtin.zeroCells zv.cells k).toList++(Builtin.zeroCells zv.cells (grownCap w (n+k) cp e - (n+k))).toList);rw [aZ,bc];have e2:(olds++(Builtin.zeroCells zv.cells k).toList++(Builtin.zeroCells zv.cells (grownCap w (n+k) cp e - (n+k))).toList).toArray=olds.toArray++Builtin.zeroCells zv.cells k++Builtin.zeroCells zv.cells (grownCap w (n+k) cp e - (n+k)):=by apply fO;simp
  rw [e2] at this;exact this
 ·intro p hp b hb;rw [aL] at hp;subst hp;simp [Pc.F] at hb;subst hb;exact .inl (aK _)⟩
def Al8 {t e m n cp i:Nat} {a:aj} {q:Int} [hS:SlC c.P t e m] (hd:Nat.blt d c.n=true) (hx:ev fr x=some (ab a n cp)) (hy:ev fr y=some (aa q)) (hq:q=(i:Int)) (hi:i<=n) (h:∀v,T c ((d,v)::fr) H Φ) (hlc:n<=cp:=by omega):On c fr H (some d) (.slice t x (some y) none none) ty Φ:=⟨fun _ _ _=>Ph fun Q ac w s g=>by
 subst hq;have he2:=Afu hS;obtain ⟨v,h3⟩:∃v,(Instr.sliceAt t (ab a n cp) (some (aa (i:Int))) none none).run c.P w=.ok v w:=by
  rw [run_sliceAt_slice (h:=GE),run_slice_l (ht:=GE) (h0:=EY) (h1:=EY),he2,Nb hS.s];exact ⟨_,rfl⟩
 have e1:∀pos Cf gd,(execOp ac.eval ⟨some d,.slice t x (some y) none none,ty,pos,Cf,gd⟩).run c.P w=.ok (.value v) w:=by
  intro pos Cf gd;simp only [execOp,cP,bW,g.ev hx,g.ev hy,Sem.run_bind,h3,Result.andThen_ok,Sem.run_pure]
 rw [e1];exact (h v).h _ w s (g.put hd)⟩
end
structure I3 where
 Ae:Int
 Cm:Int
def Bv:B8 I3 where
 sz:=2
 Mj _ cs x F:=cs=[aa x.Ae,aa x.Cm]/\F=[]
 len h:=by obtain ⟨rfl,rfl⟩:=h;rfl
 lt h:=by obtain ⟨rfl,rfl⟩:=h;simp
 frame h _:=h
def I9:One Bv:=fun h u hu=>by
 obtain ⟨rfl,rfl⟩:=h;simp only [aG,aT,bn] at hu;rcases hu with rfl|rfl
 ·rfl
 ·rfl
def Lf:Abn Bv:=fun h=>by obtain ⟨rfl,rfl⟩:=h;rfl
def Aj5:(prog.info? 165).map (fun i=>(i.zero,i.size,i.bytes))=some (some (.agg #[aa 0,aa 0]),2,16):=FB
section
variable {c:Cx} {fr:Fr} {H:List Pc} {Φ:Gl}
def Aou {v:Value} {x:I3} {F:aq} (h:∀(_:Unit),v=.agg #[aa x.Ae,aa x.Cm]->T c fr (H) Φ) (hm:.isv Bv v x F∈H:=by exact Bp):T c fr H Φ:=.mk fun a w s g=>by
 obtain ⟨cs,rfl,rfl,rfl⟩:=s.get hm;exact (h () rfl  ).h a w s g
def Uy {a:aj} {n cp:Nat} {xs:List I3} {F:aq} (i:Nat) (h:∀(hi:i < xs.length) (b o:Nat),a=some ⟨b,o,none⟩->T c fr (.cel b (o+i * 2) [aa xs[i].Ae,aa xs[i].Cm]::H) Φ) (hm:.sl Bv (ab a n cp) xs F∈H:=by exact Bp) (hi:i < xs.length:=by omega):T c fr H Φ:=.mk fun ac w s g=>by
 exact CQ
end
def Cd (x:Int):Bool:=Ff 0 x 65535
def Ld (x:Int):Bool:=Ff 0 x 9999
def Pj (x:Int):Bool:=Ff 1 x 7
def Jj (x:Int) (w:World):Calls prog 181 #[aa x] w fun e w'=>e=.returned (.bool (Cd x))/\w=w':=by
 go_enter func181,ntmps181
 go_wp2_with (go_at_call 37;refine (Hw _ _ _ _).mono ?_;rintro e w' ⟨rfl,rfl⟩)
 go_ret
 exact DT
def Oh (x:Int) (w:World):Calls prog 86 #[aa x] w fun e w'=>e=.returned (.bool (Cd x))/\w=w':=by
 go_enter func86,ntmps86
 go_wp2_with (go_at_call 114;refine (Kq _ _ _ _).mono ?_;rintro e w' ⟨rfl,rfl⟩)
 go_ret
 exact DT
def Tm (x:Int) (w:World):Calls prog 180 #[aa x] w fun e w'=>e=.returned (.bool (Ld x))/\w=w':=by
 go_enter func180,ntmps180
 go_wp2_with (go_at_call 37;refine (Hw _ _ _ _).mono ?_;rintro e w' ⟨rfl,rfl⟩)
 go_ret
 exact DT
def Aa2 (x:Int) (w:World):Calls prog 185 #[aa x] w fun e w'=>e=.returned (.bool (Ld x))/\w=w':=by
 go_enter func185,ntmps185
 go_wp2_with (go_at_call 114;refine (Kq _ _ _ _).mono ?_;rintro e w' ⟨rfl,rfl⟩)
 go_ret
 exact DT
def Vk (x:Int) (w:World):Calls prog 148 #[aa x] w fun e w'=>e=.returned (.bool (Pj x))/\w=w':=by
 go_enter func148,ntmps148
 go_wp2_with (go_at_call 37;refine (Hw _ _ _ _).mono ?_;rintro e w' ⟨rfl,rfl⟩)
 go_ret
 exact DT
def Ae7 (lo hi:Int) (zs:ar) (i:Nat):Bool:=Ff lo (zs.getD i 0) hi && (i == 0 || decide (zs.getD (i - 1) 0 < zs.getD i 0))
def Rc (lo hi:Int) (zs:ar):Bool:=Pr (Ae7 lo hi zs) zs.length
def W8 {lo hi:Int} {zs:ar} (h:0 < zs.length):Ae7 lo hi zs 0=Ff lo zs[0] hi:=by simp [Ae7,h]
def Ub {lo hi:Int} {zs:ar} {m:Nat} (h:m+1 < zs.length):Ae7 lo hi zs (m+1)=(Ff lo zs[m+1] hi && decide (zs[m]'EY < zs[m+1])):=by
 simp [Ae7,h,show m < zs.length by omega]
def Agi (v:Value) (zs:ar) (F:aq) (w:World) (h:Sl Bc w v zs F) :
  Calls prog 254 #[v] w fun e w'=>e=.returned (.bool (Rc 1 7 zs))/\w=w':=by
 obtain ⟨a,cap,rfl⟩:=h.slice;obtain ⟨-,hl,hc⟩:=h.int;unfold maxLen at hl
 go_enter func254,ntmps254
 go_wp2
 go_loop [3,4,7] (fun _ _ i=>∃k:Nat,k<=zs.length/\i=aa k/\Hid (∀j,j < k->Ae7 1 7 zs j=true)) (fun _ _ i=>zs.length - (intOf i).toNat)
 case atStart=>exact ⟨0,aD _,rfl,fun j hj=>by omega⟩
 case round =>
  obtain ⟨k,hk,rfl,hz⟩:=hrel;by_cases hlt:k < zs.length
  ·obtain ⟨b,off,rfl,c0⟩:=hc k hlt;rcases k with _|m
   ·have hr:=Lib.hid (W8 (lo:=1) (hi:=7) hlt);clear hc;simp only [bT] at c0;go_wp2_with (go_at_call 148;refine (Vk _ _).mono ?_;rintro e w' ⟨rfl,rfl⟩)
    ·have t:Ff 1 zs[0] 7=true:=FR
     exact ⟨⟨1,EY,HT,V3 hz.out (by rw [hr.out,t])⟩,GJ⟩
    ·have t:¬Ff 1 zs[0] 7=true:=FR
     go_ret
     exact ⟨Cs (Md hlt (by rw [hr.out];simpa using t)).symm,rfl⟩
   ·obtain ⟨b',off',hb',c1⟩:=hc m EY;cases hb';have hr:=Lib.hid (Ub (lo:=1) (hi:=7) hlt);clear hc;go_wp2_with (go_at_call 148;refine (Vk _ _).mono ?_;rintro e w' ⟨rfl,rfl⟩)
    ·have t:zs[m+1]<=zs[m]:=FR
     go_ret
     exact ⟨Cs (Md hlt (by rw [hr.out];simp;omega)).symm,rfl⟩
    ·have t:Ff 1 zs[m+1] 7=true:=FR
     have t2:zs[m] < zs[m+1]:=FR
     exact ⟨⟨m+2,EY,HT,V3 hz.out (by rw [hr.out,t];simp;omega)⟩,GJ⟩
    ·have t:¬Ff 1 zs[m+1] 7=true:=FR
     go_ret
     exact ⟨Cs (Md hlt (by rw [hr.out];simp [t])).symm,rfl⟩
  ·go_wp2
   go_ret
   exact ⟨Cs (Ks (fun i hi=>hz.out i EY)).symm,rfl⟩
def Aq0 (v:Value) (zs:ar) (F:aq) (lo hi:Int) (w:World) (h:Sl Bc w v zs F) :
  Calls prog 314 #[v,aa lo,aa hi] w (RB (.bool (Rc lo hi zs)) w):=by
 obtain ⟨a,cap,rfl⟩:=h.slice;obtain ⟨-,hl, -⟩:=h.int;unfold maxLen at hl
 go_enter func314,ntmps314
 go_wp2
 go_loopw [7] (fun i wr=>∃k:Nat,k<=zs.length/\i=aa k/\Hid (∀j,j < k->Ae7 lo hi zs j=true)/\Below w.heap.size w wr) (fun i _=>zs.length - (intOf i).toNat)
 case atStart=>exact ⟨0,aD _,rfl,fun j hj=>by omega,Below.refl _ _⟩
 case round =>
  obtain ⟨k,hk,rfl,hz,hB⟩:=hrel;have hc:=(h.below EZ hB).int.2.2;by_cases hlt:k < zs.length
  ·obtain ⟨b,off,rfl,c0⟩:=hc k hlt;rcases k with _|m
   ·have hr:=Lib.hid (W8 (lo:=lo) (hi:=hi) hlt);clear hc;simp only [bT] at c0;cases t:Ff lo zs[0] hi
    ·go_wp2_with fail
     go_quiet ((go_at_call 114;exact Ys (Kq _ _ _ _)))
     go_wp2_with fail
     go_ret
     exact ⟨Cs (Md hlt (by rw [hr.out,t])).symm,Eu hB _⟩
    ·go_wp2_with fail
     go_quiet ((go_at_call 114;exact Ys (Kq _ _ _ _)))
     go_wp2_with fail;exact ⟨⟨1,EY,HT,V3 hz.out (by rw [hr.out,t]),Eu hB _⟩,GJ⟩
   ·obtain ⟨b',off',hb',c1⟩:=hc m EY;cases hb';have hr:=Lib.hid (Ub (lo:=lo) (hi:=hi) hlt);clear hc;cases t:Ff lo zs[m+1] hi
    ·go_wp2_with fail
     go_quiet ((go_at_call 114;exact Ys (Kq _ _ _ _)))
     go_wp2_with fail
     go_ret
     exact ⟨Cs (Md hlt (by rw [hr.out,t];rfl)).symm,Eu hB _⟩
    ·by_cases t2:zs[m] < zs[m+1]
     ·go_wp2_with fail
      go_quiet ((go_at_call 114;exact Ys (Kq _ _ _ _)))
      go_wp2_with fail;exact ⟨⟨m+2,EY,HT,V3 hz.out (by rw [hr.out,t];simpa using t2),Eu hB _⟩,GJ⟩
     ·have t3:zs[m+1]<=zs[m]:=EY
      go_wp2_with fail
      go_quiet ((go_at_call 114;exact Ys (Kq _ _ _ _)))
      go_wp2_with fail
      go_ret
      exact ⟨Cs (Md hlt (by rw [hr.out];simp;omega)).symm,Eu hB _⟩
  ·go_wp2
   go_ret
   exact ⟨Cs (Ks (fun i hi=>hz.out i EY)).symm,hB⟩
def Aqy (v:Value) (zs:ar) (F:aq) (w:World) (h:Sl Bc w v zs F) :
  Calls prog 261 #[v] w (RB (.bool (Rc 1 7 zs)) w):=by
 go_enter func261,ntmps261
 go_wp2_with (go_at_call 314;refine (Aq0 _ zs F _ _ _ h).mono ?_;rintro e w' ⟨rfl,hb1⟩)
 go_ret
 exact ⟨rfl,hb1⟩
def Ba {x:Int}:Cd x=true↔0<=x/\x<=65535:=by unfold Cd Ff;simp
def Cf (x n:Int):Int:=(x+n) % 65536
def gp (a b:Int):Int:=(b - a) % 65536
def Ug (a b:Int):Bool:=Ff 1 (gp a b) 32767
def Lt (a b:Int):0<=gp a b/\gp a b<=65535:=by unfold gp;omega
def Jk (a b:Int):0<=Cf a b/\Cf a b<=65535:=HG
def Qb (a b:Int):Cd (Cf a b)=true:=Ba.2 (Jk a b)
def Ary (z:Int):((z.tmod 65536)+65536).tmod 65536=z % 65536:=by
 rw [eH (a:=z.tmod 65536+65536),eH]
 split <;> split <;> omega
def Bee (z:Int):-65535<=z.tmod 65536/\z.tmod 65536<=65535:=by
 rw [eH]
 split <;> omega
def Sv (x n:Int) (w:World) (h0:-4611686018427387904<=x+n) (h1:x+n<=4611686018427387904) :
  Calls prog 225 #[aa x,aa n] w fun e w'=>e=.returned (aa (Cf x n))/\w=w':=by
 have hb:=Bee (x+n);have hb1:=hb.1;have hb2:=hb.2;clear hb;by_cases hz:0<=x+n
 ·go_enter func225,ntmps225
  go_wp2
  go_ret
  exact ⟨L8 HG,rfl⟩
 ·have ht:=Ary (x+n);have ht:=Lib.hid ht
  go_enter func225,ntmps225
  go_wp2
  go_ret
  refine ⟨L8 ?_,rfl⟩;have:=ht.out;rw [eH (a:=(x+n).tmod 65536+65536)] at this;unfold Cf
  split at this <;> omega
def P3 (a b:Int) (w:World) (h0:-4611686018427387904<=b - a) (h1:b - a<=4611686018427387904) (ha:-4611686018427387904<=a) (ha':a<=4611686018427387904) :
  Calls prog 183 #[aa a,aa b] w fun e w'=>e=.returned (aa (gp a b))/\w=w':=by
 go_enter func183,ntmps183
 go_wp2_with fail;refine (Sv b (-a) _ EY EY).mono ?_;rintro e w' ⟨rfl,rfl⟩;go_wp2_with fail
 go_ret
 exact ⟨L8 (by unfold Cf gp;omega),rfl⟩
def Od (a b:Int) (w:World) (h0:-4611686018427387904<=b - a) (h1:b - a<=4611686018427387904) (ha:-4611686018427387904<=a) (ha':a<=4611686018427387904) :
  Calls prog 326 #[aa a,aa b] w fun e w'=>e=.returned (.bool (Ug a b))/\w=w':=by
 go_enter func326,ntmps326
 go_wp2_with fail;refine (P3 a b _ h0 h1 ha ha').mono ?_;rintro e w' ⟨rfl,rfl⟩;go_wp2_with fail;refine (Hw _ _ _ _).mono ?_;rintro e w' ⟨rfl,rfl⟩;go_wp2_with fail
 go_ret
 exact DT
def Id (x n:Int) (w:World) (h0:-131072<=x+n) (h1:x+n<=4611686018427387904) :
  Calls prog 74 #[aa x,aa n] w fun e w'=>e=.returned (aa (Cf x n))/\w=w':=by
 have h2:0<=x+n+131072:=EY
 go_enter func74,ntmps74
 go_wp2
 go_ret
 exact ⟨L8 HG,rfl⟩
def Jw (a b:Int) (w:World) (h0:-65536<=b - a) (h1:b - a<=4611686018427387904) :
  Calls prog 187 #[aa a,aa b] w fun e w'=>e=.returned (aa (gp a b))/\w=w':=by
 have h2:0<=b - a+65536:=EY
 go_enter func187,ntmps187
 go_wp2
 go_ret
 exact ⟨L8 (by unfold gp;omega),rfl⟩
def Q6 (a b:Int) (w:World) (h0:-65536<=b - a) (h1:b - a<=4611686018427387904) :
  Calls prog 315 #[aa a,aa b] w fun e w'=>e=.returned (.bool (Ug a b))/\w=w':=by
 go_enter func315,ntmps315
 go_wp2_with fail;refine (Jw a b _ h0 h1).mono ?_;rintro e w' ⟨rfl,rfl⟩;go_wp2_with fail;refine (Kq _ _ _ _).mono ?_;rintro e w' ⟨rfl,rfl⟩;go_wp2_with fail
 go_ret
 exact DT
end Go.Proofs.YtmppejmafbfhlaaGreatDoor
namespace Go.Proofs.YtmppejmafbfhlaaGreatDoor
open Go.RowKit Go.Shelf
def low (b:UInt8):Bool:=Ff 97 b.toNat 122
def U0 (l:List UInt8):Bool:=l.all low
def P9 (s:au):Bool:=decide ((s.size:Int)<=8) && U0 s.data.toList
def abc:List UInt8:=[97,98,99,100,101,102,103,104,105,106,107,108,109,110,111,112,113,114,115,116,117,118,119,120,121,122]
def Bcb (b:UInt8):abc.contains b=low b:=by
 have h:∀n:Fin 256,abc.contains (UInt8.ofNat n.val)=low (UInt8.ofNat n.val):=by decide +kernel
 have:=h ⟨b.toNat,b.toNat_lt⟩;exact EV
def dropWhile_nil {α:Type} (p:α->Bool) (l:List α):l.dropWhile p=[]↔l.all p=true:=by
 induction l with
 | nil=>simp
 | cons x r ih=>rw [fe];cases h:p x <;> simp [h,ih]
def Aiz {α:Type} (p:α->Bool) (l:List α):(l.dropWhile p).all p=l.all p:=by
 induction l with
 | nil=>simp
 | cons x r ih=>rw [fe];cases h:p x <;> simp [h,ih]
def Awi (l cs:List UInt8):(Lib.trimS l cs=[])↔l.all (cs.contains ·)=true:=by
 unfold Lib.trimS Lib.trimLeftS Lib.trimRightS;rw [dropWhile_nil,List.all_reverse,Aiz,List.all_reverse]
def Bbb (l:List UInt8):(Lib.trimS l abc == [])=U0 l:=by
 rw [cD,eU,Awi];unfold U0;rw [show (fun b=>abc.contains b)=low from funext Bcb]
def Ab0 (s:au) (w:World) (hs:s.size<=maxLen) :
  Calls prog 147 #[af s] w (RB (.bool (P9 s)) w):=by
 unfold maxLen at hs;have hc:=fun w=>Any.strings_Trim_laid Tryz.lays160 FB s ⟨abc.toArray⟩ w hs EZ (ascii_of_all EZ);change ∀w,Calls prog 210 #[af s,af ⟨abc.toArray⟩] w (RB (af ⟨(Lib.trimS s.data.toList abc).toArray⟩) w) at hc;have ht:=Bbb s.data.toList;replace hc:=Lib.hid hc;by_cases h8:s.size<=8
 ·generalize Lib.trimS s.data.toList abc=t at *;have hi:P9 s=(t == []):=by unfold P9;rw [ht,av EY];rfl
  replace hi:=Lib.hid hi;clear ht;cases t with
  | nil =>
   go_enter func147,ntmps147
   go_wp2_with fail;refine (hc.out _).mono ?_;rintro e w1 ⟨rfl,hb⟩;go_wp2_with fail
   go_ret
   exact ⟨Cs hi.out.symm,hb⟩
  | cons a r =>
   go_enter func147,ntmps147
   go_wp2_with fail;refine (hc.out _).mono ?_;rintro e w1 ⟨rfl,hb⟩;go_wp2_with fail
   go_ret
   exact ⟨Cs hi.out.symm,hb⟩
 ·have hi:P9 s=false:=by unfold P9;rw [ay EY];rfl
  replace hi:=Lib.hid hi
  go_enter func147,ntmps147
  go_wp2_with fail
  go_ret
  exact ⟨Cs hi.out.symm,Below.refl _ _⟩
def Avi (s:au) (k:Nat) (h:k < s.size):U0 (s.data.toList.drop k)=(low s[k] && U0 (s.data.toList.drop (k+1))):=by rw [Aft s k h];rfl
def Ry (s:au) (n:Int) (w:World) (hs:s.size<=maxLen) :
  Calls prog 201 #[af s,aa n] w fun e w'=>e=.returned (.bool (decide ((s.size:Int)<=n) && U0 s.data.toList))/\w=w':=by
 unfold maxLen at hs
 go_enter func201,ntmps201
 go_wp2
 go_loop [5] (fun i=>∃k:Nat,k<=s.size/\i=aa k/\Hid (U0 s.data.toList=U0 (s.data.toList.drop k))) (fun i=>s.size - (intOf i).toNat)
 case atStart=>exact ⟨0,aD _,rfl,rfl⟩
 case round =>
  obtain ⟨k,hk,rfl,hz⟩:=hrel;by_cases hlt:k < s.size
  ·have hz:=Lib.hid (hz.out.trans (Avi s k hlt));have hb:(s[k].toNat:Int)<=255:=IE
   cases hl:low s[k]
   ·have hl1:low s[k]=false:=hl;unfold low Ff at hl;by_cases h1:(s[k].toNat:Int) < 97
    ·clear hl
     go_wp2
     go_ret
     exact ⟨Cs (by rw [hz.out,hl1];simp),rfl⟩
    ·have h2:(122:Int) < s[k].toNat:=by simp at hl;omega
     clear hl
     go_wp2
     go_ret
     exact ⟨Cs (by rw [hz.out,hl1];simp),rfl⟩
   ·have hl1:low s[k]=true:=hl;unfold low Ff at hl;simp only [aw,aF] at hl;have h1:¬(s[k].toNat:Int) < 97:=EY
    have h2:¬(122:Int) < s[k].toNat:=EY
    clear hl;replace hl1:=Lib.hid hl1
    go_wp2
    go_round
    case rel=>exact ⟨k+1,EY,HT,by refine Lib.hid ?_;rw [hz.out,hl1.out];rfl⟩
    case measure=>simp [intOf];omega
  ·go_wp2
   go_ret
   exact ⟨Cs (by rw [hz.out,Abs s k hlt];simp [U0]),rfl⟩
end Go.Proofs.YtmppejmafbfhlaaGreatDoor
namespace Go.Proofs.YtmppejmafbfhlaaGreatDoor
open Go.RowKit
structure Aw where
 Am:Int
 size:Int
 Al:ai
def Ck:B8 Aw where
 sz:=3
 Mj w cs x F:=∃v1,cs=[aa x.Am,aa x.size,v1]/\Sl A9 w v1 x.Al F
 len h:=GT
 lt h:=GS
 frame h hF:=FX
def Rp:B8 Aw where
 sz:=3
 Mj w cs x F:=∃v1,cs=[aa x.Am,aa x.size,v1]/\Ow A9 9 w v1 x.Al F
 len h:=GT
 lt h:=KQ
 frame h hF:=FX
def Ac1 (fid:FuncId) (hbd:Zw prog fid) (caps:Array Value) (v:Value) (xs:ai) (F:aq) (p:au->Bool) (w:World) (h:Sl A9 w v xs F)
  (hp:∀(k:Nat) (hk:k < xs.length) (wr:World) (u:Value) (G:aq),Below w.heap.size w wr->IsC A9 wr u xs[k] G->Calls prog fid (#[u]++caps) wr fun e w'=>e=.returned (.bool (p xs[k]))/\Below wr.heap.size wr w') :
  Calls prog 355 #[v,.func (.func fid) #[] caps] w (RB (aa (Si p xs)) w):=by
 obtain ⟨a,cap,rfl⟩:=h.slice;have hl:=h.len;unfold maxLen at hl
 go_enter func355,ntmps355
 go_wp2
 go_loopw [5,8] (fun _ i wr=>∃k:Nat,k<=xs.length/\i=aa k/\Hid (∀j,j < k->∀hj:j < xs.length,p xs[j]=false)/\Below w.heap.size w wr) (fun _ i _=>xs.length - (intOf i).toNat)
 case atStart=>exact ⟨0,aD _,rfl,fun j hj=>by omega,Below.refl _ _⟩
 case round =>
  obtain ⟨k,hk,rfl,hz,hB⟩:=hrel;by_cases hlt:k < xs.length
  ·have hz0:=hz;clear hz;obtain ⟨b,off,_,F1,rfl,hx, -,ja⟩:=(h.below EZ hB).at k hlt;obtain ⟨rfl, -, -⟩:=id hx;have a0:=ja 0 EZ;simp only [show A9.sz=1 from rfl,cV,bT,bM,bH] at a0;clear ja;have hr:=hp k hlt wr _ F1 hB ⟨_,rfl,hx⟩;have hp:=Lib.hid hp;cases hpk:p xs[k]
   all_goals
    rw [hpk] at hr;have hpk:=Lib.hid hpk;have hr:=Lib.hid hr;go_wp2_with fail;refine hbd.upon hr.out ?_;rintro e w1 ⟨rfl,hb1⟩;refine ⟨_,rfl,?_⟩;have hB:=tr hB hb1 (aK _);clear hb1;go_wp2_with fail
   ·exact AV
   ·go_ret
    exact EL
  ·go_wp2
   go_ret
   exact DI
def Zx (fid:FuncId) (hbd:Zw prog fid) (caps:Array Value) (v:Value) (xs:ai) (F:aq) (p:au->Bool) (w:World) (h:Sl A9 w v xs F)
  (hp:∀(k:Nat) (hk:k < xs.length) (wr:World) (u:Value) (G:aq),Below w.heap.size w wr->IsC A9 wr u xs[k] G->Calls prog fid (#[u]++caps) wr fun e w'=>e=.returned (.bool (p xs[k]))/\Below wr.heap.size wr w') :
  Calls prog 307 #[v,.func (.func fid) #[] caps] w (RB (.bool (xs.any p)) w):=by
 have hp:=Lib.hid hp
 go_enter func307,ntmps307
 go_wp2_with fail;refine (Ac1 fid hbd caps v xs F p _ h hp.out).mono ?_;rintro e w1 ⟨rfl,hb1⟩;go_wp2_with fail
 go_ret
 exact ⟨Cs (Ty p xs),hb1⟩
def Abh (v:Value) (xs:ai) (F:aq) (w:World) (h:Sl A9 w v xs F) (hm:xs.length<=4294967296) :
  Calls prog 205 #[v] w (X4 A9 9 xs w):=by
 obtain ⟨ao,c,news,Fy,rfl,hl,hfy,hFy,hsrc⟩:=h.src;have hFl:=hfy.lt;have he:=fun w (a:aj) (n c:Nat)=>Lib.run_eql_slice_nil (P:=prog) w 33 _ a n c 0 0 underlying33
 go_enter func205,ntmps205
 rcases hsrc with ⟨rfl,rfl,rfl⟩|⟨ad,rfl,hn⟩
 ·go_wp2
  go_ret
  exact CE
 ·go_wp2_with (at_builtin;refine Pw D7 EZ FL _ _ _ FL 9 (af ⟨#[]⟩) 16 underlying33 An4 rfl (ab (some ⟨w.heap.size,0,none⟩) 0 0) [] [w.heap.size] FL (Ow.empty (Ip.made _ _ _)) (Hd.one _) (some ad) xs c FL news Fy (hfy.frame fun b hb=>Below.heap_alloc _ _ _ (hFl b hb)) (.inr ⟨ad,rfl,fun j u hu=>kc ((Below.refl _ _).alloc (aK _) _) (hn j u hu)⟩) (fun b hb e=>by have:=hFl b hb;simp [Value.ownBlock] at e;omega) GY GU ?_);intro v2 w2 F2 hA;go_wp2_with fail
  go_ret
  have hB:Below w.heap.size w w2:=((Below.refl _ _).alloc (aK _) _).trans (hA.Je.below FA FA);have hs:∀b,v2.ownBlock=some b->w.heap.size<=b:=fun b hb=>by rcases hA.Arl with e|e <;> rw [e] at hb <;> simp [Value.ownBlock] at hb <;> omega
  refine ⟨v2,F2,rfl,IR,hA.ow.scal Ie▸?_,fun b hb=>?_,hB⟩
  ·cases v2.ownBlock <;> simp
  ·rw [hA.ow.scal Ie] at hb;exact hs b JD
def Ed (x:Aw):Bool:=Cd x.Am && Ff 1 x.size 6 && decide ((x.Al.length:Int)<=x.size) && x.Al.all P9
def Du {x:Aw}:Ed x=true↔(0<=x.Am/\x.Am<=65535)/\(1<=x.size/\x.size<=6)/\(x.Al.length:Int)<=x.size/\x.Al.all P9=true:=by
 unfold Ed;simp only [aw,Ba,Ff,aF,and_assoc]
def Alo (s:au) (w:World) (hs:s.size<=maxLen) :
  Calls prog 308 #[af s] w (RB (.bool (!P9 s)) w):=by
 go_enter func308,ntmps308
 go_wp2_with fail;refine (Ab0 s _ hs).mono ?_;rintro e w1 ⟨rfl,hb⟩;go_wp2_with fail
 go_ret
 exact ⟨rfl,hb⟩
def Aqb (v:Value) (xs:ai) (F:aq) (w:World) (h:Sl A9 w v xs F) :
  Calls prog 245 #[v] w (RB (.bool (xs.all P9)) w):=by
 have hq:(!xs.any fun s=>!P9 s)=xs.all P9:=by rw [ew];simp
 replace hq:=Lib.hid hq
 go_enter func245,ntmps245
 go_wp2_with fail;refine (Zx _ (.mk' func308 rfl rfl) _ _ xs F (fun s=>!P9 s) _ h ?_).mono ?_
 ·rintro k hk wr u G hb ⟨_,rfl,hu⟩;obtain ⟨hu,hsz, -⟩:=hu;cases hu;exact Alo _ _ hsz
 rintro e w1 ⟨rfl,hb⟩;go_wp2_with fail
 go_ret
 exact ⟨Cs hq.out,hb⟩
def So (v:Value) (x:Aw) (F:aq) (w:World) (h:Su Ck w v x F) :
  Calls prog 179 #[v] w (RB (.bool (Ed x)) w):=by
 obtain ⟨_,rfl,v1,rfl,h1⟩:=h;obtain ⟨a,c,rfl⟩:=h1.slice;have hl:=h1.len;unfold maxLen at hl;have hB0:∀A:Obj,Below w.heap.size w (w.alloc A):=fun A=>(Below.refl _ _).alloc (aK _) _
 go_enter func179,ntmps179
 go_wp2_with fail;refine (Jj _ _).mono ?_;rintro e w' ⟨rfl,rfl⟩;cases g1:Cd x.Am
 ·go_wp2_with fail
  go_ret
  exact ⟨Cs (by simp [Ed,g1]),hB0 _⟩
 go_wp2_with fail;refine (Hw _ _ _ _).mono ?_;rintro e w' ⟨rfl,rfl⟩;cases g2:Ff 1 x.size 6
 ·go_wp2_with fail
  go_ret
  exact ⟨Cs (by simp [Ed,g2]),hB0 _⟩
 by_cases g3:(x.Al.length:Int)<=x.size
 ·go_wp2_with fail;refine (Aqb _ x.Al F _ (h1.below EZ (hB0 _))).mono ?_;rintro e w1 ⟨rfl,hb⟩;go_wp2_with fail
  go_ret
  exact ⟨Cs (by simp [Ed,g1,g2,g3]),tr (hB0 _) hb (aK _)⟩
 ·go_wp2_with fail
  go_ret
  exact ⟨Cs KG,hB0 _⟩
def Aao (v:Value) (x:Aw) (F:aq) (w:World) (h:Su Ck w v x F) (hm:x.Al.length<=4294967296) :
  Calls prog 139 #[v] w (Axf Rp x w):=by
 obtain ⟨_,rfl,v1,rfl,h1⟩:=h;obtain ⟨a,c,rfl⟩:=h1.slice;have hB0:∀A B:Obj,Below w.heap.size w ((w.alloc A).alloc B):=fun A B=>((Below.refl _ _).alloc (aK _) _).alloc FA _
 go_enter func139,ntmps139
 go_wp2_with fail;refine (Abh _ x.Al F _ (h1.below EZ (hB0 _ _)) hm).mono ?_;rintro e w1 ⟨v2,F2,rfl,o,n,g,hb⟩;obtain ⟨a2,c2,rfl⟩:=o.slice;have r0:=Ip.below (g:=w.heap.size) (t:=35) (cs:=[aa x.Am,aa x.size,ab a x.Al.length c]) GM hb;have r1:=Ip.below (g:=w.heap.size+1) (t:=35) (cs:=[aa 0,aa 0,ab none 0 0]) GM hb;have hB:=tr (hB0 _ _) hb (aK _);have c0:=r0.cells;have f0:=r0.frozens;have c1:=r1.cells;have f1:=r1.frozens;clear hb;replace o:=Lib.hid o;go_wp2_with fail
 refine bodyPost_ret (v:=.agg #[aa x.Am,aa x.size,ab a2 x.Al.length c2]) ?_ rfl ?_
 ·simp [results,results139,go_sem,c0,c1,f1]
 ·refine ⟨_,F2,rfl,⟨_,rfl,_,rfl,?_⟩,n,fun b hb=>by have:=g b hb;simp at this;omega,?_⟩
  ·repeat refine Ow.setFar ?_ (fun hm=>by have:=g _ hm;simp at this <;> omega) _
   exact o.out
  ·repeat refine Below.setCell ?_ GP _
   exact hB
def Aoi (v:Value) (x:Aw) (F:aq) (w:World) (h:Su Ck w v x F) :
  Calls prog 184 #[v] w (RB (.bool (Ed x)) w):=by
 obtain ⟨_,rfl,v1,rfl,h1⟩:=h;obtain ⟨a,c,rfl⟩:=h1.slice;have hl:=h1.len;unfold maxLen at hl;have hB0:∀A:Obj,Below w.heap.size w (w.alloc A):=fun A=>(Below.refl _ _).alloc (aK _) _
 go_enter func184,ntmps184
 go_wp2_with fail;refine (Oh _ _).mono ?_;rintro e w' ⟨rfl,rfl⟩;cases g1:Cd x.Am
 ·go_wp2_with fail
  go_ret
  exact ⟨Cs (by simp [Ed,g1]),hB0 _⟩
 go_wp2_with fail;refine (Kq _ _ _ _).mono ?_;rintro e w' ⟨rfl,rfl⟩;cases g2:Ff 1 x.size 6
 ·go_wp2_with fail
  go_ret
  exact ⟨Cs (by simp [Ed,g2]),hB0 _⟩
 by_cases g3:x.size < (x.Al.length:Int)
 ·go_wp2_with fail
  go_ret
  exact ⟨Cs KG,hB0 _⟩
 have hg:Ed x=x.Al.all P9:=by unfold Ed;rw [g1,g2,av EY];simp
 replace hg:=Lib.hid hg;go_wp2_with fail;have r0:=Ip.made w 35 [aa x.Am,aa x.size,ab a x.Al.length c];have h2:=h1.below EZ (hB0 (.cells #[aa x.Am,aa x.size,ab a x.Al.length c] 35));have hB:=hB0 (.cells #[aa x.Am,aa x.size,ab a x.Al.length c] 35);generalize w.alloc (.cells #[aa x.Am,aa x.size,ab a x.Al.length c] 35)=w1 at *;have c0:=r0.cells
 go_loop [3] (fun i=>∃k:Nat,k<=x.Al.length/\i=aa k/\Hid (∀j,j < k->∀hj:j < x.Al.length,P9 x.Al[j]=true)) (fun i=>x.Al.length - (intOf i).toNat)
 case atStart=>exact ⟨0,aD _,rfl,fun j hj=>by omega⟩
 case round =>
  obtain ⟨k,hk,rfl,hz⟩:=hrel;by_cases hlt:k < x.Al.length
  ·obtain ⟨hsz,b,off,rfl,hc⟩:=h2.str.2.2 k hlt;cases hi:P9 x.Al[k]
   ·have hi2:(decide ((x.Al[k].size:Int)<=8) && U0 x.Al[k].data.toList)=false:=hi;go_wp2_with fail;refine (Ry _ _ _ hsz).mono ?_;rintro e w' ⟨rfl,rfl⟩;go_wp2_with fail
    go_ret
    refine ⟨Cs ?_,hB⟩;rw [hg.out];exact (cS.2 ⟨x.Al[k],aB _,by simp [hi]⟩).symm
   ·have hi2:(decide ((x.Al[k].size:Int)<=8) && U0 x.Al[k].data.toList)=true:=hi;go_wp2_with fail;refine (Ry _ _ _ hsz).mono ?_;rintro e w' ⟨rfl,rfl⟩;go_wp2_with fail;exact ⟨⟨k+1,EY,HT,fun j hj hl=>by rcases be (cK hj) with h|h;exact hz.out j h hl;subst h;exact hi⟩,GJ⟩
  ·have hk:k=x.Al.length:=EY
   go_wp2_with fail
   go_ret
   refine ⟨Cs ?_,hB⟩;rw [hg.out];refine (aW.2 fun s hs=>?_).symm;obtain ⟨j,hj,rfl⟩:=bl hs;exact hz.out j EY hj
section
variable {P:Program} {n:Nat} {fr:Fr} {H:List Pc} {ty:TypeId}
def Bg5 {f:Nat} {bs caps:List Operand} {us vs:am} (hb:Evs fr bs us) (hc:Evs fr caps vs):Yd P n fr H (.makeFunc (.func f) bs.toArray caps.toArray) ty (.func (.func f) us.toArray vs.toArray):=.mk fun c w d pos Cf gd hA _=>by
 simp [execOp,Instr.makeFunc,hA.evs hb,hA.evs hc]
end
section
variable {c:Cx} {fr:Fr} {H:List Pc} {k:List It} {Φ:Gl} {d:Nat} {ty:TypeId} {x:Operand}
def Ab7 {fo:Operand} {f:Nat} {bd caps:am} {aS:List Operand} {ts:Array TypeId} {vs:am} (hd:Nat.blt d c.n=true) (hf:ev fr fo=some (.func (.func f) bd.toArray caps.toArray)) (hb:Rr c.P f=true) (ha:Evs fr aS vs) (h:Cl c fr H d f (bd++vs++caps) Φ):On c fr H (some d) (.call { callee:=.value fo,args:=aS.toArray,argTypes:=ts }) ty Φ:=⟨fun _ _ _=>Ph fun Q a w s g=>by
 have e:∀pos Cf gd,(execOp a.eval ⟨some d,.call { callee:=.value fo,args:=aS.toArray,argTypes:=ts },ty,pos,Cf,gd⟩).run c.P w=(callFunc f (bd++vs++caps).toArray).run c.P w:=by
  intro pos Cf gd;simp [execOp,resolve,Deferred.ofValue,g.ev hf,invoke,g.evs ha]
 rw [e];obtain ⟨R,hc,hk⟩:=h.h w s;refine (Wf hb).upon hc fun e w' hR=>?_;obtain ⟨v,he,hv⟩:=hk e w' hR;exact ⟨v,he,hv _ (g.put hd)⟩⟩
def Amn {α:Type} {E:B8 α} (sc:Abn E) {t n cp:Nat} {a:aj} {xs:List α} {F:aq} (h0:xs≠[])
  (h:∀g,a=some ⟨g,0,none⟩->F=[g]->n=xs.length->n<=cp->cp<=9223372036854775807->T c fr H Φ) (hm:.ow E t (ab a n cp) xs F∈H:=by exact Bp):T c fr H Φ:=.mk fun ac w s g'=>by
 obtain ⟨hnd,ho⟩:=s.get hm;have hF:=ho.scal sc;rcases ho with ⟨-,h2, -⟩|⟨g,cap,cs,rest,G,h1,h2,h3,h4,h5,h6,h7⟩
 ·exact absurd h2 h0
 ·cases h1;exact (h g rfl (by simpa [Value.ownBlock] using hF) rfl h3 (by unfold maxLen at h4;omega)).h ac w s g'
def Cw.rep0 {α:Type} {E:B8 α} {w:World} {zs:am} {z:α} (h:E.Mj w zs z []):∀n,Cw E w (List.replicate n zs).flatten (List.replicate n z) []
 | 0=>⟨rfl,rfl⟩
 | n+1=>⟨zs,(List.replicate n zs).flatten,[],[],by simp [cU],FA,h,Cw.rep0 h n⟩
def Aix (z:Array Value) (n:Nat):(Builtin.zeroCells z n).toList=(List.replicate n z.toList).flatten:=by
 have:=Oi z n;exact this
def Asu {α:Type} {E:B8 α} (sc:Abn E) {t e m b g n cp i:Nat} {zv:Value} {z0:α} [hS:SlC c.P t e m] [hE:ElT c.P e zv m b] (hz:∀w,E.Mj w zv.cells.toList z0 []) (one:∀u∈zv.cells,u.oneCell'=true) (hm:E.sz=m) {xs:List α} {F:aq} {S:List Pc}
  (hx:ev fr x=some (ab (some ⟨g,0+i * m,none⟩) (n - i) (cp - i))) (hi:i < n) (hn:n=xs.length) (hp:C1 H (.ow E e (ab (some ⟨g,0,none⟩) n cp) xs F) S) (h:T c fr (.ow E e (ab (some ⟨g,0,none⟩) n cp) (xs.take i++List.replicate (n - i) z0) F::S) Φ) :
  On c fr H none (.call { callee:=.builtin .clear,args:=#[x],argTypes:=#[t] }) ty Φ:=⟨fun _ _ _=>Ph fun Q a w s ag=>by
 subst hm;have s1:=s.pick hp;obtain ⟨hnd,ho⟩:=s1.on (.ow E e (ab (some ⟨g,0,none⟩) n cp) xs F) FA;have hF:=ho.scal sc;rcases ho with ⟨h1, -, -⟩|⟨g2,cap,cs,rest,G,h1,h2,h3,h4,h5,h6,h7⟩
 ·cases h1
 cases h1;have hG:G=[]:=IQ
 subst hG h7;have hl:=h6.len;obtain ⟨f1,f2⟩:=h6.cutL i EY;have hcs:=bo (i * E.sz) cs;have hd1:(cs.take (i * E.sz)).length=i * E.sz:=by have:=f1.len;rw [aP (l:=xs),cY EY] at this;exact this
 have hd2:(cs.drop (i * E.sz)).length=(xs.length - i) * E.sz:=by have:=f2.len;rwa [aX (l:=xs)] at this
 have hr:=fun ty=>Uc (P:=c.P) w t e ty zv hS.u (Xl hE.i) one g (0+i * E.sz) (xs.length - i) (cp - i) EY
  (fun j hj=>by rw [hE.s] at hj;rw [h2.cell,aE (by rw [aA,<-hcs,aA,hd1,hd2];omega)];rfl) (fun j _=>h2.frozen _)
 have e1:∀pos Cf gd,(execOp a.eval ⟨none,.call { callee:=.builtin .clear,args:=#[x],argTypes:=#[t] },ty,pos,Cf,gd⟩).run c.P w=.ok (.value (.tuple #[])) (w.setCells g (0+i * E.sz) (Builtin.zeroCells zv.cells (xs.length - i)).toList):=by
  intro pos Cf gd;simp only [execOp,resolve,invoke,builtin,Sem.run_bind,Sem.run_pure,Result.andThen_ok,cW,cI,di,ag.ev hx,hr]
 rw [e1];have hzl:(Builtin.zeroCells zv.cells (xs.length - i)).toList.length=(xs.length - i) * E.sz:=by rw [Nv,hE.s]
 have R0:Ip w g e (cs.take (i * E.sz)++cs.drop (i * E.sz)++rest):=by rw [hcs];exact h2
 have R1:=Ip.put (Builtin.zeroCells zv.cells (xs.length - i)).toList _ R0 (p:=0+i * E.sz) EY (by rw [hzl,hd2]);have hk:=Mi (g:=g) (Builtin.zeroCells zv.cells (xs.length - i)).toList w (0+i * E.sz);rw [M5 w g] at R1 hk;have hW:(Pc.ow E e (ab (some ⟨g,0,none⟩) xs.length cp) (xs.take i++List.replicate (xs.length - i) z0) [g]).P (w.setCells g (0+i * E.sz) (Builtin.zeroCells zv.cells (xs.length - i)).toList):=by
  have hll:(xs.take i++List.replicate (xs.length - i) z0).length=xs.length:=by rw [aA,aP,bi];omega
  have hfl:Cw E (w.setCells g (0+i * E.sz) (Builtin.zeroCells zv.cells (xs.length - i)).toList) (cs.take (i * E.sz)++(Builtin.zeroCells zv.cells (xs.length - i)).toList) (xs.take i++List.replicate (xs.length - i) z0) []:=by
   rw [Aix];exact (f1.all _).append (Cw.rep0 (hz _) _)
  refine ⟨FA,.inr ⟨g,cp,cs.take (i * E.sz)++(Builtin.zeroCells zv.cells (xs.length - i)).toList,rest,[],by rw [hll],R1,by rw [hll];exact h3,h4,?_,hfl,rfl⟩⟩;rw [aA,hzl,hd1,<-cC];rw [<-h5,hl]
  congr 2
  omega
 exact h.h _ _ (St.turn (M:=[.ow E e (ab (some ⟨g,0,none⟩) xs.length cp) xs [g]]) (N:=[.ow E e (ab (some ⟨g,0,none⟩) xs.length cp) (xs.take i++List.replicate (xs.length - i) z0) [g]]) s1 HF (by intro q hq;rw [aL] at hq;subst hq;exact hW) ⟨FA,trivial⟩ (by
   intro q hq b hb;rw [aL] at hq;subst hq;exact .inr (.inl ⟨_,aL.2 rfl,rfl,hb⟩))) ag⟩
end
def Jy {p:Prop} (h:p:=by first|omega|(simp only [aA,aP,aX,aU,aY,bG,bi];omega)):p:=h
def EC (m:Nat):B8 (am) where
 sz:=m
 Mj _ cs x F:=cs=x/\(x.length=m/\∀u∈x,u.oneCell'=true)/\F=[]
 len h:=by obtain ⟨rfl,⟨h,_⟩,_⟩:=h;exact h
 lt h:=by obtain ⟨_,_,rfl⟩:=h;simp
 frame h _:=h
def Ik (m:Nat):Abn (EC m):=fun h=>h.2.2
def Ql (m:Nat):One (EC m):=fun h=>by obtain ⟨rfl,⟨_,h⟩,_⟩:=h;exact h
def Alu {m:Nat} {w:World}:∀{ys:List (am)} {cs:am} {F:aq},Cw (EC m) w cs ys F->cs=ys.flatten/\F=[]/\∀y∈ys,y.length=m
 | [],_,_,h=>⟨h.1,h.2,FA⟩
 | y::r,_,_,h=>by
  obtain ⟨c1,c2,F1,F2,rfl,rfl,⟨rfl,⟨h1,_⟩,rfl⟩,h2⟩:=h;obtain ⟨rfl,rfl,h4⟩:=Alu h2;refine ⟨FA,rfl,fun z hz=>?_⟩;rcases aG.1 hz with rfl|hz
  ·exact h1
  ·exact h4 z hz
def Alw {α:Type} {E:B8 α} {w w':World} (one:One E):∀{xs:List α} {cs:am} {G:aq},Cw E w cs xs G->∃ys:List (am),ys.length=xs.length/\cs=ys.flatten/\(∀y∈ys,y.length=E.sz)/\Cw (EC E.sz) w' cs ys []
 | [],_,_,h=>⟨[],rfl,h.1,FA,h.1,rfl⟩
 | x::r,_,_,h=>by
  obtain ⟨c1,c2,F1,F2,rfl,rfl,h1,h2⟩:=h;obtain ⟨ys,e1,rfl,e2,h3⟩:=Alw (w':=w') one h2;refine ⟨c1::ys,by simp [e1],FA,fun z hz=>?_,c1,ys.flatten,[],[],rfl,rfl,⟨rfl,⟨E.len h1,one h1⟩,rfl⟩,h3⟩;rcases aG.1 hz with rfl|hz
  ·exact E.len h1
  ·exact e2 z hz
def Anx {m:Nat}:∀{ys:List (am)},(∀y∈ys,y.length=m)->ys.flatten.length=ys.length * m
 | [],_=>by simp
 | y::r,h=>by
  have:=Anx (m:=m) (ys:=r) fun z hz=>h z JB;rw [bP,aA,this,h y FA,aU,cC];omega
def Cw.cut {α:Type} {E:B8 α} {w:World} {c1 c2:am} {x1 x2:List α} {G:aq} (h:Cw E w (c1++c2) (x1++x2) G) (hl:c1.length=x1.length * E.sz):∃G1 G2,G=G1++G2/\Cw E w c1 x1 G1/\Cw E w c2 x2 G2:=by
 obtain ⟨d1,d2,G1,G2,he,hG,h1,h2⟩:=h.split;have:d1.length=c1.length:=by rw [h1.len,hl]
 obtain ⟨rfl,rfl⟩:=eX he this.symm;exact ⟨G1,G2,hG,h1,h2⟩
def Bam:∀{N:List Pc},(fp N).Nodup->Ti N
 | [],_=>trivial
 | p::N,h=>⟨fun q hq _ b hb hqb=>Avo h hb (Sk.2 ⟨q,hq,hqb⟩),Bam (bO.1 h).2.1⟩
def St.swap {G D w0 H M N R w} (s:St G D w0 H w) (hM:Kv H M R) (hm:∀p∈M,p.mu=true) (hN:O8 N w) (hnd:(fp M).Nodup->(fp N).Nodup) (hF:∀b∈fp N,b∈fp M):St G D w0 (N++R) w :=
 have s1:St G D w0 (M++R) w:=by simpa using hM.st (X:=[]) HW
 have sM:Ti M:=by
  have:∀(M:List Pc),Ti (M++R)->Ti M:=by
   intro M
   induction M with
   | nil=>intro _;trivial
   | cons p M ih=>intro h;exact ⟨fun q hq=>h.1 q GB,ih h.2⟩
  exact this M s1.sep
 have hn:(fp M).Nodup:=An0 IY (fun p hp=>s1.on p HK) sM
 St.turn (M:=M) (N:=N) s1 (Ek.refl _ w) hN (Bam (hnd hn)) fun p hp b hb=>by
  obtain ⟨q,hq,hqb⟩:=Sk.1 (hF b (Sk.2 ⟨p,hp,hb⟩));exact .inr (.inl ⟨q,hq,hm q hq,hqb⟩)
section
variable {c:Cx} {fr:Fr} {H:List Pc} {Φ:Gl}
def Aea {α:Type} {E:B8 α} (one:One E) {t:TypeId} {v:Value} {xs:List α} {F:aq} {S:List Pc} {m:Nat} (hm:E.sz=m)
  (h:∀(ys:List (am)) F0 G,ys.length=xs.length->(∀y∈ys,y.length=m)->T c fr (.ow (EC m) t v ys F0::.flat E ys.flatten xs G::S) Φ) (hp:C1 H (.ow E t v xs F) S:=by exact Do):T c fr H Φ:=.mk fun a w s g=>by
 subst hm;have s1:=s.pick hp;obtain ⟨hnd,ho⟩:=s1.on (.ow E t v xs F) FA;rcases ho with ⟨rfl,rfl,rfl⟩|⟨b,cap,cs,rest,G,rfl,h2,h3,h4,h5,h6,rfl⟩
 ·refine (h [] [] [] rfl FA).h a w (s1.swap (M:=[_]) (N:=[.ow (EC E.sz) t (ab none 0 0) [] [],.flat E [] [] []]) (.cons .here .nil) HZ ?_ (fun _=>by simp [fp,Pc.F]) GK) g;intro p hp;simp only [aG,aT,bn] at hp;rcases hp with rfl|rfl
  ·exact ⟨FA,.inl ⟨rfl,rfl,rfl⟩⟩
  ·exact ⟨FA,rfl,rfl⟩
 ·obtain ⟨ys,e1,rfl,e2,h7⟩:=Alw (w':=w) one h6;refine (h ys [b] G e1 e2).h a w (s1.swap (M:=[_]) (N:=[.ow (EC E.sz) t (ab (some ⟨b,0,none⟩) xs.length cap) ys [b],.flat E ys.flatten xs G]) (.cons .here .nil) HZ ?_ (fun hn=>by simpa [fp,Pc.F] using hn) GK) g;intro p hp;simp only [aG,aT,bn] at hp;rcases hp with rfl|rfl
  ·exact ⟨FA,.inr ⟨b,cap,ys.flatten,rest,[],by rw [e1],h2,by rw [e1];exact h3,h4,h5,h7,rfl⟩⟩
  ·exact ⟨(dm.1 hnd).2,h6⟩
def Bay {α:Type} {E:B8 α} {t:TypeId} {a:aj} {n cp:Nat} {ys:List (am)} {cs:am} {xs:List α} {F G:aq} {S S2:List Pc} {m:Nat}
  (h:T c fr (.ow E t (ab a n cp) xs (F++G)::S2) Φ) (hm:E.sz=m) (hc:cs=ys.flatten) (hl:ys.length=xs.length) (hp:C1 H (.ow (EC m) t (ab a n cp) ys F) S:=by exact Do) (hp2:C1 S (.flat E cs xs G) S2:=by exact Do):T c fr H Φ:=.mk fun ac w s g=>by
 subst hm hc;have a1:=s.on _ hp.mem;have a2:=s.on _ (hp.sub _ hp2.mem);obtain ⟨nd1,o1⟩:=a1;obtain ⟨nd2,f2⟩:=a2;refine h.h ac w (s.swap (M:=[.ow (EC E.sz) t (ab a n cp) ys F,.flat E ys.flatten xs G]) (N:=[.ow E t (ab a n cp) xs (F++G)]) (.cons hp (.cons hp2 .nil)) (by intro p hp;simp at hp;rcases hp with rfl|rfl <;> rfl) ?_ (fun hn=>by simpa [fp,Pc.F] using hn) GK) g;have hnd:(F++G).Nodup:=by
  have s2:=s.pick hp;refine bO.2 ⟨nd1,nd2,fun b hb b' hb' e=>?_⟩;subst e;exact s2.sep.1 (.flat E ys.flatten xs G) hp2.mem rfl b hb hb'
 intro p hp;simp only [aG,aT,bn] at hp;subst hp;refine ⟨hnd,?_⟩;rcases o1 with ⟨h1,rfl,rfl⟩|⟨b,cap,cs,rest,G',h1,h2,h3,h4,h5,h6,rfl⟩
 ·cases h1;have:xs=[]:=bD hl.symm;subst this;exact .inl ⟨rfl,rfl,by simpa using f2.2⟩
 ·cases h1;obtain ⟨rfl,rfl, -⟩:=Alu h6;exact .inr ⟨b,cp,ys.flatten,rest,G,by rw [hl],h2,by rw [<-hl];exact h3,h4,h5,f2,rfl⟩
def Ba0 {α:Type} {E:B8 α} {ys:List (am)} {xs:List α} {G:aq} {S:List Pc} (i:Nat) (hi:i < xs.length) (hl:ys.length=xs.length) (hm:∀y∈ys,y.length=E.sz)
  (h:∀G1 Gi G2,T c fr (.flat E (ys.take i).flatten (xs.take i) G1::.own E (.agg (ys[i]'EY).toArray) xs[i] Gi::.flat E (ys.drop (i+1)).flatten (xs.drop (i+1)) G2::S) Φ) (hp:C1 H (.flat E ys.flatten xs G) S:=by exact Do):T c fr H Φ:=.mk fun ac w s g=>by
 have s1:=s.pick hp;obtain ⟨hnd,hf⟩:=s1.on (.flat E ys.flatten xs G) FA;have e1:ys.flatten=(ys.take i).flatten++(ys[i]'EY++(ys.drop (i+1)).flatten):=by
  rw [<-bP,<-bF,<-cN,bo]
 have e2:xs=xs.take i++([xs[i]]++xs.drop (i+1)):=FA
 have hf2:Cw E w ((ys.take i).flatten++(ys[i]'EY++(ys.drop (i+1)).flatten)) (xs.take i++([xs[i]]++xs.drop (i+1))) G:=by rw [<-e1,<-e2];exact hf
 obtain ⟨G1,G',rfl,f1,f2⟩:=hf2.cut (by rw [Anx (m:=E.sz) fun y hy=>hm y (bK hy)];simp [hl]);obtain ⟨Gi,G2,rfl,⟨d1,d2,F1,F2,h1,h2,h3,h4⟩,f3⟩:=f2.cut (by rw [hm _ (aB _)];simp);obtain ⟨rfl,rfl⟩:=h4;simp only [bc] at h1 h2;subst h1 h2;refine (h G1 Gi G2).h ac w (s1.swap (M:=[_]) (N:=[.flat E (ys.take i).flatten (xs.take i) G1,.own E (.agg (ys[i]'EY).toArray) xs[i] Gi,.flat E (ys.drop (i+1)).flatten (xs.drop (i+1)) G2]) (.cons .here .nil) HZ ?_ (fun hn=>by simpa [fp,Pc.F] using hn) GK) g
 have hn1:=bO.1 hnd;have hn2:=bO.1 hn1.2.1;intro p hp;simp only [aG,aT,bn] at hp;rcases hp with rfl|rfl|rfl
 ·exact ⟨hn1.1,f1⟩
 ·exact ⟨hn2.1,_,rfl,h3⟩
 ·exact ⟨hn2.2.1,f3⟩
def As8 {α:Type} {E:B8 α} {c1 c2:am} {x1 x2:List α} {G1 G2:aq} {S S2:List Pc} (h:T c fr (.flat E (c1++c2) (x1++x2) (G1++G2)::S2) Φ) (hp:C1 H (.flat E c1 x1 G1) S:=by exact Do) (hp2:C1 S (.flat E c2 x2 G2) S2:=by exact Do):T c fr H Φ:=.mk fun ac w s g=>by
 obtain ⟨nd1,f1⟩:=s.on _ hp.mem;obtain ⟨nd2,f2⟩:=s.on _ (hp.sub _ hp2.mem);refine h.h ac w (s.swap (M:=[.flat E c1 x1 G1,.flat E c2 x2 G2]) (N:=[.flat E (c1++c2) (x1++x2) (G1++G2)]) (.cons hp (.cons hp2 .nil)) (by intro p hp;simp at hp;rcases hp with rfl|rfl <;> rfl) ?_ (fun hn=>by simpa [fp,Pc.F] using hn) GK) g;intro p hq;simp only [aG,aT,bn] at hq;subst hq;refine ⟨bO.2 ⟨nd1,nd2,fun b hb b' hb' e=>?_⟩,f1.append f2⟩;subst e;exact (s.pick hp).sep.1 (.flat E c2 x2 G2) hp2.mem rfl b hb hb'
def Bew {α:Type} (E:B8 α) (t:TypeId) (g:Nat) (v:Value) (xs:List α) (i:Nat) (A B c1 c2:am):Prop :=
 ∀w cs y G1 Gi G2,Ip w g t (A++cs++B)->Cw E w c1 (xs.take i) G1->E.Mj w cs y Gi->Cw E w c2 (xs.drop (i+1)) G2->Ow E t w v (xs.set i y) (g::(G1++Gi++G2))
def Adc {α:Type} {E:B8 α} {t:TypeId} {a:aj} {n cp m:Nat} {xs:List α} {F:aq} {S:List Pc} (i:Nat)
  (h:∀(_:i < xs.length) g A cs B c1 c2 G1 Gi G2,a=some ⟨g,0,none⟩->n=xs.length->n<=cp->Bew E t g (ab (some ⟨g,0,none⟩) n cp) xs i A B c1 c2->T c fr (.row g t (0+i * m) A cs B::.own E (.agg cs.toArray) xs[i] Gi::.flat E c1 (xs.take i) G1::.flat E c2 (xs.drop (i+1)) G2::S) Φ)
  (hm:E.sz=m) (hi:i < xs.length) (hp:C1 H (.ow E t (ab a n cp) xs F) S:=by exact Do):T c fr H Φ:=.mk fun ac w s ag=>by
 subst hm;have s1:=s.pick hp;obtain ⟨hnd,ho⟩:=s1.on (.ow E t (ab a n cp) xs F) FA;rcases ho with ⟨-,rfl, -⟩|⟨g,cap,cs0,rest,G,h1,h2,h3,h4,h5,h6,rfl⟩
 ·simp at hi
 cases h1;obtain ⟨A,cs,B,G1,Gi,G2,rfl,rfl,hA,hc,f1,f2,f3⟩:=h6.focus i hi
 refine (h hi g A cs (B++rest) A B G1 Gi G2 rfl rfl h3 ?_).h ac w (s1.swap (M:=[_]) (N:=[.row g t (0+i * E.sz) A cs (B++rest),.own E (.agg cs.toArray) xs[i] Gi,.flat E A (xs.take i) G1,.flat E B (xs.drop (i+1)) G2]) (.cons .here .nil) HZ ?_ (fun hn=>?_) (fun b hb=>?_)) ag
 ·intro w' cs' y G1' Gi' G2' hr k1 k2 k3;have:=Cw.build hi k1 k2 k3;have hl:=this.len;exact .inr ⟨g,cp,A++cs'++B,rest,G1'++Gi'++G2',FA,GL,IA,h4,by
   have e1:=E.len k2;simp only [aA] at h5 ⊢;omega,this,rfl⟩
 ·have hn1:=bO.1 (dm.1 hnd).2;have hn2:=bO.1 hn1.1;intro p hp;simp only [aG,aT,bn] at hp;rcases hp with rfl|rfl|rfl|rfl
  ·exact ⟨EY,HN⟩
  ·exact ⟨hn2.2.1,_,rfl,f2⟩
  ·exact ⟨hn2.1,f1⟩
  ·exact ⟨hn1.2.1,f3⟩
 ·have:(g::(G1++Gi++G2)).Perm ([g]++(Gi++(G1++(G2++[])))):=by
   simp only [dr,bc,aM];refine List.Perm.cons _ ?_;rw [<-aM,<-aM];exact (gl).append_right _
  exact this.nodup_iff.1 (by simpa [fp,Pc.F] using hn)
 ·simp only [fp,Pc.F,bc,aJ,aG,aT,bn] at hb ⊢
  grind
def Xg {α:Type} {E:B8 α} {t:TypeId} {g o i:Nat} {u v:Value} {xs:List α} {A cs B c1 c2:am} {x1 x2:List α} {G1 Gi G2:aq} {S1 S2 S3 S4:List Pc} (y:α) (hh:Bew E t g u xs i A B c1 c2) (hv:v=.agg cs.toArray) (h:∀F',T c fr (.ow E t u (xs.set i y) F'::S4) Φ) (e1:x1=xs.take i:=by rfl) (e2:x2=xs.drop (i+1):=by rfl)
  (hp1:C1 H (.row g t o A cs B) S1:=by exact Do) (hp2:C1 S1 (.own E v y Gi) S2:=by exact Do) (hp3:C1 S2 (.flat E c1 x1 G1) S3:=by exact Do) (hp4:C1 S3 (.flat E c2 x2 G2) S4:=by exact Do):T c fr H Φ:=.mk fun ac w s ag=>by
 subst hv e1 e2;have hP:Kv H [.row g t o A cs B,.own E (.agg cs.toArray) y Gi,.flat E c1 (xs.take i) G1,.flat E c2 (xs.drop (i+1)) G2] S4:=.cons hp1 (.cons hp2 (.cons hp3 (.cons hp4 .nil)));have s1:St c.G c.D c.w0 ([.row g t o A cs B,.own E (.agg cs.toArray) y Gi,.flat E c1 (xs.take i) G1,.flat E c2 (xs.drop (i+1)) G2]++S4) w:=by simpa using hP.st (X:=[]) HW
 obtain ⟨-,r⟩:=s1.on (.row g t o A cs B) FA;obtain ⟨-,cs',e,hr⟩:=s1.on (.own E (.agg cs.toArray) y Gi) FA;obtain rfl:cs=cs':=KB
 have f1:=(s1.on (.flat E c1 (xs.take i) G1) FA).2;have f3:=(s1.on (.flat E c2 (xs.drop (i+1)) G2) FA).2;have hO:=hh w cs y G1 Gi G2 r f1 hr f3;have hpm:(g::(G1++Gi++G2)).Perm ([g]++(Gi++(G1++(G2++[])))):=by
  simp only [dr,bc,aM];refine List.Perm.cons _ ?_;rw [<-aM,<-aM];exact (gl).append_right _
 have hmM:∀p∈[Pc.row g t o A cs B,.own E (.agg cs.toArray) y Gi,.flat E c1 (xs.take i) G1,.flat E c2 (xs.drop (i+1)) G2],p.mu=true:=by intro p hp;simp only [aG,aT,bn] at hp;rcases hp with rfl|rfl|rfl|rfl <;> rfl
 have hndM:(fp [Pc.row g t o A cs B,.own E (.agg cs.toArray) y Gi,.flat E c1 (xs.take i) G1,.flat E c2 (xs.drop (i+1)) G2]).Nodup:=An0 (by simpa using hmM) (fun p hp=>s1.on p (cA _ hp)) (by
  have sp:=s1.sep;exact ⟨fun q hq=>sp.1 q (cA _ hq),fun q hq=>sp.2.1 q (cA _ hq),fun q hq=>sp.2.2.1 q (cA _ hq),fun q hq=>sp.2.2.2.1 q (cA _ hq),trivial⟩)
 have hnd:(g::(G1++Gi++G2)).Nodup:=hpm.nodup_iff.2 (by simpa [fp,Pc.F] using hndM);refine (h (g::(G1++Gi++G2))).h ac w (s.swap hP hmM (N:=[.ow E t u (xs.set i y) (g::(G1++Gi++G2))]) (by intro p hp;rw [aL] at hp;subst hp;exact ⟨hnd,hO⟩) (fun _=>by simpa [fp,Pc.F] using hnd) (fun b hb=>?_)) ag;simp only [fp,Pc.F,bc,aJ,aG,aT,bn] at hb ⊢
 grind
def Ac5 {α:Type} {E:B8 α} {t e m b:Nat} {z:Value} [hS:SlC c.P t e m] [hE:ElT c.P e z m b] {xs:List α} {F Fy:aq} {g tt:Nat} {cs:am} {u:Value} {R R2 S:List Pc} {d:Nat} {ty:TypeId} {v:Value} {x y:Operand} (one:One E) (ey:α) (hu:u=.agg cs.toArray)
  (h:∀a' c' F',T c ((d,.slice a' (xs++[ey]).length c')::fr) (.ow E e (.slice a' (xs++[ey]).length c') (xs++[ey]) F'::S) Φ)
  (hx:ev fr x=some v:=by rfl) (hy:ev fr y=some (ab (some ⟨g,0,none⟩) 1 1):=by rfl) (hp:C1 H (.ow E e v xs F) R:=by exact Do) (hp2:C1 R (.row g tt 0 [] cs []) R2:=by exact Do) (hp3:C1 R2 (.own E u ey Fy) S:=by exact Do) (hz:0 < E.sz:=by decide) (hm:E.sz=m:=by rfl)
  (h63:xs.length+1<=9223372036854775807:=by omega) (hby:(xs.length+1) * b<=140737488355328:=by omega) (hd:Nat.blt d c.n=true:=by rfl) :
  On c fr H (some d) (.call { callee:=.builtin .append,args:=#[x,y],argTypes:=#[t,t] }) ty Φ:=⟨fun _ _ _=>by
 subst hu;refine ap (ys:=[ey]) (Fy:=Fy) (S:=S) one hz hm hp hx hy rfl (fun w s=>?_) (fun w v' F' s hF w' hk hv=>?_) (by unfold maxLen;exact h63) hby h hd
 ·have hro:=s.on (.row g tt 0 [] cs []) (by simp [hp2.mem]);have how:=s.on (.own E (.agg cs.toArray) ey Fy) (by simp [hp2.sub _ hp3.mem]);obtain ⟨hnd,cs',e1,hrep⟩:=how;obtain rfl:cs=cs':=by simpa using e1
  refine ⟨cs,Cw.one hrep,.inr ⟨_,rfl,fun j u hu=>?_⟩,fun b hb hbF=>?_,hnd⟩
  ·have hr:=hro.2;have:=hr.cell j;simp only [aZ,bc] at this;rw [hu] at this;unfold Addr.add
   split
   ·rename_i e;subst e;exact this
   ·exact EV
  ·exact s.sep.1 (.own E (.agg cs.toArray) ey Fy) (hp2.sub _ hp3.mem) rfl b hbF hb
 ·have hP:Kv (.ow E e v xs F::R) [.ow E e v xs F,.own E (.agg cs.toArray) ey Fy,.row g tt 0 [] cs []] S:=.cons .here (by
   have:∀{R R2 S:List Pc} {p q:Pc},C1 R p R2->C1 R2 q S->Kv R [q,p] S:=by
    intro R R2 S p q h1
    induction h1 generalizing S with
    | here=>intro h2;exact .cons (.there h2) (.cons .here .nil)
    | @there x p R R' h ih =>
     intro h2;cases h2 with
     | here=>exact .cons .here (.cons h .nil)
     | there h3 =>
      cases ih h3 with
      | cons a1 a2 =>
       cases a2 with
       | cons b1 b2=>cases b2;exact .cons (.there a1) (.cons (.there b1) .nil)
   exact this hp2 hp3)
  have s1:St c.G c.D c.w0 ([.ow E e v xs F,.own E (.agg cs.toArray) ey Fy]++S) w:=by
   have s0:St c.G c.D c.w0 ([.ow E e v xs F,.own E (.agg cs.toArray) ey Fy,.row g tt 0 [] cs []]++S) w:=by simpa using hP.st (X:=[]) HW
   have sp:=s0.sep;have hm3:∀q,q∈[Pc.ow E e v xs F,.own E (.agg cs.toArray) ey Fy]++S->q∈[Pc.ow E e v xs F,.own E (.agg cs.toArray) ey Fy,.row g tt 0 [] cs []]++S:=fun q hq=>by
    simp only [bY,aZ,aG] at hq ⊢;rcases hq with h|h|h
    ·exact .inl h
    ·exact .inr (.inl h)
    ·exact .inr (.inr (.inr h))
   exact ⟨s0.Je,fun q hq=>s0.on q (hm3 q hq),⟨fun q hq=>sp.1 q (by
    rcases aG.1 hq with h|h
    ·simp [h]
    ·exact aQ _ (aQ _ h)),fun q hq=>sp.2.1 q (aQ _ hq),sp.2.2.2⟩,fun q hq=>s0.Adw q (hm3 q hq)⟩
  refine St.turn (M:=[.ow E e v xs F,.own E (.agg cs.toArray) ey Fy]) (N:=[.ow E e v' (xs++[ey]) F']) s1 (hk.mono (fun b hb _=>by simp [List.filter,Pc.mu,fp,Pc.F,hb])) JC ⟨FA,trivial⟩ ?_;intro q hq b hb;simp only [aG,aT,bn] at hq;subst hq;rcases hF b hb with h|h|h
  ·exact .inr (.inl ⟨.ow E e v xs F,FA,rfl,h⟩)
  ·exact .inr (.inl ⟨.own E (.agg cs.toArray) ey Fy,FA,rfl,h⟩)
  ·exact .inl EY⟩
def Ba3 {α:Type} {E:B8 α} {a:aj} {n cp:Nat} {xs:List α} {F:aq} (k:Nat) (hk:k<=xs.length) (h:∀F',n<=cp->cp<=9223372036854775807->T c fr (.sl E (ab a k cp) (xs.take k) F'::H) Φ) (hm:.sl E (ab a n cp) xs F∈H:=by exact Bp):T c fr H Φ:=.mk fun ac w s g=>by
 obtain ⟨hz,hs⟩:=s.get hm;obtain ⟨rfl,hnc,hmx⟩:=hs.caps;obtain ⟨F',hF,h2⟩:=hs.takeS k hk;exact (h F' hnc (by unfold maxLen at hmx;omega)).h ac w (s.ro hm rfl rfl ⟨hz,h2⟩ hF) g
/-! the same for slices that read -/
def EA {α:Type} (E:B8 α) (n:Nat):B8 (List α) where
 sz:=n * E.sz
 Mj w cs xs F:=xs.length=n/\Cw E w cs xs F
 len h:=by obtain ⟨rfl,h⟩:=h;exact h.len
 lt h:=h.2.lt
 frame h hF:=⟨h.1,h.2.frame hF⟩
def Af2 {α:Type} {E:B8 α} (one:One E) {a:aj} {n cp:Nat} {xs:List α} {F:aq} {m:Nat} (hm:E.sz=m)
  (h:∀(ys:List (am)) F1 F2,ys.length=xs.length->(∀y∈ys,y.length=m)->T c fr (.sl (EC m) (ab a n cp) ys F1::.isv (EA E xs.length) (.agg ys.flatten.toArray) xs F2::H) Φ) (hp:.sl E (ab a n cp) xs F∈H:=by exact Bp):T c fr H Φ:=.mk fun ac w s g=>by
 subst hm;obtain ⟨hz,a',cap,hv,hl,hh⟩:=s.get hp;cases hv;rcases hh with ⟨rfl,rfl,h0⟩|⟨b,off,F',rfl,hne,rfl,hc⟩
 ·refine (h [] [] [] rfl FA).h ac w (s.add (N:=[.sl (EC E.sz) (ab a 0 cp) [] [],.isv (EA E 0) (.agg #[]) [] []]) (Below.refl _ _) ?_ ?_ ?_) g
  ·intro p hp;simp only [aG,aT,bn] at hp;rcases hp with rfl|rfl
   ·exact ⟨hz,a,cp,rfl,hl,.inl ⟨rfl,rfl,h0⟩⟩
   ·exact ⟨[],rfl,rfl,rfl,rfl⟩
  ·exact ⟨fun q _ hm=>by simp at *;subst_vars;simp [Pc.mu] at hm,fun q hq=>by simp at hq,trivial⟩
  ·intro p hp b hb;simp only [aG,aT,bn] at hp;rcases hp with rfl|rfl <;> simp [Pc.F] at hb
 ·have key:∀(xs:List α) (off:Nat) (G:aq),O0 E w b off xs G->∃cs,Cw E w cs xs G/\∀j u,cs[j]?=some u->w.cell? ⟨b,off+j,none⟩=some u:=by
   intro xs
   induction xs with
   | nil=>intro off G h;exact ⟨[],⟨rfl,h⟩,FA⟩
   | cons x r ih =>
    intro off G h;obtain ⟨c1,F1,F2,rfl,h1,h2,h3⟩:=h;obtain ⟨c2,f2,k2⟩:=ih _ _ h3;have hl1:=E.len h1;refine ⟨c1++c2,⟨c1,c2,F1,F2,rfl,rfl,h1,f2⟩,fun j u hu=>?_⟩;by_cases hj:j < c1.length
    ·rw [bx hj] at hu;rw [h2 j EY];exact hu
    ·rw [bV EY] at hu;have:=k2 _ _ hu
     rwa [show off+E.sz+(j - c1.length)=off+j by omega] at this
  obtain ⟨cs,f1,k1⟩:=key xs off F' hc;obtain ⟨ys,e1,rfl,e2,f2⟩:=Alw (w':=w) one f1;have hys:ys≠[]:=by rintro rfl;exact hne (bD e1.symm)
  refine (h ys [b] F' e1 e2).h ac w (s.add (N:=[.sl (EC E.sz) (ab (some ⟨b,off,none⟩) xs.length cp) ys [b],.isv (EA E xs.length) (.agg ys.flatten.toArray) xs F']) (Below.refl _ _) ?_ ?_ ?_) g
  ·intro p hp;simp only [aG,aT,bn] at hp;rcases hp with rfl|rfl
   ·refine ⟨hz,_,cp,by rw [e1],by rw [e1];exact hl,.inr ⟨b,off,[],rfl,hys,rfl,f2.cells (fun j u hu=>k1 j u hu)⟩⟩
   ·exact ⟨_,rfl,rfl,f1⟩
  ·exact ⟨fun q hq hm=>by simp only [aG,aT,bn] at hq;subst hq;simp [Pc.mu] at hm,fun q hq=>by simp at hq,trivial⟩
  ·intro p hq z hb;simp only [aG,aT,bn] at hq;rcases hq with rfl|rfl
   ·exact .inr ⟨rfl,_,hp,rfl,by simp only [Pc.F,aG,aT,bn] at hb ⊢;exact .inl hb⟩
   ·exact .inr ⟨rfl,_,hp,rfl,by simp only [Pc.F,aG] at hb ⊢;exact .inr hb⟩
def Qq {α:Type} {E:B8 α} {a:aj} {n cp m k:Nat} {ys:List (am)} {v:Value} {xs:List α} {F G:aq} (hm:E.sz=m) (hl:ys.length=xs.length) (hv:v=.agg ys.flatten.toArray)
  (h:∀F',T c fr (.sl E (ab a n cp) xs F'::H) Φ) (hp:.sl (EC m) (ab a n cp) ys F∈H:=by exact Bp) (hp2:.isv (EA E k) v xs G∈H:=by exact Bp):T c fr H Φ:=.mk fun ac w s g=>by
 subst hm hv;obtain ⟨hz,a',cap,hv,hlc,hh⟩:=s.get hp;cases hv;obtain ⟨cs,e, -,hf⟩:=s.get hp2;obtain rfl:ys.flatten=cs:=KB
 rcases hh with ⟨rfl,rfl,h0⟩|⟨b,off,F',rfl,hne,rfl,hc⟩
 ·have:xs=[]:=bD hl.symm;subst this;refine (h []).h ac w (s.add (N:=[.sl E (ab a 0 cp) [] []]) (Below.refl _ _) (by intro p hp;simp only [aG,aT,bn] at hp;subst hp;exact ⟨hz,a,cp,rfl,hlc,.inl ⟨rfl,rfl,h0⟩⟩) ⟨FA,trivial⟩ (by intro p hp b hb;simp only [aG,aT,bn] at hp;subst hp;simp [Pc.F] at hb)) g
 ·have hxs:xs≠[]:=by rintro rfl;exact hne (bD hl)
  have key:∀(ys:List (am)) (off:Nat) (G:aq),O0 (EC E.sz) w b off ys G->∀j u,ys.flatten[j]?=some u->w.cell? ⟨b,off+j,none⟩=some u:=by
   intro ys
   induction ys with
   | nil=>intro off G _ j u hu;simp at hu
   | cons y r ih =>
    intro off G h j u hu;obtain ⟨c1,F1,F2,rfl,⟨rfl,⟨hy, -⟩, -⟩,h2,h3⟩:=h;rw [bP] at hu;by_cases hj:j < c1.length
    ·rw [bx hj] at hu;rw [h2 j (by show j < E.sz;omega)];exact hu
    ·rw [bV EY] at hu;have:=ih _ _ h3 _ _ hu
     rwa [show off+(EC E.sz).sz+(j - c1.length)=off+j by show off+E.sz+(j - c1.length)=off+j;omega] at this
  refine (h (b::G)).h ac w (s.add (N:=[.sl E (ab (some ⟨b,off,none⟩) ys.length cp) xs (b::G)]) (Below.refl _ _) (by
   intro p hp;simp only [aG,aT,bn] at hp;subst hp;exact ⟨hz,_,cp,by rw [hl],by rw [<-hl];exact hlc,.inr ⟨b,off,G,rfl,hxs,rfl,hf.cells (fun j u hu=>key ys off F' hc j u hu)⟩⟩) ⟨FA,trivial⟩ (by
   intro p hq z hb;simp only [aG,aT,bn] at hq;subst hq;simp only [Pc.F,aG] at hb;rcases hb with rfl|hb
   ·exact .inr ⟨rfl,_,hp,rfl,JG⟩
   ·exact .inr ⟨rfl,_,hp2,rfl,hb⟩)) g
def Apn {α:Type} {E:B8 α} {v:Value} {x:α} {F:aq} (h:T c fr (.isv (EA E 1) v [x] F::H) Φ) (hp:.isv E v x F∈H:=by exact Bp):T c fr H Φ:=.mk fun ac w s g=>by
 obtain ⟨cs,e,hr⟩:=s.get hp;exact h.h ac w (s.ro hp rfl rfl ⟨cs,e,rfl,Cw.one hr⟩ (fun b hb=>hb)) g
def Baz {α:Type} {E:B8 α} {k1 k2:Nat} {c1 c2:am} {v1 v2:Value} {x1 x2:List α} {F1 F2:aq} (e1:v1=.agg c1.toArray) (e2:v2=.agg c2.toArray) (h:T c fr (.isv (EA E (k1+k2)) (.agg (c1++c2).toArray) (x1++x2) (F1++F2)::H) Φ) (hp:.isv (EA E k1) v1 x1 F1∈H:=by exact Bp) (hp2:.isv (EA E k2) v2 x2 F2∈H:=by exact Bp):T c fr H Φ:=.mk fun ac w s g=>by
 subst e1 e2;obtain ⟨cs,e,hl,hf⟩:=s.get hp;obtain ⟨cs2,e2,hl2,hf2⟩:=s.get hp2;obtain rfl:c1=cs:=KB
 obtain rfl:c2=cs2:=by simpa using e2
 refine h.h ac w (s.add (N:=[.isv (EA E (k1+k2)) (.agg (c1++c2).toArray) (x1++x2) (F1++F2)]) (Below.refl _ _) (by intro p hp;rw [aL] at hp;subst hp;exact ⟨_,rfl,by simp [hl,hl2],hf.append hf2⟩) ⟨FA,trivial⟩ (by
  intro p hq z hb;rw [aL] at hq;subst hq;rcases aJ.1 hb with hb|hb
  ·exact .inr ⟨rfl,_,hp,rfl,hb⟩
  ·exact .inr ⟨rfl,_,hp2,rfl,hb⟩)) g
def Ya {m:Nat} {cs:am} (hm:cs.length=m) (h1:∀u∈cs,u.oneCell'=true) (w:World):Cw (EC m) w cs [cs] []:=Cw.one ⟨rfl,⟨hm,h1⟩,rfl⟩
def Oy {α:Type} {O R:B8 α} (hW:M9 O R) {v:Value} {x:α} {F:aq} {S:List Pc} (h:∀F',T c fr (.isv R v x F'::S) Φ) (hp:C1 H (.own O v x F) S:=by exact Do):T c fr H Φ:=.mk fun a w s g=>by
 have s1:=s.pick hp;obtain ⟨-,ho⟩:=s1.on (.own O v x F) FA;obtain ⟨F',hF,hs⟩:=Su.weak hW ho;exact (h F').h a w (s1.conv rfl hs hF) g
end
def Qu {p:Pc} {N:List Pc} {w:World} (h:p.P w) (hN:O8 N w):O8 (p::N) w:=fun q hq=>by
 rcases aG.1 hq with rfl|hq
 ·exact h
 ·exact hN q hq
def Asl {w:World}:O8 [] w:=fun q hq=>by cases hq
def Qv {p:Pc} {N:List Pc} {w:World} (h:O8 (p::N) w):p.P w:=h p FA
def H8 {p:Pc} {N:List Pc} {w:World} (h:O8 (p::N) w):O8 N w:=fun q hq=>h q GB
def Ly {A B:aq} (h:(A++B).Nodup):A.Nodup:=(bO.1 h).1
def Ab5 {A B:aq} (h:(A++B).Nodup):B.Nodup:=(bO.1 h).2.1
def St.mer {G D w0 H M N R w} (s:St G D w0 H w) (hM:Kv H M R) (hN:O8 M w->(fp M).Nodup->O8 N w/\(fp N).Nodup) (hF:∀b∈fp N,b∈fp M) (hm:∀p∈M,p.mu=true:=by simp [Pc.mu]):St G D w0 (N++R) w :=
 have s1:St G D w0 (M++R) w:=by simpa using hM.st (X:=[]) HW
 have sM:Ti M:=by
  have:∀(M:List Pc),Ti (M++R)->Ti M:=by
   intro M
   induction M with
   | nil=>intro _;trivial
   | cons p M ih=>intro h;exact ⟨fun q hq=>h.1 q GB,ih h.2⟩
  exact this M s1.sep
 have hh:O8 M w:=fun p hp=>s1.on p HK;have hn:=hN hh (An0 IY hh sM)
 s.swap hM hm hn.1 (fun _=>hn.2) hF
structure Cu where
 Aa:Aw
 Ai:Int
 quiet:Int
 holds:List I3
def Ei:B8 Cu where
 sz:=6
 Mj w cs x F:=∃v1 v2 F1 F2,cs=[aa x.Aa.Am,aa x.Aa.size,v1,aa x.Ai,aa x.quiet,v2]/\Sl A9 w v1 x.Aa.Al F1/\Sl Bv w v2 x.holds F2/\F=F1++F2
 len h:=HP
 lt h:=by
  obtain ⟨v1,v2,F1,F2,rfl,h1,h2,rfl⟩:=h;intro b hb;simp only [aJ] at hb;rcases hb with hb|hb
  ·exact h1.lt EZ b hb
  ·exact h2.lt EZ b hb
 frame h hF:=FK
def Za:B8 Cu where
 sz:=6
 Mj w cs x F:=∃v1 v2 F1 F2,cs=[aa x.Aa.Am,aa x.Aa.size,v1,aa x.Ai,aa x.quiet,v2]/\Ow A9 9 w v1 x.Aa.Al F1/\Ow Bv 165 w v2 x.holds F2/\F=F1++F2
 len h:=HP
 lt h:=by
  obtain ⟨v1,v2,F1,F2,rfl,h1,h2,rfl⟩:=h;intro b hb;simp only [aJ] at hb;rcases hb with hb|hb
  ·exact h1.lt b hb
  ·exact h2.lt b hb
 frame h hF:=FK
section
variable {c:Cx} {fr:Fr} {H:List Pc} {Φ:Gl}
def Hc {v:Value} {x:Cu} {F:aq} (h:∀(a1:aj) (c1:Nat) (F1:aq) (a2:aj) (c2:Nat) (F2:aq),v=.agg #[aa x.Aa.Am,aa x.Aa.size,ab a1 x.Aa.Al.length c1,aa x.Ai,aa x.quiet,ab a2 x.holds.length c2]->x.Aa.Al.length<=maxLen->x.holds.length<=maxLen->T c fr (.sl A9 (ab a1 x.Aa.Al.length c1) x.Aa.Al F1::.sl Bv (ab a2 x.holds.length c2) x.holds F2::H) Φ) (hm:.isv Ei v x F∈H:=by exact Bp):T c fr H Φ:=.mk fun a w s g=>by
 exact AT
def D6 (x:Cu) {a1:aj} {c1:Nat} {F1:aq} {a2:aj} {c2:Nat} {F2:aq}  (h:T c fr (.isv Ei (.agg #[aa x.Aa.Am,aa x.Aa.size,ab a1 x.Aa.Al.length c1,aa x.Ai,aa x.quiet,ab a2 x.holds.length c2]) x (F1++F2)::H) Φ) (m1:.sl A9 (ab a1 x.Aa.Al.length c1) x.Aa.Al F1∈H:=by exact Bp) (m2:.sl Bv (ab a2 x.holds.length c2) x.holds F2∈H:=by exact Bp):T c fr H Φ:=.mk fun a w s g=>by
 refine h.h a w (s.add (N:=[_]) (Below.refl _ _) JA ⟨FA,trivial⟩ fun q hq b hb=>?_) g;obtain rfl:=aL.1 hq;simp only [Pc.F,aJ] at hb;rcases hb with hb|hb
 ·exact .inr ⟨rfl,_,m1,rfl,hb⟩
 ·exact .inr ⟨rfl,_,m2,rfl,hb⟩
def Yo {v:Value} {x:Cu} {F:aq} {S:List Pc} (h:∀(a1:aj) (c1:Nat) (F1:aq) (a2:aj) (c2:Nat) (F2:aq),v=.agg #[aa x.Aa.Am,aa x.Aa.size,ab a1 x.Aa.Al.length c1,aa x.Ai,aa x.quiet,ab a2 x.holds.length c2]->x.Aa.Al.length<=maxLen->x.holds.length<=maxLen->T c fr (.ow A9 9 (ab a1 x.Aa.Al.length c1) x.Aa.Al F1::.ow Bv 165 (ab a2 x.holds.length c2) x.holds F2::S) Φ) (hp:C1 H (.own Za v x F) S:=by exact Do):T c fr H Φ:=.mk fun a w s g=>by
 obtain ⟨hn,cs,rfl,v1,v2,G1,G2,rfl,h1,h2,rfl⟩:=(s.pick hp).on (.own Za v x F) FA;obtain ⟨a1,c1,rfl⟩:=h1.slice;have l1:=h1.len;obtain ⟨a2,c2,rfl⟩:=h2.slice;have l2:=h2.len;exact (h a1 c1 G1 a2 c2 G2 rfl  l1 l2).h a w (s.mer (M:=[.own Za _ x _]) (N:=[.ow A9 _ _ _ G1,.ow Bv _ _ _ G2]) (.cons hp .nil) (fun _ _=>⟨Qu ⟨(Ly hn),h1⟩ (Qu ⟨Ab5 hn,h2⟩ (Asl)),FZ⟩) GK) g
def Alr (x:Cu) {a1:aj} {c1:Nat} {F1:aq} {a2:aj} {c2:Nat} {F2:aq} {S1 S2:List Pc}  (h:T c fr (.own Za (.agg #[aa x.Aa.Am,aa x.Aa.size,ab a1 x.Aa.Al.length c1,aa x.Ai,aa x.quiet,ab a2 x.holds.length c2]) x (F1++F2)::S2) Φ) (m1:C1 H (.ow A9 9 (ab a1 x.Aa.Al.length c1) x.Aa.Al F1) S1:=by exact Do) (m2:C1 S1 (.ow Bv 165 (ab a2 x.holds.length c2) x.holds F2) S2:=by exact Do)  : T c fr H Φ:=.mk fun a w s g =>
 h.h a w (s.mer (M:=[.ow A9 _ _ _ F1,.ow Bv _ _ _ F2]) (N:=[.own Za _ x (F1++F2)]) (.cons m1 (.cons m2 (.nil))) (fun hk hn=>⟨I6 ⟨FZ,_,rfl,_,_,_,_,rfl,(Qv hk).2,(Qv (H8 hk)).2,rfl⟩,FZ⟩) GK) g
end
section
variable {c:Cx} {fr:Fr} {H:List Pc} {Φ:Gl}
def E9 {v:Value} {x:Aw} {F:aq} (h:∀(a1:aj) (c1:Nat) (F1:aq),v=.agg #[aa x.Am,aa x.size,ab a1 x.Al.length c1]->x.Al.length<=maxLen->T c fr (.sl A9 (ab a1 x.Al.length c1) x.Al F1::H) Φ) (hm:.isv Ck v x F∈H:=by exact Bp):T c fr H Φ:=.mk fun a w s g=>by
 exact AI
def Cr (x:Aw) {a1:aj} {c1:Nat} {F1:aq}  (h:T c fr (.isv Ck (.agg #[aa x.Am,aa x.size,ab a1 x.Al.length c1]) x (F1)::H) Φ) (m1:.sl A9 (ab a1 x.Al.length c1) x.Al F1∈H:=by exact Bp):T c fr H Φ:=.mk fun a w s g=>by
 exact AE
def Kg {v:Value} {x:Aw} {F:aq} {S:List Pc} (h:∀(a1:aj) (c1:Nat) (F1:aq),v=.agg #[aa x.Am,aa x.size,ab a1 x.Al.length c1]->x.Al.length<=maxLen->T c fr (.ow A9 9 (ab a1 x.Al.length c1) x.Al F1::S) Φ) (hp:C1 H (.own Rp v x F) S:=by exact Do):T c fr H Φ:=.mk fun a w s g=>by
 have z1:=s.pick hp;obtain ⟨hn,cs,rfl,v1,rfl,h1⟩:=z1.on (.own Rp v x F) FA;obtain ⟨a1,c1,rfl⟩:=h1.slice;have l1:=h1.len;refine (h a1 c1 F rfl  l1).h a w (St.turn (M:=[.own Rp (.agg #[aa x.Am,aa x.size,ab a1 x.Al.length c1]) x _]) (N:=[.ow A9 9 (ab a1 x.Al.length c1) x.Al F]) z1 (Ek.refl _ w) ?_ ?_ ?_) g
 ·intro q hq;simp at hq;subst hq;exact ⟨hn,h1⟩
 ·exact ⟨FA,trivial⟩
 ·exact DN
end
def Jh (w:Aw) (n:Int):Bool:=decide (gp w.Am n < (w.Al.length:Int))
def Alq {n:Int} (h:Ld n=true):0<=n/\n<=9999:=by unfold Ld Ff at h;simpa using h
def Ai0 (x:Cu) (i:Nat):Bool:=match x.holds[i]? with
 | none=>true
 | some h=>Cd h.Ae && Jh x.Aa h.Ae && Ff (x.Ai+1) h.Cm (x.Ai+3) && (decide (i=0) || match x.holds[i - 1]? with|none=>true|some p=>!decide (gp x.Aa.Am h.Ae<=gp x.Aa.Am p.Ae))
def Qe {x:Cu} {i:Nat} (h:i < x.holds.length):Ai0 x i=(Cd x.holds[i].Ae && Jh x.Aa x.holds[i].Ae && Ff (x.Ai+1) x.holds[i].Cm (x.Ai+3) && (decide (i=0) || !decide (gp x.Aa.Am x.holds[i].Ae<=gp x.Aa.Am (x.holds[i - 1]'EY).Ae))):=by
 unfold Ai0;rw [aE h,aE (show i - 1 < x.holds.length by omega)]
def Cp (x:Cu):Bool:=Ed x.Aa && Ld x.Ai && Ff 0 x.quiet 3 && (List.range x.holds.length).all (Ai0 x)
def Ag2 {x:Cu} {i:Nat} (h:i < x.holds.length) (hc:Ai0 x i=false):Cp x=false:=by
 have:(List.range x.holds.length).all (Ai0 x)=false:=cS.2 ⟨i,FI,JK⟩;simp [Cp,this]
def Aep {x:Cu} (h1:Ed x.Aa=true) (h2:Ld x.Ai=true) (h3:Ff 0 x.quiet 3=true) (h:∀j,j < x.holds.length->Ai0 x j=true):Cp x=true:=by
 unfold Cp;rw [h1,h2,h3,aW.2 fun j hj=>h j HE];rfl
def Yb (x:Aw) (n:Int) (v:Value) (F:aq) (h0:0<=x.Am) (h1:x.Am<=65535) (h2:0<=n) (h3:n<=65535) :
  FV 182 [v,aa n] [.isv Ck v x F] (.bool (Jh x n)):=by
 refine enter func182 rfl ntmps182 fun w0=>?_;refine E9 ?_;rintro a1 c1 F1 rfl l1;refine go ?_;intros;refine Ar [0] [] ?_;refine C4 0 1 2 4 ?_;refine Dh 5 6 ?_;refine dN 3 ?_;exact EF
def Zl (x:Aw) (n:Int) (v:Value) (F:aq) (h0:0<=x.Am) (h1:x.Am<=65535) (h2:-1<=n) (h3:n<=65536) :
  FV 186 [v,aa n] [.isv Ck v x F] (.bool (Jh x n)):=by
 refine enter func186 rfl ntmps186 fun w0=>?_;refine E9 ?_;rintro a1 c1 F1 rfl l1;refine go ?_;intros;refine Ar [0] [] ?_;refine C4 0 1 2 4 ?_;refine Dh 5 6 ?_;refine dN 3 ?_;refine oC ?_;refine ce (fun w s=>Jw _ _ _ EY EY) ?_;refine dk ?_;refine Dh 7 8 ?_;exact CR
def Aoj (x:Aw) (n:Int) (v:Value) (F:aq) (h0:0<=x.Am) (h1:x.Am<=65535) (h2:0<=n) (h3:n<=65535) :
  FV 186 [v,aa n] [.isv Ck v x F] (.bool (Jh x n)):=Zl x n v F h0 h1 EY EY
def Xp (x:Cu) (v:Value) (F:aq):FV 112 [v] [.isv Ei v x F] (.bool (Cp x)):=by
 refine enter func112 rfl ntmps112 fun w0=>?_;refine Hc ?_;rintro a1 c1 F1 a2 c2 F2 rfl l1 l2;unfold maxLen at l1 l2;refine Cr x.Aa ?_;generalize F1=F3;refine go ?_;intros;refine cb (fun w st=>So _ x.Aa _ w (st.get (p:=.isv Ck (.agg #[aa x.Aa.Am,aa x.Aa.size,ab a1 x.Aa.Al.length c1]) x.Aa F3) FA)) ?_;cases g1:Ed x.Aa
 ·refine go ?_;refine ret () trivial ?_;simp [Cp,g1,Uh]
 obtain ⟨⟨t0,t1⟩, -⟩:=Du.1 g1;refine go ?_;refine ce (fun w s=>Tm _ _) ?_;cases g2:Ld x.Ai
 ·refine go ?_;refine ret () trivial ?_;simp [Cp,g2,Uh]
 obtain ⟨k0,k1⟩:=Alq g2;refine go ?_;refine ce (fun w s=>Hw _ _ _ _) ?_;cases g3:Ff 0 x.quiet 3
 ·refine go ?_;refine ret () trivial ?_;simp [Cp,g3,Uh]
 refine go ?_;refine Dl [1,2,22,23] (fun k:Nat=>[(24,aa k)]) (fun k=>k<=x.holds.length/\∀j,j < k->Ai0 x j=true) (fun k=>x.holds.length - k) 0 ⟨aD _,fun j h=>by omega⟩ fun k hk=>?_;obtain ⟨hk1,hk2⟩:=hk;refine go ?_;refine Ay rfl (fun h3=>?_) (fun h3=>?_)
 ·have hk3:k < x.holds.length:=EY
  have bad:Ai0 x k=false->Cp x=false:=fun h=>Ag2 hk3 h;have hck:=Qe hk3;refine Uy (xs:=x.holds) k ?_;rintro hi b o e;rw [e];refine go ?_;intros;refine ce (fun w s=>Jj _ _) ?_;cases g4:Cd x.holds[k].Ae
  ·exact DY
  obtain ⟨m0,m1⟩:=Ba.1 g4;refine go ?_;refine cb (fun w st=>(Yb x.Aa x.holds[k].Ae _ _ t0 t1 m0 m1).val w (I6 (st.get (p:=.isv Ck (.agg #[aa x.Aa.Am,aa x.Aa.size,ab a1 x.Aa.Al.length c1]) x.Aa F3) FA))) ?_;cases g5:Jh x.Aa x.holds[k].Ae
  ·refine go ?_;refine ret () trivial ?_;rw [bad (by rw [hck,g4,g5];rfl)];rfl
  refine go ?_;refine ce (fun w s=>Hw _ _ _ _) ?_;cases g6:Ff (x.Ai+1) x.holds[k].Cm (x.Ai+3)
  ·refine go ?_;refine ret () trivial ?_;rw [bad (by rw [hck,g4,g5,g6];rfl)];rfl
  refine go ?_;by_cases hk0:0 < k
  ·have hk4:k - 1 < x.holds.length:=EY
   have hp:=hk2 (k - 1) EY;rw [Qe hk4] at hp;simp only [aw] at hp;obtain ⟨p0,p1⟩:=Ba.1 hp.1.1.1;rw [<-e];refine Uy (xs:=x.holds) (k - 1) ?_;rintro hi5 b5 o5 e5;rw [e5];refine Ar [0,1,3] [] ?_;refine Dh 0 1 ?_;rw [av (show (0:Int) < k by omega)];refine dt 2 ?_;refine Dg 3 ?_;refine Dg 4 ?_;refine Dg 5 ?_;refine Dg 6 ?_;refine Dg 7 ?_;refine Dg 8 ?_;refine Dg 9 ?_;rw [show (k:Int) - 1=((k - 1:Nat):Int) by omega];refine Dg 10 ?_;refine Dg 11 ?_;refine Dg 12 ?_;refine Dg 14 ?_;refine Dg 15 ?_;refine Dg 16 ?_;refine Dg 17 ?_;refine Dg 18 ?_;refine d1g 13 ?_
   apply On.h;refine oC ?_;refine ce (fun w s=>P3 _ _ _ EY EY EY EY) ?_;refine dk ?_;refine d1g 19 ?_;apply On.h;refine oC ?_;refine ce (fun w s=>P3 _ _ _ EY EY EY EY) ?_;refine dk ?_;refine Dg 20 ?_;refine dt 21 ?_;refine dd ?_;refine go ?_;refine Ay rfl (fun h6=>?_) (fun h6=>?_)
   ·exact BT
   ·refine go ?_;refine Ce (k+1) ⟨EY,fun j hj=>?_⟩ EY;rcases be (bA.1 hj) with h|rfl
    ·exact hk2 j h
    ·rw [hck,g4,g5,g6,ay h6];simp
  ·have hz:k=0:=EY
   refine Ar [0,2] [] ?_;refine Dh 0 1 ?_;rw [ay (show ¬(0:Int) < k by omega)];refine dt 2 ?_;refine ds 3 ?_;refine ds 4 ?_;refine ds 5 ?_;refine ds 6 ?_;refine ds 7 ?_;refine ds 8 ?_;refine ds 9 ?_;refine ds 10 ?_;refine ds 11 ?_;refine ds 12 ?_;refine ds 13 ?_;refine ds 14 ?_;refine ds 15 ?_;refine ds 16 ?_;refine ds 17 ?_;refine ds 18 ?_;refine ds 19 ?_;refine ds 20 ?_;refine dt 21 ?_;refine dd ?_;refine go ?_;refine Ce (k+1) ⟨EY,fun j hj=>?_⟩ EY;rcases be (bA.1 hj) with h|rfl
   ·exact hk2 j h
   ·rw [hck,g4,g5,g6,av hz];simp
 have hkl:k=x.holds.length:=EY
 refine go ?_;refine ret () trivial ?_;rw [Aep g1 g2 g3 (hkl▸hk2)];rfl
def Aka (x:Cu) (v:Value) (F:aq):FV 113 [v] [.isv Ei v x F] (.bool (Cp x)):=by
 refine enter func113 rfl ntmps113 fun w0=>?_;refine Hc ?_;rintro a1 c1 F1 a2 c2 F2 rfl l1 l2;unfold maxLen at l1 l2;refine Cr x.Aa ?_;generalize F1=F3;refine go ?_;intros;refine cb (fun w st=>Aoi _ x.Aa _ w (st.get (p:=.isv Ck (.agg #[aa x.Aa.Am,aa x.Aa.size,ab a1 x.Aa.Al.length c1]) x.Aa F3) FA)) ?_;cases g1:Ed x.Aa
 ·refine go ?_;refine ret () trivial ?_;simp [Cp,g1,Uh]
 obtain ⟨⟨t0,t1⟩, -⟩:=Du.1 g1;refine go ?_;refine ce (fun w s=>Aa2 _ _) ?_;cases g2:Ld x.Ai
 ·refine go ?_;refine ret () trivial ?_;simp [Cp,g2,Uh]
 obtain ⟨k0,k1⟩:=Alq g2;refine go ?_;refine ce (fun w s=>Kq _ _ _ _) ?_;cases g3:Ff 0 x.quiet 3
 ·refine go ?_;refine ret () trivial ?_;simp [Cp,g3,Uh]
 refine go ?_;refine Dl [1,2] (fun k:Nat=>[(3,aa k)]) (fun k=>k<=x.holds.length/\∀j,j < k->Ai0 x j=true) (fun k=>x.holds.length - k) 0 ⟨aD _,fun j h=>by omega⟩ fun k hk=>?_;obtain ⟨hk1,hk2⟩:=hk;refine go ?_;refine Ay rfl (fun h3=>?_) (fun h3=>?_)
 ·have hk3:k < x.holds.length:=EY
  have bad:Ai0 x k=false->Cp x=false:=fun h=>Ag2 hk3 h;have hck:=Qe hk3;refine Uy (xs:=x.holds) k ?_;rintro hi b o e;rw [e];refine go ?_;intros;refine ce (fun w s=>Oh _ _) ?_;cases g4:Cd x.holds[k].Ae
  ·exact DY
  obtain ⟨m0,m1⟩:=Ba.1 g4;refine go ?_;refine cb (fun w st=>(Aoj x.Aa x.holds[k].Ae _ _ t0 t1 m0 m1).val w (I6 (st.get (p:=.isv Ck (.agg #[aa x.Aa.Am,aa x.Aa.size,ab a1 x.Aa.Al.length c1]) x.Aa F3) FA))) ?_;cases g5:Jh x.Aa x.holds[k].Ae
  ·refine go ?_;refine ret () trivial ?_;rw [bad (by rw [hck,g4,g5];rfl)];rfl
  refine go ?_;refine ce (fun w s=>Kq _ _ _ _) ?_;cases g6:Ff (x.Ai+1) x.holds[k].Cm (x.Ai+3)
  ·refine go ?_;refine ret () trivial ?_;rw [bad (by rw [hck,g4,g5,g6];rfl)];rfl
  refine go ?_;by_cases hk0:0 < k
  ·have hk4:k - 1 < x.holds.length:=EY
   have hp:=hk2 (k - 1) EY;rw [Qe hk4] at hp;simp only [aw] at hp;obtain ⟨p0,p1⟩:=Ba.1 hp.1.1.1;rw [<-e];refine Uy (xs:=x.holds) (k - 1) ?_;rintro hi5 b5 o5 e5;rw [e5];refine Ar [0,1,3] [] ?_;refine Dh 0 1 ?_;rw [av (show (0:Int) < k by omega)];refine dt 2 ?_;refine Dg 3 ?_;refine Dg 4 ?_;refine Dg 5 ?_;refine Dg 6 ?_;refine Dg 7 ?_;refine Dg 8 ?_;refine Dg 9 ?_;rw [show (k:Int) - 1=((k - 1:Nat):Int) by omega];refine Dg 10 ?_;refine Dg 11 ?_;refine Dg 12 ?_;refine Dg 14 ?_;refine Dg 15 ?_;refine Dg 16 ?_;refine Dg 17 ?_;refine Dg 18 ?_;refine d1g 13 ?_
   apply On.h;refine oC ?_;refine ce (fun w s=>Jw _ _ _ EY EY) ?_;refine dk ?_;refine d1g 19 ?_;apply On.h;refine oC ?_;refine ce (fun w s=>Jw _ _ _ EY EY) ?_;refine dk ?_;refine Dg 20 ?_;refine dt 21 ?_;refine dd ?_;refine go ?_;refine Ay rfl (fun h6=>?_) (fun h6=>?_)
   ·exact BT
   ·refine go ?_;refine Ce (k+1) ⟨EY,fun j hj=>?_⟩ EY;rcases be (bA.1 hj) with h|rfl
    ·exact hk2 j h
    ·rw [hck,g4,g5,g6,ay h6];simp
  ·have hz:k=0:=EY
   refine Ar [0,2] [] ?_;refine Dh 0 1 ?_;rw [ay (show ¬(0:Int) < k by omega)];refine dt 2 ?_;refine ds 3 ?_;refine ds 4 ?_;refine ds 5 ?_;refine ds 6 ?_;refine ds 7 ?_;refine ds 8 ?_;refine ds 9 ?_;refine ds 10 ?_;refine ds 11 ?_;refine ds 12 ?_;refine ds 13 ?_;refine ds 14 ?_;refine ds 15 ?_;refine ds 16 ?_;refine ds 17 ?_;refine ds 18 ?_;refine ds 19 ?_;refine ds 20 ?_;refine dt 21 ?_;refine dd ?_;refine go ?_;refine Ce (k+1) ⟨EY,fun j hj=>?_⟩ EY;rcases be (bA.1 hj) with h|rfl
   ·exact hk2 j h
   ·rw [hck,g4,g5,g6,av hz];simp
 have hkl:k=x.holds.length:=EY
 refine go ?_;refine ret () trivial ?_;rw [Aep g1 g2 g3 (hkl▸hk2)];rfl
def Agb (fid:FuncId) (hbd:Zw prog fid) (caps:Array Value) (v:Value) (xs:List I3) (F:aq) (p:I3->Bool) (w:World) (h:Sl Bv w v xs F)
  (hp:∀(k:Nat) (hk:k < xs.length) (wr:World) (u:Value) (G:aq),Below w.heap.size w wr->Su Bv wr u xs[k] G->Calls prog fid (#[u]++caps) wr fun e w'=>e=.returned (.bool (p xs[k]))/\Below wr.heap.size wr w') :
  Calls prog 325 #[v,.func (.func fid) #[] caps] w (RB (aa (Si p xs)) w):=by
 obtain ⟨a,cap,rfl⟩:=h.slice;have hl:=h.len;unfold maxLen at hl
 go_enter func325,ntmps325
 go_wp2
 go_loopw [5,8] (fun _ i wr=>∃k:Nat,k<=xs.length/\i=aa k/\Hid (∀j,j < k->∀hj:j < xs.length,p xs[j]=false)/\Below w.heap.size w wr) (fun _ i _=>xs.length - (intOf i).toNat)
 case atStart=>exact ⟨0,aD _,rfl,fun j hj=>by omega,Below.refl _ _⟩
 case round =>
  obtain ⟨k,hk,rfl,hz,hB⟩:=hrel;by_cases hlt:k < xs.length
  ·have hz0:=hz;clear hz;obtain ⟨b,off,_,F1,rfl,hx, -,ja⟩:=(h.below EZ hB).at k hlt;obtain ⟨rfl,rfl⟩:=id hx;have a0:=ja 0 EZ;have a1:=ja 1 EZ;simp only [show Bv.sz=2 from rfl,cV,bT,bM,bH] at a0 a1;clear ja;have hr:=hp k hlt wr _ _ hB ⟨_,rfl,hx⟩;have hp:=Lib.hid hp;cases hpk:p xs[k]
   all_goals
    rw [hpk] at hr;have hpk:=Lib.hid hpk;have hr:=Lib.hid hr;go_wp2_with fail;refine hbd.upon hr.out ?_;rintro e w1 ⟨rfl,hb1⟩;refine ⟨_,rfl,?_⟩;have hB:=tr hB hb1 (aK _);clear hb1;go_wp2_with fail
   ·exact AV
   ·go_ret
    exact EL
  ·go_wp2
   go_ret
   exact DI
def Ap5 (v:Value) (xs:List I3) (F:aq) (w:World) (h:Sl Bv w v xs F) (hm:xs.length<=4294967296) :
  Calls prog 140 #[v] w (X4 Bv 165 xs w):=by
 obtain ⟨ao,c,news,Fy,rfl,hl,hfy,hFy,hsrc⟩:=h.src;have hFl:=hfy.lt;have he:=fun w (a:aj) (n c:Nat)=>Lib.run_eql_slice_nil (P:=prog) w 36 _ a n c 0 0 underlying36
 go_enter func140,ntmps140
 rcases hsrc with ⟨rfl,rfl,rfl⟩|⟨ad,rfl,hn⟩
 ·go_wp2
  go_ret
  exact CE
 ·go_wp2_with (at_builtin;refine Pw I9 EZ FL _ _ _ FL 165 (.agg #[aa 0,aa 0]) 16 underlying36 Aj5 rfl (ab (some ⟨w.heap.size,0,none⟩) 0 0) [] [w.heap.size] FL (Ow.empty (Ip.made _ _ _)) (Hd.one _) (some ad) xs c FL news Fy (hfy.frame fun b hb=>Below.heap_alloc _ _ _ (hFl b hb)) (.inr ⟨ad,rfl,fun j u hu=>kc ((Below.refl _ _).alloc (aK _) _) (hn j u hu)⟩) (fun b hb e=>by have:=hFl b hb;simp [Value.ownBlock] at e;omega) GY GU ?_);intro v2 w2 F2 hA;go_wp2_with fail
  go_ret
  have hB:Below w.heap.size w w2:=((Below.refl _ _).alloc (aK _) _).trans (hA.Je.below FA FA);have hs:∀b,v2.ownBlock=some b->w.heap.size<=b:=fun b hb=>by rcases hA.Arl with e|e <;> rw [e] at hb <;> simp [Value.ownBlock] at hb <;> omega
  refine ⟨v2,F2,rfl,IR,hA.ow.scal Lf▸?_,fun b hb=>?_,hB⟩
  ·cases v2.ownBlock <;> simp
  ·rw [hA.ow.scal Lf] at hb;exact hs b JD
def Xm (fid:FuncId) (hbd:Zw prog fid) (caps:Array Value) (v:Value) (xs:List I3) (F:aq) (p:I3->Bool) (w:World) (h:Ow Bv 165 w v xs F) (hn:F.Nodup)
  (hp:∀(k:Nat) (hk:k < xs.length) (wr:World) (u:Value) (G:aq),Ek F w wr->Su Bv wr u xs[k] G->Calls prog fid (#[u]++caps) wr fun e w'=>e=.returned (.bool (p xs[k]))/\Below wr.heap.size wr w') :
  Calls prog 279 #[v,.func (.func fid) #[] caps] w fun e w'=>∃v' F',e=.returned v'/\Ow Bv 165 w' v' (xs.filter fun x=>!p x) F'/\F'.Nodup/\(∀b∈F',b∈F)/\Ek F w w':=by
 obtain ⟨F1,hF1,hs⟩:=h.sl (M9.refl _);obtain ⟨a,cap,rfl⟩:=h.slice;have hl:=h.len;unfold maxLen at hl;have hp:=Lib.hid hp
 go_enter func279,ntmps279
 go_wp2_with fail;refine (Agb fid hbd caps _ xs F1 p _ hs (fun k hk wr u G hb hu=>hp.out k hk wr u G (Ek.ofBelow hb) hu)).mono ?_;rintro e w1 ⟨rfl,hb1⟩;have hK1:=Ek.ofBelow (F:=F) hb1;by_cases hany:xs.any p=true
 ·obtain ⟨k0,hk0,hfx,hpk,hfl⟩:=Zi hany;rw [hfx];obtain ⟨g,rfl, -,hg0⟩:=Gap.start (h.below hb1) hn (ys:=xs.take k0) (zs:=xs[k0]::xs.drop (k0+1)) FA EY;obtain ⟨F0,hg0,hF0⟩:=hg0.skip;have hG0:=Lib.hid hg0;clear hg0;have hk1:((k0:Int) == -1)=false:=FA
  go_wp2_with fail
  go_loopw [5,6,7] (fun i j _ wr=>∃(q m:Nat) (F1:aq),q<=xs.length/\0 < m/\((xs.take q).filter fun x=>!p x).length+m=q/\i=aa ((xs.take q).filter fun x=>!p x).length/\j=aa q/\Hid (Gap Bv 165 wr g xs.length cap ((xs.take q).filter fun x=>!p x) m (xs.drop q) F1)/\(∀b∈F1,b∈F)/\Ek F w wr) (fun _ j _ _=>xs.length - (intOf j).toNat)
  case atStart=>exact ⟨k0+1,1,F0,hk0,EY,HJ,HJ,HT,by rw [Db hk0 KK,hfl];exact hG0,hF0,hK1⟩
  case round =>
   obtain ⟨q,m,F1,hq,hm,hlen,rfl,rfl,hG,hF1,hK⟩:=hrel;obtain ⟨-,hcap, -⟩:=hG.out.caps;generalize hys:((xs.take q).filter fun x=>!p x)=ys at *;by_cases hlt:q < xs.length
   ·rw [bF hlt] at hG;obtain ⟨c,Fx,hx,hFx,hcell⟩:=hG.out.first
    obtain ⟨Fx2, -,hxe⟩:=(M9.refl _).Mj hx;obtain ⟨rfl,rfl⟩:=id hx;have a0:=hcell 0 EZ;have a1:=hcell 1 EZ;simp only [hlen,show Bv.sz=2 from rfl,cV,bT,bM,bH] at a0 a1;have hr:=fun A=>hp.out q hlt (wr.alloc A) _ Fx2 (hK.alloc A) ⟨_,rfl,Bv.below hxe ((Below.refl wr.heap.size wr).alloc (aK _) A)⟩;cases hpq:p xs[q]
    ·obtain ⟨st,c2,Fx3,hx3, -,hcell2,back⟩:=hG.out.move hm;simp only [hpq] at hr;obtain rfl:=Ah8 (Bv.len hx) (Bv.len hx3) hcell hcell2;have st:=st;obtain ⟨⟨x0,z0⟩,g0⟩:=st 0 EZ;obtain ⟨⟨x1,z1⟩,g1⟩:=st 1 EZ;simp only [show Bv.sz=2 from rfl,cV,bT] at z0 g0 z1 g1;have hr:=Lib.hid hr;have hbk:=Lib.hid back;have hpq:=Lib.hid hpq;have hys:=Lib.hid hys;have hlen:=Lib.hid hlen;have hyl:ys.length < xs.length:=by have:=hlen.out;omega
     clear hx hxe hcell hcell2 hx3 back st hfx hpk hfl;go_wp2_with fail;refine hbd.upon (hr.out _) ?_;rintro e w2 ⟨rfl,hb2⟩;refine ⟨_,rfl,?_⟩;have b2:=(Ip.below (g:=wr.heap.size) (t:=165) (cs:=[aa xs[q].Ae,aa xs[q].Cm]) (by simp [Jr]) hb2).cells;have hbb:=tr ((Below.refl wr.heap.size wr).alloc (aK _) _) hb2 (aK _);clear hb2;have g0:=(kf hbb z0).trans g0;have z0:=kc hbb z0;have g1:=(kf hbb z1).trans g1;have z1:=kc hbb z1;obtain ⟨F2,hg2,hF2⟩:=hbk.out w2 hbb;simp only [Oj,show Bv.sz=2 from rfl,cV] at hg2;have hg2:=Lib.hid hg2
     have hgF:g∈F:=hF1 g hG.out.caps.2.2.2.2.1;go_wp2_with fail;exact ⟨⟨q+1,m,F2,EY,hm,KM,by rw [Hj hlt IZ,hys.out,aA];go_num,HT,by rw [Hj hlt IZ,hys.out];exact hg2.out,fun b hb=>hF1 b (hF2 b hb),KH⟩,GJ⟩
    ·obtain ⟨F2,hg2,hF2⟩:=hG.out.skip;simp only [hpq] at hr;have hr:=Lib.hid hr;have hg2:=Lib.hid hg2;have hpq:=Lib.hid hpq;have hys:=Lib.hid hys;have hlen:=Lib.hid hlen;clear hx hxe hcell hfx hpk hfl;go_wp2_with fail;refine hbd.upon (hr.out _) ?_;rintro e w2 ⟨rfl,hb2⟩;refine ⟨_,rfl,?_⟩;have hbb:=tr ((Below.refl wr.heap.size wr).alloc (aK _) _) hb2 (aK _);clear hb2;go_wp2_with fail
     exact BQ
   ·have hqe:q=xs.length:=EY
    subst hqe;simp only [List.drop_length,bj] at hG hys;obtain ⟨hc,F2,ho2,hn2,hF2⟩:=hG.out.done (z:=#[aa 0,aa 0]) rfl;have hmm:xs.length - ys.length=m:=EY
    have hcl:=fun ty=>Uc (P:=prog) wr 36 165 ty (.agg #[aa 0,aa 0]) underlying36 (Xl Aj5) (by simp [Value.cells,Value.oneCell']) g (ys.length * 2) m (cap - ys.length) hm (fun j hj=>(hc j hj).1) (fun j hj=>(hc j hj).2);have hyl:ys.length < xs.length:=EY
    have hgF:g∈F:=hF1 g hG.out.caps.2.2.2.2.1;have hO:=Lib.hid ho2;have hlen:=Lib.hid hlen;have hys:=Lib.hid hys;clear ho2 hc hfx hpk hfl;go_wp2_with fail
    go_ret
    exact DE
 ·obtain ⟨hfx,hfl⟩:=Abv hany;rw [hfx];go_wp2_with fail
  go_ret
  exact ⟨_,F,rfl,by rw [hfl];exact h.below hb1,hn,fun b hb=>hb,hK1⟩
def Age (x:Cu) (v:Value) (F:aq) (hl:x.Aa.Al.length<=4294967296) (hl2:x.holds.length<=4294967296):Fn prog 90 [v] [.isv Ei v x F] [] (fun (_:Value × aq)=>True)
  (fun s=>s.1) (fun s=>[.own Za s.1 x s.2]):=by
 refine enter func90 rfl ntmps90 fun w0=>?_;refine Hc ?_;rintro a1 c1 F1 a2 c2 F2 rfl l1 l2;refine Cr x.Aa ?_;generalize F1=F3;refine go ?_;intros;refine cv (fun w s=>Aao _ x.Aa _ w (s.get (p:=.isv Ck (.agg #[aa x.Aa.Am,aa x.Aa.size,ab a1 x.Aa.Al.length c1]) x.Aa F3) FA) hl) fun v F'=>?_;refine Kg ?_;rintro a5 c5 F5 rfl l5;refine go ?_;refine cn (fun w s=>Ap5 _ _ _ _ (s.get (p:=.sl Bv (ab a2 x.holds.length c2) x.holds F2) FA).2 hl2) fun a6 c6 F6=>?_;refine go ?_;refine Alr x ?_;exact BL
def Bc1 (W:Aw) (h:I3) (gb g o:Nat) (u:Value) (a:aj) (c:Nat) (cl q:Value) (Hs:Value) (G Fw:aq) (t0:0<=W.Am) (t1:W.Am<=65535) (n0:0<=h.Ae) (n1:h.Ae<=65535) :
  FV 280 [u,Gj gb 0 0] [.isv Bv u h G,.cel gb 0 [Gj g o 0],.cel g o [aa W.Am,aa W.size,ab a W.Al.length c,cl,q,Hs],.isv Ck (.agg #[aa W.Am,aa W.size,ab a W.Al.length c]) W Fw] (.bool (!Jh W h.Ae)):=by
 refine enter func280 rfl ntmps280 fun w0=>?_;refine Aou ?_;rintro _ rfl;refine go ?_;intros;refine Ar [0,2,3] [] ?_;refine C4 0 1 2 3 ?_;refine Dh 4 5 ?_;refine dN 6 ?_;refine oC ?_;refine cb (fun w st=>(Yb W h.Ae _ _ t0 t1 n0 n1).val w (I6 (st.get (p:=.isv Ck (.agg #[aa W.Am,aa W.size,ab a W.Al.length c]) W Fw) FA))) ?_;refine dk ?_;refine Dh 7 8 ?_;refine dd ?_;refine go ?_;refine ret () trivial ?_;simp only [Jh,Uh,decide_not]
def Aqp {P:Program} {f:FuncId} {args:am} {p:Pc} {R:List Pc} {σ:Type} {C:σ->Prop} {v:σ->Value} {N:σ->Pc} (hm:p.mu=true)
  (h:∀w,p.P w->O8 R w->(∀wr,Ek p.F w wr->O8 R wr)->Calls P f args.toArray w fun e w'=>∃s,C s/\e=.returned (v s)/\(N s).P w'/\(∀b∈(N s).F,b∈p.F\/w.heap.size<=b)/\Ek p.F w w'):Fn P f args [] (p::R) C v (fun s=>N s::R):=fun w hH hS=>by
 rw [bc] at hH hS;have hR:O8 R w:=fun q hq=>hH q GB;have ap:∀q∈R,∀b∈q.F,b ∉ p.F:=fun q hq b hb hp=>hS.1 q hq (by simp [hm]) b hp hb;have hk:∀wr,Ek p.F w wr->O8 R wr:=fun wr k q hq=>q.st (hR q hq) fun b hb=>k.block b (q.lt (hR q hq) b hb) (ap q hq b hb);refine (h w (hH p FA) hR hk).mono ?_;rintro e w' ⟨s,hC,he,hN,hF,k⟩;refine ⟨s,hC,he,?_,⟨fun q hq _ b hb hbq=>?_,hS.2⟩,k.mono (fun b hb _=>by simp [fp,hb]),?_⟩
 ·intro q hq;rcases aG.1 hq with rfl|hq
  ·exact hN
  ·exact hk w' k q hq
 ·rcases hF b hb with h|h
  ·exact ap q hq b hbq h
  ·have:=q.lt (hR q hq) b hbq;omega
 ·intro q hq b hb;rcases aG.1 hq with rfl|hq
  ·rcases hF b hb with h|h
   ·exact .inr (.inl ⟨p,FA,h⟩)
   ·exact .inl h
  ·exact .inr (.inl ⟨q,GB,hb⟩)
def Bh5 {P:Program} {fn:Func} {R:Ending->World->Prop} {G D:aq} {w0:World} {n:Nat} {fr:Fr} {H:List Pc} (h:T ⟨P,G,D,w0,n,bodyPost P fn R⟩ fr H (.fin .ret)):T ⟨P,G,D,w0,n,bodyPost P fn R⟩ fr H (.norm []):=.mk fun a w s g=>h.h a w s g
def Oe (W:Aw) (hs:List I3):List I3:=hs.filter fun h=>Jh W h.Ae
def Bc2 (W:Aw) (hs:List I3) (gb tb g t o:Nat) (A B:am) (a a2:aj) (c c2:Nat) (cl q:Int) (F F2:aq) (t0:0<=W.Am) (t1:W.Am<=65535) (hn:∀h∈hs,Cd h.Ae=true) :
  Fn prog 279 [ab a2 hs.length c2,.func (.func 280) #[] #[Gj gb 0 0]] [] [.ow Bv 165 (ab a2 hs.length c2) hs F2,.row gb tb 0 [] [Gj g o 0] [],.row g t o A [aa W.Am,aa W.size,ab a W.Al.length c,aa cl,aa q,ab a2 hs.length c2] B,.ow A9 9 (ab a W.Al.length c) W.Al F] (fun (_:aj × Nat × aq)=>True)
   (fun z=>.slice z.1 (Oe W hs).length z.2.1) (fun z=>[.ow Bv 165 (.slice z.1 (Oe W hs).length z.2.1) (Oe W hs) z.2.2,.row gb tb 0 [] [Gj g o 0] [],.row g t o A [aa W.Am,aa W.size,ab a W.Al.length c,aa cl,aa q,ab a2 hs.length c2] B,.ow A9 9 (ab a W.Al.length c) W.Al F]):=by
 refine Aqp rfl fun w ⟨hnd,ho⟩ _ hk=>?_;refine (Xm _ (Wf FB) #[Gj gb 0 0] _ hs F2 (fun h=>!Jh W h.Ae) w ho hnd fun k hk2 wr u G hK hu=>?_).mono ?_
 ·have hr:=hk wr hK;have r1:=hr (.row gb tb 0 [] [Gj g o 0] []) FA;have r2:=hr (.row g t o A [aa W.Am,aa W.size,ab a W.Al.length c,aa cl,aa q,ab a2 hs.length c2] B) FA;obtain ⟨Fw, -,hw⟩:=(hr (.ow A9 9 (ab a W.Al.length c) W.Al F) FA).2.read;obtain ⟨n0,n1⟩:=Ba.1 (hn hs[k] (aB hk2));refine (Bc1 W hs[k] gb g o u a c (aa cl) (aa q) (ab a2 hs.length c2) G Fw t0 t1 n0 n1).val wr ?_;intro p hp;simp only [aG,aT,bn] at hp;rcases hp with rfl|rfl|rfl|rfl
  ·exact hu
  ·exact ⟨FA,Iv r1⟩
  ·exact ⟨FA,Iv r2⟩
  ·exact ⟨_,rfl,_,rfl,hw⟩
 ·rintro e w' ⟨v',F',rfl,h1,h2,h3,h4⟩;have e:(hs.filter fun x=>!(fun h:I3=>!Jh W h.Ae) x)=Oe W hs:=by simp [Oe]
  rw [e] at h1;exact CP
def Aob (W:Aw) (hs:List I3) (g t o:Nat) (A B:am) (a a2:aj) (c c2:Nat) (cl q:Int) (F F2:aq) (t0:0<=W.Am) (t1:W.Am<=65535) (hn:∀h∈hs,Cd h.Ae=true) :
  Fn prog 213 [Gj g o 0] [] [.row g t o A [aa W.Am,aa W.size,ab a W.Al.length c,aa cl,aa q,ab a2 hs.length c2] B,.ow Bv 165 (ab a2 hs.length c2) hs F2,.ow A9 9 (ab a W.Al.length c) W.Al F] (fun (_:aj × Nat × aq)=>True)
   (fun _=>.tuple #[]) (fun z=>[.row g t o A [aa W.Am,aa W.size,ab a W.Al.length c,aa cl,aa q,.slice z.1 (Oe W hs).length z.2.1] B,.ow Bv 165 (.slice z.1 (Oe W hs).length z.2.1) (Oe W hs) z.2.2,.ow A9 9 (ab a W.Al.length c) W.Al F]):=by
 refine enter func213 rfl ntmps213 fun w0=>?_;refine go ?_;intros;refine Ar [0,1] [9] ?_;refine C4 0 1 2 3 ?_;refine Dh 4 5 ?_;refine dN 6 ?_;refine oC ?_;refine Be (Bc2 W hs _ _ g t o A B a a2 c c2 cl q F F2 t0 t1 hn) fun z _=>?_;refine dk ?_;refine Dh 7 8 ?_;refine dN 9 ?_;refine oS ?_;refine Nm ?_;refine dd ?_;refine Bh5 ?_;exact BN
end Go.Proofs.YtmppejmafbfhlaaGreatDoor
namespace Go.Proofs.YtmppejmafbfhlaaGreatDoor

def Ap4:Cu:=⟨⟨0,0,[]⟩,0,0,[]⟩
end Go.Proofs.YtmppejmafbfhlaaGreatDoor
namespace Go.Proofs.YtmppejmafbfhlaaGreatDoor
open Go.RowKit
structure Alk where
 a:aj
 c:Nat
 a2:aj
 c2:Nat
 F:aq
def Apz (x:Cu) (W:Aw):Cu:=⟨W,x.Ai,x.quiet,Oe W x.holds⟩
structure Bhp (x:Cu):Prop where
 w:Ed x.Aa=true
 l:x.Aa.Al.length<=6
 t0:0<=x.Aa.Am
 t1:x.Aa.Am<=65535
 k0:0<=x.Ai
 k1:x.Ai<=9999
 m:x.holds.length<=6
 n:∀h∈x.holds,Cd h.Ae=true
 u:∀h∈x.holds,x.Ai+1<=h.Cm
 b:∀h∈x.holds,h.Cm<=x.Ai+3
def Kk {x:Cu} (h:Cp x=true):Bhp x:=by
 unfold Cp at h;simp only [aw] at h;obtain ⟨⟨⟨h1,h2⟩,h3⟩,h4⟩:=h;obtain ⟨⟨t0,t1⟩,⟨s0,s1⟩,s2, -⟩:=Du.1 h1;obtain ⟨k0,k1⟩:=Alq h2;have hc:∀h∈x.holds,Cd h.Ae=true/\x.Ai+1<=h.Cm/\h.Cm<=x.Ai+3:=fun h hh=>by
  obtain ⟨i,hi,rfl⟩:=bl hh;have:=aW.1 h4 i ID;rw [Qe hi] at this;simp only [aw,Ff,aF] at this;exact ⟨this.1.1.1,this.1.2.1,this.1.2.2⟩
 have hg:∀i,(hi:i < x.holds.length)->(i:Int)<=gp x.Aa.Am x.holds[i].Ae/\gp x.Aa.Am x.holds[i].Ae < 6:=by
  intro i
  induction i with
  | zero =>
   intro hi;have:=aW.1 h4 0 ID;rw [Qe hi] at this;simp only [aw,Jh,aF] at this;have b:=Lt x.Aa.Am x.holds[0].Ae;exact ⟨EY,by have:=this.1.1.2;omega⟩
  | succ i ih =>
   intro hi;have p:=ih EY;have:=aW.1 h4 (i+1) ID;rw [Qe hi] at this;simp only [aw,Jh,aF,bX,bw,bS] at this;have q:=this.2;have q2:=this.1.1.2;simp only [dG] at q;rcases q with q|q
   ·omega
   ·exact ⟨EY,EY⟩
 have hm:x.holds.length<=6:=by
  by_cases h0:x.holds.length<=6
  ·exact h0
  ·have:=hg 6 EY;omega
 exact ⟨h1,EY,t0,t1,k0,k1,hm,fun h hh=>(hc h hh).1,fun h hh=>(hc h hh).2.1,fun h hh=>(hc h hh).2.2⟩
def Aah (hs:List I3):Prop:=∀h∈hs, -1<=h.Ae/\h.Ae<=65536
def Af6 {hs:List I3} (hn:∀h∈hs,Cd h.Ae=true):Aah hs:=fun h hh=>by have:=Ba.1 (hn h hh);omega
def Iz (W:Aw) (cl:Int) (hs:List I3):List I3:=hs.filter fun h=>Jh W h.Ae && decide (cl < h.Cm)
def Yg {W:Aw} {cl:Int} {hs:List I3} (h:∀z∈hs,cl+1<=z.Cm):Iz W cl hs=Oe W hs:=by
 unfold Iz Oe;refine ex fun z hz=>?_;rw [av (show cl < z.Cm by have:=h z hz;omega),fE]
def Az4 (h:I3) (w:World):Cw Bv w [aa h.Ae,aa h.Cm] [h] []:=⟨_,[],[],[],FA,FA,⟨rfl,rfl⟩,rfl,rfl⟩
structure HoS where
 k:Nat
 a:aj
 c:Nat
 F:aq
def Aet (W:Aw) (hs:List I3) (cl:Int) (v:Value) (a2:aj) (c2:Nat) (F G:aq) (t0:0<=W.Am) (t1:W.Am<=65535) (hl:hs.length<=1000) (hn:Aah hs) :
  Fn prog 243 [ab a2 hs.length c2,v,aa cl] [.isv Ck v W F,.sl Bv (ab a2 hs.length c2) hs G] [] (fun (_:aj × Nat × aq)=>True)
   (fun z=>.slice z.1 (Iz W cl hs).length z.2.1) (fun z=>[.ow Bv 165 (.slice z.1 (Iz W cl hs).length z.2.1) (Iz W cl hs) z.2.2]):=by
 refine enter func243 rfl ntmps243 fun w0=>?_;refine E9 ?_;rintro a1 c1 F1 rfl l1;refine go ?_;intros;refine C3 Bv ?_;refine Ca [0,2,4,6] (fun s:HoS=>[(7,.slice s.a (Iz W cl (hs.take s.k)).length s.c),(8,aa s.k)]) (fun s=>[.ow Bv 165 (.slice s.a (Iz W cl (hs.take s.k)).length s.c) (Iz W cl (hs.take s.k)) s.F]) (fun s=>s.k<=hs.length) (fun s=>hs.length - s.k) ⟨0,_,0,_⟩ (aD _) fun s hk=>?_;obtain ⟨k,a5,c5,F5⟩:=s;dsimp only at hk ⊢;refine go ?_;refine Ay rfl (fun h3=>?_) (fun h3=>?_)
 ·have hk3:k < hs.length:=EY
  obtain ⟨n0,n1⟩:=hn hs[k] (aB hk3);have hkl:(Iz W cl (hs.take k)).length<=1000:=by have:=bN (fun h:I3=>Jh W h.Ae && decide (cl < h.Cm)) (hs.take k);unfold Iz;simp only [aP] at this;omega
  refine Uy (xs:=hs) k ?_;rintro hi b o e;rw [e];cases g5:Jh W hs[k].Ae
  ·refine Hy ?_;intros;refine Ar [0,2] [] ?_;refine C4 0 1 2 3 ?_;refine Dh 4 5 ?_;refine dN 6 ?_;refine oC ?_;refine cb (fun w st=>(Zl W hs[k].Ae _ _ t0 t1 n0 n1).val w (I6 (st.get (p:=.isv Ck (.agg #[aa W.Am,aa W.size,ab a1 W.Al.length c1]) W F) FA))) ?_;rw [g5];refine dk ?_;refine dt 7 ?_;refine ds 8 ?_;refine ds 9 ?_;refine ds 10 ?_;refine ds 11 ?_;refine ds 12 ?_;refine ds 13 ?_;refine ds 14 ?_;refine dt 15 ?_;refine dd ?_;refine go ?_;have hf:Iz W cl (hs.take (k+1))=Iz W cl (hs.take k):=Db hk3 (by rw [g5];rfl);rw [<-hf]
   refine Ce ⟨k+1,a5,c5,F5⟩ hk3 KD
  ·refine Hy ?_;intros;refine Ar [0,2] [] ?_;refine C4 0 1 2 3 ?_;refine Dh 4 5 ?_;refine dN 6 ?_;refine oC ?_;refine cb (fun w st=>(Zl W hs[k].Ae _ _ t0 t1 n0 n1).val w (I6 (st.get (p:=.isv Ck (.agg #[aa W.Am,aa W.size,ab a1 W.Al.length c1]) W F) FA))) ?_;rw [g5];refine dk ?_;refine dt 7 ?_;refine Dg 8 ?_;refine Dg 9 ?_;refine Dg 10 ?_;refine Dg 11 ?_;refine Dg 12 ?_;refine Dg 13 ?_;refine Dg 14 ?_;refine dt 15 ?_;refine dd ?_;refine go ?_;refine Ay rfl (fun h5=>?_) (fun h5=>?_)
   ·refine go ?_;intros;apply wO;refine N9 (Az4 hs[k]) I9 fun a6 c6 F6=>?_;have hf:Iz W cl (hs.take (k+1))=Iz W cl (hs.take k)++[hs[k]]:=Hj hk3 (by rw [g5,av h5];rfl);rw [<-hf];refine go ?_;refine Ce ⟨k+1,a6,c6,F6⟩ hk3 KD
   ·refine go ?_;have hf:Iz W cl (hs.take (k+1))=Iz W cl (hs.take k):=Db hk3 (by rw [g5,ay h5];rfl);rw [<-hf];refine Ce ⟨k+1,a5,c5,F5⟩ hk3 KD
 ·have hkl:k=hs.length:=EY
  subst hkl;rw [bj];refine go ?_;refine ret (a5,c5,F5) trivial rfl
def Y7 (x:Cu) (W:Aw):Cu:=⟨W,x.Ai,x.quiet,Iz W x.Ai x.holds⟩
def Bbq {x:Cu} {W:Aw} (h:∀z∈x.holds,x.Ai+1<=z.Cm):Y7 x W=Apz x W:=by unfold Y7 Apz;rw [Yg h]
def T3 (x:Cu) (W:Aw) (v vw:Value) (F Fw:aq) (y0:0<=W.Am) (y1:W.Am<=65535) (hl:x.holds.length<=1000) (hn:Aah x.holds) :
  Fn prog 231 [v,vw] [.isv Ei v x F,.isv Ck vw W Fw] [] (fun (_:Alk)=>True) (fun s=>.agg #[aa W.Am,aa W.size,ab s.a W.Al.length s.c,aa x.Ai,aa x.quiet,.slice s.a2 (Iz W x.Ai x.holds).length s.c2])
   (fun s=>[.isv Ei (.agg #[aa W.Am,aa W.size,ab s.a W.Al.length s.c,aa x.Ai,aa x.quiet,.slice s.a2 (Iz W x.Ai x.holds).length s.c2]) (Y7 x W) s.F]):=by
 refine enter func231 rfl ntmps231 fun w0=>?_;refine Hc ?_;rintro a1 c1 F1 a2 c2 F2 rfl l1 l2;refine E9 (x:=W) (F:=Fw) ?_;rintro a3 c3 F3 rfl l3;refine go ?_;intros;refine Ar [1,2] [] ?_;refine C4 0 1 2 3 ?_;refine C4 4 5 6 7 ?_;refine Dh 8 9 ?_;refine dN 10 ?_;refine oC ?_;refine Be (Aet W x.holds x.Ai _ a2 c2 Fw F2 y0 y1 EY hn) fun z _=>?_;refine dk ?_;refine dt 11 ?_;refine dN 12 ?_;refine oS ?_;refine dk ?_;refine dd ?_;refine go ?_;refine Av (E:=Bv) fun F9=>?_;refine D6 (Y7 x W) ?_;exact EE
def Auz (x:Cu) (W:Aw) (v vw:Value) (F Fw:aq) (y0:0<=W.Am) (y1:W.Am<=65535) (hl:x.holds.length<=1000) (hn:∀h∈x.holds,Cd h.Ae=true) (hu:∀h∈x.holds,x.Ai+1<=h.Cm) :
  Fn prog 231 [v,vw] [.isv Ei v x F,.isv Ck vw W Fw] [] (fun (_:Alk)=>True) (fun s=>.agg #[aa W.Am,aa W.size,ab s.a W.Al.length s.c,aa x.Ai,aa x.quiet,.slice s.a2 (Oe W x.holds).length s.c2])
   (fun s=>[.isv Ei (.agg #[aa W.Am,aa W.size,ab s.a W.Al.length s.c,aa x.Ai,aa x.quiet,.slice s.a2 (Oe W x.holds).length s.c2]) (Apz x W) s.F]):=by
 have h:=T3 x W v vw F Fw y0 y1 hl (Af6 hn);rw [Bbq hu,Yg hu] at h;exact h
structure As where
 Ct:Int
 Ae:Int
 Am:Int
 Es:Int
 data:au
def Ak:B8 As where
 sz:=5
 Mj _ cs x F:=cs=[aa x.Ct,aa x.Ae,aa x.Am,aa x.Es,af x.data]/\x.data.size<=maxLen/\F=[]
 len h:=by obtain ⟨rfl,s1,rfl⟩:=h;rfl
 lt h:=by obtain ⟨rfl,s1,rfl⟩:=h;simp
 frame h _:=h
def H9:One Ak:=fun h u hu=>by
 obtain ⟨rfl,s1,rfl⟩:=h;simp only [aG,aT,bn] at hu;rcases hu with rfl|rfl|rfl|rfl|rfl
 ·rfl
 ·rfl
 ·rfl
 ·rfl
 ·rfl
def Jz:Abn Ak:=fun h=>by obtain ⟨rfl,s1,rfl⟩:=h;rfl
end Go.Proofs.YtmppejmafbfhlaaGreatDoor
namespace Go.Proofs.YtmppejmafbfhlaaGreatDoor

open Go.RowKit Go.Shelf
end Go.Proofs.YtmppejmafbfhlaaGreatDoor
namespace Go.Proofs.YtmppejmafbfhlaaGreatDoor
open Go.RowKit
def Su.frame {α:Type} {E:B8 α} {w w':World} {v x F} (h:Su E w v x F) (hF:∀b∈F,w'.heap[b]?=w.heap[b]?):Su E w' v x F:=by
 obtain ⟨cs,hv,h⟩:=h;exact ⟨cs,hv,E.frame h hF⟩
def Asb (t n:Int):Cf (Cf t 1) (n - 1)=Cf t n:=HG
def Df (x:Aw):Aw:=if (x.Al.length:Int)=x.size then ⟨Cf x.Am 1,x.size,x.Al.drop 1⟩ else x
def Di (x:Aw) (s:au):Aw:=⟨(Df x).Am,x.size,(Df x).Al++[s]⟩
def Dz (x:Aw) (s:au):As:=⟨1,Cf x.Am x.Al.length,(Df x).Am,Cf (Df x).Am ((Df x).Al.length+1),s⟩
def I4 (t z:Int) (a:aj) (n c:Nat) (w:World) (h0:0<=t) (h1:t<=65535) (hn:n<=4294967296) :
  Calls prog 156 #[.agg #[aa t,aa z,ab a n c]] w (RB (aa (Cf t n)) w):=by
 go_enter func156,ntmps156
 go_wp2_with fail;refine (Sv _ _ _ EY EY).mono ?_;rintro e w' ⟨rfl,rfl⟩;go_wp2_with fail
 go_ret
 exact ⟨rfl,(Below.refl _ _).alloc (aK _) _⟩
def T6 (t z:Int) (a:aj) (n c:Nat) (w:World) (h0:0<=t) (h1:t<=65535) (hn:n<=4294967296) :
  Calls prog 128 #[.agg #[aa t,aa z,ab a n c]] w (RB (aa (Cf t n)) w):=by
 go_enter func128,ntmps128
 go_wp2_with fail;refine (Id _ _ _ EY EY).mono ?_;rintro e w' ⟨rfl,rfl⟩;go_wp2_with fail
 go_ret
 exact ⟨rfl,(Below.refl _ _).alloc (aK _) _⟩
structure Bi1 where
 Bfa:ai
 Be3:au
 Bih:Int
end Go.Proofs.YtmppejmafbfhlaaGreatDoor
namespace Go.Proofs.YtmppejmafbfhlaaGreatDoor

open Go.RowKit Go.Shelf
end Go.Proofs.YtmppejmafbfhlaaGreatDoor
namespace Go.Proofs.YtmppejmafbfhlaaGreatDoor
open Go.RowKit
structure Bjo (x:Bi1):Prop where
 l:x.Bfa.length<=8
 q:∀s∈x.Bfa,s.size<=60
 f:x.Be3.size<=40
 u0:0<=x.Bih
 u1:x.Bih<=x.Be3.size
end Go.Proofs.YtmppejmafbfhlaaGreatDoor
namespace Go.Proofs.YtmppejmafbfhlaaGreatDoor

open Go.RowKit Go.Shelf
end Go.Proofs.YtmppejmafbfhlaaGreatDoor
namespace Go.Proofs.YtmppejmafbfhlaaGreatDoor
open Go.RowKit
section
variable {c:Cx} {fr:Fr} {H:List Pc} {Φ:Gl}
end
end Go.Proofs.YtmppejmafbfhlaaGreatDoor
namespace Go.Proofs.YtmppejmafbfhlaaGreatDoor

open Go.RowKit
end Go.Proofs.YtmppejmafbfhlaaGreatDoor
namespace Go.Proofs.YtmppejmafbfhlaaGreatDoor
open Go.RowKit
def Amh:∀(A:List Pc),A.all (fun p=>!p.mu)=true->Ti A
 | [],_=>trivial
 | p::A,h=>by
  simp only [dV,aw,bw] at h;exact ⟨fun q hq hm=>by
   have hq':=aW.1 h.2 q hq;simp only [bw] at hq';rw [h.1,hq'] at hm;simp at hm,Amh A h.2⟩
section
variable {c:Cx} {fr:Fr} {H:List Pc} {d:Nat} {Φ:Gl}
def cfr {f:Nat} {vs:am} {σ:Type} {C:σ->Prop} {vv:σ->Value} {N:σ->List Pc} (hf:∀w,St c.G c.D c.w0 H w->∃A,O8 A w/\A.all (fun p=>!p.mu)=true/\Fn c.P f vs A [] C vv N)
  (h:∀s,C s->T c ((d,vv s)::fr) (N s++H) Φ) (hN:∀s,(N s).all (·.mu)=true:=by intro s;rfl):Cl c fr H d f vs Φ :=
 Abo (R:=fun w e w'=>∃s,C s/\e=.returned (vv s)/\O8 (N s) w'/\Ti (N s)/\Ek [] w w'/\∀p∈N s,∀b∈p.F,w.heap.size<=b)
  (fun w s=>by
   obtain ⟨A,hA,hm,hF⟩:=hf w s;refine (hF w JF (by simpa using Amh A hm)).mono fun e w' ⟨z,hz,he,h1,h2,h3,h4⟩=>⟨z,hz,he,h1,h2,h3,fun p hp b hb=>?_⟩;rcases h4 p hp b hb with h|⟨q,hq, -⟩|⟨hp', -⟩
   ·exact h
   ·cases hq
   ·have:=aW.1 (hN z) p hp;rw [hp'] at this;cases this)
  (fun w e w' s ⟨z,hz,he,h1,h2,h3,h4⟩=>⟨_,he,fun a g=>(h z hz).h a w' (St.turn (M:=[]) (R:=H) (N:=N z) s h3 h1 h2 fun p hp b hb=>.inl (h4 p hp b hb)) g⟩)
def Bal {M A R:List Pc} (hm:M.all (·.mu)=true) (hA:A.all (fun p=>!p.mu)=true) (hb:∀p∈A,∀b∈p.F,∃q∈R,b∈q.F):Ti (M++R)->Ti (M++A):=by
 induction M with
 | nil=>intro _;exact Amh A hA
 | cons p M ih =>
  simp only [dV,aw] at hm;intro s;refine ⟨fun q hq=>?_,ih hm.2 s.2⟩;rcases aJ.1 hq with h|h
  ·exact s.1 q JT
  ·intro _ b hp hq2;obtain ⟨r,hr,hbr⟩:=hb q h b hq2;exact s.1 r (by simp [hr]) (by rw [hm.1];rfl) b hp hbr
def cfm {f:Nat} {vs:am} {M R:List Pc} {σ:Type} {C:σ->Prop} {vv:σ->Value} {N:σ->List Pc} (hM:Kv H M R) (hf:∀w,St c.G c.D c.w0 (M++R) w->∃A,O8 A w/\A.all (fun p=>!p.mu)=true/\(∀p∈A,∀b∈p.F,∃q∈R,b∈q.F)/\Fn c.P f vs A M C vv N)
  (h:∀s,C s->T c ((d,vv s)::fr) (N s++R) Φ) (hmM:M.all (·.mu)=true:=by rfl) (hN:∀s,(N s).all (·.mu)=true:=by intro s;rfl):Cl c fr H d f vs Φ :=
 have hMR:∀w,St c.G c.D c.w0 H w->St c.G c.D c.w0 (M++R) w:=fun w s=>by simpa using hM.st (X:=[]) HW
 have hmu:∀p∈M,p.mu=true:=fun p hp=>aW.1 hmM p hp
 Abo (R:=fun w e w'=>∃s,C s/\e=.returned (vv s)/\O8 (N s) w'/\Ti (N s)/\Ek (fp M) w w'/\∀p∈N s,∀b∈p.F,w.heap.size<=b\/∃q∈M,b∈q.F)
  (fun w s=>by
   obtain ⟨A,hA,hm,hb,hF⟩:=hf w (hMR w s);have s2:=hMR w s;refine (hF w (fun p hp=>?_) (Bal hmM hm hb s2.sep)).mono fun e w' ⟨z,hz,he,h1,h2,h3,h4⟩=>⟨z,hz,he,h1,h2,h3,fun p hp b hb=>?_⟩
   ·rcases aJ.1 hp with hp|hp
    ·exact s2.on p HK
    ·exact hA p hp
   ·rcases h4 p hp b hb with h|h|⟨hp', -⟩
    ·exact .inl h
    ·exact .inr h
    ·have:=aW.1 (hN z) p hp;rw [hp'] at this;cases this)
  (fun w e w' s ⟨z,hz,he,h1,h2,h3,h4⟩=>⟨_,he,fun a g=>(h z hz).h a w' (St.turn (hMR w s) (by rwa [dA.2 hmu]) h1 h2 fun p hp b hb=>by
   rcases h4 p hp b hb with h|⟨q,hq,hqb⟩
   ·exact .inl h
   ·exact .inr (.inl ⟨q,hq,hmu q hq,hqb⟩)) g⟩)
def Amm {α:Type} {E:B8 α} (Q:α->Prop) (hQ:∀w cs x F,E.Mj w cs x F->Q x) {a:aj} {n cp:Nat} {xs:List α} {F:aq} (h:(∀x∈xs,Q x)->T c fr H Φ) (hm:.sl E (ab a n cp) xs F∈H:=by exact Bp):T c fr H Φ:=.mk fun ac w s g =>
 (h fun x hx=>by
  obtain ⟨k,hk,rfl⟩:=bl hx;obtain ⟨-,hs⟩:=s.get hm;obtain ⟨-, -,cs,F1, -,h1, -, -⟩:=hs.at k hk;exact hQ _ _ _ _ h1).h ac w s g
def Xe {P:Program} {fn:Func} {G D:aq} {w0:World} {n:Nat} {R:Ending->World->Prop} (h:T ⟨P,G,D,w0,n,bodyPost P fn R⟩ fr H (.fin .ret)):T ⟨P,G,D,w0,n,bodyPost P fn R⟩ fr H (.norm []):=Bh4 ⟨fun a w s g=>h.h a w s g⟩
end
structure PuS where
 a:aj
 c:Nat
 F:aq
def Rd {x:Aw} (t0:0<=x.Am) (t1:x.Am<=65535):0<=(Df x).Am/\(Df x).Am<=65535:=by
 unfold Df
 split
 ·exact Jk _ _
 ·exact ⟨t0,t1⟩
def Bca (x:Aw) (k:Nat) (g t o:Nat) (A B:am) (r1 r2 r3:Value) (a:aj) (c:Nat) (F:aq) (hl:x.Al.length<=6) (hk:k<=x.Al.length) (t0:0<=x.Am) (t1:x.Am<=65535) :
  Fn prog 278 [Gj g o 0,aa (k:Nat)] [] [.row g t o A [aa x.Am,aa x.size,ab a x.Al.length c,r1,r2,r3] B,.ow A9 9 (ab a x.Al.length c) x.Al F] (fun (_:PuS)=>True) (fun _=>.tuple #[]) (fun z=>[.row g t o A [aa (Cf x.Am k),aa x.size,.slice z.a (x.Al.drop k).length z.c,r1,r2,r3] B,.ow A9 9 (.slice z.a (x.Al.drop k).length z.c) (x.Al.drop k) z.F]):=by
 refine enter func278 rfl ntmps278 fun w0=>?_;refine Av (E:=A9) (xs:=x.Al) fun Fr=>?_;refine go ?_;apply wO;refine sld k fun a2 c2 F2=>?_;refine go ?_;refine cn (fun w st=>Abh _ _ _ _ (st.get (p:=.sl A9 (.slice a2 (x.Al.drop k).length c2) (x.Al.drop k) F2) FD).2 JX) fun a6 c6 F6=>?_;refine go ?_;refine ce (fun w st=>Sv x.Am k w EY EY) ?_;refine go ?_;refine Xe ?_;refine ret ⟨a6,c6,F6⟩ trivial rfl
def Bgd (x:Aw) (s:au) (g t o:Nat) (A B:am) (r1 r2 r3:Value) (a:aj) (c:Nat) (F:aq) (hl:x.Al.length<=6) (ht:Cd x.Am=true) (hs:s.size<=maxLen) (hz:1<=x.size) :
  Fn prog 212 [Gj g o 0,af s] [] [.row g t o A [aa x.Am,aa x.size,ab a x.Al.length c,r1,r2,r3] B,.ow A9 9 (ab a x.Al.length c) x.Al F] (fun (_:PuS)=>True) (fun _=>.agg #[aa 1,aa (Dz x s).Ae,aa (Dz x s).Am,aa (Dz x s).Es,af s])
   (fun z=>[.row g t o A [aa (Di x s).Am,aa (Di x s).size,.slice z.a (Di x s).Al.length z.c,r1,r2,r3] B,.ow A9 9 (.slice z.a (Di x s).Al.length z.c) (Di x s).Al z.F]):=by
 obtain ⟨t0,t1⟩:=Ba.1 ht;obtain ⟨R,hR⟩:∃R,Df x=R:=⟨_,rfl⟩;have hb:=Rd t0 t1;have hRl:R.Al.length<=6:=by
  rw [<-hR];unfold Df
  split
  ·show (x.Al.drop 1).length<=6;rw [aX];omega
  ·exact hl
 have hnum:Cf R.Am R.Al.length=Cf x.Am x.Al.length:=by
  rw [<-hR];unfold Df
  split
  ·rename_i h;show Cf (Cf x.Am 1) ((x.Al.drop 1).length:Nat)=_;rw [aX,show ((x.Al.length - 1:Nat):Int)=(x.Al.length:Int) - 1 by omega,Asb]
  ·rfl
 rw [show Di x s=⟨R.Am,x.size,R.Al++[s]⟩ by unfold Di;rw [hR],show Dz x s=⟨1,Cf x.Am x.Al.length,R.Am,Cf R.Am (R.Al.length+1),s⟩ by unfold Dz;rw [hR]];dsimp only;rw [hR] at hb;refine enter func212 rfl ntmps212 fun w0=>?_;refine go ?_;intros;refine cb (fun w st=>I4 _ _ _ _ _ w t0 t1 EY) ?_;refine go ?_;refine Ar [1] [] ?_;refine C4 0 1 2 3 ?_;refine C4 4 5 6 7 ?_;refine Dh 8 9 ?_;refine dd ?_;refine go ?_
 refine Dv [0,1,4,5] [0] (fun _:PuS=>[]) (fun z=>[.row g t o A [aa R.Am,aa x.size,ab z.a R.Al.length z.c,r1,r2,r3] B,.ow A9 9 (ab z.a R.Al.length z.c) R.Al z.F]) (fun _=>True) ?_ fun z _=>?_
 ·refine Ay rfl (fun h1=>?_) (fun h1=>?_)
  ·have e:R=⟨Cf x.Am 1,x.size,x.Al.drop 1⟩:=by rw [<-hR];unfold Df;rw [aH h1]
   rw [e];refine go ?_;refine Be (Bca x 1 g t o A B _ _ _ a c F hl EY t0 t1) fun z _=>?_;refine go ?_;refine Bk z trivial
  ·have e:R=x:=by rw [<-hR];unfold Df;rw [aC h1]
   rw [e];refine go ?_;refine Bk ⟨a,c,F⟩ trivial
 refine go ?_;intros;apply wO;refine N9 (E:=A9) (ys:=[s]) (fun w=>⟨[af s],[],[],[],rfl,rfl,⟨rfl,hs,rfl⟩,rfl,rfl⟩) D7 fun a7 c7 F7=>?_;have hla:((R.Al++[s]).length:Int)=R.Al.length+1:=FA
 refine go ?_;dsimp only [List.append];refine Ar [1] [] ?_;refine C4 0 1 2 3 ?_;refine C4 4 5 6 7 ?_;refine dt 9 ?_;refine dN 8 ?_;refine oC ?_;refine cb (fun w st=>I4 _ _ _ _ _ w hb.1 hb.2 EY) ?_;refine dk ?_;refine dt 10 ?_;refine dN 11 ?_;refine oS ?_;refine dk ?_;refine dd ?_;refine go ?_;refine ret ⟨a7,c7,F7⟩ trivial ?_;rw [hla];rfl
def Adu (x:Aw) (k:Nat) (v:Value) (F:aq) (hl:x.Al.length<=4294967296) (hk:k<=x.Al.length) (t0:0<=x.Am) (t1:x.Am<=65535) :
  Fn prog 232 [v,aa (k:Nat)] [.isv Ck v x F] [] (fun (_:PuS)=>True) (fun z=>.agg #[aa (Cf x.Am k),aa x.size,.slice z.a (x.Al.drop k).length z.c]) (fun z=>[.ow A9 9 (.slice z.a (x.Al.drop k).length z.c) (x.Al.drop k) z.F]):=by
 refine enter func232 rfl ntmps232 fun w0=>?_;refine E9 ?_;rintro a1 c1 F1 rfl l1;have hdk:(x.Al.drop k).length=x.Al.length - k:=aX;refine go ?_;intros;refine Ar [1,2] [] ?_;refine C4 0 1 2 4 ?_;refine C4 5 7 8 9 ?_;refine Aqk 10 k fun a5 c5 F5=>?_;refine dM 3 6 ?_ ?_
 ·refine oC ?_;refine ce (fun w st=>Id x.Am k w EY EY) ?_;refine dk ?_;refine dN 6 ?_;apply Kt;rfl;intro _;refine C3 A9 ?_;exact CC
 ·apply Kt;rfl;intro _;refine C3 A9 ?_;refine dk ?_;refine dN 3 ?_;refine oC ?_;refine ce (fun w st=>Id x.Am k w EY EY) ?_;exact CC
def Ayy (x:Aw) (s:au) (v:Value) (F:aq) (hl:x.Al.length<=6) (t0:0<=x.Am) (t1:x.Am<=65535) (hs:s.size<=maxLen) (hz:1<=x.size) :
  Fn prog 233 [v,af s] [.isv Ck v x F] [] (fun (_:Value × aq)=>True) (fun z=>.tuple #[z.1,.agg #[aa 1,aa (Dz x s).Ae,aa (Dz x s).Am,aa (Dz x s).Es,af s]]) (fun z=>[.isv Ck z.1 (Di x s) z.2]):=by
 have e0:Cf x.Am ((0:Nat):Int)=x.Am:=HG
 obtain ⟨R,hR⟩:∃R,Df x=R:=⟨_,rfl⟩;have hb:=Rd t0 t1;have hRl:R.Al.length<=6:=by
  rw [<-hR];unfold Df
  split
  ·show (x.Al.drop 1).length<=6;rw [aX];omega
  ·exact hl
 have hnum:Cf R.Am R.Al.length=Cf x.Am x.Al.length:=by
  rw [<-hR];unfold Df
  split
  ·rename_i h;show Cf (Cf x.Am 1) ((x.Al.drop 1).length:Nat)=_;rw [aX,show ((x.Al.length - 1:Nat):Int)=(x.Al.length:Int) - 1 by omega,Asb]
  ·rfl
 rw [show Di x s=⟨R.Am,x.size,R.Al++[s]⟩ by unfold Di;rw [hR],show Dz x s=⟨1,Cf x.Am x.Al.length,R.Am,Cf R.Am (R.Al.length+1),s⟩ by unfold Dz;rw [hR]];dsimp only;rw [hR] at hb;refine enter func233 rfl ntmps233 fun w0=>?_;refine E9 ?_;rintro a1 c1 F1 rfl l1;refine go ?_;intros;refine Be (Adu x 0 _ F EY (aD _) t0 t1) fun y _=>?_;rw [e0,dh];refine go ?_;intros;rename_i g
 refine Dv [1,2,4,5,6] [2,3,4,5,6] (fun _:PuS=>[]) (fun z=>[.row g 35 0 [] [aa R.Am,aa x.size,ab z.a R.Al.length z.c] [],.ow A9 9 (ab z.a R.Al.length z.c) R.Al z.F]) (fun _=>True) ?_ fun z _=>?_
 ·refine Ay rfl (fun h1=>?_) (fun h1=>?_)
  ·have e:R=⟨Cf x.Am 1,x.size,x.Al.drop 1⟩:=by rw [<-hR];unfold Df;rw [aH h1]
   rw [e];refine go ?_;refine Be (Adu x 1 _ F EY EY t0 t1) fun z _=>?_;refine go ?_;refine Bk z trivial
  ·have e:R=x:=by rw [<-hR];unfold Df;rw [aC h1]
   rw [e];refine go ?_;refine Bk ⟨y.a,y.c,y.F⟩ trivial
 refine go ?_;refine cb (fun w st=>T6 _ _ _ _ _ w hb.1 hb.2 EY) ?_;rw [hnum];refine go ?_;intros;apply wO;refine N9 (E:=A9) (ys:=[s]) (fun w=>⟨[af s],[],[],[],rfl,rfl,⟨rfl,hs,rfl⟩,rfl,rfl⟩) D7 fun a7 c7 F7=>?_;have hla:((R.Al++[s]).length:Int)=R.Al.length+1:=FA
 refine go ?_;dsimp only [List.append];refine Ar [1] [] ?_;refine C4 0 1 2 3 ?_;refine Dh 4 6 ?_;refine dN 5 ?_;refine oC ?_;refine cb (fun w st=>T6 _ _ _ _ _ w hb.1 hb.2 EY) ?_;refine dk ?_;refine dt 7 ?_;refine dN 8 ?_;refine oS ?_;refine dk ?_;refine dN 9 ?_;refine oS ?_;refine dk ?_;refine dd ?_;refine Av (E:=A9) (xs:=R.Al++[s]) fun F8=>?_;refine Cr ⟨R.Am,x.size,R.Al++[s]⟩ ?_;refine go ?_;refine ret (_,_) trivial ?_;rw [hla];rfl
structure SeS where
 a:aj
 c:Nat
 F:aq
 a2:aj
 c2:Nat
 F2:aq
def Bb8 (x:Aw) (s:au) (hs:List I3) (g t o:Nat) (A B:am) (a a2:aj) (c c2:Nat) (cl q:Int) (F F2:aq) (hl:x.Al.length<=6) (t0:0<=x.Am) (t1:x.Am<=65535) (hss:s.size<=maxLen) (hz:1<=x.size) (hn:∀h∈hs,Cd h.Ae=true) :
  Fn prog 151 [Gj g o 0,af s] [] [.row g t o A [aa x.Am,aa x.size,ab a x.Al.length c,aa cl,aa q,ab a2 hs.length c2] B,.ow Bv 165 (ab a2 hs.length c2) hs F2,.ow A9 9 (ab a x.Al.length c) x.Al F] (fun (_:SeS)=>True) (fun _=>.agg #[aa 1,aa (Dz x s).Ae,aa (Dz x s).Am,aa (Dz x s).Es,af s])
   (fun z=>[.row g t o A [aa (Di x s).Am,aa (Di x s).size,.slice z.a (Di x s).Al.length z.c,aa cl,aa 0,.slice z.a2 (Oe (Di x s) hs).length z.c2] B,.ow Bv 165 (.slice z.a2 (Oe (Di x s) hs).length z.c2) (Oe (Di x s) hs) z.F2,.ow A9 9 (.slice z.a (Di x s).Al.length z.c) (Di x s).Al z.F]):=by
 have hb:=Rd t0 t1;refine enter func151 rfl ntmps151 fun w0=>?_;refine go ?_;intros;refine Be (Bgd x s g t o A B _ _ _ a c F hl (Ba.2 ⟨t0,t1⟩) hss hz) fun z _=>?_;refine go ?_;intros;refine Be (Aob (Di x s) hs g t o A B z.a a2 z.c c2 cl 0 z.F F2 hb.1 hb.2 hn) fun y _=>?_;refine go ?_;refine ret ⟨z.a,z.c,z.F,y.1,y.2.1,y.2.2⟩ trivial rfl
def Sc (x:Cu) (s:au):Cu:=⟨Di x.Aa s,x.Ai,0,Oe (Di x.Aa s) x.holds⟩
def zPk:As:=⟨0,0,0,0,⟨#[]⟩⟩
def Aa7 (x:Aw) (s:au):Bool:=Ed x && P9 s
end Go.Proofs.YtmppejmafbfhlaaGreatDoor
namespace Go.Proofs.YtmppejmafbfhlaaGreatDoor

open Go.RowKit
end Go.Proofs.YtmppejmafbfhlaaGreatDoor
namespace Go.Proofs.YtmppejmafbfhlaaGreatDoor
open Go.RowKit
def Sd (t:Int) (k:Nat):ar:=(List.range k).map fun i=>Cf t (i:Nat)
def Abc (t:Int) (k:Nat):Sd t (k+1)=Sd t k++[Cf t (k:Nat)]:=by unfold Sd;rw [dC,bB];rfl
def Ad7 (t:Int) (k:Nat):(Sd t k).length=k:=by unfold Sd;simp
def Tc (n:Int) (w:World):Cw Bc w [aa n] [n] []:=⟨_,[],[],[],FA,FA,⟨rfl,rfl⟩,rfl,rfl⟩
structure SpS where
 k:Nat
 a:aj
 c:Nat
 F:aq
def Bgs (t:Int) (n:Nat) (t0:0<=t) (t1:t<=65535) (hn:n<=65536):Fn prog 388 [aa t,aa (n:Nat)] [] [] (fun (_:aj × Nat × aq)=>True) (fun s=>.slice s.1 (Sd t n).length s.2.1) (fun s=>[.ow Bc 3 (.slice s.1 (Sd t n).length s.2.1) (Sd t n) s.2.2]):=by
 refine enter func388 rfl ntmps388 fun w0=>?_;refine go ?_;refine Bt Bc 3 ?_;refine Ca [0,4,7] (fun s:SpS=>[(5,.slice s.a (Sd t s.k).length s.c),(8,aa (s.k:Nat))]) (fun s=>[.ow Bc 3 (.slice s.a (Sd t s.k).length s.c) (Sd t s.k) s.F]) (fun s=>s.k<=n) (fun s=>n - s.k) ⟨0,none,0,[]⟩ (aD _) fun s hs=>?_;obtain ⟨k,a,c,F⟩:=s;dsimp only at hs ⊢;have hl:=Ad7 t k;refine go ?_;refine Ay rfl (fun h1=>?_) (fun h1=>?_)
 ·refine go ?_;refine ce (fun w s=>Sv _ _ _ EY EY) ?_;refine go ?_;intros;apply wO;refine N9 (Tc _) C7 fun a2 c2 F2=>?_;refine go ?_;rw [<-Abc];refine Ce ⟨k+1,a2,c2,F2⟩ (by show k+1<=n;omega) (by show n - (k+1) < n - k;omega)
 ·have hk:k=n:=EY
  subst hk;refine go ?_;refine ret (a,c,F) trivial rfl
def Br (p:As):Bool:=Ff 1 p.Ct 5 && Cd p.Ae && Cd p.Am && Cd p.Es && P9 p.data && decide (gp p.Am p.Es<=32767) && (decide (p.data=⟨#[]⟩) || decide (p.Ct=1) || decide (p.Ct=2))
def Kz {p:As} (h:Br p=true):0<=p.Ae/\p.Ae<=65535:=by
 unfold Br at h;simp only [aw] at h;exact Ba.1 h.1.1.1.1.1.2
def Lw (x:Aw):Int:=Cf x.Am x.Al.length
def Aay (x:Aw) (n:Int):au:=x.Al.getD (gp x.Am n).toNat ⟨#[]⟩
def Azi (x:Aw) (n:Int):Bool:=Ed x && Cd n && Jh x n
def Sr (x:Aw):As:=⟨5,x.Am,x.Am,Lw x,⟨#[]⟩⟩
def Kn (x:Aw) (p:As):Bool:=Ed x && Br p && decide (p.Ct=3) && Jh x p.Ae
def Anf (x:Aw) (n:Int):As:=⟨2,n,x.Am,Lw x,Aay x n⟩
def Dp (x:Aw) (p:As):As × Bool:=if Kn x p then (Anf x p.Ae,true) else (zPk,false)
def Ab4 (x:Aw):0<=Lw x/\Lw x<=65535:=Jk _ _
def Ape {x:Aw} (h1:1<=x.size):Lw (Df x)=Lw x:=by
 unfold Df
 split
 ·rename_i h;unfold Lw;simp only [aX];unfold Cf;omega
 ·rfl
def Ara {x:Aw} {s:au} (h:Aa7 x s=true):Ed x=true/\Ed (Di x s)=true/\Azi (Di x s) (Dz x s).Ae=true/\Aay (Di x s) (Dz x s).Ae=s/\(Dz x s).Ae=Lw x/\gp (Lw x) (Lw (Di x s))=1/\(Dz x s).Es=Lw (Di x s)/\(Dz x s).Am=(Di x s).Am:=by
 unfold Aa7 at h;simp only [aw] at h;obtain ⟨hg,hs⟩:=h;obtain ⟨⟨t0,t1⟩,⟨z0,z1⟩,hl,hi⟩:=Du.1 hg;have hr:0<=(Df x).Am/\(Df x).Am<=65535:=Rd t0 t1;have hn:((Df x).Al.length:Int)+1<=x.size/\(Df x).Al.all P9=true:=by
  unfold Df
  split
  ·rename_i h;refine ⟨by simp only [aX];omega,?_⟩;rw [aW] at hi ⊢;exact fun z hz=>hi z (br hz)
  ·exact ⟨EY,hi⟩
 have hlead:=Ape (x:=x) z0;have hgo:Ed (Di x s)=true:=by
  refine Du.2 ⟨hr,⟨z0,z1⟩,?_,?_⟩
  ·show (((Df x).Al++[s]).length:Int)<=x.size;simp only [aA,aU,aY];omega
  ·show ((Df x).Al++[s]).all P9=true;simp [hn.2,hs]
 have hnum:(Dz x s).Ae=Lw x:=rfl;have hgap:gp (Di x s).Am (Lw x)=((Df x).Al.length:Nat):=by
  rw [<-hlead];show gp (Df x).Am (Lw (Df x))=_;unfold Lw gp Cf;omega
 have b:=Ab4 x;refine ⟨hg,hgo,?_,?_,rfl,?_,?_,rfl⟩
 ·unfold Azi;rw [hgo,hnum,Ba.2 b,Jh,hgap];show decide (((Df x).Al.length:Int) < (((Df x).Al++[s]).length:Nat))=true;simp only [aA,aU,aY,aF];omega
 ·unfold Aay;rw [hnum,hgap];show ((Df x).Al++[s]).getD _ _=s;simp
 ·rw [<-hlead];show gp (Lw (Df x)) (Cf (Df x).Am (((Df x).Al++[s]).length:Nat))=1;unfold Lw gp Cf;simp only [aA,aU,aY];omega
 ·show Cf (Df x).Am (((Df x).Al.length:Nat)+1)=Cf (Df x).Am ((((Df x).Al++[s]).length:Nat));simp
section
variable {c:Cx} {fr:Fr} {H:List Pc} {Φ:Gl}
def Pf {a:aj} {n cp:Nat} {xs:List As} {F:aq} (i:Nat) (h:∀(hi:i < xs.length) (b o:Nat),a=some ⟨b,o,none⟩->xs[i].data.size<=maxLen->T c fr (.cel b (o+i * 5) [aa xs[i].Ct,aa xs[i].Ae,aa xs[i].Am,aa xs[i].Es,af xs[i].data]::H) Φ) (hm:.sl Ak (ab a n cp) xs F∈H:=by exact Bp) (hi:i < xs.length:=by omega):T c fr H Φ:=.mk fun ac w s g=>by
 exact CN
def Aua {t:TypeId} {a:aj} {n cp:Nat} {xs:List As} {F:aq} {S:List Pc} (i:Nat) (h:∀(_:i < xs.length) g A B,a=some ⟨g,0,none⟩->F=[g]->xs[i].data.size<=maxLen->Aw3 Ak t g (ab (some ⟨g,0,none⟩) n cp) xs i A B->T c fr (.row g t (0+i * 5) A [aa xs[i].Ct,aa xs[i].Ae,aa xs[i].Am,aa xs[i].Es,af xs[i].data] B::S) Φ) (hp:C1 H (.ow Ak t (ab a n cp) xs F) S:=by exact Do) (hi:i < xs.length:=by omega):T c fr H Φ :=
 Q4 Jz i (fun hi g A cs B ha hF hr hh=>by obtain ⟨rfl,s1, -⟩:=hr default;exact h hi g A B ha hF s1 hh) hp rfl hi
def De (x:As) (s1:x.data.size<=maxLen) (w:World):Cw Ak w [aa x.Ct,aa x.Ae,aa x.Am,aa x.Es,af x.data] [x] []:=⟨_,[],[],[],FA,FA,⟨rfl,s1,rfl⟩,rfl,rfl⟩
end
def Api (t z:Int) (a:aj) (n c:Nat) (h0:0<=t) (h1:t<=65535) (hn:n<=4294967296):FV 282 [.agg #[aa t,aa z,ab a n c]] [] (.agg #[aa 5,aa t,aa t,aa (Cf t n),af ⟨#[]⟩]):=by
 refine enter func282 rfl ntmps282 fun w0=>?_;refine go ?_;intros;refine Ar [1] [7] ?_;refine C4 0 1 2 3 ?_;refine dt 4 ?_;refine dN 5 ?_;refine oC ?_;refine cb (fun w _=>I4 t z a n c w h0 h1 hn) ?_;refine dk ?_;refine dt 6 ?_;refine dN 7 ?_;refine oS ?_;refine Nm ?_;exact CR
def Aa4 (t z:Int) (a:aj) (n c:Nat) (h0:0<=t) (h1:t<=65535) (hn:n<=4294967296):FV 240 [.agg #[aa t,aa z,ab a n c]] [] (.agg #[aa 5,aa t,aa t,aa (Cf t n),af ⟨#[]⟩]):=by
 refine enter func240 rfl ntmps240 fun w0=>?_;refine go ?_;intros;refine Ar [1] [7] ?_;refine C4 0 1 2 3 ?_;refine dt 4 ?_;refine dN 5 ?_;refine oC ?_;refine cb (fun w _=>T6 t z a n c w h0 h1 hn) ?_;refine dk ?_;refine dt 6 ?_;refine dN 7 ?_;refine oS ?_;refine Nm ?_;exact CR
def Vo (cl:Int) (hs:List I3):List I3:=hs.filter fun h=>!decide (h.Cm<=cl)
def Ss (q:Int):Int:=if q+1 < 4 then q+1 else 0
def N2 (x:Aw) (q:Int):List As:=if q+1 < 4 then [] else [Sr x]
def Nj (x:Cu):Cu:=⟨x.Aa,x.Ai+1,Ss x.quiet,Vo (x.Ai+1) x.holds⟩
def Ao4 {x:Cu} (h:Cp x=true):0<=x.quiet/\x.quiet<=3:=by
 unfold Cp Ff at h;simp only [aw,aF] at h;exact h.1.2
def Auf {x:Cu} (h:Cp x=true):∀z∈x.holds,Jh x.Aa z.Ae=true:=fun z hz=>by
 unfold Cp at h;simp only [aw] at h;obtain ⟨i,hi,rfl⟩:=bl hz;have:=aW.1 h.2 i ID;rw [Qe hi] at this;simp only [aw] at this;exact this.1.1.2
structure TiS where
 a:aj
 c:Nat
 a2:aj
 c2:Nat
 F:aq
 ae:aj
 ce:Nat
 Fe:aq
def Beb (h:I3) (gb g o:Nat) (u v0 v1 v2 q Hs:Value) (cl:Int) (G:aq) :
  FV 281 [u,Gj gb 0 0] [.isv Bv u h G,.cel gb 0 [Gj g o 0],.cel g o [v0,v1,v2,aa cl,q,Hs]] (.bool (decide (h.Cm<=cl))):=by
 refine enter func281 rfl ntmps281 fun w0=>?_;refine Aou ?_;rintro _ rfl;refine go ?_;intros;refine Ar [0,2,3] [] ?_;refine C4 0 1 2 3 ?_;refine C4 4 5 6 7 ?_;exact CR
def Bec (hs:List I3) (gb tb g t o:Nat) (A B:am) (v0 v1 v2:Value) (v3:Value) (a2:aj) (c2:Nat) (cl q:Int) (F2:aq) :
  Fn prog 279 [ab a2 hs.length c2,.func (.func 281) #[] #[Gj gb 0 0]] [] [.ow Bv 165 (ab a2 hs.length c2) hs F2,.row gb tb 0 [] [Gj g o 0] [],.row g t o A [v0,v1,v2,aa cl,aa q,v3] B] (fun (_:aj × Nat × aq)=>True)
   (fun z=>.slice z.1 (Vo cl hs).length z.2.1) (fun z=>[.ow Bv 165 (.slice z.1 (Vo cl hs).length z.2.1) (Vo cl hs) z.2.2,.row gb tb 0 [] [Gj g o 0] [],.row g t o A [v0,v1,v2,aa cl,aa q,v3] B]):=by
 refine Aqp rfl fun w ⟨hnd,ho⟩ _ hk=>?_;refine (Xm _ (Wf FB) #[Gj gb 0 0] _ hs F2 (fun h=>decide (h.Cm<=cl)) w ho hnd fun k hk2 wr u G hK hu=>?_).mono ?_
 ·have hr:=hk wr hK;have r1:=hr (.row gb tb 0 [] [Gj g o 0] []) FA;have r2:=hr (.row g t o A [v0,v1,v2,aa cl,aa q,v3] B) FA;refine (Beb hs[k] gb g o u v0 v1 v2 (aa q) v3 cl G).val wr ?_;intro p hp;simp only [aG,aT,bn] at hp;rcases hp with rfl|rfl|rfl
  ·exact hu
  ·exact ⟨FA,Iv r1⟩
  ·exact ⟨FA,Iv r2⟩
 ·rintro e w' ⟨v',F',rfl,h1,h2,h3,h4⟩;have e:(hs.filter fun x=>!(fun h:I3=>decide (h.Cm<=cl)) x)=Vo cl hs:=rfl;rw [e] at h1;exact CP
def Bb9 (W:Aw) (hs:List I3) (g t o:Nat) (A B:am) (a a2:aj) (c c2:Nat) (cl q:Int) (F2:aq) (t0:0<=W.Am) (t1:W.Am<=65535) (hl:W.Al.length<=6) (k0:0<=cl) (k1:cl<=9999) (q0:0<=q) (q3:q<=3) :
  Fn prog 214 [Gj g o 0] [] [.row g t o A [aa W.Am,aa W.size,ab a W.Al.length c,aa cl,aa q,ab a2 hs.length c2] B,.ow Bv 165 (ab a2 hs.length c2) hs F2] (fun (_:TiS)=>True)
   (fun z=>.slice z.ae (N2 W q).length z.ce) (fun z=>[.row g t o A [aa W.Am,aa W.size,ab a W.Al.length c,aa (cl+1),aa (Ss q),.slice z.a2 (Vo (cl+1) hs).length z.c2] B,.ow Bv 165 (.slice z.a2 (Vo (cl+1) hs).length z.c2) (Vo (cl+1) hs) z.F,.ow Ak 159 (.slice z.ae (N2 W q).length z.ce) (N2 W q) z.Fe]):=by
 refine enter func214 rfl ntmps214 fun w0=>?_;refine go ?_;intros;refine Ar [0,1] [9] ?_;refine C4 0 1 2 3 ?_;refine Dh 4 5 ?_;refine dN 6 ?_;refine oC ?_;refine Be (Bec hs _ _ g t o A B _ _ _ _ a2 c2 (cl+1) q F2) fun z _=>?_;refine dk ?_;refine Dh 7 8 ?_;refine dN 9 ?_;refine oS ?_;refine Nm ?_;refine dd ?_;refine go ?_;refine Ay rfl (fun h1=>?_) (fun h1=>?_)
 ·refine Bt Ak 159 ?_;refine go ?_;rw [show Ss q=q+1 from aH h1,show N2 W q=[] from aH h1];refine ret ⟨none,0,z.1,z.2.1,z.2.2,none,0,[]⟩ trivial rfl
 ·refine go ?_;refine Be (Api W.Am W.size a W.Al.length c t0 t1 EY) fun _ _=>?_;refine go ?_;intros;refine Dy (xs:=[Sr W]) (De _ GZ) ?_ FA;rw [show Ss q=0 from aC h1,show N2 W q=[Sr W] from aC h1];refine ret ⟨none,0,z.1,z.2.1,z.2.2,_,_,_⟩ trivial rfl
def Tp (x:Aw) (v:Value) (F:aq) (t0:0<=x.Am) (t1:x.Am<=65535) (hl:x.Al.length<=4294967296):Fn prog 232 [v,aa 0] [.isv Ck v x F] [] (fun (_:Value × aq)=>True) (fun s=>s.1) (fun s=>[.own Rp s.1 x s.2]):=by
 have e0:Cf x.Am ((0:Nat):Int)=x.Am:=HG
 have h:=Adu x 0 v F hl (aD _) t0 t1;rw [e0,dh] at h;refine Bcr fun w hA=>(h.made w hA (fun _=>rfl)).mono ?_;rintro e w' ⟨z, -,he,hh,hn,hF,hB⟩;obtain ⟨h1,h2⟩:=hh (.ow A9 9 (ab z.a x.Al.length z.c) x.Al z.F) FA;exact ⟨(_,z.F),trivial,he,⟨h1,_,rfl,_,rfl,h2⟩,fun b hb=>hF b (by simpa [fp,Pc.F,Pc.mu] using hb),hB⟩
def Bc3 {W:Aw} {cl:Int} {hs:List I3} (h:∀z∈hs,Jh W z.Ae=true):Iz W cl hs=Vo cl hs:=by
 unfold Iz Vo;refine ex fun z hz=>?_;rw [h z hz,bQ];by_cases hc:cl < z.Cm
 ·rw [av hc,ay EY];rfl
 ·rw [ay hc,av EY];rfl
def Nk (x:Cu):Cu:=⟨x.Aa,x.Ai+1,Ss x.quiet,Iz x.Aa (x.Ai+1) x.holds⟩
def Aha (x:Cu) (v:Value) (F:aq) (t0:0<=x.Aa.Am) (t1:x.Aa.Am<=65535) (hl:x.Aa.Al.length<=6) (k0:0<=x.Ai) (k1:x.Ai<=99999) (q0:0<=x.quiet) (q3:x.quiet<=3) (hm:x.holds.length<=1000) (hn:Aah x.holds) :
  Fn prog 173 [v] [.isv Ei v x F] [] (fun (_:TiS)=>True) (fun s=>.tuple #[.agg #[aa (Nk x).Aa.Am,aa (Nk x).Aa.size,.slice s.a (Nk x).Aa.Al.length s.c,aa (Nk x).Ai,aa (Nk x).quiet,.slice s.a2 (Nk x).holds.length s.c2],.slice s.ae (N2 x.Aa x.quiet).length s.ce])
   (fun s=>[.isv Ei (.agg #[aa (Nk x).Aa.Am,aa (Nk x).Aa.size,.slice s.a (Nk x).Aa.Al.length s.c,aa (Nk x).Ai,aa (Nk x).quiet,.slice s.a2 (Nk x).holds.length s.c2]) (Nk x) s.F,.ow Ak 159 (.slice s.ae (N2 x.Aa x.quiet).length s.ce) (N2 x.Aa x.quiet) s.Fe]):=by
 refine enter func173 rfl ntmps173 fun w0=>?_;refine Hc ?_;rintro a1 c1 F1 a2 c2 F2 rfl l1 l2;refine Cr x.Aa (a1:=a1) ?_;refine go ?_;intros;refine Be (Tp x.Aa _ F1 t0 t1 EY) fun y _=>?_;refine Kg ?_;rintro a5 c5 F5 e5 l5;rw [e5];have hH:=fun v a c F G=>Aet x.Aa x.holds (x.Ai+1) v a c F G t0 t1 EY hn;refine go ?_;intros;refine Av (xs:=x.Aa.Al) fun F8=>?_;refine Cr x.Aa (a1:=a5) ?_;refine Ar [2,4] [] ?_;refine C4 0 1 2 3 ?_;refine C4 4 5 6 7 ?_;refine C4 8 9 10 11 ?_;refine dt 12 ?_;refine dM 13 15 ?_ ?_
 ·refine oC ?_;refine Be (hH _ a2 c2 _ _) fun z _=>?_;refine dk ?_;refine dt 14 ?_;refine dN 15 ?_;apply Cn;rfl;intro _;refine dk ?_;refine dN 16 ?_;refine oS ?_;refine dk ?_;refine dd ?_;refine go ?_;refine Ay rfl (fun h1=>?_) (fun h1=>?_)
  ·rw [show Nk x=⟨x.Aa,x.Ai+1,0,Iz x.Aa (x.Ai+1) x.holds⟩ from by unfold Nk Ss;rw [aC EY],show N2 x.Aa x.quiet=[Sr x.Aa] from aC EY];refine go ?_;refine Av (E:=Bv) fun F9=>?_;refine D6 ⟨x.Aa,x.Ai+1,0,Iz x.Aa (x.Ai+1) x.holds⟩ (a1:=a5) ?_;refine Ar [2,5] [] ?_;refine Dh 0 1 ?_;refine dN 2 ?_;refine oC ?_;refine Be (Aa4 x.Aa.Am x.Aa.size _ x.Aa.Al.length _ t0 t1 EY) fun _ _=>?_;refine dk ?_;refine dM 3 4 ?_ ?_
   ·apply I1;rfl;rfl;rfl;rfl;exact Iy;exact Ir;intro _;refine dk ?_;refine dN 4 ?_;refine oS ?_;exact AN
   ·refine oS ?_;refine dk ?_;refine dN 3 ?_;apply I1;rfl;rfl;rfl;rfl;exact Iy;exact Ir;intro _;exact AN
  ·exact BJ
 ·apply Cn;rfl;intro _;refine dk ?_;refine dN 13 ?_;refine oC ?_;refine Be (hH _ a2 c2 _ _) fun z _=>?_;refine dk ?_;refine dt 14 ?_;refine dN 16 ?_;refine oS ?_;refine dk ?_;refine dd ?_;refine go ?_;refine Ay rfl (fun h1=>?_) (fun h1=>?_)
  ·rw [show Nk x=⟨x.Aa,x.Ai+1,0,Iz x.Aa (x.Ai+1) x.holds⟩ from by unfold Nk Ss;rw [aC EY],show N2 x.Aa x.quiet=[Sr x.Aa] from aC EY];refine go ?_;refine Av (E:=Bv) fun F9=>?_;refine D6 ⟨x.Aa,x.Ai+1,0,Iz x.Aa (x.Ai+1) x.holds⟩ (a1:=a5) ?_;refine Ar [2,5] [] ?_;refine Dh 0 1 ?_;refine dN 2 ?_;refine oC ?_;refine Be (Aa4 x.Aa.Am x.Aa.size _ x.Aa.Al.length _ t0 t1 EY) fun _ _=>?_;refine dk ?_;refine dM 3 4 ?_ ?_
   ·apply I1;rfl;rfl;rfl;rfl;exact Iy;exact Ir;intro _;refine dk ?_;refine dN 4 ?_;refine oS ?_;exact AN
   ·refine oS ?_;refine dk ?_;refine dN 3 ?_;apply I1;rfl;rfl;rfl;rfl;exact Iy;exact Ir;intro _;exact AN
  ·exact BJ
def Ba7 {x:Cu} (hg:Cp x=true):Nk x=Nj x:=by unfold Nk Nj;rw [Bc3 (Auf hg)]
def Auy (x:Cu) (v:Value) (F:aq) (hg:Cp x=true) :
  Fn prog 173 [v] [.isv Ei v x F] [] (fun (_:TiS)=>True) (fun s=>.tuple #[.agg #[aa (Nj x).Aa.Am,aa (Nj x).Aa.size,.slice s.a (Nj x).Aa.Al.length s.c,aa (Nj x).Ai,aa (Nj x).quiet,.slice s.a2 (Nj x).holds.length s.c2],.slice s.ae (N2 x.Aa x.quiet).length s.ce])
   (fun s=>[.isv Ei (.agg #[aa (Nj x).Aa.Am,aa (Nj x).Aa.size,.slice s.a (Nj x).Aa.Al.length s.c,aa (Nj x).Ai,aa (Nj x).quiet,.slice s.a2 (Nj x).holds.length s.c2]) (Nj x) s.F,.ow Ak 159 (.slice s.ae (N2 x.Aa x.quiet).length s.ce) (N2 x.Aa x.quiet) s.Fe]):=by
 obtain ⟨gw,hl,t0,t1,k0,k1,hm,hn,hu,hb⟩:=Kk hg;obtain ⟨q0,q3⟩:=Ao4 hg;have h:=Aha x v F t0 t1 hl k0 EY q0 q3 EY (Af6 hn);rw [Ba7 hg] at h;exact h
structure Ig where
 Uz:Bool
 Dk:au
def C0:B8 Ig where
 sz:=2
 Mj _ cs x F:=cs=[.bool x.Uz,af x.Dk]/\x.Dk.size<=maxLen/\F=[]
 len h:=by obtain ⟨rfl,s1,rfl⟩:=h;rfl
 lt h:=by obtain ⟨rfl,s1,rfl⟩:=h;simp
 frame h _:=h
def Ja:One C0:=fun h u hu=>by
 obtain ⟨rfl,s1,rfl⟩:=h;simp only [aG,aT,bn] at hu;rcases hu with rfl|rfl
 ·rfl
 ·rfl
def Io:Abn C0:=fun h=>by obtain ⟨rfl,s1,rfl⟩:=h;rfl
def Aum:(prog.info? 223).map (fun i=>(i.zero,i.size,i.bytes))=some (some (.agg #[.bool false,af ⟨#[]⟩]),2,24):=FB
structure Aj where
 next:Int
 Ao:List Ig
def Bx:B8 Aj where
 sz:=2
 Mj w cs x F:=∃v1,cs=[aa x.next,v1]/\Sl C0 w v1 x.Ao F
 len h:=GT
 lt h:=GS
 frame h hF:=FX
section
variable {c:Cx} {fr:Fr} {H:List Pc} {Φ:Gl}
def Cq {v:Value} {x:Aj} {F:aq} (h:∀(a1:aj) (c1:Nat) (F1:aq),v=.agg #[aa x.next,ab a1 x.Ao.length c1]->x.Ao.length<=maxLen->T c fr (.sl C0 (ab a1 x.Ao.length c1) x.Ao F1::H) Φ) (hm:.isv Bx v x F∈H:=by exact Bp):T c fr H Φ:=.mk fun a w s g=>by
 exact AI
def Ch (x:Aj) {a1:aj} {c1:Nat} {F1:aq}  (h:T c fr (.isv Bx (.agg #[aa x.next,ab a1 x.Ao.length c1]) x (F1)::H) Φ) (m1:.sl C0 (ab a1 x.Ao.length c1) x.Ao F1∈H:=by exact Bp):T c fr H Φ:=.mk fun a w s g=>by
 exact AE
end
section
variable {c:Cx} {fr:Fr} {H:List Pc} {Φ:Gl}
def Azo {v:Value} {x:Ig} {F:aq} (h:∀(_:Unit),v=.agg #[.bool x.Uz,af x.Dk]->x.Dk.size<=maxLen->T c fr (H) Φ) (hm:.isv C0 v x F∈H:=by exact Bp):T c fr H Φ:=.mk fun a w s g=>by
 obtain ⟨cs,rfl,rfl,s1,rfl⟩:=s.get hm;exact (h () rfl s1 ).h a w s g
def O9 {a:aj} {n cp:Nat} {xs:List Ig} {F:aq} (i:Nat) (h:∀(hi:i < xs.length) (b o:Nat),a=some ⟨b,o,none⟩->xs[i].Dk.size<=maxLen->T c fr (.cel b (o+i * 2) [.bool xs[i].Uz,af xs[i].Dk]::H) Φ) (hm:.sl C0 (ab a n cp) xs F∈H:=by exact Bp) (hi:i < xs.length:=by omega):T c fr H Φ:=.mk fun ac w s g=>by
 exact CN
def Alx {t:TypeId} {a:aj} {n cp:Nat} {xs:List Ig} {F:aq} {S:List Pc} (i:Nat) (h:∀(_:i < xs.length) g A B,a=some ⟨g,0,none⟩->F=[g]->xs[i].Dk.size<=maxLen->Aw3 C0 t g (ab (some ⟨g,0,none⟩) n cp) xs i A B->T c fr (.row g t (0+i * 2) A [.bool xs[i].Uz,af xs[i].Dk] B::S) Φ) (hp:C1 H (.ow C0 t (ab a n cp) xs F) S:=by exact Do) (hi:i < xs.length:=by omega):T c fr H Φ :=
 Q4 Io i (fun hi g A cs B ha hF hr hh=>by obtain ⟨rfl,s1, -⟩:=hr default;exact h hi g A B ha hF s1 hh) hp rfl hi
end
def Agc (fid:FuncId) (hbd:Zw prog fid) (caps:Array Value) (v:Value) (xs:List Ig) (F:aq) (p:Ig->Bool) (w:World) (h:Sl C0 w v xs F)
  (hp:∀(k:Nat) (hk:k < xs.length) (wr:World) (u:Value) (G:aq),Below w.heap.size w wr->Su C0 wr u xs[k] G->Calls prog fid (#[u]++caps) wr fun e w'=>e=.returned (.bool (p xs[k]))/\Below wr.heap.size wr w') :
  Calls prog 356 #[v,.func (.func fid) #[] caps] w (RB (aa (Si p xs)) w):=by
 obtain ⟨a,cap,rfl⟩:=h.slice;have hl:=h.len;unfold maxLen at hl
 go_enter func356,ntmps356
 go_wp2
 go_loopw [5,8] (fun _ i wr=>∃k:Nat,k<=xs.length/\i=aa k/\Hid (∀j,j < k->∀hj:j < xs.length,p xs[j]=false)/\Below w.heap.size w wr) (fun _ i _=>xs.length - (intOf i).toNat)
 case atStart=>exact ⟨0,aD _,rfl,fun j hj=>by omega,Below.refl _ _⟩
 case round =>
  obtain ⟨k,hk,rfl,hz,hB⟩:=hrel;by_cases hlt:k < xs.length
  ·have hz0:=hz;clear hz;obtain ⟨b,off,_,F1,rfl,hx, -,ja⟩:=(h.below EZ hB).at k hlt;obtain ⟨rfl,s1,rfl⟩:=id hx;have a0:=ja 0 EZ;have a1:=ja 1 EZ;simp only [show C0.sz=2 from rfl,cV,bT,bM,bH] at a0 a1;clear ja;have hr:=hp k hlt wr _ _ hB ⟨_,rfl,hx⟩;have hp:=Lib.hid hp;cases hpk:p xs[k]
   all_goals
    rw [hpk] at hr;have hpk:=Lib.hid hpk;have hr:=Lib.hid hr;go_wp2_with fail;refine hbd.upon hr.out ?_;rintro e w1 ⟨rfl,hb1⟩;refine ⟨_,rfl,?_⟩;have hB:=tr hB hb1 (aK _);clear hb1;go_wp2_with fail
   ·exact AV
   ·go_ret
    exact EL
  ·go_wp2
   go_ret
   exact DI
def Abi (fid:FuncId) (hbd:Zw prog fid) (caps:Array Value) (v:Value) (xs:List Ig) (F:aq) (p:Ig->Bool) (w:World) (h:Sl C0 w v xs F)
  (hp:∀(k:Nat) (hk:k < xs.length) (wr:World) (u:Value) (G:aq),Below w.heap.size w wr->Su C0 wr u xs[k] G->Calls prog fid (#[u]++caps) wr fun e w'=>e=.returned (.bool (p xs[k]))/\Below wr.heap.size wr w') :
  Calls prog 309 #[v,.func (.func fid) #[] caps] w (RB (.bool (xs.any p)) w):=by
 have hp:=Lib.hid hp
 go_enter func309,ntmps309
 go_wp2_with fail;refine (Agc fid hbd caps v xs F p _ h hp.out).mono ?_;rintro e w1 ⟨rfl,hb1⟩;go_wp2_with fail
 go_ret
 exact ⟨Cs (Ty p xs),hb1⟩
def Aai (v:Value) (xs:List Ig) (F:aq) (w:World) (h:Sl C0 w v xs F) (hm:xs.length<=4294967296) :
  Calls prog 206 #[v] w (X4 C0 223 xs w):=by
 obtain ⟨ao,c,news,Fy,rfl,hl,hfy,hFy,hsrc⟩:=h.src;have hFl:=hfy.lt;have he:=fun w (a:aj) (n c:Nat)=>Lib.run_eql_slice_nil (P:=prog) w 113 _ a n c 0 0 underlying113
 go_enter func206,ntmps206
 rcases hsrc with ⟨rfl,rfl,rfl⟩|⟨ad,rfl,hn⟩
 ·go_wp2
  go_ret
  exact CE
 ·go_wp2_with (at_builtin;refine Pw Ja EZ FL _ _ _ FL 223 (.agg #[.bool false,af ⟨#[]⟩]) 24 underlying113 Aum rfl (ab (some ⟨w.heap.size,0,none⟩) 0 0) [] [w.heap.size] FL (Ow.empty (Ip.made _ _ _)) (Hd.one _) (some ad) xs c FL news Fy (hfy.frame fun b hb=>Below.heap_alloc _ _ _ (hFl b hb)) (.inr ⟨ad,rfl,fun j u hu=>kc ((Below.refl _ _).alloc (aK _) _) (hn j u hu)⟩) (fun b hb e=>by have:=hFl b hb;simp [Value.ownBlock] at e;omega) GY GU ?_);intro v2 w2 F2 hA;go_wp2_with fail
  go_ret
  have hB:Below w.heap.size w w2:=((Below.refl _ _).alloc (aK _) _).trans (hA.Je.below FA FA);have hs:∀b,v2.ownBlock=some b->w.heap.size<=b:=fun b hb=>by rcases hA.Arl with e|e <;> rw [e] at hb <;> simp [Value.ownBlock] at hb <;> omega
  refine ⟨v2,F2,rfl,IR,hA.ow.scal Io▸?_,fun b hb=>?_,hB⟩
  ·cases v2.ownBlock <;> simp
  ·rw [hA.ow.scal Io] at hb;exact hs b JD
def Hq (s:Ig):Bool:=P9 s.Dk && (s.Uz || decide (s.Dk=⟨#[]⟩))
def Ka (l:List Ig) (k:Nat):Bool:=match l[k]? with|some s=>s.Uz|none=>false
def Xw (l:List Ig):Bool:=decide (l.length=0) || (!Ka l 0 && Ka l (l.length - 1))
def Cz (x:Aj):Bool:=Cd x.next && decide ((x.Ao.length:Int)<=8) && x.Ao.all Hq && Xw x.Ao
def Lu {l:List Ig} {k:Nat} (h:k < l.length):Ka l k=l[k].Uz:=by unfold Ka;rw [aE h]
def Rx {l:List Ig} {k:Nat} (h:l.length<=k):Ka l k=false:=by unfold Ka;rw [bp h]
def Jb (x:Aj) (k:Int):Bool:=Ka x.Ao (gp x.next k).toNat
def Abm (x:Aj) (k:Int) (v:Value) (F:aq) (h0:0<=x.next) (h1:x.next<=65535) (h2:0<=k) (h3:k<=65535) :
  FV 253 [v,aa k] [.isv Bx v x F] (.bool (Jb x k)):=by
 refine enter func253 rfl ntmps253 fun w0=>?_;refine Cq ?_;rintro a1 c1 F1 rfl l1;unfold maxLen at l1;have hg:=Lt x.next k
 refine go ?_;intros;refine ce (fun w s=>P3 _ _ _ EY EY EY EY) ?_;refine go ?_;refine Dd rfl rfl (fun h=>?_) (fun h=>?_)
 ·refine O9 (gp x.next k).toNat ?_;rintro hi b o rfl s1;refine go ?_;refine ret () trivial ?_;unfold Jb;rw [Lu hi];rfl
 ·refine go ?_;refine ret () trivial ?_;unfold Jb;rw [Rx EY];rfl
def Bfm (x:Ig) (v:Value) (F:aq):FV 310 [v] [.isv C0 v x F] (.bool (!Hq x)):=by
 refine enter func310 rfl ntmps310 fun w0=>?_;refine Azo ?_;rintro _ rfl s1;refine go ?_;intros;refine cb (fun w s=>Ab0 _ _ s1) ?_;cases g:P9 x.Dk
 ·refine go ?_;refine ret () trivial ?_;simp [Hq,g,Uh]
 refine go ?_;cases g2:x.Uz
 ·refine go ?_;refine ret () trivial ?_;simp [Hq,g,g2,Uh]
 ·refine go ?_;refine ret () trivial ?_;simp [Hq,g,g2,Uh]
def Axb (x:Aj) (v:Value) (F:aq):FV 249 [v] [.isv Bx v x F] (.bool (Cz x)):=by
 refine enter func249 rfl ntmps249 fun w0=>?_;refine Cq ?_;rintro a1 c1 F1 rfl l1;unfold maxLen at l1;refine go ?_;intros;refine ce (fun w s=>Jj _ _) ?_;cases g1:Cd x.next
 ·refine go ?_;refine ret () trivial ?_;simp [Cz,g1,Uh]
 refine go ?_;refine Ay rfl (fun h=>?_) (fun h=>?_)
 ·refine go ?_;refine ret () trivial ?_;simp [Cz,g1,Uh];omega
 refine go ?_;refine cb (fun w s=>Abi _ (.mk' func310 rfl rfl) #[] _ x.Ao F1 (fun s=>!Hq s) _ (s.get (p:=.sl C0 (ab a1 x.Ao.length c1) x.Ao F1) FA).2 ?_) ?_
 ·intro k hk wr u G _ hu;exact (Bfm x.Ao[k] u G).val wr (I6 hu)
 cases g2:x.Ao.all Hq
 ·have:(x.Ao.any fun s=>!Hq s)=true:=by rw [<-eu,g2];rfl
  rw [this];refine go ?_;refine ret () trivial ?_;simp [Cz,g2,Uh]
 have hx:(x.Ao.any fun s=>!Hq s)=false:=by rw [<-eu,g2];rfl
 rw [hx];refine go ?_;have g3:Cz x=Xw x.Ao:=by simp [Cz,g1,g2];omega
 refine Dd rfl rfl (fun h=>?_) (fun h=>?_)
 ·refine go ?_;refine ret () trivial ?_;rw [g3];have:x.Ao.length=0:=EY
  simp [Xw,this,Uh]
 refine O9 0 ?_;rintro hi b o rfl s1;refine go ?_;cases g4:x.Ao[0].Uz
 rotate_left
 ·refine go ?_;refine ret () trivial ?_;rw [g3];unfold Xw;rw [Lu hi,g4,ay EY];rfl
 refine O9 (x.Ao.length - 1) ?_;rintro hi2 b2 o2 e s2;cases e;refine go ?_;have hl:((x.Ao.length:Int) - 1).toNat=x.Ao.length - 1:=EY
 rw [hl];refine go ?_;refine ret () trivial ?_;rw [g3];unfold Xw;rw [Lu hi,Lu hi2,g4,ay EY];rfl
def Bh1 (s:au):(decide ((s.size:Int)<=8) && U0 s.data.toList)=P9 s:=rfl
def Z6 {α:Type} {p:α->Bool} {l:List α} {k:Nat} (h:k < l.length):(l.take (k+1)).all p=((l.take k).all p && p l[k]):=by
 rw [aR h,dY];simp
def Agg {α:Type} {p:α->Bool} {l:List α} {k:Nat} (h:k < l.length) (hp:p l[k]=false):l.all p=false:=by
 rw [cS];exact ⟨l[k],aB h,HK⟩
def Aut (x:Aj) (v:Value) (F:aq):FV 262 [v] [.isv Bx v x F] (.bool (Cz x)):=by
 refine enter func262 rfl ntmps262 fun w0=>?_;refine Cq ?_;rintro a1 c1 F1 rfl l1;unfold maxLen at l1;refine go ?_;intros;refine ce (fun w s=>Oh _ _) ?_;cases g1:Cd x.next
 ·refine go ?_;refine ret () trivial ?_;simp [Cz,g1,Uh]
 refine go ?_;refine Ay rfl (fun h=>?_) (fun h=>?_)
 ·refine go ?_;refine ret () trivial ?_;simp [Cz,g1,Uh];omega
 refine go ?_;refine Dl [1,2,3] (fun k:Nat=>[(4,aa k)]) (fun k=>k<=x.Ao.length/\(x.Ao.take k).all Hq=true) (fun k=>x.Ao.length - k) 0 ⟨aD _,rfl⟩ fun k hk=>?_;obtain ⟨hk1,hk2⟩:=hk;refine go ?_;refine Ay rfl (fun h3=>?_) (fun h3=>?_)
 ·have hk3:k < x.Ao.length:=EY
  refine O9 k ?_;rintro hi b o e s1;cases e;refine go ?_;refine ce (fun w s=>Ry _ _ _ s1) ?_;rw [Bh1];cases g2:P9 x.Ao[k].Dk
  ·refine go ?_;refine ret () trivial ?_;have:x.Ao.all Hq=false:=Agg hk3 (by simp [Hq,g2]);simp [Cz,this,Uh]
  refine go ?_;cases g3:x.Ao[k].Uz
  rotate_left
  ·refine go ?_;refine Ce (k+1) ⟨EY,by rw [Z6 hk3,hk2];simp [Hq,g2,g3]⟩ EY
  refine go ?_;refine Ay rfl (fun g4=>?_) (fun g4=>?_)
  ·refine go ?_;refine ret () trivial ?_;have:x.Ao.all Hq=false:=Agg hk3 (by simp [Hq,g2,g3,g4]);simp [Cz,this,Uh]
  ·refine go ?_;simp only [cL] at g4;have ho:Hq x.Ao[k]=true:=by unfold Hq;rw [g2,g3,av g4];rfl
   refine Ce (k+1) ⟨EY,by rw [Z6 hk3,hk2,ho];rfl⟩ EY
 have hkl:k=x.Ao.length:=EY
 subst hkl;rw [bj] at hk2;have g3:Cz x=Xw x.Ao:=by simp [Cz,g1,hk2];omega
 refine go ?_;refine Dd rfl rfl (fun h4=>?_) (fun h4=>?_)
 ·refine go ?_;refine ret () trivial ?_;rw [g3];have:x.Ao.length=0:=EY
  simp [Xw,this,Uh]
 refine O9 0 ?_;rintro hi b o e s1;cases e;refine go ?_;cases g4:x.Ao[0].Uz
 rotate_left
 ·refine go ?_;refine ret () trivial ?_;rw [g3];unfold Xw;rw [Lu hi,g4,ay EY];rfl
 refine O9 (x.Ao.length - 1) ?_;rintro hi2 b2 o2 e s2;cases e;refine go ?_;have hl:((x.Ao.length:Int) - 1).toNat=x.Ao.length - 1:=EY
 rw [hl];refine go ?_;refine ret () trivial ?_;rw [g3];unfold Xw;rw [Lu hi,Lu hi2,g4,ay EY];rfl
def Ahv (s:au):au:=⟨#[43]⟩++s
def Aon:au:=⟨#[45]⟩
def Gt (l:List Ig):au:=match l with|[]=>Aon|s::_=>if s.Uz then Ahv s.Dk else Aon
def Ad6 {l:List Ig} (hi:0 < l.length) (h:l[0].Uz=true):Gt l=Ahv l[0].Dk:=by
 cases l with
 | nil=>simp at hi
 | cons s r=>simp at h;simp [Gt,h]
def Ak0 {l:List Ig} (hi:0 < l.length) (h:l[0].Uz=false):Gt l=Aon:=by
 cases l with
 | nil=>simp at hi
 | cons s r=>simp at h;simp [Gt,h]
def rel:Int->List Ig->Int × List Ig × ai
 | n,[]=>(n,[],[])
 | n,s::r=>if s.Uz then ((rel (Cf n 1) r).1,(rel (Cf n 1) r).2.1,Ahv s.Dk::(rel (Cf n 1) r).2.2) else (n,s::r,[])
def Bgj {n:Int} {l:List Ig} (h:Ka l 0=false):rel n l=(n,l,[]):=by
 cases l with
 | nil=>rfl
 | cons s r=>have:s.Uz=false:=h;simp [rel,this]
def Bdz {n:Int} {l:List Ig} (h:Ka l 0=true):rel n l=((rel (Cf n 1) (l.drop 1)).1,(rel (Cf n 1) (l.drop 1)).2.1,Gt l::(rel (Cf n 1) (l.drop 1)).2.2):=by
 cases l with
 | nil=>cases h
 | cons s r=>have:s.Uz=true:=h;simp [rel,Gt,this]
def Bgf {w:World} {a:aj} {c:Nat} {x:Aj} {F:aq} (h:(Pc.ow C0 223 (ab a x.Ao.length c) x.Ao F).P w):∃F',(Pc.isv Bx (.agg #[aa x.next,ab a x.Ao.length c]) x F').P w:=by
 obtain ⟨F', -,hs⟩:=h.2.read;exact ⟨F',_,rfl,_,rfl,hs⟩
def Ato (x:Aj) (v:Value) (F:aq) (hl:x.Ao.length<=4294967296):Fn prog 143 [v] [.isv Bx v x F] [] (fun (_:aj × Nat × aq)=>True)
  (fun s=>.agg #[aa x.next,ab s.1 x.Ao.length s.2.1]) (fun s=>[.ow C0 223 (ab s.1 x.Ao.length s.2.1) x.Ao s.2.2]):=by
 refine enter func143 rfl ntmps143 fun w0=>?_;refine Cq ?_;rintro a1 c1 F1 rfl l1;refine go ?_;intros;refine cn (fun w s=>Aai _ _ _ _ (s.get (p:=.sl C0 (ab a1 x.Ao.length c1) x.Ao F1) FA).2 hl) fun a cp F'=>?_;refine go ?_;refine ret (a,cp,F') trivial rfl
def Aje (x:Aj) (g t o:Nat) (A B:am) (a:aj) (cc:Nat) (F:aq) (h0:0<=x.next) (h1:x.next<=65535) (hl:x.Ao.length<=4294967296) (hs:∀s∈x.Ao,s.Dk.size<=8) :
  Fn prog 327 [Gj g o 0] [] [.row g t o A [aa x.next,ab a x.Ao.length cc] B,.ow C0 223 (ab a x.Ao.length cc) x.Ao F] (fun (_:aj × Nat × aq)=>True)
   (fun _=>af (Gt x.Ao)) (fun s=>[.row g t o A [aa (Cf x.next 1),.slice s.1 (x.Ao.drop 1).length s.2.1] B,.ow C0 223 (.slice s.1 (x.Ao.drop 1).length s.2.1) (x.Ao.drop 1) s.2.2]):=by
 refine enter func327 rfl ntmps327 fun w0=>?_;refine go ?_;refine Ay rfl (fun h=>?_) (fun h=>?_)
 ·refine Av fun F'=>?_;refine O9 0 ?_;rintro hi b o2 e s1;cases e;refine go ?_;have s8:=hs _ (aB hi);have s9:(⟨#[43]⟩:au).size=1:=rfl;cases g1:x.Ao[0].Uz
  ·refine go ?_;apply wO;refine sld 1 fun a2 c2 F2=>?_;refine go ?_;refine cn (fun w s=>Aai _ _ _ _ (s.get (p:=.sl C0 (.slice a2 (x.Ao.drop 1).length c2) (x.Ao.drop 1) F2) FA).2 FF) fun a3 c3 F3=>?_;refine go ?_;refine ce (fun w s=>Sv _ _ _ EY EY) ?_;refine go ?_;refine ret (a3,c3,F3) trivial ?_;rw [Ak0 hi g1];rfl
  ·refine go ?_;apply wO;refine sld 1 fun a2 c2 F2=>?_;refine go ?_;refine cn (fun w s=>Aai _ _ _ _ (s.get (p:=.sl C0 (.slice a2 (x.Ao.drop 1).length c2) (x.Ao.drop 1) F2) FA).2 FF) fun a3 c3 F3=>?_;refine go ?_;refine ce (fun w s=>Sv _ _ _ EY EY) ?_;refine go ?_;refine ret (a3,c3,F3) trivial ?_;rw [Ad6 hi g1];rfl
 ·obtain ⟨n,l⟩:=x;obtain rfl:l=[]:=bD FI;refine go ?_;refine ce (fun w s=>Sv _ _ _ EY EY) ?_;refine go ?_;refine ret (a,cc,F) trivial rfl
def P7 (x:Aj):Aj:=⟨(rel x.next x.Ao).1,(rel x.next x.Ao).2.1⟩
def Sb (x:Aj):ai:=(rel x.next x.Ao).2.2
def Z4 (x:Aj):Aj:=⟨Cf x.next 1,x.Ao.drop 1⟩
def Acd {x:Aj} (h:Ka x.Ao 0=false):P7 x=x/\Sb x=[]:=by unfold P7 Sb;rw [Bgj h];exact ⟨rfl,rfl⟩
def Amb {x:Aj} (h:Ka x.Ao 0=true):P7 x=P7 (Z4 x)/\Sb x=Gt x.Ao::Sb (Z4 x):=by unfold P7 Sb;rw [Bdz h];exact ⟨rfl,rfl⟩
def Td {l:List Ig} (h:∀s∈l,s.Dk.size<=8):(Gt l).size<=9:=by
 cases l with
 | nil=>decide
 | cons s r =>
  have:=h s FA;unfold Gt;dsimp only
  split
  ·unfold Ahv;rw [aN];show 1+s.Dk.size<=9;omega
  ·decide
def Aul (y:Aj):Jb y y.next=Ka y.Ao 0:=by
 unfold Jb gp;rw [Int.sub_self];rfl
def Us (s:au) (h:s.size<=maxLen) (w:World):Cw A9 w [af s] [s] []:=⟨_,[],[],[],FA,FA,⟨rfl,h,rfl⟩,rfl,rfl⟩
structure Ac3 where
 es:ai
 y:Aj
 a:aj
 c:Nat
 F:aq
 ae:aj
 ce:Nat
 Fe:aq
structure Bey (x:Aj) (s:Ac3):Prop where
 n0:0<=s.y.next
 n1:s.y.next<=65535
 it:∀z∈s.y.Ao,z.Dk.size<=8
 ln:s.es.length+s.y.Ao.length<=x.Ao.length
 w:P7 x=P7 s.y
 e:Sb x=s.es++Sb s.y
def Aeh (x:Aj) (g t o:Nat) (A B:am) (a:aj) (cc:Nat) (F:aq) (h0:0<=x.next) (h1:x.next<=65535) (hl:x.Ao.length<=1000000) (hs:∀s∈x.Ao,s.Dk.size<=8) :
  Fn prog 328 [Gj g o 0] [] [.row g t o A [aa x.next,ab a x.Ao.length cc] B,.ow C0 223 (ab a x.Ao.length cc) x.Ao F] (fun (s:Ac3)=>s.y=P7 x/\s.es=Sb x)
   (fun s=>ab s.ae s.es.length s.ce) (fun s=>[.row g t o A [aa s.y.next,ab s.a s.y.Ao.length s.c] B,.ow C0 223 (ab s.a s.y.Ao.length s.c) s.y.Ao s.F,.ow A9 9 (ab s.ae s.es.length s.ce) s.es s.Fe]):=by
 refine enter func328 rfl ntmps328 fun w0=>?_;refine go ?_;refine Bt A9 9 ?_;refine Ca [0,2] (fun s:Ac3=>[(3,ab s.ae s.es.length s.ce)]) (fun s=>[.row g t o A [aa s.y.next,ab s.a s.y.Ao.length s.c] B,.ow C0 223 (ab s.a s.y.Ao.length s.c) s.y.Ao s.F,.ow A9 9 (ab s.ae s.es.length s.ce) s.es s.Fe]) (Bey x) (fun s=>s.y.Ao.length) ⟨[],x,a,cc,F,none,0,[]⟩ ⟨h0,h1,hs,FA,rfl,rfl⟩ fun s hC=>?_;obtain ⟨n0,n1,hit,hln,hw,he⟩:=hC;refine go ?_;refine Ar [0] [] ?_;refine C4 0 1 2 3 ?_;refine Dh 4 5 ?_;refine dt 6 ?_;refine dN 7 ?_;refine oC ?_;refine cb (fun w st=>by
  obtain ⟨F',h⟩:=Bgf (st.get (p:=.ow C0 223 (ab s.a s.y.Ao.length s.c) s.y.Ao s.F) FA);exact (Abm s.y s.y.next _ F' n0 n1 n0 n1).val w (I6 h)) ?_
 refine dk ?_;refine dd ?_;rw [Aul];cases hv:Ka s.y.Ao 0
 ·refine go ?_;refine ret s ⟨by rw [hw,(Acd hv).1],by rw [he,(Acd hv).2,bc]⟩ rfl
 refine go ?_;refine cf (Aje s.y g t o A B s.a s.c s.F n0 n1 EY hit) fun z _=>?_;obtain ⟨az,cz,Fz⟩:=z;refine Pp ?_;have hsz:=Td hit;have hmx:(Gt s.y.Ao).size<=maxLen:=FE
 have hlt:0 < s.y.Ao.length:=by
  rcases co s.y.Ao.length with h|h
  ·rw [Rx EY] at hv;cases hv
  ·exact h
 have hll:s.es.length+1<=1000000:=EY
 refine go ?_;intros;apply wO;refine N9 (Us _ hmx) D7 fun a' c' F'=>?_;refine go ?_;refine Ce ⟨s.es++[Gt s.y.Ao],Z4 s.y,az,cz,Fz,a',c',F'⟩ ⟨(Jk _ _).1,(Jk _ _).2,fun z hz=>hit z (br hz),HV,by rw [hw,(Amb hv).1],by rw [he,(Amb hv).2];simp⟩ HV
def zsl:Ig:=⟨false,⟨#[]⟩⟩
def Mw (x:Aj) (j:Nat):List Ig:=x.Ao++List.replicate j zsl
def Pk (x:Aj) (j:Nat):(Mw x j).length=x.Ao.length+j:=by simp [Mw]
def Mp (x:Aj) (k:Nat) (s:Ig):List Ig:=(Mw x (k+1 - x.Ao.length)).set k s
def Hg (x:Aj) (n:Int):Bool:=Ug n x.next || Jb x n
def Nx (x:Aj) (n:Int):Bool:=Hg x n || decide (gp x.next n < 8)
def Z3 (x:Aj) (n:Int) (s:au):Aj:=⟨x.next,Mp x (gp x.next n).toNat ⟨true,s⟩⟩
def Mm (x:Aj) (n:Int) (s:au):Aj:=if Hg x n || !decide (gp x.next n < 8) then x else P7 (Z3 x n s)
def L9 (x:Aj) (n:Int) (s:au):ai:=if Hg x n || !decide (gp x.next n < 8) then [] else Sb (Z3 x n s)
def Ez (a b:Int):Nat:=if Ug a b then (gp a b).toNat else 0
def Jd:Nat->Aj->Aj
 | 0,y=>y
 | k+1,y=>Jd k (Z4 y)
def O1:Nat->Aj->ai
 | 0,_=>[]
 | k+1,y=>Gt y.Ao::O1 k (Z4 y)
def Ak5 {a b:Int} (h:Ug a b=false):Ez a b=0:=by unfold Ez;rw [h];rfl
def Aii {a b:Int} (h:Ug a b=true):Ez a b=Ez (Cf a 1) b+1:=by
 unfold Ez;rw [h];unfold Ug Ff gp Cf at *;simp only [aw,aF,if_true] at h ⊢
 split <;> omega
def Ak4 (a b:Int):Ez a b<=32767:=by
 unfold Ez
 split
 ·rename_i h;unfold Ug Ff at h;simp only [aw,aF] at h;omega
 ·omega
def Ah1 (s:Ig) (h:s.Dk.size<=maxLen) (w:World):Cw C0 w [.bool s.Uz,af s.Dk] [s] []:=⟨_,[],[],[],FA,FA,⟨rfl,h,rfl⟩,rfl,rfl⟩
def Aa9 {x:Aj} {k:Nat} (hs:∀s∈x.Ao,s.Dk.size<=8) {s:Ig} (hi:s.Dk.size<=8):∀z∈Mp x k s,z.Dk.size<=8:=fun z hz=>by
 unfold Mp at hz;rcases bC hz with h|rfl
 ·unfold Mw at h;rcases aJ.1 h with h|h
  ·exact hs z h
  ·rw [(fv.1 h).2];decide
 ·exact hi
structure Bfl where
 j:Nat
 a:aj
 c:Nat
 F:aq
def Axc (x:Aj) (n:Int) (Dk:au) (g t o:Nat) (A B:am) (a:aj) (cc:Nat) (F:aq) (h0:0<=x.next) (h1:x.next<=65535) (h2:0<=n) (h3:n<=65535) (hl:x.Ao.length<=8) (hs:∀s∈x.Ao,s.Dk.size<=8) (hi:Dk.size<=8) :
  Fn prog 362 [Gj g o 0,aa n,af Dk] [] [.row g t o A [aa x.next,ab a x.Ao.length cc] B,.ow C0 223 (ab a x.Ao.length cc) x.Ao F] (fun (s:Ac3)=>s.y=Mm x n Dk/\s.es=L9 x n Dk)
   (fun s=>.tuple #[ab s.ae s.es.length s.ce,.bool (Nx x n)]) (fun s=>[.row g t o A [aa s.y.next,ab s.a s.y.Ao.length s.c] B,.ow C0 223 (ab s.a s.y.Ao.length s.c) s.y.Ao s.F,.ow A9 9 (ab s.ae s.es.length s.ce) s.es s.Fe]):=by
 have hg:=Lt x.next n
 refine enter func362 rfl ntmps362 fun w0=>?_;refine go ?_;refine ce (fun w s=>Od _ _ _ EY EY EY EY) ?_;cases g1:Ug n x.next
 rotate_left
 ·refine go ?_;refine Bt A9 9 ?_;refine ret ⟨[],x,a,cc,F,none,0,[]⟩ ⟨by simp [Mm,Hg,g1],by simp [L9,Hg,g1]⟩ ?_;simp [Nx,Hg,g1,Uh]
 refine go ?_;refine cb (fun w st=>by
  obtain ⟨F',h⟩:=Bgf (st.get (p:=.ow C0 223 (ab a x.Ao.length cc) x.Ao F) FA);exact (Abm x n _ F' h0 h1 h2 h3).val w (I6 h)) ?_
 cases g2:Jb x n
 rotate_left
 ·refine go ?_;refine Bt A9 9 ?_;refine ret ⟨[],x,a,cc,F,none,0,[]⟩ ⟨by simp [Mm,Hg,g1,g2],by simp [L9,Hg,g1,g2]⟩ ?_;simp [Nx,Hg,g1,g2,Uh]
 refine go ?_;refine ce (fun w s=>P3 _ _ _ EY EY EY EY) ?_;refine go ?_;refine Ay rfl (fun h8=>?_) (fun h8=>?_)
 ·refine go ?_;refine Bt A9 9 ?_;have h9:¬gp x.next n < 8:=EY
  refine ret ⟨[],x,a,cc,F,none,0,[]⟩ ⟨by simp [Mm,h9],by simp [L9,h9]⟩ ?_;simp [Nx,Hg,g1,g2,h9,Uh]
 have hW:Mm x n Dk=P7 (Z3 x n Dk):=by unfold Mm Hg;rw [g1,g2,av EY];rfl
 have hE:L9 x n Dk=Sb (Z3 x n Dk):=by unfold L9 Hg;rw [g1,g2,av EY];rfl
 have hO:Nx x n=true:=by unfold Nx;rw [av (show gp x.next n < 8 by omega)];simp
 unfold Z3 at hW hE;obtain ⟨k,hk⟩:∃k:Nat,gp x.next n=k:=⟨(gp x.next n).toNat,EY⟩
 rw [hk] at hW hE ⊢;rw [ba] at hW hE;refine go ?_;refine Ca [0,2,6,7,8] (fun s:Bfl=>[]) (fun s=>[.row g t o A [aa x.next,.slice s.a (Mw x s.j).length s.c] B,.ow C0 223 (.slice s.a (Mw x s.j).length s.c) (Mw x s.j) s.F]) (fun s=>s.j<=k+1 - x.Ao.length) (fun s=>k+1 - x.Ao.length - s.j) ⟨0,a,cc,F⟩ (aD _) (fun s hj=>?_) (hH:=KS);have hpl:=Pk x s.j;refine go ?_;refine Ay rfl (fun h9=>?_) (fun h9=>?_)
 ·refine go ?_;intros;apply wO;refine N9 (Ah1 zsl EZ) Ja fun a' c' F'=>?_;refine go ?_;have e:Mw x s.j++[zsl]=Mw x (s.j+1):=by simp [Mw,eS]
  exact CZ
 have hjk:s.j=k+1 - x.Ao.length:=EY
 refine go ?_;have hkl:k < (Mw x s.j).length:=EY
 refine Alx k ?_;rintro hi2 g2 A2 B2 e eF hs2 hh;rw [e];refine Hy ?_;intros;refine P8 (⟨true,Dk⟩:Ig) hh (fun w=>⟨rfl,JM,rfl⟩) ?_;have hsl:(Mw x s.j).length=((Mw x s.j).set k ⟨true,Dk⟩).length:=by rw [bG]
 rw [hsl];have hpu:(Mw x s.j).set k ⟨true,Dk⟩=Mp x k ⟨true,Dk⟩:=by unfold Mp;rw [hjk]
 rw [hpu];have hpl2:(Mp x k ⟨true,Dk⟩).length<=1000:=by unfold Mp;rw [bG,Pk];omega
 have hps:=Aa9 (x:=x) (k:=k) hs (s:=⟨true,Dk⟩) hi;refine go ?_;refine Be (Aeh ⟨x.next,Mp x k ⟨true,Dk⟩⟩ g t o A B _ _ _ h0 h1 (by show (Mp x k ⟨true,Dk⟩).length<=_;omega) hps) fun z hz=>?_;refine go ?_;refine ret z ⟨by rw [hz.1,hW],by rw [hz.2,hE]⟩ ?_;rw [hO];rfl
structure Aw2 (x:Aj) (n:Int) (s:Ac3):Prop where
 n0:0<=s.y.next
 n1:s.y.next<=65535
 it:∀z∈s.y.Ao,z.Dk.size<=8
 ln:s.y.Ao.length<=x.Ao.length
 le:s.es.length+Ez s.y.next n<=Ez x.next n
 w:Jd (Ez x.next n) x=Jd (Ez s.y.next n) s.y
 e:O1 (Ez x.next n) x=s.es++O1 (Ez s.y.next n) s.y
def Ao7 (x:Aj):(Sb x).length<=x.Ao.length:=by
 unfold Sb;have:∀(l:List Ig) n,(rel n l).2.2.length<=l.length:=by
  intro l
  induction l with
  | nil=>intro n;simp [rel]
  | cons s r ih=>intro n;unfold rel;split;simp;exact ih _;simp
 exact this _ _
def Am6 (x:Aj) (n:Int) (g t o:Nat) (A B:am) (a:aj) (cc:Nat) (F:aq) (h0:0<=x.next) (h1:x.next<=65535) (h2:0<=n) (h3:n<=65535) (hl:x.Ao.length<=8) (hs:∀s∈x.Ao,s.Dk.size<=8) :
  Fn prog 286 [Gj g o 0,aa n] [] [.row g t o A [aa x.next,ab a x.Ao.length cc] B,.ow C0 223 (ab a x.Ao.length cc) x.Ao F] (fun (s:Ac3)=>s.y=P7 (Jd (Ez x.next n) x)/\s.es=O1 (Ez x.next n) x++Sb (Jd (Ez x.next n) x))
   (fun s=>ab s.ae s.es.length s.ce) (fun s=>[.row g t o A [aa s.y.next,ab s.a s.y.Ao.length s.c] B,.ow C0 223 (ab s.a s.y.Ao.length s.c) s.y.Ao s.F,.ow A9 9 (ab s.ae s.es.length s.ce) s.es s.Fe]):=by
 have hgn:=Ak4 x.next n
 refine enter func286 rfl ntmps286 fun w0=>?_;refine go ?_;refine Bt A9 9 ?_;refine Ca [0,1,4] (fun s:Ac3=>[(5,ab s.ae s.es.length s.ce)]) (fun s=>[.row g t o A [aa s.y.next,ab s.a s.y.Ao.length s.c] B,.ow C0 223 (ab s.a s.y.Ao.length s.c) s.y.Ao s.F,.ow A9 9 (ab s.ae s.es.length s.ce) s.es s.Fe]) (Aw2 x n) (fun s=>Ez s.y.next n) ⟨[],x,a,cc,F,none,0,[]⟩ ⟨h0,h1,hs,aK _,FA,rfl,rfl⟩ fun s hC=>?_;obtain ⟨n0,n1,hit,hln,hle,hw,he⟩:=hC;refine go ?_;refine ce (fun w s=>Od _ _ _ EY EY EY EY) ?_;cases hb:Ug s.y.next n
 ·refine go ?_;rw [Ak5 hb] at hw he;refine Be (Aeh s.y g t o A B s.a s.c s.F n0 n1 EY hit) fun z hz=>?_;refine go ?_;have hr:=Ao7 s.y;have hzl:z.es.length<=s.y.Ao.length:=by rw [hz.2];exact hr
  refine Av (xs:=z.es) fun F'=>?_;apply wO;refine N5 D7 Ie fun a' c' F2=>?_;exact EH
 have hst:=Aii hb;refine go ?_;refine cf (Aje s.y g t o A B s.a s.c s.F n0 n1 EY hit) fun z _=>?_;obtain ⟨az,cz,Fz⟩:=z;refine Pp ?_;have hsz:=Td hit;have hmx:(Gt s.y.Ao).size<=maxLen:=FE
 refine go ?_;intros;apply wO;refine N9 (Us _ hmx) D7 fun a' c' F'=>?_;refine go ?_;refine Ce ⟨s.es++[Gt s.y.Ao],Z4 s.y,az,cz,Fz,a',c',F'⟩ ⟨(Jk _ _).1,(Jk _ _).2,fun z hz=>hit z (br hz),HV,HV,by rw [hw,hst];rfl,by rw [he,hst];simp [O1,Z4]⟩ (by show Ez (Cf s.y.next 1) n < _;omega)
def zRW:Aj:=⟨0,[]⟩
def Wx (x:Aj) (n:Int) (s:au):Bool:=Cz x && Cd n && P9 s && Nx x n
def Kb (x:Aj) (n:Int) (s:au):Aj × ai × Bool:=if Wx x n s then (Mm x n s,L9 x n s,true) else (zRW,[],false)
def Aot {s:Ig} (h:Hq s=true):s.Dk.size<=8:=by
 unfold Hq P9 at h;simp only [aw,aF] at h;omega
structure Bfj (x:Aj):Prop where
 n0:0<=x.next
 n1:x.next<=65535
 l:x.Ao.length<=8
 it:∀s∈x.Ao,s.Dk.size<=8
def Sz {x:Aj} (h:Cz x=true):Bfj x:=by
 unfold Cz at h;simp only [aw,aF] at h;have hs:=Ba.1 h.1.1.1;exact ⟨hs.1,hs.2,EY,fun s hs=>Aot (aW.1 h.1.2 s hs)⟩
def Vn {s:au} (h:P9 s=true):s.size<=8:=by unfold P9 at h;simp only [aw,aF] at h;omega
structure CpS where
 g:Nat
 a:aj
 c:Nat
 F:aq
def Wp (x:Aj) (v:Value) (F:aq) (h0:0<=x.next) (h1:x.next<=65535) (hl:x.Ao.length<=1000000) (hs:∀s∈x.Ao,s.Dk.size<=8) :
  Fn prog 348 [v] [.isv Bx v x F] [] (fun (s:Ac3)=>s.y=P7 x/\s.es=Sb x)
   (fun s=>.tuple #[.agg #[aa s.y.next,ab s.a s.y.Ao.length s.c],ab s.ae s.es.length s.ce]) (fun s=>[.isv Bx (.agg #[aa s.y.next,ab s.a s.y.Ao.length s.c]) s.y s.F,.ow A9 9 (ab s.ae s.es.length s.ce) s.es s.Fe]):=by
 refine enter func348 rfl ntmps348 fun w0=>?_;refine Cq ?_;rintro a1 c1 F1 rfl l1;unfold maxLen at l1;refine go ?_;intros;refine Dv [2,3] [0] (fun s:CpS=>[(4,Gj s.g 0 0)]) (fun s=>[.row s.g 115 0 [] [aa x.next,ab s.a x.Ao.length s.c] [],.ow C0 223 (ab s.a x.Ao.length s.c) x.Ao s.F]) (fun _=>True) ?_ fun s _=>?_
 ·refine Ar [0,1] [8] ?_;refine C4 0 1 3 4 ?_;refine dM 2 7 ?_ ?_
  ·apply Kt;rfl;intro _;refine C3 C0 ?_;refine dk ?_;refine dM 5 7 ?_ ?_
   ·exact AY
   ·apply Cn;rfl;intro _;exact AG
  ·exact DA
 obtain ⟨gg,a2,c2,F2⟩:=s;refine Av (xs:=x.Ao) fun F3=>?_;refine go ?_;intros;refine C3 A9 ?_;refine Ca [2,3,4] (fun s:Ac3=>[(5,ab s.ae s.es.length s.ce)]) (fun s=>[.row gg 115 0 [] [aa s.y.next,ab s.a s.y.Ao.length s.c] [],.sl C0 (ab s.a s.y.Ao.length s.c) s.y.Ao s.F,.ow A9 9 (ab s.ae s.es.length s.ce) s.es s.Fe]) (Bey x) (fun s=>s.y.Ao.length) ⟨[],x,a2,c2,F3,_,0,_⟩ ⟨h0,h1,hs,FA,rfl,rfl⟩ fun s hC=>?_;obtain ⟨n0,n1,hit,hln,hw,he⟩:=hC;have stop:Ka s.y.Ao 0=false->s.y=P7 x/\s.es=Sb x:=fun h=>⟨by rw [hw,(Acd h).1],by rw [he,(Acd h).2,bc]⟩;refine go ?_
 refine Dd rfl rfl (fun h4=>?_) (fun h4=>?_)
 rotate_left
 ·refine go ?_;have hv:Ka s.y.Ao 0=false:=Rx EY;refine Ch s.y ?_;refine ret s (stop hv) rfl
 refine O9 0 ?_;rintro hi b o e s1;rw [e];refine go ?_;cases g1:s.y.Ao[0].Uz
 ·refine go ?_;rw [<-e];refine Ch s.y ?_;refine ret s (stop (by rw [Lu hi,g1])) rfl
 have hv:Ka s.y.Ao 0=true:=by rw [Lu hi,g1]
 have hz:=hit _ (aB hi);have h43:(⟨#[43]⟩:au).size=1:=rfl;have hpl:(⟨#[43]⟩++s.y.Ao[0].Dk:au)=Gt s.y.Ao:=(Ad6 hi g1).symm;have hmx:(Gt s.y.Ao).size<=maxLen:=by have:=Td hit;unfold maxLen;omega
 have hll:s.es.length+1<=1000000:=EY
 refine go ?_;intros;rw [hpl];apply wO;refine N9 (Us _ hmx) D7 fun a' c' F'=>?_;refine go ?_;refine Ar [1,2] [7] ?_;refine C4 0 1 3 4 ?_;refine Aqk 5 1 fun a5 c5 F5=>?_;refine dN 2 ?_;refine oC ?_;refine ce (fun w s=>Id _ _ _ EY EY) ?_;refine dk ?_;refine dt 6 ?_;refine dN 7 ?_;refine oS ?_;refine Nm ?_;refine dd ?_;refine go ?_;refine Ce ⟨s.es++[Gt s.y.Ao],Z4 s.y,a5,c5,F5,a',c',F'⟩ ⟨(Jk _ _).1,(Jk _ _).2,fun z hz=>hit z (br hz),HV,by rw [hw,(Amb hv).1],by rw [he,(Amb hv).2];simp⟩ HV
def Aqx (x:Aj) (n:Int) (v:Value) (F:aq) (h0:0<=x.next) (h1:x.next<=65535) (h2:0<=n) (h3:n<=65535) (hl:x.Ao.length<=8) :
  FV 350 [v,aa n] [.isv Bx v x F] (.bool (Nx x n)):=by
 have hg:=Lt x.next n
 have hh:¬gp x.next n < 8->Jb x n=false:=fun h=>Rx EY
 refine enter func350 rfl ntmps350 fun w0=>?_;refine Cq ?_;rintro a1 c1 F1 rfl l1;refine go ?_;intros;refine ce (fun w s=>Q6 _ _ _ EY EY) ?_;cases g1:Ug n x.next
 ·refine go ?_;refine ce (fun w s=>Jw _ _ _ EY EY) ?_;refine go ?_;refine ret () trivial ?_;unfold Nx Hg;rw [g1];by_cases h8:gp x.next n < 8
  ·simp [h8,Uh]
  ·simp [h8,hh h8,Uh]
 ·refine go ?_;refine ret () trivial ?_;simp [Nx,Hg,g1,Uh]
def Auu (x:Aj) (n:Int) (Dk:au) (v:Value) (F:aq) (h0:0<=x.next) (h1:x.next<=65535) (h2:0<=n) (h3:n<=65535) (hl:x.Ao.length<=8) (hs:∀s∈x.Ao,s.Dk.size<=8) (hi:Dk.size<=8) (hok:Nx x n=true) :
  Fn prog 351 [v,aa n,af Dk] [.isv Bx v x F] [] (fun (s:Ac3)=>s.y=Mm x n Dk/\s.es=L9 x n Dk)
   (fun s=>.tuple #[.agg #[aa s.y.next,ab s.a s.y.Ao.length s.c],ab s.ae s.es.length s.ce]) (fun s=>[.isv Bx (.agg #[aa s.y.next,ab s.a s.y.Ao.length s.c]) s.y s.F,.ow A9 9 (ab s.ae s.es.length s.ce) s.es s.Fe]):=by
 have hg:=Lt x.next n
 refine enter func351 rfl ntmps351 fun w0=>?_;refine Cq ?_;rintro a1 c1 F1 rfl l1;refine go ?_;intros;refine ce (fun w s=>Jw _ _ _ EY EY) ?_;obtain ⟨k,hk⟩:∃k:Nat,gp x.next n=k:=⟨(gp x.next n).toNat,EY⟩
 rw [hk];refine go ?_;refine Dv [1,2,3,6,7,8] [0,1,2] (fun s:CpS=>[(9,Gj s.g 0 0)]) (fun s=>[.row s.g 115 0 [] [aa x.next,ab s.a x.Ao.length s.c] [],.ow C0 223 (ab s.a x.Ao.length s.c) x.Ao s.F]) (fun _=>True) ?_ fun s _=>?_
 ·refine Ar [0,1] [8] ?_;refine C4 0 1 3 4 ?_;refine dM 2 7 ?_ ?_
  ·apply Kt;rfl;intro _;refine C3 C0 ?_;refine dk ?_;refine dM 5 7 ?_ ?_
   ·exact AY
   ·apply Cn;rfl;intro _;exact AG
  ·exact DA
 obtain ⟨gg,a2,c2,F2⟩:=s;refine go ?_;refine ce (fun w s=>Q6 _ _ _ EY EY) ?_;cases g1:Ug n x.next
 rotate_left
 ·refine go ?_;intros;refine C3 A9 ?_;refine Av (xs:=x.Ao) fun F3=>?_;refine Ch x ?_;refine ret ⟨[],x,a2,c2,F3,_,0,_⟩ ⟨by simp [Mm,Hg,g1],by simp [L9,Hg,g1]⟩ rfl
 refine go ?_;refine Dd rfl rfl (fun h4=>?_) (fun h4=>?_)
 ·refine O9 k ?_;rintro hi2 b2 o2 e s1;cases e;refine go ?_;cases g4:x.Ao[k].Uz
  rotate_left
  ·have hb:Jb x n=true:=by unfold Jb;rw [hk,ba,Lu hi2];exact g4
   refine go ?_;intros;refine C3 A9 ?_;refine Av (xs:=x.Ao) fun F3=>?_;refine Ch x ?_;refine ret ⟨[],x,a2,c2,F3,_,0,_⟩ ⟨by simp [Mm,Hg,hb],by simp [L9,Hg,hb]⟩ rfl
  have hpad:Jb x n=false:=by unfold Jb;rw [hk,ba,Lu hi2];exact g4
  have hno:Hg x n=false:=by unfold Hg;rw [g1,hpad];rfl
  have h8:gp x.next n < 8:=by unfold Nx at hok;rw [hno] at hok;simpa using hok
  have hW:Mm x n Dk=P7 (Z3 x n Dk):=by unfold Mm;rw [hno,av h8];rfl
  have hE:L9 x n Dk=Sb (Z3 x n Dk):=by unfold L9;rw [hno,av h8];rfl
  unfold Z3 at hW hE;rw [hk,ba] at hW hE;refine go ?_;refine Ca [2,6,7,8,9] (fun s:Bfl=>[]) (fun s=>[.row gg 115 0 [] [aa x.next,.slice s.a (Mw x s.j).length s.c] [],.ow C0 223 (.slice s.a (Mw x s.j).length s.c) (Mw x s.j) s.F]) (fun s=>s.j<=k+1 - x.Ao.length) (fun s=>k+1 - x.Ao.length - s.j) ⟨0,a2,c2,F2⟩ (aD _) (fun s hj=>?_) (hH:=KS);have hpl:=Pk x s.j;refine go ?_;refine Ay rfl (fun h9=>?_) (fun h9=>?_)
  ·refine go ?_;intros;apply wO;refine N9 (Ah1 zsl EZ) Ja fun a' c' F'=>?_;refine go ?_;have e:Mw x s.j++[zsl]=Mw x (s.j+1):=by simp [Mw,eS]
   exact CZ
  have hjk:s.j=k+1 - x.Ao.length:=EY
  refine go ?_;have hkl:k < (Mw x s.j).length:=EY
  refine Alx k ?_;rintro hi2 g2 A2 B2 e eF hs2 hh;rw [e];refine Hy ?_;intros;refine P8 (⟨true,Dk⟩:Ig) hh (fun w=>⟨rfl,JM,rfl⟩) ?_;have hsl:(Mw x s.j).length=((Mw x s.j).set k ⟨true,Dk⟩).length:=by rw [bG]
  rw [hsl];have hpu:(Mw x s.j).set k ⟨true,Dk⟩=Mp x k ⟨true,Dk⟩:=by unfold Mp;rw [hjk]
  rw [hpu];have hpl2:(Mp x k ⟨true,Dk⟩).length<=1000:=by unfold Mp;rw [bG,Pk];omega
  exact BF
 ·have hpad:Jb x n=false:=Rx EY;have hno:Hg x n=false:=by unfold Hg;rw [g1,hpad];rfl
  have h8:gp x.next n < 8:=by unfold Nx at hok;rw [hno] at hok;simpa using hok
  have hW:Mm x n Dk=P7 (Z3 x n Dk):=by unfold Mm;rw [hno,av h8];rfl
  have hE:L9 x n Dk=Sb (Z3 x n Dk):=by unfold L9;rw [hno,av h8];rfl
  unfold Z3 at hW hE;rw [hk,ba] at hW hE;refine go ?_;refine Ca [2,6,7,8,9] (fun s:Bfl=>[]) (fun s=>[.row gg 115 0 [] [aa x.next,.slice s.a (Mw x s.j).length s.c] [],.ow C0 223 (.slice s.a (Mw x s.j).length s.c) (Mw x s.j) s.F]) (fun s=>s.j<=k+1 - x.Ao.length) (fun s=>k+1 - x.Ao.length - s.j) ⟨0,a2,c2,F2⟩ (aD _) (fun s hj=>?_) (hH:=KS);have hpl:=Pk x s.j;refine go ?_;refine Ay rfl (fun h9=>?_) (fun h9=>?_)
  ·refine go ?_;intros;apply wO;refine N9 (Ah1 zsl EZ) Ja fun a' c' F'=>?_;refine go ?_;have e:Mw x s.j++[zsl]=Mw x (s.j+1):=by simp [Mw,eS]
   exact CZ
  have hjk:s.j=k+1 - x.Ao.length:=EY
  refine go ?_;have hkl:k < (Mw x s.j).length:=EY
  refine Alx k ?_;rintro hi2 g2 A2 B2 e eF hs2 hh;rw [e];refine Hy ?_;intros;refine P8 (⟨true,Dk⟩:Ig) hh (fun w=>⟨rfl,JM,rfl⟩) ?_;have hsl:(Mw x s.j).length=((Mw x s.j).set k ⟨true,Dk⟩).length:=by rw [bG]
  rw [hsl];have hpu:(Mw x s.j).set k ⟨true,Dk⟩=Mp x k ⟨true,Dk⟩:=by unfold Mp;rw [hjk]
  rw [hpu];have hpl2:(Mp x k ⟨true,Dk⟩).length<=1000:=by unfold Mp;rw [bG,Pk];omega
  exact BF
def Uq (x:Aj) (n:Int) (v:Value) (F:aq) (h0:0<=x.next) (h1:x.next<=65535) (h2:0<=n) (h3:n<=65535) (hl:x.Ao.length<=8) (hs:∀s∈x.Ao,s.Dk.size<=8) :
  Fn prog 302 [v,aa n] [.isv Bx v x F] [] (fun (s:Ac3)=>s.y=P7 (Jd (Ez x.next n) x)/\s.es=O1 (Ez x.next n) x++Sb (Jd (Ez x.next n) x))
   (fun s=>.tuple #[.agg #[aa s.y.next,ab s.a s.y.Ao.length s.c],ab s.ae s.es.length s.ce]) (fun s=>[.isv Bx (.agg #[aa s.y.next,ab s.a s.y.Ao.length s.c]) s.y s.F,.ow A9 9 (ab s.ae s.es.length s.ce) s.es s.Fe]):=by
 have hgn:=Ak4 x.next n
 refine enter func302 rfl ntmps302 fun w0=>?_;refine Cq ?_;rintro a1 c1 F1 rfl l1;refine go ?_;intros;refine Dv [1,4,5] [0] (fun s:CpS=>[(6,Gj s.g 0 0)]) (fun s=>[.row s.g 115 0 [] [aa x.next,ab s.a x.Ao.length s.c] [],.ow C0 223 (ab s.a x.Ao.length s.c) x.Ao s.F]) (fun _=>True) ?_ fun s _=>?_
 ·refine Ar [0,1] [8] ?_;refine C4 0 1 3 4 ?_;refine dM 2 7 ?_ ?_
  ·apply Kt;rfl;intro _;refine C3 C0 ?_;refine dk ?_;refine dM 5 7 ?_ ?_
   ·exact AY
   ·apply Cn;rfl;intro _;exact AG
  ·exact DA
 obtain ⟨gg,a2,c2,F2⟩:=s;refine Av (xs:=x.Ao) fun F3=>?_;refine go ?_;intros;refine C3 A9 ?_;refine Ca [1,4,5,6] (fun s:Ac3=>[(7,ab s.ae s.es.length s.ce)]) (fun s=>[.row gg 115 0 [] [aa s.y.next,ab s.a s.y.Ao.length s.c] [],.sl C0 (ab s.a s.y.Ao.length s.c) s.y.Ao s.F,.ow A9 9 (ab s.ae s.es.length s.ce) s.es s.Fe]) (Aw2 x n) (fun s=>Ez s.y.next n) ⟨[],x,a2,c2,F3,_,0,_⟩ ⟨h0,h1,hs,aK _,FA,rfl,rfl⟩ fun s hC=>?_;obtain ⟨n0,n1,hit,hln,hle,hw,he⟩:=hC;refine go ?_;refine ce (fun w s=>Q6 _ _ _ EY EY) ?_;cases hb:Ug s.y.next n
 ·refine Hy ?_;intros;refine Ch s.y ?_;refine go ?_;rw [Ak5 hb] at hw he;refine Be (Wp s.y _ _ n0 n1 EY hit) fun z hz=>?_;refine go ?_;intros;have hr:=Ao7 s.y;have hzl:z.es.length<=s.y.Ao.length:=by rw [hz.2];exact hr
  refine Av (xs:=z.es) fun F'=>?_;refine Ar [1] [] ?_;refine Dh 0 1 ?_;refine dt 2 ?_;refine dN 3 ?_;refine N5 D7 Ie fun a' c' F2=>?_;refine dk ?_;refine dN 4 ?_;refine oS ?_;refine dk ?_;refine dt 5 ?_;refine dd ?_;exact EH
 have hst:=Aii hb;have hmx:(Gt s.y.Ao).size<=maxLen:=by have:=Td hit;unfold maxLen;omega
 refine go ?_;intros;refine C3 C0 ?_;refine Ay rfl (fun h4=>?_) (fun h4=>?_)
 ·refine O9 0 ?_;rintro hi b o e s1;rw [e];refine go ?_;cases g1:s.y.Ao[0].Uz
  ·have hpl1:(⟨#[45]⟩:au)=Gt s.y.Ao:=(Ak0 hi g1).symm;refine go ?_;apply wO;refine sld 1 fun a5 c5 F5=>?_;refine go ?_;intros;rw [hpl1];apply wO;refine N9 (Us _ hmx) D7 fun a' c' F'=>?_;refine go ?_;refine ce (fun w s=>Id _ _ _ EY EY) ?_;refine go ?_;exact CD
  ·have hz:=hit _ (aB hi);have h43:(⟨#[43]⟩:au).size=1:=rfl;have hpl2:(⟨#[43]⟩++s.y.Ao[0].Dk:au)=Gt s.y.Ao:=(Ad6 hi g1).symm;refine go ?_;apply wO;refine sld 1 fun a5 c5 F5=>?_;refine go ?_;intros;rw [hpl2];apply wO;refine N9 (Us _ hmx) D7 fun a' c' F'=>?_;refine go ?_;refine ce (fun w s=>Id _ _ _ EY EY) ?_;refine go ?_
   exact CD
 ·have hnil:s.y.Ao=[]:=bD EY;have hpl3:(⟨#[45]⟩:au)=Gt s.y.Ao:=by rw [hnil];rfl
  have hd:([]:List Ig)=s.y.Ao.drop 1:=by rw [hnil];rfl
  ·refine go ?_;intros;refine Av (E:=C0) (xs:=[]) fun F6=>?_;rw [show (ab (some _) 0 0:Value)=Value.slice _ ([]:List Ig).length 0 from rfl];rw [hpl3];apply wO;refine N9 (Us _ hmx) D7 fun a' c' F'=>?_;refine go ?_;refine ce (fun w s=>Id _ _ _ EY EY) ?_;refine go ?_;rw [hd];refine Ce ⟨s.es++[Gt s.y.Ao],Z4 s.y,_,0,F6,a',c',F'⟩ ⟨(Jk _ _).1,(Jk _ _).2,fun z hz=>hit z (br hz),HV,HV,by rw [hw,hst];rfl,by rw [he,hst];simp [O1,Z4]⟩ (by show Ez (Cf s.y.next 1) n < _;omega)
end Go.Proofs.YtmppejmafbfhlaaGreatDoor
namespace Go.Proofs.YtmppejmafbfhlaaGreatDoor

open Go.RowKit
end Go.Proofs.YtmppejmafbfhlaaGreatDoor
namespace Go.Proofs.YtmppejmafbfhlaaGreatDoor
open Go.RowKit
def Adl (x:Aj) (n:Int) (v:Value) (F:aq) (h0:0<=x.next) (h1:x.next<=65535) (h2:0<=n) (h3:n<=65535) :
  FV 264 [v,aa n] [.isv Bx v x F] (.bool (Hg x n)):=by
 have hg:=Lt x.next n
 refine enter func264 rfl ntmps264 fun w0=>?_;refine Cq ?_;rintro a1 c1 F1 rfl l1;refine go ?_;intros;refine ce (fun w s=>Jw _ _ _ EY EY) ?_;obtain ⟨k,hk⟩:∃k:Nat,gp x.next n=k:=⟨(gp x.next n).toNat,EY⟩
 have hh:Jb x n=Ka x.Ao k:=by unfold Jb;rw [hk,ba]
 rw [hk];refine go ?_;refine ce (fun w s=>Q6 _ _ _ EY EY) ?_;cases g1:Ug n x.next
 ·refine go ?_;refine Dd rfl rfl (fun h4=>?_) (fun h4=>?_)
  ·refine O9 (xs:=x.Ao) k ?_;rintro hi2 b2 o2 e s1;rw [e];refine go ?_;refine ret () trivial ?_;simp [Hg,g1,hh,Lu hi2,Uh]
  ·refine go ?_;refine ret () trivial ?_;simp [Hg,g1,hh,Rx (show x.Ao.length<=k by omega),Uh]
 ·refine go ?_;refine ret () trivial ?_;simp [Hg,g1,Uh]
def Xn (p:As) (hs:p.data.size<=maxLen):FV 247 [.agg #[aa p.Ct,aa p.Ae,aa p.Am,aa p.Es,af p.data]] [] (.bool (Br p)):=by
 refine enter func247 rfl ntmps247 fun w0=>?_;refine go ?_;intros;refine ce (fun w s=>Hw _ _ _ _) ?_;cases g1:Ff 1 p.Ct 5
 ·refine go ?_;refine ret () trivial ?_;show Value.bool _=Value.bool _;congr 1;unfold Br;simp [g1]
 refine go ?_;refine ce (fun w s=>Jj _ _) ?_;cases g2:Cd p.Ae
 ·refine go ?_;refine ret () trivial ?_;show Value.bool _=Value.bool _;congr 1;unfold Br;simp [g2]
 refine go ?_;refine ce (fun w s=>Jj _ _) ?_;cases g3:Cd p.Am
 ·refine go ?_;refine ret () trivial ?_;show Value.bool _=Value.bool _;congr 1;unfold Br;simp [g3]
 refine go ?_;refine ce (fun w s=>Jj _ _) ?_;cases g4:Cd p.Es
 ·refine go ?_;refine ret () trivial ?_;show Value.bool _=Value.bool _;congr 1;unfold Br;simp [g4]
 refine go ?_;refine cb (fun w s=>Ab0 _ _ hs) ?_;cases g5:P9 p.data
 ·refine go ?_;refine ret () trivial ?_;show Value.bool _=Value.bool _;congr 1;unfold Br;simp [g5]
 obtain ⟨t0,t1⟩:=Ba.1 g3;obtain ⟨l0,l1⟩:=Ba.1 g4;refine go ?_;refine ce (fun w s=>P3 _ _ _ EY EY EY EY) ?_;refine go ?_;refine Dd rfl rfl (fun h6=>?_) (fun h6=>?_)
 ·refine go ?_;refine Dd rfl rfl (fun h7=>?_) (fun h7=>?_)
  ·exact ER
  refine go ?_;refine Dd rfl rfl (fun h8=>?_) (fun h8=>?_)
  ·exact EP
  ·exact EG
 ·refine go ?_;refine ret () trivial ?_;show Value.bool _=Value.bool _;congr 1;unfold Br;simp [h6]
def Aoh (p:As) (hs:p.data.size<=maxLen):FV 265 [.agg #[aa p.Ct,aa p.Ae,aa p.Am,aa p.Es,af p.data]] [] (.bool (Br p)):=by
 refine enter func265 rfl ntmps265 fun w0=>?_;refine go ?_;intros;refine ce (fun w s=>Kq _ _ _ _) ?_;cases g1:Ff 1 p.Ct 5
 ·refine go ?_;refine ret () trivial ?_;show Value.bool _=Value.bool _;congr 1;unfold Br;simp [g1]
 refine go ?_;refine ce (fun w s=>Oh _ _) ?_;cases g2:Cd p.Ae
 ·refine go ?_;refine ret () trivial ?_;show Value.bool _=Value.bool _;congr 1;unfold Br;simp [g2]
 refine go ?_;refine ce (fun w s=>Oh _ _) ?_;cases g3:Cd p.Am
 ·refine go ?_;refine ret () trivial ?_;show Value.bool _=Value.bool _;congr 1;unfold Br;simp [g3]
 refine go ?_;refine ce (fun w s=>Oh _ _) ?_;cases g4:Cd p.Es
 ·refine go ?_;refine ret () trivial ?_;show Value.bool _=Value.bool _;congr 1;unfold Br;simp [g4]
 obtain ⟨t0,t1⟩:=Ba.1 g3;obtain ⟨l0,l1⟩:=Ba.1 g4;refine go ?_;refine ce (fun w s=>Jw _ _ _ EY EY) ?_;refine go ?_;refine Dd rfl rfl (fun h6=>?_) (fun h6=>?_)
 ·refine go ?_;refine ret () trivial ?_;have h6:¬gp p.Am p.Es<=32767:=EY
  show Value.bool _=Value.bool _;congr 1;unfold Br;simp [h6]
 have h6:gp p.Am p.Es<=32767:=EY
 refine go ?_;refine ce (fun w s=>Ry _ _ _ hs) ?_;rw [show (decide ((p.data.size:Int)<=8) && U0 p.data.data.toList)=P9 p.data from rfl];cases g5:P9 p.data
 ·refine go ?_;refine ret () trivial ?_;show Value.bool _=Value.bool _;congr 1;unfold Br;simp [g5]
 refine go ?_;refine Dd rfl rfl (fun h7=>?_) (fun h7=>?_)
 ·exact ER
 refine go ?_;refine Dd rfl rfl (fun h8=>?_) (fun h8=>?_)
 ·exact EP
 ·exact EG
end Go.Proofs.YtmppejmafbfhlaaGreatDoor
