/- Part 2 of the proof: 48 texts, one behind the other. -/
import Derived.Test.YtmckdnddocfodaaGreatDoorProg
import Derived.Test.YtmckdnddocfodaaGreatDoorShelf
import Derived.Lib.Overlaps
import Derived.Lib.AppendZerosOnto
import Derived.Laws.IdiomCopy
import Derived.Lib.ItoaNum
import Derived.Lib.Bytealg
import Derived.Test.YtmckdnddocfodaaGreatDoorM1
open _root_.Go.Proofs.Tryz
set_option maxRecDepth 100000
set_option maxHeartbeats 8000000
set_option linter.all false
set_option linter.unusedVariables false
set_option linter.unusedSimpArgs false
namespace Go.Proofs.YtmckdnddocfodaaGreatDoor
theorem AB{p:Prop}(h:p:=by refine go ?_;refine ret () trivial rfl):p:=h
theorem AE{p:Prop}(h:p:=by refine h.h a w (s.add (N:=[_]) (Below.refl _ _) (by intro q hq;simp at hq;subst hq;exact ⟨_,rfl,_,rfl,(s.get m1).2⟩) ⟨by simp,trivial⟩ fun q hq b hb=>?_) g;simp at hq;subst hq;simp only [Pc.F,aG] at hb;exact .inr ⟨rfl,_,m1,rfl,hb⟩):p:=h
theorem AF{p:Prop}(h:p:=by refine dk ?_;refine dN 5 ?_;refine M0 Id Hl fun a2 c2 F2=>?_;refine dk ?_;refine dt 6 ?_;refine dN 8 ?_;refine oS ?_;refine Pg ?_;refine dd ?_;refine Cs (⟨_,a2,c2,F2⟩:CpS) trivial):p:=h
theorem AH{p:Prop}(h:p:=by obtain ⟨cs,rfl,v1,rfl,h1⟩:=s.get hm;obtain ⟨a1,c1,rfl⟩:=h1.slice;have l1:=h1.len;have t1:=s.ro (p:=.sl _ _ _ _) hm rfl rfl ⟨by decide,h1⟩ fun b hb=>hb;exact (h a1 c1 F rfl  l1).h a w t1 g):p:=h
theorem AR{p:Prop}(h:p:=by obtain ⟨cs,rfl,v1,v2,G1,G2,rfl,h1,h2,rfl⟩:=s.get hm;obtain ⟨a1,c1,rfl⟩:=h1.slice;have l1:=h1.len;obtain ⟨a2,c2,rfl⟩:=h2.slice;have l2:=h2.len;have t2:=s.ro (p:=.sl _ _ _ _) hm rfl rfl ⟨by decide,h2⟩ (by intro b hb;simp only [Pc.F] at hb ⊢;simp [hb]);have t1:=t2.ro (p:=.sl _ _ _ _) (aN _ hm) rfl rfl ⟨by decide,h1⟩ (by intro b hb;simp only [Pc.F] at hb ⊢;simp [hb]);exact (h a1 c1 G1 a2 c2 G2 rfl  l1 l2).h a w t1 g):p:=h
theorem AU{p:Prop}(h:p:=by obtain ⟨b,o,cs,G,ha,hrep,hG,hb,hne,hr⟩:=Vm (s.get hm) i hi;obtain ⟨rfl,s1,rfl⟩:=hrep;exact (h hi b o  ha s1 ).h ac w (s.ro hm rfl rfl ⟨hne,hr⟩ (by intro x hx;simp [Pc.F] at hx;subst hx;exact hb)) g):p:=h
theorem AV{p:Prop}(h:p:=by obtain ⟨b,o,cs,G,ha,hrep,hG,hb,hne,hr⟩:=Vm (s.get hm) i hi;obtain ⟨v1,rfl,h1⟩:=hrep;obtain ⟨a1,c1,rfl⟩:=h1.slice;have l1:=h1.len;have t1:=s.ro (p:=.sl _ _ _ _) hm rfl rfl ⟨by decide,h1⟩ (by intro b hb;simp only [Pc.F] at hb ⊢;exact hG b (by simp [hb]));exact (h hi b o a1 c1 G ha  l1).h ac w (t1.ro (aN _ hm) rfl rfl ⟨hne,hr⟩ (by intro x hx;simp [Pc.F] at hx;subst hx;exact hb)) g):p:=h
theorem AW{p:Prop}(h:p:=by refine M0 Id Hl fun a2 c2 F2=>?_;refine dk ?_;refine dt 6 ?_;refine dN 7 ?_;apply Cq;rfl;intro _;refine dk ?_;refine dN 8 ?_;refine oS ?_;refine Pg ?_;refine dd ?_;refine Cs (⟨_,a2,c2,F2⟩:CpS) trivial):p:=h
theorem AX{p:Prop}(h:p:=by have hps:=Xz (x:=x) (k:=k) hs (s:=⟨true,Ea⟩) hi;refine Az (xs:=Kh x k ⟨true,Ea⟩) fun F4=>?_;refine Cr ⟨x.next,Kh x k ⟨true,Ea⟩⟩ ?_;refine go ?_;refine Bw (Uw ⟨x.next,Kh x k ⟨true,Ea⟩⟩ _ _ h0 h1 (by show (Kh x k ⟨true,Ea⟩).length<=_;omega) hps) fun z hz=>?_;refine go ?_;refine ret z ⟨by rw [hz.1,hW],by rw [hz.2,hE]⟩ rfl):p:=h
theorem BN{p:Prop}(h:p:=by refine go ?_;refine ret () trivial ?_;rw [bad (by rw [hck,au h6,ay (show ¬k=0 by omega)];simp)];rfl):p:=h
theorem BO{p:Prop}(h:p:=by refine ret () trivial ?_;rw [Mp (fun j hj=>hk2 j hj hj)];rfl):p:=h
theorem BV{p:Prop}(h:p:=by refine Cv ⟨s.es++[Fh s.y.Am],Ww s.y,a5,c5,F5,a',c',F'⟩ ⟨(Is _ _).1,(Is _ _).2,fun z hz=>hit z (bj hz),by simp [Ww];omega,by simp [Ww];omega,by rw [hw,hst];rfl,by rw [he,hst];simp [Mu,Ww]⟩ (by show Ec (A8 s.y.next 1) n < _;omega)):p:=h
theorem BW{p:Prop}(h:p:=by exact ⟨ab none 0 0,[],rfl,.inl ⟨rfl,rfl,rfl⟩,by simp,by simp,Below.refl _ _⟩):p:=h
theorem CD{p:Prop}(h:p:=by obtain ⟨b,o,cs,G,ha,hrep,hG,hb,hne,hr⟩:=Vm (s.get hm) i hi;obtain ⟨rfl,rfl⟩:=hrep;exact (h hi b o  ha  ).h ac w (s.ro hm rfl rfl ⟨hne,hr⟩ (by intro x hx;simp [Pc.F] at hx;subst hx;exact hb)) g):p:=h
theorem CG{p:Prop}(h:p:=by refine dd ?_;exact AB):p:=h
theorem CM{p:Prop}(h:p:=by rw [e];refine Cv ⟨s.j+1,a',c',F'⟩ (by show s.j+1<=_;omega) (by show _ - (s.j+1) < _;omega)):p:=h
theorem CN{p:Prop}(h:p:=by apply Cq;rfl;intro _;refine dk ?_;refine dN 2 ?_;apply Lt;rfl;intro _;refine Dk C5 ?_;exact AF):p:=h
theorem DA{p:Prop}(h:p:=by intro q hq b hb;simp at hq;subst hq;exact .inr (.inl ⟨_,aH.2 rfl,rfl,hb⟩)):p:=h
theorem DK{p:Prop}(h:p:=by refine go ?_;refine ret () trivial ?_;rw [bad (by rw [hck,g4];rfl)];rfl):p:=h
theorem DQ{p:Prop}(h:p:=by refine oC ?_;refine ce (fun w s=>Om _ _ _ (by omega) (by omega) (by omega) (by omega)) ?_;refine dk ?_;refine Ek 7 8 ?_;exact CG):p:=h
theorem DT{p:Prop}(h:p:=by refine go ?_;refine ret ⟨s.es++z.es,z.y,z.a,z.c,z.F,a',c',F2⟩ ⟨by rw [hz.1,hw];rfl,by rw [hz.2,he,hw];simp [Mu,Hw]⟩ rfl):p:=h
theorem DW{p:Prop}(h:p:=by refine ret () trivial ?_;rw [N1 hh hk2 hpk];rfl):p:=h
theorem EY{p:Prop}(h:p:=by simpa [Pc.mu] using hA):p:=h
theorem FK{p:Prop}(h:p:=by rw [aL];omega):p:=h
theorem FO{p:Prop}(h:p:=by simpa [fp,Pc.F,aJ] using hn):p:=h
theorem GC{p:Prop}(h:p:=by simp [fp,Pc.F]):p:=h
theorem HH{p:Prop}(h:p:=by simp [Ww];omega):p:=h
theorem HJ{p:Prop}(h:p:=by intro p hp;simp at hp;subst hp;rfl):p:=h
theorem HK{p:Prop}(h:p:=by simp [Lx] <;> omega):p:=h
theorem HQ{p:Prop}(h:p:=by simp [hy]):p:=h
theorem HS{p:Prop}(h:p:=by dsimp only;omega):p:=h
theorem HW{p:Prop}(h:p:=by rw [h7] at hF;simpa [Value.ownBlock] using hF):p:=h
theorem IG{p:Prop}(h:p:=by intro q hq;obtain rfl:=aH.1 hq;exact ⟨_,rfl,_,_,_,_,rfl,(s.get m1).2,(s.get m2).2,rfl⟩):p:=h
theorem IJ{p:Prop}(h:p:=by simpa using hb):p:=h
theorem IR{p:Prop}(h:p:=by show Ea.size<=maxLen;unfold maxLen;omega):p:=h
theorem IY{p:Prop}(h:p:=by unfold Ho;rw [show gp x.next (A8 x.next k)=k by unfold gp A8;omega,ba,h]):p:=h
theorem JD{p:Prop}(h:p:=by simp only [D9,ay (show ¬(x.An.length:Int)<=x.size by omega),bV,du]):p:=h
theorem JM{p:Prop}(h:p:=by show n - (j+1) < n - j;omega):p:=h
theorem JP{p:Prop}(h:p:=by simp only [Lj,eQ,aP];exact Ad3):p:=h
end Go.Proofs.YtmckdnddocfodaaGreatDoor
namespace Go.Proofs.YtmckdnddocfodaaGreatDoor
open Go.RowKit
abbrev FV (f:FuncId) (a:aj) (A:List Pc) (v:Value):Prop:=Fn prog f a A [] (fun (_:Unit)=>True) (fun _=>v) (fun _=>[])
end Go.Proofs.YtmckdnddocfodaaGreatDoor
namespace Go.Proofs.YtmckdnddocfodaaGreatDoor
open Go.RowKit
section
variable {c:Cx} {fr:Fr} {H:List Pc} {k:List It} {Φ:Gl} {ops:Array Oper} {rest:List Oper} {d:Nat} {o:Op} {ty:TypeId} {pos:String} {A8:Array Edge} {v u:Value} {x y:Operand} {H0:List Pc} {X:ak} {f:Nat} {listed:Array Bool}
theorem oC {f:Nat} {aS:List Operand} {ts:Array TypeId} {vs:aj} (h:Cl c fr H d f vs Φ) (hd:Nat.blt d c.n=true:=by rfl) (hb:O2 c.P f=true:=by kernel_rfl) (ha:Evs fr aS vs:=by exact Tt):On c fr H (some d) (.call { callee:=.value (.func f),args:=aS.toArray,argTypes:=ts }) ty Φ:=Ahp hd hb ha h
theorem oS {t g tt o' j m:Nat} {A cs B l r:aj} {S:List Pc} (h:T c fr S Φ) (hx:ev fr x=some (Fv g o' j):=by rfl) (hy:ev fr y=some v:=by rfl) (hv:v.cells=l.toArray:=by rfl) (hs:(c.P.info? t).map (·.size)=some m:=by first|exact AggC.s|exact OneC.s) (hl:l.length=m:=by rfl) (hr:Rpl H (.row g tt o' A cs B) (.row g tt o' A r B) S:=by exact Ats) (hp:Put cs j l r:=by exact As9) (h1:l.all (·.oneCell')=true:=by rfl):On c fr H none (.store t x y) ty Φ:=Asz hx hy hv hs hl hr hp h1 h
theorem dN (i:Nat) {od:Option Tmp} (h:On c fr H od o ty (.dk i k H0 X ops f (listed.setIfInBounds i true))) (hr:Region.ready .any ops listed=[i]:=by kernel_rfl) (ho:ops[i]?=some ⟨od,o,ty,pos,A8,none⟩:=by rw [aW];rfl):T c fr H (.dx k H0 X ops (f+1) listed):=dO i hr ho h
theorem dM (i j:Nat) {od od2:Option Tmp} {o2:Op} {ty2:TypeId} {pos2:String} {aft2:Array Edge} (h:On c fr H od o ty (.dk i k H0 X ops f (listed.setIfInBounds i true))) (h':On c fr H od2 o2 ty2 (.dk j k H0 X ops f (listed.setIfInBounds j true))) (hr:Region.ready .any ops listed=[i,j]:=by kernel_rfl) (ho:ops[i]?=some ⟨od,o,ty,pos,A8,none⟩:=by rw [aW];rfl) (ho2:ops[j]?=some ⟨od2,o2,ty2,pos2,aft2,none⟩:=by rw [aW];rfl):T c fr H (.dx k H0 X ops (f+1) listed):=dO2 i j hr ho ho2 h h'
theorem Ek (i0 i1:Nat) {d0:Nat} {o0:Op} {t0:TypeId} {p0:String} {a0:Array Edge} {v0:Value} {d1:Nat} {o1:Op} {t1:TypeId} {p1:String} {a1:Array Edge} {v1:Value} (h:T c ((d1,v1)::((d0,v0)::fr)) H (.dx k H0 X ops f ((listed.setIfInBounds i0 true).setIfInBounds i1 true))) (hs:Md H0 H:=by repeat (first|exact Md.nil|refine Md.cons EQ ?_)) (h1:Region.noSelect ops=true:=by kernel_rfl) (hR:Vq c:=by exact W9) (ho0:ops[i0]?=some ⟨some d0,o0,t0,p0,a0,none⟩:=by rw [aW];rfl) (hy0:Yd c.P c.n fr H0 o0 t0 v0:=by exact ydE) (w0:Region.free .any ops listed i0=true:=by kernel_rfl) (x0:(Region.ready .any ops listed).contains i0=true:=by kernel_rfl) (y0:Ku .any ops (fun i=>X.contains i) i0=true:=by kernel_rfl) (z0:Me .any ops listed=true:=by kernel_rfl) (e0:Nat.blt d0 c.n=true:=by rfl) (ho1:ops[i1]?=some ⟨some d1,o1,t1,p1,a1,none⟩:=by rw [aW];rfl) (hy1:Yd c.P c.n ((d0,v0)::fr) H0 o1 t1 v1:=by exact ydE) (w1:Region.free .any ops (listed.setIfInBounds i0 true) i1=true:=by kernel_rfl) (x1:(Region.ready .any ops (listed.setIfInBounds i0 true)).contains i1=true:=by kernel_rfl) (y1:Ku .any ops (fun i=>X.contains i) i1=true:=by kernel_rfl) (z1:Me .any ops (listed.setIfInBounds i0 true)=true:=by kernel_rfl) (e1:Nat.blt d1 c.n=true:=by rfl):T c fr H (.dx k H0 X ops (f+1+1) listed):=dt i0 (dt i1 h ho1 hy1 hs h1 w1 x1 y1 z1 hR e1) ho0 hy0 hs h1 w0 x0 y0 z0 hR e0
theorem D7 (i0 i1 i2 i3:Nat) {d0:Nat} {o0:Op} {t0:TypeId} {p0:String} {a0:Array Edge} {v0:Value} {d1:Nat} {o1:Op} {t1:TypeId} {p1:String} {a1:Array Edge} {v1:Value} {d2:Nat} {o2:Op} {t2:TypeId} {p2:String} {a2:Array Edge} {v2:Value} {d3:Nat} {o3:Op} {t3:TypeId} {p3:String} {a3:Array Edge} {v3:Value} (h:T c ((d3,v3)::((d2,v2)::((d1,v1)::((d0,v0)::fr)))) H (.dx k H0 X ops f ((((listed.setIfInBounds i0 true).setIfInBounds i1 true).setIfInBounds i2 true).setIfInBounds i3 true))) (hs:Md H0 H:=by repeat (first|exact Md.nil|refine Md.cons EQ ?_)) (h1:Region.noSelect ops=true:=by kernel_rfl) (hR:Vq c:=by exact W9) (ho0:ops[i0]?=some ⟨some d0,o0,t0,p0,a0,none⟩:=by rw [aW];rfl) (hy0:Yd c.P c.n fr H0 o0 t0 v0:=by exact ydE) (w0:Region.free .any ops listed i0=true:=by kernel_rfl) (x0:(Region.ready .any ops listed).contains i0=true:=by kernel_rfl) (y0:Ku .any ops (fun i=>X.contains i) i0=true:=by kernel_rfl) (z0:Me .any ops listed=true:=by kernel_rfl) (e0:Nat.blt d0 c.n=true:=by rfl) (ho1:ops[i1]?=some ⟨some d1,o1,t1,p1,a1,none⟩:=by rw [aW];rfl) (hy1:Yd c.P c.n ((d0,v0)::fr) H0 o1 t1 v1:=by exact ydE) (w1:Region.free .any ops (listed.setIfInBounds i0 true) i1=true:=by kernel_rfl) (x1:(Region.ready .any ops (listed.setIfInBounds i0 true)).contains i1=true:=by kernel_rfl) (y1:Ku .any ops (fun i=>X.contains i) i1=true:=by kernel_rfl) (z1:Me .any ops (listed.setIfInBounds i0 true)=true:=by kernel_rfl) (e1:Nat.blt d1 c.n=true:=by rfl) (ho2:ops[i2]?=some ⟨some d2,o2,t2,p2,a2,none⟩:=by rw [aW];rfl) (hy2:Yd c.P c.n ((d1,v1)::((d0,v0)::fr)) H0 o2 t2 v2:=by exact ydE) (w2:Region.free .any ops ((listed.setIfInBounds i0 true).setIfInBounds i1 true) i2=true:=by kernel_rfl) (x2:(Region.ready .any ops ((listed.setIfInBounds i0 true).setIfInBounds i1 true)).contains i2=true:=by kernel_rfl) (y2:Ku .any ops (fun i=>X.contains i) i2=true:=by kernel_rfl) (z2:Me .any ops ((listed.setIfInBounds i0 true).setIfInBounds i1 true)=true:=by kernel_rfl) (e2:Nat.blt d2 c.n=true:=by rfl) (ho3:ops[i3]?=some ⟨some d3,o3,t3,p3,a3,none⟩:=by rw [aW];rfl) (hy3:Yd c.P c.n ((d2,v2)::((d1,v1)::((d0,v0)::fr))) H0 o3 t3 v3:=by exact ydE) (w3:Region.free .any ops (((listed.setIfInBounds i0 true).setIfInBounds i1 true).setIfInBounds i2 true) i3=true:=by kernel_rfl) (x3:(Region.ready .any ops (((listed.setIfInBounds i0 true).setIfInBounds i1 true).setIfInBounds i2 true)).contains i3=true:=by kernel_rfl) (y3:Ku .any ops (fun i=>X.contains i) i3=true:=by kernel_rfl) (z3:Me .any ops (((listed.setIfInBounds i0 true).setIfInBounds i1 true).setIfInBounds i2 true)=true:=by kernel_rfl) (e3:Nat.blt d3 c.n=true:=by rfl):T c fr H (.dx k H0 X ops (f+1+1+1+1) listed):=dt i0 (dt i1 (dt i2 (dt i3 h ho3 hy3 hs h1 w3 x3 y3 z3 hR e3) ho2 hy2 hs h1 w2 x2 y2 z2 hR e2) ho1 hy1 hs h1 w1 x1 y1 z1 hR e1) ho0 hy0 hs h1 w0 x0 y0 z0 hR e0
theorem Bw {f:Nat} {vs:aj} {A M R:List Pc} {σ:Type} {C:σ->Prop} {vv:σ->Value} {N K:σ->List Pc} (hf:Fn c.P f vs A M C vv N) (h:∀s,C s->T c ((d,vv s)::fr) (K s) Φ) (hM:J3 H M R:=by repeat (first|exact J3.nil|apply J3.cons (by exact En))) (hA:Md A R:=by repeat (first|exact Md.nil|refine Md.cons EQ ?_)) (hmM:M.all (·.mu)=true:=by rfl) (hmA:A.all (fun p=>!p.mu)=true:=by rfl) (hK:∀s,Aie (N s) R (K s):=by intro _;repeat constructor):Cl c fr H d f vs Φ:=cf_ hf (fun s hs=>Q3 (h s hs) (hK s)) hM hA hmM hmA
end
section
variable {c:Cx} {fr:Fr} {H:List Pc} {Φ:Gl}
theorem Ez {v:Value} {x:Bg} {F:ak} (h:∀(a1:ai) (c1:Nat) (F1:ak),v=.agg #[aa x.Ae,ab a1 x.Af.length c1]->x.Af.length<=maxLen->T c fr (.sl Eg (ab a1 x.Af.length c1) x.Af F1::H) Φ) (hm:.isv B9 v x F∈H:=by exact Cb):T c fr H Φ:=.mk fun a w s g=>by
 exact AH
theorem Gk (x:Bg) {a1:ai} {c1:Nat} {F1:ak}  (h:T c fr (.isv B9 (.agg #[aa x.Ae,ab a1 x.Af.length c1]) x (F1)::H) Φ) (m1:.sl Eg (ab a1 x.Af.length c1) x.Af F1∈H:=by exact Cb):T c fr H Φ:=.mk fun a w s g=>by
 exact AE
theorem Ia {v:Value} {x:Bg} {F:ak} {S:List Pc} (h:∀(a1:ai) (c1:Nat) (F1:ak),v=.agg #[aa x.Ae,ab a1 x.Af.length c1]->x.Af.length<=maxLen->T c fr (.ow Ew 132 (ab a1 x.Af.length c1) x.Af F1::S) Φ) (hp:De H (.Mw Ck v x F) S:=by exact En):T c fr H Φ:=.mk fun a w s g=>by
 have z1:=s.pick hp;obtain ⟨hn,cs,rfl,v1,rfl,h1⟩:=z1.on (.Mw Ck v x F) EO;obtain ⟨a1,c1,rfl⟩:=h1.slice;have l1:=h1.len;refine (h a1 c1 F rfl  l1).h a w (St.turn (M:=[.Mw Ck (.agg #[aa x.Ae,ab a1 x.Af.length c1]) x _]) (N:=[.ow Ew 132 (ab a1 x.Af.length c1) x.Af F]) z1 (Gc.refl _ w) ?_ ?_ ?_) g
 ·intro q hq;simp at hq;subst hq;exact ⟨hn,h1⟩
 ·exact ⟨EO,trivial⟩
 ·exact DA
theorem Hg (x:Bg) {a1:ai} {c1:Nat} {F1:ak} {S1:List Pc}  (h:T c fr (.Mw Ck (.agg #[aa x.Ae,ab a1 x.Af.length c1]) x (F1)::S1) Φ) (m1:De H (.ow Ew 132 (ab a1 x.Af.length c1) x.Af F1) S1:=by exact En)  : T c fr H Φ:=.mk fun a w s g=>by
 have z1:St c.G c.D c.w0 ([.ow Ew 132 (ab a1 x.Af.length c1) x.Af F1]++S1) w:=by simpa using (show J3 H [.ow Ew 132 (ab a1 x.Af.length c1) x.Af F1] S1 from J3.cons m1 (J3.nil)).st (X:=[]) HI
 obtain ⟨n1,k1⟩:=z1.on (.ow Ew 132 (ab a1 x.Af.length c1) x.Af F1) EO;have hN:=n1;refine h.h a w (St.turn (M:=[.ow Ew 132 (ab a1 x.Af.length c1) x.Af F1]) (N:=[.Mw Ck (.agg #[aa x.Ae,ab a1 x.Af.length c1]) x (F1)]) z1 (Gc.refl _ w) (by intro q hq;simp at hq;subst hq;exact ⟨hN,_,rfl,_,rfl,k1⟩) ⟨EO,trivial⟩ fun q hq b hb=>?_) g;simp at hq;subst hq;simp only [Pc.F,aG] at hb;exact .inr (.inl ⟨_,aH.2 rfl,rfl,hb⟩)
theorem Rl {a:ai} {n cp:Nat} {xs:List Bg} {F:ak} (i:Nat) (h:∀(hi:i < xs.length) (b o:Nat) (a1:ai) (c1:Nat) (F1:ak),a=some ⟨b,o,none⟩->xs[i].Af.length<=maxLen->T c fr (.cel b (o+i * 2) [aa xs[i].Ae,.slice a1 xs[i].Af.length c1]::.sl Eg (.slice a1 xs[i].Af.length c1) xs[i].Af F1::H) Φ) (hm:.sl B9 (ab a n cp) xs F∈H:=by exact Cb) (hi:i < xs.length:=by omega):T c fr H Φ:=.mk fun ac w s g=>by
 exact AV
end
section
variable {c:Cx} {fr:Fr} {H:List Pc} {Φ:Gl}
theorem Agd {v:Value} {x:Et} {F:ak} (h:∀(a1:ai) (c1:Nat) (F1:ak),v=.agg #[aa x.Ab,ab a1 x.Bp.length c1,aa x.Bl]->x.Bp.length<=maxLen->T c fr (.sl Bi (ab a1 x.Bp.length c1) x.Bp F1::H) Φ) (hm:.isv Eg v x F∈H:=by exact Cb):T c fr H Φ:=.mk fun a w s g=>by
 exact AH
theorem Rx (x:Et) {a1:ai} {c1:Nat} {F1:ak}  (h:T c fr (.isv Eg (.agg #[aa x.Ab,ab a1 x.Bp.length c1,aa x.Bl]) x (F1)::H) Φ) (m1:.sl Bi (ab a1 x.Bp.length c1) x.Bp F1∈H:=by exact Cb):T c fr H Φ:=.mk fun a w s g=>by
 exact AE
theorem Xy {v:Value} {x:Et} {F:ak} {S:List Pc} (h:∀(a1:ai) (c1:Nat) (F1:ak),v=.agg #[aa x.Ab,ab a1 x.Bp.length c1,aa x.Bl]->x.Bp.length<=maxLen->T c fr (.ow Bi 3 (ab a1 x.Bp.length c1) x.Bp F1::S) Φ) (hp:De H (.Mw Ew v x F) S:=by exact En):T c fr H Φ:=.mk fun a w s g=>by
 have z1:=s.pick hp;obtain ⟨hn,cs,rfl,v1,rfl,h1⟩:=z1.on (.Mw Ew v x F) EO;obtain ⟨a1,c1,rfl⟩:=h1.slice;have l1:=h1.len;refine (h a1 c1 F rfl  l1).h a w (St.turn (M:=[.Mw Ew (.agg #[aa x.Ab,ab a1 x.Bp.length c1,aa x.Bl]) x _]) (N:=[.ow Bi 3 (ab a1 x.Bp.length c1) x.Bp F]) z1 (Gc.refl _ w) ?_ ?_ ?_) g
 ·intro q hq;simp at hq;subst hq;exact ⟨hn,h1⟩
 ·exact ⟨EO,trivial⟩
 ·exact DA
theorem Oj (x:Et) {a1:ai} {c1:Nat} {F1:ak} {S1:List Pc}  (h:T c fr (.Mw Ew (.agg #[aa x.Ab,ab a1 x.Bp.length c1,aa x.Bl]) x (F1)::S1) Φ) (m1:De H (.ow Bi 3 (ab a1 x.Bp.length c1) x.Bp F1) S1:=by exact En)  : T c fr H Φ:=.mk fun a w s g=>by
 have z1:St c.G c.D c.w0 ([.ow Bi 3 (ab a1 x.Bp.length c1) x.Bp F1]++S1) w:=by simpa using (show J3 H [.ow Bi 3 (ab a1 x.Bp.length c1) x.Bp F1] S1 from J3.cons m1 (J3.nil)).st (X:=[]) HI
 obtain ⟨n1,k1⟩:=z1.on (.ow Bi 3 (ab a1 x.Bp.length c1) x.Bp F1) EO;have hN:=n1;refine h.h a w (St.turn (M:=[.ow Bi 3 (ab a1 x.Bp.length c1) x.Bp F1]) (N:=[.Mw Ew (.agg #[aa x.Ab,ab a1 x.Bp.length c1,aa x.Bl]) x (F1)]) z1 (Gc.refl _ w) (by intro q hq;simp at hq;subst hq;exact ⟨hN,_,rfl,_,rfl,k1⟩) ⟨EO,trivial⟩ fun q hq b hb=>?_) g;simp at hq;subst hq;simp only [Pc.F,aG] at hb;exact .inr (.inl ⟨_,aH.2 rfl,rfl,hb⟩)
theorem Um {a:ai} {n cp:Nat} {xs:List Et} {F:ak} (i:Nat) (h:∀(hi:i < xs.length) (b o:Nat) (a1:ai) (c1:Nat) (F1:ak),a=some ⟨b,o,none⟩->xs[i].Bp.length<=maxLen->T c fr (.cel b (o+i * 3) [aa xs[i].Ab,.slice a1 xs[i].Bp.length c1,aa xs[i].Bl]::.sl Bi (.slice a1 xs[i].Bp.length c1) xs[i].Bp F1::H) Φ) (hm:.sl Eg (ab a n cp) xs F∈H:=by exact Cb) (hi:i < xs.length:=by omega):T c fr H Φ:=.mk fun ac w s g=>by
 exact AV
end
set_option maxRecDepth 100000
theorem fI {p:Prop} (h:p:=by exact ⟨⟨_,_,rfl,rfl,rfl,rfl⟩,ER,EN⟩):p:=h
theorem aI {p:Prop} (h:p:=by exact ⟨⟨_,rfl,rfl⟩,ER⟩):p:=h
theorem sI {p:Prop} (h:p:=by exact ⟨rfl,ER⟩):p:=h
theorem bI {p:Prop} (h:p:=by exact ⟨fun parts=>by kernel_rfl⟩):p:=h
theorem eI {p:Prop} (h:p:=by exact ⟨ER,rfl⟩):p:=h
theorem zI {p:Prop} (h:p:=by exact ⟨⟨_,rfl,rfl⟩⟩):p:=h
theorem iI {p:Prop} (h:p:=by exact ⟨rfl⟩):p:=h
instance:OneC prog 3:=aI
instance:IntC prog 3 .i64:=iI
instance:ZC prog 3 [aa 0]:=zI
instance:ElT prog 3 (aa 0) 1 8:=eI
instance:OneC prog 5:=aI
instance:IntC prog 5 .u8:=iI
instance:OneC prog 58:=aI
instance:IntC prog 58 .u64:=iI
instance:IntC prog 191 .u64:=iI
instance:OneC prog 4:=aI
instance:BoolC prog 4:=iI
instance:OneC prog 9:=aI
instance:ZC prog 9 [af ⟨#[]⟩]:=zI
instance:ElT prog 9 (af ⟨#[]⟩) 1 16:=eI
instance:AggC prog 26 1:=aI
instance:FldC prog 26 0 0 24 1:=fI
instance:ZC prog 26 [ab none 0 0]:=zI
instance:BldC prog 26 [(0,1)] [ab none 0 0]:=bI
instance:AggC prog 29 3:=aI
instance:FldC prog 29 0 0 3 1:=fI
instance:FldC prog 29 1 1 3 1:=fI
instance:FldC prog 29 2 2 27 1:=fI
instance:ZC prog 29 [aa 0,aa 0,ab none 0 0]:=zI
instance:BldC prog 29 [(0,1),(1,1),(2,1)] [aa 0,aa 0,ab none 0 0]:=bI
instance:AggC prog 32 6:=aI
instance:FldC prog 32 0 0 29 3:=fI
instance:FldC prog 32 1 3 3 1:=fI
instance:FldC prog 32 2 4 3 1:=fI
instance:FldC prog 32 3 5 30 1:=fI
instance:ZC prog 32 [aa 0,aa 0,ab none 0 0,aa 0,aa 0,ab none 0 0]:=zI
instance:BldC prog 32 [(0,3),(3,1),(4,1),(5,1)] [aa 0,aa 0,ab none 0 0,aa 0,aa 0,ab none 0 0]:=bI
instance:AggC prog 37 11:=aI
instance:FldC prog 37 0 0 26 1:=fI
instance:FldC prog 37 1 1 32 6:=fI
instance:FldC prog 37 2 7 33 1:=fI
instance:FldC prog 37 3 8 34 1:=fI
instance:FldC prog 37 4 9 35 1:=fI
instance:FldC prog 37 5 10 35 1:=fI
instance:ZC prog 37 [ab none 0 0,aa 0,aa 0,ab none 0 0,aa 0,aa 0,ab none 0 0,ab none 0 0,ab none 0 0,ab none 0 0,ab none 0 0]:=zI
instance:BldC prog 37 [(0,1),(1,6),(7,1),(8,1),(9,1),(10,1)] [ab none 0 0,aa 0,aa 0,ab none 0 0,aa 0,aa 0,ab none 0 0,ab none 0 0,ab none 0 0,ab none 0 0,ab none 0 0]:=bI
instance:FldC prog 60 0 0 22 1:=fI
instance:FldC prog 60 1 1 3 1:=fI
instance:FldC prog 60 2 2 58 1:=fI
instance:BldC prog 60 [(0,1),(1,1),(2,1)] [ab none 0 0,aa 0,.int .u64 0]:=bI
instance:AggC prog 70 3:=aI
instance:FldC prog 70 0 0 3 1:=fI
instance:FldC prog 70 1 1 3 1:=fI
instance:FldC prog 70 2 2 9 1:=fI
instance:ZC prog 70 [aa 0,aa 0,af ⟨#[]⟩]:=zI
instance:ElT prog 70 (.agg #[aa 0,aa 0,af ⟨#[]⟩]) 3 32:=eI
instance:BldC prog 70 [(0,1),(1,1),(2,1)] [aa 0,aa 0,af ⟨#[]⟩]:=bI
instance:AggC prog 76 2:=aI
instance:FldC prog 76 0 0 3 1:=fI
instance:FldC prog 76 1 1 74 1:=fI
instance:ZC prog 76 [aa 0,ab none 0 0]:=zI
instance:ElT prog 76 (.agg #[aa 0,ab none 0 0]) 2 32:=eI
instance:BldC prog 76 [(0,1),(1,1)] [aa 0,ab none 0 0]:=bI
instance:AggC prog 80 2:=aI
instance:FldC prog 80 0 0 3 1:=fI
instance:FldC prog 80 1 1 78 1:=fI
instance:ZC prog 80 [aa 0,ab none 0 0]:=zI
instance:BldC prog 80 [(0,1),(1,1)] [aa 0,ab none 0 0]:=bI
instance:AggC prog 83 5:=aI
instance:FldC prog 83 0 0 4 1:=fI
instance:FldC prog 83 1 1 3 1:=fI
instance:FldC prog 83 2 2 80 2:=fI
instance:FldC prog 83 3 4 81 1:=fI
instance:ZC prog 83 [.bool false,aa 0,aa 0,ab none 0 0,ab none 0 0]:=zI
instance:ElT prog 83 (.agg #[.bool false,aa 0,aa 0,ab none 0 0,ab none 0 0]) 5 72:=eI
instance:BldC prog 83 [(0,1),(1,1),(2,2),(4,1)] [.bool false,aa 0,aa 0,ab none 0 0,ab none 0 0]:=bI
instance:AggC prog 103 5:=aI
instance:FldC prog 103 0 0 3 1:=fI
instance:FldC prog 103 1 1 3 1:=fI
instance:FldC prog 103 2 2 3 1:=fI
instance:FldC prog 103 3 3 3 1:=fI
instance:FldC prog 103 4 4 9 1:=fI
instance:ZC prog 103 [aa 0,aa 0,aa 0,aa 0,af ⟨#[]⟩]:=zI
instance:ElT prog 103 (.agg #[aa 0,aa 0,aa 0,aa 0,af ⟨#[]⟩]) 5 48:=eI
instance:BldC prog 103 [(0,1),(1,1),(2,1),(3,1),(4,1)] [aa 0,aa 0,aa 0,aa 0,af ⟨#[]⟩]:=bI
instance:AggC prog 130 2:=aI
instance:FldC prog 130 0 0 3 1:=fI
instance:FldC prog 130 1 1 3 1:=fI
instance:ZC prog 130 [aa 0,aa 0]:=zI
instance:ElT prog 130 (.agg #[aa 0,aa 0]) 2 16:=eI
instance:BldC prog 130 [(0,1),(1,1)] [aa 0,aa 0]:=bI
instance:AggC prog 132 3:=aI
instance:FldC prog 132 0 0 3 1:=fI
instance:FldC prog 132 1 1 24 1:=fI
instance:FldC prog 132 2 2 3 1:=fI
instance:ZC prog 132 [aa 0,ab none 0 0,aa 0]:=zI
instance:ElT prog 132 (.agg #[aa 0,ab none 0 0,aa 0]) 3 40:=eI
instance:BldC prog 132 [(0,1),(1,1),(2,1)] [aa 0,ab none 0 0,aa 0]:=bI
instance:AggC prog 161 4:=aI
instance:FldC prog 161 0 0 3 1:=fI
instance:FldC prog 161 1 1 3 1:=fI
instance:FldC prog 161 2 2 3 1:=fI
instance:FldC prog 161 3 3 3 1:=fI
instance:ZC prog 161 [aa 0,aa 0,aa 0,aa 0]:=zI
instance:ElT prog 161 (.agg #[aa 0,aa 0,aa 0,aa 0]) 4 32:=eI
instance:BldC prog 161 [(0,1),(1,1),(2,1),(3,1)] [aa 0,aa 0,aa 0,aa 0]:=bI
instance:AggC prog 190 2:=aI
instance:FldC prog 190 0 0 4 1:=fI
instance:FldC prog 190 1 1 9 1:=fI
instance:ZC prog 190 [.bool false,af ⟨#[]⟩]:=zI
instance:ElT prog 190 (.agg #[.bool false,af ⟨#[]⟩]) 2 24:=eI
instance:BldC prog 190 [(0,1),(1,1)] [.bool false,af ⟨#[]⟩]:=bI
instance:OneC prog 22:=aI
instance:SlC prog 22 5 1:=sI
instance:OneC prog 24:=aI
instance:SlC prog 24 3 1:=sI
instance:OneC prog 27:=aI
instance:SlC prog 27 9 1:=sI
instance:OneC prog 30:=aI
instance:SlC prog 30 130 2:=sI
instance:OneC prog 33:=aI
instance:SlC prog 33 76 2:=sI
instance:OneC prog 34:=aI
instance:SlC prog 34 83 5:=sI
instance:OneC prog 35:=aI
instance:SlC prog 35 85 1:=sI
instance:SlC prog 48 70 3:=sI
instance:OneC prog 74:=aI
instance:SlC prog 74 132 3:=sI
instance:OneC prog 78:=aI
instance:SlC prog 78 190 2:=sI
instance:OneC prog 81:=aI
instance:SlC prog 81 161 4:=sI
instance:OneC prog 85:=aI
instance:SlC prog 85 103 5:=sI
instance:ZC prog 85 [ab none 0 0]:=zI
instance:ElT prog 85 (ab none 0 0) 1 24:=eI
instance:OneC prog 162:=aI
instance:OneC prog 166:=aI
instance:OneC prog 169:=aI
section
variable {c:Cx} {fr:Fr} {H:List Pc} {k:List It} {Φ:Gl} {ops:Array Oper} {o:Op} {d:Nat} {v:Value} {ty:TypeId} {pos:String} {A8:Array Edge} {H0:List Pc} {X:ak} {f:Nat} {listed:Array Bool}
theorem dsI {id:Nat} {l:List Oper} (H0:List Pc) (X:ak) (h:T c fr H (.dx k H0 X l.toArray l.length (Array.replicate l.length false))) (hm:c.P.follows .mixedOrders=true:=by kernel_rfl):T c fr H (.Cd k (Code.region id l.toArray true)):=.mk fun a w s g=>by
 exact DG
theorem dtI (i:Nat) (hI:∀w,Nh H w->Nh H0 w) (h:T c ((d,v)::fr) H (.dx k H0 X ops f (listed.setIfInBounds i true))) (ho:ops[i]?=some ⟨some d,o,ty,pos,A8,none⟩:=by rw [aW];rfl) (hy:Yd c.P c.n fr H0 o ty v:=by exact ydE)
  (h1:Region.noSelect ops=true:=by kernel_rfl) (h2:Region.free .any ops listed i=true:=by kernel_rfl) (h3:(Region.ready .any ops listed).contains i=true:=by kernel_rfl) (h4:Ku .any ops (fun i=>X.contains i) i=true:=by kernel_rfl) (h5:Me .any ops listed=true:=by kernel_rfl) (hR:Vq c:=by exact W9) (hd:Nat.blt d c.n=true:=by rfl) :
  T c fr H (.dx k H0 X ops (f+1) listed):=.mk fun a w s g =>
 I4.take (v:=v) ho h1 h2 h3 h4 h5 (fun ch a w hp=>by rw [Ly] at hp ⊢;exact hR _ _ _ _ _ hp) (.inl ⟨rfl,fun w' hw'=>hy.h a w' _ _ _ _ g hw'⟩) (hI w s.on) (h.h _ _ s (g.put hd))
theorem dkI {i:Nat} (hI:∀w,Nh H w->Nh H0 w) (h:T c fr H (.dx k H0 X ops f listed)):T c fr H (.dk i k H0 X ops f listed):=.mk fun a w s g=>⟨fun _=>hI w s.on,h.h a w s g⟩
end
theorem Hi {g t:Nat} {x:Value} {r:aj} {w:World} (h:(Pc.row g t 0 [] (x::r) []).P w):(Pc.cel g 0 [x]).P w:=⟨EO,fun j u hu=>by
 cases j with
 | zero=>exact Hq h 0 u (by simpa using hu)
 | succ j=>simp at hu⟩
def Kq (c:Int) (x:Et):Bool:=Cm x.Ab && (decide (0 < x.Bp.length) && (Pz 1 7 x.Bp && Ht (c+1) x.Bl (c+6)))
def Wz (c:Int) (es:List Et) (i:Nat):Bool:=match es[i]? with
 | none=>true
 | some x=>Kq c x && !((es.take i).any fun o=>o.Ab == x.Ab)
theorem J8 {c:Int} {es:List Et} {i:Nat} (h:i < es.length):Wz c es i=(Kq c es[i] && !((es.take i).any fun o=>o.Ab == es[i].Ab)):=by
 simp [Wz,h]
def Ba (e:Bg):Bool:=J9 e.Ae && decide (e.Af.length<=5) && N9 (Wz e.Ae e.Af) e.Af.length
theorem Mq {c:Int}:J9 c=true↔0<=c/\c<=9999:=by unfold J9 Ht;simp
theorem Arg {es:List Et} {m k:Nat} {p:Et->Bool} (h:m < es.length) (hk:m < k) (hp:p es[m]=true):(es.take k).any p=true:=by
 rw [bS];exact ⟨es[m],cu.2 ⟨m,EM,rfl⟩,hp⟩
theorem Ais {es:List Et} {k:Nat} {n:Int} (h:∀q,q < k->∀hq:q < es.length,es[q].Ab≠n):((es.take k).any fun o=>o.Ab == n)=false:=by
 rw [cN];intro x hx;obtain ⟨i,hi,rfl⟩:=cu.1 hx;simpa using h i EM EM
theorem Zt {c d:Int} (h:J9 c=true) (h1:0<=d) (h2:d<=100):wrap64 (c+d)=c+d:=by
 have:=Mq.1 h;unfold wrap64;omega
theorem Y8 {e:Bg} {k:Nat} (hk:k < e.Af.length) (h:J9 e.Ae=true->Wz e.Ae e.Af k=false):Ba e=false:=by
 unfold Ba;cases hc:J9 e.Ae
 ·rfl
 ·rw [Kx hk (h hc)];simp
theorem Xi (x:Et) (num:Int) (b:Nat) (G:ak) (u:Value) (w:World) (h:Vf Eg w u x G) (hc:w.cell? ⟨b,0,none⟩=some (aa num)) :
  Calls prog 177 #[u,.pointer (some ⟨b,0,none⟩)] w (RB (.bool (x.Ab == num)) w):=by
 obtain ⟨_,rfl,v1,rfl, -⟩:=h;have hc1:=fun o:Obj=>kc ((Below.refl w.heap.size w).alloc (aA _) o) hc
 go_enter func177,ntmps177
 go_wp2
 go_ret
 exact ⟨Ds rfl,(Below.refl _ _).alloc (aA _) _⟩
theorem Zy (v:Value) (e:Bg) (F:ak) (w:World) (h:Vf B9 w v e F) :
  Calls prog 113 #[v] w (RB (.bool (Ba e)) w):=by
 obtain ⟨_,rfl,v1,rfl,h1⟩:=h;obtain ⟨a,cap,rfl⟩:=h1.slice;have hl:=h1.len;unfold maxLen at hl;have hB0:∀A:Obj,Below w.heap.size w (w.alloc A):=fun A=>(Below.refl _ _).alloc (aA _) _
 go_enter func113,ntmps113
 go_wp2
 go_loopw [3,4,8] (fun _ _ i wr=>∃k:Nat,k<=e.Af.length/\i=aa k/\Hid (J9 e.Ae=true->∀j,j < k->Wz e.Ae e.Af j=true)/\Jd wr w.heap.size 76 [aa e.Ae,ab a e.Af.length cap]/\Below w.heap.size w wr) (fun _ _ i _=>e.Af.length - (intOf i).toNat)
 case atStart=>exact ⟨0,aD _,rfl,fun _ j hj=>by omega,by simp [Lx],hB0 _⟩
 case round =>
  obtain ⟨k,hk,rfl,hz,hr,hB⟩:=hrel;have c0:=hr.cells;by_cases hlt:k < e.Af.length
  ·have hz0:=hz;clear hz;obtain ⟨b,off,_,F1,rfl,hx, -,ja⟩:=(h1.below EN hB).at k hlt;obtain ⟨u1,rfl,hf⟩:=id hx;obtain ⟨fa,fc,rfl⟩:=hf.slice;have a0:=ja 0 EN;have a1:=ja 1 EN;have a2:=ja 2 EN;simp only [show Eg.sz=3 from rfl,cR,bO,bH,bE] at a0 a1 a2;clear ja;have d0:=fun A=>(hr.alloc A).cells;have hf1:=fun A:Obj=>hf.below EN ((Below.refl wr.heap.size wr).alloc (aA _) A);have hB1:=fun A:Obj=>tr hB ((Below.refl wr.heap.size wr).alloc (aA _) A) (aA _)
   have hcp:=h1.caps;by_cases hfe:e.Af[k].Bp=[]
   ·have hE:((e.Af[k].Bp.length:Int) == 0)=true:=by simp [hfe]
    have hno:=Lib.hid (Y8 hlt (fun _=>by rw [J8 hlt];simp [Kq,hfe]))
    go_wp2_with (first
     | (go_at_call 92;refine (Jf _ _).mono ?_;rintro e' w' ⟨rfl,rfl⟩)
     | (go_at_call 175;refine (Ac7 _ _ _ _ (hf1 _)).mono ?_;rintro e' w' ⟨rfl,rfl⟩)
     | (go_at_call 19;refine (Jc _ _ _ _).mono ?_;rintro e' w' ⟨rfl,rfl⟩))
    all_goals go_ret
    all_goals exact ⟨Ds hno.out.symm,hB1 _⟩
   ·have hE:((e.Af[k].Bp.length:Int) == 0)=false:=by simp [hfe]
    have hfe:=Lib.hid hfe
    go_wp2_with (first
     | (go_at_call 92;refine (Jf _ _).mono ?_;rintro e' w' ⟨rfl,rfl⟩)
     | (go_at_call 175;refine (Ac7 _ _ _ _ (hf1 _)).mono ?_;rintro e' w' ⟨rfl,rfl⟩)
     | (go_at_call 19;refine (Jc _ _ _ _).mono ?_;rintro e' w' ⟨rfl,rfl⟩))
    ·have t:(!Ht (wrap64 (e.Ae+1)) e.Af[k].Bl (wrap64 (e.Ae+6)))=true:=GJ
     go_ret
     refine ⟨Ds (Y8 hlt fun hc=>?_).symm,hB1 _⟩;rw [Zt hc EM EM,Zt hc EM EM] at t;rw [J8 hlt];simp only [Kq];simp at t;simp [t]
    ·have t1:Cm e.Af[k].Ab=true:=GJ
     have t2:Pz 1 7 e.Af[k].Bp=true:=GJ
     have t:(!Ht (wrap64 (e.Ae+1)) e.Af[k].Bl (wrap64 (e.Ae+6)))=false:=GJ
     obtain ⟨G, -,hs⟩:=h1.takeS k hk;refine (Xh _ (.mk' func177 rfl rfl) _ _ _ _ (fun o=>o.Ab == e.Af[k].Ab) _ (hs.below EN (hB1 _)) ?_).mono ?_
     ·intro j hj w2 u G2 hb2 hu;exact Xi _ _ _ _ _ _ hu (kc hb2 EO)
     rintro e' w2 ⟨rfl,hb2⟩;have hr2:=(hr.alloc _).below hb2;have hB2:=tr (hB1 _) hb2 (aA _);have hc2:=hr2.cells;have hAt:=Lib.hid (J8 (c:=e.Ae) hlt);cases hany:(e.Af.take k).any fun o=>o.Ab == e.Af[k].Ab
     ·rw [hany] at hAt;have hany:=Lib.hid hany;go_wp2_with fail;refine ⟨⟨k+1,EM,HX,fun hc=>Ue (hz0.out hc) ?_,hr2,hB2⟩,FP⟩;rw [Zt hc EM EM,Zt hc EM EM] at t;rw [hAt.out];simp only [Kq,t1,t2];simp at t;simp [t,cY,hfe.out]
     ·rw [hany] at hAt;have hany:=Lib.hid hany;go_wp2_with fail
      go_ret
      exact ⟨Ds (Y8 hlt fun _=>by rw [hAt.out];simp).symm,hB2⟩
    ·have t:¬Pz 1 7 e.Af[k].Bp=true:=GJ
     go_ret
     refine ⟨Ds (Y8 hlt fun hc=>?_).symm,hB1 _⟩;rw [J8 hlt];simp [Kq,t]
    ·have t:¬Cm e.Af[k].Ab=true:=GJ
     go_ret
     refine ⟨Ds (Y8 hlt fun hc=>?_).symm,hB1 _⟩;rw [J8 hlt];simp [Kq,t]
  ·have hk:k=e.Af.length:=EM
   subst hk;have hz0:=hz;clear hz;cases hck:J9 e.Ae
   ·have hn:=Lib.hid (show Ba e=false by unfold Ba;rw [hck];rfl);have hck:=Lib.hid hck;go_wp2_with (go_at_call 104;refine (Ro _ _).mono ?_;rintro e' w' ⟨rfl,rfl⟩;rw [hck.out])
    go_ret
    exact ⟨Ds hn.out.symm,hB⟩
   ·have hn:=Lib.hid (show Ba e=decide ((e.Af.length:Int)<=5) by unfold Ba;rw [hck,Jr (hz0.out hck)];simp;omega);have hck:=Lib.hid hck;go_wp2_with (go_at_call 104;refine (Ro _ _).mono ?_;rintro e' w' ⟨rfl,rfl⟩;rw [hck.out])
    go_ret
    exact ⟨Ds hn.out.symm,hB⟩
theorem Api (e:Bg) (v:Value) (F:ak):FV 135 [v] [.isv B9 v e F] (.bool (Ba e)):=by
 refine enter func135 rfl ntmps135 fun w0=>?_;refine Ez ?_;rintro a c F1 rfl hl;refine go ?_;intros;refine ce (fun w s=>Xt _ _) ?_;cases hck:J9 e.Ae
 ·rw [show Ba e=false by unfold Ba;rw [hck];rfl];exact AB
 have hcb:=Mq.1 hck;refine go ?_;refine Bf rfl (fun h5=>?_) (fun h5=>?_)
 ·rw [show Ba e=false by unfold Ba;rw [hck,ay EM];rfl];exact AB
 rw [show Ba e=N9 (Wz e.Ae e.Af) e.Af.length by unfold Ba;rw [hck,au EM];rfl];refine go ?_;refine Ei [1,2] (fun k:Nat=>[(3,aa (k:Nat))]) (fun k=>k<=e.Af.length/\∀j,j < k->Wz e.Ae e.Af j=true) (fun k=>e.Af.length - k) 0 ⟨aD _,fun j hj=>by omega⟩ fun k hz=>?_;obtain ⟨hk0,hy⟩:=hz;refine go ?_;refine Bf rfl (fun h6=>?_) (fun h6=>?_)
 rotate_left
 ·rw [Jr (fun j hj=>hy j EM)];exact AB
 have hk:k < e.Af.length:=EM
 have hno:Wz e.Ae e.Af k=false->N9 (Wz e.Ae e.Af) e.Af.length=false:=fun h=>Kx hk h;refine Um (xs:=e.Af) k ?_;rintro hi b o a1 c1 F2 rfl hfl;refine go ?_;intros;refine ce (fun w s=>N3 _ _) ?_;cases t1:Cm e.Af[k].Ab
 ·skip
  rw [hno (by rw [J8 hk];simp [Kq,t1])];exact AB
 refine go ?_;by_cases hfe:e.Af[k].Bp.length=0
 ·rw [show decide (((e.Af[k].Bp.length:Nat):Int)=0)=true from au EM];rw [hno (by rw [J8 hk];simp [Kq,t1,bx.1 hfe])];exact AB
 rw [show decide (((e.Af[k].Bp.length:Nat):Int)=0)=false from ay EM];refine go ?_;refine cb (fun w st=>Alp _ _ _ w (st.get (p:=.sl Bi (.slice a1 e.Af[k].Bp.length c1) e.Af[k].Bp F2) EQ).2) ?_;cases t2:Pz 1 7 e.Af[k].Bp
 ·skip
  rw [hno (by rw [J8 hk];simp [Kq,t1,t2])];exact AB
 refine go ?_;refine ce (fun w s=>Mf _ _ _ _) ?_;cases t3:Ht (e.Ae+1) e.Af[k].Bl (e.Ae+6)
 ·skip
  rw [hno (by rw [J8 hk];simp [Kq,t1,t2,t3])];exact AB
 have hAt:Wz e.Ae e.Af k = !((e.Af.take k).any fun o=>o.Ab == e.Af[k].Ab):=by rw [J8 hk];unfold Kq;rw [t1,au (show 0 < e.Af[k].Bp.length by omega),t2,t3];rfl
 refine go ?_;refine Ei [1,2,3,4,16,17,18,19,20,23,24,25,26,27,28,29,30,31,32,33,34,35,36,37,38,39,40,41,42,43,44,45,46,47,48,49,50,51,52,53,54,55] (fun m:Nat=>[(5,aa (m:Nat))]) (fun m=>m<=k/\∀q,q < m->∀hq:q < e.Af.length,e.Af[q].Ab≠e.Af[k].Ab) (fun m=>k - m) 0 ⟨aD _,fun q hq=>by omega⟩ fun m hm=>?_;obtain ⟨hm0,hx⟩:=hm;refine go ?_;refine Bf rfl (fun h7=>?_) (fun h7=>?_)
 ·have hmk:m < k:=EM
  refine Um (xs:=e.Af) m ?_;rintro hi2 b2 o2 a2 c2 F3 e2 -;cases e2
  repeat (first|apply Yp|(apply wO;apply oc;rfl;exact ydE)|apply Aey|apply Ajs|(apply Aut;rfl;rfl)|(apply Aus;rfl;rfl;rfl;rfl)|(apply Auu;rfl;rfl;rfl)|(apply c_t;rfl)|(apply c_f;rfl)|apply Aaa|apply Yo|apply Ajr)
  refine As [0,2,5] [] ?_;refine D7 0 1 2 3 ?_;refine D7 4 5 6 7 ?_;refine dt 8 ?_;refine dd ?_;refine go ?_;refine Bf rfl (fun h8=>?_) (fun h8=>?_)
  ·rw [hno (by rw [hAt,Arg EM hmk (by simpa using h8)];rfl)];exact AB
  refine go ?_;refine Cv (m+1) ⟨EM,fun q hq hql=>by
   rcases aY (cM hq) with h|h
   ·exact hx q h hql
   ·subst h;exact h8⟩ (by show k - (m+1) < k - m;omega)
 ·refine go ?_;refine Cv (k+1) ⟨EM,fun j hj=>by
   rcases aY (cM hj) with h|h
   ·exact hy j h
   ·subst h;rw [hAt,Ais (fun q hq=>hx q EM)];rfl⟩ (by show e.Af.length - (k+1) < e.Af.length - k;omega)
theorem Aph (v:Value) (e:Bg) (F:ak) (w:World) (h:Vf B9 w v e F) :
  Calls prog 135 #[v] w (RB (.bool (Ba e)) w):=(Api e v F).val w (I0 h)
section
variable {c:Cx} {fr:Fr} {H:List Pc} {Φ:Gl}
theorem Cz {v:Value} {x:Ak} {F:ak} (h:∀(a1:ai) (c1:Nat) (F1:ak),v=.agg #[aa x.next,ab a1 x.Am.length c1]->x.Am.length<=maxLen->T c fr (.sl C5 (ab a1 x.Am.length c1) x.Am F1::H) Φ) (hm:.isv Bz v x F∈H:=by exact Cb):T c fr H Φ:=.mk fun a w s g=>by
 exact AH
theorem Cr (x:Ak) {a1:ai} {c1:Nat} {F1:ak}  (h:T c fr (.isv Bz (.agg #[aa x.next,ab a1 x.Am.length c1]) x (F1)::H) Φ) (m1:.sl C5 (ab a1 x.Am.length c1) x.Am F1∈H:=by exact Cb):T c fr H Φ:=.mk fun a w s g=>by
 exact AE
end
section
variable {c:Cx} {fr:Fr} {H:List Pc} {Φ:Gl}
theorem As5 {v:Value} {x:Hn} {F:ak} (h:∀(_:Unit),v=.agg #[.bool x.Vi,af x.Ea]->x.Ea.size<=maxLen->T c fr (H) Φ) (hm:.isv C5 v x F∈H:=by exact Cb):T c fr H Φ:=.mk fun a w s g=>by
 obtain ⟨cs,rfl,rfl,s1,rfl⟩:=s.get hm;exact (h () rfl s1 ).h a w s g
theorem Oz {a:ai} {n cp:Nat} {xs:List Hn} {F:ak} (i:Nat) (h:∀(hi:i < xs.length) (b o:Nat),a=some ⟨b,o,none⟩->xs[i].Ea.size<=maxLen->T c fr (.cel b (o+i * 2) [.bool xs[i].Vi,af xs[i].Ea]::H) Φ) (hm:.sl C5 (ab a n cp) xs F∈H:=by exact Cb) (hi:i < xs.length:=by omega):T c fr H Φ:=.mk fun ac w s g=>by
 exact AU
theorem Ahd {t:TypeId} {a:ai} {n cp:Nat} {xs:List Hn} {F:ak} {S:List Pc} (i:Nat) (h:∀(_:i < xs.length) g A B,a=some ⟨g,0,none⟩->F=[g]->xs[i].Ea.size<=maxLen->Aq2 C5 t g (ab (some ⟨g,0,none⟩) n cp) xs i A B->T c fr (.row g t (0+i * 2) A [.bool xs[i].Vi,af xs[i].Ea] B::S) Φ) (hp:De H (.ow C5 t (ab a n cp) xs F) S:=by exact En) (hi:i < xs.length:=by omega):T c fr H Φ :=
 Qq Hl i (fun hi g A cs B ha hF hr hh=>by obtain ⟨rfl,s1, -⟩:=hr default;exact h hi g A B ha hF s1 hh) hp rfl hi
end
theorem Bb {x:Int}:Cm x=true↔0<=x/\x<=65535:=by unfold Cm Ht;simp
def A8 (x n:Int):Int:=(x+n) % 65536
def gp (a b:Int):Int:=(b - a) % 65536
def Qa (a b:Int):Bool:=Ht 1 (gp a b) 32767
theorem Kc (a b:Int):0<=gp a b/\gp a b<=65535:=by unfold gp;omega
theorem Is (a b:Int):0<=A8 a b/\A8 a b<=65535:=by unfold A8;omega
theorem N8 (a b:Int):Cm (A8 a b)=true:=Bb.2 (Is a b)
theorem Ame (z:Int):((z.tmod 65536)+65536).tmod 65536=z % 65536:=by
 rw [ew (a:=z.tmod 65536+65536),ew]
 split <;> split <;> omega
theorem Axb (z:Int):-65535<=z.tmod 65536/\z.tmod 65536<=65535:=by
 rw [ew]
 split <;> omega
theorem Q4 (x n:Int) (w:World) (h0:-4611686018427387904<=x+n) (h1:x+n<=4611686018427387904) :
  Calls prog 91 #[aa x,aa n] w fun e w'=>e=.returned (aa (A8 x n))/\w=w':=by
 have hb:=Axb (x+n);have hb1:=hb.1;have hb2:=hb.2;clear hb;by_cases hz:0<=x+n
 ·go_enter func91,ntmps91
  go_wp2
  go_ret
  exact ⟨Nk (by unfold A8;omega),rfl⟩
 ·have ht:=Ame (x+n);have ht:=Lib.hid ht
  go_enter func91,ntmps91
  go_wp2
  go_ret
  refine ⟨Nk ?_,rfl⟩;have:=ht.out;rw [ew (a:=(x+n).tmod 65536+65536)] at this;unfold A8
  split at this <;> omega
theorem Om (a b:Int) (w:World) (h0:-4611686018427387904<=b - a) (h1:b - a<=4611686018427387904) (ha:-4611686018427387904<=a) (ha':a<=4611686018427387904) :
  Calls prog 106 #[aa a,aa b] w fun e w'=>e=.returned (aa (gp a b))/\w=w':=by
 go_enter func106,ntmps106
 go_wp2_with fail;refine (Q4 b (-a) _ EM EM).mono ?_;rintro e w' ⟨rfl,rfl⟩;go_wp2_with fail
 go_ret
 exact ⟨Nk (by unfold A8 gp;omega),rfl⟩
theorem M6 (a b:Int) (w:World) (h0:-4611686018427387904<=b - a) (h1:b - a<=4611686018427387904) (ha:-4611686018427387904<=a) (ha':a<=4611686018427387904) :
  Calls prog 183 #[aa a,aa b] w fun e w'=>e=.returned (.bool (Qa a b))/\w=w':=by
 go_enter func183,ntmps183
 go_wp2_with fail;refine (Om a b _ h0 h1 ha ha').mono ?_;rintro e w' ⟨rfl,rfl⟩;go_wp2_with fail;refine (Jc _ _ _ _).mono ?_;rintro e w' ⟨rfl,rfl⟩;go_wp2_with fail
 go_ret
 exact ⟨rfl,rfl⟩
theorem Hc (x n:Int) (w:World) (h0:-131072<=x+n) (h1:x+n<=4611686018427387904) :
  Calls prog 96 #[aa x,aa n] w fun e w'=>e=.returned (aa (A8 x n))/\w=w':=by
 have h2:0<=x+n+131072:=EM
 go_enter func96,ntmps96
 go_wp2
 go_ret
 exact ⟨Nk (by unfold A8;omega),rfl⟩
theorem I1 (a b:Int) (w:World) (h0:-65536<=b - a) (h1:b - a<=4611686018427387904) :
  Calls prog 134 #[aa a,aa b] w fun e w'=>e=.returned (aa (gp a b))/\w=w':=by
 have h2:0<=b - a+65536:=EM
 go_enter func134,ntmps134
 go_wp2
 go_ret
 exact ⟨Nk (by unfold gp;omega),rfl⟩
theorem Ps (a b:Int) (w:World) (h0:-65536<=b - a) (h1:b - a<=4611686018427387904) :
  Calls prog 217 #[aa a,aa b] w fun e w'=>e=.returned (.bool (Qa a b))/\w=w':=by
 go_enter func217,ntmps217
 go_wp2_with fail;refine (I1 a b _ h0 h1).mono ?_;rintro e w' ⟨rfl,rfl⟩;go_wp2_with fail;refine (Mf _ _ _ _).mono ?_;rintro e w' ⟨rfl,rfl⟩;go_wp2_with fail
 go_ret
 exact ⟨rfl,rfl⟩
end Go.Proofs.YtmckdnddocfodaaGreatDoor
namespace Go.Proofs.YtmckdnddocfodaaGreatDoor
open Go.RowKit Go.Shelf
def low (b:UInt8):Bool:=Ht 97 b.toNat 122
def Uz (l:List UInt8):Bool:=l.all low
def Qd (s:am):Bool:=decide ((s.size:Int)<=8) && Uz s.data.toList
def abc:List UInt8:=[97,98,99,100,101,102,103,104,105,106,107,108,109,110,111,112,113,114,115,116,117,118,119,120,121,122]
theorem Avc (b:UInt8):abc.contains b=low b:=by
 have h:∀n:Fin 256,abc.contains (UInt8.ofNat n.val)=low (UInt8.ofNat n.val):=by decide +kernel
 have:=h ⟨b.toNat,b.toNat_lt⟩;simpa using this
theorem dropWhile_nil {α:Type} (p:α->Bool) (l:List α):l.dropWhile p=[]↔l.all p=true:=by
 induction l with
 | nil=>simp
 | cons x r ih=>rw [fS];cases h:p x <;> simp [h,ih]
theorem Ae4 {α:Type} (p:α->Bool) (l:List α):(l.dropWhile p).all p=l.all p:=by
 induction l with
 | nil=>simp
 | cons x r ih=>rw [fS];cases h:p x <;> simp [h,ih]
theorem Aqk (l cs:List UInt8):(Lib.trimS l cs=[])↔l.all (cs.contains ·)=true:=by
 unfold Lib.trimS Lib.trimLeftS Lib.trimRightS;rw [dropWhile_nil,List.all_reverse,Ae4,List.all_reverse]
theorem Aui (l:List UInt8):(Lib.trimS l abc == [])=Uz l:=by
 rw [eO,beq_iff_eq,Aqk];unfold Uz;rw [show (fun b=>abc.contains b)=low from funext Avc]
theorem Za (s:am) (w:World) (hs:s.size<=maxLen) :
  Calls prog 151 #[af s] w (RB (.bool (Qd s)) w):=by
 unfold maxLen at hs;have hc:=fun w=>Any.strings_Trim_laid Tryz.lays160 ER s ⟨abc.toArray⟩ w hs EN (ascii_of_all EN);change ∀w,Calls prog 202 #[af s,af ⟨abc.toArray⟩] w (RB (af ⟨(Lib.trimS s.data.toList abc).toArray⟩) w) at hc;have ht:=Aui s.data.toList;replace hc:=Lib.hid hc;by_cases h8:s.size<=8
 ·generalize Lib.trimS s.data.toList abc=t at *;have hi:Qd s=(t == []):=by unfold Qd;rw [ht,au EM];rfl
  replace hi:=Lib.hid hi;clear ht;cases t with
  | nil =>
   go_enter func151,ntmps151
   go_wp2_with fail;refine (hc.out _).mono ?_;rintro e w1 ⟨rfl,hb⟩;go_wp2_with fail
   go_ret
   exact ⟨Ds hi.out.symm,hb⟩
  | cons a r =>
   go_enter func151,ntmps151
   go_wp2_with fail;refine (hc.out _).mono ?_;rintro e w1 ⟨rfl,hb⟩;go_wp2_with fail
   go_ret
   exact ⟨Ds hi.out.symm,hb⟩
 ·have hi:Qd s=false:=by unfold Qd;rw [ay EM];rfl
  replace hi:=Lib.hid hi
  go_enter func151,ntmps151
  go_wp2_with fail
  go_ret
  exact ⟨Ds hi.out.symm,Below.refl _ _⟩
theorem Apo (s:am) (k:Nat) (h:k < s.size):Uz (s.data.toList.drop k)=(low s[k] && Uz (s.data.toList.drop (k+1))):=by rw [Avo s k h];rfl
theorem Sy (s:am) (n:Int) (w:World) (hs:s.size<=maxLen) :
  Calls prog 189 #[af s,aa n] w fun e w'=>e=.returned (.bool (decide ((s.size:Int)<=n) && Uz s.data.toList))/\w=w':=by
 unfold maxLen at hs
 go_enter func189,ntmps189
 go_wp2
 go_loop [5] (fun i=>∃k:Nat,k<=s.size/\i=aa k/\Hid (Uz s.data.toList=Uz (s.data.toList.drop k))) (fun i=>s.size - (intOf i).toNat)
 case atStart=>exact ⟨0,aD _,rfl,rfl⟩
 case round =>
  obtain ⟨k,hk,rfl,hz⟩:=hrel;by_cases hlt:k < s.size
  ·have hz:=Lib.hid (hz.out.trans (Apo s k hlt));have hb:(s[k].toNat:Int)<=255:=by have:=s[k].toNat_lt;omega
   cases hl:low s[k]
   ·have hl1:low s[k]=false:=hl;unfold low Ht at hl;by_cases h1:(s[k].toNat:Int) < 97
    ·clear hl
     go_wp2
     go_ret
     exact ⟨Ds (by rw [hz.out,hl1];simp),rfl⟩
    ·have h2:(122:Int) < s[k].toNat:=by simp at hl;omega
     clear hl
     go_wp2
     go_ret
     exact ⟨Ds (by rw [hz.out,hl1];simp),rfl⟩
   ·have hl1:low s[k]=true:=hl;unfold low Ht at hl;simp only [av,aC] at hl;have h1:¬(s[k].toNat:Int) < 97:=EM
    have h2:¬(122:Int) < s[k].toNat:=EM
    clear hl;replace hl1:=Lib.hid hl1
    go_wp2
    go_round
    case rel=>exact ⟨k+1,EM,HX,by refine Lib.hid ?_;rw [hz.out,hl1.out];rfl⟩
    case measure=>simp [intOf];omega
  ·go_wp2
   go_ret
   exact ⟨Ds (by rw [hz.out,Aru s k hlt];simp [Uz]),rfl⟩
end Go.Proofs.YtmckdnddocfodaaGreatDoor
namespace Go.Proofs.YtmckdnddocfodaaGreatDoor
open Go.RowKit
theorem Ac0 (fid:FuncId) (hbd:Wu prog fid) (caps:Array Value) (v:Value) (xs:List Hn) (F:ak) (p:Hn->Bool) (w:World) (h:Sl C5 w v xs F)
  (hp:∀(k:Nat) (hk:k < xs.length) (wr:World) (u:Value) (G:ak),Below w.heap.size w wr->Vf C5 wr u xs[k] G->Calls prog fid (#[u]++caps) wr fun e w'=>e=.returned (.bool (p xs[k]))/\Below wr.heap.size wr w') :
  Calls prog 243 #[v,.func (.func fid) #[] caps] w (RB (aa (Qz p xs)) w):=by
 obtain ⟨a,cap,rfl⟩:=h.slice;have hl:=h.len;unfold maxLen at hl
 go_enter func243,ntmps243
 go_wp2
 go_loopw [5,8] (fun _ i wr=>∃k:Nat,k<=xs.length/\i=aa k/\Hid (∀j,j < k->∀hj:j < xs.length,p xs[j]=false)/\Below w.heap.size w wr) (fun _ i _=>xs.length - (intOf i).toNat)
 case atStart=>exact ⟨0,aD _,rfl,fun j hj=>by omega,Below.refl _ _⟩
 case round =>
  obtain ⟨k,hk,rfl,hz,hB⟩:=hrel;by_cases hlt:k < xs.length
  ·have hz0:=hz;clear hz;obtain ⟨b,off,_,F1,rfl,hx, -,ja⟩:=(h.below EN hB).at k hlt;obtain ⟨rfl,s1,rfl⟩:=id hx;have a0:=ja 0 EN;have a1:=ja 1 EN;simp only [show C5.sz=2 from rfl,cR,bO,bH,bE] at a0 a1;clear ja;have hr:=hp k hlt wr _ _ hB ⟨_,rfl,hx⟩;have hp:=Lib.hid hp;cases hpk:p xs[k]
   all_goals
    rw [hpk] at hr;have hpk:=Lib.hid hpk;have hr:=Lib.hid hr;go_wp2_with fail;refine hbd.upon hr.out ?_;rintro e w1 ⟨rfl,hb1⟩;refine ⟨_,rfl,?_⟩;have hB:=tr hB hb1 (aA _);clear hb1;go_wp2_with fail
   ·exact AS
   ·go_ret
    exact DY
  ·go_wp2
   go_ret
   exact CT
theorem Yj (fid:FuncId) (hbd:Wu prog fid) (caps:Array Value) (v:Value) (xs:List Hn) (F:ak) (p:Hn->Bool) (w:World) (h:Sl C5 w v xs F)
  (hp:∀(k:Nat) (hk:k < xs.length) (wr:World) (u:Value) (G:ak),Below w.heap.size w wr->Vf C5 wr u xs[k] G->Calls prog fid (#[u]++caps) wr fun e w'=>e=.returned (.bool (p xs[k]))/\Below wr.heap.size wr w') :
  Calls prog 211 #[v,.func (.func fid) #[] caps] w (RB (.bool (xs.any p)) w):=by
 have hp:=Lib.hid hp
 go_enter func211,ntmps211
 go_wp2_with fail;refine (Ac0 fid hbd caps v xs F p _ h hp.out).mono ?_;rintro e w1 ⟨rfl,hb1⟩;go_wp2_with fail
 go_ret
 exact ⟨Ds (R8 p xs),hb1⟩
theorem Xe (v:Value) (xs:List Hn) (F:ak) (w:World) (h:Sl C5 w v xs F) (hm:xs.length<=4294967296) :
  Calls prog 179 #[v] w (Z9 C5 190 xs w):=by
 obtain ⟨ao,c,news,Fy,rfl,hl,hfy,hFy,hsrc⟩:=h.src;have hFl:=hfy.lt;have he:=fun w (a:ai) (n c:Nat)=>Lib.run_eql_slice_nil (P:=prog) w 78 _ a n c 0 0 underlying78
 go_enter func179,ntmps179
 rcases hsrc with ⟨rfl,rfl,rfl⟩|⟨ad,rfl,hn⟩
 ·go_wp2
  go_ret
  exact BW
 ·go_wp2_with (at_builtin;refine P8 Id EN FC _ _ _ FC 190 (.agg #[.bool false,af ⟨#[]⟩]) 24 underlying78 Ao1 rfl (ab (some ⟨w.heap.size,0,none⟩) 0 0) [] [w.heap.size] FC (Ow.empty (Jd.made _ _ _)) (Hd.one _) (some ad) xs c FC news Fy (hfy.frame fun b hb=>Below.heap_alloc _ _ _ (hFl b hb)) (.inr ⟨ad,rfl,fun j u hu=>kc ((Below.refl _ _).alloc (aA _) _) (hn j u hu)⟩) (fun b hb e=>by have:=hFl b hb;simp [Value.ownBlock] at e;omega) FQ GA ?_);intro v2 w2 F2 hA;go_wp2_with fail
  go_ret
  have hB:Below w.heap.size w w2:=((Below.refl _ _).alloc (aA _) _).trans (hA.Nu.below EO EO);have hs:∀b,v2.ownBlock=some b->w.heap.size<=b:=fun b hb=>by rcases hA.Al3 with e|e <;> rw [e] at hb <;> simp [Value.ownBlock] at hb <;> omega
  refine ⟨v2,F2,rfl,HY,hA.ow.scal Hl▸?_,fun b hb=>?_,hB⟩
  ·cases v2.ownBlock <;> simp
  ·rw [hA.ow.scal Hl] at hb;exact hs b IJ
def H9 (s:Hn):Bool:=Qd s.Ea && (s.Vi || decide (s.Ea=⟨#[]⟩))
def C2 (l:List Hn) (k:Nat):Bool:=match l[k]? with|some s=>s.Vi|none=>false
def Sq (l:List Hn):Bool:=decide (l.length=0) || (!C2 l 0 && C2 l (l.length - 1))
def C7 (x:Ak):Bool:=Cm x.next && decide ((x.Am.length:Int)<=8) && x.Am.all H9 && Sq x.Am
theorem I7 {l:List Hn} {k:Nat} (h:k < l.length):C2 l k=l[k].Vi:=by unfold C2;rw [aB h]
theorem Lq {l:List Hn} {k:Nat} (h:l.length<=k):C2 l k=false:=by unfold C2;rw [bf h]
def Ho (x:Ak) (k:Int):Bool:=C2 x.Am (gp x.next k).toNat
theorem Yl (x:Ak) (k:Int) (v:Value) (F:ak) (h0:0<=x.next) (h1:x.next<=65535) (h2:0<=k) (h3:k<=65535) :
  FV 174 [v,aa k] [.isv Bz v x F] (.bool (Ho x k)):=by
 refine enter func174 rfl ntmps174 fun w0=>?_;refine Cz ?_;rintro a1 c1 F1 rfl l1;unfold maxLen at l1;have hg:=Kc x.next k
 refine go ?_;intros;refine ce (fun w s=>Om _ _ _ EM EM EM EM) ?_;refine go ?_;refine Dm rfl rfl (fun h=>?_) (fun h=>?_)
 ·refine Oz (gp x.next k).toNat ?_;rintro hi b o rfl s1;refine go ?_;refine ret () trivial ?_;unfold Ho;rw [I7 hi];rfl
 ·refine go ?_;refine ret () trivial ?_;unfold Ho;rw [Lq EM];rfl
theorem Ayl (x:Hn) (v:Value) (F:ak):FV 212 [v] [.isv C5 v x F] (.bool (!H9 x)):=by
 refine enter func212 rfl ntmps212 fun w0=>?_;refine As5 ?_;rintro _ rfl s1;refine go ?_;intros;refine cb (fun w s=>Za _ _ s1) ?_;cases g:Qd x.Ea
 ·refine go ?_;refine ret () trivial ?_;simp [H9,g,Sr]
 refine go ?_;cases g2:x.Vi
 ·refine go ?_;refine ret () trivial ?_;simp [H9,g,g2,Sr]
 ·refine go ?_;refine ret () trivial ?_;simp [H9,g,g2,Sr]
theorem Aq8 (x:Ak) (v:Value) (F:ak):FV 170 [v] [.isv Bz v x F] (.bool (C7 x)):=by
 refine enter func170 rfl ntmps170 fun w0=>?_;refine Cz ?_;rintro a1 c1 F1 rfl l1;unfold maxLen at l1;refine go ?_;intros;refine ce (fun w s=>Jf _ _) ?_;cases g1:Cm x.next
 ·refine go ?_;refine ret () trivial ?_;simp [C7,g1,Sr]
 refine go ?_;refine Bf rfl (fun h=>?_) (fun h=>?_)
 ·refine go ?_;refine ret () trivial ?_;simp [C7,g1,Sr];omega
 refine go ?_;refine cb (fun w s=>Yj _ (.mk' func212 rfl rfl) #[] _ x.Am F1 (fun s=>!H9 s) _ (s.get (p:=.sl C5 (ab a1 x.Am.length c1) x.Am F1) EO).2 ?_) ?_
 ·intro k hk wr u G _ hu;exact (Ayl x.Am[k] u G).val wr (I0 hu)
 cases g2:x.Am.all H9
 ·have:(x.Am.any fun s=>!H9 s)=true:=by rw [<-dX,g2];rfl
  rw [this];refine go ?_;refine ret () trivial ?_;simp [C7,g2,Sr]
 have hx:(x.Am.any fun s=>!H9 s)=false:=by rw [<-dX,g2];rfl
 rw [hx];refine go ?_;have g3:C7 x=Sq x.Am:=by simp [C7,g1,g2];omega
 refine Dm rfl rfl (fun h=>?_) (fun h=>?_)
 ·refine go ?_;refine ret () trivial ?_;rw [g3];have:x.Am.length=0:=EM
  simp [Sq,this,Sr]
 refine Oz 0 ?_;rintro hi b o rfl s1;refine go ?_;cases g4:x.Am[0].Vi
 rotate_left
 ·refine go ?_;refine ret () trivial ?_;rw [g3];unfold Sq;rw [I7 hi,g4,ay EM];rfl
 refine Oz (x.Am.length - 1) ?_;rintro hi2 b2 o2 e s2;cases e;refine go ?_;have hl:((x.Am.length:Int) - 1).toNat=x.Am.length - 1:=EM
 rw [hl];refine go ?_;refine ret () trivial ?_;rw [g3];unfold Sq;rw [I7 hi,I7 hi2,g4,ay EM];rfl
theorem Ba0 (s:am):(decide ((s.size:Int)<=8) && Uz s.data.toList)=Qd s:=rfl
theorem Wy {α:Type} {p:α->Bool} {l:List α} {k:Nat} (h:k < l.length):(l.take (k+1)).all p=((l.take k).all p && p l[k]):=by
 rw [aZ h,eK];simp
theorem Ac4 {α:Type} {p:α->Bool} {l:List α} {k:Nat} (h:k < l.length) (hp:p l[k]=false):l.all p=false:=by
 rw [cU];exact ⟨l[k],aE h,HF⟩
theorem Ao6 (x:Ak) (v:Value) (F:ak):FV 191 [v] [.isv Bz v x F] (.bool (C7 x)):=by
 refine enter func191 rfl ntmps191 fun w0=>?_;refine Cz ?_;rintro a1 c1 F1 rfl l1;unfold maxLen at l1;refine go ?_;intros;refine ce (fun w s=>N3 _ _) ?_;cases g1:Cm x.next
 ·refine go ?_;refine ret () trivial ?_;simp [C7,g1,Sr]
 refine go ?_;refine Bf rfl (fun h=>?_) (fun h=>?_)
 ·refine go ?_;refine ret () trivial ?_;simp [C7,g1,Sr];omega
 refine go ?_;refine Ei [1,2,3] (fun k:Nat=>[(4,aa k)]) (fun k=>k<=x.Am.length/\(x.Am.take k).all H9=true) (fun k=>x.Am.length - k) 0 ⟨aD _,rfl⟩ fun k hk=>?_;obtain ⟨hk1,hk2⟩:=hk;refine go ?_;refine Bf rfl (fun h3=>?_) (fun h3=>?_)
 ·have hk3:k < x.Am.length:=EM
  refine Oz k ?_;rintro hi b o e s1;cases e;refine go ?_;refine ce (fun w s=>Sy _ _ _ s1) ?_;rw [Ba0];cases g2:Qd x.Am[k].Ea
  ·refine go ?_;refine ret () trivial ?_;have:x.Am.all H9=false:=Ac4 hk3 (by simp [H9,g2]);simp [C7,this,Sr]
  refine go ?_;cases g3:x.Am[k].Vi
  rotate_left
  ·refine go ?_;refine Cv (k+1) ⟨EM,by rw [Wy hk3,hk2];simp [H9,g2,g3]⟩ EM
  refine go ?_;refine Bf rfl (fun g4=>?_) (fun g4=>?_)
  ·refine go ?_;refine ret () trivial ?_;have:x.Am.all H9=false:=Ac4 hk3 (by simp [H9,g2,g3,g4]);simp [C7,this,Sr]
  ·refine go ?_;simp only [d9] at g4;have ho:H9 x.Am[k]=true:=by unfold H9;rw [g2,g3,au g4];rfl
   refine Cv (k+1) ⟨EM,by rw [Wy hk3,hk2,ho];rfl⟩ EM
 have hkl:k=x.Am.length:=EM
 subst hkl;rw [bG] at hk2;have g3:C7 x=Sq x.Am:=by simp [C7,g1,hk2];omega
 refine go ?_;refine Dm rfl rfl (fun h4=>?_) (fun h4=>?_)
 ·refine go ?_;refine ret () trivial ?_;rw [g3];have:x.Am.length=0:=EM
  simp [Sq,this,Sr]
 refine Oz 0 ?_;rintro hi b o e s1;cases e;refine go ?_;cases g4:x.Am[0].Vi
 rotate_left
 ·refine go ?_;refine ret () trivial ?_;rw [g3];unfold Sq;rw [I7 hi,g4,ay EM];rfl
 refine Oz (x.Am.length - 1) ?_;rintro hi2 b2 o2 e s2;cases e;refine go ?_;have hl:((x.Am.length:Int) - 1).toNat=x.Am.length - 1:=EM
 rw [hl];refine go ?_;refine ret () trivial ?_;rw [g3];unfold Sq;rw [I7 hi,I7 hi2,g4,ay EM];rfl
def Aj0 (s:am):am:=⟨#[43]⟩++s
def Am3:am:=⟨#[45]⟩
def Fh (l:List Hn):am:=match l with|[]=>Am3|s::_=>if s.Vi then Aj0 s.Ea else Am3
theorem Aa1 {l:List Hn} (hi:0 < l.length) (h:l[0].Vi=true):Fh l=Aj0 l[0].Ea:=by
 cases l with
 | nil=>simp at hi
 | cons s r=>simp at h;simp [Fh,h]
theorem Ago {l:List Hn} (hi:0 < l.length) (h:l[0].Vi=false):Fh l=Am3:=by
 cases l with
 | nil=>simp at hi
 | cons s r=>simp at h;simp [Fh,h]
def rel:Int->List Hn->Int × List Hn × ah
 | n,[]=>(n,[],[])
 | n,s::r=>if s.Vi then ((rel (A8 n 1) r).1,(rel (A8 n 1) r).2.1,Aj0 s.Ea::(rel (A8 n 1) r).2.2) else (n,s::r,[])
theorem Azi {n:Int} {l:List Hn} (h:C2 l 0=false):rel n l=(n,l,[]):=by
 cases l with
 | nil=>rfl
 | cons s r=>have:s.Vi=false:=h;simp [rel,this]
theorem Awu {n:Int} {l:List Hn} (h:C2 l 0=true):rel n l=((rel (A8 n 1) (l.drop 1)).1,(rel (A8 n 1) (l.drop 1)).2.1,Fh l::(rel (A8 n 1) (l.drop 1)).2.2):=by
 cases l with
 | nil=>cases h
 | cons s r=>have:s.Vi=true:=h;simp [rel,Fh,this]
theorem Azh {w:World} {a:ai} {c:Nat} {x:Ak} {F:ak} (h:(Pc.ow C5 190 (ab a x.Am.length c) x.Am F).P w):∃F',(Pc.isv Bz (.agg #[aa x.next,ab a x.Am.length c]) x F').P w:=by
 obtain ⟨F', -,hs⟩:=h.2.read;exact ⟨F',_,rfl,_,rfl,hs⟩
theorem An9 (x:Ak) (v:Value) (F:ak) (hl:x.Am.length<=4294967296):Fn prog 118 [v] [.isv Bz v x F] [] (fun (_:ai × Nat × ak)=>True)
  (fun s=>.agg #[aa x.next,ab s.1 x.Am.length s.2.1]) (fun s=>[.ow C5 190 (ab s.1 x.Am.length s.2.1) x.Am s.2.2]):=by
 refine enter func118 rfl ntmps118 fun w0=>?_;refine Cz ?_;rintro a1 c1 F1 rfl l1;refine go ?_;intros;refine cn (fun w s=>Xe _ _ _ _ (s.get (p:=.sl C5 (ab a1 x.Am.length c1) x.Am F1) EO).2 hl) fun a cp F'=>?_;refine go ?_;refine ret (a,cp,F') trivial rfl
theorem Afd (x:Ak) (g t o:Nat) (A B:aj) (a:ai) (cc:Nat) (F:ak) (h0:0<=x.next) (h1:x.next<=65535) (hl:x.Am.length<=4294967296) (hs:∀s∈x.Am,s.Ea.size<=8) :
  Fn prog 184 [Fv g o 0] [] [.row g t o A [aa x.next,ab a x.Am.length cc] B,.ow C5 190 (ab a x.Am.length cc) x.Am F] (fun (_:ai × Nat × ak)=>True)
   (fun _=>af (Fh x.Am)) (fun s=>[.row g t o A [aa (A8 x.next 1),.slice s.1 (x.Am.drop 1).length s.2.1] B,.ow C5 190 (.slice s.1 (x.Am.drop 1).length s.2.1) (x.Am.drop 1) s.2.2]):=by
 refine enter func184 rfl ntmps184 fun w0=>?_;refine go ?_;refine Bf rfl (fun h=>?_) (fun h=>?_)
 ·refine Az fun F'=>?_;refine Oz 0 ?_;rintro hi b o2 e s1;cases e;refine go ?_;have s8:=hs _ (aE hi);have s9:(⟨#[43]⟩:am).size=1:=rfl;cases g1:x.Am[0].Vi
  ·refine go ?_;apply wO;refine sld 1 fun a2 c2 F2=>?_;refine go ?_;refine cn (fun w s=>Xe _ _ _ _ (s.get (p:=.sl C5 (.slice a2 (x.Am.drop 1).length c2) (x.Am.drop 1) F2) EO).2 ET) fun a3 c3 F3=>?_;refine go ?_;refine ce (fun w s=>Q4 _ _ _ EM EM) ?_;refine go ?_;refine ret (a3,c3,F3) trivial ?_;rw [Ago hi g1];rfl
  ·refine go ?_;apply wO;refine sld 1 fun a2 c2 F2=>?_;refine go ?_;refine cn (fun w s=>Xe _ _ _ _ (s.get (p:=.sl C5 (.slice a2 (x.Am.drop 1).length c2) (x.Am.drop 1) F2) EO).2 ET) fun a3 c3 F3=>?_;refine go ?_;refine ce (fun w s=>Q4 _ _ _ EM EM) ?_;refine go ?_;refine ret (a3,c3,F3) trivial ?_;rw [Aa1 hi g1];rfl
 ·obtain ⟨n,l⟩:=x;obtain rfl:l=[]:=bK EU;refine go ?_;refine ce (fun w s=>Q4 _ _ _ EM EM) ?_;refine go ?_;refine ret (a,cc,F) trivial rfl
def Og (x:Ak):Ak:=⟨(rel x.next x.Am).1,(rel x.next x.Am).2.1⟩
def Pj (x:Ak):ah:=(rel x.next x.Am).2.2
def Ww (x:Ak):Ak:=⟨A8 x.next 1,x.Am.drop 1⟩
theorem Zl {x:Ak} (h:C2 x.Am 0=false):Og x=x/\Pj x=[]:=by unfold Og Pj;rw [Azi h];exact ⟨rfl,rfl⟩
theorem Aht {x:Ak} (h:C2 x.Am 0=true):Og x=Og (Ww x)/\Pj x=Fh x.Am::Pj (Ww x):=by unfold Og Pj;rw [Awu h];exact ⟨rfl,rfl⟩
theorem Ra {l:List Hn} (h:∀s∈l,s.Ea.size<=8):(Fh l).size<=9:=by
 cases l with
 | nil=>decide
 | cons s r =>
  have:=h s EO;unfold Fh;dsimp only
  split
  ·unfold Aj0;rw [cH];show 1+s.Ea.size<=9;omega
  ·decide
theorem Aox (y:Ak):Ho y y.next=C2 y.Am 0:=by
 unfold Ho gp;rw [Int.sub_self];rfl
theorem Sz (s:am) (h:s.size<=maxLen) (w:World):C6 Bc w [af s] [s] []:=⟨_,[],[],[],EO,EO,⟨rfl,h,rfl⟩,rfl,rfl⟩
structure Z8 where
 es:ah
 y:Ak
 a:ai
 c:Nat
 F:ak
 ae:ai
 ce:Nat
 Fe:ak
structure Axs (x:Ak) (s:Z8):Prop where
 n0:0<=s.y.next
 n1:s.y.next<=65535
 it:∀z∈s.y.Am,z.Ea.size<=8
 ln:s.es.length+s.y.Am.length<=x.Am.length
 w:Og x=Og s.y
 e:Pj x=s.es++Pj s.y
theorem Abd (x:Ak) (g t o:Nat) (A B:aj) (a:ai) (cc:Nat) (F:ak) (h0:0<=x.next) (h1:x.next<=65535) (hl:x.Am.length<=1000000) (hs:∀s∈x.Am,s.Ea.size<=8) :
  Fn prog 185 [Fv g o 0] [] [.row g t o A [aa x.next,ab a x.Am.length cc] B,.ow C5 190 (ab a x.Am.length cc) x.Am F] (fun (s:Z8)=>s.y=Og x/\s.es=Pj x)
   (fun s=>ab s.ae s.es.length s.ce) (fun s=>[.row g t o A [aa s.y.next,ab s.a s.y.Am.length s.c] B,.ow C5 190 (ab s.a s.y.Am.length s.c) s.y.Am s.F,.ow Bc 9 (ab s.ae s.es.length s.ce) s.es s.Fe]):=by
 refine enter func185 rfl ntmps185 fun w0=>?_;refine go ?_;refine B4 Bc 9 ?_;refine Cu [0,2] (fun s:Z8=>[(3,ab s.ae s.es.length s.ce)]) (fun s=>[.row g t o A [aa s.y.next,ab s.a s.y.Am.length s.c] B,.ow C5 190 (ab s.a s.y.Am.length s.c) s.y.Am s.F,.ow Bc 9 (ab s.ae s.es.length s.ce) s.es s.Fe]) (Axs x) (fun s=>s.y.Am.length) ⟨[],x,a,cc,F,none,0,[]⟩ ⟨h0,h1,hs,EO,rfl,rfl⟩ fun s hC=>?_;obtain ⟨n0,n1,hit,hln,hw,he⟩:=hC;refine go ?_;refine As [0] [] ?_;refine D7 0 1 2 3 ?_;refine Ek 4 5 ?_;refine dt 6 ?_;refine dN 7 ?_;refine oC ?_;refine cb (fun w st=>by
  obtain ⟨F',h⟩:=Azh (st.get (p:=.ow C5 190 (ab s.a s.y.Am.length s.c) s.y.Am s.F) EO);exact (Yl s.y s.y.next _ F' n0 n1 n0 n1).val w (I0 h)) ?_
 refine dk ?_;refine dd ?_;rw [Aox];cases hv:C2 s.y.Am 0
 ·refine go ?_;refine ret s ⟨by rw [hw,(Zl hv).1],by rw [he,(Zl hv).2,aP]⟩ rfl
 refine go ?_;refine cf (Afd s.y g t o A B s.a s.c s.F n0 n1 EM hit) fun z _=>?_;obtain ⟨az,cz,Fz⟩:=z;refine Q3 ?_;have hsz:=Ra hit;have hmx:(Fh s.y.Am).size<=maxLen:=FG
 have hlt:0 < s.y.Am.length:=by
  rcases bQ s.y.Am.length with h|h
  ·rw [Lq EM] at hv;cases hv
  ·exact h
 have hll:s.es.length+1<=1000000:=EM
 refine go ?_;intros;apply wO;refine No (Sz _ hmx) Ej fun a' c' F'=>?_;refine go ?_;refine Cv ⟨s.es++[Fh s.y.Am],Ww s.y,az,cz,Fz,a',c',F'⟩ ⟨(Is _ _).1,(Is _ _).2,fun z hz=>hit z (bj hz),HH,by rw [hw,(Aht hv).1],by rw [he,(Aht hv).2];simp⟩ HH
def zsl:Hn:=⟨false,⟨#[]⟩⟩
def Lj (x:Ak) (j:Nat):List Hn:=x.Am++List.replicate j zsl
theorem Nb (x:Ak) (j:Nat):(Lj x j).length=x.Am.length+j:=by simp [Lj]
def Kh (x:Ak) (k:Nat) (s:Hn):List Hn:=(Lj x (k+1 - x.Am.length)).set k s
def Em (x:Ak) (n:Int):Bool:=Qa n x.next || Ho x n
def Ms (x:Ak) (n:Int):Bool:=Em x n || decide (gp x.next n < 8)
def Mz (x:Ak) (n:Int) (s:am):Ak:=⟨x.next,Kh x (gp x.next n).toNat ⟨true,s⟩⟩
def Hy (x:Ak) (n:Int) (s:am):Ak:=if Em x n || !decide (gp x.next n < 8) then x else Og (Mz x n s)
def Jb (x:Ak) (n:Int) (s:am):ah:=if Em x n || !decide (gp x.next n < 8) then [] else Pj (Mz x n s)
def Ec (a b:Int):Nat:=if Qa a b then (gp a b).toNat else 0
def Hw:Nat->Ak->Ak
 | 0,y=>y
 | k+1,y=>Hw k (Ww y)
def Mu:Nat->Ak->ah
 | 0,_=>[]
 | k+1,y=>Fh y.Am::Mu k (Ww y)
theorem Agr {a b:Int} (h:Qa a b=false):Ec a b=0:=by unfold Ec;rw [h];rfl
theorem Aek {a b:Int} (h:Qa a b=true):Ec a b=Ec (A8 a 1) b+1:=by
 unfold Ec;rw [h];unfold Qa Ht gp A8 at *;simp only [av,aC,if_true] at h ⊢
 split <;> omega
theorem Agq (a b:Int):Ec a b<=32767:=by
 unfold Ec
 split
 ·rename_i h;unfold Qa Ht at h;simp only [av,aC] at h;omega
 ·omega
theorem Ad9 (s:Hn) (h:s.Ea.size<=maxLen) (w:World):C6 C5 w [.bool s.Vi,af s.Ea] [s] []:=⟨_,[],[],[],EO,EO,⟨rfl,h,rfl⟩,rfl,rfl⟩
theorem Xz {x:Ak} {k:Nat} (hs:∀s∈x.Am,s.Ea.size<=8) {s:Hn} (hi:s.Ea.size<=8):∀z∈Kh x k s,z.Ea.size<=8:=fun z hz=>by
 unfold Kh at hz;rcases bq hz with h|rfl
 ·unfold Lj at h;rcases aG.1 h with h|h
  ·exact hs z h
  ·rw [(dA.1 h).2];decide
 ·exact hi
structure Ayk where
 j:Nat
 a:ai
 c:Nat
 F:ak
theorem Aq9 (x:Ak) (n:Int) (Ea:am) (g t o:Nat) (A B:aj) (a:ai) (cc:Nat) (F:ak) (h0:0<=x.next) (h1:x.next<=65535) (h2:0<=n) (h3:n<=65535) (hl:x.Am.length<=8) (hs:∀s∈x.Am,s.Ea.size<=8) (hi:Ea.size<=8) :
  Fn prog 252 [Fv g o 0,aa n,af Ea] [] [.row g t o A [aa x.next,ab a x.Am.length cc] B,.ow C5 190 (ab a x.Am.length cc) x.Am F] (fun (s:Z8)=>s.y=Hy x n Ea/\s.es=Jb x n Ea)
   (fun s=>.tuple #[ab s.ae s.es.length s.ce,.bool (Ms x n)]) (fun s=>[.row g t o A [aa s.y.next,ab s.a s.y.Am.length s.c] B,.ow C5 190 (ab s.a s.y.Am.length s.c) s.y.Am s.F,.ow Bc 9 (ab s.ae s.es.length s.ce) s.es s.Fe]):=by
 have hg:=Kc x.next n
 refine enter func252 rfl ntmps252 fun w0=>?_;refine go ?_;refine ce (fun w s=>M6 _ _ _ EM EM EM EM) ?_;cases g1:Qa n x.next
 rotate_left
 ·refine go ?_;refine B4 Bc 9 ?_;refine ret ⟨[],x,a,cc,F,none,0,[]⟩ ⟨by simp [Hy,Em,g1],by simp [Jb,Em,g1]⟩ ?_;simp [Ms,Em,g1,Sr]
 refine go ?_;refine cb (fun w st=>by
  obtain ⟨F',h⟩:=Azh (st.get (p:=.ow C5 190 (ab a x.Am.length cc) x.Am F) EO);exact (Yl x n _ F' h0 h1 h2 h3).val w (I0 h)) ?_
 cases g2:Ho x n
 rotate_left
 ·refine go ?_;refine B4 Bc 9 ?_;refine ret ⟨[],x,a,cc,F,none,0,[]⟩ ⟨by simp [Hy,Em,g1,g2],by simp [Jb,Em,g1,g2]⟩ ?_;simp [Ms,Em,g1,g2,Sr]
 refine go ?_;refine ce (fun w s=>Om _ _ _ EM EM EM EM) ?_;refine go ?_;refine Bf rfl (fun h8=>?_) (fun h8=>?_)
 ·refine go ?_;refine B4 Bc 9 ?_;have h9:¬gp x.next n < 8:=EM
  refine ret ⟨[],x,a,cc,F,none,0,[]⟩ ⟨by simp [Hy,h9],by simp [Jb,h9]⟩ ?_;simp [Ms,Em,g1,g2,h9,Sr]
 have hW:Hy x n Ea=Og (Mz x n Ea):=by unfold Hy Em;rw [g1,g2,au EM];rfl
 have hE:Jb x n Ea=Pj (Mz x n Ea):=by unfold Jb Em;rw [g1,g2,au EM];rfl
 have hO:Ms x n=true:=by unfold Ms;rw [au (show gp x.next n < 8 by omega)];simp
 unfold Mz at hW hE;obtain ⟨k,hk⟩:∃k:Nat,gp x.next n=k:=⟨(gp x.next n).toNat,EM⟩
 rw [hk] at hW hE ⊢;rw [ba] at hW hE;refine go ?_;refine Cu [0,2,6,7,8] (fun s:Ayk=>[]) (fun s=>[.row g t o A [aa x.next,.slice s.a (Lj x s.j).length s.c] B,.ow C5 190 (.slice s.a (Lj x s.j).length s.c) (Lj x s.j) s.F]) (fun s=>s.j<=k+1 - x.Am.length) (fun s=>k+1 - x.Am.length - s.j) ⟨0,a,cc,F⟩ (aD _) (fun s hj=>?_) (hH:=JP);have hpl:=Nb x s.j;refine go ?_;refine Bf rfl (fun h9=>?_) (fun h9=>?_)
 ·refine go ?_;intros;apply wO;refine No (Ad9 zsl EN) Id fun a' c' F'=>?_;refine go ?_;have e:Lj x s.j++[zsl]=Lj x (s.j+1):=by simp [Lj,dG]
  exact CM
 have hjk:s.j=k+1 - x.Am.length:=EM
 refine go ?_;have hkl:k < (Lj x s.j).length:=EM
 refine Ahd k ?_;rintro hi2 g2 A2 B2 e eF hs2 hh;rw [e];refine Ke ?_;intros;refine Pf (⟨true,Ea⟩:Hn) hh (fun w=>⟨rfl,IR,rfl⟩) ?_;have hsl:(Lj x s.j).length=((Lj x s.j).set k ⟨true,Ea⟩).length:=by rw [bw]
 rw [hsl];have hpu:(Lj x s.j).set k ⟨true,Ea⟩=Kh x k ⟨true,Ea⟩:=by unfold Kh;rw [hjk]
 rw [hpu];have hpl2:(Kh x k ⟨true,Ea⟩).length<=1000:=by unfold Kh;rw [bw,Nb];omega
 have hps:=Xz (x:=x) (k:=k) hs (s:=⟨true,Ea⟩) hi;refine go ?_;refine Bw (Abd ⟨x.next,Kh x k ⟨true,Ea⟩⟩ g t o A B _ _ _ h0 h1 (by show (Kh x k ⟨true,Ea⟩).length<=_;omega) hps) fun z hz=>?_;refine go ?_;refine ret z ⟨by rw [hz.1,hW],by rw [hz.2,hE]⟩ ?_;rw [hO];rfl
structure Aq1 (x:Ak) (n:Int) (s:Z8):Prop where
 n0:0<=s.y.next
 n1:s.y.next<=65535
 it:∀z∈s.y.Am,z.Ea.size<=8
 ln:s.y.Am.length<=x.Am.length
 le:s.es.length+Ec s.y.next n<=Ec x.next n
 w:Hw (Ec x.next n) x=Hw (Ec s.y.next n) s.y
 e:Mu (Ec x.next n) x=s.es++Mu (Ec s.y.next n) s.y
theorem Aj6 (x:Ak):(Pj x).length<=x.Am.length:=by
 unfold Pj;have:∀(l:List Hn) n,(rel n l).2.2.length<=l.length:=by
  intro l
  induction l with
  | nil=>intro n;simp [rel]
  | cons s r ih=>intro n;unfold rel;split;simp;exact ih _;simp
 exact this _ _
theorem Ain (x:Ak) (n:Int) (g t o:Nat) (A B:aj) (a:ai) (cc:Nat) (F:ak) (h0:0<=x.next) (h1:x.next<=65535) (h2:0<=n) (h3:n<=65535) (hl:x.Am.length<=8) (hs:∀s∈x.Am,s.Ea.size<=8) :
  Fn prog 127 [Fv g o 0,aa n] [] [.row g t o A [aa x.next,ab a x.Am.length cc] B,.ow C5 190 (ab a x.Am.length cc) x.Am F] (fun (s:Z8)=>s.y=Og (Hw (Ec x.next n) x)/\s.es=Mu (Ec x.next n) x++Pj (Hw (Ec x.next n) x))
   (fun s=>ab s.ae s.es.length s.ce) (fun s=>[.row g t o A [aa s.y.next,ab s.a s.y.Am.length s.c] B,.ow C5 190 (ab s.a s.y.Am.length s.c) s.y.Am s.F,.ow Bc 9 (ab s.ae s.es.length s.ce) s.es s.Fe]):=by
 have hgn:=Agq x.next n
 refine enter func127 rfl ntmps127 fun w0=>?_;refine go ?_;refine B4 Bc 9 ?_;refine Cu [0,1,4] (fun s:Z8=>[(5,ab s.ae s.es.length s.ce)]) (fun s=>[.row g t o A [aa s.y.next,ab s.a s.y.Am.length s.c] B,.ow C5 190 (ab s.a s.y.Am.length s.c) s.y.Am s.F,.ow Bc 9 (ab s.ae s.es.length s.ce) s.es s.Fe]) (Aq1 x n) (fun s=>Ec s.y.next n) ⟨[],x,a,cc,F,none,0,[]⟩ ⟨h0,h1,hs,aA _,EO,rfl,rfl⟩ fun s hC=>?_;obtain ⟨n0,n1,hit,hln,hle,hw,he⟩:=hC;refine go ?_;refine ce (fun w s=>M6 _ _ _ EM EM EM EM) ?_;cases hb:Qa s.y.next n
 ·refine go ?_;rw [Agr hb] at hw he;refine Bw (Abd s.y g t o A B s.a s.c s.F n0 n1 EM hit) fun z hz=>?_;refine go ?_;have hr:=Aj6 s.y;have hzl:z.es.length<=s.y.Am.length:=by rw [hz.2];exact hr
  refine Az (xs:=z.es) fun F'=>?_;apply wO;refine M0 Ej Gp fun a' c' F2=>?_;exact DT
 have hst:=Aek hb;refine go ?_;refine cf (Afd s.y g t o A B s.a s.c s.F n0 n1 EM hit) fun z _=>?_;obtain ⟨az,cz,Fz⟩:=z;refine Q3 ?_;have hsz:=Ra hit;have hmx:(Fh s.y.Am).size<=maxLen:=FG
 refine go ?_;intros;apply wO;refine No (Sz _ hmx) Ej fun a' c' F'=>?_;refine go ?_;refine Cv ⟨s.es++[Fh s.y.Am],Ww s.y,az,cz,Fz,a',c',F'⟩ ⟨(Is _ _).1,(Is _ _).2,fun z hz=>hit z (bj hz),HH,HH,by rw [hw,hst];rfl,by rw [he,hst];simp [Mu,Ww]⟩ (by show Ec (A8 s.y.next 1) n < _;omega)
def zRW:Ak:=⟨0,[]⟩
def U2 (x:Ak) (n:Int) (s:am):Bool:=C7 x && Cm n && Qd s && Ms x n
def Ja (x:Ak) (n:Int) (s:am):Ak × ah × Bool:=if U2 x n s then (Hy x n s,Jb x n s,true) else (zRW,[],false)
theorem Ajw {s:Hn} (h:H9 s=true):s.Ea.size<=8:=by
 unfold H9 Qd at h;simp only [av,aC] at h;omega
structure Ayi (x:Ak):Prop where
 n0:0<=x.next
 n1:x.next<=65535
 l:x.Am.length<=8
 it:∀s∈x.Am,s.Ea.size<=8
theorem Acc {x:Ak} (h:C7 x=true):Ayi x:=by
 unfold C7 at h;simp only [av,aC] at h;have hs:=Bb.1 h.1.1.1;exact ⟨hs.1,hs.2,EM,fun s hs=>Ajw (aQ.1 h.1.2 s hs)⟩
theorem V1 {s:am} (h:Qd s=true):s.size<=8:=by unfold Qd at h;simp only [av,aC] at h;omega
structure CpS where
 g:Nat
 a:ai
 c:Nat
 F:ak
theorem Uw (x:Ak) (v:Value) (F:ak) (h0:0<=x.next) (h1:x.next<=65535) (hl:x.Am.length<=1000000) (hs:∀s∈x.Am,s.Ea.size<=8) :
  Fn prog 218 [v] [.isv Bz v x F] [] (fun (s:Z8)=>s.y=Og x/\s.es=Pj x)
   (fun s=>.tuple #[.agg #[aa s.y.next,ab s.a s.y.Am.length s.c],ab s.ae s.es.length s.ce]) (fun s=>[.isv Bz (.agg #[aa s.y.next,ab s.a s.y.Am.length s.c]) s.y s.F,.ow Bc 9 (ab s.ae s.es.length s.ce) s.es s.Fe]):=by
 refine enter func218 rfl ntmps218 fun w0=>?_;refine Cz ?_;rintro a1 c1 F1 rfl l1;unfold maxLen at l1;refine go ?_;intros;refine Gw [2,3] [0] (fun s:CpS=>[(4,Fv s.g 0 0)]) (fun s=>[.row s.g 80 0 [] [aa x.next,ab s.a x.Am.length s.c] [],.ow C5 190 (ab s.a x.Am.length s.c) x.Am s.F]) (fun _=>True) ?_ fun s _=>?_
 ·refine As [0,1] [8] ?_;refine D7 0 1 3 4 ?_;refine dM 2 7 ?_ ?_
  ·apply Lt;rfl;intro _;refine Dk C5 ?_;refine dk ?_;refine dM 5 7 ?_ ?_
   ·exact AW
   ·apply Cq;rfl;intro _;exact AF
  ·exact CN
 obtain ⟨gg,a2,c2,F2⟩:=s;refine Az (xs:=x.Am) fun F3=>?_;refine go ?_;intros;refine Dk Bc ?_;refine Cu [2,3,4] (fun s:Z8=>[(5,ab s.ae s.es.length s.ce)]) (fun s=>[.row gg 80 0 [] [aa s.y.next,ab s.a s.y.Am.length s.c] [],.sl C5 (ab s.a s.y.Am.length s.c) s.y.Am s.F,.ow Bc 9 (ab s.ae s.es.length s.ce) s.es s.Fe]) (Axs x) (fun s=>s.y.Am.length) ⟨[],x,a2,c2,F3,_,0,_⟩ ⟨h0,h1,hs,EO,rfl,rfl⟩ fun s hC=>?_;obtain ⟨n0,n1,hit,hln,hw,he⟩:=hC;have stop:C2 s.y.Am 0=false->s.y=Og x/\s.es=Pj x:=fun h=>⟨by rw [hw,(Zl h).1],by rw [he,(Zl h).2,aP]⟩;refine go ?_
 refine Dm rfl rfl (fun h4=>?_) (fun h4=>?_)
 rotate_left
 ·refine go ?_;have hv:C2 s.y.Am 0=false:=Lq EM;refine Cr s.y ?_;refine ret s (stop hv) rfl
 refine Oz 0 ?_;rintro hi b o e s1;rw [e];refine go ?_;cases g1:s.y.Am[0].Vi
 ·refine go ?_;rw [<-e];refine Cr s.y ?_;refine ret s (stop (by rw [I7 hi,g1])) rfl
 have hv:C2 s.y.Am 0=true:=by rw [I7 hi,g1]
 have hz:=hit _ (aE hi);have h43:(⟨#[43]⟩:am).size=1:=rfl;have hpl:(⟨#[43]⟩++s.y.Am[0].Ea:am)=Fh s.y.Am:=(Aa1 hi g1).symm;have hmx:(Fh s.y.Am).size<=maxLen:=by have:=Ra hit;unfold maxLen;omega
 have hll:s.es.length+1<=1000000:=EM
 refine go ?_;intros;rw [hpl];apply wO;refine No (Sz _ hmx) Ej fun a' c' F'=>?_;refine go ?_;refine As [1,2] [7] ?_;refine D7 0 1 3 4 ?_;refine Ala 5 1 fun a5 c5 F5=>?_;refine dN 2 ?_;refine oC ?_;refine ce (fun w s=>Hc _ _ _ EM EM) ?_;refine dk ?_;refine dt 6 ?_;refine dN 7 ?_;refine oS ?_;refine Pg ?_;refine dd ?_;refine go ?_;refine Cv ⟨s.es++[Fh s.y.Am],Ww s.y,a5,c5,F5,a',c',F'⟩ ⟨(Is _ _).1,(Is _ _).2,fun z hz=>hit z (bj hz),HH,by rw [hw,(Aht hv).1],by rw [he,(Aht hv).2];simp⟩ HH
theorem Alo (x:Ak) (n:Int) (v:Value) (F:ak) (h0:0<=x.next) (h1:x.next<=65535) (h2:0<=n) (h3:n<=65535) (hl:x.Am.length<=8) :
  FV 220 [v,aa n] [.isv Bz v x F] (.bool (Ms x n)):=by
 have hg:=Kc x.next n
 have hh:¬gp x.next n < 8->Ho x n=false:=fun h=>Lq EM
 refine enter func220 rfl ntmps220 fun w0=>?_;refine Cz ?_;rintro a1 c1 F1 rfl l1;refine go ?_;intros;refine ce (fun w s=>Ps _ _ _ EM EM) ?_;cases g1:Qa n x.next
 ·refine go ?_;refine ce (fun w s=>I1 _ _ _ EM EM) ?_;refine go ?_;refine ret () trivial ?_;unfold Ms Em;rw [g1];by_cases h8:gp x.next n < 8
  ·simp [h8,Sr]
  ·simp [h8,hh h8,Sr]
 ·refine go ?_;refine ret () trivial ?_;simp [Ms,Em,g1,Sr]
theorem Ao7 (x:Ak) (n:Int) (Ea:am) (v:Value) (F:ak) (h0:0<=x.next) (h1:x.next<=65535) (h2:0<=n) (h3:n<=65535) (hl:x.Am.length<=8) (hs:∀s∈x.Am,s.Ea.size<=8) (hi:Ea.size<=8) (hok:Ms x n=true) :
  Fn prog 221 [v,aa n,af Ea] [.isv Bz v x F] [] (fun (s:Z8)=>s.y=Hy x n Ea/\s.es=Jb x n Ea)
   (fun s=>.tuple #[.agg #[aa s.y.next,ab s.a s.y.Am.length s.c],ab s.ae s.es.length s.ce]) (fun s=>[.isv Bz (.agg #[aa s.y.next,ab s.a s.y.Am.length s.c]) s.y s.F,.ow Bc 9 (ab s.ae s.es.length s.ce) s.es s.Fe]):=by
 have hg:=Kc x.next n
 refine enter func221 rfl ntmps221 fun w0=>?_;refine Cz ?_;rintro a1 c1 F1 rfl l1;refine go ?_;intros;refine ce (fun w s=>I1 _ _ _ EM EM) ?_;obtain ⟨k,hk⟩:∃k:Nat,gp x.next n=k:=⟨(gp x.next n).toNat,EM⟩
 rw [hk];refine go ?_;refine Gw [1,2,3,6,7,8] [0,1,2] (fun s:CpS=>[(9,Fv s.g 0 0)]) (fun s=>[.row s.g 80 0 [] [aa x.next,ab s.a x.Am.length s.c] [],.ow C5 190 (ab s.a x.Am.length s.c) x.Am s.F]) (fun _=>True) ?_ fun s _=>?_
 ·refine As [0,1] [8] ?_;refine D7 0 1 3 4 ?_;refine dM 2 7 ?_ ?_
  ·apply Lt;rfl;intro _;refine Dk C5 ?_;refine dk ?_;refine dM 5 7 ?_ ?_
   ·exact AW
   ·apply Cq;rfl;intro _;exact AF
  ·exact CN
 obtain ⟨gg,a2,c2,F2⟩:=s;refine go ?_;refine ce (fun w s=>Ps _ _ _ EM EM) ?_;cases g1:Qa n x.next
 rotate_left
 ·refine go ?_;intros;refine Dk Bc ?_;refine Az (xs:=x.Am) fun F3=>?_;refine Cr x ?_;refine ret ⟨[],x,a2,c2,F3,_,0,_⟩ ⟨by simp [Hy,Em,g1],by simp [Jb,Em,g1]⟩ rfl
 refine go ?_;refine Dm rfl rfl (fun h4=>?_) (fun h4=>?_)
 ·refine Oz k ?_;rintro hi2 b2 o2 e s1;cases e;refine go ?_;cases g4:x.Am[k].Vi
  rotate_left
  ·have hb:Ho x n=true:=by unfold Ho;rw [hk,ba,I7 hi2];exact g4
   refine go ?_;intros;refine Dk Bc ?_;refine Az (xs:=x.Am) fun F3=>?_;refine Cr x ?_;refine ret ⟨[],x,a2,c2,F3,_,0,_⟩ ⟨by simp [Hy,Em,hb],by simp [Jb,Em,hb]⟩ rfl
  have hpad:Ho x n=false:=by unfold Ho;rw [hk,ba,I7 hi2];exact g4
  have hno:Em x n=false:=by unfold Em;rw [g1,hpad];rfl
  have h8:gp x.next n < 8:=by unfold Ms at hok;rw [hno] at hok;simpa using hok
  have hW:Hy x n Ea=Og (Mz x n Ea):=by unfold Hy;rw [hno,au h8];rfl
  have hE:Jb x n Ea=Pj (Mz x n Ea):=by unfold Jb;rw [hno,au h8];rfl
  unfold Mz at hW hE;rw [hk,ba] at hW hE;refine go ?_;refine Cu [2,6,7,8,9] (fun s:Ayk=>[]) (fun s=>[.row gg 80 0 [] [aa x.next,.slice s.a (Lj x s.j).length s.c] [],.ow C5 190 (.slice s.a (Lj x s.j).length s.c) (Lj x s.j) s.F]) (fun s=>s.j<=k+1 - x.Am.length) (fun s=>k+1 - x.Am.length - s.j) ⟨0,a2,c2,F2⟩ (aD _) (fun s hj=>?_) (hH:=JP);have hpl:=Nb x s.j;refine go ?_;refine Bf rfl (fun h9=>?_) (fun h9=>?_)
  ·refine go ?_;intros;apply wO;refine No (Ad9 zsl EN) Id fun a' c' F'=>?_;refine go ?_;have e:Lj x s.j++[zsl]=Lj x (s.j+1):=by simp [Lj,dG]
   exact CM
  have hjk:s.j=k+1 - x.Am.length:=EM
  refine go ?_;have hkl:k < (Lj x s.j).length:=EM
  refine Ahd k ?_;rintro hi2 g2 A2 B2 e eF hs2 hh;rw [e];refine Ke ?_;intros;refine Pf (⟨true,Ea⟩:Hn) hh (fun w=>⟨rfl,IR,rfl⟩) ?_;have hsl:(Lj x s.j).length=((Lj x s.j).set k ⟨true,Ea⟩).length:=by rw [bw]
  rw [hsl];have hpu:(Lj x s.j).set k ⟨true,Ea⟩=Kh x k ⟨true,Ea⟩:=by unfold Kh;rw [hjk]
  rw [hpu];have hpl2:(Kh x k ⟨true,Ea⟩).length<=1000:=by unfold Kh;rw [bw,Nb];omega
  exact AX
 ·have hpad:Ho x n=false:=Lq EM;have hno:Em x n=false:=by unfold Em;rw [g1,hpad];rfl
  have h8:gp x.next n < 8:=by unfold Ms at hok;rw [hno] at hok;simpa using hok
  have hW:Hy x n Ea=Og (Mz x n Ea):=by unfold Hy;rw [hno,au h8];rfl
  have hE:Jb x n Ea=Pj (Mz x n Ea):=by unfold Jb;rw [hno,au h8];rfl
  unfold Mz at hW hE;rw [hk,ba] at hW hE;refine go ?_;refine Cu [2,6,7,8,9] (fun s:Ayk=>[]) (fun s=>[.row gg 80 0 [] [aa x.next,.slice s.a (Lj x s.j).length s.c] [],.ow C5 190 (.slice s.a (Lj x s.j).length s.c) (Lj x s.j) s.F]) (fun s=>s.j<=k+1 - x.Am.length) (fun s=>k+1 - x.Am.length - s.j) ⟨0,a2,c2,F2⟩ (aD _) (fun s hj=>?_) (hH:=JP);have hpl:=Nb x s.j;refine go ?_;refine Bf rfl (fun h9=>?_) (fun h9=>?_)
  ·refine go ?_;intros;apply wO;refine No (Ad9 zsl EN) Id fun a' c' F'=>?_;refine go ?_;have e:Lj x s.j++[zsl]=Lj x (s.j+1):=by simp [Lj,dG]
   exact CM
  have hjk:s.j=k+1 - x.Am.length:=EM
  refine go ?_;have hkl:k < (Lj x s.j).length:=EM
  refine Ahd k ?_;rintro hi2 g2 A2 B2 e eF hs2 hh;rw [e];refine Ke ?_;intros;refine Pf (⟨true,Ea⟩:Hn) hh (fun w=>⟨rfl,IR,rfl⟩) ?_;have hsl:(Lj x s.j).length=((Lj x s.j).set k ⟨true,Ea⟩).length:=by rw [bw]
  rw [hsl];have hpu:(Lj x s.j).set k ⟨true,Ea⟩=Kh x k ⟨true,Ea⟩:=by unfold Kh;rw [hjk]
  rw [hpu];have hpl2:(Kh x k ⟨true,Ea⟩).length<=1000:=by unfold Kh;rw [bw,Nb];omega
  exact AX
theorem Sx (x:Ak) (n:Int) (v:Value) (F:ak) (h0:0<=x.next) (h1:x.next<=65535) (h2:0<=n) (h3:n<=65535) (hl:x.Am.length<=8) (hs:∀s∈x.Am,s.Ea.size<=8) :
  Fn prog 196 [v,aa n] [.isv Bz v x F] [] (fun (s:Z8)=>s.y=Og (Hw (Ec x.next n) x)/\s.es=Mu (Ec x.next n) x++Pj (Hw (Ec x.next n) x))
   (fun s=>.tuple #[.agg #[aa s.y.next,ab s.a s.y.Am.length s.c],ab s.ae s.es.length s.ce]) (fun s=>[.isv Bz (.agg #[aa s.y.next,ab s.a s.y.Am.length s.c]) s.y s.F,.ow Bc 9 (ab s.ae s.es.length s.ce) s.es s.Fe]):=by
 have hgn:=Agq x.next n
 refine enter func196 rfl ntmps196 fun w0=>?_;refine Cz ?_;rintro a1 c1 F1 rfl l1;refine go ?_;intros;refine Gw [1,4,5] [0] (fun s:CpS=>[(6,Fv s.g 0 0)]) (fun s=>[.row s.g 80 0 [] [aa x.next,ab s.a x.Am.length s.c] [],.ow C5 190 (ab s.a x.Am.length s.c) x.Am s.F]) (fun _=>True) ?_ fun s _=>?_
 ·refine As [0,1] [8] ?_;refine D7 0 1 3 4 ?_;refine dM 2 7 ?_ ?_
  ·apply Lt;rfl;intro _;refine Dk C5 ?_;refine dk ?_;refine dM 5 7 ?_ ?_
   ·exact AW
   ·apply Cq;rfl;intro _;exact AF
  ·exact CN
 obtain ⟨gg,a2,c2,F2⟩:=s;refine Az (xs:=x.Am) fun F3=>?_;refine go ?_;intros;refine Dk Bc ?_;refine Cu [1,4,5,6] (fun s:Z8=>[(7,ab s.ae s.es.length s.ce)]) (fun s=>[.row gg 80 0 [] [aa s.y.next,ab s.a s.y.Am.length s.c] [],.sl C5 (ab s.a s.y.Am.length s.c) s.y.Am s.F,.ow Bc 9 (ab s.ae s.es.length s.ce) s.es s.Fe]) (Aq1 x n) (fun s=>Ec s.y.next n) ⟨[],x,a2,c2,F3,_,0,_⟩ ⟨h0,h1,hs,aA _,EO,rfl,rfl⟩ fun s hC=>?_;obtain ⟨n0,n1,hit,hln,hle,hw,he⟩:=hC;refine go ?_;refine ce (fun w s=>Ps _ _ _ EM EM) ?_;cases hb:Qa s.y.next n
 ·refine Ke ?_;intros;refine Cr s.y ?_;refine go ?_;rw [Agr hb] at hw he;refine Bw (Uw s.y _ _ n0 n1 EM hit) fun z hz=>?_;refine go ?_;intros;have hr:=Aj6 s.y;have hzl:z.es.length<=s.y.Am.length:=by rw [hz.2];exact hr
  refine Az (xs:=z.es) fun F'=>?_;refine As [1] [] ?_;refine Ek 0 1 ?_;refine dt 2 ?_;refine dN 3 ?_;refine M0 Ej Gp fun a' c' F2=>?_;refine dk ?_;refine dN 4 ?_;refine oS ?_;refine dk ?_;refine dt 5 ?_;refine dd ?_;exact DT
 have hst:=Aek hb;have hmx:(Fh s.y.Am).size<=maxLen:=by have:=Ra hit;unfold maxLen;omega
 refine go ?_;intros;refine Dk C5 ?_;refine Bf rfl (fun h4=>?_) (fun h4=>?_)
 ·refine Oz 0 ?_;rintro hi b o e s1;rw [e];refine go ?_;cases g1:s.y.Am[0].Vi
  ·have hpl1:(⟨#[45]⟩:am)=Fh s.y.Am:=(Ago hi g1).symm;refine go ?_;apply wO;refine sld 1 fun a5 c5 F5=>?_;refine go ?_;intros;rw [hpl1];apply wO;refine No (Sz _ hmx) Ej fun a' c' F'=>?_;refine go ?_;refine ce (fun w s=>Hc _ _ _ EM EM) ?_;refine go ?_;exact BV
  ·have hz:=hit _ (aE hi);have h43:(⟨#[43]⟩:am).size=1:=rfl;have hpl2:(⟨#[43]⟩++s.y.Am[0].Ea:am)=Fh s.y.Am:=(Aa1 hi g1).symm;refine go ?_;apply wO;refine sld 1 fun a5 c5 F5=>?_;refine go ?_;intros;rw [hpl2];apply wO;refine No (Sz _ hmx) Ej fun a' c' F'=>?_;refine go ?_;refine ce (fun w s=>Hc _ _ _ EM EM) ?_;refine go ?_
   exact BV
 ·have hnil:s.y.Am=[]:=bK EM;have hpl3:(⟨#[45]⟩:am)=Fh s.y.Am:=by rw [hnil];rfl
  have hd:([]:List Hn)=s.y.Am.drop 1:=by rw [hnil];rfl
  ·refine go ?_;intros;refine Az (E:=C5) (xs:=[]) fun F6=>?_;rw [show (ab (some _) 0 0:Value)=Value.slice _ ([]:List Hn).length 0 from rfl];rw [hpl3];apply wO;refine No (Sz _ hmx) Ej fun a' c' F'=>?_;refine go ?_;refine ce (fun w s=>Hc _ _ _ EM EM) ?_;refine go ?_;rw [hd];refine Cv ⟨s.es++[Fh s.y.Am],Ww s.y,_,0,F6,a',c',F'⟩ ⟨(Is _ _).1,(Is _ _).2,fun z hz=>hit z (bj hz),HH,HH,by rw [hw,hst];rfl,by rw [he,hst];simp [Mu,Ww]⟩ (by show Ec (A8 s.y.next 1) n < _;omega)
end Go.Proofs.YtmckdnddocfodaaGreatDoor
namespace Go.Proofs.YtmckdnddocfodaaGreatDoor

open Go.RowKit
end Go.Proofs.YtmckdnddocfodaaGreatDoor
namespace Go.Proofs.YtmckdnddocfodaaGreatDoor
open Go.RowKit
theorem Aan (x:Ak) (n:Int) (v:Value) (F:ak) (h0:0<=x.next) (h1:x.next<=65535) (h2:0<=n) (h3:n<=65535) :
  FV 193 [v,aa n] [.isv Bz v x F] (.bool (Em x n)):=by
 have hg:=Kc x.next n
 refine enter func193 rfl ntmps193 fun w0=>?_;refine Cz ?_;rintro a1 c1 F1 rfl l1;refine go ?_;intros;refine ce (fun w s=>I1 _ _ _ EM EM) ?_;obtain ⟨k,hk⟩:∃k:Nat,gp x.next n=k:=⟨(gp x.next n).toNat,EM⟩
 have hh:Ho x n=C2 x.Am k:=by unfold Ho;rw [hk,ba]
 rw [hk];refine go ?_;refine ce (fun w s=>Ps _ _ _ EM EM) ?_;cases g1:Qa n x.next
 ·refine go ?_;refine Dm rfl rfl (fun h4=>?_) (fun h4=>?_)
  ·refine Oz (xs:=x.Am) k ?_;rintro hi2 b2 o2 e s1;rw [e];refine go ?_;refine ret () trivial ?_;simp [Em,g1,hh,I7 hi2,Sr]
  ·refine go ?_;refine ret () trivial ?_;simp [Em,g1,hh,Lq (show x.Am.length<=k by omega),Sr]
 ·refine go ?_;refine ret () trivial ?_;simp [Em,g1,Sr]
theorem Aiq (n:Int) (j:Nat):A8 (A8 n 1) j=A8 n ((j+1:Nat):Int):=by unfold A8;omega
theorem Pq {n:Int} (h0:0<=n) (h1:n<=65535):A8 n ((0:Nat):Int)=n:=by unfold A8;omega
theorem T8:∀(l:List Hn) (n:Int),0<=n->n<=65535->(rel n l).1=A8 n ((rel n l).2.2.length:Nat)
 | [],n,h0,h1=>(Pq h0 h1).symm
 | s::r,n,h0,h1=>by
  have ih:=T8 r (A8 n 1) (Is _ _).1 (Is _ _).2;unfold rel
  split
  ·dsimp only;rw [ih,Aiq,aK]
  ·exact (Pq h0 h1).symm
theorem Aft:∀(k:Nat) (x:Ak),0<=x.next->x.next<=65535->(Hw k x).next=A8 x.next (k:Nat)/\0<=(Hw k x).next/\(Hw k x).next<=65535
 | 0,x,h0,h1=>⟨(Pq h0 h1).symm,h0,h1⟩
 | k+1,x,h0,h1=>by
  obtain ⟨a,b,c⟩:=Aft k (Ww x) (Is _ _).1 (Is _ _).2;unfold Hw;exact ⟨by rw [a];show A8 (A8 x.next 1) k=_;rw [Aiq],b,c⟩
theorem Lm (n:Int) (i j:Nat):A8 (A8 n i) j=A8 n ((i+j:Nat):Int):=by unfold A8;omega
theorem Abh (k:Nat) (x:Ak) (h0:0<=x.next) (h1:x.next<=65535):(Og (Hw k x)).next=A8 x.next ((Mu k x++Pj (Hw k x)).length:Nat):=by
 obtain ⟨a,b,c⟩:=Aft k x h0 h1;have d:(Og (Hw k x)).next=A8 (Hw k x).next ((Pj (Hw k x)).length:Nat):=T8 (Hw k x).Am (Hw k x).next b c
 have e:∀(k:Nat) (x:Ak),(Mu k x).length=k:=by
  intro k
  induction k with
  | zero=>intro x;rfl
  | succ k ih=>intro x;unfold Mu;rw [aK,ih]
 rw [d,a,Lm,aw,e]
theorem Ayw (n:Int) (j:Nat) (hj:j<=65535):gp n (A8 n j)=j:=by unfold gp A8;omega
theorem Sg:∀(l:List Hn) (n:Int),(rel n l).2.1=l.drop (rel n l).2.2.length/\C2 (rel n l).2.1 0=false
 | [],n=>⟨rfl,rfl⟩
 | s::r,n=>by
  have ih:=Sg r (A8 n 1);unfold rel
  split
  ·dsimp only;rw [aK,List.drop_succ_cons];exact ih
  ·rename_i h;exact ⟨rfl,by simpa [C2] using h⟩
theorem R9:∀(k:Nat) (x:Ak),(Hw k x).Am=x.Am.drop k
 | 0,_=>rfl
 | k+1,x=>by unfold Hw;rw [R9 k (Ww x)];simp [Ww,Nat.add_comm]
theorem K0 (l:List Hn) (m i:Nat):C2 (l.drop m) i=C2 l (m+i):=by unfold C2;rw [di]
theorem Abg (k:Nat) (x:Ak) (hg:C7 x=true):C7 (Og (Hw k x))=true:=by
 have g:=Acc hg;unfold C7 at hg;simp only [av,aC] at hg;obtain ⟨⟨⟨h1,h2⟩,h3⟩,h4⟩:=hg;obtain ⟨d1,d2⟩:=Sg (Hw k x).Am (Hw k x).next
 rw [R9,cD] at d1;have hs:(Og (Hw k x)).Am=x.Am.drop (k+(rel (Hw k x).next (x.Am.drop k)).2.2.length):=by
  unfold Og;dsimp only;rw [R9,d1]
 have hn:=Abh k x g.n0 g.n1;generalize k+(rel (Hw k x).next (x.Am.drop k)).2.2.length=m at hs;have h0:C2 (Og (Hw k x)).Am 0=false:=d2;rw [hs] at h0;have e1:Cm (Og (Hw k x)).next=true:=by rw [hn];exact N8 _ _
 have e2:(x.Am.drop m).all H9=true:=aQ.2 fun z hz=>aQ.1 h3 z (bj hz);have e3:Sq (x.Am.drop m)=true:=by
  unfold Sq;by_cases hz:(x.Am.drop m).length=0
  ·rw [au hz];rfl
  ·rw [ay hz,h0,K0];unfold Sq at h4;rw [aU] at hz ⊢;rw [ay (show ¬x.Am.length=0 by omega)] at h4;simp only [eu,av] at h4;rw [show m+(x.Am.length - m - 1)=x.Am.length - 1 by omega,h4.2];rfl
 unfold C7;rw [e1,hs,e2,e3,au ET];rfl
theorem Ali {x:Ak} (hg:C7 x=true):C2 x.Am 0=false:=by
 unfold C7 Sq at hg;simp only [av,bJ,aC,bv] at hg;rcases hg.2 with h|h
 ·exact Lq EM
 ·exact h.1
theorem Anf (x:Ak):(Pj x).length<=x.Am.length:=by
 unfold Pj;have:∀(l:List Hn) n,(rel n l).2.2.length<=l.length:=by
  intro l
  induction l with
  | nil=>intro n;exact aA _
  | cons s r ih =>
   intro n;unfold rel
   split
   ·dsimp only;rw [aK,aK];exact Nat.succ_le_succ (ih _)
   ·exact aD _
 exact this _ _
theorem Aah (l:List Hn) (k i:Nat) (s:Hn) (hk:k < l.length):C2 (l.set k s) i=if i=k then s.Vi else C2 l i:=by
 unfold C2;rw [dY];by_cases h:k=i
 ·subst h;simp [hk]
 ·rw [aq h,aq (fun e=>h e.symm)]
theorem Aj2 (x:Ak) (k:Nat) (s:Hn):(Kh x k s).length=max x.Am.length (k+1):=by
 unfold Kh;rw [bw,Nb];omega
theorem Anb (x:Ak) (k:Nat) (s:Hn):C2 (Kh x k s) k=s.Vi:=by
 unfold Kh;rw [Aah _ _ _ _ (by rw [Nb];omega),ar rfl]
theorem Atb (x:Ak) (k:Nat) (s:Hn):(Kh x k s)[k]?=some s:=by
 unfold Kh;rw [eh (by rw [Nb];omega)]
theorem Awo {x:Ak} {k:Nat} {s:Hn} (hx:x.Am.all H9=true) (hs:H9 s=true):(Kh x k s).all H9=true:=by
 rw [aQ] at hx ⊢;intro z hz;unfold Kh at hz;rcases bq hz with h|rfl
 ·unfold Lj at h;rcases aG.1 h with h|h
  ·exact hx z h
  ·rw [(dA.1 h).2];decide
 ·exact hs
theorem Ap2 {x:Ak} {k:Nat} {s:Hn} (hx:Sq x.Am=true) (hs:s.Vi=true):C2 (Kh x k s) ((Kh x k s).length - 1)=true:=by
 rw [Aj2];by_cases h:x.Am.length<=k+1
 ·rw [show max x.Am.length (k+1) - 1=k by omega,Anb];exact hs
 ·unfold Kh;rw [Aah _ _ _ _ (by rw [Nb];omega),aq EM];unfold Sq at hx;rw [ay EM] at hx;simp only [eu,av] at hx;rw [show max x.Am.length (k+1) - 1=x.Am.length - 1 by omega];unfold Lj;rw [show k+1 - x.Am.length=0 by omega];simpa using hx.2
theorem Atg {n:Int} {L:List Hn} (hn:Cm n=true) (ho:L.all H9=true) (hl:L.length<=8) (he:C2 L (L.length - 1)=true\/L=[]):C7 (Og ⟨n,L⟩)=true:=by
 obtain ⟨d1,d2⟩:=Sg L n;have hs:(Og ⟨n,L⟩).Am=L.drop (rel n L).2.2.length:=d1;obtain ⟨p0,p1⟩:=Bb.1 hn;have hnx:(Og ⟨n,L⟩).next=A8 n ((rel n L).2.2.length:Nat):=T8 L n p0 p1
 generalize (rel n L).2.2.length=m at hs hnx;have h0:C2 (Og ⟨n,L⟩).Am 0=false:=d2;rw [hs] at h0;have e1:Cm (Og ⟨n,L⟩).next=true:=by rw [hnx];exact N8 _ _
 have e2:(L.drop m).all H9=true:=aQ.2 fun z hz=>aQ.1 ho z (bj hz);have e3:Sq (L.drop m)=true:=by
  unfold Sq;by_cases hz:(L.drop m).length=0
  ·rw [au hz];rfl
  ·rw [ay hz,h0,K0];rw [aU] at hz ⊢;rcases he with he|he
   ·rw [show m+(L.length - m - 1)=L.length - 1 by omega,he];rfl
   ·subst he;simp at hz
 unfold C7;rw [e1,hs,e2,e3,au ET];rfl
theorem Asl (x:Ak) (n:Int) (s:am):(Ja x n s).2.2=true->C7 x=true/\Cm n=true/\C7 (Ja x n s).1=true/\gp x.next (Ja x n s).1.next=((Ja x n s).2.1.length:Nat)/\Em (Ja x n s).1 n=true/\(n=x.next->∃r,(Ja x n s).2.1=Aj0 s::r)/\(Ja x n s).2.1.length<=8/\s.size<=8:=by
 unfold Ja
 split
 rotate_left
 ·intro h;cases h
 rename_i h;intro _;unfold U2 at h;simp only [av] at h;obtain ⟨⟨⟨h1,h2⟩,h3⟩,h4⟩:=h;have g:=Acc h1;have p0:=g.n0;have p1:=g.n1;have pl:=g.l;obtain ⟨n0,n1⟩:=Bb.1 h2;refine ⟨h1,h2,?_⟩;dsimp only;cases ht:Em x n with
 | true =>
  have eW:Hy x n s=x:=by unfold Hy;rw [ht];rfl
  have eE:Jb x n s=[]:=by unfold Jb;rw [ht];rfl
  rw [eW,eE];refine ⟨h1,?_,ht,fun e=>?_,EO,V1 h3⟩
  ·unfold gp;simp
  ·subst e;exfalso;unfold Em at ht;rw [bJ] at ht;rcases ht with h|h
   ·unfold Qa gp at h;simp at h;exact absurd h EN
   ·unfold Ho at h;rw [show gp x.next x.next=0 by unfold gp;omega] at h;rw [show (0:Int).toNat=0 from rfl,Ali h1] at h;cases h
 | false =>
  have hk8:gp x.next n < 8:=by unfold Ms at h4;rw [ht] at h4;simpa using h4
  have hgb:=Kc x.next n
  obtain ⟨k,hk⟩:∃k:Nat,gp x.next n=k:=⟨(gp x.next n).toNat,EM⟩
  have eW:Hy x n s=Og ⟨x.next,Kh x k ⟨true,s⟩⟩:=by unfold Hy;rw [ht,au hk8];unfold Mz;rw [hk,ba];rfl
  have eE:Jb x n s=(rel x.next (Kh x k ⟨true,s⟩)).2.2:=by unfold Jb;rw [ht,au hk8];unfold Mz;rw [hk,ba];rfl
  have hx:x.Am.all H9=true/\Sq x.Am=true:=by
   unfold C7 at h1;simp only [av] at h1;exact ⟨h1.1.2,h1.2⟩
  have hos:H9 ⟨true,s⟩=true:=by unfold H9;rw [h3];rfl
  have hL:=Aj2 x k ⟨true,s⟩;have hat:=Anb x k ⟨true,s⟩;have hget:=Atb x k ⟨true,s⟩;have ho:=Awo (k:=k) hx.1 hos;have hla:=Ap2 (k:=k) (s:=⟨true,s⟩) hx.2 rfl;rw [eW,eE];generalize Kh x k ⟨true,s⟩=L at *;have hl8:L.length<=8:=EM
  have hrl:(rel x.next L).2.2.length<=L.length:=by
   have:=Anf ⟨x.next,L⟩;unfold Pj at this;dsimp only at this;omega
  obtain ⟨d1,d2⟩:=Sg L x.next
  have hnx:=T8 L x.next p0 p1
  have hn:n=A8 x.next (k:Nat):=by rw [<-hk];unfold gp A8;omega
  refine ⟨Atg (Bb.2 ⟨p0,p1⟩) ho hl8 (.inl hla),?_,?_,?_,EM,V1 h3⟩
  ·show gp x.next (rel x.next L).1=_
   rw [hnx];exact Ayw _ _ EM
  ·unfold Em;show (Qa n (rel x.next L).1 || C2 (rel x.next L).2.1 (gp (rel x.next L).1 n).toNat)=true;rw [hnx,d1];generalize (rel x.next L).2.2.length=m at *;by_cases hkm:k < m
   ·rw [show Qa n (A8 x.next (m:Nat))=true by rw [hn];unfold Qa Ht gp A8;rw [av];simp only [aC];omega];rfl
   ·rw [show gp (A8 x.next (m:Nat)) n=((k - m:Nat):Int) by rw [hn];unfold gp A8;omega,ba,K0,show m+(k - m)=k by omega,hat];simp
  ·intro e;have hk0:k=0:=by rw [e] at hk;unfold gp at hk;omega
   subst hk0;cases L with
   | nil=>simp at hget
   | cons z r =>
    simp at hget;subst hget;exact ⟨(rel (A8 x.next 1) r).2.2,by simp [rel]⟩
theorem Anh {s:am} (h:s.size<=maxLen) (w:World):C6 Bc w [af s] [s] []:=⟨_,[],[],[],EO,EO,⟨rfl,h,rfl⟩,rfl,rfl⟩
theorem Th {c:Cx} {fr:Fr} {H:List Pc} {Φ:Gl} {α:Type} {E:B8 α} {v:Value} {xs:List α} {F:ak} (h:∀a cp,v=ab a xs.length cp->xs.length<=cp->cp<=9223372036854775807->T c fr H Φ) (hm:.sl E v xs F∈H:=by exact Cb):T c fr H Φ:=.mk fun ac w s g=>by
 obtain ⟨-,hs⟩:=s.get hm;obtain ⟨a,cp,rfl⟩:=hs.slice;obtain ⟨-,h2,h3⟩:=hs.caps;exact (h a cp rfl h2 (by unfold maxLen at h3;omega)).h ac w s g
theorem Eo {c:Cx} {fr:Fr} {H:List Pc} {Φ:Gl} {α:Type} {E:B8 α} {t g:Nat} {cs:aj} {xs:List α} {S:List Pc} (hfl:∀w,C6 E w cs xs []) (h:T c fr (.ow E t (ab (some ⟨g,0,none⟩) xs.length xs.length) xs [g]::S) Φ) (hl:xs.length<=1048576) (hp:De H (.row g t 0 [] cs []) S:=by exact En):T c fr H Φ:=.mk fun a w s g'=>by
 have s1:=s.pick hp;have hr:=(s1.on (.row g t 0 [] cs []) EO).2;have hlen:=(hfl w).len;refine h.h a w (s1.conv rfl ⟨EO,.inr ⟨g,xs.length,cs,[],[],rfl,FL,aA _,FG,by simpa using hlen,hfl w,rfl⟩⟩ IL) g'
theorem Avt {P:Program} {f:FuncId} {args:aj} {A:List Pc} {σ:Type} {C:σ->Prop} {v:σ->Value} {N:σ->Pc}
  (h:∀w,Nh A w->Calls P f args.toArray w fun e w'=>∃s,C s/\e=.returned (v s)/\(N s).P w'/\(∀b∈(N s).F,w.heap.size<=b)/\Below w.heap.size w w'):Fn P f args A [] C v (fun s=>[N s]):=fun w hA _=>by
 refine (h w IK).mono ?_;rintro e w' ⟨s,hC,he,hN,hF,hB⟩;refine ⟨s,hC,he,I0 hN,⟨EO,trivial⟩,Gc.ofBelow hB,fun p hp b hb=>?_⟩;simp at hp;subst hp;exact .inl (hF b hb)
def Or (t:Int) (k:Nat):al:=(List.range k).map fun i=>A8 t (i:Nat)
theorem X9 (t:Int) (k:Nat):Or t (k+1)=Or t k++[A8 t (k:Nat)]:=by unfold Or;rw [dB,bZ];rfl
theorem Aa2 (t:Int) (k:Nat):(Or t k).length=k:=by unfold Or;simp
theorem U5 (n:Int) (w:World):C6 Bi w [aa n] [n] []:=⟨_,[],[],[],EO,EO,⟨rfl,rfl⟩,rfl,rfl⟩
structure SpS where
 k:Nat
 a:ai
 c:Nat
 F:ak
theorem Azt (t:Int) (n:Nat) (t0:0<=t) (t1:t<=65535) (hn:n<=65536):Fn prog 288 [aa t,aa (n:Nat)] [] [] (fun (_:ai × Nat × ak)=>True) (fun s=>.slice s.1 (Or t n).length s.2.1) (fun s=>[.ow Bi 3 (.slice s.1 (Or t n).length s.2.1) (Or t n) s.2.2]):=by
 refine enter func288 rfl ntmps288 fun w0=>?_;refine go ?_;refine B4 Bi 3 ?_;refine Cu [0,4,7] (fun s:SpS=>[(5,.slice s.a (Or t s.k).length s.c),(8,aa (s.k:Nat))]) (fun s=>[.ow Bi 3 (.slice s.a (Or t s.k).length s.c) (Or t s.k) s.F]) (fun s=>s.k<=n) (fun s=>n - s.k) ⟨0,none,0,[]⟩ (aD _) fun s hs=>?_;obtain ⟨k,a,c,F⟩:=s;dsimp only at hs ⊢;have hl:=Aa2 t k;refine go ?_;refine Bf rfl (fun h1=>?_) (fun h1=>?_)
 ·refine go ?_;refine ce (fun w s=>Q4 _ _ _ EM EM) ?_;refine go ?_;intros;apply wO;refine No (U5 _) Dw fun a2 c2 F2=>?_;refine go ?_;rw [<-X9];refine Cv ⟨k+1,a2,c2,F2⟩ (by show k+1<=n;omega) (by show n - (k+1) < n - k;omega)
 ·have hk:k=n:=EM
  subst hk;refine go ?_;refine ret (a,c,F) trivial rfl
section
variable {P:Program} {n:Nat} {fr:Fr} {H:List Pc} {ty:TypeId} {x y z:Operand}
end
section
variable {c:Cx} {fr:Fr} {H:List Pc} {k:List It} {Φ:Gl} {ops:Array Oper} {rest:List Oper} {d:Nat} {o:Op} {ty:TypeId} {v u:Value} {x y:Operand}
theorem Ahq {t e m b:Nat} {z:Value} [hS:SlC c.P t e m] [hE:ElT c.P e z m b] (k:Nat) {kl kc:IntKind} {cs:aj} (hd:Nat.blt d c.n=true) (hx:ev fr x=some (.int kl (k:Nat))) (hy:ev fr y=some (.int kc (k:Nat))) (hcs:madeCells z.cells (k * m)=cs.toArray) (hb:b * k<=281474976710656) (h63:k<=9223372036854775807)
  (h:∀g,T c ((d,ab (some ⟨g,0,none⟩) k k)::fr) (.row g e 0 [] cs []::H) Φ):On c fr H (some d) (.makeSlice t x y) ty Φ:=⟨fun _ _ _=>Pl fun Q a w s g=>by
 obtain ⟨i,hi,hiz⟩:=co.1 hE.i;simp only [Prod.mk.injEq] at hiz;obtain ⟨i1,i2,i3⟩:=hiz;have hb':(i.bytes:Int) * ((k:Nat):Int)<=281474976710656:=by rw [i3];have:((b * k:Nat):Int)<=281474976710656:=EM;rwa [Int.natCast_mul] at this
 have hr:=run_make (P:=c.P) w t e i z hS.u hi i1 kl kc (k:Nat) (k:Nat) EM EM hb' EM;simp only [ba,i2,hcs] at hr;have e1:∀pos A8 gd,(execOp a.eval ⟨some d,.makeSlice t x y,ty,pos,A8,gd⟩).run c.P w=.ok (.value (ab (some ⟨w.heap.size,0,none⟩) k k)) (w.alloc (.cells cs.toArray e)):=by
  intro pos A8 gd;simp [execOp,g.ev hx,g.ev hy,hr]
 rw [e1];exact (h _).h _ _ (s.new e cs) (g.put hd)⟩
theorem Ack {fo:Operand} {f:Nat} {caps:aj} {aS:List Operand} {ts:Array TypeId} {vs:aj} (hd:Nat.blt d c.n=true) (hf:ev fr fo=some (.func (.func f) #[] caps.toArray)) (hb:O2 c.P f=true) (ha:Evs fr aS vs) (h:Cl c fr H d f (vs++caps) Φ):On c fr H (some d) (.call { callee:=.value fo,args:=aS.toArray,argTypes:=ts }) ty Φ:=⟨fun _ _ _=>Pl fun Q a w s g=>by
 have e:∀pos A8 gd,(execOp a.eval ⟨some d,.call { callee:=.value fo,args:=aS.toArray,argTypes:=ts },ty,pos,A8,gd⟩).run c.P w=(callFunc f (vs++caps).toArray).run c.P w:=by
  intro pos A8 gd;simp [execOp,resolve,Deferred.ofValue,g.ev hf,invoke,g.evs ha]
 rw [e];obtain ⟨R,hc,hk⟩:=h.h w s;refine (Uo hb).upon hc fun e w' hR=>?_;obtain ⟨v,he,hv⟩:=hk e w' hR;exact ⟨v,he,hv _ (g.put hd)⟩⟩
theorem Ant {α:Type} {E:B8 α} {a:ai} {n cp:Nat} {xs:List α} {F:ak} (k:Nat) (h:∀F',T c fr (.sl E (.slice a (xs.take k).length cp) (xs.take k) F'::H) Φ) (hk:k<=xs.length) (hm:.sl E (ab a n cp) xs F∈H:=by exact Cb):T c fr H Φ:=.mk fun ac w s g=>by
 obtain ⟨hz,hs⟩:=s.get hm;obtain ⟨F',hF,h2⟩:=hs.takeS k hk;have hl:(xs.take k).length=k:=by simp [cT hk]
 have h':=h F';rw [hl] at h';exact h'.h _ w (s.ro hm rfl rfl ⟨hz,h2⟩ hF) g
end
theorem Jx:∀(H:List Pc),Kl H H
 | []=>.nil
 | _::R=>.cons .here (Jx R)
theorem C6.all {α:Type} {E:B8 α} {w:World} {cs:aj} {xs:List α} (h:C6 E w cs xs []) (w':World):C6 E w' cs xs []:=h.frame EO
theorem C6.cutL {α:Type} {E:B8 α} {w:World} {cs:aj} {xs:List α} (h:C6 E w cs xs []) (i:Nat) (hi:i<=xs.length):C6 E w (cs.take (i * E.sz)) (xs.take i) []/\C6 E w (cs.drop (i * E.sz)) (xs.drop i) []:=by
 rw [<-bm i xs] at h;obtain ⟨c1,c2,G1,G2,rfl,hG,h1,h2⟩:=h.split;obtain ⟨rfl,rfl⟩:=List.append_eq_nil_iff.1 hG.symm;have hl:=h1.len;rw [aL,cT hi] at hl;rw [bR hl,eP hl];exact ⟨h1,h2⟩
theorem C6.insL {α:Type} {E:B8 α} {w:World} {cs c1:aj} {xs:List α} {x:α} (h:C6 E w cs xs []) (h1:C6 E w c1 [x] []) (i:Nat) (hi:i<=xs.length):C6 E w (cs.take (i * E.sz)++c1++cs.drop (i * E.sz)) (xs.take i++x::xs.drop i) []:=by
 obtain ⟨ha,hb⟩:=h.cutL i hi;have:=(ha.append h1).append hb;simpa using this
section
variable {P:Program} {n:Nat} {fr:Fr} {H:List Pc} {ty:TypeId} {x y z:Operand}
theorem Kb {t e m i g o len cp:Nat} {kd:IntKind} {q:Int} [hS:SlC P t e m] (hx:ev fr x=some (ab (some ⟨g,o,none⟩) len cp)) (hy:ev fr y=some (.int kd q)) (hq:q=(i:Int)) (hi:i<=len) (hc:i < cp) (hlc:len<=cp):Yd P n fr H (.slice t x (some y) none none) ty (ab (some ⟨g,o+i * m,none⟩) (len - i) (cp - i)):=.mk fun ac w d pos A8 gd hA _=>by
 subst hq;have he2:P.elem t=e:=IW
 have h3:(Instr.sliceAt t (ab (some ⟨g,o,none⟩) len cp) (some (.int kd (i:Int))) none none).run P w=.ok (ab (some ⟨g,o+i * m,none⟩) (len - i) (cp - i)) w:=by
  rw [run_sliceAt_slice (h:=FF),run_slice_l (ht:=FF) (h0:=EM) (h1:=EM),he2,Mi hS.s];have h0:¬(cp - i=0):=EM
  have h0':¬(cp=i):=EM
  simp [Result.andThen,sliced,h0,h0',Addr.add_lit]
 exact CS
theorem Ae0 {k:IntKind} {a:Int} {s t:TypeId} [hS:IntC P s k] [hD:IntC P t .u64] (hx:ev fr x=some (.int k a)) (h0:0<=a) (h1:a<=18446744073709551615):Yd P n fr H (.convert s t x) ty (.int .u64 a):=.mk fun c w d pos A8 gd hA _=>by
 simp [execOp,hA.ev hx,convert,run_underlying hS.u,run_underlying hD.u,Conv.intToInt,IntWalk.u64_in _ ⟨h0,h1⟩]
theorem Aid {a:Int} {t t':TypeId} (hx:ev fr x=some (.int .u64 a)):Yd P n fr H (.binOp .shr t x (.const (.int .u64 1)) t') ty (.int .u64 (a / 2)):=.mk fun c w d pos A8 gd hA _=>by
 have e:Op.shift .shr .u64 a .u64 1=pure (.int .u64 (a / 2)):=by rw [shift_shr .u64 .u64 a 1 EN EN];rfl
 have e2:binOp .shr t (.int .u64 a) (.int .u64 1)=Op.shift .shr .u64 a .u64 1:=rfl;have e3:c.eval (.const (.int .u64 1))=.int .u64 1:=rfl;simp only [execOp,hA.ev hx,e3,eqGuard_shr,e2,e,Sem.run_bind,Sem.run_pure,Result.andThen_ok]
theorem Amk {a:ai} {len cp t e m:Nat} [hS:SlC P t e m] (hx:ev fr x=some (ab a len cp)):Yd P n fr H (.call { callee:=.builtin .cap,args:=#[x],argTypes:=#[t] }) ty (aa cp):=.mk fun ac w d pos A8 gd hA _=>by
 simp [execOp,hA.ev hx,resolve,invoke,builtin,Builtin.cap_,run_underlying hS.u,goInt]
end
section
variable {c:Cx} {fr:Fr} {H k':List Pc} {k:List It} {Φ:Gl} {d:Nat} {o:Op} {ty:TypeId} {v u:Value} {x y:Operand}
theorem Ah6 {α:Type} {E:B8 α} (sc:Ym E) {t n cp:Nat} {a:ai} {xs:List α} {F:ak} {S:List Pc} (h0:xs≠[])
  (h:∀g cs rest,a=some ⟨g,0,none⟩->n=xs.length->xs.length<=cp->cp<=9223372036854775807->cs.length=xs.length * E.sz->cs.length+rest.length=cp * E.sz->(∀w,C6 E w cs xs [])->T c fr (.row g t 0 [] (cs++rest) []::S) Φ)
  (hp:De H (.ow E t (ab a n cp) xs F) S:=by exact En):T c fr H Φ:=.mk fun ac w s g'=>by
 have s1:=s.pick hp;obtain ⟨hnd,ho⟩:=s1.on (.ow E t (ab a n cp) xs F) EO;have hF:=ho.scal sc;rcases ho with ⟨-,h2, -⟩|⟨g,cap,cs,rest,G,h1,h2,h3,h4,h5,h6,h7⟩
 ·exact absurd h2 h0
 ·cases h1;have hG:G=[]:=HW
  subst hG h7;have hl:=h6.len;refine (h g cs rest rfl rfl h3 (by unfold maxLen at h4;omega) hl h5 (fun w'=>h6.all w')).h ac w (s1.conv rfl ⟨rfl,GD⟩ IL) g'
theorem Aa4 {α:Type} {E:B8 α} {t g:Nat} {L cs rest:aj} {xs:List α} {S:List Pc} (cp:Nat) (hL:L=cs++rest) (hf:∀w,C6 E w cs xs []) (h1:xs.length<=cp) (h2:cp<=9223372036854775807) (h3:L.length=cp * E.sz)
  (h:T c fr (.ow E t (ab (some ⟨g,0,none⟩) xs.length cp) xs [g]::S) Φ) (hp:De H (.row g t 0 [] L []) S:=by exact En):T c fr H Φ:=.mk fun ac w s g'=>by
 subst hL;have s1:=s.pick hp;have hr:=(s1.on (.row g t 0 [] (cs++rest) []) EO).2;exact h.h ac w (s1.conv rfl ⟨EO,.inr ⟨g,cp,cs,rest,[],rfl,FL,h1,FG,HL,hf w,rfl⟩⟩ IL) g'
theorem Asy {f:Nat} {aS:List Operand} {ts:Array TypeId} {vs:aj} (hd:Nat.blt d c.n=true) (ha:Evs fr aS vs) (hv:∀w,St c.G c.D c.w0 H w->(callFunc f vs.toArray).run c.P w=.ok (.value v) w) (h:T c ((d,v)::fr) H Φ):On c fr H (some d) (.call { callee:=.value (.func f),args:=aS.toArray,argTypes:=ts }) ty Φ:=⟨fun _ _ _=>Pl fun Q a w s g=>by
 have e:∀pos A8 gd,(execOp a.eval ⟨some d,.call { callee:=.value (.func f),args:=aS.toArray,argTypes:=ts },ty,pos,A8,gd⟩).run c.P w=.ok (.value v) w:=by
  intro pos A8 gd;simp [execOp,resolve,Deferred.ofValue,Act.eval,invoke,g.evs ha,hv w s]
 rw [e];exact h.h _ _ s (g.put hd)⟩
theorem Agn {w:World} {g:Nat} {t:TypeId} {cs:aj} (h:Jd w g t cs):w.shape? g=some (t,cs.length):=by
 unfold World.shape?;rw [show w.heap[g]?=_ from h];simp
theorem ovl {f:Nat} {tS tR e m:Nat} [hS:SlC c.P tS e m] {g o g2 o2 la ca lb cb t1 t2:Nat} {L L2:aj}
  (he:∀(args:Array Value) (w:World),(callFunc f args).run c.P w=((Extern.SlicesOverlaps.overlaps #[tS,tS] #[tR] args).run c.P w).andThen fun v w=>.ok (.value v) w)
  (h1:De H (.row g t1 0 [] L []) k') (h2:.row g2 t2 0 [] L2 []∈k') (hL:L2≠[]) (w:World) (s:St c.G c.D c.w0 H w) :
  (callFunc f [ab (some ⟨g,o,none⟩) la ca,ab (some ⟨g2,o2,none⟩) lb cb].toArray).run c.P w=.ok (.value (.bool false)) w:=by
 have s1:=s.pick h1;have r1:=(s1.on (.row g t1 0 [] L []) EO).2;have r2:=(s1.on (.row g2 t2 0 [] L2 []) (by simp [h2])).2;have hne:g≠g2:=fun e'=>s1.sep.1 (.row g2 t2 0 [] L2 []) h2 (by simp [Pc.mu]) g IL (by simp [Pc.F,e']);simp only [bb,aP] at r1 r2;rw [he,Lib.run_overlaps_apart w tS tR e hS.u m (fun w=>Mi hS.s w) ⟨g,o,none⟩ ⟨g2,o2,none⟩ la ca lb cb hne t1 t2 L.length L2.length (Agn r1) (Agn r2) (by simpa using hL) (r1.frozen _) (r1.frozen _)];rfl
theorem Ab3 {P M Q d L:aj} {o:Nat} (hL:L=P++M++Q) (ho:o=P.length) (hd:M.length=d.length):P++d++Q=L.take o++d++L.drop (o+d.length):=by
 subst hL ho;rw [aJ P M Q,List.take_left,<-hd,<-aJ,<-aw,List.drop_left]
theorem Al7 {B R:aj} (m:Nat) (h:m<=R.length):∃X Y,B++R=X++Y++R.drop m/\X.length=m/\Y.length=B.length:=by
 refine ⟨(B++R).take m,((B++R).drop m).take B.length,?_,ET,ET⟩;have:R.drop m=((B++R).drop m).drop B.length:=by rw [cD,Nat.add_comm,<-cD,List.drop_left]
 rw [this,aJ,bm,bm]
theorem Mj {g t o m:Nat} {L cs:aj} (h1:.row g t 0 [] L []∈H) (hc:cs=(L.drop o).take m) (w:World) (s:St c.G c.D c.w0 H w):∀j u,cs[j]?=some u->w.cell? ((⟨g,o,none⟩:Addr).add j)=some u:=fun j u hu=>by
 subst hc;have r1:=(s.on (.row g t 0 [] L []) h1).2;simp only [bb,aP] at r1;rw [Addr.add_lit,r1.cell];rw [List.getElem?_take] at hu
 split at hu
 ·rw [di] at hu;exact hu
 ·cases hu
theorem Aqc {P:Program} (w:World) (dT sT ty elem m:TypeId) (b o dLen dCap:Nat) (a:Addr) (sLen sCap:Nat) (cs:aj)
  (hu:P.underlying dT=some (.slice elem)) (hs:(P.info? elem).map (·.size)=some m) (hn:cs.length=Nat.min sLen dLen * m)
  (hsrc:∀j v,cs[j]?=some v->w.cell? (a.add j)=some v) (hc:∀j,j < cs.length->(w.cell? ⟨b,o+j,none⟩).isSome=true) (hf:∀j,j < cs.length->w.frozen? ⟨b,o+j,none⟩=false) (h1:∀v∈cs,v.oneCell'=true) :
  (Builtin.copy_ #[dT,sT] ty #[ab (some ⟨b,o,none⟩) dLen dCap,ab (some a) sLen sCap]).run P w=.ok (goInt (Nat.min sLen dLen:Nat)) (w.setCells b o cs):=by
 have hl:=run_loadCells_list (P:=P) w a cs hsrc;have hst:=run_storeCells_cells (P:=P) b o cs 0 w (by simpa using hc) (by simpa using hf) h1;cases hq:P.info? elem with
 | none=>simp [hq] at hs
 | some i =>
  have hi:i.size=m:=by simpa [hq] using hs
  simp [Builtin.copy_,run_underlying hu,Builtin.lenOf,Builtin.firstCells,sizeOf,typeInfo,hq,hi,<-hn,hl,hst]
theorem Vl {dT sT e m g t oo dn dc sn sc:Nat} {ad:Addr} {L L' cs:aj} {S:List Pc} [hS:SlC c.P dT e m] (hd:Nat.blt d c.n=true) (hx:ev fr x=some (ab (some ⟨g,oo,none⟩) dn dc)) (hy:ev fr y=some (ab (some ad) sn sc))
  (hsrc:∀w,St c.G c.D c.w0 H w->∀j u,cs[j]?=some u->w.cell? (ad.add j)=some u) (hr:Rpl H (.row g t 0 [] L []) (.row g t 0 [] L' []) S)
  (hL:L'=L.take oo++cs++L.drop (oo+cs.length)) (hn:cs.length=Nat.min sn dn * m) (hfit:oo+cs.length<=L.length) (h1:∀v∈cs,v.oneCell'=true) (h:T c ((d,aa (Nat.min sn dn:Nat))::fr) S Φ) :
  On c fr H (some d) (.call { callee:=.builtin .copy,args:=#[x,y],argTypes:=#[dT,sT] }) ty Φ:=⟨fun _ _ _=>Pl fun Q a w s ag=>by
 have hP:(Pc.row g t 0 [] L []).P w:=by obtain ⟨R,h1,_⟩:=hr.picks;exact s.on _ h1.mem
 have r1:=hP.2;simp only [bb,aP] at r1;have hrun:=fun ty=>Aqc (P:=c.P) w dT sT ty e m g oo dn dc ad sn sc cs hS.u hS.s hn (hsrc w s) (fun j hj=>by rw [r1.cell,aB EM];rfl) (fun j hj=>r1.frozen _) h1;have e1:∀pos A8 gd,(execOp a.eval ⟨some d,.call { callee:=.builtin .copy,args:=#[x,y],argTypes:=#[dT,sT] },ty,pos,A8,gd⟩).run c.P w=.ok (.value (goInt (Nat.min sn dn:Nat))) (w.setCells g oo cs):=by
  intro pos A8 gd;simp only [execOp,resolve,invoke,builtin,Sem.run_bind,Sem.run_pure,Result.andThen_ok,cO,bL,dU,ag.ev hx,ag.ev hy,hrun]
 rw [e1];have hsplit:L=L.take oo++(L.drop oo).take cs.length++L.drop (oo+cs.length):=by
  rw [<-cD,aJ,bm,bm]
 have r2:=r1;rw [hsplit] at r2;have r3:=Jd.put cs _ r2 (p:=oo) ET ET;have hk:=K8 (g:=g) cs w oo;rw [L7 w g cs w] at r3 hk;rw [<-hL] at r3;refine h.h _ _ (s.rpl hr rfl (fun b hb=>.inl hb) hk ⟨rfl,by simpa using r3⟩) (ag.put hd)⟩
theorem Alt {t tn e m b g oo n cp k:Nat} {zv:Value} {olds:aj} {q:Int} [hS:SlC c.P t e m] [hE:ElT c.P e zv m b] [hI:IntC c.P tn .i64] (hd:Nat.blt d c.n=true) (hx:ev fr x=some (ab (some ⟨g,oo,none⟩) n cp)) (hy:ev fr y=some (aa q)) (hq:q=(k:Int))
  (hso:∀w,St c.G c.D c.w0 H w->∀j u,olds[j]?=some u->w.cell? ((⟨g,oo,none⟩:Addr).add j)=some u)
  (hlo:olds.length=n * m) (hm:0 < m) (hk:0 < k) (hg:cp < n+k) (h63:n+k<=4294967296) (hby:(n+k) * b<=140737488355328)
  (h:∀g' cp' Z rest,n+k<=cp'->cp'<=9223372036854775807->Z.length=k * m->(olds++Z++rest).length=cp' * m->T c ((d,ab (some ⟨g',0,none⟩) ((n+k:Nat)) cp')::fr) (.row g' e 0 [] (olds++Z++rest) []::H) Φ) :
  On c fr H (some d) (.call { callee:=.builtin .append,args:=#[x,y],argTypes:=#[t,tn] }) ty Φ:=⟨fun _ _ _=>Pl fun Q a w s ag=>by
 subst hq;obtain ⟨i,hi,hiz⟩:=co.1 hE.i;simp only [Prod.mk.injEq] at hiz;obtain ⟨i1,i2,i3⟩:=hiz;subst i2 i3;have hold:(Builtin.firstCells i.size n (ab (some ⟨g,oo,none⟩) n cp)).run c.P w.drew=.ok olds.toArray w.drew:=run_firstCells_some w.drew i.size n ⟨g,oo,none⟩ n cp olds hlo (fun j v hj=>hso w s j v hj);have hr:=fun ty=>Lib.run_append_grow_zeros (P:=c.P) w t tn ty e i zv .i64 .i64 hS.u hI.u hi i1 (some ⟨g,oo,none⟩) n cp olds hold k hk hm hg EM (bi (cC _ EM) (bi hby EN)) (growslice_fits hg hby)
 have e1:∀pos A8 gd,(execOp a.eval ⟨some d,.call { callee:=.builtin .append,args:=#[x,y],argTypes:=#[t,tn] },ty,pos,A8,gd⟩).run c.P w=.ok (.value (ab (some ⟨w.heap.size,0,none⟩) (n+k) (grownCap w (n+k) cp e))) (w.drew.alloc (.cells (olds.toArray++Builtin.zeroCells zv.cells k++Builtin.zeroCells zv.cells (grownCap w (n+k) cp e - (n+k))) e)):=by
  intro pos A8 gd;simp only [execOp,resolve,invoke,builtin,Sem.run_bind,Sem.run_pure,Result.andThen_ok,cO,bL,dU,ag.ev hx,ag.ev hy,hr]
 rw [e1];have hge:=grownCap_ge w (n+k) cp e;have hle:=grownCap_le_maxLen w (n+k) cp e FG;have hBel:Below w.heap.size w (w.drew.alloc (.cells (olds.toArray++Builtin.zeroCells zv.cells k++Builtin.zeroCells zv.cells (grownCap w (n+k) cp e - (n+k))) e)):=(Iv (Below.refl w.heap.size w) 1).alloc (aA _) _;have hz:∀q,(Builtin.zeroCells zv.cells q).toList.length=q * i.size:=fun q=>by rw [Mr,hE.s]
 refine (h w.heap.size (grownCap w (n+k) cp e) (Builtin.zeroCells zv.cells k).toList (Builtin.zeroCells zv.cells (grownCap w (n+k) cp e - (n+k))).toList hge (by unfold maxLen at hle;omega) (hz k) ?_).h _ _ (s.add (N:=[.row w.heap.size e 0 [] (olds++(Builtin.zeroCells zv.cells k).toList++(Builtin.zeroCells zv.cells (grownCap w (n+k) cp e - (n+k))).toList) []]) hBel ?_ ⟨EO,trivial⟩ ?_) (ag.put hd)
 ·rw [aw,aw,hz,hz,hlo,<-cA,<-cA];congr 1;omega
 ·intro p hp;rw [aH] at hp;subst hp;refine ⟨rfl,?_⟩;have:=Jd.made w.drew e (olds++(Builtin.zeroCells zv.cells k).toList++(Builtin.zeroCells zv.cells (grownCap w (n+k) cp e - (n+k))).toList);rw [bb,aP];have e2:(olds++(Builtin.zeroCells zv.cells k).toList++(Builtin.zeroCells zv.cells (grownCap w (n+k) cp e - (n+k))).toList).toArray=olds.toArray++Builtin.zeroCells zv.cells k++Builtin.zeroCells zv.cells (grownCap w (n+k) cp e - (n+k)):=by apply fK;simp
  rw [e2] at this;exact this
 ·intro p hp b hb;rw [aH] at hp;subst hp;simp [Pc.F] at hb;subst hb;exact .inl (aA _)⟩
theorem Ahr {t e m n cp i:Nat} {a:ai} {q:Int} [hS:SlC c.P t e m] (hd:Nat.blt d c.n=true) (hx:ev fr x=some (ab a n cp)) (hy:ev fr y=some (aa q)) (hq:q=(i:Int)) (hi:i<=n) (h:∀v,T c ((d,v)::fr) H Φ) (hlc:n<=cp:=by omega):On c fr H (some d) (.slice t x (some y) none none) ty Φ:=⟨fun _ _ _=>Pl fun Q ac w s g=>by
 subst hq;have he2:=Aca hS;obtain ⟨v,h3⟩:∃v,(Instr.sliceAt t (ab a n cp) (some (aa (i:Int))) none none).run c.P w=.ok v w:=by
  rw [run_sliceAt_slice (h:=FF),run_slice_l (ht:=FF) (h0:=EM) (h1:=EM),he2,Mi hS.s];exact ⟨_,rfl⟩
 have e1:∀pos A8 gd,(execOp ac.eval ⟨some d,.slice t x (some y) none none,ty,pos,A8,gd⟩).run c.P w=.ok (.value v) w:=by
  intro pos A8 gd;simp only [execOp,dj,cj,g.ev hx,g.ev hy,Sem.run_bind,h3,Result.andThen_ok,Sem.run_pure]
 rw [e1];exact (h v).h _ w s (g.put hd)⟩
end
section
variable {P:Program} {n:Nat} {fr:Fr} {H:List Pc} {ty:TypeId}
theorem Baa {f:Nat} {bs caps:List Operand} {us vs:aj} (hb:Evs fr bs us) (hc:Evs fr caps vs):Yd P n fr H (.makeFunc (.func f) bs.toArray caps.toArray) ty (.func (.func f) us.toArray vs.toArray):=.mk fun c w d pos A8 gd hA _=>by
 simp [execOp,Instr.makeFunc,hA.evs hb,hA.evs hc]
end
section
variable {c:Cx} {fr:Fr} {H:List Pc} {k:List It} {Φ:Gl} {d:Nat} {ty:TypeId} {x:Operand}
theorem Wn {fo:Operand} {f:Nat} {bd caps:aj} {aS:List Operand} {ts:Array TypeId} {vs:aj} (hd:Nat.blt d c.n=true) (hf:ev fr fo=some (.func (.func f) bd.toArray caps.toArray)) (hb:O2 c.P f=true) (ha:Evs fr aS vs) (h:Cl c fr H d f (bd++vs++caps) Φ):On c fr H (some d) (.call { callee:=.value fo,args:=aS.toArray,argTypes:=ts }) ty Φ:=⟨fun _ _ _=>Pl fun Q a w s g=>by
 have e:∀pos A8 gd,(execOp a.eval ⟨some d,.call { callee:=.value fo,args:=aS.toArray,argTypes:=ts },ty,pos,A8,gd⟩).run c.P w=(callFunc f (bd++vs++caps).toArray).run c.P w:=by
  intro pos A8 gd;simp [execOp,resolve,Deferred.ofValue,g.ev hf,invoke,g.evs ha]
 rw [e];obtain ⟨R,hc,hk⟩:=h.h w s;refine (Uo hb).upon hc fun e w' hR=>?_;obtain ⟨v,he,hv⟩:=hk e w' hR;exact ⟨v,he,hv _ (g.put hd)⟩⟩
theorem Ah4 {α:Type} {E:B8 α} (sc:Ym E) {t n cp:Nat} {a:ai} {xs:List α} {F:ak} (h0:xs≠[])
  (h:∀g,a=some ⟨g,0,none⟩->F=[g]->n=xs.length->n<=cp->cp<=9223372036854775807->T c fr H Φ) (hm:.ow E t (ab a n cp) xs F∈H:=by exact Cb):T c fr H Φ:=.mk fun ac w s g'=>by
 obtain ⟨hnd,ho⟩:=s.get hm;have hF:=ho.scal sc;rcases ho with ⟨-,h2, -⟩|⟨g,cap,cs,rest,G,h1,h2,h3,h4,h5,h6,h7⟩
 ·exact absurd h2 h0
 ·cases h1;exact (h g rfl (by simpa [Value.ownBlock] using hF) rfl h3 (by unfold maxLen at h4;omega)).h ac w s g'
theorem C6.rep0 {α:Type} {E:B8 α} {w:World} {zs:aj} {z:α} (h:E.L5 w zs z []):∀n,C6 E w (List.replicate n zs).flatten (List.replicate n z) []
 | 0=>⟨rfl,rfl⟩
 | n+1=>⟨zs,(List.replicate n zs).flatten,[],[],by simp [cW],EO,h,C6.rep0 h n⟩
theorem Ae1 (z:Array Value) (n:Nat):(Builtin.zeroCells z n).toList=(List.replicate n z.toList).flatten:=by
 have:=M9 z n;exact this
theorem Am6 {α:Type} {E:B8 α} (sc:Ym E) {t e m b g n cp i:Nat} {zv:Value} {z0:α} [hS:SlC c.P t e m] [hE:ElT c.P e zv m b] (hz:∀w,E.L5 w zv.cells.toList z0 []) (one:∀u∈zv.cells,u.oneCell'=true) (hm:E.sz=m) {xs:List α} {F:ak} {S:List Pc}
  (hx:ev fr x=some (ab (some ⟨g,0+i * m,none⟩) (n - i) (cp - i))) (hi:i < n) (hn:n=xs.length) (hp:De H (.ow E e (ab (some ⟨g,0,none⟩) n cp) xs F) S) (h:T c fr (.ow E e (ab (some ⟨g,0,none⟩) n cp) (xs.take i++List.replicate (n - i) z0) F::S) Φ) :
  On c fr H none (.call { callee:=.builtin .clear,args:=#[x],argTypes:=#[t] }) ty Φ:=⟨fun _ _ _=>Pl fun Q a w s ag=>by
 subst hm;have s1:=s.pick hp;obtain ⟨hnd,ho⟩:=s1.on (.ow E e (ab (some ⟨g,0,none⟩) n cp) xs F) EO;have hF:=ho.scal sc;rcases ho with ⟨h1, -, -⟩|⟨g2,cap,cs,rest,G,h1,h2,h3,h4,h5,h6,h7⟩
 ·cases h1
 cases h1;have hG:G=[]:=HW
 subst hG h7;have hl:=h6.len;obtain ⟨f1,f2⟩:=h6.cutL i EM;have hcs:=bm (i * E.sz) cs;have hd1:(cs.take (i * E.sz)).length=i * E.sz:=by have:=f1.len;rw [aL (l:=xs),cT EM] at this;exact this
 have hd2:(cs.drop (i * E.sz)).length=(xs.length - i) * E.sz:=by have:=f2.len;rwa [aU (l:=xs)] at this
 have hr:=fun ty=>Sj (P:=c.P) w t e ty zv hS.u (Vd hE.i) one g (0+i * E.sz) (xs.length - i) (cp - i) EM
  (fun j hj=>by rw [hE.s] at hj;rw [h2.cell,aB (by rw [aw,<-hcs,aw,hd1,hd2];omega)];rfl) (fun j _=>h2.frozen _)
 have e1:∀pos A8 gd,(execOp a.eval ⟨none,.call { callee:=.builtin .clear,args:=#[x],argTypes:=#[t] },ty,pos,A8,gd⟩).run c.P w=.ok (.value (.tuple #[])) (w.setCells g (0+i * E.sz) (Builtin.zeroCells zv.cells (xs.length - i)).toList):=by
  intro pos A8 gd;simp only [execOp,resolve,invoke,builtin,Sem.run_bind,Sem.run_pure,Result.andThen_ok,cO,bL,dU,ag.ev hx,hr]
 rw [e1];have hzl:(Builtin.zeroCells zv.cells (xs.length - i)).toList.length=(xs.length - i) * E.sz:=by rw [Mr,hE.s]
 have R0:Jd w g e (cs.take (i * E.sz)++cs.drop (i * E.sz)++rest):=by rw [hcs];exact h2
 have R1:=Jd.put (Builtin.zeroCells zv.cells (xs.length - i)).toList _ R0 (p:=0+i * E.sz) EM (by rw [hzl,hd2]);have hk:=K8 (g:=g) (Builtin.zeroCells zv.cells (xs.length - i)).toList w (0+i * E.sz);rw [L7 w g] at R1 hk;have hW:(Pc.ow E e (ab (some ⟨g,0,none⟩) xs.length cp) (xs.take i++List.replicate (xs.length - i) z0) [g]).P (w.setCells g (0+i * E.sz) (Builtin.zeroCells zv.cells (xs.length - i)).toList):=by
  have hll:(xs.take i++List.replicate (xs.length - i) z0).length=xs.length:=by rw [aw,aL,be];omega
  have hfl:C6 E (w.setCells g (0+i * E.sz) (Builtin.zeroCells zv.cells (xs.length - i)).toList) (cs.take (i * E.sz)++(Builtin.zeroCells zv.cells (xs.length - i)).toList) (xs.take i++List.replicate (xs.length - i) z0) []:=by
   rw [Ae1];exact (f1.all _).append (C6.rep0 (hz _) _)
  refine ⟨EO,.inr ⟨g,cp,cs.take (i * E.sz)++(Builtin.zeroCells zv.cells (xs.length - i)).toList,rest,[],by rw [hll],R1,by rw [hll];exact h3,h4,?_,hfl,rfl⟩⟩;rw [aw,hzl,hd1,<-cA];rw [<-h5,hl]
  congr 2
  omega
 exact h.h _ _ (St.turn (M:=[.ow E e (ab (some ⟨g,0,none⟩) xs.length cp) xs [g]]) (N:=[.ow E e (ab (some ⟨g,0,none⟩) xs.length cp) (xs.take i++List.replicate (xs.length - i) z0) [g]]) s1 GM (by intro q hq;rw [aH] at hq;subst hq;exact hW) ⟨EO,trivial⟩ (by
   intro q hq b hb;rw [aH] at hq;subst hq;exact .inr (.inl ⟨_,aH.2 rfl,rfl,hb⟩))) ag⟩
end
theorem Aq3 (fid:FuncId) (bd caps:aj) (A:List Pc) (hA:A.all (fun p=>!p.mu)=true) (xs:al) (a:ai) (c:Nat) (F:ak) (p:Int->Bool) (hb:O2 prog fid=true) (hl:xs.length<=1000000000)
  (hp:∀x∈xs,∀w,Nh A w->Calls prog fid (bd++[(aa x:Value)]++caps).toArray w (RB (.bool (p x)) w)) :
  Fn prog 258 [ab a xs.length c,.func (.func fid) bd.toArray caps.toArray] (.sl Bi (ab a xs.length c) xs F::A) [] (fun (_:Unit)=>True) (fun _=>aa (Qz p xs)) (fun _=>[]):=by
 refine enter func258 rfl ntmps258 (fun w0=>?_) rfl EY .nil;refine go ?_;refine Ei [0,1,4,7] (fun k:Nat=>[(8,aa (k:Nat))]) (fun k=>k<=xs.length/\∀j (_:j < k) (hj:j < xs.length),p xs[j]=false) (fun k=>xs.length - k) 0 ⟨aD _,fun j h=>by omega⟩ fun k hk=>?_;obtain ⟨hk1,hk2⟩:=hk;refine go ?_;refine Bf rfl (fun h5=>?_) (fun h5=>?_)
 ·have hh:k < xs.length:=EM
  refine go ?_;refine Jg (xs:=xs) k ?_;rintro hi b o e;rw [e];refine go ?_;apply wO;refine Wn rfl rfl hb Tt ?_;refine cb (fun w st=>hp xs[k] (aE hh) w (fun q hq=>st.on q FB)) ?_;cases hpk:p xs[k]
  ·refine go ?_;refine Tg ?_;refine Cv (hH:=Jx _) (k+1) ⟨hh,fun j hj h=>?_⟩ EM;rcases aY (bt.1 hj) with h2|rfl
   ·exact hk2 j h2 h
   ·exact hpk
  ·refine go ?_;exact DW
 ·obtain rfl:k=xs.length:=EM
  refine go ?_;exact BO
structure Aqx where
 i:Nat
 j:Nat
 zs:al
theorem Aig (fid:FuncId) (bd caps:aj) (A:List Pc) (hA:A.all (fun p=>!p.mu)=true) (xs:al) (a:ai) (c:Nat) (F:ak) (p:Int->Bool) (hb:O2 prog fid=true) (hl:xs.length<=1000000000)
  (hp:∀x∈xs,∀w,Nh A w->Calls prog fid (bd++[(aa x:Value)]++caps).toArray w (RB (.bool (p x)) w)) :
  Fn prog 235 [ab a xs.length c,.func (.func fid) bd.toArray caps.toArray] A [.ow Bi 3 (ab a xs.length c) xs F] (fun (_:ai × Nat × ak)=>True)
   (fun z=>.slice z.1 (xs.filter fun x=>!p x).length z.2.1) (fun z=>[.ow Bi 3 (.slice z.1 (xs.filter fun x=>!p x).length z.2.1) (xs.filter fun x=>!p x) z.2.2]):=by
 refine enter func235 rfl ntmps235 (fun w0=>?_) rfl EY (.cons .nil);refine go ?_;refine cb (fun w st=>by
  obtain ⟨Fw, -,hw⟩:=(st.get (p:=.ow Bi 3 (ab a xs.length c) xs F) EO).2.read;refine (Aq3 fid bd caps A hA xs a c Fw p hb hl hp).val w ?_ EY;intro q hq;rcases aF.1 hq with rfl|hq
  ·exact ⟨EN,hw⟩
  ·exact st.on q FB) ?_
 by_cases hany:xs.any p=true
 ·obtain ⟨i0,hi0,hfx,hpi,hfl⟩:=Wi hany;rw [hfx];refine Ah4 (xs:=xs) Eh (by rintro rfl;simp at hi0) ?_;rintro g rfl rfl - hc1 hc2;refine go ?_;refine Cu [0,1,4] (fun s:Aqx=>[(5,aa (s.i:Nat)),(6,aa (s.j:Nat))]) (fun s=>[.ow Bi 3 (ab (some ⟨g,0,none⟩) xs.length c) s.zs [g]]) (fun s=>s.zs.length=xs.length/\s.j<=xs.length/\s.i < s.j/\s.zs.take s.i=(xs.take s.j).filter (fun x=>!p x)/\s.zs.drop s.j=xs.drop s.j) (fun s=>xs.length - s.j) ⟨i0,i0+1,xs⟩ ⟨rfl,hi0,Nat.lt_succ_self _,by rw [Df hi0 (by simp [hpi]),hfl],rfl⟩ fun s hs=>?_;obtain ⟨i,j,zs⟩:=s;obtain ⟨h1,h2,h3,h4,h5⟩:=hs
  dsimp only at h1 h2 h3 h4 h5 ⊢;refine go ?_;refine Bf rfl (fun h6=>?_) (fun h6=>?_)
  ·have hj:j < xs.length:=EM
   have hjz:j < zs.length:=EM
   have hx:zs[j]=xs[j]:=by
    have a1:=bN hjz;have a2:=bN hj;rw [h5,a2] at a1;exact (List.cons.inj a1).1.symm
   have hdz:zs.drop (j+1)=xs.drop (j+1):=by
    rw [<-cD,h5,cD]
   refine go ?_;refine Qq (m:=1) Eh j ?_ EP rfl hjz;rintro _ g2 A2 cs2 B2 e1 e2 hc3 hh;cases e1;obtain ⟨rfl, -⟩:=hc3 w0;refine go ?_;refine Pf zs[j] hh hc3 ?_;rw [bu,hx];apply wO;refine Wn rfl rfl hb Tt ?_;refine cb (fun w st=>hp xs[j] (aE hj) w (fun q hq=>st.on q FB)) ?_;cases hpj:p xs[j]
   ·refine go ?_;refine Qq (m:=1) Eh i ?_ EP rfl EM;rintro _ g3 A3 cs3 B3 e1 e2 hc4 hh3;cases e1;obtain ⟨rfl, -⟩:=hc4 w0;refine go ?_;refine Pf xs[j] hh3 (fun w=>⟨rfl,rfl⟩) ?_;refine Cv (hH:=Jx _) (⟨i+1,j+1,zs.set i xs[j]⟩:Aqx) ⟨by simp [h1],hj,Nat.succ_lt_succ h3,?_,?_⟩ HS
    ·dsimp only;rw [Gj hj (by simp [hpj]),<-h4,cF,eh EM,fT (aA _)];rfl
    ·dsimp only;rw [fO EM,hdz]
   ·refine go ?_;refine Cv (hH:=Jx _) (⟨i,j+1,zs⟩:Aqx) ⟨h1,hj,Nat.lt_succ_of_lt h3,?_,hdz⟩ HS;dsimp only;rw [Df hj (by simp [hpj]),h4]
  ·obtain rfl:j=xs.length:=EM
   have h4':zs.take i=xs.filter fun x=>!p x:=by rw [h4,bG]
   have hil:(xs.filter fun x=>!p x).length=i:=by rw [<-h4',aL];omega
   refine go ?_;apply wO;apply oc;rfl;exact Kb (i:=i) rfl rfl rfl EM EM EM;refine go ?_;apply wO;refine Am6 (z0:=0) (n:=xs.length) (cp:=c) (i:=i) (g:=g) Eh (fun w=>⟨rfl,rfl⟩) EN rfl rfl h3 h1.symm EP ?_;refine go ?_;refine Aem (xs:=zs.take i++List.replicate (xs.length - i) 0) i (fun F2=>?_) (by rw [aw,aL,be];omega);rw [bR FK,h4'];apply wO;apply oc;rfl;exact Nv (i:=i) rfl rfl rfl EM EM;refine go ?_;subst hil
   refine ret (_,c,F2) trivial rfl
 ·obtain ⟨hfx,hfl⟩:=Yx hany;rw [hfx,hfl];refine go ?_;refine ret (a,c,F) trivial rfl
def Ko (x:Ak) (n:Nat):al:=(Or x.next n).filter fun k=>!Ho x k
theorem Aga {t k:Int} {n:Nat} (h:k∈Or t n):0<=k/\k<=65535:=by
 unfold Or at h;obtain ⟨i, -,rfl⟩:=bU.1 h;unfold A8;omega
theorem Aio (x:Ak) (k:Int) (n:Nat) (v:Value) (F:ak) (h0:0<=x.next) (h1:x.next<=65535) (h2:0<=k) (h3:k<=65535) (hn:gp x.next k=n) :
  Fn prog 275 [v,aa k] [.isv Bz v x F] [] (fun (_:ai × Nat × ak)=>True) (fun s=>.slice s.1 (Ko x n).length s.2.1) (fun s=>[.ow Bi 3 (.slice s.1 (Ko x n).length s.2.1) (Ko x n) s.2.2]):=by
 have hg:=Kc x.next k
 refine enter func275 rfl ntmps275 fun w0=>?_;refine Cz ?_;rintro a1 c1 F1 rfl l1;refine go ?_;intros;refine As [0] [] ?_;refine D7 0 1 2 3 ?_;refine Ek 4 7 ?_;refine dt 8 ?_ (hy:=Baa Tt Tt);refine dN 5 ?_;refine oC ?_;refine ce (fun w s=>Om _ _ _ EM EM EM EM) ?_;refine dk ?_;refine dN 6 ?_;refine oC ?_;rw [hn];refine Bw (Azt x.next n EM EM EM) fun s _=>?_;refine dk ?_;refine dN 9 ?_;refine oC ?_
 refine cf (Aig 174 [_] [] [.isv Bz (.agg #[aa x.next,ab a1 x.Am.length c1]) x F] rfl (Or x.next n) s.1 s.2.1 s.2.2 (fun k=>Ho x k) rfl (by rw [Aa2];omega) (fun k hk w hw=>?_)) fun q _=>?_;exact (Yl x k _ F h0 h1 (Aga hk).1 (Aga hk).2).val w hw;refine Q3 ?_;refine dk ?_;refine dt 10 ?_;refine dd ?_;refine go ?_;refine ret q trivial rfl
theorem Apr {x:Ak} {k:Nat} (hk:k<=65535) (h:C2 x.Am k=true):Ko x (k+1)=Ko x k:=by
 have e:Ho x (A8 x.next k)=true:=IY
 unfold Ko;rw [X9,bp,bT];simp [e]
theorem Ajo {x:Ak} {k:Nat} (hk:k<=65535) (h:C2 x.Am k=false):Ko x (k+1)=Ko x k++[A8 x.next k]:=by
 have e:Ho x (A8 x.next k)=false:=IY
 unfold Ko;rw [X9,bp,bT];simp [e]
theorem Aat (x:Ak) (k:Nat):(Ko x k).length<=k:=by
 unfold Ko;have:=bA (fun k=>!Ho x k) (Or x.next k);rw [Aa2] at this;exact this
theorem Ahj (x:Ak) (k:Int) (n:Nat) (v:Value) (F:ak) (h0:0<=x.next) (h1:x.next<=65535) (h2:0<=k) (h3:k<=65535) (hn:gp x.next k=n) :
  Fn prog 223 [v,aa k] [.isv Bz v x F] [] (fun (_:ai × Nat × ak)=>True) (fun s=>.slice s.1 (Ko x n).length s.2.1) (fun s=>[.ow Bi 3 (.slice s.1 (Ko x n).length s.2.1) (Ko x n) s.2.2]):=by
 have hg:=Kc x.next k
 refine enter func223 rfl ntmps223 fun w0=>?_;refine Cz ?_;rintro a1 c1 F1 rfl l1;unfold maxLen at l1;refine Ke ?_;intros;refine Dk Bi ?_;refine go ?_;refine Cu [1,2,4] (fun s:SpS=>[(5,.slice s.a (Ko x s.k).length s.c),(6,aa (s.k:Nat))]) (fun s=>[.ow Bi 3 (.slice s.a (Ko x s.k).length s.c) (Ko x s.k) s.F]) (fun s=>s.k<=n) (fun s=>n - s.k) ⟨0,_,_,_⟩ (aD _) fun s hs=>?_;obtain ⟨j,a,c,F5⟩:=s;dsimp only at hs ⊢;have hlk:=Aat x j;refine go ?_;refine ce (fun w s=>I1 _ _ _ EM EM) ?_;rw [hn];refine go ?_;refine Bf rfl (fun h4=>?_) (fun h4=>?_)
 ·refine go ?_;refine Dm rfl rfl (fun h5=>?_) (fun h5=>?_)
  ·refine go ?_;refine ce (fun w s=>Hc _ _ _ EM EM) ?_;refine go ?_;intros;apply wO;refine No (U5 _) Dw fun a2 c2 F2=>?_;refine go ?_;rw [<-Ajo EM (Lq EM)];refine Cv ⟨j+1,a2,c2,F2⟩ (by show j+1<=n;omega) JM
  ·refine Oz (xs:=x.Am) j ?_;rintro hi2 b2 o2 e s1;rw [e];refine go ?_;cases g2:x.Am[j].Vi
   ·refine go ?_;refine ce (fun w s=>Hc _ _ _ EM EM) ?_;refine go ?_;intros;apply wO;refine No (U5 _) Dw fun a2 c2 F2=>?_;refine go ?_;rw [<-Ajo EM (by rw [I7 hi2];exact g2)];refine Cv ⟨j+1,a2,c2,F2⟩ (by show j+1<=n;omega) JM
   ·refine go ?_;rw [<-Apr (x:=x) (k:=j) EM (by rw [I7 hi2];exact g2)];refine Cv ⟨j+1,a,c,F5⟩ (by show j+1<=n;omega) JM
 ·obtain rfl:j=n:=EM
  refine go ?_;refine ret (a,c,F5) trivial rfl
def Asf (d:Int):Bool:=Ht 1 d 8
def Ml (base:Int) (r:Aw):Bool:=Cm r.Ab && decide (gp base r.Ab < 8) && Ht 1 r.Dh 3 && Ht 0 r.Bl 10007 && Ht 0 r.Ch 3
def Ae6 (l:List Aw) (base:Int) (i:Nat):Bool:=match l[i]? with
 | none=>true
 | some r=>Ml base r && (decide (i=0) || match l[i - 1]? with|none=>true|some p=>!decide (gp base r.Ab<=gp base p.Ab))
theorem Up {l:List Aw} {base:Int} {i:Nat} (h:i < l.length):Ae6 l base i=(Ml base l[i] && (decide (i=0) || !decide (gp base l[i].Ab<=gp base (l[i - 1]'EM).Ab))):=by
 unfold Ae6;rw [aB h,aB (show i - 1 < l.length by omega)]
def Lh (l:List Aw) (base:Int):Bool:=Cm base && decide ((l.length:Int)<=8) && (List.range l.length).all (Ae6 l base)
theorem Amq {l:List Aw} {base:Int} {i:Nat} (h:i < l.length) (hc:Ae6 l base i=false):Lh l base=false:=by
 have:(List.range l.length).all (Ae6 l base)=false:=cU.2 ⟨i,EU,by simp [hc]⟩;simp [Lh,this]
theorem Aiu {l:List Aw} {base:Int} (h1:Cm base=true) (h2:(l.length:Int)<=8) (h:∀j,j < l.length->Ae6 l base j=true):Lh l base=true:=by
 unfold Lh;rw [h1,au h2,aQ.2 fun j hj=>h j HO];rfl
theorem Dv {l:List Aw} {base:Int}:Lh l base=true↔Cm base=true/\l.length<=8/\(∀r∈l,Ml base r=true)/\l.Pairwise fun a b=>gp base a.Ab < gp base b.Ab:=by
 unfold Lh;simp only [av,aQ,bX,aC];constructor
 ·rintro ⟨⟨h1,h2⟩,h4⟩;refine ⟨h1,EM,fun r hr=>?_,?_⟩
  ·obtain ⟨i,hi,rfl⟩:=aR hr;have:=h4 i hi;rw [Up hi] at this;simp only [av] at this;exact this.1
  ·have step:∀i (hi:i+1 < l.length),gp base l[i].Ab < gp base l[i+1].Ab:=fun i hi=>by
    have:=h4 (i+1) hi;rw [Up hi] at this;simp only [av,bJ,aC,bv,bD] at this;have h:=this.2;rcases h with h|h
    ·omega
    ·simpa using h
   refine aX.2 fun i j hi hj hij=>?_;obtain ⟨d,rfl⟩:∃d,j=i+1+d:=⟨j - i - 1,EM⟩;clear hij
   induction d with
   | zero=>exact step i hj
   | succ d ih=>exact fV (ih EM) (step (i+1+d) hj)
 ·rintro ⟨h1,h2,h4,h5⟩;refine ⟨⟨h1,EM⟩,fun i hi=>?_⟩;rw [Up hi,h4 l[i] (aE hi)];simp only [bW,bJ,aC,bv,bD];rcases bQ i with h0|h0
  ·exact .inl h0
  ·have:=aX.1 h5 (i - 1) i EM hi EM;right;omega
structure Aq7 (base:Int) (r:Aw):Prop where
 n:Cm r.Ab=true
 g:gp base r.Ab < 8
 s0:1<=r.Dh
 s1:r.Dh<=3
 u0:0<=r.Bl
 u1:r.Bl<=10007
 t0:0<=r.Ch
 t1:r.Ch<=3
theorem Ep {base:Int} {r:Aw}:Ml base r=true↔Aq7 base r:=by
 unfold Ml Ht;simp only [av,aC];exact ⟨fun ⟨⟨⟨⟨a,b⟩,c,d⟩,e,f⟩,g,h⟩=>⟨a,b,c,d,e,f,g,h⟩,fun ⟨a,b,c,d,e,f,g,h⟩=>⟨⟨⟨⟨a,b⟩,c,d⟩,e,f⟩,g,h⟩⟩
def Ob (r:Ay):Bool:=decide (r.Aa.next=0) && decide (r.Aa.Am.length=0) && decide (r.Aj.length=0)
def Afs (r:Ay):Bool:=r.Aj.all fun q=>!Ho r.Aa q.Ab
def Dx (r:Ay):Bool:=J9 r.Ae && (if r.A1 then C7 r.Aa && Lh r.Aj r.Aa.next && Afs r else Ob r)
def Qh (c d:Int) (r:Aw):Option Aw:=if c < r.Bl then some r else if r.Ch=3 then none else if r.Dh=1 then some ⟨r.Ab,2,c+3,r.Ch+1⟩ else some ⟨r.Ab,1,c+d,r.Ch⟩
def Nq (c:Int) (r:Aw):Option Int:=if c < r.Bl then none else if r.Ch=3 then none else if r.Dh=1 then some r.Ab else none
def Sm (c:Int) (r:Aw):Option Int:=if c < r.Bl then none else if r.Ch=3 then some r.Ab else none
def pkR (n k:Int):Ar:=⟨3,k,n,n,⟨#[]⟩⟩
def Ct (l:al):Int:=A8 (l.getLastD 0) 1
def Gt (w:Ak) (t:Int):Ak:=Og (Hw (Ec w.next t) w)
def Fm (w:Ak) (t:Int):ah:=Mu (Ec w.next t) w++Pj (Hw (Ec w.next t) w)
def Vk (l:List Aw) (n:Int):List Aw:=l.filter fun q=>!Qa q.Ab n
def C3 (l:List Aw) (w:Ak):List Aw:=l.filter fun q=>!(Qa q.Ab w.next || Ho w q.Ab) && decide (gp w.next q.Ab < 8)
def Ir (r:Ay) (d:Int):List Aw:=r.Aj.filterMap (Qh (r.Ae+1) d)
def Cf (r:Ay):al:=r.Aj.filterMap (Sm (r.Ae+1))
def Bj (r:Ay) (d:Int):Ay:=if Cf r=[] then ⟨r.A1,r.Ae+1,r.Aa,Ir r d⟩ else ⟨r.A1,r.Ae+1,Gt r.Aa (Ct (Cf r)),Vk (Ir r d) (Gt r.Aa (Ct (Cf r))).next⟩
def Db (r:Ay):List Ar:=(r.Aj.filterMap (Nq (r.Ae+1))).map (pkR r.Aa.next)
def Gs (r:Ay):ah:=if Cf r=[] then [] else Fm r.Aa (Ct (Cf r))
def Aks:Ay:=⟨false,0,⟨0,[]⟩,[]⟩
structure Eu (r:Ay):Prop where
 k0:0<=r.Ae
 k1:r.Ae<=9999
 w:C7 r.Aa=true
 q:Lh r.Aj r.Aa.next=true
 f:∀z∈r.Aj,Ho r.Aa z.Ab=false
 z:r.A1=false->r.Aa=⟨0,[]⟩/\r.Aj=[]
theorem Gm {r:Ay}:Dx r=true↔Eu r:=by
 have hc:J9 r.Ae=true↔0<=r.Ae/\r.Ae<=9999:=by unfold J9 Ht;simp
 have hf:Afs r=true↔∀z∈r.Aj,Ho r.Aa z.Ab=false:=by unfold Afs;simp
 have hz:Ob r=true↔r.Aa=⟨0,[]⟩/\r.Aj=[]:=by
  unfold Ob;obtain ⟨st,ck,⟨n,s⟩,q⟩:=r;simp [and_assoc]
 unfold Dx;constructor
 ·intro h;rw [av,hc] at h;obtain ⟨⟨c0,c1⟩,h⟩:=h;cases hs:r.A1
  ·rw [hs] at h;obtain ⟨e1,e2⟩:=hz.1 EU;refine ⟨c0,c1,by rw [e1];decide,by rw [e1,e2];decide,by rw [e2];simp,fun _=>⟨e1,e2⟩⟩
  ·rw [hs] at h;simp only [if_true,av] at h;exact ⟨c0,c1,h.1.1,h.1.2,hf.1 h.2,fun h'=>by rw [hs] at h';cases h'⟩
 ·rintro ⟨c0,c1,h1,h2,h3,h4⟩;rw [av,hc];refine ⟨⟨c0,c1⟩,?_⟩;cases hs:r.A1
  ·simpa using hz.2 (h4 hs)
  ·simp [h1,h2,hf.2 h3]
def Bh (p:Ar):Bool:=Ht 1 p.Bd 5 && Cm p.Ab && Cm p.Al && Cm p.Cy && Qd p.data && decide (gp p.Al p.Cy<=32767) && (decide (p.data=⟨#[]⟩) || decide (p.Bd=1) || decide (p.Bd=2))
theorem Fg {p:Ar} (h:Bh p=true):0<=p.Ab/\p.Ab<=65535:=by
 unfold Bh at h;simp only [av] at h;exact Bb.1 h.1.1.1.1.1.2
theorem Zx (fid:FuncId) (hbd:Wu prog fid) (caps:Array Value) (v:Value) (xs:ah) (F:ak) (p:am->Bool) (w:World) (h:Sl Bc w v xs F)
  (hp:∀(k:Nat) (hk:k < xs.length) (wr:World) (u:Value) (G:ak),Below w.heap.size w wr->IsC Bc wr u xs[k] G->Calls prog fid (#[u]++caps) wr fun e w'=>e=.returned (.bool (p xs[k]))/\Below wr.heap.size wr w') :
  Calls prog 210 #[v,.func (.func fid) #[] caps] w (RB (aa (Qz p xs)) w):=by
 obtain ⟨a,cap,rfl⟩:=h.slice;have hl:=h.len;unfold maxLen at hl
 go_enter func210,ntmps210
 go_wp2
 go_loopw [5,8] (fun _ i wr=>∃k:Nat,k<=xs.length/\i=aa k/\Hid (∀j,j < k->∀hj:j < xs.length,p xs[j]=false)/\Below w.heap.size w wr) (fun _ i _=>xs.length - (intOf i).toNat)
 case atStart=>exact ⟨0,aD _,rfl,fun j hj=>by omega,Below.refl _ _⟩
 case round =>
  obtain ⟨k,hk,rfl,hz,hB⟩:=hrel;by_cases hlt:k < xs.length
  ·have hz0:=hz;clear hz;obtain ⟨b,off,_,F1,rfl,hx, -,ja⟩:=(h.below EN hB).at k hlt;obtain ⟨rfl, -, -⟩:=id hx;have a0:=ja 0 EN;simp only [show Bc.sz=1 from rfl,cR,bO,bH,bE] at a0;clear ja;have hr:=hp k hlt wr _ F1 hB ⟨_,rfl,hx⟩;have hp:=Lib.hid hp;cases hpk:p xs[k]
   all_goals
    rw [hpk] at hr;have hpk:=Lib.hid hpk;have hr:=Lib.hid hr;go_wp2_with fail;refine hbd.upon hr.out ?_;rintro e w1 ⟨rfl,hb1⟩;refine ⟨_,rfl,?_⟩;have hB:=tr hB hb1 (aA _);clear hb1;go_wp2_with fail
   ·exact AS
   ·go_ret
    exact DY
  ·go_wp2
   go_ret
   exact CT
theorem Wv (fid:FuncId) (hbd:Wu prog fid) (caps:Array Value) (v:Value) (xs:ah) (F:ak) (p:am->Bool) (w:World) (h:Sl Bc w v xs F)
  (hp:∀(k:Nat) (hk:k < xs.length) (wr:World) (u:Value) (G:ak),Below w.heap.size w wr->IsC Bc wr u xs[k] G->Calls prog fid (#[u]++caps) wr fun e w'=>e=.returned (.bool (p xs[k]))/\Below wr.heap.size wr w') :
  Calls prog 158 #[v,.func (.func fid) #[] caps] w (RB (.bool (xs.any p)) w):=by
 have hp:=Lib.hid hp
 go_enter func158,ntmps158
 go_wp2_with fail;refine (Zx fid hbd caps v xs F p _ h hp.out).mono ?_;rintro e w1 ⟨rfl,hb1⟩;go_wp2_with fail
 go_ret
 exact ⟨Ds (R8 p xs),hb1⟩
theorem Yi (v:Value) (xs:ah) (F:ak) (w:World) (h:Sl Bc w v xs F) (hm:xs.length<=4294967296) :
  Calls prog 178 #[v] w (Z9 Bc 9 xs w):=by
 obtain ⟨ao,c,news,Fy,rfl,hl,hfy,hFy,hsrc⟩:=h.src;have hFl:=hfy.lt;have he:=fun w (a:ai) (n c:Nat)=>Lib.run_eql_slice_nil (P:=prog) w 27 _ a n c 0 0 underlying27
 go_enter func178,ntmps178
 rcases hsrc with ⟨rfl,rfl,rfl⟩|⟨ad,rfl,hn⟩
 ·go_wp2
  go_ret
  exact BW
 ·go_wp2_with (at_builtin;refine P8 Ej EN FC _ _ _ FC 9 (af ⟨#[]⟩) 16 underlying27 Ajd rfl (ab (some ⟨w.heap.size,0,none⟩) 0 0) [] [w.heap.size] FC (Ow.empty (Jd.made _ _ _)) (Hd.one _) (some ad) xs c FC news Fy (hfy.frame fun b hb=>Below.heap_alloc _ _ _ (hFl b hb)) (.inr ⟨ad,rfl,fun j u hu=>kc ((Below.refl _ _).alloc (aA _) _) (hn j u hu)⟩) (fun b hb e=>by have:=hFl b hb;simp [Value.ownBlock] at e;omega) FQ GA ?_);intro v2 w2 F2 hA;go_wp2_with fail
  go_ret
  have hB:Below w.heap.size w w2:=((Below.refl _ _).alloc (aA _) _).trans (hA.Nu.below EO EO);have hs:∀b,v2.ownBlock=some b->w.heap.size<=b:=fun b hb=>by rcases hA.Al3 with e|e <;> rw [e] at hb <;> simp [Value.ownBlock] at hb <;> omega
  refine ⟨v2,F2,rfl,HY,hA.ow.scal Gp▸?_,fun b hb=>?_,hB⟩
  ·cases v2.ownBlock <;> simp
  ·rw [hA.ow.scal Gp] at hb;exact hs b IJ
def D9 (x:Ax):Bool:=Cm x.Al && Ht 1 x.size 6 && decide ((x.An.length:Int)<=x.size) && x.An.all Qd
theorem D0 {x:Ax}:D9 x=true↔(0<=x.Al/\x.Al<=65535)/\(1<=x.size/\x.size<=6)/\(x.An.length:Int)<=x.size/\x.An.all Qd=true:=by
 unfold D9;simp only [av,Bb,Ht,aC,and_assoc]
theorem Ag4 (s:am) (w:World) (hs:s.size<=maxLen) :
  Calls prog 159 #[af s] w (RB (.bool (!Qd s)) w):=by
 go_enter func159,ntmps159
 go_wp2_with fail;refine (Za s _ hs).mono ?_;rintro e w1 ⟨rfl,hb⟩;go_wp2_with fail
 go_ret
 exact ⟨rfl,hb⟩
theorem Ak3 (v:Value) (xs:ah) (F:ak) (w:World) (h:Sl Bc w v xs F) :
  Calls prog 93 #[v] w (RB (.bool (xs.all Qd)) w):=by
 have hq:(!xs.any fun s=>!Qd s)=xs.all Qd:=by rw [dy];simp
 replace hq:=Lib.hid hq
 go_enter func93,ntmps93
 go_wp2_with fail;refine (Wv _ (.mk' func159 rfl rfl) _ _ xs F (fun s=>!Qd s) _ h ?_).mono ?_
 ·rintro k hk wr u G hb ⟨_,rfl,hu⟩;obtain ⟨hu,hsz, -⟩:=hu;cases hu;exact Ag4 _ _ hsz
 rintro e w1 ⟨rfl,hb⟩;go_wp2_with fail
 go_ret
 exact ⟨Ds hq.out,hb⟩
theorem Ns (v:Value) (x:Ax) (F:ak) (w:World) (h:Vf Ci w v x F) :
  Calls prog 46 #[v] w (RB (.bool (D9 x)) w):=by
 obtain ⟨_,rfl,v1,rfl,h1⟩:=h;obtain ⟨a,c,rfl⟩:=h1.slice;have hl:=h1.len;unfold maxLen at hl;have hB0:∀A:Obj,Below w.heap.size w (w.alloc A):=fun A=>(Below.refl _ _).alloc (aA _) _
 go_enter func46,ntmps46
 go_wp2_with fail;refine (Jf _ _).mono ?_;rintro e w' ⟨rfl,rfl⟩;cases g1:Cm x.Al
 ·go_wp2_with fail
  go_ret
  exact ⟨Ds (by simp [D9,g1]),hB0 _⟩
 go_wp2_with fail;refine (Jc _ _ _ _).mono ?_;rintro e w' ⟨rfl,rfl⟩;cases g2:Ht 1 x.size 6
 ·go_wp2_with fail
  go_ret
  exact ⟨Ds (by simp [D9,g2]),hB0 _⟩
 by_cases g3:(x.An.length:Int)<=x.size
 ·go_wp2_with fail;refine (Ak3 _ x.An F _ (h1.below EN (hB0 _))).mono ?_;rintro e w1 ⟨rfl,hb⟩;go_wp2_with fail
  go_ret
  exact ⟨Ds (by simp [D9,g1,g2,g3]),tr (hB0 _) hb (aA _)⟩
 ·go_wp2_with fail
  go_ret
  exact ⟨Ds JD,hB0 _⟩
theorem Xj (v:Value) (x:Ax) (F:ak) (w:World) (h:Vf Ci w v x F) (hm:x.An.length<=4294967296) :
  Calls prog 114 #[v] w (Arc Qj x w):=by
 obtain ⟨_,rfl,v1,rfl,h1⟩:=h;obtain ⟨a,c,rfl⟩:=h1.slice;have hB0:∀A B:Obj,Below w.heap.size w ((w.alloc A).alloc B):=fun A B=>((Below.refl _ _).alloc (aA _) _).alloc EO _
 go_enter func114,ntmps114
 go_wp2_with fail;refine (Yi _ x.An F _ (h1.below EN (hB0 _ _)) hm).mono ?_;rintro e w1 ⟨v2,F2,rfl,o,n,g,hb⟩;obtain ⟨a2,c2,rfl⟩:=o.slice;have r0:=Jd.below (g:=w.heap.size) (t:=29) (cs:=[aa x.Al,aa x.size,ab a x.An.length c]) HK hb;have r1:=Jd.below (g:=w.heap.size+1) (t:=29) (cs:=[aa 0,aa 0,ab none 0 0]) HK hb;have hB:=tr (hB0 _ _) hb (aA _);have c0:=r0.cells;have f0:=r0.frozens;have c1:=r1.cells;have f1:=r1.frozens;clear hb;replace o:=Lib.hid o;go_wp2_with fail
 refine bodyPost_ret (v:=.agg #[aa x.Al,aa x.size,ab a2 x.An.length c2]) ?_ rfl ?_
 ·simp [results,results114,go_sem,c0,c1,f1]
 ·refine ⟨_,F2,rfl,⟨_,rfl,_,rfl,?_⟩,n,fun b hb=>by have:=g b hb;simp at this;omega,?_⟩
  ·repeat refine Ow.setFar ?_ (fun hm=>by have:=g _ hm;simp at this <;> omega) _
   exact o.out
  ·repeat refine Below.setCell ?_ (by simp <;> omega) _
   exact hB
theorem Ajl (v:Value) (x:Ax) (F:ak) (w:World) (h:Vf Ci w v x F) :
  Calls prog 130 #[v] w (RB (.bool (D9 x)) w):=by
 obtain ⟨_,rfl,v1,rfl,h1⟩:=h;obtain ⟨a,c,rfl⟩:=h1.slice;have hl:=h1.len;unfold maxLen at hl;have hB0:∀A:Obj,Below w.heap.size w (w.alloc A):=fun A=>(Below.refl _ _).alloc (aA _) _
 go_enter func130,ntmps130
 go_wp2_with fail;refine (N3 _ _).mono ?_;rintro e w' ⟨rfl,rfl⟩;cases g1:Cm x.Al
 ·go_wp2_with fail
  go_ret
  exact ⟨Ds (by simp [D9,g1]),hB0 _⟩
 go_wp2_with fail;refine (Mf _ _ _ _).mono ?_;rintro e w' ⟨rfl,rfl⟩;cases g2:Ht 1 x.size 6
 ·go_wp2_with fail
  go_ret
  exact ⟨Ds (by simp [D9,g2]),hB0 _⟩
 by_cases g3:x.size < (x.An.length:Int)
 ·go_wp2_with fail
  go_ret
  exact ⟨Ds JD,hB0 _⟩
 have hg:D9 x=x.An.all Qd:=by unfold D9;rw [g1,g2,au EM];simp
 replace hg:=Lib.hid hg;go_wp2_with fail;have r0:=Jd.made w 29 [aa x.Al,aa x.size,ab a x.An.length c];have h2:=h1.below EN (hB0 (.cells #[aa x.Al,aa x.size,ab a x.An.length c] 29));have hB:=hB0 (.cells #[aa x.Al,aa x.size,ab a x.An.length c] 29);generalize w.alloc (.cells #[aa x.Al,aa x.size,ab a x.An.length c] 29)=w1 at *;have c0:=r0.cells
 go_loop [3] (fun i=>∃k:Nat,k<=x.An.length/\i=aa k/\Hid (∀j,j < k->∀hj:j < x.An.length,Qd x.An[j]=true)) (fun i=>x.An.length - (intOf i).toNat)
 case atStart=>exact ⟨0,aD _,rfl,fun j hj=>by omega⟩
 case round =>
  obtain ⟨k,hk,rfl,hz⟩:=hrel;by_cases hlt:k < x.An.length
  ·obtain ⟨hsz,b,off,rfl,hc⟩:=h2.str.2.2 k hlt;cases hi:Qd x.An[k]
   ·have hi2:(decide ((x.An[k].size:Int)<=8) && Uz x.An[k].data.toList)=false:=hi;go_wp2_with fail;refine (Sy _ _ _ hsz).mono ?_;rintro e w' ⟨rfl,rfl⟩;go_wp2_with fail
    go_ret
    refine ⟨Ds ?_,hB⟩;rw [hg.out];exact (cU.2 ⟨x.An[k],aE _,by simp [hi]⟩).symm
   ·have hi2:(decide ((x.An[k].size:Int)<=8) && Uz x.An[k].data.toList)=true:=hi;go_wp2_with fail;refine (Sy _ _ _ hsz).mono ?_;rintro e w' ⟨rfl,rfl⟩;go_wp2_with fail;exact ⟨⟨k+1,EM,HX,fun j hj hl=>by rcases aY (cM hj) with h|h;exact hz.out j h hl;subst h;exact hi⟩,FP⟩
  ·have hk:k=x.An.length:=EM
   go_wp2_with fail
   go_ret
   refine ⟨Ds ?_,hB⟩;rw [hg.out];refine (aQ.2 fun s hs=>?_).symm;obtain ⟨j,hj,rfl⟩:=aR hs;exact hz.out j EM hj
theorem I2 {p:Prop} (h:p:=by first|omega|(simp only [aw,aL,aU,aK,aV,bw,be];omega)):p:=h
def EC (m:Nat):B8 (aj) where
 sz:=m
 L5 _ cs x F:=cs=x/\(x.length=m/\∀u∈x,u.oneCell'=true)/\F=[]
 len h:=by obtain ⟨rfl,⟨h,_⟩,_⟩:=h;exact h
 lt h:=by obtain ⟨_,_,rfl⟩:=h;simp
 frame h _:=h
theorem Hj (m:Nat):Ym (EC m):=fun h=>h.2.2
theorem O9 (m:Nat):Zz (EC m):=fun h=>by obtain ⟨rfl,⟨_,h⟩,_⟩:=h;exact h
theorem Ag9 {m:Nat} {w:World}:∀{ys:List (aj)} {cs:aj} {F:ak},C6 (EC m) w cs ys F->cs=ys.flatten/\F=[]/\∀y∈ys,y.length=m
 | [],_,_,h=>⟨h.1,h.2,EO⟩
 | y::r,_,_,h=>by
  obtain ⟨c1,c2,F1,F2,rfl,rfl,⟨rfl,⟨h1,_⟩,rfl⟩,h2⟩:=h;obtain ⟨rfl,rfl,h4⟩:=Ag9 h2;refine ⟨EO,rfl,fun z hz=>?_⟩;rcases aF.1 hz with rfl|hz
  ·exact h1
  ·exact h4 z hz
theorem Ahc {α:Type} {E:B8 α} {w w':World} (one:Zz E):∀{xs:List α} {cs:aj} {G:ak},C6 E w cs xs G->∃ys:List (aj),ys.length=xs.length/\cs=ys.flatten/\(∀y∈ys,y.length=E.sz)/\C6 (EC E.sz) w' cs ys []
 | [],_,_,h=>⟨[],rfl,h.1,EO,h.1,rfl⟩
 | x::r,_,_,h=>by
  obtain ⟨c1,c2,F1,F2,rfl,rfl,h1,h2⟩:=h;obtain ⟨ys,e1,rfl,e2,h3⟩:=Ahc (w':=w') one h2;refine ⟨c1::ys,by simp [e1],EO,fun z hz=>?_,c1,ys.flatten,[],[],rfl,rfl,⟨rfl,⟨E.len h1,one h1⟩,rfl⟩,h3⟩;rcases aF.1 hz with rfl|hz
  ·exact E.len h1
  ·exact e2 z hz
theorem Ai6 {m:Nat}:∀{ys:List (aj)},(∀y∈ys,y.length=m)->ys.flatten.length=ys.length * m
 | [],_=>by simp
 | y::r,h=>by
  have:=Ai6 (m:=m) (ys:=r) fun z hz=>h z HP;rw [cL,aw,this,h y EO,aK,cA];omega
theorem C6.cut {α:Type} {E:B8 α} {w:World} {c1 c2:aj} {x1 x2:List α} {G:ak} (h:C6 E w (c1++c2) (x1++x2) G) (hl:c1.length=x1.length * E.sz):∃G1 G2,G=G1++G2/\C6 E w c1 x1 G1/\C6 E w c2 x2 G2:=by
 obtain ⟨d1,d2,G1,G2,he,hG,h1,h2⟩:=h.split;have:d1.length=c1.length:=by rw [h1.len,hl]
 obtain ⟨rfl,rfl⟩:=fz he this.symm;exact ⟨G1,G2,hG,h1,h2⟩
theorem Aty:∀{N:List Pc},(fp N).Nodup->Rj N
 | [],_=>trivial
 | p::N,h=>⟨fun q hq _ b hb hqb=>Apv h hb (O8.2 ⟨q,hq,hqb⟩),Aty (bF.1 h).2.1⟩
theorem St.swap {G D w0 H M N R w} (s:St G D w0 H w) (hM:J3 H M R) (hm:∀p∈M,p.mu=true) (hN:Nh N w) (hnd:(fp M).Nodup->(fp N).Nodup) (hF:∀b∈fp N,b∈fp M):St G D w0 (N++R) w :=
 have s1:St G D w0 (M++R) w:=by simpa using hM.st (X:=[]) HI
 have sM:Rj M:=by
  have:∀(M:List Pc),Rj (M++R)->Rj M:=by
   intro M
   induction M with
   | nil=>intro _;trivial
   | cons p M ih=>intro h;exact ⟨fun q hq=>h.1 q FB,ih h.2⟩
  exact this M s1.sep
 have hn:(fp M).Nodup:=Ai7 (by simpa using hm) (fun p hp=>s1.on p HF) sM
 St.turn (M:=M) (N:=N) s1 (Gc.refl _ w) hN (Aty (hnd hn)) fun p hp b hb=>by
  obtain ⟨q,hq,hqb⟩:=O8.1 (hF b (O8.2 ⟨p,hp,hb⟩));exact .inr (.inl ⟨q,hq,hm q hq,hqb⟩)
section
variable {c:Cx} {fr:Fr} {H:List Pc} {Φ:Gl}
theorem Aa5 {α:Type} {E:B8 α} (one:Zz E) {t:TypeId} {v:Value} {xs:List α} {F:ak} {S:List Pc} {m:Nat} (hm:E.sz=m)
  (h:∀(ys:List (aj)) F0 G,ys.length=xs.length->(∀y∈ys,y.length=m)->T c fr (.ow (EC m) t v ys F0::.flat E ys.flatten xs G::S) Φ) (hp:De H (.ow E t v xs F) S:=by exact En):T c fr H Φ:=.mk fun a w s g=>by
 subst hm;have s1:=s.pick hp;obtain ⟨hnd,ho⟩:=s1.on (.ow E t v xs F) EO;rcases ho with ⟨rfl,rfl,rfl⟩|⟨b,cap,cs,rest,G,rfl,h2,h3,h4,h5,h6,rfl⟩
 ·refine (h [] [] [] rfl EO).h a w (s1.swap (M:=[_]) (N:=[.ow (EC E.sz) t (ab none 0 0) [] [],.flat E [] [] []]) (.cons .here .nil) HJ ?_ (fun _=>by simp [fp,Pc.F]) GC) g;intro p hp;simp only [aF,aM,bn] at hp;rcases hp with rfl|rfl
  ·exact ⟨EO,.inl ⟨rfl,rfl,rfl⟩⟩
  ·exact ⟨EO,rfl,rfl⟩
 ·obtain ⟨ys,e1,rfl,e2,h7⟩:=Ahc (w':=w) one h6;refine (h ys [b] G e1 e2).h a w (s1.swap (M:=[_]) (N:=[.ow (EC E.sz) t (ab (some ⟨b,0,none⟩) xs.length cap) ys [b],.flat E ys.flatten xs G]) (.cons .here .nil) HJ ?_ (fun hn=>by simpa [fp,Pc.F] using hn) GC) g;intro p hp;simp only [aF,aM,bn] at hp;rcases hp with rfl|rfl
  ·exact ⟨EO,.inr ⟨b,cap,ys.flatten,rest,[],by rw [e1],h2,by rw [e1];exact h3,h4,h5,h7,rfl⟩⟩
  ·exact ⟨(cy.1 hnd).2,h6⟩
theorem At8 {α:Type} {E:B8 α} {t:TypeId} {a:ai} {n cp:Nat} {ys:List (aj)} {cs:aj} {xs:List α} {F G:ak} {S S2:List Pc} {m:Nat}
  (h:T c fr (.ow E t (ab a n cp) xs (F++G)::S2) Φ) (hm:E.sz=m) (hc:cs=ys.flatten) (hl:ys.length=xs.length) (hp:De H (.ow (EC m) t (ab a n cp) ys F) S:=by exact En) (hp2:De S (.flat E cs xs G) S2:=by exact En):T c fr H Φ:=.mk fun ac w s g=>by
 subst hm hc;have a1:=s.on _ hp.mem;have a2:=s.on _ (hp.sub _ hp2.mem);obtain ⟨nd1,o1⟩:=a1;obtain ⟨nd2,f2⟩:=a2;refine h.h ac w (s.swap (M:=[.ow (EC E.sz) t (ab a n cp) ys F,.flat E ys.flatten xs G]) (N:=[.ow E t (ab a n cp) xs (F++G)]) (.cons hp (.cons hp2 .nil)) (by intro p hp;simp at hp;rcases hp with rfl|rfl <;> rfl) ?_ (fun hn=>by simpa [fp,Pc.F] using hn) GC) g;have hnd:(F++G).Nodup:=by
  have s2:=s.pick hp;refine bF.2 ⟨nd1,nd2,fun b hb b' hb' e=>?_⟩;subst e;exact s2.sep.1 (.flat E ys.flatten xs G) hp2.mem rfl b hb hb'
 intro p hp;simp only [aF,aM,bn] at hp;subst hp;refine ⟨hnd,?_⟩;rcases o1 with ⟨h1,rfl,rfl⟩|⟨b,cap,cs,rest,G',h1,h2,h3,h4,h5,h6,rfl⟩
 ·cases h1;have:xs=[]:=bK hl.symm;subst this;exact .inl ⟨rfl,rfl,by simpa using f2.2⟩
 ·cases h1;obtain ⟨rfl,rfl, -⟩:=Ag9 h6;exact .inr ⟨b,cp,ys.flatten,rest,G,by rw [hl],h2,by rw [<-hl];exact h3,h4,h5,f2,rfl⟩
theorem Aua {α:Type} {E:B8 α} {ys:List (aj)} {xs:List α} {G:ak} {S:List Pc} (i:Nat) (hi:i < xs.length) (hl:ys.length=xs.length) (hm:∀y∈ys,y.length=E.sz)
  (h:∀G1 Gi G2,T c fr (.flat E (ys.take i).flatten (xs.take i) G1::.Mw E (.agg (ys[i]'EM).toArray) xs[i] Gi::.flat E (ys.drop (i+1)).flatten (xs.drop (i+1)) G2::S) Φ) (hp:De H (.flat E ys.flatten xs G) S:=by exact En):T c fr H Φ:=.mk fun ac w s g=>by
 have s1:=s.pick hp;obtain ⟨hnd,hf⟩:=s1.on (.flat E ys.flatten xs G) EO;have e1:ys.flatten=(ys.take i).flatten++(ys[i]'EM++(ys.drop (i+1)).flatten):=by
  rw [<-cL,<-bN,<-fQ,bm]
 have e2:xs=xs.take i++([xs[i]]++xs.drop (i+1)):=EO
 have hf2:C6 E w ((ys.take i).flatten++(ys[i]'EM++(ys.drop (i+1)).flatten)) (xs.take i++([xs[i]]++xs.drop (i+1))) G:=by rw [<-e1,<-e2];exact hf
 obtain ⟨G1,G',rfl,f1,f2⟩:=hf2.cut (by rw [Ai6 (m:=E.sz) fun y hy=>hm y (bg hy)];simp [hl]);obtain ⟨Gi,G2,rfl,⟨d1,d2,F1,F2,h1,h2,h3,h4⟩,f3⟩:=f2.cut (by rw [hm _ (aE _)];simp);obtain ⟨rfl,rfl⟩:=h4;simp only [aP] at h1 h2;subst h1 h2;refine (h G1 Gi G2).h ac w (s1.swap (M:=[_]) (N:=[.flat E (ys.take i).flatten (xs.take i) G1,.Mw E (.agg (ys[i]'EM).toArray) xs[i] Gi,.flat E (ys.drop (i+1)).flatten (xs.drop (i+1)) G2]) (.cons .here .nil) HJ ?_ (fun hn=>by simpa [fp,Pc.F] using hn) GC) g
 have hn1:=bF.1 hnd;have hn2:=bF.1 hn1.2.1;intro p hp;simp only [aF,aM,bn] at hp;rcases hp with rfl|rfl|rfl
 ·exact ⟨hn1.1,f1⟩
 ·exact ⟨hn2.1,_,rfl,h3⟩
 ·exact ⟨hn2.2.1,f3⟩
theorem Anr {α:Type} {E:B8 α} {c1 c2:aj} {x1 x2:List α} {G1 G2:ak} {S S2:List Pc} (h:T c fr (.flat E (c1++c2) (x1++x2) (G1++G2)::S2) Φ) (hp:De H (.flat E c1 x1 G1) S:=by exact En) (hp2:De S (.flat E c2 x2 G2) S2:=by exact En):T c fr H Φ:=.mk fun ac w s g=>by
 obtain ⟨nd1,f1⟩:=s.on _ hp.mem;obtain ⟨nd2,f2⟩:=s.on _ (hp.sub _ hp2.mem);refine h.h ac w (s.swap (M:=[.flat E c1 x1 G1,.flat E c2 x2 G2]) (N:=[.flat E (c1++c2) (x1++x2) (G1++G2)]) (.cons hp (.cons hp2 .nil)) (by intro p hp;simp at hp;rcases hp with rfl|rfl <;> rfl) ?_ (fun hn=>by simpa [fp,Pc.F] using hn) GC) g;intro p hq;simp only [aF,aM,bn] at hq;subst hq;refine ⟨bF.2 ⟨nd1,nd2,fun b hb b' hb' e=>?_⟩,f1.append f2⟩;subst e;exact (s.pick hp).sep.1 (.flat E c2 x2 G2) hp2.mem rfl b hb hb'
def Axr {α:Type} (E:B8 α) (t:TypeId) (g:Nat) (v:Value) (xs:List α) (i:Nat) (A B c1 c2:aj):Prop :=
 ∀w cs y G1 Gi G2,Jd w g t (A++cs++B)->C6 E w c1 (xs.take i) G1->E.L5 w cs y Gi->C6 E w c2 (xs.drop (i+1)) G2->Ow E t w v (xs.set i y) (g::(G1++Gi++G2))
theorem Aae {α:Type} {E:B8 α} {t:TypeId} {a:ai} {n cp m:Nat} {xs:List α} {F:ak} {S:List Pc} (i:Nat)
  (h:∀(_:i < xs.length) g A cs B c1 c2 G1 Gi G2,a=some ⟨g,0,none⟩->n=xs.length->n<=cp->Axr E t g (ab (some ⟨g,0,none⟩) n cp) xs i A B c1 c2->T c fr (.row g t (0+i * m) A cs B::.Mw E (.agg cs.toArray) xs[i] Gi::.flat E c1 (xs.take i) G1::.flat E c2 (xs.drop (i+1)) G2::S) Φ)
  (hm:E.sz=m) (hi:i < xs.length) (hp:De H (.ow E t (ab a n cp) xs F) S:=by exact En):T c fr H Φ:=.mk fun ac w s ag=>by
 subst hm;have s1:=s.pick hp;obtain ⟨hnd,ho⟩:=s1.on (.ow E t (ab a n cp) xs F) EO;rcases ho with ⟨-,rfl, -⟩|⟨g,cap,cs0,rest,G,h1,h2,h3,h4,h5,h6,rfl⟩
 ·simp at hi
 cases h1;obtain ⟨A,cs,B,G1,Gi,G2,rfl,rfl,hA,hc,f1,f2,f3⟩:=h6.focus i hi
 refine (h hi g A cs (B++rest) A B G1 Gi G2 rfl rfl h3 ?_).h ac w (s1.swap (M:=[_]) (N:=[.row g t (0+i * E.sz) A cs (B++rest),.Mw E (.agg cs.toArray) xs[i] Gi,.flat E A (xs.take i) G1,.flat E B (xs.drop (i+1)) G2]) (.cons .here .nil) HJ ?_ (fun hn=>?_) (fun b hb=>?_)) ag
 ·intro w' cs' y G1' Gi' G2' hr k1 k2 k3;have:=C6.build hi k1 k2 k3;have hl:=this.len;exact .inr ⟨g,cp,A++cs'++B,rest,G1'++Gi'++G2',EO,FL,HL,h4,by
   have e1:=E.len k2;simp only [aw] at h5 ⊢;omega,this,rfl⟩
 ·have hn1:=bF.1 (cy.1 hnd).2;have hn2:=bF.1 hn1.1;intro p hp;simp only [aF,aM,bn] at hp;rcases hp with rfl|rfl|rfl|rfl
  ·exact ⟨EM,GD⟩
  ·exact ⟨hn2.2.1,_,rfl,f2⟩
  ·exact ⟨hn2.1,f1⟩
  ·exact ⟨hn1.2.1,f3⟩
 ·have:(g::(G1++Gi++G2)).Perm ([g]++(Gi++(G1++(G2++[])))):=by
   simp only [eJ,aP,aJ];refine List.Perm.cons _ ?_;rw [<-aJ,<-aJ];exact (fD).append_right _
  exact this.nodup_iff.1 (by simpa [fp,Pc.F] using hn)
 ·simp only [fp,Pc.F,aP,aG,aF,aM,bn] at hb ⊢
  grind
theorem Vb {α:Type} {E:B8 α} {t:TypeId} {g o i:Nat} {u v:Value} {xs:List α} {A cs B c1 c2:aj} {x1 x2:List α} {G1 Gi G2:ak} {S1 S2 S3 S4:List Pc} (y:α) (hh:Axr E t g u xs i A B c1 c2) (hv:v=.agg cs.toArray) (h:∀F',T c fr (.ow E t u (xs.set i y) F'::S4) Φ) (e1:x1=xs.take i:=by rfl) (e2:x2=xs.drop (i+1):=by rfl)
  (hp1:De H (.row g t o A cs B) S1:=by exact En) (hp2:De S1 (.Mw E v y Gi) S2:=by exact En) (hp3:De S2 (.flat E c1 x1 G1) S3:=by exact En) (hp4:De S3 (.flat E c2 x2 G2) S4:=by exact En):T c fr H Φ:=.mk fun ac w s ag=>by
 subst hv e1 e2;have hP:J3 H [.row g t o A cs B,.Mw E (.agg cs.toArray) y Gi,.flat E c1 (xs.take i) G1,.flat E c2 (xs.drop (i+1)) G2] S4:=.cons hp1 (.cons hp2 (.cons hp3 (.cons hp4 .nil)));have s1:St c.G c.D c.w0 ([.row g t o A cs B,.Mw E (.agg cs.toArray) y Gi,.flat E c1 (xs.take i) G1,.flat E c2 (xs.drop (i+1)) G2]++S4) w:=by simpa using hP.st (X:=[]) HI
 obtain ⟨-,r⟩:=s1.on (.row g t o A cs B) EO;obtain ⟨-,cs',e,hr⟩:=s1.on (.Mw E (.agg cs.toArray) y Gi) EO;obtain rfl:cs=cs':=IZ
 have f1:=(s1.on (.flat E c1 (xs.take i) G1) EO).2;have f3:=(s1.on (.flat E c2 (xs.drop (i+1)) G2) EO).2;have hO:=hh w cs y G1 Gi G2 r f1 hr f3;have hpm:(g::(G1++Gi++G2)).Perm ([g]++(Gi++(G1++(G2++[])))):=by
  simp only [eJ,aP,aJ];refine List.Perm.cons _ ?_;rw [<-aJ,<-aJ];exact (fD).append_right _
 have hmM:∀p∈[Pc.row g t o A cs B,.Mw E (.agg cs.toArray) y Gi,.flat E c1 (xs.take i) G1,.flat E c2 (xs.drop (i+1)) G2],p.mu=true:=by intro p hp;simp only [aF,aM,bn] at hp;rcases hp with rfl|rfl|rfl|rfl <;> rfl
 have hndM:(fp [Pc.row g t o A cs B,.Mw E (.agg cs.toArray) y Gi,.flat E c1 (xs.take i) G1,.flat E c2 (xs.drop (i+1)) G2]).Nodup:=Ai7 (by simpa using hmM) (fun p hp=>s1.on p (bC _ hp)) (by
  have sp:=s1.sep;exact ⟨fun q hq=>sp.1 q (bC _ hq),fun q hq=>sp.2.1 q (bC _ hq),fun q hq=>sp.2.2.1 q (bC _ hq),fun q hq=>sp.2.2.2.1 q (bC _ hq),trivial⟩)
 have hnd:(g::(G1++Gi++G2)).Nodup:=hpm.nodup_iff.2 (by simpa [fp,Pc.F] using hndM);refine (h (g::(G1++Gi++G2))).h ac w (s.swap hP hmM (N:=[.ow E t u (xs.set i y) (g::(G1++Gi++G2))]) (by intro p hp;rw [aH] at hp;subst hp;exact ⟨hnd,hO⟩) (fun _=>by simpa [fp,Pc.F] using hnd) (fun b hb=>?_)) ag;simp only [fp,Pc.F,aP,aG,aF,aM,bn] at hb ⊢
 grind
theorem Ag3 {α:Type} {E:B8 α} {t e m b:Nat} {z:Value} [hS:SlC c.P t e m] [hE:ElT c.P e z m b] {xs:List α} {F Fy:ak} {g tt:Nat} {cs:aj} {u:Value} {R R2 S:List Pc} {d:Nat} {ty:TypeId} {v:Value} {x y:Operand} (one:Zz E) (ey:α) (hu:u=.agg cs.toArray)
  (h:∀a' c' F',T c ((d,.slice a' (xs++[ey]).length c')::fr) (.ow E e (.slice a' (xs++[ey]).length c') (xs++[ey]) F'::S) Φ)
  (hx:ev fr x=some v:=by rfl) (hy:ev fr y=some (ab (some ⟨g,0,none⟩) 1 1):=by rfl) (hp:De H (.ow E e v xs F) R:=by exact En) (hp2:De R (.row g tt 0 [] cs []) R2:=by exact En) (hp3:De R2 (.Mw E u ey Fy) S:=by exact En) (hz:0 < E.sz:=by decide) (hm:E.sz=m:=by rfl)
  (h63:xs.length+1<=9223372036854775807:=by omega) (hby:(xs.length+1) * b<=140737488355328:=by omega) (hd:Nat.blt d c.n=true:=by rfl) :
  On c fr H (some d) (.call { callee:=.builtin .append,args:=#[x,y],argTypes:=#[t,t] }) ty Φ:=⟨fun _ _ _=>by
 subst hu;refine ap (ys:=[ey]) (Fy:=Fy) (S:=S) one hz hm hp hx hy rfl (fun w s=>?_) (fun w v' F' s hF w' hk hv=>?_) (by unfold maxLen;exact h63) hby h hd
 ·have hro:=s.on (.row g tt 0 [] cs []) (by simp [hp2.mem]);have how:=s.on (.Mw E (.agg cs.toArray) ey Fy) (by simp [hp2.sub _ hp3.mem]);obtain ⟨hnd,cs',e1,hrep⟩:=how;obtain rfl:cs=cs':=by simpa using e1
  refine ⟨cs,C6.one hrep,.inr ⟨_,rfl,fun j u hu=>?_⟩,fun b hb hbF=>?_,hnd⟩
  ·have hr:=hro.2;have:=hr.cell j;simp only [bb,aP] at this;rw [hu] at this;unfold Addr.add
   split
   ·rename_i e;subst e;exact this
   ·simpa using this
  ·exact s.sep.1 (.Mw E (.agg cs.toArray) ey Fy) (hp2.sub _ hp3.mem) rfl b hbF hb
 ·have hP:J3 (.ow E e v xs F::R) [.ow E e v xs F,.Mw E (.agg cs.toArray) ey Fy,.row g tt 0 [] cs []] S:=.cons .here (by
   have:∀{R R2 S:List Pc} {p q:Pc},De R p R2->De R2 q S->J3 R [q,p] S:=by
    intro R R2 S p q h1
    induction h1 generalizing S with
    | here=>intro h2;exact .cons (.there h2) (.cons .here .nil)
    | @there x p R R' h ih =>
     intro h2;cases h2 with
     | here=>exact .cons .here (.cons h .nil)
     | there h3 =>
      cases ih h3 with
      | cons a1 a2 =>
       cases a2 with
       | cons b1 b2=>cases b2;exact .cons (.there a1) (.cons (.there b1) .nil)
   exact this hp2 hp3)
  have s1:St c.G c.D c.w0 ([.ow E e v xs F,.Mw E (.agg cs.toArray) ey Fy]++S) w:=by
   have s0:St c.G c.D c.w0 ([.ow E e v xs F,.Mw E (.agg cs.toArray) ey Fy,.row g tt 0 [] cs []]++S) w:=by simpa using hP.st (X:=[]) HI
   have sp:=s0.sep;have hm3:∀q,q∈[Pc.ow E e v xs F,.Mw E (.agg cs.toArray) ey Fy]++S->q∈[Pc.ow E e v xs F,.Mw E (.agg cs.toArray) ey Fy,.row g tt 0 [] cs []]++S:=fun q hq=>by
    simp only [List.cons_append,bb,aF] at hq ⊢;rcases hq with h|h|h
    ·exact DS
    ·exact .inr (.inl h)
    ·exact .inr (.inr (.inr h))
   exact ⟨s0.Nu,fun q hq=>s0.on q (hm3 q hq),⟨fun q hq=>sp.1 q (by
    rcases aF.1 hq with h|h
    ·simp [h]
    ·exact aN _ (aN _ h)),fun q hq=>sp.2.1 q (aN _ hq),sp.2.2.2⟩,fun q hq=>s0.Aas q (hm3 q hq)⟩
  refine St.turn (M:=[.ow E e v xs F,.Mw E (.agg cs.toArray) ey Fy]) (N:=[.ow E e v' (xs++[ey]) F']) s1 (hk.mono (fun b hb _=>by simp [List.filter,Pc.mu,fp,Pc.F,hb])) II ⟨EO,trivial⟩ ?_;intro q hq b hb;simp only [aF,aM,bn] at hq;subst hq;rcases hF b hb with h|h|h
  ·exact .inr (.inl ⟨.ow E e v xs F,EO,rfl,h⟩)
  ·exact .inr (.inl ⟨.Mw E (.agg cs.toArray) ey Fy,EO,rfl,h⟩)
  ·exact .inl EM⟩
theorem Aud {α:Type} {E:B8 α} {a:ai} {n cp:Nat} {xs:List α} {F:ak} (k:Nat) (hk:k<=xs.length) (h:∀F',n<=cp->cp<=9223372036854775807->T c fr (.sl E (ab a k cp) (xs.take k) F'::H) Φ) (hm:.sl E (ab a n cp) xs F∈H:=by exact Cb):T c fr H Φ:=.mk fun ac w s g=>by
 obtain ⟨hz,hs⟩:=s.get hm;obtain ⟨rfl,hnc,hmx⟩:=hs.caps;obtain ⟨F',hF,h2⟩:=hs.takeS k hk;exact (h F' hnc (by unfold maxLen at hmx;omega)).h ac w (s.ro hm rfl rfl ⟨hz,h2⟩ hF) g
/-! the same for slices that read -/
def EA {α:Type} (E:B8 α) (n:Nat):B8 (List α) where
 sz:=n * E.sz
 L5 w cs xs F:=xs.length=n/\C6 E w cs xs F
 len h:=by obtain ⟨rfl,h⟩:=h;exact h.len
 lt h:=h.2.lt
 frame h hF:=⟨h.1,h.2.frame hF⟩
theorem Acp {α:Type} {E:B8 α} (one:Zz E) {a:ai} {n cp:Nat} {xs:List α} {F:ak} {m:Nat} (hm:E.sz=m)
  (h:∀(ys:List (aj)) F1 F2,ys.length=xs.length->(∀y∈ys,y.length=m)->T c fr (.sl (EC m) (ab a n cp) ys F1::.isv (EA E xs.length) (.agg ys.flatten.toArray) xs F2::H) Φ) (hp:.sl E (ab a n cp) xs F∈H:=by exact Cb):T c fr H Φ:=.mk fun ac w s g=>by
 subst hm;obtain ⟨hz,a',cap,hv,hl,hh⟩:=s.get hp;cases hv;rcases hh with ⟨rfl,rfl,h0⟩|⟨b,off,F',rfl,hne,rfl,hc⟩
 ·refine (h [] [] [] rfl EO).h ac w (s.add (N:=[.sl (EC E.sz) (ab a 0 cp) [] [],.isv (EA E 0) (.agg #[]) [] []]) (Below.refl _ _) ?_ ?_ ?_) g
  ·intro p hp;simp only [aF,aM,bn] at hp;rcases hp with rfl|rfl
   ·exact ⟨hz,a,cp,rfl,hl,.inl ⟨rfl,rfl,h0⟩⟩
   ·exact ⟨[],rfl,rfl,rfl,rfl⟩
  ·exact ⟨fun q _ hm=>by simp at *;subst_vars;simp [Pc.mu] at hm,fun q hq=>by simp at hq,trivial⟩
  ·intro p hp b hb;simp only [aF,aM,bn] at hp;rcases hp with rfl|rfl <;> simp [Pc.F] at hb
 ·have key:∀(xs:List α) (off:Nat) (G:ak),Nn E w b off xs G->∃cs,C6 E w cs xs G/\∀j u,cs[j]?=some u->w.cell? ⟨b,off+j,none⟩=some u:=by
   intro xs
   induction xs with
   | nil=>intro off G h;exact ⟨[],⟨rfl,h⟩,EO⟩
   | cons x r ih =>
    intro off G h;obtain ⟨c1,F1,F2,rfl,h1,h2,h3⟩:=h;obtain ⟨c2,f2,k2⟩:=ih _ _ h3;have hl1:=E.len h1;refine ⟨c1++c2,⟨c1,c2,F1,F2,rfl,rfl,h1,f2⟩,fun j u hu=>?_⟩;by_cases hj:j < c1.length
    ·rw [bo hj] at hu;rw [h2 j EM];exact hu
    ·rw [br EM] at hu;have:=k2 _ _ hu
     rwa [show off+E.sz+(j - c1.length)=off+j by omega] at this
  obtain ⟨cs,f1,k1⟩:=key xs off F' hc;obtain ⟨ys,e1,rfl,e2,f2⟩:=Ahc (w':=w) one f1;have hys:ys≠[]:=by rintro rfl;exact hne (bK e1.symm)
  refine (h ys [b] F' e1 e2).h ac w (s.add (N:=[.sl (EC E.sz) (ab (some ⟨b,off,none⟩) xs.length cp) ys [b],.isv (EA E xs.length) (.agg ys.flatten.toArray) xs F']) (Below.refl _ _) ?_ ?_ ?_) g
  ·intro p hp;simp only [aF,aM,bn] at hp;rcases hp with rfl|rfl
   ·refine ⟨hz,_,cp,by rw [e1],by rw [e1];exact hl,.inr ⟨b,off,[],rfl,hys,rfl,f2.cells (fun j u hu=>k1 j u hu)⟩⟩
   ·exact ⟨_,rfl,rfl,f1⟩
  ·exact ⟨fun q hq hm=>by simp only [aF,aM,bn] at hq;subst hq;simp [Pc.mu] at hm,fun q hq=>by simp at hq,trivial⟩
  ·intro p hq z hb;simp only [aF,aM,bn] at hq;rcases hq with rfl|rfl
   ·exact .inr ⟨rfl,_,hp,rfl,by simp only [Pc.F,aF,aM,bn] at hb ⊢;exact .inl hb⟩
   ·exact .inr ⟨rfl,_,hp,rfl,by simp only [Pc.F,aF] at hb ⊢;exact .inr hb⟩
theorem Pd {α:Type} {E:B8 α} {a:ai} {n cp m k:Nat} {ys:List (aj)} {v:Value} {xs:List α} {F G:ak} (hm:E.sz=m) (hl:ys.length=xs.length) (hv:v=.agg ys.flatten.toArray)
  (h:∀F',T c fr (.sl E (ab a n cp) xs F'::H) Φ) (hp:.sl (EC m) (ab a n cp) ys F∈H:=by exact Cb) (hp2:.isv (EA E k) v xs G∈H:=by exact Cb):T c fr H Φ:=.mk fun ac w s g=>by
 subst hm hv;obtain ⟨hz,a',cap,hv,hlc,hh⟩:=s.get hp;cases hv;obtain ⟨cs,e, -,hf⟩:=s.get hp2;obtain rfl:ys.flatten=cs:=IZ
 rcases hh with ⟨rfl,rfl,h0⟩|⟨b,off,F',rfl,hne,rfl,hc⟩
 ·have:xs=[]:=bK hl.symm;subst this;refine (h []).h ac w (s.add (N:=[.sl E (ab a 0 cp) [] []]) (Below.refl _ _) (by intro p hp;simp only [aF,aM,bn] at hp;subst hp;exact ⟨hz,a,cp,rfl,hlc,.inl ⟨rfl,rfl,h0⟩⟩) ⟨EO,trivial⟩ (by intro p hp b hb;simp only [aF,aM,bn] at hp;subst hp;simp [Pc.F] at hb)) g
 ·have hxs:xs≠[]:=by rintro rfl;exact hne (bK hl)
  have key:∀(ys:List (aj)) (off:Nat) (G:ak),Nn (EC E.sz) w b off ys G->∀j u,ys.flatten[j]?=some u->w.cell? ⟨b,off+j,none⟩=some u:=by
   intro ys
   induction ys with
   | nil=>intro off G _ j u hu;simp at hu
   | cons y r ih =>
    intro off G h j u hu;obtain ⟨c1,F1,F2,rfl,⟨rfl,⟨hy, -⟩, -⟩,h2,h3⟩:=h;rw [cL] at hu;by_cases hj:j < c1.length
    ·rw [bo hj] at hu;rw [h2 j (by show j < E.sz;omega)];exact hu
    ·rw [br EM] at hu;have:=ih _ _ h3 _ _ hu
     rwa [show off+(EC E.sz).sz+(j - c1.length)=off+j by show off+E.sz+(j - c1.length)=off+j;omega] at this
  refine (h (b::G)).h ac w (s.add (N:=[.sl E (ab (some ⟨b,off,none⟩) ys.length cp) xs (b::G)]) (Below.refl _ _) (by
   intro p hp;simp only [aF,aM,bn] at hp;subst hp;exact ⟨hz,_,cp,by rw [hl],by rw [<-hl];exact hlc,.inr ⟨b,off,G,rfl,hxs,rfl,hf.cells (fun j u hu=>key ys off F' hc j u hu)⟩⟩) ⟨EO,trivial⟩ (by
   intro p hq z hb;simp only [aF,aM,bn] at hq;subst hq;simp only [Pc.F,aF] at hb;rcases hb with rfl|hb
   ·exact .inr ⟨rfl,_,hp,rfl,IL⟩
   ·exact .inr ⟨rfl,_,hp2,rfl,hb⟩)) g
theorem Akh {α:Type} {E:B8 α} {v:Value} {x:α} {F:ak} (h:T c fr (.isv (EA E 1) v [x] F::H) Φ) (hp:.isv E v x F∈H:=by exact Cb):T c fr H Φ:=.mk fun ac w s g=>by
 obtain ⟨cs,e,hr⟩:=s.get hp;exact h.h ac w (s.ro hp rfl rfl ⟨cs,e,rfl,C6.one hr⟩ (fun b hb=>hb)) g
theorem At9 {α:Type} {E:B8 α} {k1 k2:Nat} {c1 c2:aj} {v1 v2:Value} {x1 x2:List α} {F1 F2:ak} (e1:v1=.agg c1.toArray) (e2:v2=.agg c2.toArray) (h:T c fr (.isv (EA E (k1+k2)) (.agg (c1++c2).toArray) (x1++x2) (F1++F2)::H) Φ) (hp:.isv (EA E k1) v1 x1 F1∈H:=by exact Cb) (hp2:.isv (EA E k2) v2 x2 F2∈H:=by exact Cb):T c fr H Φ:=.mk fun ac w s g=>by
 subst e1 e2;obtain ⟨cs,e,hl,hf⟩:=s.get hp;obtain ⟨cs2,e2,hl2,hf2⟩:=s.get hp2;obtain rfl:c1=cs:=IZ
 obtain rfl:c2=cs2:=by simpa using e2
 refine h.h ac w (s.add (N:=[.isv (EA E (k1+k2)) (.agg (c1++c2).toArray) (x1++x2) (F1++F2)]) (Below.refl _ _) (by intro p hp;rw [aH] at hp;subst hp;exact ⟨_,rfl,by simp [hl,hl2],hf.append hf2⟩) ⟨EO,trivial⟩ (by
  intro p hq z hb;rw [aH] at hq;subst hq;rcases aG.1 hb with hb|hb
  ·exact .inr ⟨rfl,_,hp,rfl,hb⟩
  ·exact .inr ⟨rfl,_,hp2,rfl,hb⟩)) g
theorem Vt {m:Nat} {cs:aj} (hm:cs.length=m) (h1:∀u∈cs,u.oneCell'=true) (w:World):C6 (EC m) w cs [cs] []:=C6.one ⟨rfl,⟨hm,h1⟩,rfl⟩
theorem Qf {α:Type} {O R:B8 α} (hW:Ny O R) {v:Value} {x:α} {F:ak} {S:List Pc} (h:∀F',T c fr (.isv R v x F'::S) Φ) (hp:De H (.Mw O v x F) S:=by exact En):T c fr H Φ:=.mk fun a w s g=>by
 have s1:=s.pick hp;obtain ⟨-,ho⟩:=s1.on (.Mw O v x F) EO;obtain ⟨F',hF,hs⟩:=Vf.Ov hW ho;exact (h F').h a w (s1.conv rfl hs hF) g
end
theorem Amx {p:Pc} {N:List Pc} {w:World} (h:p.P w) (hN:Nh N w):Nh (p::N) w:=fun q hq=>by
 rcases aF.1 hq with rfl|hq
 ·exact h
 ·exact hN q hq
theorem Ax3 {w:World}:Nh [] w:=fun q hq=>by cases hq
theorem Vx {p:Pc} {N:List Pc} {w:World} (h:Nh (p::N) w):p.P w:=h p EO
theorem M5 {p:Pc} {N:List Pc} {w:World} (h:Nh (p::N) w):Nh N w:=fun q hq=>h q FB
theorem Ba3 {A B:ak} (h:(A++B).Nodup):A.Nodup:=(bF.1 h).1
theorem Ba4 {A B:ak} (h:(A++B).Nodup):B.Nodup:=(bF.1 h).2.1
theorem St.mer {G D w0 H M N R w} (s:St G D w0 H w) (hM:J3 H M R) (hN:Nh M w->(fp M).Nodup->Nh N w/\(fp N).Nodup) (hF:∀b∈fp N,b∈fp M) (hm:∀p∈M,p.mu=true:=by simp [Pc.mu]):St G D w0 (N++R) w :=
 have s1:St G D w0 (M++R) w:=by simpa using hM.st (X:=[]) HI
 have sM:Rj M:=by
  have:∀(M:List Pc),Rj (M++R)->Rj M:=by
   intro M
   induction M with
   | nil=>intro _;trivial
   | cons p M ih=>intro h;exact ⟨fun q hq=>h.1 q FB,ih h.2⟩
  exact this M s1.sep
 have hh:Nh M w:=fun p hp=>s1.on p HF;have hn:=hN hh (Ai7 (by simpa using hm) hh sM)
 s.swap hM hm hn.1 (fun _=>hn.2) hF
section
variable {c:Cx} {fr:Fr} {H:List Pc} {Φ:Gl}
theorem Gh {v:Value} {x:Cc} {F:ak} (h:∀(a1:ai) (c1:Nat) (F1:ak) (a2:ai) (c2:Nat) (F2:ak),v=.agg #[aa x.Aa.Al,aa x.Aa.size,ab a1 x.Aa.An.length c1,aa x.Ae,aa x.quiet,ab a2 x.holds.length c2]->x.Aa.An.length<=maxLen->x.holds.length<=maxLen->T c fr (.sl Bc (ab a1 x.Aa.An.length c1) x.Aa.An F1::.sl Bx (ab a2 x.holds.length c2) x.holds F2::H) Φ) (hm:.isv El v x F∈H:=by exact Cb):T c fr H Φ:=.mk fun a w s g=>by
 exact AR
theorem Ed (x:Cc) {a1:ai} {c1:Nat} {F1:ak} {a2:ai} {c2:Nat} {F2:ak}  (h:T c fr (.isv El (.agg #[aa x.Aa.Al,aa x.Aa.size,ab a1 x.Aa.An.length c1,aa x.Ae,aa x.quiet,ab a2 x.holds.length c2]) x (F1++F2)::H) Φ) (m1:.sl Bc (ab a1 x.Aa.An.length c1) x.Aa.An F1∈H:=by exact Cb) (m2:.sl Bx (ab a2 x.holds.length c2) x.holds F2∈H:=by exact Cb):T c fr H Φ:=.mk fun a w s g=>by
 refine h.h a w (s.add (N:=[_]) (Below.refl _ _) IG ⟨EO,trivial⟩ fun q hq b hb=>?_) g;obtain rfl:=aH.1 hq;simp only [Pc.F,aG] at hb;rcases hb with hb|hb
 ·exact .inr ⟨rfl,_,m1,rfl,hb⟩
 ·exact .inr ⟨rfl,_,m2,rfl,hb⟩
theorem V6 {v:Value} {x:Cc} {F:ak} {S:List Pc} (h:∀(a1:ai) (c1:Nat) (F1:ak) (a2:ai) (c2:Nat) (F2:ak),v=.agg #[aa x.Aa.Al,aa x.Aa.size,ab a1 x.Aa.An.length c1,aa x.Ae,aa x.quiet,ab a2 x.holds.length c2]->x.Aa.An.length<=maxLen->x.holds.length<=maxLen->T c fr (.ow Bc 9 (ab a1 x.Aa.An.length c1) x.Aa.An F1::.ow Bx 130 (ab a2 x.holds.length c2) x.holds F2::S) Φ) (hp:De H (.Mw Wf v x F) S:=by exact En):T c fr H Φ:=.mk fun a w s g=>by
 obtain ⟨hn,cs,rfl,v1,v2,G1,G2,rfl,h1,h2,rfl⟩:=(s.pick hp).on (.Mw Wf v x F) EO;obtain ⟨a1,c1,rfl⟩:=h1.slice;have l1:=h1.len;obtain ⟨a2,c2,rfl⟩:=h2.slice;have l2:=h2.len;exact (h a1 c1 G1 a2 c2 G2 rfl  l1 l2).h a w (s.mer (M:=[.Mw Wf _ x _]) (N:=[.ow Bc _ _ _ G1,.ow Bx _ _ _ G2]) (.cons hp .nil) (fun _ _=>⟨Amx ⟨(Ba3 hn),h1⟩ (Amx ⟨Ba4 hn,h2⟩ (Ax3)),FO⟩) GC) g
theorem Ag6 (x:Cc) {a1:ai} {c1:Nat} {F1:ak} {a2:ai} {c2:Nat} {F2:ak} {S1 S2:List Pc}  (h:T c fr (.Mw Wf (.agg #[aa x.Aa.Al,aa x.Aa.size,ab a1 x.Aa.An.length c1,aa x.Ae,aa x.quiet,ab a2 x.holds.length c2]) x (F1++F2)::S2) Φ) (m1:De H (.ow Bc 9 (ab a1 x.Aa.An.length c1) x.Aa.An F1) S1:=by exact En) (m2:De S1 (.ow Bx 130 (ab a2 x.holds.length c2) x.holds F2) S2:=by exact En)  : T c fr H Φ:=.mk fun a w s g =>
 h.h a w (s.mer (M:=[.ow Bc _ _ _ F1,.ow Bx _ _ _ F2]) (N:=[.Mw Wf _ x (F1++F2)]) (.cons m1 (.cons m2 (.nil))) (fun hk hn=>⟨I0 ⟨FO,_,rfl,_,_,_,_,rfl,(Vx hk).2,(Vx (M5 hk)).2,rfl⟩,FO⟩) GC) g
end
section
variable {c:Cx} {fr:Fr} {H:List Pc} {Φ:Gl}
theorem Ajx {v:Value} {x:Hm} {F:ak} (h:∀(_:Unit),v=.agg #[aa x.Ab,aa x.Bl]->T c fr (H) Φ) (hm:.isv Bx v x F∈H:=by exact Cb):T c fr H Φ:=.mk fun a w s g=>by
 obtain ⟨cs,rfl,rfl,rfl⟩:=s.get hm;exact (h () rfl  ).h a w s g
theorem Tb {a:ai} {n cp:Nat} {xs:List Hm} {F:ak} (i:Nat) (h:∀(hi:i < xs.length) (b o:Nat),a=some ⟨b,o,none⟩->T c fr (.cel b (o+i * 2) [aa xs[i].Ab,aa xs[i].Bl]::H) Φ) (hm:.sl Bx (ab a n cp) xs F∈H:=by exact Cb) (hi:i < xs.length:=by omega):T c fr H Φ:=.mk fun ac w s g=>by
 exact CD
end
section
variable {c:Cx} {fr:Fr} {H:List Pc} {Φ:Gl}
theorem Eq {v:Value} {x:Ax} {F:ak} (h:∀(a1:ai) (c1:Nat) (F1:ak),v=.agg #[aa x.Al,aa x.size,ab a1 x.An.length c1]->x.An.length<=maxLen->T c fr (.sl Bc (ab a1 x.An.length c1) x.An F1::H) Φ) (hm:.isv Ci v x F∈H:=by exact Cb):T c fr H Φ:=.mk fun a w s g=>by
 exact AH
theorem Co (x:Ax) {a1:ai} {c1:Nat} {F1:ak}  (h:T c fr (.isv Ci (.agg #[aa x.Al,aa x.size,ab a1 x.An.length c1]) x (F1)::H) Φ) (m1:.sl Bc (ab a1 x.An.length c1) x.An F1∈H:=by exact Cb):T c fr H Φ:=.mk fun a w s g=>by
 exact AE
theorem Jh {v:Value} {x:Ax} {F:ak} {S:List Pc} (h:∀(a1:ai) (c1:Nat) (F1:ak),v=.agg #[aa x.Al,aa x.size,ab a1 x.An.length c1]->x.An.length<=maxLen->T c fr (.ow Bc 9 (ab a1 x.An.length c1) x.An F1::S) Φ) (hp:De H (.Mw Qj v x F) S:=by exact En):T c fr H Φ:=.mk fun a w s g=>by
 have z1:=s.pick hp;obtain ⟨hn,cs,rfl,v1,rfl,h1⟩:=z1.on (.Mw Qj v x F) EO;obtain ⟨a1,c1,rfl⟩:=h1.slice;have l1:=h1.len;refine (h a1 c1 F rfl  l1).h a w (St.turn (M:=[.Mw Qj (.agg #[aa x.Al,aa x.size,ab a1 x.An.length c1]) x _]) (N:=[.ow Bc 9 (ab a1 x.An.length c1) x.An F]) z1 (Gc.refl _ w) ?_ ?_ ?_) g
 ·intro q hq;simp at hq;subst hq;exact ⟨hn,h1⟩
 ·exact ⟨EO,trivial⟩
 ·exact DA
end
def E5 (w:Ax) (n:Int):Bool:=decide (gp w.Al n < (w.An.length:Int))
theorem Ag5 {n:Int} (h:J9 n=true):0<=n/\n<=9999:=by unfold J9 Ht at h;simpa using h
def Ae5 (x:Cc) (i:Nat):Bool:=match x.holds[i]? with
 | none=>true
 | some h=>Cm h.Ab && E5 x.Aa h.Ab && Ht (x.Ae+1) h.Bl (x.Ae+3) && (decide (i=0) || match x.holds[i - 1]? with|none=>true|some p=>!decide (gp x.Aa.Al h.Ab<=gp x.Aa.Al p.Ab))
theorem O3 {x:Cc} {i:Nat} (h:i < x.holds.length):Ae5 x i=(Cm x.holds[i].Ab && E5 x.Aa x.holds[i].Ab && Ht (x.Ae+1) x.holds[i].Bl (x.Ae+3) && (decide (i=0) || !decide (gp x.Aa.Al x.holds[i].Ab<=gp x.Aa.Al (x.holds[i - 1]'EM).Ab))):=by
 unfold Ae5;rw [aB h,aB (show i - 1 < x.holds.length by omega)]
def Cj (x:Cc):Bool:=D9 x.Aa && J9 x.Ae && Ht 0 x.quiet 3 && (List.range x.holds.length).all (Ae5 x)
theorem Adk {x:Cc} {i:Nat} (h:i < x.holds.length) (hc:Ae5 x i=false):Cj x=false:=by
 have:(List.range x.holds.length).all (Ae5 x)=false:=cU.2 ⟨i,EU,by simp [hc]⟩;simp [Cj,this]
theorem Abi {x:Cc} (h1:D9 x.Aa=true) (h2:J9 x.Ae=true) (h3:Ht 0 x.quiet 3=true) (h:∀j,j < x.holds.length->Ae5 x j=true):Cj x=true:=by
 unfold Cj;rw [h1,h2,h3,aQ.2 fun j hj=>h j HO];rfl
theorem Vy (x:Ax) (n:Int) (v:Value) (F:ak) (h0:0<=x.Al) (h1:x.Al<=65535) (h2:0<=n) (h3:n<=65535) :
  FV 105 [v,aa n] [.isv Ci v x F] (.bool (E5 x n)):=by
 refine enter func105 rfl ntmps105 fun w0=>?_;refine Eq ?_;rintro a1 c1 F1 rfl l1;refine go ?_;intros;refine As [0] [] ?_;refine D7 0 1 2 4 ?_;refine Ek 5 6 ?_;refine dN 3 ?_;exact DQ
theorem Wl (x:Ax) (n:Int) (v:Value) (F:ak) (h0:0<=x.Al) (h1:x.Al<=65535) (h2:-1<=n) (h3:n<=65536) :
  FV 133 [v,aa n] [.isv Ci v x F] (.bool (E5 x n)):=by
 refine enter func133 rfl ntmps133 fun w0=>?_;refine Eq ?_;rintro a1 c1 F1 rfl l1;refine go ?_;intros;refine As [0] [] ?_;refine D7 0 1 2 4 ?_;refine Ek 5 6 ?_;refine dN 3 ?_;refine oC ?_;refine ce (fun w s=>I1 _ _ _ EM EM) ?_;refine dk ?_;refine Ek 7 8 ?_;exact CG
theorem Ajm (x:Ax) (n:Int) (v:Value) (F:ak) (h0:0<=x.Al) (h1:x.Al<=65535) (h2:0<=n) (h3:n<=65535) :
  FV 133 [v,aa n] [.isv Ci v x F] (.bool (E5 x n)):=Wl x n v F h0 h1 EM EM
theorem Vh (x:Cc) (v:Value) (F:ak):FV 53 [v] [.isv El v x F] (.bool (Cj x)):=by
 refine enter func53 rfl ntmps53 fun w0=>?_;refine Gh ?_;rintro a1 c1 F1 a2 c2 F2 rfl l1 l2;unfold maxLen at l1 l2;refine Co x.Aa ?_;generalize F1=F3;refine go ?_;intros;refine cb (fun w st=>Ns _ x.Aa _ w (st.get (p:=.isv Ci (.agg #[aa x.Aa.Al,aa x.Aa.size,ab a1 x.Aa.An.length c1]) x.Aa F3) EO)) ?_;cases g1:D9 x.Aa
 ·refine go ?_;refine ret () trivial ?_;simp [Cj,g1,Sr]
 obtain ⟨⟨t0,t1⟩, -⟩:=D0.1 g1;refine go ?_;refine ce (fun w s=>Ro _ _) ?_;cases g2:J9 x.Ae
 ·refine go ?_;refine ret () trivial ?_;simp [Cj,g2,Sr]
 obtain ⟨k0,k1⟩:=Ag5 g2;refine go ?_;refine ce (fun w s=>Jc _ _ _ _) ?_;cases g3:Ht 0 x.quiet 3
 ·refine go ?_;refine ret () trivial ?_;simp [Cj,g3,Sr]
 refine go ?_;refine Ei [1,2,22,23] (fun k:Nat=>[(24,aa k)]) (fun k=>k<=x.holds.length/\∀j,j < k->Ae5 x j=true) (fun k=>x.holds.length - k) 0 ⟨aD _,fun j h=>by omega⟩ fun k hk=>?_;obtain ⟨hk1,hk2⟩:=hk;refine go ?_;refine Bf rfl (fun h3=>?_) (fun h3=>?_)
 ·have hk3:k < x.holds.length:=EM
  have bad:Ae5 x k=false->Cj x=false:=fun h=>Adk hk3 h;have hck:=O3 hk3;refine Tb (xs:=x.holds) k ?_;rintro hi b o e;rw [e];refine go ?_;intros;refine ce (fun w s=>Jf _ _) ?_;cases g4:Cm x.holds[k].Ab
  ·exact DK
  obtain ⟨m0,m1⟩:=Bb.1 g4;refine go ?_;refine cb (fun w st=>(Vy x.Aa x.holds[k].Ab _ _ t0 t1 m0 m1).val w (I0 (st.get (p:=.isv Ci (.agg #[aa x.Aa.Al,aa x.Aa.size,ab a1 x.Aa.An.length c1]) x.Aa F3) EO))) ?_;cases g5:E5 x.Aa x.holds[k].Ab
  ·refine go ?_;refine ret () trivial ?_;rw [bad (by rw [hck,g4,g5];rfl)];rfl
  refine go ?_;refine ce (fun w s=>Jc _ _ _ _) ?_;cases g6:Ht (x.Ae+1) x.holds[k].Bl (x.Ae+3)
  ·refine go ?_;refine ret () trivial ?_;rw [bad (by rw [hck,g4,g5,g6];rfl)];rfl
  refine go ?_;by_cases hk0:0 < k
  ·have hk4:k - 1 < x.holds.length:=EM
   have hp:=hk2 (k - 1) EM;rw [O3 hk4] at hp;simp only [av] at hp;obtain ⟨p0,p1⟩:=Bb.1 hp.1.1.1;rw [<-e];refine Tb (xs:=x.holds) (k - 1) ?_;rintro hi5 b5 o5 e5;rw [e5];refine As [0,1,3] [] ?_;refine Ek 0 1 ?_;rw [au (show (0:Int) < k by omega)];refine dt 2 ?_;refine E6 3 ?_;refine E6 4 ?_;refine E6 5 ?_;refine E6 6 ?_;refine E6 7 ?_;refine E6 8 ?_;refine E6 9 ?_;rw [show (k:Int) - 1=((k - 1:Nat):Int) by omega];refine E6 10 ?_;refine E6 11 ?_;refine E6 12 ?_;refine E6 14 ?_;refine E6 15 ?_;refine E6 16 ?_;refine E6 17 ?_;refine E6 18 ?_;refine d1g 13 ?_
   apply On.h;refine oC ?_;refine ce (fun w s=>Om _ _ _ EM EM EM EM) ?_;refine dk ?_;refine d1g 19 ?_;apply On.h;refine oC ?_;refine ce (fun w s=>Om _ _ _ EM EM EM EM) ?_;refine dk ?_;refine E6 20 ?_;refine dt 21 ?_;refine dd ?_;refine go ?_;refine Bf rfl (fun h6=>?_) (fun h6=>?_)
   ·exact BN
   ·refine go ?_;refine Cv (k+1) ⟨EM,fun j hj=>?_⟩ EM;rcases aY (bt.1 hj) with h|rfl
    ·exact hk2 j h
    ·rw [hck,g4,g5,g6,ay h6];simp
  ·have hz:k=0:=EM
   refine As [0,2] [] ?_;refine Ek 0 1 ?_;rw [ay (show ¬(0:Int) < k by omega)];refine dt 2 ?_;refine ds 3 ?_;refine ds 4 ?_;refine ds 5 ?_;refine ds 6 ?_;refine ds 7 ?_;refine ds 8 ?_;refine ds 9 ?_;refine ds 10 ?_;refine ds 11 ?_;refine ds 12 ?_;refine ds 13 ?_;refine ds 14 ?_;refine ds 15 ?_;refine ds 16 ?_;refine ds 17 ?_;refine ds 18 ?_;refine ds 19 ?_;refine ds 20 ?_;refine dt 21 ?_;refine dd ?_;refine go ?_;refine Cv (k+1) ⟨EM,fun j hj=>?_⟩ EM;rcases aY (bt.1 hj) with h|rfl
   ·exact hk2 j h
   ·rw [hck,g4,g5,g6,au hz];simp
 have hkl:k=x.holds.length:=EM
 refine go ?_;refine ret () trivial ?_;rw [Abi g1 g2 g3 (hkl▸hk2)];rfl
theorem Af4 (x:Cc) (v:Value) (F:ak):FV 69 [v] [.isv El v x F] (.bool (Cj x)):=by
 refine enter func69 rfl ntmps69 fun w0=>?_;refine Gh ?_;rintro a1 c1 F1 a2 c2 F2 rfl l1 l2;unfold maxLen at l1 l2;refine Co x.Aa ?_;generalize F1=F3;refine go ?_;intros;refine cb (fun w st=>Ajl _ x.Aa _ w (st.get (p:=.isv Ci (.agg #[aa x.Aa.Al,aa x.Aa.size,ab a1 x.Aa.An.length c1]) x.Aa F3) EO)) ?_;cases g1:D9 x.Aa
 ·refine go ?_;refine ret () trivial ?_;simp [Cj,g1,Sr]
 obtain ⟨⟨t0,t1⟩, -⟩:=D0.1 g1;refine go ?_;refine ce (fun w s=>Xt _ _) ?_;cases g2:J9 x.Ae
 ·refine go ?_;refine ret () trivial ?_;simp [Cj,g2,Sr]
 obtain ⟨k0,k1⟩:=Ag5 g2;refine go ?_;refine ce (fun w s=>Mf _ _ _ _) ?_;cases g3:Ht 0 x.quiet 3
 ·refine go ?_;refine ret () trivial ?_;simp [Cj,g3,Sr]
 refine go ?_;refine Ei [1,2] (fun k:Nat=>[(3,aa k)]) (fun k=>k<=x.holds.length/\∀j,j < k->Ae5 x j=true) (fun k=>x.holds.length - k) 0 ⟨aD _,fun j h=>by omega⟩ fun k hk=>?_;obtain ⟨hk1,hk2⟩:=hk;refine go ?_;refine Bf rfl (fun h3=>?_) (fun h3=>?_)
 ·have hk3:k < x.holds.length:=EM
  have bad:Ae5 x k=false->Cj x=false:=fun h=>Adk hk3 h;have hck:=O3 hk3;refine Tb (xs:=x.holds) k ?_;rintro hi b o e;rw [e];refine go ?_;intros;refine ce (fun w s=>N3 _ _) ?_;cases g4:Cm x.holds[k].Ab
  ·exact DK
  obtain ⟨m0,m1⟩:=Bb.1 g4;refine go ?_;refine cb (fun w st=>(Ajm x.Aa x.holds[k].Ab _ _ t0 t1 m0 m1).val w (I0 (st.get (p:=.isv Ci (.agg #[aa x.Aa.Al,aa x.Aa.size,ab a1 x.Aa.An.length c1]) x.Aa F3) EO))) ?_;cases g5:E5 x.Aa x.holds[k].Ab
  ·refine go ?_;refine ret () trivial ?_;rw [bad (by rw [hck,g4,g5];rfl)];rfl
  refine go ?_;refine ce (fun w s=>Mf _ _ _ _) ?_;cases g6:Ht (x.Ae+1) x.holds[k].Bl (x.Ae+3)
  ·refine go ?_;refine ret () trivial ?_;rw [bad (by rw [hck,g4,g5,g6];rfl)];rfl
  refine go ?_;by_cases hk0:0 < k
  ·have hk4:k - 1 < x.holds.length:=EM
   have hp:=hk2 (k - 1) EM;rw [O3 hk4] at hp;simp only [av] at hp;obtain ⟨p0,p1⟩:=Bb.1 hp.1.1.1;rw [<-e];refine Tb (xs:=x.holds) (k - 1) ?_;rintro hi5 b5 o5 e5;rw [e5];refine As [0,1,3] [] ?_;refine Ek 0 1 ?_;rw [au (show (0:Int) < k by omega)];refine dt 2 ?_;refine E6 3 ?_;refine E6 4 ?_;refine E6 5 ?_;refine E6 6 ?_;refine E6 7 ?_;refine E6 8 ?_;refine E6 9 ?_;rw [show (k:Int) - 1=((k - 1:Nat):Int) by omega];refine E6 10 ?_;refine E6 11 ?_;refine E6 12 ?_;refine E6 14 ?_;refine E6 15 ?_;refine E6 16 ?_;refine E6 17 ?_;refine E6 18 ?_;refine d1g 13 ?_
   apply On.h;refine oC ?_;refine ce (fun w s=>I1 _ _ _ EM EM) ?_;refine dk ?_;refine d1g 19 ?_;apply On.h;refine oC ?_;refine ce (fun w s=>I1 _ _ _ EM EM) ?_;refine dk ?_;refine E6 20 ?_;refine dt 21 ?_;refine dd ?_;refine go ?_;refine Bf rfl (fun h6=>?_) (fun h6=>?_)
   ·exact BN
   ·refine go ?_;refine Cv (k+1) ⟨EM,fun j hj=>?_⟩ EM;rcases aY (bt.1 hj) with h|rfl
    ·exact hk2 j h
    ·rw [hck,g4,g5,g6,ay h6];simp
  ·have hz:k=0:=EM
   refine As [0,2] [] ?_;refine Ek 0 1 ?_;rw [ay (show ¬(0:Int) < k by omega)];refine dt 2 ?_;refine ds 3 ?_;refine ds 4 ?_;refine ds 5 ?_;refine ds 6 ?_;refine ds 7 ?_;refine ds 8 ?_;refine ds 9 ?_;refine ds 10 ?_;refine ds 11 ?_;refine ds 12 ?_;refine ds 13 ?_;refine ds 14 ?_;refine ds 15 ?_;refine ds 16 ?_;refine ds 17 ?_;refine ds 18 ?_;refine ds 19 ?_;refine ds 20 ?_;refine dt 21 ?_;refine dd ?_;refine go ?_;refine Cv (k+1) ⟨EM,fun j hj=>?_⟩ EM;rcases aY (bt.1 hj) with h|rfl
   ·exact hk2 j h
   ·rw [hck,g4,g5,g6,au hz];simp
 have hkl:k=x.holds.length:=EM
 refine go ?_;refine ret () trivial ?_;rw [Abi g1 g2 g3 (hkl▸hk2)];rfl
def E9 (l:List Ar):Bool:=decide (l.length<=6) && l.all Bh
def Yh (l:List Ar):Bool:=l.all fun p=>decide (p.Bd=3)
def Mc (e:Bg):Bool:=decide (e.Ae=0) && decide (e.Af.length=0)
def Sp (r:Ay):Bool:=!r.A1 && decide (r.Ae=0) && Ob r
def Py (Cp:al) (clk:Int) (i:Nat) (e:Bg) (r:Ay) (d u:List Ar):Bool:=E9 d && E9 u && Yh u &&
 (if i=0 then Mc e && Sp r && decide (d.length=0) && decide (u.length=0)
  else if Br Cp i then Mc e && Dx r && decide (r.Ae=clk) else Ba e && decide (e.Ae=clk) && Sp r)
def Rw (n:Du) (i:Nat):Bool:=match n.Ai[i]?,n.Ah[i]?,n.down[i]?,n.up[i]? with
 | some e,some r,some d,some u=>Py n.Ao.Ad n.Ac.Ae i e r d u
 | _,_,_,_=>true
def Kn (n:Du):Bool:=decide (n.Ai.length=n.Ao.Ad.length) && decide (n.Ah.length=n.Ao.Ad.length) && decide (n.down.length=n.Ao.Ad.length) && decide (n.up.length=n.Ao.Ad.length)
def At (n:Du):Bool:=Fc n.Ao && Cj n.Ac && Kn n && N9 (Rw n) n.Ao.Ad.length
theorem Wg {n:Du} {i:Nat} (h1:i < n.Ai.length) (h2:i < n.Ah.length) (h3:i < n.down.length) (h4:i < n.up.length):Rw n i=Py n.Ao.Ad n.Ac.Ae i n.Ai[i] n.Ah[i] n.down[i] n.up[i]:=by
 unfold Rw;rw [aB h1,aB h2,aB h3,aB h4]
theorem Bk {n:Du}:Kn n=true↔n.Ai.length=n.Ao.Ad.length/\n.Ah.length=n.Ao.Ad.length/\n.down.length=n.Ao.Ad.length/\n.up.length=n.Ao.Ad.length:=by
 unfold Kn;simp only [av,aC];exact ⟨fun ⟨⟨⟨a,b⟩,c⟩,d⟩=>⟨a,b,c,d⟩,fun ⟨a,b,c,d⟩=>⟨⟨⟨a,b⟩,c⟩,d⟩⟩
theorem Vv {n:Du}:At n=true↔Fc n.Ao=true/\Cj n.Ac=true/\Kn n=true/\∀i,i < n.Ao.Ad.length->Rw n i=true:=by
 unfold At;simp only [av];exact ⟨fun ⟨⟨⟨a,b⟩,c⟩,d⟩=>⟨a,b,c,I5 d⟩,fun ⟨a,b,c,d⟩=>⟨⟨⟨a,b⟩,c⟩,Jr d⟩⟩
theorem Adi {n:Du} {i:Nat} (hi:i < n.Ao.Ad.length) (h:Rw n i=false):At n=false:=by unfold At;rw [Kx hi h,bV]
theorem Akt {r:Ay} (h:Dx r=true):Sp r=(!r.A1 && decide (r.Ae=0)):=by
 unfold Sp;cases hs:r.A1
 ·unfold Dx at h;rw [hs] at h;simp only [av,dz,if_false] at h;rw [h.2,fg]
 ·rfl
theorem Us {r:Ay} (h:Sp r=true):Dx r=true:=by
 unfold Sp at h;simp only [av,bv,aC] at h;unfold Dx;rw [h.1.1,h.2,h.1.2];rfl
theorem Ur {e:Bg} (h:Mc e=true):Ba e=true:=by
 unfold Mc at h;simp only [av,aC] at h;unfold Ba;rw [h.1,h.2];rfl
def Ahw (Cp:al) (clk:Int) (i:Nat) (e:Bg) (r:Ay) (d u:List Ar):Bool:=Ba e && Dx r && E9 d && (E9 u && Yh u) &&
 (if i=0 then Mc e && (!r.A1 && decide (r.Ae=0)) && decide (d.length+u.length=0)
  else if Br Cp i then Mc e && decide (r.Ae=clk) else (!r.A1 && decide (r.Ae=0)) && decide (e.Ae=clk))
theorem Agl (Cp:al) (clk:Int) (i:Nat) (e:Bg) (r:Ay) (d u:List Ar):Ahw Cp clk i e r d u=Py Cp clk i e r d u:=by
 have hz:(decide (d.length+u.length=0))=(decide (d.length=0) && decide (u.length=0)):=by
  by_cases a:d.length=0 <;> by_cases b:u.length=0 <;> simp [a,b]
 unfold Ahw Py;rw [hz];cases gq:E9 d <;> cases gu:E9 u <;> cases gk:Yh u <;> simp only [bV,du,fg,bW]
 split
 ·cases he:Mc e
  ·simp
  ·rw [Ur he];cases hr:Dx r
   ·cases hr2:Sp r
    ·simp
    ·rw [Us hr2] at hr;cases hr
   ·rw [Akt hr];simp [fG]
 ·split
  ·cases he:Mc e
   ·simp
   ·rw [Ur he];simp
  ·cases hr:Dx r
   ·cases hr2:Sp r
    ·simp
    ·rw [Us hr2] at hr;cases hr
   ·rw [Akt hr];cases Ba e <;> cases (!r.A1 && decide (r.Ae=0)) <;> simp
def Er (q:List Ar) (p:Ar):List Ar:=if q.length < 6 then q++[p] else q
def Da (q ps:List Ar):List Ar:=q++ps.take (6 - q.length)
theorem Aj3 (q:List Ar):Da q []=q:=by unfold Da;simp
theorem Ap3 (q:List Ar) (p:Ar) (ps:List Ar):Da (Er q p) ps=Da q (p::ps):=by
 unfold Da Er;by_cases h:q.length < 6
 ·rw [ar h,show 6 - q.length=(6 - (q.length+1))+1 by omega,fP];simp
 ·rw [aq h,show 6 - q.length=0 by omega];simp
theorem T7 (q:List Ar) (p:Ar):Da q [p]=Er q p:=by rw [<-Ap3,Aj3]
theorem Ad5 (q ps:List Ar):(Da q ps).length<=q.length+ps.length/\(q.length<=6->(Da q ps).length<=6):=by
 unfold Da;rw [aw,aL];omega
theorem Aay {q ps:List Ar} (hq:E9 q=true) (hp:∀p∈ps,Bh p=true):E9 (Da q ps)=true:=by
 unfold E9 at *;simp only [av,aC] at hq ⊢;refine ⟨(Ad5 q ps).2 hq.1,?_⟩;unfold Da;rw [eK,hq.2,bW,aQ];exact fun p h=>hp p (bg h)
def Dc (d:List (List Ar)) (nodes:al) (ps:List Ar):List (List Ar):=nodes.foldl (fun d x=>d.modify x.toNat fun q=>Da q ps) d
theorem Ya (ps:List Ar):∀(nodes:al) (d:List (List Ar)),(Dc d nodes ps).length=d.length
 | [],_=>rfl
 | x::r,d=>by
  show (Dc (d.modify x.toNat fun q=>Da q ps) r ps).length=d.length;rw [Ya ps r,cB]
theorem Akd (d:List (List Ar)) (nodes:al) (x:Int) (ps:List Ar):Dc d (nodes++[x]) ps=(Dc d nodes ps).modify x.toNat fun q=>Da q ps:=by
 unfold Dc;rw [List.foldl_append];rfl
def Ll (f:Nat->Nat):Nat->List (List Ar)->Nat
 | _,[]=>0
 | k,x::r=>x.length * f k+Ll f (k+1) r
theorem Aez (f:Nat->Nat):∀(l:List (List Ar)) (k i:Nat) (h:i < l.length) (x:List Ar),Ll f k (l.set i x)+l[i].length * f (k+i)=Ll f k l+x.length * f (k+i)
 | [],_,_,h,_=>absurd h EO
 | y::r,k,0,_,x=>by
  show x.length * f k+Ll f (k+1) r+y.length * f k=y.length * f k+Ll f (k+1) r+x.length * f k;omega
 | y::r,k,i+1,h,x=>by
  have hr:i < r.length:=EU
  have ih:=Aez f r (k+1) i hr x;show y.length * f k+Ll f (k+1) (r.set i x)+r[i].length * f (k+(i+1))=y.length * f k+Ll f (k+1) r+x.length * f (k+(i+1));rw [show k+(i+1)=k+1+i by omega];omega
theorem Hk {l:List (List Ar)} {i:Nat} {g:List Ar->List Ar} (h:i < l.length):l.modify i g=l.set i (g l[i]):=by
 refine dp fun j=>?_;rw [eM,dY];by_cases e:i=j
 ·subst e;simp [h]
 ·simp [e]
theorem Xw {l:List (List Ar)} {i:Nat} {g:List Ar->List Ar} (h:¬i < l.length):l.modify i g=l:=by
 refine dp fun j=>?_;rw [eM];by_cases e:i=j
 ·subst e;simp [bf (show l.length<=i by omega)]
 ·simp [e]
theorem Akq (f:Nat->Nat) (l:List (List Ar)) (i:Nat) (ps:List Ar):Ll f 0 (l.modify i fun q=>Da q ps)<=Ll f 0 l+ps.length * f i:=by
 by_cases h:i < l.length
 ·have h1:=Aez f l 0 i h (Da l[i] ps);have h2:=cC (f i) (Ad5 l[i] ps).1;rw [dF,cA] at *;rw [Hk h];omega
 ·rw [Xw h];omega
def Yf (f:Nat->Nat) (nodes:al):Nat:=(nodes.map fun x=>f x.toNat).sum
theorem S9 (f:Nat->Nat) (ps:List Ar):∀(nodes:al) (d:List (List Ar)),Ll f 0 (Dc d nodes ps)<=Ll f 0 d+ps.length * Yf f nodes
 | [],d=>by show Ll f 0 d<=_;omega
 | x::r,d=>by
  have ih:=S9 f ps r (d.modify x.toNat fun q=>Da q ps);have h1:=Akq f d x.toNat ps;show Ll f 0 (Dc (d.modify x.toNat fun q=>Da q ps) r ps)<=Ll f 0 d+ps.length * (f x.toNat+Yf f r);rw [Nat.mul_add];omega
theorem Auw (f:Nat->Nat) (l:List (List Ar)) (i:Nat) (h:i < l.length) (h0:0 < l[i].length):Ll f 0 (l.set i (l[i].drop 1))+f i=Ll f 0 l:=by
 have h1:=Aez f l 0 i h (l[i].drop 1);rw [aU,dF] at h1;have h2:l[i].length * f i=(l[i].length - 1) * f i+f i:=by
  obtain ⟨m,hm⟩:∃m,l[i].length=m+1:=⟨l[i].length - 1,EM⟩;rw [hm,dS,eT]
 omega
theorem Agu (f:Nat->Nat) (b:Nat):∀nodes:al,(∀x∈nodes,f x.toNat<=b)->Yf f nodes<=nodes.length * b
 | [],_=>by simp [Yf]
 | x::r,h=>by
  have ih:=Agu f b r fun y hy=>h y HQ;have:=h x EO;show f x.toNat+Yf f r<=(r.length+1) * b;rw [dS];omega
theorem If {l:al} (hg:Hf l) {i:Nat} {x:Int} (h:x∈E7 l (i:Int)):i < x.toNat/\x.toNat < l.length/\0<=x:=by
 obtain ⟨j,hj,rfl,e⟩:=Ajh h;rcases bQ j with rfl|h0
 ·have:=hg.z hj;omega
 ·have:=(hg.p j hj h0).2;simp only [ba];omega
theorem T0 (l:al) (node:Int):(E7 l node).length<=l.length:=Adn l node l.length
abbrev Bs:=List UInt8
def Bb4 (b:UInt8) (l:Bs):Bs:=(l.dropWhile (· != b)).drop 1
def Whole (x:Bs):Prop:=∃y,x=y++[10]/\∀c∈y,c≠10
theorem Wh:∀(n u:Nat),u < 10 ^ (n+1)->(Lib.decDigits u).length<=n+1
 | 0,u,h=>by rw [Lib.decDigits,fC EU];simp
 | n+1,u,h=>by
  rw [Lib.decDigits]
  split
  ·simp
  ·have:=Wh n (u / 10) (by rw [fU] at h;omega);simp;omega
structure Bch (c r:Bs):Prop where
 c0:1<=c.length
 c1:c.length<=160
 r1:r.length<=200
 ct:∀b∈c,(32<=b.toNat/\b.toNat<=126)/\b≠35
 rt:∀b∈r,(32<=b.toNat/\b.toNat<=126)/\b≠35
 ca:∀b∈c,b≠64
end Go.Proofs.YtmckdnddocfodaaGreatDoor
