/- Part 10 of the proof: 39 texts, one behind the other. -/
import Derived.MapKept
import Derived.WideMake
import Derived.Laws.Bits64b
import Derived.Test.YtmppejmafbfhlaaGreatDoorM9
open _root_.Go.Proofs.Tryz
set_option maxRecDepth 100000
set_option maxHeartbeats 8000000
set_option linter.all false
set_option linter.unusedVariables false
set_option linter.unusedSimpArgs false
namespace Go.Proofs.YtmppejmafbfhlaaGreatDoor
theorem AF{p:Prop}(h:p:=by refine ret (⟨_,_⟩:U6) trivial rfl):p:=h
theorem BO{p:Prop}(h:p:=by refine go ?_;refine Be (Tq _ g F s6 3 h6 (by omega) (by omega) (by omega)) fun l hl=>?_;obtain ⟨hl1,hl2⟩:=hl;refine go ?_;refine ret ⟨⟨1,0,l.1⟩,l.2⟩ ⟨by show (decide ((0:Int)=0) && P9 l.1)=true;rw [Aqu (by omega) hl1.2.2];rfl,by show l.1.size<=maxLen;unfold maxLen;omega,hl2.mono (by omega)⟩ rfl):p:=h
theorem BR{p:Prop}(h:p:=by refine go ?_;refine ret ⟨⟨2,((z.n:Nat):Int),⟨#[]⟩⟩,s6⟩ ⟨okq (by decide) z1 z2,by show (0:Nat)<=maxLen;exact aD _,h6.mono (by omega)⟩ rfl):p:=h
theorem BS{p:Prop}(h:p:=by refine dk ?_;refine dN 7 ?_;refine oC ?_;refine Be (Adn R (Nn (k+1)) _ Gi hgr (by omega) (by omega) (by have:=hgr.k1;omega)) fun s _=>?_;refine dk ?_;refine C4 8 9 10 11 ?_;refine dN 13 ?_;refine oS ?_;refine dk ?_;refine Dh 14 15 ?_;refine dd ?_;refine Bk (⟨_,s⟩:Nat × TkR) trivial):p:=h
theorem BW{p:Prop}(h:p:=by refine dk ?_;refine dN 8 ?_;refine oC ?_;refine Be (Adm n.Ac[i] p (Nn i) _ Gi hgr hp d0 d1_) fun s _=>?_;refine dk ?_;refine Dh 9 10 ?_;refine dt 11 ?_;refine dN 13 ?_;refine oS ?_;refine dk ?_;refine dt 14 ?_;refine dd ?_;refine Bk (⟨_,s⟩:Nat × NwS) trivial):p:=h
theorem CG{p:Prop}(h:p:=by refine go ?_;refine Be (Wi (Vx (Bo n s)) _ _ F5 hf1 hf2) fun _ _=>?_;refine go ?_;refine ret (⟨⟨y.1.a1,y.1.c1,y.1.a2,y.1.c2,y.1.a3,y.1.c3,y.1.a4,y.1.c4,y.1.a5,y.1.c5,y.1.a6,y.1.c6,y.1.a7,y.1.c7⟩,_,_,_⟩:RuS) ?_ rfl;rfl):p:=h
theorem DC{p:Prop}(h:p:=by refine go ?_;refine ret ([ab none 0 0,aa 0,aa 0,ab none 0 0,aa 0,aa 0,ab none 0 0,ab none 0 0,ab none 0 0,ab none 0 0,ab none 0 0]++[af ⟨#[]⟩,af ⟨#[]⟩,aa 0],_) trivial rfl):p:=h
theorem ES{p:Prop}(h:p:=by refine dN 13 ?_;refine oS ?_;refine dk ?_;refine dt 14 ?_;refine dd ?_;refine Bk (⟨_,b3,d3,Fe,s.a,s.c,s.G⟩:JE) trivial):p:=h
theorem EW{p:Prop}(h:p:=by refine go ?_;refine ret ⟨⟨4,0,⟨#[]⟩⟩,s6⟩ ⟨rfl,by show (0:Nat)<=maxLen;exact aD _,h6.mono (by omega)⟩ rfl):p:=h
theorem GO{p:Prop}(h:p:=by show z.i - 1 < z.i;omega):p:=h
theorem GQ{p:Prop}(h:p:=by show x.1.Ap.Ad.length - (j+1) < x.1.Ap.Ad.length - j;omega):p:=h
theorem IG{p:Prop}(h:p:=by show _ < 1000000;omega):p:=h
theorem IL{p:Prop}(h:p:=by simp [MapKept.IsKey]):p:=h
theorem JH{p:Prop}(h:p:=by rw [IntKind.wrap_u64];omega):p:=h
theorem JJ{p:Prop}(h:p:=by unfold Eo at hg;rw [aw] at hg;exact hg.1):p:=h
theorem JO{p:Prop}(h:p:=by simpa using ev.symm):p:=h
theorem JS{p:Prop}(h:p:=by simpa using e9):p:=h
theorem JV{p:Prop}(h:p:=by unfold Yr at h0;omega):p:=h
theorem KU{p:Prop}(h:p:=by show j+1<=_;omega):p:=h
end Go.Proofs.YtmppejmafbfhlaaGreatDoor
namespace Go.Proofs.YtmppejmafbfhlaaGreatDoor
open Go.RowKit
section
variable {c:Cx} {fr:Fr} {H:List Pc} {Φ:Gl}
end
end Go.Proofs.YtmppejmafbfhlaaGreatDoor
namespace Go.Proofs.YtmppejmafbfhlaaGreatDoor

open Go.RowKit
end Go.Proofs.YtmppejmafbfhlaaGreatDoor
namespace Go.Proofs.YtmppejmafbfhlaaGreatDoor
open Go.RowKit
structure MkF {α:Type} (mk:Int->α->α) (cn:α->Nat) (k0:Int) (xs:List α) (i:Nat) (K:Int):Prop where
 hi:i < xs.length
 st:((Asq mk cn k0 xs).take i++xs.drop i).set i (mk K xs[i])=(Asq mk cn k0 xs).take (i+1)++xs.drop (i+1)
 nx:K+((cn xs[i]:Nat):Int)=k0+((Bjk cn xs (i+1):Nat):Int)
 up:K+((cn xs[i]:Nat):Int)<=k0+((Bjc cn xs:Nat):Int)
 lo:k0<=K
 ml:((Asq mk cn k0 xs).take i++xs.drop i).length=xs.length
end Go.Proofs.YtmppejmafbfhlaaGreatDoor
namespace Go.Proofs.YtmppejmafbfhlaaGreatDoor

open Go.RowKit
end Go.Proofs.YtmppejmafbfhlaaGreatDoor
namespace Go.Proofs.YtmppejmafbfhlaaGreatDoor
open Go.RowKit
def Bes:Cj:=⟨Rh,⟨⟨#[]⟩,⟨#[]⟩,0⟩⟩
def Bi (t:Nf) (f y:Int):Cj × Bool:=if (Em t f y).2 then (⟨(Em t f y).1,⟨⟨#[]⟩,⟨#[]⟩,0⟩⟩,true) else (Bes,false)
def Abl (t:Nf) (f y:Int) (v:Value) (F:aq):Fn prog 9 [v,aa f,aa y] [.isv Ro v t F] [] (fun (_:am × aq)=>True) (fun s=>.tuple #[.agg s.1.toArray,.bool (Bi t f y).2]) (fun s=>[.own Qa (.agg s.1.toArray) (Bi t f y).1 s.2]):=by
 refine enter func9 rfl ntmps9 fun w0=>?_;refine Mv ?_;rintro a0 c0 F0 rfl l0;refine Bt Bc 3 ?_;refine Bt A9 9 ?_;refine Bt Bv 165 ?_;refine Bt Cc 111 ?_;refine Bt B4 118 ?_;refine Bt (J0 Ak 159) 120 ?_;refine Bt (J0 Ak 159) 120 ?_;refine Mf Bes (aD _) (aD _) ?_;refine go ?_;intros;refine Be (Aw9 t f y _ F) fun s _=>?_;unfold Bi;generalize hr:Em t f y=r;refine Vv (x:=r.1) ?_;rintro a1 c1 F1 a2 c2 F2 a3 c3 F3 a4 c4 F4 a5 c5 F5 a6 c6 F6 a7 c7 F7 e l1 l2 l3 l4 l5 l6 l7;rw [e];refine go ?_;intros;cases hb:r.2
 ·exact DC
 ·refine go ?_;refine Mf (⟨r.1,⟨⟨#[]⟩,⟨#[]⟩,0⟩⟩:Cj) (aD _) (aD _) (a6:=a6) (a7:=a7) ?_;exact BL
def Ox (t:Nf) (f y:Int) (v:Value) (F:aq):Fn prog 10 [v,aa f,aa y] [.isv Ro v t F] [] (fun (_:am × aq)=>True) (fun s=>.tuple #[.agg s.1.toArray,.bool (Bi t f y).2]) (fun s=>[.own Qa (.agg s.1.toArray) (Bi t f y).1 s.2]):=by
 refine enter func10 rfl ntmps10 fun w0=>?_;refine Mv ?_;rintro a0 c0 F0 rfl l0;refine Bt Bc 3 ?_;refine Bt A9 9 ?_;refine Bt Bv 165 ?_;refine Bt Cc 111 ?_;refine Bt B4 118 ?_;refine Bt (J0 Ak 159) 120 ?_;refine Bt (J0 Ak 159) 120 ?_;refine Mf Bes (aD _) (aD _) ?_;refine go ?_;intros;refine Be (Acm t f y _ F) fun s _=>?_;unfold Bi;generalize hr:Em t f y=r;refine Vv (x:=r.1) ?_;rintro a1 c1 F1 a2 c2 F2 a3 c3 F3 a4 c4 F4 a5 c5 F5 a6 c6 F6 a7 c7 F7 e l1 l2 l3 l4 l5 l6 l7;rw [e];refine go ?_;intros;cases hb:r.2
 ·exact DC
 ·refine go ?_;refine Mf (⟨r.1,⟨⟨#[]⟩,⟨#[]⟩,0⟩⟩:Cj) (aD _) (aD _) (a6:=a6) (a7:=a7) ?_;exact BL
def Ym (t:au):ai:=(Ds 10 t.data.toList).map bz
def Nz:Cj->ai->Cj × ai
 | c,[]=>(c,[])
 | c,l::r=>((Nz (Mg c l).1 r).1,(Mg c l).2::(Nz (Mg c l).1 r).2)
def Wk:∀(ls:ai) {c:Cj},Eo c=true->Eo (Nz c ls).1=true
 | [],_,h=>h
 | l::r,c,h=>Wk r (Ru h)
def Agy:∀(ls:ai) (c:Cj) (l:au),Nz c (ls++[l])=((Mg (Nz c ls).1 l).1,(Nz c ls).2++[(Mg (Nz c ls).1 l).2])
 | [],_,_=>rfl
 | x::r,c,l=>by
  show ((Nz (Mg c x).1 (r++[l])).1,(Mg c x).2::(Nz (Mg c x).1 (r++[l])).2)=_;rw [Agy r];rfl
def Ov:Cj->List Gz->Nat->Nat
 | _,[],i=>i
 | c,e::r,i=>if (Mg c e.Ev).2=e.Fv then Ov (Mg c e.Ev).1 r (i+1) else i
def Lm (l:Log):List Gz:=(A1 (l.Bd.data.toList++l.pending.data.toList)).map Lg.N6
def Mr (l:Log):Bool:=E4 l.Bd.data.toList l.pending.data.toList l.count
def Gs (t:Nf) (f y:Int) (l:Log):Int × Bool:=if (Bi t f y).2 && Mr l then (((Ov (Bi t f y).1 (Lm l) 0:Nat):Int),true) else (0,false)
def Yi (c:Cj) (line:au):List Gz:=if Pu line=true/\¬c.Gm.count=60 then [⟨line,(Mg c line).2⟩] else []
def Ans {c:Cj} {line:au} (h:¬(Pu line=true/\¬c.Gm.count=60)):(Mg c line).1=c/\((Mg c line).2=bz Bej\/(Mg c line).2=bz Ate):=by
 unfold Mg;by_cases h1:Pu line=true
 ·rw [aH h1,aH (cL.1 fun h2=>h ⟨h1,h2⟩)];exact ⟨rfl,.inr rfl⟩
 ·rw [aC h1];exact ⟨rfl,.inl rfl⟩
def Alv {c:Cj} {line:au} (h:Pu line=true/\¬c.Gm.count=60):Mg c line=(⟨Hz c.Bh line,Sp c.Gm line (Sh (Qo c.Bh line))⟩,Sh (Qo c.Bh line)):=by
 unfold Mg;rw [aH h.1,aC h.2]
def Azy {c:Cj} {line:au} (hg:Eo c=true):Lm (Mg c line).1.Gm=Lm c.Gm++Yi c line:=by
 by_cases h:Pu line=true/\¬c.Gm.count=60
 ·unfold Eo at hg;rw [aw] at hg;have ht:=Als (Ame (line:=line) hg.1);have hr:=Wl h.1 ht.1 ht.2;have h2:=(Ahi (l:=c.Gm) hg.2 h.2 hr).2;have hG:X0 line.data.toList (Sh (Qo c.Bh line)).data.toList:=I5 (by rw [<-Lg.Nq];exact hr);unfold Yi;rw [aH h,Alv h];unfold Lm;dsimp only;rw [h2,bB]
  congr 1
  show [Lg.N6 (Kl _ _ _)]=_;unfold Lg.N6;rw [Abp hG,Ace hG];show [(⟨bz _,bz _⟩:Gz)]=_;rw [Vd,Vd]
 ·rw [(Ans h).1];unfold Yi;rw [aC h,bc]
def Yj:Cj->ai->List Gz
 | _,[]=>[]
 | c,l::r=>Yi c l++Yj (Mg c l).1 r
def Ahy:∀(ls:ai) {c:Cj},Eo c=true->Lm (Nz c ls).1.Gm=Lm c.Gm++Yj c ls
 | [],_,_=>(bc _).symm
 | l::r,c,hg=>by
  show Lm (Nz (Mg c l).1 r).1.Gm=Lm c.Gm++(Yi c l++Yj (Mg c l).1 r);rw [Ahy r (Ru hg),Azy hg,aM]
def Yu:∀(ls:ai) (c:Cj) (j i:Nat),Ov c ((Yj c ls).take j) i=i+((Yj c ls).take j).length
 | [],c,j,i=>by show Ov c (([]:List Gz).take j) i=i+(([]:List Gz).take j).length;rw [List.take_nil];rfl
 | l::r,c,j,i=>by
  show Ov c ((Yi c l++Yj (Mg c l).1 r).take j) i=i+((Yi c l++Yj (Mg c l).1 r).take j).length;by_cases h:Pu l=true/\¬c.Gm.count=60
  ·rw [show Yi c l=[⟨l,(Mg c l).2⟩] by unfold Yi;rw [aH h]];cases j with
   | zero=>rfl
   | succ j =>
    rw [dr,ff,aU];show (if (Mg c l).2=(Mg c l).2 then Ov (Mg c l).1 ((Yj (Mg c l).1 r).take j) (i+1) else i)=_;rw [aH rfl,Yu r];omega
  ·rw [show Yi c l=[] by unfold Yi;rw [aC h],(Ans h).1];exact Yu r c j i
def Apg (s:au) (hs:s.size<=4000):Fn prog 12 [af s,af ⟨#[10]⟩] [] [] (fun (_:aj × Nat × aq)=>True) (fun z=>.tuple #[.slice z.1 (Ym s).length z.2.1,.bool true]) (fun z=>[.ow A9 9 (.slice z.1 (Ym s).length z.2.1) (Ym s) z.2.2]):=by
 refine enter func12 rfl ntmps12 fun w0=>?_;refine go ?_;rw [show decide ((s.size:Int) > 4000)=false from ay EY];refine go ?_;apply wO;apply oc;rfl;exact Bbt rfl rfl EZ EZ;refine go ?_;refine Be (Adr s 10 EY) fun q _=>?_;rw [show (Ds 10 s.data.toList).map bz=Ym s from rfl];refine go ?_;refine ret q trivial rfl
def EBs (g:Nat):B8 (List UInt8) where
 sz:=0
 Mj w cs l F:=cs=[]/\Rj w g l/\F=[g]
 len h:=IX
 lt h:=by intro b hb;rw [h.2.2] at hb;simp at hb;rw [hb];exact h.2.1.1
 frame h hF:=by
  obtain ⟨h1,h2,rfl⟩:=h;have e:=hF g FA;refine ⟨h1,⟨?_,fun j hj=>?_⟩,rfl⟩
  ·rcases dQ g _ with h|h
   ·exact h
   ·rw [dJ h,dz h2.1] at e;cases e
  ·rw [World.cell?_of_block e,World.frozen?_of_block e];exact h2.2 j hj
section
variable {c:Cx} {fr:Fr} {H:List Pc} {Φ:Gl} {d:Nat} {ty:TypeId} {x:Operand}
def Bia {b:au} (hP:c.P=prog) (hd:Nat.blt d c.n=true) (hx:ev fr x=some (af b)) (h:∀g cap,T c ((d,ab (some ⟨g,0,none⟩) b.size cap)::fr) (.isv (EBs g) (.agg #[]) b.data.toList [g]::H) Φ):On c fr H (some d) (.convert 9 22 x) ty Φ:=⟨fun _ _ _=>Ph fun Q a w s g=>by
 obtain ⟨cap,C,hr,hB, -⟩:=Ba9 b w;have e1:∀pos Cf gd,(execOp a.eval ⟨some d,.convert 9 22 x,ty,pos,Cf,gd⟩).run c.P w=.ok (.value (ab (some ⟨w.heap.size,0,none⟩) b.size cap)) (w.alloc C).drew:=by
  intro pos Cf gd;rw [hP];simp [execOp,g.ev hx,hr]
 rw [e1];exact (h _ cap).h _ _ (s.add (N:=[.isv (EBs w.heap.size) (.agg #[]) b.data.toList [w.heap.size]]) (Eu (Um _ _) 1) (I6 ⟨[],rfl,rfl,hB,rfl⟩) ⟨FA,trivial⟩ (by intro p hp q hq;simp at hp;subst hp;simp [Pc.F] at hq;subst hq;exact .inl (aK _))) (g.put hd)⟩
def Bg1 {n:Nat} {g m cap:Nat} {l:List UInt8} (hx:ev fr x=some (ab (some ⟨g,0,none⟩) m cap)) (hm:Pc.isv (EBs g) (.agg #[]) l [g]∈H) (hn:m=l.length):Yd prog n fr H (.convert 22 9 x) ty (af ⟨l.toArray⟩):=.mk fun a w d pos Cf gd hA hH=>by
 obtain ⟨_,_, -,hB, -⟩:=hH _ hm;subst hn;simp [execOp,hA.ev hx,Agl cap hB]
def Bg0 {n:Nat} {g m cap t:Nat} {l:List UInt8} (hx:ev fr x=some (ab (some ⟨g,0,none⟩) m cap)) (hm:Pc.row g t 0 [] (l.map fun u=>Value.int .u8 (u.toNat:Int)) []∈H) (hn:m=l.length):Yd prog n fr H (.convert 22 9 x) ty (af ⟨l.toArray⟩):=.mk fun a w d pos Cf gd hA hH=>by
 obtain ⟨-,hR⟩:=hH _ hm;subst hn;have hB:Rj w g l:=⟨hR.lt,fun j hj=>⟨by have:=hR.cell j;simpa [aE hj] using this,hR.frozen j⟩⟩;simp [execOp,hA.ev hx,Agl cap hB]
end
def Azz {l:Log} (h:Mr l=true):((Lm l).length:Int)=l.count:=by
 unfold Lm;rw [bf];exact (Lg.Y3 h).cnt.symm
def Rw {c:Cj} (h:Eo c=true):Mr c.Gm=true:=by unfold Eo at h;rw [aw] at h;exact h.2
def Ay2 (t:Nf) (v:Value) (F:aq) (hl:t.Ad.length<=1000000):Fn prog 226 [v] [.isv Ro v t F] [] (fun (_:KiS)=>True) (fun z=>.slice z.a (lvs t.Ad).length z.c) (fun z=>[.ow Bc 3 (.slice z.a (lvs t.Ad).length z.c) (lvs t.Ad) z.F]):=by
 refine enter func226 rfl ntmps226 fun w0=>?_;refine Mv ?_;rintro a1 c1 F1 rfl l1;refine Bt Bc 3 ?_;refine go ?_;intros;refine Ca [1,2,7] (fun z:KiS=>[(3,.slice z.a (Qx t.Ad z.k).length z.c),(8,aa (z.k:Nat))]) (fun z=>[.ow Bc 3 (.slice z.a (Qx t.Ad z.k).length z.c) (Qx t.Ad z.k) z.F]) (fun z=>z.k<=t.Ad.length) (fun z=>t.Ad.length - z.k) ⟨0,_,_,_⟩ (aD _) fun z hz=>?_;have hkl:=Akl t.Ad z.k;refine go ?_;refine Ay rfl (fun h1=>?_) (fun h1=>?_)
 ·have hh:z.k < t.Ad.length:=EY
  refine go ?_;refine Be (Yc t z.k _ F) fun _ _=>?_;cases g:Et t.Ad (z.k:Nat)
  ·rw [<-Ay4 g];exact DU
  ·refine Hy ?_;intros;apply wO;refine N9 (O3 _) C7 fun a9 c9 F9=>?_;refine go ?_;rw [<-Avj g];exact EQ
 ·have hk:z.k=t.Ad.length:=EY
  rw [show Qx t.Ad z.k=lvs t.Ad by unfold lvs;rw [hk]];exact CB
end Go.Proofs.YtmppejmafbfhlaaGreatDoor
namespace Go.Proofs.YtmppejmafbfhlaaGreatDoor

open Go.RowKit
end Go.Proofs.YtmppejmafbfhlaaGreatDoor
namespace Go.Proofs.YtmppejmafbfhlaaGreatDoor
open Go.RowKit
def An9 {E:ai} {sep:au} {m:Nat} (hs:sep.size<=2) (hm:m<=100) (hl:E.length<=900000000000) (he:∀e∈E,e.size<=m) (k:Nat):(Lib.join ((E.take k).map (·.data.toList)) sep.data.toList).length<=100000000000000:=by
 have h:=Aoa (sep:=sep.data.toList) (m:=m) (xs:=(E.take k).map (·.data.toList)) fun x hx=>by
  obtain ⟨e,he2,rfl⟩:=bL.1 hx;rw [Co];exact he e (bK he2)
 rw [bf,aP,Co] at h;have h2:(sep.size+m) * min k E.length<=102 * 900000000000:=Nat.mul_le_mul EY EY;omega
def Wi (E:ai) (a:aj) (c:Nat) (F:aq) (hl:E.length<=900000000000) (he:∀e∈E,e.size<=100):FV 98 [ab a E.length c] [.sl A9 (ab a E.length c) E F] (af (X8 E)):=by
 refine enter func98 rfl ntmps98 fun w0=>?_;refine go ?_;refine Ay rfl (fun h=>?_) (fun h=>?_)
 ·have e:E=[]:=bu.1 EY;subst e;exact AA
 ·have hf:=An9 (sep:=⟨#[44,32]⟩) EZ EZ hl he E.length;rw [bj] at hf;refine go ?_;refine cb (fun w st=>Ayp E ⟨#[44,32]⟩ a c F w (st.get (p:=.sl A9 (ab a E.length c) E F) FA) EY EY hf) ?_;refine go ?_;refine ret () trivial ?_;unfold X8 jnW;rw [aC (fun e=>h (by rw [e];rfl))];rfl
def Aac (l:ar) (a:aj) (c:Nat) (F FT:aq) (hf:∀f∈l,0<=f/\f<=99999) (h7:l.length<=1000):FV 160 [ab a l.length c] [.sl Bc (ab a l.length c) l F,Ga FT] (af (Vt l)):=by
 refine enter func160 rfl ntmps160 fun w0=>?_;refine go ?_;refine Ay rfl (fun h=>?_) (fun h=>?_)
 ·have e:l=[]:=bu.1 EY;subst e;exact AA
 ·refine go ?_;refine Be (Bc0 l a c F FT (fun f hh=>⟨(hf f hh).1,by have:=hf f hh;show f.natAbs < 100000;omega⟩) EY h7) fun _ _=>?_;refine go ?_;refine ret () trivial ?_;unfold Vt;rw [aC (fun e=>h (by rw [e];rfl))];rfl
def jnK (sep:au) (E:ai) (k:Nat):au:=bz (Lib.join ((E.take k).map (·.data.toList)) sep.data.toList)
def Ayn {sep:au} {E:ai} {k:Nat} (h0:0 < k) (h:k < E.length):jnK sep E (k+1)=jnK sep E k++sep++E[k]:=by
 unfold jnK;rw [aR h,bB,cI,di,Auq _ _ _ (by rw [bf,aP];omega)];rw [<-Vd (_++E[k]),Gp,Gp,Hn,aM]
def Bcy {sep:au} {E:ai} (h:0 < E.length):jnK sep E 1=E[0]:=by
 unfold jnK;cases E with
 | nil=>cases h
 | cons x r =>
  rw [ff,fl,cI,di,Lib.join_cons];simp [Lib.joinTail,Vd]
def Adt (E:ai) (sep:au) (a:aj) (c:Nat) (F:aq) (hs:sep.size<=2) (hl:E.length<=900000000000) (he:∀e∈E,e.size<=100):FV 127 [ab a E.length c,af sep] [.sl A9 (ab a E.length c) E F] (af (jnW sep.data.toList E)):=by
 refine enter func127 rfl ntmps127 fun w0=>?_;refine go ?_;refine Ay rfl (fun h=>?_) (fun h=>?_)
 ·have e:E=[]:=bu.1 EY;subst e;exact AA
 refine Me (xs:=E) 0 ?_;rintro hi0 b0 o0 rfl s0;refine go ?_;rw [show E[0]=jnK sep E 1 from (Bcy hi0).symm];refine Dl [0,1,4] (fun k:Nat=>[(5,af (jnK sep E k)),(6,aa (k:Nat))]) (fun k=>1<=k/\k<=E.length) (fun k=>E.length - k) 1 ⟨aK _,EY⟩ fun k hk=>?_;obtain ⟨hk1,hk2⟩:=hk;have hz:=An9 (k:=k) hs EZ hl he;have hz2:(jnK sep E k).size<=100000000000000:=by unfold jnK;rw [Ho];exact hz
 refine go ?_;refine Ay rfl (fun h3=>?_) (fun h3=>?_)
 ·have hk3:k < E.length:=EY
  have h8:=he _ (aB hk3);have hq:(jnK sep E k++sep).size=_:=aN;refine Me (xs:=E) k ?_;rintro hi b o e1 s1;cases e1;refine go ?_;rw [show jnK sep E k++sep++E[k]=jnK sep E (k+1) from (Ayn hk1 hk3).symm];refine go ?_;rw [show ((k:Nat):Int)+1=((k+1:Nat):Int) by omega];refine Ce (k+1) ⟨EY,hk3⟩ EY
 ·have hk3:k=E.length:=EY
  subst hk3;refine go ?_;refine ret () trivial ?_;unfold jnW jnK;rw [aC (fun e=>h (by rw [e];rfl)),bj];rfl
def Bh7 (l:ar):jnW [32] (l.map itB)=Vt l:=by
 unfold jnW Vt jn;by_cases h:l=[]
 ·subst h;rfl
 ·rw [aC h,aC FI,Ag8]
structure LiS where
 k:Nat
 a:aj
 c:Nat
 F:aq
def Akh (l:ar) (a:aj) (c:Nat) (F:aq) (hf:∀f∈l,0<=f/\f<=99999) (h7:l.length<=1000):FV 136 [ab a l.length c] [.sl Bc (ab a l.length c) l F] (af (Vt l)):=by
 refine enter func136 rfl ntmps136 fun w0=>?_;refine go ?_;intros;refine C3 A9 ?_;refine go ?_;refine Ca [0,2] (fun z:LiS=>[(3,.slice z.a ((l.map itB).take z.k).length z.c),(4,aa (z.k:Nat))]) (fun z=>[.ow A9 9 (.slice z.a ((l.map itB).take z.k).length z.c) ((l.map itB).take z.k) z.F]) (fun z=>z.k<=l.length) (fun z=>l.length - z.k) ⟨0,_,_,_⟩ (aD _) fun z hz=>?_;obtain ⟨k,a1,c1,F1⟩:=z;dsimp only at hz ⊢;have hml:(l.map itB).length=l.length:=bf ..;refine go ?_;refine Ay rfl (fun h3=>?_) (fun h3=>?_)
 ·have hk3:k < l.length:=EY
  have h8:=hf _ (aB hk3);have htl:((l.map itB).take k).length=k:=GD
  refine Im (xs:=l) k ?_;rintro hi b o e1;rw [e1];refine go ?_;refine cb (fun w st=>Ww l[k] (by have:=h8.1;omega) EY w) ?_;refine go ?_;intros;apply wO;refine N9 (E:=A9) (xs:=(l.map itB).take k) (Ah0 (s:=bz (Lib.itoa l[k])) (by rw [Ho,Ps h8.1];have:=Ea 5 l[k].natAbs IG;unfold maxLen;omega)) D7 fun a9 c9 F9=>?_;rw [show (l.map itB).take k++[bz (Lib.itoa l[k])]=(l.map itB).take (k+1) by rw [aR EY,eK];rfl];refine go ?_;rw [show ((k:Nat):Int)+1=((k+1:Nat):Int) by omega]
  refine Ce ⟨k+1,a9,c9,F9⟩ hk3 GR
 ·have hk3:k=l.length:=EY
  subst hk3;rw [show (l.map itB).take l.length=l.map itB by rw [<-hml];exact bj];refine Av (E:=A9) (xs:=l.map itB) fun F8=>?_;refine go ?_;refine cf (Adt (l.map itB) ⟨#[32]⟩ a1 c1 F8 EZ EY (fun e hh=>by
   obtain ⟨f,hf2,rfl⟩:=bL.1 hh;have h9:=hf f hf2;unfold itB;rw [Ho,Ps h9.1];have:=Ea 5 f.natAbs IG;omega)) fun _ _=>?_
  refine Pp ?_;refine go ?_;refine ret () trivial ?_;rw [<-Bh7 l];rfl
def Aaw:List (au × Int)->Nat->List MapEntry
 | [],_=>[]
 | (s,n)::r,i=>{ key:=.string s,val:=.int .i64 n,born:=i }::Aaw r (i+1)
def Ajr (s:au) (n:Int):∀(es:List (au × Int)) (i:Nat),Aaw (es++[(s,n)]) i=Aaw es i++[{ key:=af s,val:=aa n,born:=i+es.length }]
 | [],i=>rfl
 | (t,m)::r,i=>by
  show _::Aaw (r++[(s,n)]) (i+1)=_::(Aaw r (i+1)++_);rw [Ajr s n r (i+1),aU,show i+1+r.length=i+(r.length+1) by omega]
def Biy:B8 (Nat × List (au × Int)) where
 sz:=0
 Mj w cs x F:=cs=[]/\F=[x.1]/\w.heap[x.1]?=some (.map (Aaw x.2 0).toArray x.2.length)
 len h:=IX
 lt h:=by
  obtain ⟨-,rfl,h⟩:=h;intro b hb;rw [aL] at hb;subst hb;exact (bJ.1 h).1
 frame h hF:=by
  obtain ⟨h1,rfl,h⟩:=h;exact ⟨h1,rfl,by rw [hF _ FA];exact h⟩
def MpP (b:Nat) (es:List (au × Int)):Pc:=.own Biy (.agg #[]) (b,es) [b]
def MpP.at_ {b:Nat} {es:List (au × Int)} {w:World} (h:(MpP b es).P w):w.heap[b]?=some (.map (Aaw es 0).toArray es.length):=by
 obtain ⟨-,cs, -,h⟩:=h;exact h.2.2
def MpP.mk {b:Nat} {es:List (au × Int)} {w:World} (h:w.heap[b]?=some (.map (Aaw es 0).toArray es.length)):(MpP b es).P w:=⟨FA,[],rfl,rfl,rfl,h⟩
def Xx:List (au × Int)->au->Option Int
 | [],_=>none
 | (k,n)::r,s=>if s=k then some n else Xx r s
def Bgq {s k:au} (h:s=k):Instr.sameNow .string (af s) (af k)=some true:=by
 obtain ⟨r,hr,hi⟩:=MapKept.sameNow_of_keys (d:=.string) (a:=af s) (b:=af k) IL IL;rw [hr,hi.2 (by rw [h])]
def Bai {s k:au} (h:¬s=k):Instr.sameNow .string (af s) (af k)=some false:=by
 obtain ⟨r,hr,hi⟩:=MapKept.sameNow_of_keys (d:=.string) (a:=af s) (b:=af k) IL IL;rw [hr];cases r
 ·rfl
 ·have:=hi.1 rfl;simp at this;exact absurd this h
def Ada {s:au}:∀{es:List (au × Int)} (j i:Nat),Xx es s=none->Instr.findNow .string (af s) (Aaw es j) i=some none
 | [],_,_,_=>rfl
 | (k,n)::r,j,i,h=>by
  unfold Xx at h
  split at h
  ·cases h
  ·rename_i hk;unfold Aaw Instr.findNow;rw [Bai hk];exact Ada (j+1) (i+1) h
def Ajv {s:au} {n:Int}:∀{es:List (au × Int)} (j i:Nat),Xx es s=some n->∃m,Instr.findNow .string (af s) (Aaw es j) i=some (some (m,aa n))
 | [],_,_,h=>by cases h
 | (k,v)::r,j,i,h=>by
  unfold Xx at h
  split at h
  ·rename_i hk;cases h;refine ⟨i,?_⟩;unfold Aaw Instr.findNow;rw [Bgq hk]
  ·rename_i hk;obtain ⟨m,hm⟩:=Ajv (j+1) (i+1) h;refine ⟨m,?_⟩;unfold Aaw Instr.findNow;rw [Bai hk];exact hm
class MapC (P:Program) (t:TypeId) (kt et:outParam TypeId):Prop where
 u:P.underlying t=some (.map kt et)
 k:P.underlying kt=some .string
 z:(P.info? et).map (·.zero)=some (some (aa 0))
def Ayq {P:Program} {t kt et:TypeId} [hM:MapC P t kt et] (e:Bool) (s:au) (w:World):(Instr.checkKey e 10000 kt (af s)).run P w=.ok () w:=MapKept.run_checkKey (k:=af s) hM.k IL e 9999
section
variable {c:Cx} {fr:Fr} {H:List Pc} {Φ:Gl} {ty:TypeId} {d:Nat} {x y z:Operand}
def Bjh {t:TypeId} (hd:Nat.blt d c.n=true) (h:∀b,T c ((d,.map (some b))::fr) (MpP b []::H) Φ):On c fr H (some d) (.makeMap t none) ty Φ:=⟨fun pos Cf gd=>Ph fun Q a w s g=>by
 have e:(execOp a.eval ⟨some d,.makeMap t none,ty,pos,Cf,gd⟩).run c.P w=.ok (.value (.map (some w.heap.size))) (w.alloc (.map #[] 0)):=by
  simp [execOp,run_makeMap_plain]
 rw [e];refine (h _).h _ _ (s.add (N:=[MpP w.heap.size []]) (Um _ _) (fun p hp=>?_) ⟨FA,trivial⟩ fun p hp b hb=>?_) (g.put hd)
 ·rw [aL] at hp;subst hp;exact MpP.mk (MapKept.heap_alloc w _).1
 ·rw [aL] at hp;subst hp;simp [MpP,Pc.F] at hb;subst hb;exact .inl (aK _)⟩
def Asv {t kt et:TypeId} [hM:MapC c.P t kt et] {b:Nat} {es:List (au × Int)} {s:au} {n:Int} {S:List Pc} (hx:ev fr x=some (.map (some b))) (hy:ev fr y=some (af s)) (hz:ev fr z=some (aa n)) (hr:Rpl H (MpP b es) (MpP b (es++[(s,n)])) S) (hn:Xx es s=none) (h:T c fr S Φ):On c fr H none (.insert t x y z) ty Φ:=⟨fun pos Cf gd=>Ph fun Q a w st g=>by
 have hP:(MpP b es).P w:=by obtain ⟨R,h1,_⟩:=hr.picks;exact st.on _ h1.mem
 have hb:=MpP.at_ hP;have hf:=Ada 0 0 hn;have hk:=fun e=>Ayq (P:=c.P) (t:=t) e s w;have e:(execOp a.eval ⟨none,.insert t x y z,ty,pos,Cf,gd⟩).run c.P w=.ok .skip { w with heap:=w.heap.setIfInBounds b (.map ((Aaw es 0).toArray.push { key:=af s,val:=aa n,born:=es.length }) (es.length+1)) }:=by
  simp [execOp,g.ev hx,g.ev hy,g.ev hz,Instr.mapUpdate,run_underlying hM.u,MapKept.run_getObj_map hb,hk,MapKept.run_findKey hM.k hf,MapKept.run_setObj_map _ hb,Result.andThen]
 rw [e];obtain ⟨h1,h2⟩:=MapKept.heap_set (o':=.map ((Aaw es 0).toArray.push { key:=af s,val:=aa n,born:=es.length }) (es.length+1)) hb;refine h.h _ _ (st.rpl hr rfl (fun b hb=>.inl hb) ⟨rfl,rfl,rfl,FA,fun k hk hn=>?_⟩ (MpP.mk ?_)) g
 ·exact h2 k (fun e=>hn (by rw [e];simp [MpP,Pc.F]))
 ·rw [h1,Ajr,aA,fK,cH];rfl⟩
def Bit {P:Program} {n:Nat} {t kt et:TypeId} [hM:MapC P t kt et] {b:Nat} {es:List (au × Int)} {s:au} (hx:ev fr x=some (.map (some b))) (hy:ev fr y=some (af s)) (hm:MpP b es∈H) :
  Yd P n fr H (.lookup t x y true) ty (.tuple #[aa ((Xx es s).getD 0),.bool (Xx es s).isSome]):=.mk fun a w d pos Cf gd hA hH=>by
 have hb:=MpP.at_ (hH _ hm:(MpP b es).P w);obtain ⟨i,hi,hz⟩:=cu.1 hM.z;have hk:=fun e=>Ayq (P:=P) (t:=t) e s w;have e:(Instr.lookup t (.map (some b)) (af s) true).run P w=.ok (.tuple #[aa ((Xx es s).getD 0),.bool (Xx es s).isSome]) w:=by
  cases hg:Xx es s with
  | none=>simp [Instr.lookup,run_underlying hM.u,MapKept.run_getObj_map hb,hk,MapKept.run_findKey hM.k (Ada 0 0 hg),zeroValue,typeInfo,hi,hz,Result.andThen]
  | some v =>
   obtain ⟨m,hm⟩:=Ajv 0 0 hg;simp [Instr.lookup,run_underlying hM.u,MapKept.run_getObj_map hb,hk,MapKept.run_findKey hM.k hm,Result.andThen]
 simp [execOp,hA.ev hx,hA.ev hy,e]
end
def D0 {s:au} {l:Bs}:s=bz l↔s.data.toList=l:=⟨fun h=>by rw [h,Hn],fun h=>by rw [<-h,Vd]⟩
def Sx {ws:ai} {i:Nat} (h:i < ws.length):atW (ws.map fun t=>t.data.toList) i=(ws[i]).data.toList:=by
 unfold atW;rw [Qg (by rw [bf];exact h),eK]
def Alz:List (au × Int):=[(⟨#[100,111,119,110]⟩,2),(⟨#[117,112]⟩,5),(⟨#[108,111,115,101]⟩,3),(⟨#[99,117,116]⟩,6)]
def Aqw (s:au):(Xx Alz s).getD 0=Qw s.data.toList/\(Xx Alz s).isSome=decide (Qw s.data.toList≠0):=by
 unfold Alz Xx Xx Xx Xx Xx Qw;have e1:(s=⟨#[100,111,119,110]⟩)=(s.data.toList=Apx):=propext (D0 (l:=Apx));have e2:(s=⟨#[117,112]⟩)=(s.data.toList=wUp):=propext (D0 (l:=wUp));have e3:(s=⟨#[108,111,115,101]⟩)=(s.data.toList=Apy):=propext (D0 (l:=Apy));have e4:(s=⟨#[99,117,116]⟩)=(s.data.toList=Bbn):=propext (D0 (l:=Bbn));by_cases h1:s.data.toList=Apx
 ·rw [aH (by rw [e1];exact h1),aH h1];exact DT
 rw [aC (by rw [e1];exact h1),aC h1];by_cases h2:s.data.toList=wUp
 ·rw [aH (by rw [e2];exact h2),aH h2];exact DT
 rw [aC (by rw [e2];exact h2),aC h2];by_cases h3:s.data.toList=Apy
 ·rw [aH (by rw [e3];exact h3),aH h3];exact DT
 rw [aC (by rw [e3];exact h3),aC h3];by_cases h4:s.data.toList=Bbn
 ·rw [aH (by rw [e4];exact h4),aH h4];exact DT
 rw [aC (by rw [e4];exact h4),aC h4];exact DT
def wsL (ws:ai):List Bs:=ws.map fun t=>t.data.toList
def Apj {ws:ai} (h0:0 < ws.length) (h:ws[0]=⟨#[115,101,110,100]⟩) (hn:ws.length=1):Jf (wsL ws)=some ⟨1,0,⟨#[]⟩⟩:=by
 unfold Jf wsL;rw [Sx h0,bf,aH ⟨D0.1 h,hn⟩]
def Afa {ws:ai} (h1:1 < ws.length) (h:(ws[0]'EY)=⟨#[115,101,110,100]⟩) (hn:ws.length=2) (he:¬ws[1]=⟨#[]⟩):Jf (wsL ws)=some ⟨1,0,ws[1]⟩:=by
 unfold Jf wsL;rw [Sx EY,Sx h1,bf,aC EY,aH ⟨D0.1 h,hn,fun e=>he (D0.2 e)⟩,Vd]
def Arq {ws:ai} (h0:0 < ws.length) (h:ws[0]=⟨#[116,105,99,107]⟩) (hn:ws.length=1):Jf (wsL ws)=some ⟨4,0,⟨#[]⟩⟩:=by
 have h2:=(D0 (l:=Alb)).1 h;unfold Jf wsL;rw [Sx h0,bf,aC (by rw [h2];exact fun e=>absurd e.1 EZ),aC EY,aH ⟨h2,hn⟩]
def Yz {ws:ai} (hn:¬ws.length=2) (h1:∀h0:0 < ws.length,ws.length=1->¬ws[0]=⟨#[115,101,110,100]⟩/\¬ws[0]=⟨#[116,105,99,107]⟩) (h0:0 < ws.length):Jf (wsL ws)=none:=by
 unfold Jf wsL;rw [Sx h0,bf,aC (fun e=>(h1 h0 e.2).1 (D0.2 e.1)),aC (fun e=>hn e.2.1),aC (fun e=>(h1 h0 e.2).2 (D0.2 e.1)),aH hn]
def Ak3 {ws:ai} (h1:1 < ws.length) (hn:ws.length=2) (h:¬((ws[0]'EY)=⟨#[115,101,110,100]⟩/\¬ws[1]=⟨#[]⟩)) :
  Jf (wsL ws)=if Qw (ws[0]'EY).data.toList≠0/\(C5 ws[1]).2=true then some ⟨Qw (ws[0]'EY).data.toList,(C5 ws[1]).1,⟨#[]⟩⟩ else none:=by
 unfold Jf wsL;rw [Sx EY,Sx h1,bf,Vd,aC EY,aC (fun e=>h ⟨D0.2 e.1,fun e2=>e.2.2 (D0.1 e2)⟩),aC EY,aC EY]
instance:MapC prog 197 9 3:=⟨FB,FB,FB⟩
def Bau (ws:ai) (h0:0 < ws.length) (a:aj) (c:Nat) (F FT:aq) (hz:∀w∈ws,w.size<=1000000):Fn prog 95 [ab a ws.length c] [.sl A9 (ab a ws.length c) ws F,Ga FT] [] (fun (u:Js × Bool)=>u.1.data.size<=maxLen/\Jf (wsL ws)=if u.2 then some u.1 else none) (fun u=>.tuple #[.agg #[aa u.1.Ct,aa u.1.node,af u.1.data],.bool u.2]) (fun _=>[]):=by
 have hz0:(⟨#[]⟩:au).size<=maxLen:=aD _;refine enter func95 rfl ntmps95 fun w0=>?_;refine Me (xs:=ws) 0 ?_;rintro hi0 b0 o0 rfl s0
 repeat (first|(apply wO;apply oc;rfl;exact ydE)|(apply wO;apply Cn;rfl;intro _)|apply Anm|apply V8|apply Zz|apply Pg)
 refine Dv [0,2,3] [0,1,2,3] (fun _:Unit=>[]) (fun _=>[]) (fun _=>ws.length=2/\∀h1:1 < ws.length,¬(ws[0]=⟨#[115,101,110,100]⟩/\¬ws[1]=⟨#[]⟩)) ?_ fun _ hj=>?_
 ·by_cases h1:ws[0]=⟨#[115,101,110,100]⟩
  ·refine go ?_;rw [show decide (ws[0]=⟨#[115,101,110,100]⟩)=true from av h1];by_cases hn:ws.length=1
   ·refine go ?_;rw [show decide ((ws.length:Int)=1)=true from av EY];refine go ?_;refine ret (⟨⟨1,0,⟨#[]⟩⟩,true⟩:Js × Bool) ⟨hz0,Apj hi0 h1 hn⟩ rfl
   refine go ?_;rw [show decide ((ws.length:Int)=1)=false from ay EY];refine go ?_;rw [show decide (ws[0]=⟨#[115,101,110,100]⟩)=true from av h1];by_cases hn2:ws.length=2
   rotate_left
   ·refine go ?_;rw [show decide ((ws.length:Int)=2)=false from ay EY];refine go ?_;rw [show decide (ws[0]=⟨#[116,105,99,107]⟩)=false from ay (by rw [h1];decide)];refine go ?_;refine Ay rfl (fun h9=>?_) (fun h9=>?_)
    rotate_left
    ·exact absurd h9 EY
    refine go ?_;refine ret (⟨⟨0,0,⟨#[]⟩⟩,false⟩:Js × Bool) ⟨hz0,Yz hn2 (fun _ e=>absurd e hn) hi0⟩ rfl
   refine Me (xs:=ws) 1 ?_;rintro hi1 b1 o1 e1 s1;cases e1;refine go ?_;rw [show decide ((ws.length:Int)=2)=true from av EY];refine go ?_;by_cases he:ws[1]=⟨#[]⟩
   ·rw [show decide (¬ws[1]=⟨#[]⟩)=false from ay (fun h=>h he)];refine go ?_;rw [show decide (ws[0]=⟨#[116,105,99,107]⟩)=false from ay (by rw [h1];decide)];refine go ?_;refine Ay rfl (fun h9=>?_) (fun h9=>?_)
    ·exact absurd h9 EY
    refine go ?_;refine Bk () ⟨hn2,fun _ h=>h.2 he⟩
   ·rw [show decide (¬ws[1]=⟨#[]⟩)=true from av he];refine go ?_;refine ret (⟨⟨1,0,ws[1]⟩,true⟩:Js × Bool) ⟨s1,Afa hi1 h1 hn2 he⟩ rfl
  ·refine go ?_;rw [show decide (ws[0]=⟨#[115,101,110,100]⟩)=false from ay h1];refine go ?_;rw [show decide (ws[0]=⟨#[115,101,110,100]⟩)=false from ay h1];refine go ?_;by_cases h2:ws[0]=⟨#[116,105,99,107]⟩
   ·rw [show decide (ws[0]=⟨#[116,105,99,107]⟩)=true from av h2];refine go ?_;by_cases hn:ws.length=1
    ·rw [show decide ((ws.length:Int)=1)=true from av EY];refine go ?_;refine ret (⟨⟨4,0,⟨#[]⟩⟩,true⟩:Js × Bool) ⟨hz0,Arq hi0 h2 hn⟩ rfl
    rw [show decide ((ws.length:Int)=1)=false from ay EY];refine go ?_;refine Ay rfl (fun h9=>?_) (fun h9=>?_)
    ·refine go ?_;refine ret (⟨⟨0,0,⟨#[]⟩⟩,false⟩:Js × Bool) ⟨hz0,Yz EY (fun _ e=>⟨h1,fun e2=>by first|omega|exact h2 e2⟩) hi0⟩ rfl
    refine go ?_;refine Bk () ⟨EY,fun _ h=>h1 h.1⟩
   ·rw [show decide (ws[0]=⟨#[116,105,99,107]⟩)=false from ay h2];refine go ?_;refine Ay rfl (fun h9=>?_) (fun h9=>?_)
    ·refine go ?_;refine ret (⟨⟨0,0,⟨#[]⟩⟩,false⟩:Js × Bool) ⟨hz0,Yz EY (fun _ e=>⟨h1,fun e2=>by first|omega|exact h2 e2⟩) hi0⟩ rfl
    refine go ?_;refine Bk () ⟨EY,fun _ h=>h1 h.1⟩
 obtain ⟨hn2,hns⟩:=hj;have hi1:1 < ws.length:=EY
 have hsw:=Ak3 hi1 hn2 (hns hi1);have hz1:=hz _ (aB hi1);refine Me (xs:=ws) 1 ?_;rintro - b1 o1 e1 s1;cases e1;refine go ?_;apply wO;refine Bjh rfl fun mb=>?_;apply wO;refine Asv (s:=⟨#[100,111,119,110]⟩) rfl rfl rfl Amd rfl ?_;apply wO;refine Asv (s:=⟨#[117,112]⟩) rfl rfl rfl Amd rfl ?_;apply wO;refine Asv (s:=⟨#[108,111,115,101]⟩) rfl rfl rfl Amd rfl ?_;apply wO;refine Asv (s:=⟨#[99,117,116]⟩) rfl rfl rfl Amd rfl ?_;refine go ?_;apply wO;apply oc;rfl;exact Bit (es:=Alz) rfl rfl Bp;obtain ⟨g1,g2⟩:=Aqw ws[0];rw [g1,g2];refine go ?_
 refine cb (fun w st=>(Agd ws[1] FT EY).val w (I6 (st.get (p:=Ga FT) FA))) ?_;by_cases hk:Qw (ws[0]).data.toList≠0
 ·rw [show decide (Qw (ws[0]).data.toList≠0)=true from av hk];refine go ?_;refine ret (⟨⟨Qw (ws[0]).data.toList,(C5 ws[1]).1,⟨#[]⟩⟩,(C5 ws[1]).2⟩:Js × Bool) ⟨hz0,?_⟩ rfl;rw [hsw];cases (C5 ws[1]).2
  ·rw [aC (fun e=>by cases e.2)];rfl
  ·rw [aH ⟨hk,rfl⟩];rfl
 ·rw [show decide (Qw (ws[0]).data.toList≠0)=false from ay hk];refine go ?_;refine ret (⟨⟨Qw (ws[0]).data.toList,(C5 ws[1]).1,⟨#[]⟩⟩,false⟩:Js × Bool) ⟨hz0,?_⟩ rfl;rw [hsw,aC (fun e=>hk e.1)];rfl
def Nr {n:Dx} (h:At n=true):2<=n.Ap.Ad.length/\n.Ap.Ad.length<=8/\n.down.length<=8/\n.up.length=n.down.length/\n.Af.length=n.Ap.Ad.length/\n.down.length=n.Ap.Ad.length:=by
 have hG:=Ax.1 h;have h1:=(Hl hG.t).n0;have h2:=(Hl hG.t).n1;obtain ⟨q1,q2,q3,q4⟩:=Bn.1 hG.l;exact ⟨h1,h2,EY,EY,EY,EY⟩
def Adf {n:Dx} (h:At n=true):∀q∈n.down++n.up,q.length<=6:=fun q hq=>by
 obtain ⟨-, -,e3,e4⟩:=If h;rcases aJ.1 hq with hq|hq
 ·exact (C8 (e3 q hq)).1
 ·exact (C8 (e4 q hq)).1
structure DrS where
 x:NE
 z:NV
 a:aj
 c:Nat
 F:aq
structure DrK where
 k:Nat
 z:NV
 a:aj
 c:Nat
 F:aq
def rdQ {w:World} {t:TypeId} {a:aj} {n c:Nat} {l:List (List As)} {F:aq} (h:(Pc.ow (J0 Ak 159) t (ab a n c) l F).P w):∃F',(Pc.sl (O7 Ak EZ) (ab a n c) l F').P w:=by
 obtain ⟨F', -,hs⟩:=h.2.sl (Qr (M9.refl Ak) EZ _);exact ⟨F',EZ,hs⟩
def Vz (l:List (List As)) (a:aj) (c:Nat) (F:aq) (hl:l.length<=8) (hq:∀q∈l,q.length<=6):FV 155 [ab a l.length c] [.sl (O7 Ak EZ) (ab a l.length c) l F] (aa ((qd l:Nat):Int)):=by
 refine enter func155 rfl ntmps155 fun w0=>?_;refine go ?_;refine Dl [6,7] (fun k:Nat=>[(3,aa ((qd (l.take k):Nat):Int)),(8,aa (k:Nat))]) (fun k=>k<=l.length) (fun k=>l.length - k) 0 (aD _) fun k hk=>?_;have h6:=Ou hq k;refine go ?_;refine Ay rfl (fun h1=>?_) (fun h1=>?_)
 ·have hh:k < l.length:=EY
  have h7:=hq l[k] (aB hh);refine Ms (E:=Ak) (hz:=EZ) (xs:=l) k ?_;rintro hi6 b6 o6 a11 c11 F11 rfl l11;refine go ?_;rw [show ((qd (l.take k):Nat):Int)+(l[k].length:Int)=((qd (l.take (k+1)):Nat):Int) by rw [Ama hh];omega];refine Ce (k+1) hh GR
 ·obtain rfl:k=l.length:=EY
  refine go ?_;refine ret () trivial ?_;rw [bj];rfl
def Awb {n:Dx} {s:Js} (hg:At n=true) (hs:Dq s=true):n.Ap.Ad.length=(Ic n (Bo n s)).Ap.Ad.length/\n.Af.length=(Ic n (Bo n s)).Af.length/\n.Ac.length=(Ic n (Bo n s)).Ac.length/\n.down.length=(Ic n (Bo n s)).down.length/\n.up.length=(Ic n (Bo n s)).up.length:=by
 cases e:Bo n s with
 | none=>exact ⟨rfl,rfl,rfl,rfl,rfl⟩
 | some r=>exact Bc9 hg (M0 hg hs e) (Ts e)
def Aml (n:Dx) (s:Js) (g:Nat) (a1:aj) (c1:Nat) (F1:aq) (a2:aj) (c2:Nat) (F2:aq) (a3:aj) (c3:Nat) (F3:aq) (a4:aj) (c4:Nat) (F4:aq) (a5:aj) (c5:Nat) (F5:aq) (a6:aj) (c6:Nat) (F6:aq) (a7:aj) (c7:Nat) (F7:aq) (FT:aq) (hg:At n=true) (hs:Dq s=true) (hss:s.data.size<=maxLen) :
  Fn prog 97 [Gj g 0 0,.agg #[aa (s).Ct,aa (s).node,af (s).data]] [Ga FT] [.row g 43 0 [] [ab a1 n.Ap.Ad.length c1,aa n.Ab.Aa.Am,aa n.Ab.Aa.size,ab a2 n.Ab.Aa.Al.length c2,aa n.Ab.Ai,aa n.Ab.quiet,ab a3 n.Ab.holds.length c3,ab a4 n.Af.length c4,ab a5 n.Ac.length c5,ab a6 n.down.length c6,ab a7 n.up.length c7] [],.ow Bc 3 (ab a1 n.Ap.Ad.length c1) n.Ap.Ad F1,.ow A9 9 (ab a2 n.Ab.Aa.Al.length c2) n.Ab.Aa.Al F2,.ow Bv 165 (ab a3 n.Ab.holds.length c3) n.Ab.holds F3,.ow Cc 111 (ab a4 n.Af.length c4) n.Af F4,.ow B4 118 (ab a5 n.Ac.length c5) n.Ac F5,.ow (J0 Ak 159) 120 (ab a6 n.down.length c6) n.down F6,.ow (J0 Ak 159) 120 (ab a7 n.up.length c7) n.up F7] (fun (_:NV × KA)=>True) (fun z=>.tuple #[.slice z.2.a (Vx (Bo n s)).length z.2.c,.bool (Bo n s).isSome]) (fun z=>[.row g 43 0 [] [.slice z.1.a1 (Ic n (Bo n s)).Ap.Ad.length z.1.c1,aa (Ic n (Bo n s)).Ab.Aa.Am,aa (Ic n (Bo n s)).Ab.Aa.size,.slice z.1.a2 (Ic n (Bo n s)).Ab.Aa.Al.length z.1.c2,aa (Ic n (Bo n s)).Ab.Ai,aa (Ic n (Bo n s)).Ab.quiet,.slice z.1.a3 (Ic n (Bo n s)).Ab.holds.length z.1.c3,.slice z.1.a4 (Ic n (Bo n s)).Af.length z.1.c4,.slice z.1.a5 (Ic n (Bo n s)).Ac.length z.1.c5,.slice z.1.a6 (Ic n (Bo n s)).down.length z.1.c6,.slice z.1.a7 (Ic n (Bo n s)).up.length z.1.c7] [],.ow Bc 3 (.slice z.1.a1 (Ic n (Bo n s)).Ap.Ad.length z.1.c1) (Ic n (Bo n s)).Ap.Ad z.1.F1,.ow A9 9 (.slice z.1.a2 (Ic n (Bo n s)).Ab.Aa.Al.length z.1.c2) (Ic n (Bo n s)).Ab.Aa.Al z.1.F2,.ow Bv 165 (.slice z.1.a3 (Ic n (Bo n s)).Ab.holds.length z.1.c3) (Ic n (Bo n s)).Ab.holds z.1.F3,.ow Cc 111 (.slice z.1.a4 (Ic n (Bo n s)).Af.length z.1.c4) (Ic n (Bo n s)).Af z.1.F4,.ow B4 118 (.slice z.1.a5 (Ic n (Bo n s)).Ac.length z.1.c5) (Ic n (Bo n s)).Ac z.1.F5,.ow (J0 Ak 159) 120 (.slice z.1.a6 (Ic n (Bo n s)).down.length z.1.c6) (Ic n (Bo n s)).down z.1.F6,.ow (J0 Ak 159) 120 (.slice z.1.a7 (Ic n (Bo n s)).up.length z.1.c7) (Ic n (Bo n s)).up z.1.F7,.ow A9 9 (.slice z.2.a (Vx (Bo n s)).length z.2.c) (Vx (Bo n s)) z.2.F]):=by
 obtain ⟨k1,k2,k3,k4,k5⟩:=Awb hg hs;have h:=Bgt n s g a1 c1 F1 a2 c2 F2 a3 c3 F3 a4 c4 F4 a5 c5 F5 a6 c6 F6 a7 c7 F7 FT hg hs hss;rw [<-k1,<-k2,<-k3,<-k4,<-k5];exact h
def Aw8 (n:Dx) (g:Nat) (a1:aj) (c1:Nat) (F1:aq) (a2:aj) (c2:Nat) (F2:aq) (a3:aj) (c3:Nat) (F3:aq) (a4:aj) (c4:Nat) (F4:aq) (a5:aj) (c5:Nat) (F5:aq) (a6:aj) (c6:Nat) (F6:aq) (a7:aj) (c7:Nat) (F7:aq) (FT:aq) (hg:At n=true) :
  Fn prog 99 [Gj g 0 0] [Ga FT] [.row g 43 0 [] [ab a1 n.Ap.Ad.length c1,aa n.Ab.Aa.Am,aa n.Ab.Aa.size,ab a2 n.Ab.Aa.Al.length c2,aa n.Ab.Ai,aa n.Ab.quiet,ab a3 n.Ab.holds.length c3,ab a4 n.Af.length c4,ab a5 n.Ac.length c5,ab a6 n.down.length c6,ab a7 n.up.length c7] [],.ow Bc 3 (ab a1 n.Ap.Ad.length c1) n.Ap.Ad F1,.ow A9 9 (ab a2 n.Ab.Aa.Al.length c2) n.Ab.Aa.Al F2,.ow Bv 165 (ab a3 n.Ab.holds.length c3) n.Ab.holds F3,.ow Cc 111 (ab a4 n.Af.length c4) n.Af F4,.ow B4 118 (ab a5 n.Ac.length c5) n.Ac F5,.ow (J0 Ak 159) 120 (ab a6 n.down.length c6) n.down F6,.ow (J0 Ak 159) 120 (ab a7 n.up.length c7) n.up F7] (fun (_:NV × KA)=>True) (fun z=>.slice z.2.a (Q2 n).2.length z.2.c) (fun z=>[.row g 43 0 [] [.slice z.1.a1 (Q2 n).1.Ap.Ad.length z.1.c1,aa (Q2 n).1.Ab.Aa.Am,aa (Q2 n).1.Ab.Aa.size,.slice z.1.a2 (Q2 n).1.Ab.Aa.Al.length z.1.c2,aa (Q2 n).1.Ab.Ai,aa (Q2 n).1.Ab.quiet,.slice z.1.a3 (Q2 n).1.Ab.holds.length z.1.c3,.slice z.1.a4 (Q2 n).1.Af.length z.1.c4,.slice z.1.a5 (Q2 n).1.Ac.length z.1.c5,.slice z.1.a6 (Q2 n).1.down.length z.1.c6,.slice z.1.a7 (Q2 n).1.up.length z.1.c7] [],.ow Bc 3 (.slice z.1.a1 (Q2 n).1.Ap.Ad.length z.1.c1) (Q2 n).1.Ap.Ad z.1.F1,.ow A9 9 (.slice z.1.a2 (Q2 n).1.Ab.Aa.Al.length z.1.c2) (Q2 n).1.Ab.Aa.Al z.1.F2,.ow Bv 165 (.slice z.1.a3 (Q2 n).1.Ab.holds.length z.1.c3) (Q2 n).1.Ab.holds z.1.F3,.ow Cc 111 (.slice z.1.a4 (Q2 n).1.Af.length z.1.c4) (Q2 n).1.Af z.1.F4,.ow B4 118 (.slice z.1.a5 (Q2 n).1.Ac.length z.1.c5) (Q2 n).1.Ac z.1.F5,.ow (J0 Ak 159) 120 (.slice z.1.a6 (Q2 n).1.down.length z.1.c6) (Q2 n).1.down z.1.F6,.ow (J0 Ak 159) 120 (.slice z.1.a7 (Q2 n).1.up.length z.1.c7) (Q2 n).1.up z.1.F7,.ow A9 9 (.slice z.2.a (Q2 n).2.length z.2.c) (Q2 n).2 z.2.F]):=by
 have hwn:=Bbp hg;refine enter func99 rfl ntmps99 fun w0=>?_;refine Bt A9 9 ?_;refine go ?_
 refine Ca [0] (fun s:DrS=>[(3,ab s.a s.x.2.length s.c)]) (fun s=>[.row g 43 0 [] [ab s.z.a1 s.x.1.Ap.Ad.length s.z.c1,aa s.x.1.Ab.Aa.Am,aa s.x.1.Ab.Aa.size,ab s.z.a2 s.x.1.Ab.Aa.Al.length s.z.c2,aa s.x.1.Ab.Ai,aa s.x.1.Ab.quiet,ab s.z.a3 s.x.1.Ab.holds.length s.z.c3,ab s.z.a4 s.x.1.Af.length s.z.c4,ab s.z.a5 s.x.1.Ac.length s.z.c5,ab s.z.a6 s.x.1.down.length s.z.c6,ab s.z.a7 s.x.1.up.length s.z.c7] [],.ow Bc 3 (ab s.z.a1 s.x.1.Ap.Ad.length s.z.c1) s.x.1.Ap.Ad s.z.F1,.ow A9 9 (ab s.z.a2 s.x.1.Ab.Aa.Al.length s.z.c2) s.x.1.Ab.Aa.Al s.z.F2,.ow Bv 165 (ab s.z.a3 s.x.1.Ab.holds.length s.z.c3) s.x.1.Ab.holds s.z.F3,.ow Cc 111 (ab s.z.a4 s.x.1.Af.length s.z.c4) s.x.1.Af s.z.F4,.ow B4 118 (ab s.z.a5 s.x.1.Ac.length s.z.c5) s.x.1.Ac s.z.F5,.ow (J0 Ak 159) 120 (ab s.z.a6 s.x.1.down.length s.z.c6) s.x.1.down s.z.F6,.ow (J0 Ak 159) 120 (ab s.z.a7 s.x.1.up.length s.z.c7) s.x.1.up s.z.F7,.ow A9 9 (ab s.a s.x.2.length s.c) s.x.2 s.F]) (fun s=>Wb (n,[]) s.x/\drE s.x=Q2 n) (fun s=>wN s.x.1) ⟨(n,[]),⟨a1,c1,F1,a2,c2,F2,a3,c3,F3,a4,c4,F4,a5,c5,F5,a6,c6,F6,a7,c7,F7⟩,none,0,[]⟩ ⟨.refl hg,rfl⟩ fun s hs0=>?_
 obtain ⟨x,⟨x1,w1,K1,x2,w2,K2,x3,w3,K3,x4,w4,K4,x5,w5,K5,x6,w6,K6,x7,w7,K7⟩,ea,ec,eF⟩:=s;obtain ⟨fx,hR⟩:=hs0;dsimp only at fx hR ⊢;have hG:=Ax.1 fx.g;have h8:=Hl hG.t;have hn8:=h8.n1;have hn2:=h8.n0;obtain ⟨q1,q2,q3,q4⟩:=Bn.1 hG.l;obtain ⟨-, -,hd6,hu6⟩:=If fx.g;have hd6:∀q∈x.1.down,q.length<=6:=fun q hq=>(C8 (hd6 q hq)).1;have hu6:∀q∈x.1.up,q.length<=6:=fun q hq=>(C8 (hu6 q hq)).1;have hb1:=Ou hd6 x.1.down.length;have hb2:=Ou hu6 x.1.up.length;rw [bj] at hb1 hb2;have hev:=fx.e;simp only [aY] at hev;refine go ?_;refine Ar [0] [] ?_;refine C4 0 1 2 3 ?_
 refine C4 5 6 7 8 ?_;refine dN 4 ?_;refine oC ?_;refine cfr (fun w st=>by obtain ⟨Fq,hq⟩:=rdQ (st.get (p:=.ow (J0 Ak 159) 120 (ab x6 x.1.down.length w6) x.1.down K6) FD);exact ⟨_,I6 hq,rfl,Vz _ _ _ Fq EY FR⟩) (fun _ _=>?_);refine Pp ?_;refine dk ?_;refine dN 9 ?_;refine oC ?_;refine cfr (fun w st=>by obtain ⟨Fq,hq⟩:=rdQ (st.get (p:=.ow (J0 Ak 159) 120 (ab x7 x.1.up.length w7) x.1.up K7) FD);exact ⟨_,I6 hq,rfl,Vz _ _ _ Fq EY FR⟩) (fun _ _=>?_);refine Pp ?_;refine dk ?_;refine Dh 10 11 ?_;refine dd ?_;refine go ?_
 refine Ay rfl (fun h1=>?_) (fun h1=>?_)
 ·have hq0:¬Yr x.1=0:=by unfold Yr;omega
  obtain ⟨fR,hw⟩:=M6 fx.g;have hw:=hw hq0;refine go ?_
  refine Ca [0,24] (fun y:DrK=>[(3,.slice y.a (Ey x y.k).2.length y.c),(25,aa (y.k:Nat))]) (fun y=>[.row g 43 0 [] [.slice y.z.a1 (Ey x y.k).1.Ap.Ad.length y.z.c1,aa (Ey x y.k).1.Ab.Aa.Am,aa (Ey x y.k).1.Ab.Aa.size,.slice y.z.a2 (Ey x y.k).1.Ab.Aa.Al.length y.z.c2,aa (Ey x y.k).1.Ab.Ai,aa (Ey x y.k).1.Ab.quiet,.slice y.z.a3 (Ey x y.k).1.Ab.holds.length y.z.c3,.slice y.z.a4 (Ey x y.k).1.Af.length y.z.c4,.slice y.z.a5 (Ey x y.k).1.Ac.length y.z.c5,.slice y.z.a6 (Ey x y.k).1.down.length y.z.c6,.slice y.z.a7 (Ey x y.k).1.up.length y.z.c7] [],.ow Bc 3 (.slice y.z.a1 (Ey x y.k).1.Ap.Ad.length y.z.c1) (Ey x y.k).1.Ap.Ad y.z.F1,.ow A9 9 (.slice y.z.a2 (Ey x y.k).1.Ab.Aa.Al.length y.z.c2) (Ey x y.k).1.Ab.Aa.Al y.z.F2,.ow Bv 165 (.slice y.z.a3 (Ey x y.k).1.Ab.holds.length y.z.c3) (Ey x y.k).1.Ab.holds y.z.F3,.ow Cc 111 (.slice y.z.a4 (Ey x y.k).1.Af.length y.z.c4) (Ey x y.k).1.Af y.z.F4,.ow B4 118 (.slice y.z.a5 (Ey x y.k).1.Ac.length y.z.c5) (Ey x y.k).1.Ac y.z.F5,.ow (J0 Ak 159) 120 (.slice y.z.a6 (Ey x y.k).1.down.length y.z.c6) (Ey x y.k).1.down y.z.F6,.ow (J0 Ak 159) 120 (.slice y.z.a7 (Ey x y.k).1.up.length y.z.c7) (Ey x y.k).1.up y.z.F7,.ow A9 9 (.slice y.a (Ey x y.k).2.length y.c) (Ey x y.k).2 y.F]) (fun y=>y.k<=x.1.Ap.Ad.length) (fun y=>x.1.Ap.Ad.length - y.k) ⟨0,⟨x1,w1,K1,x2,w2,K2,x3,w3,K3,x4,w4,K4,x5,w5,K5,x6,w6,K6,x7,w7,K7⟩,ea,ec,eF⟩ (aD _) fun y hy0=>?_
  obtain ⟨j,⟨x1,w1,K1,x2,w2,K2,x3,w3,K3,x4,w4,K4,x5,w5,K5,x6,w6,K6,x7,w7,K7⟩,ya,yc,yF⟩:=y;dsimp only at hy0 ⊢;have fJ:=Ae8 fx.g j hy0;have fX:=fx.trans fJ;generalize hX:Ey x j=X at fJ fX ⊢;refine go ?_;refine Ay rfl (fun h2=>?_) (fun h2=>?_)
  ·have hj:j < x.1.Ap.Ad.length:=EY
   have hXt:X.1.Ap.Ad.length=x.1.Ap.Ad.length:=by rw [fJ.t]
   have hG:=Ax.1 fX.g;obtain ⟨q1,q2,q3,q4⟩:=Bn.1 hG.l;have hjd:j < X.1.down.length:=EY
   have hsd:=Zt (n:=X.1) (i:=j) EY;rw [Qg hjd] at hsd;have hz1:=Ab6 fX.g;have hev2:=fX.e;simp only [aY] at hev2;refine go ?_;refine Adc (xs:=X.1.down) (m:=1) j ?_ rfl EY;rintro _ g6 A6 cs6 B6 p6 q6 G6 Gi6 H6 e6 - hc6 hH6;rw [e6];refine Zp ?_;rintro a6 c6 ev6 l6;obtain rfl:=Oa ev6;refine go ?_;refine Ay rfl (fun h4=>?_) (fun h4=>?_)
   ·have j1:1<=j:=by
     rcases co j with rfl|h
     ·have:=hz1.1;rw [Qg hjd] at this;omega
     ·exact h
    have ok:=Bdj j1 EY;refine Kx X.1.down[j] ?_;refine Xg _ hH6 rfl fun J6=>?_;rw [bv];refine go ?_;refine Be (Aml X.1 (Jg j) g x1 w1 K1 x2 w2 K2 x3 w3 K3 x4 w4 K4 x5 w5 K5 _ w6 J6 x7 w7 K7 FT fX.g ok (aD _)) fun z _=>?_;have hfe:=fX.trans (Bgv fX.g (i:=j) EY);have hfe2:=hfe.e;have htl:(Nd X (Jg j)).2.length=X.2.length+(Vx (Bo X.1 (Jg j))).length:=aA;simp only [aY] at hfe2;refine Av (E:=A9) (xs:=Vx (Bo X.1 (Jg j))) fun F8=>?_;refine go ?_;apply wO;refine N5 (E:=A9) (xs:=X.2) (ys:=Vx (Bo X.1 (Jg j))) D7 Ie fun a9 c9 F9=>?_
    generalize hX1:Nd X (Jg j)=X1 at hfe hfe2 htl;rw [show X.2++Vx (Bo X.1 (Jg j))=X1.2 by rw [<-hX1];rfl,show Ic X.1 (Bo X.1 (Jg j))=X1.1 by rw [<-hX1];rfl];have fX1:Wb X X1:=by rw [<-hX1];exact Bgv fX.g (by rw [hXt];exact hj)
    have hG1:=Ax.1 fX1.g;obtain ⟨r1,r2,r3,r4⟩:=Bn.1 hG1.l;have hX1t:X1.1.Ap.Ad.length=x.1.Ap.Ad.length:=by rw [fX1.t];exact hXt
    have hju:j < X1.1.up.length:=EY
    have hsu:=Xb (n:=X1.1) (i:=j) EY;rw [Qg hju] at hsu;have hz0:=Ab6 fX1.g;refine go ?_;refine Adc (xs:=X1.1.up) (m:=1) j ?_ rfl EY;rintro _ g7 A7 cs7 B7 p7 q7 G7 Gi7 H7 e7 - hc7 hH7;rw [e7];refine Zp ?_;rintro a7 c7 ev7 l7;obtain rfl:=Oa ev7;refine go ?_;refine Ay rfl (fun h3=>?_) (fun h3=>?_)
    ·have j1:1<=j:=by
      rcases co j with rfl|h
      ·have:=hz0.2;rw [Qg hju] at this;omega
      ·exact h
     have ok:=Azn j1 EY;have hnx:Ey x (j+1)=(Ic X1.1 (Bo X1.1 (Mn j)),X1.2):=by
      show Nd (Nd (Ey x j) (Jg j)) (Mn j)=_;rw [hX,hX1];exact Prod.ext rfl (Bgw fX1.g (i:=j) EY).2
     refine Kx X1.1.up[j] ?_;refine Xg _ hH7 rfl fun J7=>?_;rw [bv];refine go ?_;refine Be (Aml X1.1 (Mn j) g z.1.a1 z.1.c1 z.1.F1 z.1.a2 z.1.c2 z.1.F2 z.1.a3 z.1.c3 z.1.F3 z.1.a4 z.1.c4 z.1.F4 z.1.a5 z.1.c5 z.1.F5 z.1.a6 z.1.c6 z.1.F6 _ z.1.c7 J7 FT fX1.g ok (aD _)) fun y _=>?_;refine go ?_
     refine Ce ⟨j+1,⟨y.1.a1,y.1.c1,y.1.F1,y.1.a2,y.1.c2,y.1.F2,y.1.a3,y.1.c3,y.1.F3,y.1.a4,y.1.c4,y.1.F4,y.1.a5,y.1.c5,y.1.F5,y.1.a6,y.1.c6,y.1.F6,y.1.a7,y.1.c7,y.1.F7⟩,a9,c9,F9⟩ KU GQ GH GG
    ·have hnx:Ey x (j+1)=X1:=by
      show Nd (Nd (Ey x j) (Jg j)) (Mn j)=_;rw [hX,hX1];exact Kd (by rw [hsu,aH EY])
     refine Kx X1.1.up[j] ?_;refine Xg _ hH7 rfl fun J7=>?_;rw [bv];refine go ?_;refine Ce ⟨j+1,⟨z.1.a1,z.1.c1,z.1.F1,z.1.a2,z.1.c2,z.1.F2,z.1.a3,z.1.c3,z.1.F3,z.1.a4,z.1.c4,z.1.F4,z.1.a5,z.1.c5,z.1.F5,z.1.a6,z.1.c6,z.1.F6,_,z.1.c7,J7⟩,a9,c9,F9⟩ KU GQ GH GG
   ·have htn:Nd X (Jg j)=X:=Kd (by rw [hsd,aH EY]);refine Kx X.1.down[j] ?_;refine Xg _ hH6 rfl fun J6=>?_;rw [bv];obtain ⟨X1,hX1⟩:∃X1,Nd X (Jg j)=X1:=⟨_,rfl⟩;have hXX:X1=X:=by rw [<-hX1,htn]
    subst hXX;have fX1:Wb X1 X1:=.refl fX.g;have hG1:=Ax.1 fX1.g;obtain ⟨r1,r2,r3,r4⟩:=Bn.1 hG1.l;have hX1t:X1.1.Ap.Ad.length=x.1.Ap.Ad.length:=by rw [fX1.t];exact hXt
    have hju:j < X1.1.up.length:=EY
    have hsu:=Xb (n:=X1.1) (i:=j) EY;rw [Qg hju] at hsu;have hz0:=Ab6 fX1.g;refine go ?_;refine Adc (xs:=X1.1.up) (m:=1) j ?_ rfl EY;rintro _ g7 A7 cs7 B7 p7 q7 G7 Gi7 H7 e7 - hc7 hH7;rw [e7];refine Zp ?_;rintro a7 c7 ev7 l7;obtain rfl:=Oa ev7;refine go ?_;refine Ay rfl (fun h3=>?_) (fun h3=>?_)
    ·have j1:1<=j:=by
      rcases co j with rfl|h
      ·have:=hz0.2;rw [Qg hju] at this;omega
      ·exact h
     have ok:=Azn j1 EY;have hnx:Ey x (j+1)=(Ic X1.1 (Bo X1.1 (Mn j)),X1.2):=by
      show Nd (Nd (Ey x j) (Jg j)) (Mn j)=_;rw [hX,hX1];exact Prod.ext rfl (Bgw fX1.g (i:=j) EY).2
     refine Kx X1.1.up[j] ?_;refine Xg _ hH7 rfl fun J7=>?_;rw [bv];refine go ?_;refine Be (Aml X1.1 (Mn j) g x1 w1 K1 x2 w2 K2 x3 w3 K3 x4 w4 K4 x5 w5 K5 _ w6 J6 _ w7 J7 FT fX1.g ok (aD _)) fun y _=>?_;refine go ?_;refine Ce ⟨j+1,⟨y.1.a1,y.1.c1,y.1.F1,y.1.a2,y.1.c2,y.1.F2,y.1.a3,y.1.c3,y.1.F3,y.1.a4,y.1.c4,y.1.F4,y.1.a5,y.1.c5,y.1.F5,y.1.a6,y.1.c6,y.1.F6,y.1.a7,y.1.c7,y.1.F7⟩,ya,yc,yF⟩ KU GQ GH GG
    ·have hnx:Ey x (j+1)=X1:=by
      show Nd (Nd (Ey x j) (Jg j)) (Mn j)=_;rw [hX,hX1];exact Kd (by rw [hsu,aH EY])
     refine Kx X1.1.up[j] ?_;refine Xg _ hH7 rfl fun J7=>?_;rw [bv];refine go ?_;refine Ce ⟨j+1,⟨x1,w1,K1,x2,w2,K2,x3,w3,K3,x4,w4,K4,x5,w5,K5,_,w6,J6,_,w7,J7⟩,ya,yc,yF⟩ KU GQ GH GG
  ·obtain rfl:j=x.1.Ap.Ad.length:=EY
   have hX:=hX;rw [Arj fx.g] at hX;refine go ?_;refine Ce ⟨X,⟨x1,w1,K1,x2,w2,K2,x3,w3,K3,x4,w4,K4,x5,w5,K5,x6,w6,K6,x7,w7,K7⟩,ya,yc,yF⟩ ⟨fX,by rw [<-hR,Agr fx.g hq0,hX]⟩ (by show wN X.1 < wN x.1;rw [<-hX];exact hw)
 ·have hq0:Yr x.1=0:=by unfold Yr;omega
  rw [Abr hq0] at hR;rw [hR];exact EO
end Go.Proofs.YtmppejmafbfhlaaGreatDoor
namespace Go.Proofs.YtmppejmafbfhlaaGreatDoor
open Go.RowKit
open Go.RowKit
def Anw {α:Type} {E:B8 α} {w:World}:∀{ys:List (am)} {xs:List α} {G:aq},Cw E w ys.flatten xs G->(∀y∈ys,y.length=E.sz)->∀i (h1:i < ys.length) (h2:i < xs.length),∃Gi,E.Mj w ys[i] xs[i] Gi/\∀b∈Gi,b∈G
 | [],_,_,_,_,i,h1,_=>by simp at h1
 | y::r,[],_,_,_,i,_,h2=>by simp at h2
 | y::r,x::s,G,h,hm,i,h1,h2=>by
  obtain ⟨c1,c2,F1,F2,e,rfl,hr,hs⟩:=h;rw [bP] at e;obtain ⟨e1,e2⟩:=eX e (by rw [hm y FA,E.len hr]);subst e1 e2;cases i with
  | zero=>exact ⟨F1,hr,fun b hb=>by simp [hb]⟩
  | succ j =>
   obtain ⟨Gi,g1,g2⟩:=Anw hs (fun z hz=>hm z JB) j HY HN;exact ⟨Gi,g1,fun b hb=>by simp [g2 b hb]⟩
def Ajx {α:Type} {E:B8 α} {w:World} {cs:am} {x:α} {G2:aq} (hx:E.Mj w cs x G2):∀{ys:List (am)} {xs:List α} {G:aq},Cw E w ys.flatten xs G->(∀y∈ys,y.length=E.sz)->ys.length=xs.length->∀i,∃G',Cw E w (ys.set i cs).flatten (xs.set i x) G'/\∀b∈G',b∈G\/b∈G2
 | [],[],G,h,_,_,i=>⟨G,h,fun b hb=>.inl hb⟩
 | [],y::r,_,_,_,hl,_=>by simp at hl
 | y::r,[],_,_,_,hl,_=>by simp at hl
 | y::r,x1::s,G,h,hm,hl,i=>by
  obtain ⟨c1,c2,F1,F2,e,rfl,hr,hs⟩:=h;rw [bP] at e;obtain ⟨e1,e2⟩:=eX e (by rw [hm y FA,E.len hr]);subst e1 e2;cases i with
  | zero=>exact ⟨G2++F2,⟨cs,r.flatten,G2,F2,FA,rfl,hx,hs⟩,fun b hb=>by rcases aJ.1 hb with hb|hb;exact .inr hb;exact .inl FG⟩
  | succ j =>
   obtain ⟨G',g1,g2⟩:=Ajx hx hs (fun z hz=>hm z JB) GY j;refine ⟨F1++G',⟨y,(r.set j cs).flatten,F1,G',FA,rfl,hr,g1⟩,fun b hb=>?_⟩;rcases aJ.1 hb with hb|hb
   ·exact .inl FG
   ·rcases g2 b hb with h|h
    ·exact .inl JT
    ·exact .inr h
section
variable {c:Cx} {fr:Fr} {H:List Pc} {Φ:Gl}
def Fs {m:Nat} {t:TypeId} {a:aj} {n cp:Nat} {ys:List (am)} {F:aq} (h:(∀y∈ys,y.length=m)->ys.length=n->T c fr H Φ) (hp:.ow (EC m) t (ab a n cp) ys F∈H:=by exact Bp):T c fr H Φ:=.mk fun ac w s g=>by
 obtain ⟨hnd,ho⟩:=s.get hp;have key:(∀y∈ys,y.length=m)/\ys.length=n:=by
  rcases ho with ⟨e,rfl, -⟩|⟨b,cap,cs,rest,G,e,h2,h3,h4,h5,h6, -⟩
  ·cases e;exact ⟨FA,rfl⟩
  ·cases e;exact ⟨(Alu h6).2.2,rfl⟩
 exact (h key.1 key.2).h ac w s g
def Bgr {α:Type} {E:B8 α} {k:Nat} {v:Value} {xs:List α} {G:aq} (h:xs.length=k->T c fr H Φ) (hp:.isv (EA E k) v xs G∈H:=by exact Bp):T c fr H Φ:=.mk fun ac w s g=>by
 obtain ⟨cs,e,hl,hf⟩:=s.get hp;exact (h hl).h ac w s g
def Aia {α:Type} {E:B8 α} {k:Nat} {ys:List (am)} {xs:List α} {G:aq} (i:Nat) (hm:∀y∈ys,y.length=E.sz) (hl:ys.length=xs.length) (h1:i < ys.length) (h:∀(h1:i < ys.length) (h2:i < xs.length) Gi,T c fr (.isv E (.agg ys[i].toArray) xs[i] Gi::H) Φ) (hp:.isv (EA E k) (.agg ys.flatten.toArray) xs G∈H:=by exact Bp):T c fr H Φ:=.mk fun ac w s g=>by
 obtain ⟨cs,e, -,hf⟩:=s.get hp;obtain rfl:ys.flatten=cs:=KB
 obtain ⟨Gi,g1,g2⟩:=Anw hf hm i h1 EY;exact (h h1 EY Gi).h ac w (s.ro hp rfl rfl ⟨_,rfl,g1⟩ g2) g
def Aib {α:Type} {E:B8 α} {k:Nat} {ys:List (am)} {xs:List α} {G:aq} (i:Nat) (hm:∀y∈ys,y.length=E.sz) (hl:ys.length=xs.length) (h1:i < ys.length) (h:∀(h1:i < ys.length) (h2:i < xs.length) v Gi,v=.agg ys[i].toArray->T c fr (.isv E v xs[i] Gi::H) Φ) (hp:.isv (EA E k) (.agg ys.flatten.toArray) xs G∈H:=by exact Bp):T c fr H Φ:=Aia i hm hl h1 (fun h1 h2 Gi=>h h1 h2 _ Gi rfl) hp
def Re {α:Type} {E:B8 α} {k:Nat} {ys:List (am)} {xs:List α} {G G2:aq} {v:Value} {cs:am} {x:α} (i:Nat) (hv:v=.agg cs.toArray) (hm:∀y∈ys,y.length=E.sz) (hl:ys.length=xs.length) (h:∀G',T c fr (.isv (EA E k) (.agg (ys.set i cs).flatten.toArray) (xs.set i x) G'::H) Φ) (hp:.isv (EA E k) (.agg ys.flatten.toArray) xs G∈H:=by exact Bp) (hp2:.isv E v x G2∈H:=by exact Bp):T c fr H Φ:=.mk fun ac w s g=>by
 subst hv;obtain ⟨c1,e,hk,hf⟩:=s.get hp;obtain rfl:ys.flatten=c1:=KB
 obtain ⟨c2,e2,hx⟩:=s.get hp2;obtain rfl:cs=c2:=by simpa using e2
 obtain ⟨G',g1,g2⟩:=Ajx hx hf hm hl i;refine (h G').h ac w (s.add (N:=[.isv (EA E k) (.agg (ys.set i cs).flatten.toArray) (xs.set i x) G']) (Below.refl _ _) (by intro p hq;rw [aL] at hq;subst hq;exact ⟨_,rfl,by simpa using hk,g1⟩) ⟨FA,trivial⟩ ?_) g;intro p hq z hb;rw [aL] at hq;subst hq;rcases g2 z hb with hb|hb
 ·exact .inr ⟨rfl,_,hp,rfl,hb⟩
 ·exact .inr ⟨rfl,_,hp2,rfl,hb⟩
def Adj {α:Type} {E:B8 α} {hz:0 < E.sz} {v:Value} {x:List α} {G:aq} (h:∀a1 c1,v=.agg #[ab a1 x.length c1]->x.length<=maxLen->T c fr (.sl E (ab a1 x.length c1) x G::H) Φ) (hp:.isv (O7 E hz) v x G∈H:=by exact Bp):T c fr H Φ:=.mk fun ac w s g=>by
 obtain ⟨cs,rfl,v1,rfl,h1⟩:=s.get hp;obtain ⟨a1,c1,rfl⟩:=h1.slice;exact (h a1 c1 rfl h1.len).h ac w (s.ro hp rfl rfl ⟨hz,h1⟩ fun b hb=>hb) g
def Aba {α:Type} {E:B8 α} {v:Value} {x:List α} {G:aq} (hz:0 < E.sz) (h:T c fr (.isv (O7 E hz) (.agg #[v]) x G::H) Φ) (hp:.sl E v x G∈H:=by exact Bp):T c fr H Φ:=.mk fun ac w s g=>by
 obtain ⟨-,h1⟩:=s.get hp;exact h.h ac w (s.ro hp rfl rfl ⟨[v],rfl,v,rfl,h1⟩ fun b hb=>hb) g
end
end Go.Proofs.YtmppejmafbfhlaaGreatDoor
namespace Go.Proofs.YtmppejmafbfhlaaGreatDoor
open Go.RowKit
def Au5 (s:Js) (hss:s.data.size<=maxLen):FV 131 [.agg #[aa s.Ct,aa s.node,af s.data]] [] (.bool (Dq s)):=by
 refine enter func131 rfl ntmps131 fun w0=>?_;refine go ?_;intros;refine Ay rfl (fun h1=>?_) (fun h1=>?_)
 ·rw [show Dq s=(decide (s.node=0) && P9 s.data) by unfold Dq;rw [aH h1]];refine go ?_;refine Dd rfl rfl (fun h2=>?_) (fun h2=>?_)
  ·refine go ?_;refine ce (fun w st=>Ry s.data 8 _ hss) ?_;exact DS
  ·exact DR
 refine go ?_;refine Ay rfl (fun h4=>?_) (fun h4=>?_)
 ·rw [show Dq s=(decide (s.node=0) && decide (s.data=⟨#[]⟩)) by unfold Dq;rw [aC h1,aH h4]];refine go ?_;refine Dd rfl rfl (fun h2=>?_) (fun h2=>?_)
  ·exact DS
  ·exact DR
 rw [show Dq s=(Ff 1 s.Ct 6 && Ff 1 s.node 7 && decide (s.data=⟨#[]⟩)) by unfold Dq;rw [aC h1,aC h4];rfl];refine go ?_;refine ce (fun w st=>Kq s.Ct 1 6 _) ?_;cases g1:Ff 1 s.Ct 6
 ·refine go ?_;refine ret () trivial ?_;rfl
 refine go ?_;refine ce (fun w st=>Kq s.node 1 7 _) ?_;cases g2:Ff 1 s.node 7
 ·refine go ?_;refine ret () trivial ?_;rfl
 refine go ?_;refine ret () trivial ?_;rfl
def Avx {q ps:List As} {k:Nat} (h:6<=(Ht q (ps.take k)).length):Ht q (ps.take k)=Ht q ps:=by
 unfold Ht at *;rw [aA,aP,aP] at h;rw [List.take_take]
 congr 1
 by_cases h6:6<=q.length
 ·rw [show min (6 - q.length) k=6 - q.length by omega]
 ·by_cases hk:6 - q.length<=k
  ·rw [show min (6 - q.length) k=6 - q.length by omega]
  ·rw [show min (6 - q.length) k=k by omega,aV EY,aV EY]
def Avy {q ps:List As} {k:Nat} (hk:k < ps.length) (h:(Ht q (ps.take k)).length < 6):Ht q (ps.take (k+1))=Ht q (ps.take k)++[ps[k]]:=by
 rw [aR hk,Akt];unfold Vy;rw [aH h]
def Ahc (q ps:List As) (a:aj) (c:Nat) (F:aq) (a2:aj) (c2:Nat) (F2:aq) (hq:q.length<=1000000):Fn prog 234 [ab a q.length c,ab a2 ps.length c2] [.sl Ak (ab a q.length c) q F,.sl Ak (ab a2 ps.length c2) ps F2] [] (fun (_:KA)=>True) (fun z=>.slice z.a (Ht q ps).length z.c) (fun z=>[.ow Ak 159 (.slice z.a (Ht q ps).length z.c) (Ht q ps) z.F]):=by
 refine enter func234 rfl ntmps234 fun w0=>?_;refine Xf (E:=Ak) (xs:=ps) ?_;rintro _ _ e0 hn1 hn2;refine Amm (E:=Ak) (xs:=ps) (fun p:As=>p.data.size<=maxLen) (fun w cs x F h=>by obtain ⟨_,h,_⟩:=h;exact h) ?_;intro hz;cases e0;refine go ?_;intros;refine C3 Ak ?_;refine go ?_;apply wO;refine N5 H9 Jz fun a3 c3 F3=>?_;rw [aZ];refine go ?_;have e0:Ht q (ps.take 0)=q:=by unfold Ht;simp
 refine Ca [1,4] (fun z:KA=>[(5,.slice z.a (Ht q (ps.take z.k)).length z.c),(6,aa (z.k:Nat))]) (fun z=>[.ow Ak 159 (.slice z.a (Ht q (ps.take z.k)).length z.c) (Ht q (ps.take z.k)) z.F]) (fun z=>z.k<=ps.length) (fun z=>ps.length - z.k) ⟨0,a3,c3,F3⟩ (aD _) (fun z hz0=>?_) (hf:=by dsimp only;rw [e0];exact frE) (hH:=by dsimp only;rw [e0];exact Ahs);have hql:(Ht q (ps.take z.k)).length<=q.length+ps.length:=by unfold Ht;rw [aA,aP,aP];omega
 have hnn:ps.length<=9223372036854775807:=EY
 refine go ?_;refine Dd rfl rfl (fun h1=>?_) (fun h1=>?_)
 ·have hk:z.k < ps.length:=EY
  refine go ?_;refine Ay rfl (fun h2=>?_) (fun h2=>?_)
  ·have h6:(Ht q (ps.take z.k)).length < 6:=EY
   have hpz:=hz _ (aB hk);refine Pf (xs:=ps) z.k ?_;rintro hi3 b3 o3 e3 s3;rw [e3];refine go ?_;intros;apply wO;refine N9 (ys:=[ps[z.k]]) (De ps[z.k] hpz) H9 fun a7 c7 F7=>?_;rw [<-Avy hk h6];refine go ?_;refine Ce ⟨z.k+1,a7,c7,F7⟩ hk (by show ps.length - (z.k+1) < ps.length - z.k;omega)
  ·rw [Avx EY];exact CB
 ·rw [show ps.take z.k=ps from aV EY];exact CB
def Ai8 (n:Dx) (v:Value) (F:aq):FV 129 [v] [.isv Pe v n F] (.tuple #[aa (Ra n).1,aa (Ra n).2.1,.bool (Ra n).2.2]):=by
 refine enter func129 rfl ntmps129 fun w0=>?_;refine Fg ?_;rintro a1 c1 F1 a2 c2 F2 a3 c3 F3 a4 c4 F4 a5 c5 F5 a6 c6 F6 a7 c7 F7 rfl l1 l2 l3 l4 l5 l6 l7;refine go ?_;intros;refine Be (Adp n _ F) fun _ _=>?_;cases g:At n
 ·refine go ?_;refine ret () trivial ?_;unfold Ra;rw [g];rfl
 obtain ⟨-, -,e3,e4⟩:=If g;obtain ⟨q2,q8,qn,qu,qe,qt⟩:=Nr g;refine go ?_;refine Dl [1,2,3,4] (fun k:Nat=>[(5,aa ((qd (n.down.take k):Nat):Int)),(6,aa ((qd (n.up.take k):Nat):Int)),(7,aa (k:Nat))]) (fun k=>k<=n.down.length) (fun k=>n.down.length - k) 0 (aD _) fun k hk=>?_;have b1:=Ou (fun q hq=>(C8 (e3 q hq)).1) k;have b2:=Ou (fun q hq=>(C8 (e4 q hq)).1) k;refine go ?_;refine Ay rfl (fun h3=>?_) (fun h3=>?_)
 ·have hk3:k < n.down.length:=EY
  have hk4:k < n.up.length:=EY
  have b3:=(C8 (e3 _ (aB hk3))).1;have b4:=(C8 (e4 _ (aB hk4))).1;have s3:=Ama hk3;have s4:=Ama hk4;refine Ms (E:=Ak) (hz:=EZ) (xs:=n.down) k ?_;rintro hi1 g1 o1 a8 c8 F8 ea l8;refine Ms (E:=Ak) (hz:=EZ) (xs:=n.up) k ?_;rintro hi2 g2 o2 a9 c9 F9 eb l9;rw [ea,eb];refine go ?_;rw [show ((qd (n.down.take k):Nat):Int)+(n.down[k].length:Int)=((qd (n.down.take (k+1)):Nat):Int) by omega,show ((qd (n.up.take k):Nat):Int)+(n.up[k].length:Int)=((qd (n.up.take (k+1)):Nat):Int) by omega];exact BE
 ·have hk3:k=n.down.length:=EY
  subst hk3;rw [bj,show n.up.take n.down.length=n.up by rw [<-qu,bj]];refine go ?_;refine ret () trivial ?_;unfold Ra;rw [g];rfl
def Ap9 (n:Dx) (v:Value) (F:aq):FV 157 [v] [.isv Pe v n F] (.tuple #[.bool (Gn n).1,.bool (Gn n).2]):=by
 refine enter func157 rfl ntmps157 fun w0=>?_;refine Fg ?_;rintro a1 c1 F1 a2 c2 F2 a3 c3 F3 a4 c4 F4 a5 c5 F5 a6 c6 F6 a7 c7 F7 rfl l1 l2 l3 l4 l5 l6 l7;refine go ?_;intros;refine Be (Abk n _ F) fun _ _=>?_;cases g:At n
 ·refine go ?_;refine ret () trivial ?_;unfold Gn;rw [g];rfl
 obtain ⟨-, -,e3,e4⟩:=If g;obtain ⟨q2,q8,qn,qu,qe,qt⟩:=Nr g;have hG:=Ax.1 g;obtain ⟨-,qr, -, -⟩:=Bn.1 hG.l;have hS:=Kk hG.s;have hW:=Du.1 (Ep.1 hG.s).1;have hS1:=hS.l;have hb1:=Ou (fun q hq=>(C8 (e3 q hq)).1) n.down.length;have hb2:=Ou (fun q hq=>(C8 (e4 q hq)).1) n.up.length;rw [bj] at hb1 hb2;refine Hy ?_;intros;refine Jm n.Ap (a1:=a1) ?_;refine go ?_;refine Be (Ay2 n.Ap _ _ EY) fun z _=>?_;refine Av (E:=Bc) (xs:=lvs n.Ap.Ad) fun Fl=>?_;have hlv:=Akl n.Ap.Ad n.Ap.Ad.length;rw [show Qx n.Ap.Ad n.Ap.Ad.length=lvs n.Ap.Ad from rfl] at hlv;refine go ?_
 refine Dl [1,2,3,12,13] (fun k:Nat=>[(14,aa (k:Nat))]) (fun k=>k<=(lvs n.Ap.Ad).length/\∀x∈(lvs n.Ap.Ad).take k,Adg n x.toNat=true) (fun k=>(lvs n.Ap.Ad).length - k) 0 ⟨aD _,FA⟩ fun k hk=>?_;obtain ⟨hk,hal⟩:=hk;refine go ?_;refine Ay rfl (fun h3=>?_) (fun h3=>?_)
 ·have hk3:k < (lvs n.Ap.Ad).length:=EY
  obtain ⟨i,hi8,hie,hlf⟩:=Bf7 hk3;have h5:i < n.Ac.length:=EY
  refine Im (xs:=lvs n.Ap.Ad) k ?_;rintro hi b o e;rw [e,hie];refine Jl (xs:=n.Ac) i ?_;rintro h5b b5 o5 a9 c9 F9 a10 c10 F10 e5 l9 l10;rw [e5];refine D5 n.Ac[i] ?_;cases hs:Afo n.Ac[i]
  ·refine Hy ?_;intros;refine Ar [0,8] [] ?_;refine dt 0 ?_;refine dN 1 ?_;refine oC ?_;refine Be (Aer n.Ac[i] _ _) fun _ _=>?_;rw [hs];refine dk ?_;refine Dh 2 3 ?_;refine ds 4 ?_;refine ds 5 ?_;refine ds 6 ?_;refine ds 7 ?_;refine ds 8 ?_;refine ds 9 ?_;refine ds 10 ?_;refine ds 11 ?_;refine dt 12 ?_;refine dd ?_;refine go ?_;refine ret () trivial ?_;unfold Gn;rw [g];rw [aH rfl,Aij hi8 hlf (by unfold Adg;rw [Hf h5,hs];rfl)];rfl
  ·refine Hy ?_;intros;refine Ar [0,8] [] ?_;refine dt 0 ?_;refine dN 1 ?_;refine oC ?_;refine Be (Aer n.Ac[i] _ _) fun _ _=>?_;rw [hs];refine dk ?_;refine Dh 2 3 ?_;refine Dg 4 ?_;refine Dg 5 ?_;refine Dg 6 ?_;refine Dg 7 ?_;refine Dg 8 ?_;refine Dg 9 ?_;refine d1g 10 ?_;apply On.h;refine oC ?_;refine cb (fun w s=>I4 n.Ab.Aa.Am n.Ab.Aa.size _ n.Ab.Aa.Al.length _ w hW.1.1 hW.1.2 EY) ?_;refine dk ?_;refine Dg 11 ?_;refine dt 12 ?_;refine dd ?_;refine go ?_;refine Ay rfl (fun h6=>?_) (fun h6=>?_)
   ·refine go ?_;refine ret () trivial ?_;unfold Gn;rw [g];rw [aH rfl,Aij hi8 hlf (by unfold Adg;rw [Hf h5,hs,ay h6];rfl)];rfl
   ·refine go ?_;rw [show ((k:Nat):Int)+1=((k+1:Nat):Int) by omega];refine Ce (k+1) ⟨hk3,fun x hx=>?_⟩ EY;rw [aR hk3] at hx;rcases aJ.1 hx with hx|hx
    ·exact hal x hx
    ·rw [aL.1 hx,hie];show Adg n i=true;unfold Adg;rw [Hf h5,hs,av (cL.1 h6)];rfl
 ·refine Hy ?_;intros;refine Ar [2] [] ?_;refine C4 0 1 3 4 ?_;refine dN 2 ?_;refine oC ?_;refine Be (Vz n.down _ _ _ EY fun q hq=>(C8 (e3 q hq)).1) fun _ _=>?_;refine dk ?_;refine dN 5 ?_;refine oC ?_;refine Be (Vz n.up _ _ _ EY fun q hq=>(C8 (e4 q hq)).1) fun _ _=>?_;refine dk ?_;refine C4 6 7 8 9 ?_;refine dd ?_;have hst:Z5 n=decide (((qd n.down:Nat):Int)+((qd n.up:Nat):Int)=0):=by
   by_cases h0:Yr n=0
   ·rw [Apm h0 fun j hj hl=>hal ((j:Nat):Int) (by rw [aV EY];exact Ay5 hj hl)];exact (av JV).symm
   ·rw [Baw h0];exact (ay JV).symm
  rw [<-hst];refine go ?_;refine ret () trivial ?_;unfold Gn;rw [g];rfl
def Ab1 {k:Nat} (h:k<=999999):(bz (Lib.itoa ((k:Nat):Int))).size<=6:=by
 rw [Ho,Ps (dB k),Int.natAbs_natCast];exact Ea 5 k IG
def Bdp (n:Dx) (line:au) (v:Value) (F FT:aq) (g:At n=true):Fn prog 100 [v,af line] [.isv Pe v n F,Ga FT] [] (fun (u:au × Bool)=>Le n line.data.toList=if u.2 then some u.1 else none) (fun u=>.tuple #[af u.1,.bool u.2]) (fun _=>[]):=by
 refine enter func100 rfl ntmps100 fun w0=>?_;refine Fg ?_;rintro a1 c1 F1 a2 c2 F2 a3 c3 F3 a4 c4 F4 a5 c5 F5 a6 c6 F6 a7 c7 F7 rfl l1 l2 l3 l4 l5 l6 l7;obtain ⟨e1,e2,e3,e4⟩:=If g;obtain ⟨q2,q8,qn,qu,qe,qt⟩:=Nr g;have hG:=Ax.1 g;obtain ⟨-,qr, -, -⟩:=Bn.1 hG.l;have hS:=Kk hG.s;have hW:=Du.1 (Ep.1 hG.s).1;have hS1:=hS.l;have hb1:=Ou (fun q hq=>(C8 (e3 q hq)).1) n.down.length;have hb2:=Ou (fun q hq=>(C8 (e4 q hq)).1) n.up.length;rw [bj] at hb1 hb2;have z1:=Ab1 (k:=qd n.down) EY;have z2:=Ab1 (k:=qd n.up) EY;refine go ?_;intros;refine Ay rfl (fun h1=>?_) (fun h1=>?_)
 ·refine go ?_;refine cb (fun w s=>I4 n.Ab.Aa.Am n.Ab.Aa.size _ n.Ab.Aa.Al.length _ w hW.1.1 hW.1.2 EY) ?_;have hld:=Ab4 n.Ab.Aa;unfold Lw at hld;refine go ?_;refine cb (fun w st=>Aaz (Cf n.Ab.Aa.Am n.Ab.Aa.Al.length) EY EY FT w (st.get (p:=Ga FT) FA)) ?_;refine go ?_;refine ret (⟨_,true⟩:au × Bool) ?_ rfl;show Le n _=some _;unfold Le;rw [aH (show line.data.toList=Acu from D0.1 h1)];rfl
 refine go ?_;refine Ay rfl (fun h2=>?_) (fun h2=>?_)
 ·refine Hy ?_;intros;refine Ar [0] [] ?_;refine C4 0 1 5 6 ?_;refine dN 2 ?_;refine oC ?_;refine Be (Vz n.down _ _ _ EY fun q hq=>(C8 (e3 q hq)).1) fun _ _=>?_;refine dk ?_;refine dN 3 ?_;refine oC ?_;refine cb (fun w st=>Aaz ((qd n.down:Nat):Int) EY EY FT w (st.get (p:=Ga FT) FA)) ?_;refine dk ?_;refine dt 4 ?_ (hy:=Hh rfl rfl (by show _+1<=9223372036854775807;omega));refine dN 7 ?_;refine oC ?_;refine Be (Vz n.up _ _ _ EY fun q hq=>(C8 (e4 q hq)).1) fun _ _=>?_;refine dk ?_;refine dN 8 ?_;refine oC ?_
  refine cb (fun w st=>Aaz ((qd n.up:Nat):Int) EY EY FT w (st.get (p:=Ga FT) FA)) ?_;refine dk ?_;refine dt 9 ?_ (hy:=Hh rfl rfl (by rw [aN];show _+1+_<=9223372036854775807;omega));refine Dh 10 11 ?_;refine dd ?_;refine go ?_;refine ret (⟨_,true⟩:au × Bool) ?_ rfl;show Le n _=some _;unfold Le;rw [aC (show ¬line.data.toList=Acu from fun e=>h1 (D0.2 e)),aH (show line.data.toList=Xi from D0.1 h2)]
 refine go ?_;refine Ay rfl (fun h3=>?_) (fun h3=>?_)
 ·refine go ?_;have hP:=fun v=>Ap9 n v F;simp only [show Gn n=(Z5 n,true) by unfold Gn;rw [g];rfl] at hP;refine Be (hP _) fun _ _=>?_;have e:Le n line.data.toList=some (if Z5 n then bz Bek else bz wNo):=by
   unfold Le;rw [aC (show ¬line.data.toList=Acu from fun e=>h1 (D0.2 e)),aC (show ¬line.data.toList=Xi from fun e=>h2 (D0.2 e)),aH (show line.data.toList=Y5 from D0.1 h3)]
  cases hst:Z5 n
  ·refine go ?_;refine ret (⟨bz wNo,true⟩:au × Bool) ?_ rfl;rw [e,hst];rfl
  ·refine go ?_;refine ret (⟨bz Bek,true⟩:au × Bool) ?_ rfl;rw [e,hst];rfl
 ·refine go ?_;refine ret (⟨⟨#[]⟩,false⟩:au × Bool) ?_ rfl;unfold Le;rw [aC (show ¬line.data.toList=Acu from fun e=>h1 (D0.2 e)),aC (show ¬line.data.toList=Xi from fun e=>h2 (D0.2 e)),aC (show ¬line.data.toList=Y5 from fun e=>h3 (D0.2 e))];rfl
def Vb {n:Dx} {w:Bs} {l:ar} (h:Ff 1 (l.getD 0 0) ((n.Ap.Ad.length:Int) - 1)=true):Ke n w l =
  if w=Ais/\l.length=1/\T7 n (l.getD 0 0)=true then some (Vt ((Qt n (l.getD 0 0).toNat).An.map (·.Ae)))
  else if w=Aiu/\l.length=1/\T7 n (l.getD 0 0)=true/\(Qt n (l.getD 0 0).toNat).Bg=true then some (Aaf (Qt n (l.getD 0 0).toNat).Aa)
  else if w=Ny/\l.length=2/\T7 n (l.getD 0 0)=false then (if Cd (l.getD 1 0) then some (Vt (Lo (Qf n (l.getD 0 0).toNat) (l.getD 1 0))) else none)
  else none:=by unfold Ke;rw [aH h]
def Aju {e:Bj} (he:Bb e=true) (k:Int):(∀f∈(Gc e k).1,0<=f/\f<=99999)/\(Gc e k).1.length<=1000:=by
 unfold Gc
 split
 ·refine ⟨fun f hf=>by have:=Ajt he f hf;omega,?_⟩;unfold Lo
  split
  ·rename_i x hx;have:=(Vh he).2.2 x (ci hx);dsimp only;omega
  ·exact aD _
 ·exact ⟨fun f hf=>(by cases hf),aD _⟩
def Bce (n:Dx) (w:au) (l:ar) (v:Value) (F:aq) (a:aj) (c:Nat) (Fl FT:aq) (g:At n=true) (hl0:0 < l.length):Fn prog 102 [v,af w,ab a l.length c] [.isv Pe v n F,.sl Bc (ab a l.length c) l Fl,Ga FT] [] (fun (u:au × Bool)=>Ke n w.data.toList l=if u.2 then some u.1 else none) (fun u=>.tuple #[af u.1,.bool u.2]) (fun _=>[]):=by
 refine enter func102 rfl ntmps102 fun w0=>?_;refine Fg ?_;rintro a1 c1 F1 a2 c2 F2 a3 c3 F3 a4 c4 F4 a5 c5 F5 a6 c6 F6 a7 c7 F7 rfl l1 l2 l3 l4 l5 l6 l7;obtain ⟨e1,e2,e3,e4⟩:=If g;obtain ⟨q2,q8,qn,qu,qe,qt⟩:=Nr g;have hG:=Ax.1 g;obtain ⟨-,qr, -, -⟩:=Bn.1 hG.l;have hS:=Kk hG.s;have hW:=Du.1 (Ep.1 hG.s).1;have hS1:=hS.l;have hb1:=Ou (fun q hq=>(C8 (e3 q hq)).1) n.down.length;have hb2:=Ou (fun q hq=>(C8 (e4 q hq)).1) n.up.length;rw [bj] at hb1 hb2;refine Jm n.Ap (a1:=a1) ?_;refine Im (xs:=l) 0 ?_;rintro hi0 b0 o0 rfl;have eg:l.getD 0 0=l[0]:=Qg hi0 0;refine go ?_;intros
 refine ce (fun w s=>Hw _ _ _ _) ?_;cases hb:Ff 1 l[0] ((n.Ap.Ad.length:Int) - 1)
 ·refine go ?_;refine ret (⟨⟨#[]⟩,false⟩:au × Bool) ?_ rfl;unfold Ke;rw [eg,hb];rfl
 have hb0:=hb;unfold Ff at hb0;simp only [aw,aF] at hb0;obtain ⟨i,hi⟩:∃i:Nat,l[0]=(i:Int):=⟨l[0].toNat,EY⟩;have hi8:i < n.Ap.Ad.length:=EY
 have h5:i < n.Ac.length:=EY
 have hie:i < n.Af.length:=EY
 rw [<-eg] at hb;have eN:l.getD 0 0=(i:Int):=by rw [eg,hi]
 rw [hi];refine go ?_;refine Be (Yc n.Ap (i:Int) _ F1) fun _ _=>?_;generalize hlf:Et n.Ap.Ad (i:Int)=B;have hLN:T7 n (l.getD 0 0)=B:=by rw [eN];exact hlf
 repeat (apply wO;apply oc;rfl;exact ydE)
 apply V8;apply Zz;apply Pg;apply Un;apply Pg;have hR:=El.1 (e2 _ (aB h5));have er:Qt n (l.getD 0 0).toNat=n.Ac[i]:=by rw [eN,ba];exact Hf h5
 refine Dv [1,2,3,6,7,8,9] [0,1,2,3,4,5,6,7,8,9,10,11,12] (fun b:Bool=>[(29,.bool b)]) (fun _=>[]) (fun b=>b=decide (w=⟨#[97,119,97,105,116]⟩/\l.length=1/\B=true)) ?_ fun b hb9=>?_
 ·by_cases hw:w=⟨#[97,119,97,105,116]⟩
  ·refine go ?_;rw [show decide (w=⟨#[97,119,97,105,116]⟩)=true from av hw];refine go ?_;by_cases hn:l.length=1
   ·rw [show decide ((l.length:Int)=1)=true from av EY];refine go ?_;refine Bk B ?_;cases B <;> simp [hw,hn]
   ·rw [show decide ((l.length:Int)=1)=false from ay EY];refine go ?_;refine Bk false ?_;simp [hn]
  ·refine go ?_;rw [show decide (w=⟨#[97,119,97,105,116]⟩)=false from ay hw];refine go ?_;refine Bk false ?_;simp [hw]
 subst hb9;by_cases hc1:w=⟨#[97,119,97,105,116]⟩/\l.length=1/\B=true
 ·rw [av hc1];refine Jl (xs:=n.Ac) i ?_;rintro h5b b5 o5 a9 c9 F9 a10 c10 F10 e5 l9 l10;rw [e5];refine D5 n.Ac[i] ?_;refine go ?_;refine Be (Acw n.Ac[i] _ _) fun z _=>?_;obtain ⟨ra,rc,rF⟩:=z;dsimp only;have hP:=Aac (n.Ac[i].An.map (·.Ae)) ra rc;have ea:Fb n.Ac[i]=(n.Ac[i].An.map (·.Ae),true):=by unfold Fb;rw [e2 _ (aB h5)];rfl
  rw [ea];dsimp only;refine Av (E:=Bc) (xs:=n.Ac[i].An.map (·.Ae)) fun F8=>?_;refine go ?_;refine cf (hP F8 FT (fun f hf=>by
   obtain ⟨q,hq,rfl⟩:=bL.1 hf;have:=Ba.1 (Yv hR hq).1;omega) (by rw [bf];have:=(Dj.1 hR.q).2.1;omega)) fun _ _=>?_
  refine Pp ?_;refine go ?_;refine ret (⟨_,true⟩:au × Bool) ?_ rfl;rw [Vb hb,aH ⟨D0.1 hc1.1,hc1.2.1,hLN.trans hc1.2.2⟩,er];rfl
 rw [ay hc1];apply Zz;apply c_f;rfl;apply Pg;refine Dv [1,2,3,6,7,8,9] [0,1,2,3,4,5,6,7,8,9,10,11,12] (fun b:Bool=>[(51,.bool b)]) (fun _=>[]) (fun b=>b=decide (w=⟨#[115,108,111,116,115]⟩/\l.length=1/\B=true/\n.Ac[i].Bg=true)) ?_ fun b hb9=>?_
 ·refine Jl (xs:=n.Ac) i ?_;rintro h5b b5 o5 a9 c9 F9 a10 c10 F10 e5 l9 l10;rw [e5];by_cases hw:w=⟨#[115,108,111,116,115]⟩
  ·refine go ?_;rw [show decide (w=⟨#[115,108,111,116,115]⟩)=true from av hw];refine go ?_;by_cases hn:l.length=1
   ·rw [show decide ((l.length:Int)=1)=true from av EY];refine go ?_;cases B
    ·refine go ?_;refine Bk false ?_;simp
    ·refine go ?_;refine Bk n.Ac[i].Bg ?_;cases n.Ac[i].Bg <;> simp [hw,hn]
   ·rw [show decide ((l.length:Int)=1)=false from ay EY];refine go ?_;refine Bk false ?_;simp [hn]
  ·refine go ?_;rw [show decide (w=⟨#[115,108,111,116,115]⟩)=false from ay hw];refine go ?_;refine Bk false ?_;simp [hw]
 subst hb9;by_cases hc2:w=⟨#[115,108,111,116,115]⟩/\l.length=1/\B=true/\n.Ac[i].Bg=true
 ·rw [av hc2];refine Jl (xs:=n.Ac) i ?_;rintro h5b b5 o5 a9 c9 F9 a10 c10 F10 e5 l9 l10;rw [e5];refine Ch n.Ac[i].Aa (a1:=a9) ?_;refine go ?_;refine Be (Apf n.Ac[i].Aa _ F9 FT hR.w) fun _ _=>?_;refine go ?_;refine ret (⟨_,true⟩:au × Bool) ?_ rfl;rw [Vb hb,aC (fun e=>hc1 ⟨D0.2 e.1,e.2.1,hLN.symm.trans e.2.2⟩),aH ⟨D0.1 hc2.1,hc2.2.1,hLN.trans hc2.2.2.1,by rw [er];exact hc2.2.2.2⟩,er];rfl
 rw [ay hc2];apply Zz;apply c_f;rfl;apply Pg;refine Dv [2,3,6,7,8] [0,1,2,3,4,5,6,7,8,9,10,11,12] (fun b:Bool=>[(77,.bool b)]) (fun _=>[]) (fun b=>b=decide (w=⟨#[102,97,99,101,115]⟩/\l.length=2/\B=false)) ?_ fun b hb9=>?_
 ·by_cases hw:w=⟨#[102,97,99,101,115]⟩
  ·refine go ?_;rw [show decide (w=⟨#[102,97,99,101,115]⟩)=true from av hw];refine go ?_;by_cases hn:l.length=2
   ·rw [show decide ((l.length:Int)=2)=true from av EY];refine go ?_;refine Bk (!B) ?_;cases B <;> simp [hw,hn]
   ·rw [show decide ((l.length:Int)=2)=false from ay EY];refine go ?_;refine Bk false ?_;simp [hn]
  ·refine go ?_;rw [show decide (w=⟨#[102,97,99,101,115]⟩)=false from ay hw];refine go ?_;refine Bk false ?_;simp [hw]
 subst hb9;by_cases hc3:w=⟨#[102,97,99,101,115]⟩/\l.length=2/\B=false
 rotate_left
 ·rw [ay hc3];refine go ?_;refine ret (⟨⟨#[]⟩,false⟩:au × Bool) ?_ rfl;rw [Vb hb,aC (fun e=>hc1 ⟨D0.2 e.1,e.2.1,hLN.symm.trans e.2.2⟩),aC (fun e=>hc2 ⟨D0.2 e.1,e.2.1,hLN.symm.trans e.2.2.1,by rw [<-er];exact e.2.2.2⟩),aC (fun e=>hc3 ⟨D0.2 e.1,e.2.1,hLN.symm.trans e.2.2⟩)];rfl
 rw [av hc3];have hl1:1 < l.length:=EY
 have hfn:=Aju (e1 _ (aB hie)) l[1];refine Im (xs:=l) 1 ?_;rintro hi1 b1 o1 ea1;cases ea1;refine Oo (xs:=n.Af) i ?_;rintro h5b b5 o5 a9 c9 F9 e5 l9;rw [e5];refine E5 n.Af[i] ?_;refine Hy ?_;intros;refine Ar [1,3,4] [9,10,11,12,13] ?_;refine C4 0 1 2 3 ?_;refine C4 4 5 6 7 ?_;refine dN 8 ?_;refine oC ?_;refine Be (Ap8 n.Af[i] l[1] _ _) fun z _=>?_;obtain ⟨fa,fc,fF⟩:=z;dsimp only;refine Av (E:=Bc) (xs:=(Gc n.Af[i] l[1]).1) fun F8=>?_;refine dk ?_;refine P0 9 ?_;refine P0 10 ?_;refine P0 11 ?_;refine P0 12 ?_;refine P0 13 ?_;refine dd ?_;refine go ?_
 refine Be (Aac (Gc n.Af[i] l[1]).1 fa fc F8 FT hfn.1 hfn.2) fun _ _=>?_;refine go ?_;refine ret (⟨_,(Gc n.Af[i] l[1]).2⟩:au × Bool) ?_ rfl;rw [Vb hb,aC (fun e=>hc1 ⟨D0.2 e.1,e.2.1,hLN.symm.trans e.2.2⟩),aC (fun e=>hc2 ⟨D0.2 e.1,e.2.1,hLN.symm.trans e.2.2.1,by rw [<-er];exact e.2.2.2⟩),aH ⟨D0.1 hc3.1,hc3.2.1,hLN.trans hc3.2.2⟩,Qg hl1,eN,ba,J9 hie];unfold Gc;rw [e1 _ (aB hie),bQ];cases Cd l[1] <;> rfl
structure NL where
 a1:aj
 c1:Nat
 a2:aj
 c2:Nat
 a3:aj
 c3:Nat
 a4:aj
 c4:Nat
 a5:aj
 c5:Nat
 a6:aj
 c6:Nat
 a7:aj
 c7:Nat
structure RuS where
 z:NL
 t:au
 b:Bool
 F:aq
def Bjf {p q r:Pc} {w:World} (h:p.P w) (h2:q.P w) (h3:r.P w):O8 [p,q,r] w:=fun x hx=>by
 simp at hx;rcases hx with rfl|rfl|rfl
 ·exact h
 ·exact h2
 ·exact h3
def U5 (line:au):ai:=(Ds 32 line.data.toList).map bz
def Ale (line:au):wsL (U5 line)=Gh line:=by
 unfold wsL U5 Gh;rw [eZ];exact (dX fun x _=>Hn x).trans (f9 _)
def Ald (line:au):0 < (U5 line).length/\(U5 line).length<=line.size+1/\∀t∈U5 line,t.size<=line.size:=by
 obtain ⟨r,hr, -⟩:=Se 32 line.data.toList;obtain ⟨h1,h2⟩:=Awn line.data.toList;rw [Co] at h1;unfold U5;rw [bf];refine ⟨by rw [hr];simp,h1,fun t ht=>?_⟩;obtain ⟨x,hx,rfl⟩:=bL.1 ht;have:=h2 x hx;rw [Co] at this;rw [Ho];exact this
def Ash {n:Dx} {s:Js} (hg:At n=true) (hs:Dq s=true):(Vx (Bo n s)).length<=900000000000/\∀e∈Vx (Bo n s),e.size<=100:=by
 cases e:Bo n s with
 | none=>exact ⟨aD _,fun e he=>by cases he⟩
 | some y =>
  have h1:=Apl hg hs e;refine ⟨by show y.2.length<=_;omega,fun z hz=>?_⟩;have:=(Zf (Arr hg hs e z hz)).2;omega
def Acj {n:Dx} {line:au} {s:Js} (h:Jf (Gh line)=some s):Pm n line=Km n s:=by unfold Pm;rw [h]
def Bad {n:Dx} {line:au} {s:Js} (h:Jf (Gh line)=some s) (hs:Dq s=true):Hz n line=Ic n (Bo n s)/\Pm n line=if (Bo n s).isSome then some (Hz n line,if s.Ct=2\/s.Ct=4 then X8 (Vx (Bo n s)) else bz wOk) else none:=by
 have e:Pm n line=(Bo n s).map fun y=>(y.1,if s.Ct=2\/s.Ct=4 then X8 y.2 else bz wOk):=by rw [Acj h];unfold Km;rw [aH hs]
 unfold Hz;rw [e];cases Bo n s with
 | none=>exact ⟨rfl,rfl⟩
 | some y=>exact ⟨rfl,rfl⟩
def Aci {n:Dx} {line:au} {r:Option au} (h:Pm n line=Qs n r):Hz n line=n:=by
 unfold Hz;rw [h];cases r <;> rfl
def Bie (n:Dx) (line:au) (g:Nat) (a1:aj) (c1:Nat) (a2:aj) (c2:Nat) (a3:aj) (c3:Nat) (a4:aj) (c4:Nat) (a5:aj) (c5:Nat) (a6:aj) (c6:Nat) (a7:aj) (c7:Nat) (F FT:aq) (hg:At n=true) (hl:line.size<=900):Fn prog 53 [Gj g 0 0,af line] [Ga FT] [.row g 43 0 [] [ab a1 n.Ap.Ad.length c1,aa n.Ab.Aa.Am,aa n.Ab.Aa.size,ab a2 n.Ab.Aa.Al.length c2,aa n.Ab.Ai,aa n.Ab.quiet,ab a3 n.Ab.holds.length c3,ab a4 n.Af.length c4,ab a5 n.Ac.length c5,ab a6 n.down.length c6,ab a7 n.up.length c7] [],.own Aam (.agg #[ab a1 n.Ap.Ad.length c1,aa n.Ab.Aa.Am,aa n.Ab.Aa.size,ab a2 n.Ab.Aa.Al.length c2,aa n.Ab.Ai,aa n.Ab.quiet,ab a3 n.Ab.holds.length c3,ab a4 n.Af.length c4,ab a5 n.Ac.length c5,ab a6 n.down.length c6,ab a7 n.up.length c7]) n F] (fun (u:RuS)=>Pm n line=if u.b then some (Hz n line,u.t) else none) (fun u=>.tuple #[af u.t,.bool u.b]) (fun u=>[.row g 43 0 [] [.slice u.z.a1 (Hz n line).Ap.Ad.length u.z.c1,aa (Hz n line).Ab.Aa.Am,aa (Hz n line).Ab.Aa.size,.slice u.z.a2 (Hz n line).Ab.Aa.Al.length u.z.c2,aa (Hz n line).Ab.Ai,aa (Hz n line).Ab.quiet,.slice u.z.a3 (Hz n line).Ab.holds.length u.z.c3,.slice u.z.a4 (Hz n line).Af.length u.z.c4,.slice u.z.a5 (Hz n line).Ac.length u.z.c5,.slice u.z.a6 (Hz n line).down.length u.z.c6,.slice u.z.a7 (Hz n line).up.length u.z.c7] [],.own Aam (.agg #[.slice u.z.a1 (Hz n line).Ap.Ad.length u.z.c1,aa (Hz n line).Ab.Aa.Am,aa (Hz n line).Ab.Aa.size,.slice u.z.a2 (Hz n line).Ab.Aa.Al.length u.z.c2,aa (Hz n line).Ab.Ai,aa (Hz n line).Ab.quiet,.slice u.z.a3 (Hz n line).Ab.holds.length u.z.c3,.slice u.z.a4 (Hz n line).Af.length u.z.c4,.slice u.z.a5 (Hz n line).Ac.length u.z.c5,.slice u.z.a6 (Hz n line).down.length u.z.c6,.slice u.z.a7 (Hz n line).up.length u.z.c7]) (Hz n line) u.F]):=by
 obtain ⟨hw0,hwl,hws⟩:=Ald line;refine enter func53 rfl ntmps53 fun w0=>?_;refine go ?_;refine cn (fun w st=>Bd8 line ⟨#[32]⟩ EY EZ FT w (st.get (p:=Ga FT) FA)) fun a0 c0 F0=>?_;rw [show Lib.splitB ⟨#[32]⟩ 0 (Lib.countB line ⟨#[32]⟩) line=U5 line from Yx 32 line];generalize hwd:U5 line=ws at *;have hWL:wsL ws=Gh line:=by rw [<-hwd];exact Ale line
 refine Av (E:=A9) (xs:=ws) fun F1=>?_;refine go ?_;refine Be (Bau ws hw0 a0 c0 F1 FT (fun t ht=>by have:=hws t ht;omega)) fun u hu=>?_;obtain ⟨s,ok⟩:=u;obtain ⟨hs,hst⟩:=hu;dsimp only at hs hst ⊢;rw [hWL] at hst;cases ok
 rotate_left
 ·replace hst:Jf (Gh line)=some s:=hst;refine go ?_;intros;refine Be (Aiy s hs) fun _ _=>?_;cases hk:Dq s
  ·have eN:Pm n line=none:=by rw [Acj hst];unfold Km;rw [hk];rfl
   have eM:Hz n line=n:=Aci (r:=none) eN;rw [eM,eN];refine go ?_;refine ret (⟨⟨a1,c1,a2,c2,a3,c3,a4,c4,a5,c5,a6,c6,a7,c7⟩,⟨#[]⟩,false,F⟩:RuS) ?_ rfl;rfl
  obtain ⟨eM,eN⟩:=Bad (n:=n) hst hk;obtain ⟨hf1,hf2⟩:=Ash hg hk;rw [eN,eM];refine Vv (x:=n) ?_;rintro x1 w1 K1 x2 w2 K2 x3 w3 K3 x4 w4 K4 x5 w5 K5 x6 w6 K6 x7 w7 K7 ev - - - - - - -;simp only [Value.agg.injEq,Array.mk.injEq,List.cons.injEq,Value.slice.injEq,Value.int.injEq,cM,cO] at ev;obtain ⟨⟨rfl,rfl⟩,⟨rfl,rfl⟩,⟨rfl,rfl⟩,⟨rfl,rfl⟩,⟨rfl,rfl⟩,⟨rfl,rfl⟩,rfl,rfl⟩:=ev;refine go ?_;refine Be (Aml n s g a1 c1 K1 a2 c2 K2 a3 c3 K3 a4 c4 K4 a5 c5 K5 a6 c6 K6 a7 c7 K7 FT hg hk hs) fun y _=>?_;refine Av (E:=A9) (xs:=Vx (Bo n s)) fun F5=>?_;refine Nl (Ic n (Bo n s)) ?_;by_cases k2:s.Ct=2
  ·rw [aH (show s.Ct=2\/s.Ct=4 from .inl k2)];refine go ?_;rw [show decide (s.Ct=2)=true from av k2];exact CG
  by_cases k4:s.Ct=4
  ·rw [aH (show s.Ct=2\/s.Ct=4 from .inr k4)];refine go ?_;rw [show decide (s.Ct=2)=false from ay k2];refine go ?_;refine Ay rfl (fun k5=>?_) (fun k5=>?_)
   rotate_left
   ·exact absurd k4 k5
   exact CG
  ·rw [aC (show ¬(s.Ct=2\/s.Ct=4) from fun h=>h.elim k2 k4)];refine go ?_;rw [show decide (s.Ct=2)=false from ay k2];refine go ?_;refine Ay rfl (fun k5=>?_) (fun k5=>?_)
   ·exact absurd k5 k4
   refine go ?_;refine ret (⟨⟨y.1.a1,y.1.c1,y.1.a2,y.1.c2,y.1.a3,y.1.c3,y.1.a4,y.1.c4,y.1.a5,y.1.c5,y.1.a6,y.1.c6,y.1.a7,y.1.c7⟩,bz wOk,_,_⟩:RuS) ?_ rfl;rfl
 replace hst:Jf (Gh line)=none:=hst;refine go ?_;intros;refine Ay rfl (fun h1=>?_) (fun h1=>?_)
 ·have eN:Pm n line=some ((Q2 n).1,X8 (Q2 n).2):=by unfold Pm;rw [hst];dsimp only;rw [aH (show line.data.toList=Xh from D0.1 h1)]
  have eM:Hz n line=(Q2 n).1:=by unfold Hz;rw [eN]
  rw [eN,eM];have hf1:=Ase hg;refine Vv (x:=n) ?_;rintro x1 w1 K1 x2 w2 K2 x3 w3 K3 x4 w4 K4 x5 w5 K5 x6 w6 K6 x7 w7 K7 ev - - - - - - -;simp only [Value.agg.injEq,Array.mk.injEq,List.cons.injEq,Value.slice.injEq,Value.int.injEq,cM,cO] at ev;obtain ⟨⟨rfl,rfl⟩,⟨rfl,rfl⟩,⟨rfl,rfl⟩,⟨rfl,rfl⟩,⟨rfl,rfl⟩,⟨rfl,rfl⟩,rfl,rfl⟩:=ev;refine go ?_;refine Be (Aw8 n g a1 c1 K1 a2 c2 K2 a3 c3 K3 a4 c4 K4 a5 c5 K5 a6 c6 K6 a7 c7 K7 FT hg) fun y _=>?_;refine Av (E:=A9) (xs:=(Q2 n).2) fun F5=>?_;refine Nl (Q2 n).1 ?_;refine go ?_
  refine Be (Wi (Q2 n).2 _ _ F5 EY (fun e he=>by have:=(Zf (Bfu hg e he)).2;omega)) fun _ _=>?_;refine go ?_;refine ret (⟨⟨y.1.a1,y.1.c1,y.1.a2,y.1.c2,y.1.a3,y.1.c3,y.1.a4,y.1.c4,y.1.a5,y.1.c5,y.1.a6,y.1.c6,y.1.a7,y.1.c7⟩,_,true,_⟩:RuS) ?_ rfl;rfl
 have hWlen:(Gh line).length=ws.length:=by rw [<-hWL];unfold wsL;rw [bf]
 refine go ?_;refine Ay rfl (fun h2=>?_) (fun h2=>?_)
 ·have eN:Pm n line=Qs n (Le n line.data.toList):=by unfold Pm;rw [hst];dsimp only;rw [aC (show ¬line.data.toList=Xh from fun e=>h1 (D0.2 e)),aH EY]
  have eM:=Aci eN;rw [eM,eN];refine go ?_;refine cfr (fun w st=>by obtain ⟨Fq,hq⟩:=st.rO Y6 (v:=.agg #[ab a1 n.Ap.Ad.length c1,aa n.Ab.Aa.Am,aa n.Ab.Aa.size,ab a2 n.Ab.Aa.Al.length c2,aa n.Ab.Ai,aa n.Ab.quiet,ab a3 n.Ab.holds.length c3,ab a4 n.Af.length c4,ab a5 n.Ac.length c5,ab a6 n.down.length c6,ab a7 n.up.length c7]) (x:=n) (F:=F) Bp;exact ⟨[.isv Pe _ n Fq,Ga FT],Vj hq (st.get (p:=Ga FT) FD),rfl,Bdp n line _ Fq FT hg⟩) (fun u hu=>?_);refine Pp ?_;refine go ?_
  refine ret (⟨⟨a1,c1,a2,c2,a3,c3,a4,c4,a5,c5,a6,c6,a7,c7⟩,u.1,u.2,F⟩:RuS) ?_ rfl;show Qs n _=if u.2 then some (n,u.1) else none
  rw [hu];cases u.2 <;> rfl
 have hdr:((Gh line).drop 1).map bz=ws.drop 1:=by
  rw [<-hWL];unfold wsL;rw [<-List.map_drop,eZ];exact (dX fun x _=>Vd x).trans (f9 _)
 have eN:Pm n line=if R7 (ws.drop 1) then Qs n (Ke n (ws[0]).data.toList (Kj (ws.drop 1))) else none:=by
  unfold Pm;rw [hst];dsimp only;rw [aC (show ¬line.data.toList=Xh from fun e=>h1 (D0.2 e)),aC EY,hdr,<-hWL,show atW (wsL ws) 0=(ws[0]).data.toList from Sx hw0]
 have hdl:(ws.drop 1).length=ws.length - 1:=aX ..;refine go ?_;apply wO;refine sld (E:=A9) (xs:=ws) 1 fun a8 c8 F8=>?_;refine go ?_;refine Be (Aoy (ws.drop 1) a8 c8 F8 FT (fun t ht=>by have:=hws t (br ht);omega) EY) fun z _=>?_;cases hp:R7 (ws.drop 1)
 ·rw [hp] at eN;have eM:=Aci (r:=none) eN;have e2:Sn (ws.drop 1)=([],false):=by unfold Sn;rw [hp];rfl
  rw [e2];refine go ?_;rw [eM,eN];refine ret (⟨⟨a1,c1,a2,c2,a3,c3,a4,c4,a5,c5,a6,c6,a7,c7⟩,⟨#[]⟩,false,F⟩:RuS) ?_ rfl;rfl
 rw [hp,aH rfl] at eN;have eM:=Aci (r:=Ke n (ws[0]).data.toList (Kj (ws.drop 1))) eN;have e2:Sn (ws.drop 1)=(Kj (ws.drop 1),true):=by unfold Sn;rw [hp];rfl
 rw [eM,eN];have hvl:(Kj (ws.drop 1)).length=ws.length - 1:=by unfold Kj;rw [bf,hdl]
 rw [e2];dsimp only;generalize Kj (ws.drop 1)=vs at *;have hvs:0 < vs.length:=EY
 obtain ⟨lx,la,lc⟩:=z;dsimp only;refine Av (E:=Bc) (xs:=vs) fun F8=>?_;refine Me (xs:=ws) 0 ?_;rintro hi0 b0 o0 e0 s0;cases e0;refine Hy ?_;intros;refine Ar [0,5] [8,9,10,11] ?_;refine C4 0 1 2 3 ?_;refine Dh 4 5 ?_;refine dt 6 ?_;refine dN 7 ?_;refine oC ?_
 refine cfr (fun w st=>by obtain ⟨Fq,hq⟩:=st.rO Y6 (v:=.agg #[ab a1 n.Ap.Ad.length c1,aa n.Ab.Aa.Am,aa n.Ab.Aa.size,ab a2 n.Ab.Aa.Al.length c2,aa n.Ab.Ai,aa n.Ab.quiet,ab a3 n.Ab.holds.length c3,ab a4 n.Af.length c4,ab a5 n.Ac.length c5,ab a6 n.down.length c6,ab a7 n.up.length c7]) (x:=n) (F:=F) Bp;exact ⟨[.isv Pe _ n Fq,.sl Bc (ab la vs.length lc) vs F8,Ga FT],Bjf hq (st.get (p:=.sl Bc (ab la vs.length lc) vs F8) FD) (st.get (p:=Ga FT) FD),rfl,Bce n ws[0] vs _ Fq la lc F8 FT hg hvs⟩) (fun u hu=>?_)
 refine Pp ?_;refine dk ?_;refine P0 8 ?_;refine P0 9 ?_;refine P0 10 ?_;refine P0 11 ?_;refine dd ?_;refine go ?_;refine ret (⟨⟨a1,c1,a2,c2,a3,c3,a4,c4,a5,c5,a6,c6,a7,c7⟩,u.1,u.2,F⟩:RuS) ?_ rfl;show Qs n _=if u.2 then some (n,u.1) else none
 rw [hu];cases u.2 <;> rfl
structure CoS where
 z:NL
 F:aq
structure U6 where
 cs:am
 F:aq
def Aww (x:Cj) (v:Value) (F:aq) (hs:Q0 x.Bh):Fn prog 34 [v] [.isv Ec v x F] [] (fun (_:CoS)=>True) (fun z=>.agg #[ab z.z.a1 x.Bh.Ap.Ad.length z.z.c1,aa x.Bh.Ab.Aa.Am,aa x.Bh.Ab.Aa.size,ab z.z.a2 x.Bh.Ab.Aa.Al.length z.z.c2,aa x.Bh.Ab.Ai,aa x.Bh.Ab.quiet,ab z.z.a3 x.Bh.Ab.holds.length z.z.c3,ab z.z.a4 x.Bh.Af.length z.z.c4,ab z.z.a5 x.Bh.Ac.length z.z.c5,ab z.z.a6 x.Bh.down.length z.z.c6,ab z.z.a7 x.Bh.up.length z.z.c7,af x.Gm.Bd,af x.Gm.pending,aa x.Gm.count]) (fun z=>[.own Aam (.agg #[ab z.z.a1 x.Bh.Ap.Ad.length z.z.c1,aa x.Bh.Ab.Aa.Am,aa x.Bh.Ab.Aa.size,ab z.z.a2 x.Bh.Ab.Aa.Al.length z.z.c2,aa x.Bh.Ab.Ai,aa x.Bh.Ab.quiet,ab z.z.a3 x.Bh.Ab.holds.length z.z.c3,ab z.z.a4 x.Bh.Af.length z.z.c4,ab z.z.a5 x.Bh.Ac.length z.z.c5,ab z.z.a6 x.Bh.down.length z.z.c6,ab z.z.a7 x.Bh.up.length z.z.c7]) x.Bh z.F]):=by
 refine enter func34 rfl ntmps34 fun w0=>?_;refine B9 ?_;rintro a1 c1 F1 a2 c2 F2 a3 c3 F3 a4 c4 F4 a5 c5 F5 a6 c6 F6 a7 c7 F7 rfl s1 s2 l1 l2 l3 l4 l5 l6 l7;refine E8 x.Bh (a1:=a1) (a2:=a2) (a3:=a3) (a4:=a4) (a5:=a5) (a6:=a6) (a7:=a7) ?_;refine Hy ?_;intros;refine Ar [1] [6] ?_;refine C4 0 1 3 4 ?_;refine dN 2 ?_;refine oC ?_;refine Be (Am4 x.Bh _ _ hs) fun z _=>?_;refine Nl x.Bh ?_;refine dk ?_;refine dt 5 ?_;refine dN 6 ?_;refine oS ?_;refine Nm ?_;refine dd ?_;refine go ?_;refine ret (⟨⟨z.a1,z.c1,z.a2,z.c2,z.a3,z.c3,z.a4,z.c4,z.a5,z.c5,z.a6,z.c6,z.a7,z.c7⟩,_⟩:CoS) trivial rfl
def Bax {d p:Bs} {k:Int} (h:E4 d p k=true):d.length+p.length<=30000:=by
 unfold E4 at h;simp only [aw,aF] at h;exact h.1
def Sy {x:Cj} (h:Eo x=true):x.Gm.Bd.size+x.Gm.pending.size<=30000:=by
 unfold Eo at h;rw [aw] at h;have:=Bax h.2;rw [Co,Co] at this;exact this
def Ajs (x:Cj) (line:au) (g:Nat) (a1:aj) (c1:Nat) (a2:aj) (c2:Nat) (a3:aj) (c3:Nat) (a4:aj) (c4:Nat) (a5:aj) (c5:Nat) (a6:aj) (c6:Nat) (a7:aj) (c7:Nat) (F FT:aq) (hg:Eo x=true) (hl:line.size<=maxLen):Fn prog 26 [Gj g 0 0,af line] [Ga FT] [.row g 45 0 [] [ab a1 x.Bh.Ap.Ad.length c1,aa x.Bh.Ab.Aa.Am,aa x.Bh.Ab.Aa.size,ab a2 x.Bh.Ab.Aa.Al.length c2,aa x.Bh.Ab.Ai,aa x.Bh.Ab.quiet,ab a3 x.Bh.Ab.holds.length c3,ab a4 x.Bh.Af.length c4,ab a5 x.Bh.Ac.length c5,ab a6 x.Bh.down.length c6,ab a7 x.Bh.up.length c7,af x.Gm.Bd,af x.Gm.pending,aa x.Gm.count] [],.own Aam (.agg #[ab a1 x.Bh.Ap.Ad.length c1,aa x.Bh.Ab.Aa.Am,aa x.Bh.Ab.Aa.size,ab a2 x.Bh.Ab.Aa.Al.length c2,aa x.Bh.Ab.Ai,aa x.Bh.Ab.quiet,ab a3 x.Bh.Ab.holds.length c3,ab a4 x.Bh.Af.length c4,ab a5 x.Bh.Ac.length c5,ab a6 x.Bh.down.length c6,ab a7 x.Bh.up.length c7]) x.Bh F] (fun (_:CoS)=>True) (fun _=>af (Mg x line).2) (fun u=>[.row g 45 0 [] [.slice u.z.a1 (Mg x line).1.Bh.Ap.Ad.length u.z.c1,aa (Mg x line).1.Bh.Ab.Aa.Am,aa (Mg x line).1.Bh.Ab.Aa.size,.slice u.z.a2 (Mg x line).1.Bh.Ab.Aa.Al.length u.z.c2,aa (Mg x line).1.Bh.Ab.Ai,aa (Mg x line).1.Bh.Ab.quiet,.slice u.z.a3 (Mg x line).1.Bh.Ab.holds.length u.z.c3,.slice u.z.a4 (Mg x line).1.Bh.Af.length u.z.c4,.slice u.z.a5 (Mg x line).1.Bh.Ac.length u.z.c5,.slice u.z.a6 (Mg x line).1.Bh.down.length u.z.c6,.slice u.z.a7 (Mg x line).1.Bh.up.length u.z.c7,af (Mg x line).1.Gm.Bd,af (Mg x line).1.Gm.pending,aa (Mg x line).1.Gm.count] [],.own Aam (.agg #[.slice u.z.a1 (Mg x line).1.Bh.Ap.Ad.length u.z.c1,aa (Mg x line).1.Bh.Ab.Aa.Am,aa (Mg x line).1.Bh.Ab.Aa.size,.slice u.z.a2 (Mg x line).1.Bh.Ab.Aa.Al.length u.z.c2,aa (Mg x line).1.Bh.Ab.Ai,aa (Mg x line).1.Bh.Ab.quiet,.slice u.z.a3 (Mg x line).1.Bh.Ab.holds.length u.z.c3,.slice u.z.a4 (Mg x line).1.Bh.Af.length u.z.c4,.slice u.z.a5 (Mg x line).1.Bh.Ac.length u.z.c5,.slice u.z.a6 (Mg x line).1.Bh.down.length u.z.c6,.slice u.z.a7 (Mg x line).1.Bh.up.length u.z.c7]) (Mg x line).1.Bh u.F]):=by
 have hgn:At x.Bh=true:=JJ
 have hgl:E4 x.Gm.Bd.data.toList x.Gm.pending.data.toList x.Gm.count=true:=by unfold Eo at hg;rw [aw] at hg;exact hg.2
 have hsz:=Sy hg;refine enter func26 rfl ntmps26 fun w0=>?_;refine go ?_;refine cb (fun w st=>Lg.Xo line ⟨#[]⟩ w hl (aD _)) ?_;rw [show Lg.Bw line ⟨#[]⟩=Pu line from rfl];cases h1:Pu line
 ·have e:Mg x line=(x,bz Bej):=by unfold Mg;rw [h1];rfl
  rw [e];refine go ?_;refine ret (⟨⟨a1,c1,a2,c2,a3,c3,a4,c4,a5,c5,a6,c6,a7,c7⟩,F⟩:CoS) trivial rfl
 refine go ?_;refine Ay rfl (fun h2=>?_) (fun h2=>?_)
 ·have e:Mg x line=(x,bz Ate):=by unfold Mg;rw [h1,aH rfl,aH h2]
  rw [e];refine go ?_;refine ret (⟨⟨a1,c1,a2,c2,a3,c3,a4,c4,a5,c5,a6,c6,a7,c7⟩,F⟩:CoS) trivial rfl
 have hlz:line.size<=160:=by
  have h:=h1;unfold Pu Lg.Bw Ff at h;simp only [aw,aF] at h;have:=h.1.1.1.1.2;omega
 rw [Alv ⟨h1,h2⟩];have ht:=Als (Ame (line:=line) hgn);have hGd:X0 line.data.toList (Sh (Qo x.Bh line)).data.toList:=I5 (by rw [<-Lg.Nq];exact Wl h1 ht.1 ht.2);obtain ⟨xn,⟨d,p,q⟩⟩:=x;dsimp only at hgn hgl hsz h2 ht hGd ⊢;have hcn:=Lg.Uv hgl;obtain ⟨k,rfl⟩:∃k:Nat,q=(k:Int):=⟨q.toNat,EY⟩;refine go ?_
 refine cfr (fun w st=>by obtain ⟨Fq,hq⟩:=st.rO Y6 (v:=.agg #[ab a1 xn.Ap.Ad.length c1,aa xn.Ab.Aa.Am,aa xn.Ab.Aa.size,ab a2 xn.Ab.Aa.Al.length c2,aa xn.Ab.Ai,aa xn.Ab.quiet,ab a3 xn.Ab.holds.length c3,ab a4 xn.Af.length c4,ab a5 xn.Ac.length c5,ab a6 xn.down.length c6,ab a7 xn.up.length c7]) (x:=xn) (F:=F) Bp;exact ⟨[.isv Pe _ xn Fq],I6 hq,rfl,Am4 xn _ Fq (Ku hgn)⟩) (fun z _=>?_);refine Pp ?_;refine Nl xn ?_;refine go ?_;intros
 refine Be (Bie xn line _ z.a1 z.c1 z.a2 z.c2 z.a3 z.c3 z.a4 z.c4 z.a5 z.c5 z.a6 z.c6 z.a7 z.c7 _ FT hgn EY) fun u hu=>?_;refine go ?_
 refine Dv [0,1] [] (fun _:NL × aq=>[(6,af (Qo xn line))]) (fun z=>[.row g 45 0 [] [.slice z.1.a1 (Hz xn line).Ap.Ad.length z.1.c1,aa (Hz xn line).Ab.Aa.Am,aa (Hz xn line).Ab.Aa.size,.slice z.1.a2 (Hz xn line).Ab.Aa.Al.length z.1.c2,aa (Hz xn line).Ab.Ai,aa (Hz xn line).Ab.quiet,.slice z.1.a3 (Hz xn line).Ab.holds.length z.1.c3,.slice z.1.a4 (Hz xn line).Af.length z.1.c4,.slice z.1.a5 (Hz xn line).Ac.length z.1.c5,.slice z.1.a6 (Hz xn line).down.length z.1.c6,.slice z.1.a7 (Hz xn line).up.length z.1.c7,af d,af p,aa (k:Int)] [],.own Aam (.agg #[.slice z.1.a1 (Hz xn line).Ap.Ad.length z.1.c1,aa (Hz xn line).Ab.Aa.Am,aa (Hz xn line).Ab.Aa.size,.slice z.1.a2 (Hz xn line).Ab.Aa.Al.length z.1.c2,aa (Hz xn line).Ab.Ai,aa (Hz xn line).Ab.quiet,.slice z.1.a3 (Hz xn line).Ab.holds.length z.1.c3,.slice z.1.a4 (Hz xn line).Af.length z.1.c4,.slice z.1.a5 (Hz xn line).Ac.length z.1.c5,.slice z.1.a6 (Hz xn line).down.length z.1.c6,.slice z.1.a7 (Hz xn line).up.length z.1.c7]) (Hz xn line) z.2,Ga FT]) (fun _=>True) ?_ fun z _=>?_
 ·cases hb:u.b
  ·rw [hb] at hu;have eM:Hz xn line=xn:=by unfold Hz;rw [hu];rfl
   have eT:Qo xn line=⟨#[63]⟩:=by unfold Qo;rw [hu];rfl
   rw [eM,eT];refine go ?_;refine Bk (⟨a1,c1,a2,c2,a3,c3,a4,c4,a5,c5,a6,c6,a7,c7⟩,F) trivial
  ·rw [hb] at hu;have eT:Qo xn line=u.t:=by unfold Qo;rw [hu];rfl
   rw [eT];refine go ?_;refine Bk (⟨u.z.a1,u.z.c1,u.z.a2,u.z.c2,u.z.a3,u.z.c3,u.z.a4,u.z.c4,u.z.a5,u.z.c5,u.z.a6,u.z.c6,u.z.a7,u.z.c7⟩,u.F) trivial
 refine go ?_;refine Dv [0,1] [0,1,2] (fun _:Unit=>[(6,af (Sh (Qo xn line)))]) (fun _=>[]) (fun _=>True) ?_ fun _ _=>?_
 ·refine Ay rfl (fun h5=>?_) (fun h5=>?_)
  ·have e:Sh (Qo xn line)=bz Bbo:=by unfold Sh;rw [aH EY]
   rw [e];exact CO
  ·have e:Sh (Qo xn line)=Qo xn line:=by unfold Sh;rw [aC EY]
   rw [e];exact CO
 have hbs:(Lg.bs (Kl k line.data.toList (Sh (Qo xn line)).data.toList)).size<=400:=by
  rw [Lg.Ju];have:=Adv (k:=k) EY hGd;omega
 refine Hy ?_;intros;refine Ar [0] [30] ?_;refine C4 0 1 2 3 ?_;refine C4 4 5 6 7 ?_;refine C4 8 9 10 11 ?_;refine C4 12 13 14 15 ?_;refine C4 16 17 18 21 ?_;refine C4 22 23 24 25 ?_;refine dt 26 ?_;refine dN 19 ?_;refine oC ?_;refine cb (fun w st=>Lg.X7 k line (Sh (Qo xn line)) _ w EY hGd (Atb (st.get (p:=Ga FT) FD))) ?_;refine dk ?_;refine dt 20 ?_ (hy:=Hh rfl rfl EY);refine Dh 27 28 ?_;refine dt 29 ?_;refine dN 30 ?_;refine oS ?_;refine Nm ?_;refine dd ?_;refine go ?_
 refine ret (⟨⟨z.1.a1,z.1.c1,z.1.a2,z.1.c2,z.1.a3,z.1.c3,z.1.a4,z.1.c4,z.1.a5,z.1.c5,z.1.a6,z.1.c6,z.1.a7,z.1.c7⟩,_⟩:CoS) trivial rfl
def Ac0 (x:Cj) (line:au) (v:Value) (F FT:aq) (hs:Q0 x.Bh) (hz:x.Gm.Bd.size+x.Gm.pending.size<=1048576) (hl:line.size<=maxLen):Fn prog 13 [v,af line] [.isv Ec v x F,Ga FT] [] (fun (_:U6)=>True) (fun z=>.tuple #[.agg z.cs.toArray,af (Ia x line).2]) (fun z=>[.own Qa (.agg z.cs.toArray) (Ia x line).1 z.F]):=by
 refine enter func13 rfl ntmps13 fun w0=>?_;refine B9 ?_;rintro a1 c1 F1 a2 c2 F2 a3 c3 F3 a4 c4 F4 a5 c5 F5 a6 c6 F6 a7 c7 F7 rfl s1 s2 l1 l2 l3 l4 l5 l6 l7;refine E8 x.Bh (a1:=a1) (a2:=a2) (a3:=a3) (a4:=a4) (a5:=a5) (a6:=a6) (a7:=a7) ?_;refine go ?_;intros;refine Be (Aww x _ F hs) fun z _=>?_;refine go ?_;intros;rename_i g6;refine Be (Ac2 x _ F FT hz) fun _ _=>?_;unfold Ia;cases hg:Eo x
 ·rw [aC EZ];refine go ?_;refine Vv (x:=x.Bh) ?_;rintro x1 w1 K1 x2 w2 K2 x3 w3 K3 x4 w4 K4 x5 w5 K5 x6 w6 K6 x7 w7 K7 ev - - - - - - -;simp only [Value.agg.injEq,Array.mk.injEq,List.cons.injEq,Value.slice.injEq,Value.int.injEq,cM,cO] at ev;obtain ⟨⟨rfl,rfl⟩,⟨rfl,rfl⟩,⟨rfl,rfl⟩,⟨rfl,rfl⟩,⟨rfl,rfl⟩,⟨rfl,rfl⟩,rfl,rfl⟩:=ev;refine Mf x s1 s2 ?_;exact AF
 rw [aH rfl];have hsz:=Sy (Ru (line:=line) hg);refine go ?_;refine Be (Ajs x line g6 z.z.a1 z.z.c1 z.z.a2 z.z.c2 z.z.a3 z.z.c3 z.z.a4 z.z.c4 z.z.a5 z.z.c5 z.z.a6 z.z.c6 z.z.a7 z.z.c7 _ FT hg hl) fun u _=>?_;refine go ?_;refine Vv (x:=(Mg x line).1.Bh) ?_;rintro x1 w1 K1 x2 w2 K2 x3 w3 K3 x4 w4 K4 x5 w5 K5 x6 w6 K6 x7 w7 K7 ev - - - - - - -;simp only [Value.agg.injEq,Array.mk.injEq,List.cons.injEq,Value.slice.injEq,Value.int.injEq,cM,cO] at ev;obtain ⟨⟨rfl,rfl⟩,⟨rfl,rfl⟩,⟨rfl,rfl⟩,⟨rfl,rfl⟩,⟨rfl,rfl⟩,⟨rfl,rfl⟩,rfl,rfl⟩:=ev
 refine Mf (Mg x line).1 FE FE ?_;exact AF
structure RsS where
 k:Nat
 z:NL
 F:aq
 a:aj
 c:Nat
 Fa:aq
def Ave (t:Bs):(Ds 10 t).length<=t.length+1/\∀u∈Ds 10 t,u.length<=t.length:=by
 have hcb:=Lib.countB_le ⟨#[10]⟩ EZ (bz t).size (bz t) (aK _);have hlen:=Lib.splitB_all ⟨#[10]⟩ EZ 0 _ (bz t) rfl;rw [Yx,Hn,bf] at hlen;rw [Ho] at hcb;refine ⟨EY,fun u hu=>?_⟩;have h:bz u∈(Ds 10 t).map bz:=bL.2 ⟨u,hu,rfl⟩;have e:=Yx 10 (bz t);rw [Hn] at e;rw [<-e] at h;have:=Tf ⟨#[10]⟩ (bz t).size _ (bz t) (aK _) (bz u) h;rw [Ho,Ho] at this;exact this
def Avd (t:au):(Ym t).length<=t.size+1/\∀l∈Ym t,l.size<=t.size:=by
 obtain ⟨h1,h2⟩:=Ave t.data.toList;rw [Co] at h1;unfold Ym;rw [bf];refine ⟨h1,fun l hl=>?_⟩;obtain ⟨u,hu,rfl⟩:=bL.1 hl;have:=h2 u hu;rw [Co] at this;rw [Ho];exact this
def Ax6 {x:Cj} {ls:ai} {k:Nat} (h:k < ls.length):Nz x (ls.take (k+1))=((Mg (Nz x (ls.take k)).1 ls[k]).1,(Nz x (ls.take k)).2++[(Mg (Nz x (ls.take k)).1 ls[k]).2]):=by
 rw [aR h,Agy]
structure RpS where
 k:Nat
 x:Cj
 z:NL
 F:aq
def Ae6 {c:Cj} {i:Nat}:Ov c [] i=i:=rfl
def Acf {c:Cj} {e:Gz} {r:List Gz} {i:Nat}:Ov c (e::r) i=if (Mg c e.Ev).2=e.Fv then Ov (Mg c e.Ev).1 r (i+1) else i:=rfl
def M3 {t:Nf} {f y:Int} (h:(Bi t f y).2=true):Eo (Bi t f y).1=true:=by
 unfold Bi at h ⊢;cases e:(Em t f y).2
 ·rw [e] at h;cases h
 ·rw [aH rfl];unfold Eo;have hg:At (Em t f y).1=true:=by
   unfold Em at e ⊢;cases g:(Gb t && Cp ⟨⟨f,y,[]⟩,0,0,[]⟩)
   ·rw [g] at e;cases e
   ·rw [aH rfl];rw [aw] at g;exact Ae1 g.1 g.2
  rw [hg];show (true && E4 [] [] 0)=true;decide
def Ali (l:Log) (v:Value) (F FT:aq) (hw:Y8 l<=1048576):Fn prog 25 [v] [.isv Atk v l F,Ga FT] [] (fun (_:aj × Nat × aq)=>True) (fun s=>.tuple #[.slice s.1 (Lg.Nu l).1.length s.2.1,.bool (Lg.Nu l).2]) (fun s=>[.ow Il 71 (.slice s.1 (Lg.Nu l).1.length s.2.1) (Lg.Nu l).1 s.2.2]):=by
 unfold Y8 at hw;refine enter func25 rfl ntmps25 fun w0=>?_;refine Afz (v:=v) (x:=l) ?_;rintro _ rfl s1 s2;refine go ?_;intros;refine Be (Wc l.Bd l.pending l.count FT EY) fun _ _=>?_;unfold Lg.Nu;cases hv:E4 l.Bd.data.toList l.pending.data.toList l.count
 ·rw [aC EZ];refine go ?_;refine Bt Il 71 ?_;refine ret (none,0,[]) trivial rfl
 rw [aH rfl];refine go ?_;refine Be (U2 (l.Bd++l.pending) (by rw [aN];omega) FT) fun z _=>?_;rw [Lg.Gp];refine go ?_;refine ret z.1 trivial rfl
def Bdx {l:Log}:Lg.Nu l=if Mr l then (Lm l,true) else ([],false):=rfl
def X3 (t:Nf) (f y:Int) (l:Log) (v0 v3:Value) (F0 F3 FT:aq) (hw:Y8 l<=1048576):FV 6 [v0,aa f,aa y,v3] [.isv Ro v0 t F0,.isv Atk v3 l F3,Ga FT] (.tuple #[aa (Gs t f y l).1,.bool (Gs t f y l).2]):=by
 refine enter func6 rfl ntmps6 fun w0=>?_;refine Mv (v:=v0) ?_;rintro a0 c0 K0 rfl l0;refine Afz (v:=v3) (x:=l) ?_;rintro _ rfl s1 s2;have hN:=fun v F=>Abl t f y v F;have hgood:=M3 (t:=t) (f:=f) (y:=y);unfold Gs;generalize Bi t f y=R at hN hgood ⊢;refine go ?_;intros;refine Be (hN _ _) fun s _=>?_;obtain ⟨cs,sF⟩:=s;dsimp only;refine Ab9 (x:=R.1) ?_;rintro f1 t1 G1 f2 t2 G2 f3 t3 G3 f4 t4 G4 f5 t5 G5 f6 t6 G6 f7 t7 G7 ez s3 s4 - - - - - - -;rw [ez];refine Nl R.1.Bh ?_;refine go ?_;intros;rename_i g;refine Be (Ali l _ _ FT hw) fun z _=>?_;obtain ⟨ra,rc,rF⟩:=z;dsimp only;rw [Bdx];cases hr:R.2
 ·rw [cJ,aC EZ];exact AA
 rw [bQ];cases hgl:Mr l
 ·rw [aC EZ,aC EZ];exact AA
 rw [aH rfl,aH rfl];dsimp only;have hel:(Lm l).length<=1000000:=by
  unfold Lm;rw [bf];have:=(I8 (l.Bd.data.toList++l.pending.data.toList)).2;omega
 generalize Lm l=es at hel ⊢;refine Av (E:=Il) (xs:=es) fun F8=>?_;have hg0:=hgood hr;refine go ?_
 refine Ca [8,9,10,12,34,35] (fun z:RpS=>[(36,aa (z.k:Nat))]) (fun z=>[.row g 45 0 [] [ab z.z.a1 z.x.Bh.Ap.Ad.length z.z.c1,aa z.x.Bh.Ab.Aa.Am,aa z.x.Bh.Ab.Aa.size,ab z.z.a2 z.x.Bh.Ab.Aa.Al.length z.z.c2,aa z.x.Bh.Ab.Ai,aa z.x.Bh.Ab.quiet,ab z.z.a3 z.x.Bh.Ab.holds.length z.z.c3,ab z.z.a4 z.x.Bh.Af.length z.z.c4,ab z.z.a5 z.x.Bh.Ac.length z.z.c5,ab z.z.a6 z.x.Bh.down.length z.z.c6,ab z.z.a7 z.x.Bh.up.length z.z.c7,af z.x.Gm.Bd,af z.x.Gm.pending,aa z.x.Gm.count] [],.own Aam (.agg #[ab z.z.a1 z.x.Bh.Ap.Ad.length z.z.c1,aa z.x.Bh.Ab.Aa.Am,aa z.x.Bh.Ab.Aa.size,ab z.z.a2 z.x.Bh.Ab.Aa.Al.length z.z.c2,aa z.x.Bh.Ab.Ai,aa z.x.Bh.Ab.quiet,ab z.z.a3 z.x.Bh.Ab.holds.length z.z.c3,ab z.z.a4 z.x.Bh.Af.length z.z.c4,ab z.z.a5 z.x.Bh.Ac.length z.z.c5,ab z.z.a6 z.x.Bh.down.length z.z.c6,ab z.z.a7 z.x.Bh.up.length z.z.c7]) z.x.Bh z.F]) (fun z=>z.k<=es.length/\Eo z.x=true/\Ov R.1 es 0=Ov z.x (es.drop z.k) z.k) (fun z=>es.length - z.k) ⟨0,R.1,⟨f1,t1,f2,t2,f3,t3,f4,t4,f5,t5,f6,t6,f7,t7⟩,_⟩ ⟨aD _,hg0,rfl⟩ fun z hz=>?_
 obtain ⟨hk,hgk,hrp⟩:=hz;refine go ?_;refine Ay rfl (fun h1=>?_) (fun h1=>?_)
 ·have hh:z.k < es.length:=EY
  rw [bF hh,Acf] at hrp;refine Aej (xs:=es) z.k ?_;rintro hi0 b0 o0 e0 q1 q2;cases e0;refine Hy ?_;intros;refine Ar [0] [] ?_;refine C4 0 1 3 4 ?_;refine dN 2 ?_;refine oC ?_;refine Be (Ajs z.x es[z.k].Ev g z.z.a1 z.z.c1 z.z.a2 z.z.c2 z.z.a3 z.z.c3 z.z.a4 z.z.c4 z.z.a5 z.z.c5 z.z.a6 z.z.c6 z.z.a7 z.z.c7 _ FT hgk q1) fun u _=>?_;refine dk ?_;refine dt 5 ?_;refine dd ?_;refine go ?_;refine Ay rfl (fun h2=>?_) (fun h2=>?_)
  ·rw [aC h2] at hrp;refine go ?_;rw [hrp];exact BA
  ·rw [aH (cL.1 h2)] at hrp;refine go ?_;rw [show ((z.k:Nat):Int)+1=((z.k+1:Nat):Int) by omega];refine Ce ⟨z.k+1,(Mg z.x es[z.k].Ev).1,⟨u.z.a1,u.z.c1,u.z.a2,u.z.c2,u.z.a3,u.z.c3,u.z.a4,u.z.c4,u.z.a5,u.z.c5,u.z.a6,u.z.c6,u.z.a7,u.z.c7⟩,u.F⟩ ⟨hh,Ru hgk,hrp⟩ GW
 have hk2:z.k=es.length:=EY
 rw [show es.drop z.k=[] from eD EY,Ae6,hk2] at hrp;refine go ?_;rw [hrp];exact BA
def Ay8 (t:Nf) (f y:Int):Lm (Bi t f y).1.Gm=[]:=by
 have h:(Bi t f y).1.Gm=⟨⟨#[]⟩,⟨#[]⟩,0⟩:=by
  unfold Bi
  split <;> rfl
 rw [h];rfl
def Ah2 {t:Nf} {f y:Int} {l:Log} (hc:(Bi t f y).2=true) (hl:Mr l=true) (ls:ai) (j:Nat) (hr:Lm l=(Yj (Bi t f y).1 ls).take j):Gs t f y l=(l.count,true):=by
 unfold Gs;rw [hc,hl,Bool.and_self,aH rfl,hr,Yu,<-hr,cH,Azz hl]
def Aki {t:Nf} {f y:Int} (hc:(Bi t f y).2=true) (ls:ai):Lm (Nz (Bi t f y).1 ls).1.Gm=Yj (Bi t f y).1 ls:=by
 rw [Ahy ls (M3 hc),Ay8,aZ]
def Ard {t:Nf} {f y:Int} (hc:(Bi t f y).2=true) (ls:ai):Gs t f y (Nz (Bi t f y).1 ls).1.Gm=((Nz (Bi t f y).1 ls).1.Gm.count,true) :=
 Ah2 hc (Rw (Wk ls (M3 hc))) ls (Yj (Bi t f y).1 ls).length (by rw [Aki hc,bj])
def Sq (s:au):Log:=⟨bz (A1 s.data.toList).flatten,⟨#[]⟩,((A1 s.data.toList).length:Nat)⟩
def Avr (s:au):Mr (Sq s)=true:=by
 unfold Mr Sq;dsimp only;rw [Hn];exact (Lg.Uk.recovered s.data.toList).bool
def Avs (s:au):Lm (Sq s)=(A1 s.data.toList).map Lg.N6:=by
 unfold Lm Sq;dsimp only;rw [Hn];show (A1 ((A1 s.data.toList).flatten++[])).map Lg.N6=_;rw [bc,Lg.Aca]
def Aqf {l:Log} (hl:Mr l=true) (k:Nat):∃j,Lm (Sq (bz (l.Bd.data.toList++l.pending.data.toList.take k)))=(Lm l).take j:=by
 have hv:=Lg.Y3 hl;obtain ⟨j,hj⟩:=hv.crash k false;have hsp:=Lg.Ta (d:=l.Bd.data.toList) (by rw [hv.dur]) l.pending.data.toList;refine ⟨(A1 l.Bd.data.toList).length+j,?_⟩;rw [Avs,Hn];unfold Lm;rw [<-List.map_take]
 congr 1
 have hj2:A1 (l.Bd.data.toList++l.pending.data.toList.take k)=_:=hj;rw [hj2,hsp,ej,List.take_length_add_append]
def Ao8 {t:Nf} {f y:Int} (hc:(Bi t f y).2=true) (ls:ai) (k:Nat):Gs t f y (Sq (bz ((Nz (Bi t f y).1 ls).1.Gm.Bd.data.toList++(Nz (Bi t f y).1 ls).1.Gm.pending.data.toList.take k)))=((Sq (bz ((Nz (Bi t f y).1 ls).1.Gm.Bd.data.toList++(Nz (Bi t f y).1 ls).1.Gm.pending.data.toList.take k))).count,true):=by
 obtain ⟨j,hj⟩:=Aqf (Rw (Wk ls (M3 hc))) k;rw [Aki hc] at hj;exact Ah2 hc (Avr _) ls j hj
def Bdn (d p:au) (k:Nat):d++p.extract 0 k=bz (d.data.toList++p.data.toList.take k):=by
 apply Aqc.1;rw [Gp,Hn,Lib.extract_eq];simp
def Bbz (d p:au) (n:Int) (k:Nat) (FT:aq) (hv:E4 d.data.toList p.data.toList n=true) (hk:k<=p.size):FV 14 [.agg #[af d,af p,aa n],aa (k:Nat),.bool false] [Ga FT] (.tuple #[af (bz (d.data.toList++p.data.toList.take k)),.bool true]):=by
 have hz:d.size+p.size<=30000:=by unfold E4 at hv;simp only [aw,aF,Co] at hv;exact hv.1
 have hpe:=Bdn d p k;refine enter func14 rfl ntmps14 fun w0=>?_;refine go ?_;intros;refine Be (Wc d p n FT EY) fun _ _=>?_;rw [hv];refine go ?_;refine ce (fun w st=>Hw _ _ _ _) ?_;rw [show Ff 0 ((k:Nat):Int) ((p.size:Nat):Int)=true by unfold Ff;simp;omega];refine Hy ?_;intros;refine Ar [0] [] ?_;refine C4 0 1 2 3 ?_;refine dt 4 ?_;refine dt 5 ?_ (hy:=Y9 rfl rfl EY EY);refine dt 6 ?_ (hy:=Hh rfl rfl II);rw [ba,hpe];refine dN 7 ?_;refine Bia rfl rfl rfl fun g9 cap=>?_;refine dk ?_;refine dt 8 ?_;refine dd ?_;refine go ?_
 apply wO;apply oc;rfl;exact Bg1 rfl FD (Co _).symm;refine go ?_;refine ret () trivial ?_;rw [Hn];rfl
def Azq (s:au):s.extract 0 (A1 s.data.toList).flatten.length=bz (A1 s.data.toList).flatten:=by
 apply Aqc.1;rw [Hn,Lib.extract_eq];simp only [dh,fT];exact (List.prefix_iff_eq_take.1 (Ahq s.data.toList)).symm
def Atp (s:au) (FT:aq) (hs:s.size<=30000):FV 15 [af s] [Ga FT] (.tuple #[.agg #[af (Sq s).Bd,af (Sq s).pending,aa (Sq s).count],aa ((A1 s.data.toList).flatten.length:Nat),.bool true]):=by
 have hR:=U2 s EY FT;have hsm:=I8 s.data.toList;have hcut:=Azq s;have hpl:=(Ahq s.data.toList).length_le;rw [Co] at hpl;have hL:=Wh (n:=0) (xs:=A1 s.data.toList);have hE:((Kc 0 (A1 s.data.toList)).map Int.ofNat).length=(A1 s.data.toList).length+1:=by simp [Oq]
 have hL:∀h:(A1 s.data.toList).length < ((Kc 0 (A1 s.data.toList)).map Int.ofNat).length,((Kc 0 (A1 s.data.toList)).map Int.ofNat)[(A1 s.data.toList).length]=((A1 s.data.toList).flatten.length:Int):=fun h=>by
  rw [dw,Oq,dG,aE (by rw [Oq];omega)] at hL;have:=Option.some.inj hL;simp only [eK,this];simp
 have hRl:((A1 s.data.toList).map Lg.N6).length=(A1 s.data.toList).length:=FA
 have hpd:(Sq s).Bd=bz (A1 s.data.toList).flatten/\(Sq s).count=((A1 s.data.toList).length:Nat):=⟨rfl,rfl⟩;rw [hpd.1,hpd.2];clear hpd;generalize (A1 s.data.toList).map Lg.N6=R at *;generalize (Kc 0 (A1 s.data.toList)).map Int.ofNat=E at *;generalize bz (A1 s.data.toList).flatten=cut at *;generalize (A1 s.data.toList).flatten.length=T at *;generalize (A1 s.data.toList).length=K at *;replace hL:=hL EY;refine enter func15 rfl ntmps15 fun w0=>?_;refine go ?_;intros;rw [show decide ((s.size:Int) > 30000)=false from ay EY];refine go ?_;refine Be hR fun z _=>?_
 obtain ⟨⟨a,c,G⟩,⟨b,e,J⟩⟩:=z;dsimp only;refine Av (E:=Bc) (xs:=E) fun F8=>?_;refine Im (xs:=E) K ?_;rintro hi0 b0 o0 rfl;refine go ?_;rw [show ((E.length:Nat):Int) - 1=((K:Nat):Int) by omega];refine go ?_;rw [hL];refine go ?_;apply wO;apply oc;rfl;exact Y9 rfl rfl EY EY;rw [ba,hcut];refine go ?_;refine ret () trivial ?_;rw [hRl];rfl
structure CuF where
 By:ar
 a:aj
 c:Nat
 bs:aq
structure N4 where
 k:Nat
 Ha:Int
structure Hm (B:Nat) (s:N4):Prop where
 k:s.k<=B
 s0:0<=s.Ha
 s1:s.Ha < 18446744073709551616
def Hm.mono {B B':Nat} {s:N4} (h:Hm B s) (hb:B<=B'):Hm B' s:=⟨bE h.k hb,h.s0,h.s1⟩
section
variable {P:Program} {n:Nat} {fr:Fr} {H:List Pc} {ty t t':TypeId} {x y:Operand} {a b:Int}
def Atf [hS:IntC P t .u64] (hx:ev fr x=some (.int .u64 a)) (hy:ev fr y=some (.int .u64 b)):Yd P n fr H (.binOp .mul t x y t') ty (.int .u64 (IntKind.u64.wrap (a * b))):=.mk fun c w d pos Cf gd hA _=>by
 simp [execOp,hA.ev hx,hA.ev hy,eqGuard_mul,binOp_mul,Op.intArith]
def Af7 [hS:IntC P t .u64] (hx:ev fr x=some (.int .u64 a)) (hy:ev fr y=some (.int .u64 b)):Yd P n fr H (.binOp .add t x y t') ty (.int .u64 (IntKind.u64.wrap (a+b))):=.mk fun c w d pos Cf gd hA _=>by
 simp [execOp,hA.ev hx,hA.ev hy,eqGuard_add,binOp_add,Op.intArith]
def Bbv (hx:ev fr x=some (.int .u64 a)):Yd P n fr H (.binOp .shr t x (.const (.int .u64 40)) t') ty (.int .u64 (a / 1099511627776)):=.mk fun c w d pos Cf gd hA _=>by
 have e:Op.shift .shr .u64 a .u64 40=pure (.int .u64 (a / 1099511627776)):=by rw [shift_shr .u64 .u64 a 40 EZ EZ];rfl
 have e2:binOp .shr t (.int .u64 a) (.int .u64 40)=Op.shift .shr .u64 a .u64 40:=rfl;have e3:c.eval (.const (.int .u64 40))=.int .u64 40:=rfl;simp only [execOp,hA.ev hx,e3,eqGuard_shr,e2,e,Sem.run_bind,Sem.run_pure,Result.andThen_ok]
def Awp (hx:ev fr x=some (.int .u64 a)) (h0:0<=a) (h1:a < 18446744073709551616):Yd P n fr H (.binOp .and t x (.const (.int .u64 255)) t') ty (.int .u64 ((a.toNat &&& 255:Nat):Int)):=.mk fun c w d pos Cf gd hA _=>by
 have e:bits BinOp.and IntKind.u64 a 255=((a.toNat &&& 255:Nat):Int):=by
  rw [<-bits_and_u64_nat _ _ EY EY];congr 1;omega
 have e3:c.eval (.const (.int .u64 255))=.int .u64 255:=rfl;have e2:binOp .and t (.int .u64 a) (.int .u64 255)=pure (.int .u64 (bits BinOp.and IntKind.u64 a 255)):=rfl;simp only [execOp,hA.ev hx,e3,eqGuard_and,e2,e,Sem.run_bind,Sem.run_pure,Result.andThen_ok]
end
section
variable {c:Cx} {fr:Fr} {H:List Pc} {Φ:Gl}
def Bcf {a:aj} {n cp:Nat} {xs:ar} {F:aq} (i:Nat) (h:∀(hi:i < xs.length) b o,a=some ⟨b,o,none⟩->0<=xs[i]->xs[i]<=255->T c fr (.cel b (o+i * 1) [.int .u8 xs[i]]::H) Φ) (hm:.sl Jc (ab a n cp) xs F∈H:=by exact Bp) (hi:i < xs.length:=by omega):T c fr H Φ:=.mk fun ac w s g=>by
 obtain ⟨b,o,cs,G,ha,⟨rfl,h0,h1,rfl⟩, -,hb,hne,hr⟩:=Xu (s.get hm) i hi;exact (h hi b o ha h0 h1).h ac w (s.ro hm rfl rfl ⟨hne,hr⟩ GF) g
end
def Ay9 (B g:Nat) (F:CuF) (s:N4) (ok:Hm B s) (hB:B<=1000000000001) :
  Fn prog 41 [Gj g 0 0] [.sl Jc (ab F.a F.By.length F.c) F.By F.bs] [.row g 61 0 [] [ab F.a F.By.length F.c,aa (s.k:Nat),.int .u64 s.Ha] []] (fun (z:Nat × N4)=>z.1<=255/\Hm (B+1) z.2) (fun z=>aa (z.1:Nat)) (fun z=>[.row g 61 0 [] [ab F.a F.By.length F.c,aa (z.2.k:Nat),.int .u64 z.2.Ha] []]):=by
 obtain ⟨By,a,c,bs⟩:=F;obtain ⟨k,Ha⟩:=s;obtain ⟨hk,h0,h1⟩:=ok;dsimp only at hk h0 h1 ⊢;refine enter func41 rfl ntmps41 fun w0=>?_;refine Xf (E:=Jc) ?_;rintro a2 c2 ee l1 l2;cases ee;by_cases hkl:k < By.length
 ·refine Bcf (xs:=By) k ?_;rintro hi b o ee z0 z1;cases ee;generalize By[k]=z at *;refine Hy ?_;intros;refine Ar [1] [] ?_;refine C4 0 1 2 3 ?_;refine C4 4 5 6 7 ?_;refine Dh 8 9 ?_;refine dd ?_;rw [show decide ((k:Int) < (By.length:Int))=true from av EY];refine Hy ?_;intros;refine Ar [0,1] [] ?_;refine C4 0 1 2 3 ?_;refine C4 4 5 6 7 ?_;refine C4 8 9 10 11 ?_;refine dd ?_;refine go ?_;apply wO;apply oc;rfl;exact Atf rfl rfl;refine go ?_;apply wO;apply oc;rfl;exact Aiw rfl EY EY;apply wO;apply oc;rfl;exact Af7 rfl rfl;apply wO;apply oc;rfl;exact Af7 rfl rfl
  obtain ⟨sd,hsd,hd0,hd1⟩:∃sd,sd=IntKind.u64.wrap (IntKind.u64.wrap (IntKind.u64.wrap (Ha * 6364136223846793005)+z)+840840)/\0<=sd/\sd < 18446744073709551616:=⟨_,rfl,JH,JH⟩;rw [<-hsd];clear hsd
  repeat (first|apply Pg|(apply wO;apply oc;rfl;exact ydE)|(apply wO;apply Azh;rfl;rfl;rfl;(first|exact AggC.s|exact OneC.s);rfl;exact Amd;exact Azr;rfl)|apply V8|apply Zz)
  refine Hy ?_;intros;refine Ar [1] [] ?_;refine C4 0 1 2 3 ?_;refine C4 4 5 6 7 ?_;refine Dh 8 9 ?_;refine dd ?_;rw [show decide ((k:Int)+1<=(By.length:Int))=true from av EY];refine go ?_;obtain ⟨zn,rfl⟩:∃n:Nat,z=n:=⟨z.toNat,EY⟩;refine ret (zn,⟨k+1,sd⟩) ⟨by show zn<=255;omega,by show k+1<=B+1;omega,hd0,hd1⟩ rfl
 ·refine Hy ?_;intros;refine Ar [0] [] ?_;refine C4 0 1 2 3 ?_;refine C4 4 5 6 7 ?_;refine Dh 8 9 ?_;refine dd ?_;rw [show decide ((k:Int) < (By.length:Int))=false from ay EY];refine go ?_;apply wO;apply oc;rfl;exact Atf rfl rfl;refine go ?_;apply wO;apply oc;rfl;exact Aiw rfl EY EY;apply wO;apply oc;rfl;exact Af7 rfl rfl;apply wO;apply oc;rfl;exact Af7 rfl rfl
  obtain ⟨sd,hsd,hd0,hd1⟩:∃sd,sd=IntKind.u64.wrap (IntKind.u64.wrap (IntKind.u64.wrap (Ha * 6364136223846793005)+0)+840840)/\0<=sd/\sd < 18446744073709551616:=⟨_,rfl,JH,JH⟩;rw [<-hsd];clear hsd
  repeat (first|apply Pg|(apply wO;apply oc;rfl;exact ydE)|(apply wO;apply Azh;rfl;rfl;rfl;(first|exact AggC.s|exact OneC.s);rfl;exact Amd;exact Azr;rfl)|apply V8|apply Zz)
  refine Hy ?_;intros;refine Ar [0] [] ?_;refine C4 0 1 2 3 ?_;refine C4 4 5 6 7 ?_;refine Dh 8 9 ?_;refine dd ?_;rw [show decide ((k:Int)+1<=(By.length:Int))=false from ay EY];refine go ?_;apply wO;apply oc;rfl;exact Bbv rfl;apply wO;apply oc;rfl;exact Awp rfl EY EY;have hq:(sd / 1099511627776).toNat &&& 255<=255:=Nat.and_le_right;generalize (sd / 1099511627776).toNat &&& 255=q at *;refine go ?_;refine ret (q,⟨k+1,sd⟩) ⟨hq,by show k+1<=B+1;omega,hd0,hd1⟩ rfl
def Dr (B g:Nat) (F:CuF) (n:Int) (s:N4) (ok:Hm B s) (hB:B<=1000000000000) (hn:n<=1048576) :
  Fn prog 19 [Gj g 0 0,aa n] [.sl Jc (ab F.a F.By.length F.c) F.By F.bs] [.row g 61 0 [] [ab F.a F.By.length F.c,aa (s.k:Nat),.int .u64 s.Ha] []] (fun (z:Nat × N4)=>(z.1=0\/(z.1:Int) < n)/\Hm (B+2) z.2) (fun z=>aa (z.1:Nat)) (fun z=>[.row g 61 0 [] [ab F.a F.By.length F.c,aa (z.2.k:Nat),.int .u64 z.2.Ha] []]):=by
 refine enter func19 rfl ntmps19 fun w0=>?_;refine go ?_;refine Ay rfl (fun h=>?_) (fun h=>?_)
 ·refine go ?_;refine ret (0,s) ⟨.inl rfl,ok.mono EY⟩ rfl
 refine go ?_;refine Be (Ay9 B g F s ok EY) fun p hp=>?_;obtain ⟨r,s1⟩:=p;obtain ⟨hr,h1⟩:=hp;dsimp only at hr h1 ⊢;refine go ?_;refine Ay rfl (fun h2=>?_) (fun h2=>?_)
 ·refine go ?_;refine Be (Ay9 _ g F s1 h1 EY) fun p hp=>?_;obtain ⟨r2,s2⟩:=p;obtain ⟨hr2,h3⟩:=hp;dsimp only at hr2 h3 ⊢;refine go ?_;have e:=Int.emod_lt_of_pos ((r:Int) * 256+r2) (show 0 < n by omega);have e0:=Int.emod_nonneg ((r:Int) * 256+r2) (show n≠0 by omega);obtain ⟨q,hq⟩:∃q:Nat,((r:Int) * 256+r2) % n=q:=⟨(((r:Int) * 256+r2) % n).toNat,EY⟩;rw [hq] at e ⊢;refine ret (q,s2) ⟨.inr e,h3.mono EY⟩ rfl
 ·refine go ?_;have e:=Int.emod_lt_of_pos (r:Int) (show 0 < n by omega);obtain ⟨q,hq⟩:∃q:Nat,(r:Int) % n=q:=⟨((r:Int) % n).toNat,by have:=Int.emod_nonneg (r:Int) (show n≠0 by omega);omega⟩;rw [hq] at e ⊢;refine ret (q,s1) ⟨.inr e,h1.mono EY⟩ rfl
def Ab8 (B g:Nat) (F:CuF) (n:Int) (s:N4) (ok:Hm B s) (hB:B<=1000000000000) (hn:n<=1048576) :
  Fn prog 22 [Gj g 0 0,aa n] [.sl Jc (ab F.a F.By.length F.c) F.By F.bs] [.row g 61 0 [] [ab F.a F.By.length F.c,aa (s.k:Nat),.int .u64 s.Ha] []] (fun (z:Bool × N4)=>True/\Hm (B+2) z.2) (fun z=>.bool z.1) (fun z=>[.row g 61 0 [] [ab F.a F.By.length F.c,aa (z.2.k:Nat),.int .u64 z.2.Ha] []]):=by
 refine enter func22 rfl ntmps22 fun w0=>?_;refine go ?_;refine Be (Dr B g F n s ok hB hn) fun p hp=>?_;refine go ?_;refine ret (decide ((p.1:Int)=0),p.2) ⟨trivial,hp.2⟩ rfl
def Afl (B g:Nat) (F:CuF) (v:Value) (xs:ai) (G:aq) (s:N4) (ok:Hm B s) (hB:B<=1000000000000) (h0:0 < xs.length) (h1:xs.length<=1048576) :
  Fn prog 48 [Gj g 0 0,v] [.sl Jc (ab F.a F.By.length F.c) F.By F.bs,.sl A9 v xs G] [.row g 61 0 [] [ab F.a F.By.length F.c,aa (s.k:Nat),.int .u64 s.Ha] []] (fun (z:au × N4)=>z.1∈xs/\Hm (B+2) z.2) (fun z=>af z.1) (fun z=>[.row g 61 0 [] [ab F.a F.By.length F.c,aa (z.2.k:Nat),.int .u64 z.2.Ha] []]):=by
 refine enter func48 rfl ntmps48 fun w0=>?_;refine Xf (E:=A9) (v:=v) (xs:=xs) ?_;rintro a c rfl l1 l2;refine go ?_;refine Be (Dr B g F _ s ok hB EY) fun p hp=>?_;obtain ⟨r,s1⟩:=p;obtain ⟨hr,h2⟩:=hp;dsimp only at hr h2 ⊢;refine Me (xs:=xs) r ?_;rintro hi b o ee -;cases ee;refine go ?_;refine ret (xs[r],s1) ⟨aB hi,h2⟩ rfl
def Qc (B g:Nat) (F:CuF) (v:Value) (xs:ar) (G:aq) (s:N4) (ok:Hm B s) (hB:B<=1000000000000) (h0:0 < xs.length) (h1:xs.length<=1048576) :
  Fn prog 18 [Gj g 0 0,v] [.sl Jc (ab F.a F.By.length F.c) F.By F.bs,.sl Bc v xs G] [.row g 61 0 [] [ab F.a F.By.length F.c,aa (s.k:Nat),.int .u64 s.Ha] []] (fun (z:Int × N4)=>z.1∈xs/\Hm (B+2) z.2) (fun z=>aa z.1) (fun z=>[.row g 61 0 [] [ab F.a F.By.length F.c,aa (z.2.k:Nat),.int .u64 z.2.Ha] []]):=by
 refine enter func18 rfl ntmps18 fun w0=>?_;refine Xf (E:=Bc) (v:=v) (xs:=xs) ?_;rintro a c rfl l1 l2;refine go ?_;refine Be (Dr B g F _ s ok hB EY) fun p hp=>?_;obtain ⟨r,s1⟩:=p;obtain ⟨hr,h2⟩:=hp;dsimp only at hr h2 ⊢;refine Im (xs:=xs) r ?_;rintro hi b o ee;cases ee;refine go ?_;refine ret (xs[r],s1) ⟨aB hi,h2⟩ rfl
def Fn.weak {P:Program} {f:FuncId} {args:am} {A M:List Pc} {σ:Type} {C C':σ->Prop} {v:σ->Value} {N:σ->List Pc} (h:Fn P f args A M C v N) (hC:∀s,C s->C' s):Fn P f args A M C' v N:=fun w h1 h2=>(h w h1 h2).mono fun _ _ ⟨s,hc,r⟩=>⟨s,hC s hc,r⟩
def Mu (w:World):∀xs:ar,Cw Bc w (xs.map (Value.int .i64)) xs []
 | []=>⟨rfl,rfl⟩
 | x::r=>⟨[.int .i64 x],r.map (Value.int .i64),[],[],rfl,rfl,⟨rfl,rfl⟩,Mu w r⟩
def Q3 (w:World):∀xs:ai,(∀x∈xs,x.size<=maxLen)->Cw A9 w (xs.map Value.string) xs []
 | [],_=>⟨rfl,rfl⟩
 | x::r,h=>⟨[.string x],r.map Value.string,[],[],rfl,rfl,⟨rfl,h x FA,rfl⟩,Q3 w r fun y hy=>h y KT⟩
def Ud (B g:Nat) (F:CuF) (s:N4) (ok:Hm B s) (hB:B<=900000000000) :
  Fn prog 40 [Gj g 0 0] [.sl Jc (ab F.a F.By.length F.c) F.By F.bs] [.row g 61 0 [] [ab F.a F.By.length F.c,aa (s.k:Nat),.int .u64 s.Ha] []] (fun (z:Int × N4)=>(0<=z.1/\z.1<=65535)/\Hm (B+4) z.2) (fun z=>aa z.1) (fun z=>[.row g 61 0 [] [ab F.a F.By.length F.c,aa (z.2.k:Nat),.int .u64 z.2.Ha] []]):=by
 refine enter func40 rfl ntmps40 fun w0=>?_;refine Hy ?_;intros;refine Dy (xs:=[0,1,100,32767,32768,65535,65530,4660]) (fun w=>Mu w _) ?_ EZ;refine Av (E:=Bc) fun G=>?_;refine go ?_;refine Be (Qc B g F _ [0,1,100,32767,32768,65535,65530,4660] G s ok EY EZ EZ) fun z hz=>?_;obtain ⟨hz1,hz2⟩:=hz;have hz3:0<=z.1/\z.1<=65535:=by simp only [aG,aT,bn] at hz1;omega
 refine go ?_;refine Be (Dr (B+2) g F 12 z.2 hz2 EY EY) fun y hy=>?_;obtain ⟨hy1,hy2⟩:=hy;refine go ?_;refine ce (fun w s=>Id _ _ _ EY EY) ?_;refine go ?_;refine ret (_,y.2) ⟨Jk _ _,hy2⟩ rfl
def We (B g:Nat) (F:CuF) (s:N4) (ok:Hm B s) (hB:B<=890000000000) :
  Fn prog 17 [Gj g 0 0] [.sl Jc (ab F.a F.By.length F.c) F.By F.bs] [.row g 61 0 [] [ab F.a F.By.length F.c,aa (s.k:Nat),.int .u64 s.Ha] []] (fun (z:Int × N4)=>(-1<=z.1/\z.1<=65536)/\Hm (B+6) z.2) (fun z=>aa z.1) (fun z=>[.row g 61 0 [] [ab F.a F.By.length F.c,aa (z.2.k:Nat),.int .u64 z.2.Ha] []]):=by
 refine enter func17 rfl ntmps17 fun w0=>?_;refine go ?_;refine Be (Ab8 B g F 20 s ok EY EY) fun q hq=>?_;obtain ⟨b,s1⟩:=q;obtain ⟨-,hq⟩:=hq;cases b
 ·refine go ?_;refine Be (Ud (B+2) g F s1 hq EY) fun z hz=>?_;refine go ?_;refine ret z ⟨by have:=hz.1;omega,hz.2⟩ rfl
 ·refine Hy ?_;intros;refine Dy (xs:=[-1,65536,65535]) (fun w=>Mu w _) ?_ EZ;refine Av (E:=Bc) fun G=>?_;refine go ?_;refine Be (Qc (B+2) g F _ [-1,65536,65535] G s1 hq EY EZ EZ) fun z hz=>?_;refine go ?_;refine ret z ⟨by have:=hz.1;simp only [aG,aT,bn] at this;omega,hz.2.mono EY⟩ rfl
def Ul (B g:Nat) (F:CuF) (s:N4) (ok:Hm B s) (hB:B<=890000000000) :
  Fn prog 17 [Gj g 0 0] [.sl Jc (ab F.a F.By.length F.c) F.By F.bs] [.row g 61 0 [] [ab F.a F.By.length F.c,aa (s.k:Nat),.int .u64 s.Ha] []] (fun (z:Int × N4)=>Hm (B+6) z.2) (fun z=>aa z.1) (fun z=>[.row g 61 0 [] [ab F.a F.By.length F.c,aa (z.2.k:Nat),.int .u64 z.2.Ha] []]):=(We B g F s ok hB).weak fun _ h=>h.2
structure LeS where
 r:Nat
 t:au
 s:N4
structure Biz (B r0:Nat) (z:LeS):Prop where
 r:z.r<=r0
 s:Hm (B+2+2 * (r0 - z.r)) z.s
 t:z.t.size<=r0 - z.r
 l:U0 z.t.data.toList=true
def Tq (B g:Nat) (F:CuF) (s:N4) (n:Int) (ok:Hm B s) (hB:B<=900000000000) (h0:0<=n) (h8:n<=20) :
  Fn prog 85 [Gj g 0 0,aa n] [.sl Jc (ab F.a F.By.length F.c) F.By F.bs] [.row g 61 0 [] [ab F.a F.By.length F.c,aa (s.k:Nat),.int .u64 s.Ha] []] (fun (z:au × N4)=>(z.1.size<=20/\(z.1.size:Int)<=n/\U0 z.1.data.toList=true)/\Hm (B+42) z.2) (fun z=>af z.1) (fun z=>[.row g 61 0 [] [ab F.a F.By.length F.c,aa (z.2.k:Nat),.int .u64 z.2.Ha] []]):=by
 refine enter func85 rfl ntmps85 fun w0=>?_;refine go ?_;refine Be (Dr B g F (n+1) s ok EY EY) fun y hy=>?_;obtain ⟨r0,s1⟩:=y;obtain ⟨hy1,hy2⟩:=hy;dsimp only at hy1 hy2 ⊢;have hr0:r0<=20:=EY
 refine go ?_;refine Ca [0,4] (fun z:LeS=>[(5,af z.t),(6,aa (z.r:Nat))]) (fun z=>[.row g 61 0 [] [ab F.a F.By.length F.c,aa (z.s.k:Nat),.int .u64 z.s.Ha] []]) (Biz B r0) (fun z=>z.r) ⟨r0,⟨#[]⟩,s1⟩ ⟨aK _,by simpa using hy2,aD _,rfl⟩ fun z hz=>?_;obtain ⟨z1,z2,z3,z4⟩:=hz;refine go ?_;refine Ay rfl (fun h3=>?_) (fun h3=>?_)
 ·refine Hy ?_;intros;refine Dy (xs:=[⟨#[97]⟩,⟨#[98]⟩,⟨#[99]⟩,⟨#[120]⟩,⟨#[122]⟩]) (fun w=>Q3 w _ EZ) ?_ EZ;refine Av (E:=A9) fun G=>?_;refine go ?_;refine Be (Afl _ g F _ [⟨#[97]⟩,⟨#[98]⟩,⟨#[99]⟩,⟨#[120]⟩,⟨#[122]⟩] G z.s z2 EY EZ EZ) fun q hq=>?_;have hq1:q.1.size=1/\U0 q.1.data.toList=true:=by
   have:=hq.1;simp only [aG,aT,bn] at this;rcases this with e|e|e|e|e <;> rw [e] <;> exact ⟨rfl,rfl⟩
  refine go ?_;rw [show ((z.r:Nat):Int) - 1=((z.r - 1:Nat):Int) by omega];refine Ce ⟨z.r - 1,z.t++q.1,q.2⟩ ⟨by show z.r - 1<=r0;omega,hq.2.mono (by show _<=B+2+2 * (r0 - (z.r - 1));omega),by show (z.t++q.1).size<=r0 - (z.r - 1);rw [aN];omega,by show U0 (z.t++q.1).data.toList=true;rw [dp,Array.toList_append];unfold U0 at *;rw [dY,z4,hq1.2];rfl⟩ (by show z.r - 1 < _;omega)
 ·refine go ?_;refine ret (z.t,z.s) ⟨⟨by show z.t.size<=20;omega,by show (z.t.size:Int)<=n;omega,z4⟩,z2.mono EY⟩ rfl
def Bas (B g:Nat) (F:CuF) (s:N4) (t u:au) (ok:Hm B s) (hB:B<=800000000000) (ht:t.size<=100000) (h1:1<=u.size) (h2:u.size<=1000) :
  Fn prog 111 [Gj g 0 0,af t,af u] [.sl Jc (ab F.a F.By.length F.c) F.By F.bs] [.row g 61 0 [] [ab F.a F.By.length F.c,aa (s.k:Nat),.int .u64 s.Ha] []] (fun (z:au × N4)=>z.1.size<=t.size+1/\Hm (B+6) z.2) (fun z=>af z.1) (fun z=>[.row g 61 0 [] [ab F.a F.By.length F.c,aa (z.2.k:Nat),.int .u64 z.2.Ha] []]):=by
 refine enter func111 rfl ntmps111 fun w0=>?_;refine go ?_;by_cases e0:t=⟨#[]⟩
 ·rw [av e0];refine go ?_;apply wO;apply oc;rfl;exact Y9 rfl rfl EY EY;have hx0:(u.extract 0 (1:Int).toNat).size<=1:=II
  refine go ?_;refine ret (u.extract 0 (1:Int).toNat,s) ⟨HX,ok.mono EY⟩ rfl
 have e1:0 < t.size:=by
  rcases co t.size with h0|h0
  ·exact absurd (by apply fz;exact eY h0) e0
  ·exact h0
 rw [ay e0];refine go ?_;refine Be (Dr B g F (t.size:Int) s ok EY EY) fun q1 hq1=>?_;obtain ⟨hi,hq1⟩:=hq1;have hi2:q1.1 < t.size:=EY
 refine go ?_;refine Be (Dr (B+2) g F (u.size:Int) q1.2 hq1 EY EY) fun q2 hq2=>?_;obtain ⟨hj,hq2⟩:=hq2;have hj2:q2.1 < u.size:=EY
 refine go ?_;apply wO;apply oc;rfl;exact Xk rfl rfl EY EY;have hxs:1<=(u.extract (q2.1:Int).toNat u.size).size:=FF
 refine go ?_;apply wO;apply oc;rfl;exact Y9 rfl rfl EY EY;have hxl:((u.extract (q2.1:Int).toNat u.size).extract 0 (1:Int).toNat).size<=1:=FF
 generalize (u.extract (q2.1:Int).toNat u.size).extract 0 (1:Int).toNat=x at *;have ha:(t.extract 0 (q1.1:Int).toNat).size<=q1.1:=II
 have hb:(t.extract (q1.1:Int).toNat t.size).size<=t.size - q1.1:=II
 have hc:(t.extract ((q1.1:Int)+1).toNat t.size).size<=t.size - (q1.1+1):=II
 have hax:=aN (a:=t.extract 0 (q1.1:Int).toNat) (b:=x);refine go ?_;refine Be (Dr (B+2+2) g F 3 q2.2 hq2 EY EY) fun q3 hq3=>?_;obtain ⟨hm,hq3⟩:=hq3;refine go ?_;by_cases h3:(q3.1:Int)=0
 ·rw [av h3];refine go ?_;refine Ar [] [] ?_;refine Dh 0 1 ?_;refine dt 2 ?_ (hy:=Y9 rfl rfl EY EY);refine C4 3 4 5 6 ?_;refine dt 7 ?_ (hy:=Xk rfl rfl EY EY);refine Dh 8 9 ?_;refine dd ?_;refine go ?_;refine ret (t.extract 0 (q1.1:Int).toNat++x++t.extract (q1.1:Int).toNat t.size,q3.2) ⟨by simp only [aN];omega,hq3⟩ rfl
 rw [ay h3];refine go ?_;by_cases h4:(q3.1:Int)=1
 ·rw [av h4];refine go ?_;refine Ar [] [] ?_;refine Dh 0 1 ?_;refine dt 2 ?_ (hy:=Y9 rfl rfl EY EY);refine C4 3 4 5 6 ?_;refine dt 7 ?_;refine dt 8 ?_ (hy:=Xk rfl rfl EY EY);refine Dh 9 10 ?_;refine dd ?_;refine go ?_;refine ret (t.extract 0 (q1.1:Int).toNat++x++t.extract ((q1.1:Int)+1).toNat t.size,q3.2) ⟨by simp only [aN];omega,hq3⟩ rfl
 ·rw [ay h4];refine go ?_;refine Ar [] [] ?_;refine Dh 0 1 ?_;refine dt 2 ?_ (hy:=Y9 rfl rfl EY EY);refine Dh 3 4 ?_;refine dt 5 ?_;refine dt 6 ?_ (hy:=Xk rfl rfl EY EY);refine Dh 7 8 ?_;refine dd ?_;refine go ?_;refine ret (t.extract 0 (q1.1:Int).toNat++t.extract ((q1.1:Int)+1).toNat t.size,q3.2) ⟨by simp only [aN];omega,hq3⟩ rfl
def Fn.map {P:Program} {f:FuncId} {args:am} {A M:List Pc} {σ τ:Type} {C:σ->Prop} {C':τ->Prop} {v:σ->Value} {v':τ->Value} {N:σ->List Pc} {N':τ->List Pc} (h:Fn P f args A M C v N) (m:σ->τ) (hC:∀s,C s->C' (m s)) (hv:∀s,v s=v' (m s)) (hN:∀s,N s=N' (m s)):Fn P f args A M C' v' N':=fun w hH hs=>by
 refine (h w hH hs).mono ?_;rintro e w' ⟨s,h1,h2,h3,h4,h5,h6⟩;exact ⟨m s,hC s h1,by rw [<-hv];exact h2,by rw [<-hN];exact h3,by rw [<-hN];exact h4,h5,by rw [<-hN];exact h6⟩
def Y4 {d p:au} {k:Int} (h:E4 d.data.toList p.data.toList k=true):d.size+p.size<=30000:=by
 unfold E4 at h;simp only [aw,aF,Co] at h;exact h.1
def Bf8:madeCells (Value.int .u8 0).cells (3 * 1)=([.int .u8 0,.int .u8 0,.int .u8 0]:am).toArray:=by
 apply fO;rw [madeCells,Array.toList_map,Array.toList_range];rfl
def Bdw {c r:au} (h:Lg.Bw c r=true):c.size<=160/\r.size<=200:=by
 unfold Lg.Bw Ff at h;simp only [aw,aF] at h;omega
def Aie (d p c r:au) (k:Int) (hv:E4 d.data.toList p.data.toList k=true) (hc:c.size<=maxLen) (hr:r.size<=maxLen):Fn prog 23 [.agg #[af d,af p,aa k],.agg #[af c,af r]] [] [] (fun (z:au × Int × Int)=>E4 d.data.toList z.1.data.toList z.2.1=true) (fun z=>.tuple #[.agg #[af d,af z.1,aa z.2.1],aa z.2.2]) (fun _=>[]):=by
 obtain ⟨k0,k60⟩:=Lg.Uv hv;have hz:=Y4 hv;cases hg:Lg.Bw c r
 ·refine enter func23 rfl ntmps23 fun w0=>?_;refine go ?_;intros;refine Be (T5 d p k EY) fun _ _=>?_;rw [hv];refine go ?_;refine cb (fun w st=>Lg.To c r w hc hr) ?_;rw [hg];refine go ?_;refine ret (p,k,1) hv rfl
 by_cases hk:k=60
 ·refine enter func23 rfl ntmps23 fun w0=>?_;refine go ?_;intros;refine Be (T5 d p k EY) fun _ _=>?_;rw [hv];refine go ?_;refine cb (fun w st=>Lg.To c r w hc hr) ?_;rw [hg];refine go ?_;refine Ay rfl (fun h3=>?_) (fun h3=>?_)
  ·refine go ?_;refine ret (p,k,2) hv rfl
  ·exact absurd hk h3
 obtain ⟨n,rfl⟩:∃n:Nat,k=n:=⟨k.toNat,EY⟩;obtain ⟨hs1,hs2⟩:=Bdw hg;exact (Ak1 d p c r n hv EY hg hz hs1 hs2).map (fun _=>(p++Lg.bs (Kl n c.data.toList r.data.toList),(n:Int)+1,0)) (fun _ _=>(Ahi (l:=⟨d,p,n⟩) hv hk hg).1) (fun _=>rfl) (fun _=>rfl)
def Arp (d p:au) (k:Int) (hv:E4 d.data.toList p.data.toList k=true):FV 178 [.agg #[af d,af p,aa k]] [] (.tuple #[.agg #[af (d++p),af ⟨#[]⟩,aa k],.bool true]):=by
 have hz:=Y4 hv;refine enter func178 rfl ntmps178 fun w0=>?_;refine go ?_;intros;refine Be (T5 d p k EY) fun _ _=>?_;rw [hv];exact AA
def Aey (B g:Nat) (F:CuF) (s:N4) (ok:Hm B s) (hB:B<=700000000000) :
  Fn prog 24 [Gj g 0 0] [.sl Jc (ab F.a F.By.length F.c) F.By F.bs] [.row g 61 0 [] [ab F.a F.By.length F.c,aa (s.k:Nat),.int .u64 s.Ha] []] (fun (z:(au × au) × N4)=>z.1.1.size<=20/\z.1.2.size<=20/\Hm (B+20) z.2) (fun z=>.agg #[af z.1.1,af z.1.2]) (fun z=>[.row g 61 0 [] [ab F.a F.By.length F.c,aa (z.2.k:Nat),.int .u64 z.2.Ha] []]):=by
 refine enter func24 rfl ntmps24 fun w0=>?_;refine Hy ?_;intros;refine Dy (xs:=[⟨#[99,111,117,110,116]⟩,⟨#[115,111,114,116,32,109,101,114,103,101]⟩,⟨#[120]⟩,⟨#[115,101,108,101,99,116,32,50]⟩,⟨#[48,32,49]⟩]) (fun w=>Q3 w _ EZ) ?_ EZ;refine Av (E:=A9) fun G2=>?_;refine go ?_;refine Be (Afl _ g F _ [⟨#[99,111,117,110,116]⟩,⟨#[115,111,114,116,32,109,101,114,103,101]⟩,⟨#[120]⟩,⟨#[115,101,108,101,99,116,32,50]⟩,⟨#[48,32,49]⟩] _ s ok EY EZ EZ) fun q hq=>?_;obtain ⟨u1,s1⟩:=q;obtain ⟨hq,h1⟩:=hq;dsimp only at hq h1 ⊢
 have zu1:u1.size<=20:=(by decide:∀y∈([⟨#[99,111,117,110,116]⟩,⟨#[115,111,114,116,32,109,101,114,103,101]⟩,⟨#[120]⟩,⟨#[115,101,108,101,99,116,32,50]⟩,⟨#[48,32,49]⟩]:ai),y.size<=20) u1 hq;clear hq;refine Hy ?_;intros;refine Dy (xs:=[⟨#[]⟩,⟨#[51]⟩,⟨#[63]⟩,⟨#[97,64,98]⟩,⟨#[51,32,49,32,50]⟩]) (fun w=>Q3 w _ EZ) ?_ EZ;refine Av (E:=A9) fun G2=>?_;refine go ?_;refine Be (Afl _ g F _ [⟨#[]⟩,⟨#[51]⟩,⟨#[63]⟩,⟨#[97,64,98]⟩,⟨#[51,32,49,32,50]⟩] _ s1 h1 EY EZ EZ) fun q hq=>?_;obtain ⟨u2,s2⟩:=q;obtain ⟨hq,h2⟩:=hq;dsimp only at hq h2 ⊢
 have zu2:u2.size<=20:=(by decide:∀y∈([⟨#[]⟩,⟨#[51]⟩,⟨#[63]⟩,⟨#[97,64,98]⟩,⟨#[51,32,49,32,50]⟩]:ai),y.size<=20) u2 hq;clear hq;refine go ?_;intros;refine Be (Dr _ g F 24 s2 h2 EY EY) fun y hy=>?_;obtain ⟨k3,s3⟩:=y;obtain ⟨rk3,h3⟩:=hy;dsimp only at rk3 h3 ⊢;refine go ?_;refine Ay rfl (fun e0=>?_) (fun e0=>?_)
 ·refine go ?_;apply wO;refine Aho (cs:=[.int .u8 0,.int .u8 0,.int .u8 0]) 3 rfl rfl rfl Bf8 EZ EZ fun g9=>?_;apply wO;apply oc;rfl;exact Bg0 (l:=[0,0,0]) (t:=5) rfl FD rfl;refine Hy ?_;intros;refine Dy (xs:=[⟨#[]⟩,⟨#[97,64,98]⟩,⟨#[97,35]⟩,⟨#[10]⟩,⟨#[0,0,0]⟩]) (fun w=>Q3 w _ EZ) ?_ EZ;refine Av (E:=A9) fun G2=>?_;refine go ?_;refine Be (Afl _ g F _ [⟨#[]⟩,⟨#[97,64,98]⟩,⟨#[97,35]⟩,⟨#[10]⟩,⟨#[0,0,0]⟩] _ s3 h3 EY EZ EZ) fun q hq=>?_;obtain ⟨u3,s4⟩:=q;obtain ⟨hq,h4⟩:=hq;dsimp only at hq h4 ⊢
  have zu3:u3.size<=20:=(by decide:∀y∈([⟨#[]⟩,⟨#[97,64,98]⟩,⟨#[97,35]⟩,⟨#[10]⟩,⟨#[0,0,0]⟩]:ai),y.size<=20) u3 hq;clear hq;refine go ?_;refine ret ((u3,u2),s4) ⟨zu3,zu2,h4.mono EY⟩ rfl
 refine go ?_;refine Ay rfl (fun e1=>?_) (fun e1=>?_)
 ·
  refine Hy ?_;intros;refine Dy (xs:=[⟨#[35]⟩,⟨#[10]⟩,⟨#[127]⟩]) (fun w=>Q3 w _ EZ) ?_ EZ;refine Av (E:=A9) fun G2=>?_;refine go ?_;refine Be (Afl _ g F _ [⟨#[35]⟩,⟨#[10]⟩,⟨#[127]⟩] _ s3 h3 EY EZ EZ) fun q hq=>?_;obtain ⟨u3,s4⟩:=q;obtain ⟨hq,h4⟩:=hq;dsimp only at hq h4 ⊢;have zu3:u3.size<=20:=(by decide:∀y∈([⟨#[35]⟩,⟨#[10]⟩,⟨#[127]⟩]:ai),y.size<=20) u3 hq;clear hq;refine go ?_;refine ret ((u1,u3),s4) ⟨zu1,zu3,h4.mono EY⟩ rfl
 ·refine go ?_;refine ret ((u1,u2),s3) ⟨zu1,zu2,h3.mono EY⟩ rfl
structure LgD where
 l:Log
 i:Nat
 s:N4
structure Bi0 (B:Nat) (z:LgD):Prop where
 v:E4 z.l.Bd.data.toList z.l.pending.data.toList z.l.count=true
 i:z.i<=6
 s:Hm (B+20+30 * (6 - z.i)) z.s
def Art {d p:au} {k:Int} (h:E4 d.data.toList p.data.toList k=true):E4 (d++p).data.toList (⟨#[]⟩:au).data.toList k=true:=by
 rw [Gp];exact (Lg.Y3 h).sync.bool
def Bh3 (B g:Nat) (F:CuF) (s:N4) (ok:Hm B s) (hB:B<=600000000000) :
  Fn prog 110 [Gj g 0 0] [.sl Jc (ab F.a F.By.length F.c) F.By F.bs] [.row g 61 0 [] [ab F.a F.By.length F.c,aa (s.k:Nat),.int .u64 s.Ha] []] (fun (z:LgD)=>E4 z.l.Bd.data.toList z.l.pending.data.toList z.l.count=true/\Hm (B+300) z.s) (fun z=>.agg #[af z.l.Bd,af z.l.pending,aa z.l.count]) (fun z=>[.row g 61 0 [] [ab F.a F.By.length F.c,aa (z.s.k:Nat),.int .u64 z.s.Ha] []]):=by
 refine enter func110 rfl ntmps110 fun w0=>?_;refine go ?_;intros;rename_i g2 g3;refine Be (Dr _ g F 7 s ok EY EY) fun y hy=>?_;obtain ⟨r0,s1⟩:=y;obtain ⟨rr0,h1⟩:=hy;dsimp only at rr0 h1 ⊢;refine go ?_
 refine Ca [0,2,3] (fun z:LgD=>[(4,aa (z.i:Nat))]) (fun z=>[.row g3 28 0 [] [af z.l.Bd,af z.l.pending,aa z.l.count] [],.row g 61 0 [] [ab F.a F.By.length F.c,aa (z.s.k:Nat),.int .u64 z.s.Ha] []]) (Bi0 B) (fun z=>z.i) ⟨⟨⟨#[]⟩,⟨#[]⟩,0⟩,r0,s1⟩ ⟨by show E4 [] [] 0=true;decide,by show r0<=6;omega,h1.mono (by show _<=B+20+30 * (6 - r0);omega)⟩ fun z hz=>?_;obtain ⟨z1,z2,z3⟩:=hz;refine go ?_;refine Ay rfl (fun h3=>?_) (fun h3=>?_)
 ·have hi0:0 < z.i:=EY
  refine Hy ?_;intros;refine Ar [0] [4,5,6,7] ?_;refine Ze 0 ?_;refine Ze 1 ?_;refine dN 2 ?_;refine oC ?_;refine Be (Aey _ g F z.s z3 EY) fun p hp=>?_;obtain ⟨⟨c,r⟩,s5⟩:=p;obtain ⟨hc5,hr5,h5⟩:=hp;dsimp only at hc5 hr5 h5 ⊢;refine dk ?_;refine dN 3 ?_;refine oC ?_;refine Be (Aie z.l.Bd z.l.pending c r z.l.count z1 FE FE) fun p hp=>?_;obtain ⟨p6,k6,e6⟩:=p;dsimp only at hp ⊢;refine dk ?_;refine P0 4 ?_;refine P0 5 ?_;refine P0 6 ?_;refine dN 7 ?_;refine oS ?_;refine Nm ?_;refine dd ?_;refine go ?_
  refine Be (Ab8 _ g F 4 s5 h5 EY EY) fun p hp=>?_;obtain ⟨b,s7⟩:=p;obtain ⟨-,h7⟩:=hp;dsimp only at h7 ⊢;refine go ?_;cases b
  ·refine go ?_;rw [show ((z.i:Nat):Int) - 1=((z.i - 1:Nat):Int) by omega];refine Ce ⟨⟨z.l.Bd,p6,k6⟩,z.i - 1,s7⟩ ⟨hp,by show z.i - 1<=6;omega,h7.mono (by show _<=B+20+30 * (6 - (z.i - 1));omega)⟩ GO
  ·refine go ?_;refine Be (Arp z.l.Bd p6 k6 hp) fun _ _=>?_;refine go ?_;rw [show ((z.i:Nat):Int) - 1=((z.i - 1:Nat):Int) by omega];refine Ce ⟨⟨z.l.Bd++p6,⟨#[]⟩,k6⟩,z.i - 1,s7⟩ ⟨Art hp,by show z.i - 1<=6;omega,h7.mono (by show _<=B+20+30 * (6 - (z.i - 1));omega)⟩ GO
 refine go ?_;refine ret z ⟨z1,z3.mono EY⟩ rfl
def Axm (B g:Nat) (F:CuF) (s:N4) (ok:Hm B s) (hB:B<=500000000000) :
  Fn prog 57 [Gj g 0 0] [.sl Jc (ab F.a F.By.length F.c) F.By F.bs] [.row g 61 0 [] [ab F.a F.By.length F.c,aa (s.k:Nat),.int .u64 s.Ha] []] (fun (z:LgD)=>z.l.Bd.size+z.l.pending.size<=70000/\Hm (B+400) z.s) (fun z=>.agg #[af z.l.Bd,af z.l.pending,aa z.l.count]) (fun z=>[.row g 61 0 [] [ab F.a F.By.length F.c,aa (z.s.k:Nat),.int .u64 z.s.Ha] []]):=by
 refine enter func57 rfl ntmps57 fun w0=>?_;refine go ?_;intros;rename_i g2;refine Be (Bh3 _ g F s ok EY) fun z hz=>?_;obtain ⟨⟨d,p,k⟩,i0,s1⟩:=z;obtain ⟨hv,h1⟩:=hz;dsimp only at hv h1 ⊢;obtain ⟨k0,k60⟩:=Lg.Uv hv;have hz:=Y4 hv;refine go ?_;intros;refine Be (Dr _ g F 24 s1 h1 EY EY) fun y hy=>?_;obtain ⟨k1,s2⟩:=y;obtain ⟨rk1,h2⟩:=hy;dsimp only at rk1 h2 ⊢;refine go ?_;refine Ay rfl (fun e0=>?_) (fun e0=>?_)
 ·refine go ?_;refine ret ⟨⟨d,p,k+1⟩,0,s2⟩ ⟨by show d.size+p.size<=_;omega,h2.mono EY⟩ rfl
 refine go ?_;refine Ay rfl (fun e1=>?_) (fun e1=>?_)
 ·refine go ?_;refine Be (Bas _ g F s2 p ⟨#[35,64,10,48,49]⟩ h2 EY EY EZ EZ) fun q hq=>?_;obtain ⟨u,s3⟩:=q;obtain ⟨hu,h3⟩:=hq;dsimp only at hu h3 ⊢;refine go ?_;refine ret ⟨⟨d,u,k⟩,0,s3⟩ ⟨by show d.size+u.size<=_;omega,h3.mono EY⟩ rfl
 refine go ?_;refine Ay rfl (fun e2=>?_) (fun e2=>?_)
 ·refine go ?_;refine ret ⟨⟨d++p,p,k⟩,0,s2⟩ ⟨by show (d++p).size+p.size<=_;rw [aN];omega,h2.mono EY⟩ rfl
 ·refine go ?_;refine ret ⟨⟨d,p,k⟩,0,s2⟩ ⟨by show d.size+p.size<=_;omega,h2.mono EY⟩ rfl
structure TrD where
 l:ar
 a:aj
 c:Nat
 F:aq
 i:Nat
 s:N4
structure Bjb (B:Nat) (z:TrD):Prop where
 g:Px z.l
 l:z.l.length+z.i<=8
 i:z.i<=6
 s:Hm (B+10+10 * (6 - z.i)) z.s
def Amr (B g:Nat) (F:CuF) (s:N4) (ok:Hm B s) (hB:B<=800000000000) :
  Fn prog 39 [Gj g 0 0] [.sl Jc (ab F.a F.By.length F.c) F.By F.bs] [.row g 61 0 [] [ab F.a F.By.length F.c,aa (s.k:Nat),.int .u64 s.Ha] []] (fun (z:TrD)=>Px z.l/\Hm (B+100) z.s) (fun z=>.agg #[ab z.a z.l.length z.c])
   (fun z=>[.ow Bc 3 (ab z.a z.l.length z.c) z.l z.F,.row g 61 0 [] [ab F.a F.By.length F.c,aa (z.s.k:Nat),.int .u64 z.s.Ha] []]):=by
 refine enter func39 rfl ntmps39 fun w0=>?_;refine Hy ?_;intros;refine Dy (xs:=[-1,0]) (fun w=>Mu w _) ?_ EZ;refine go ?_;rename_i g2 g5 g3;refine Be (Dr _ g F 7 s ok EY EY) fun y hy=>?_;obtain ⟨r0,s2⟩:=y;obtain ⟨hr0,h2⟩:=hy;dsimp only at hr0 h2 ⊢;have hr0:r0<=6:=EY
 refine go ?_;refine Ca [0,2,3] (fun z:TrD=>[(4,aa (z.i:Nat))]) (fun z=>[.row g3 26 0 [] [ab z.a z.l.length z.c] [],.ow Bc 3 (ab z.a z.l.length z.c) z.l z.F,.row g 61 0 [] [ab F.a F.By.length F.c,aa (z.s.k:Nat),.int .u64 z.s.Ha] []]) (Bjb B) (fun z=>z.i) ⟨[-1,0],some ⟨g5,0,none⟩,2,_,r0,s2⟩ ⟨Aue,by show 2+r0<=8;omega,hr0,h2.mono (by show _<=B+10+10 * (6 - r0);omega)⟩ fun z hz=>?_;obtain ⟨z1,z2,z3,z4⟩:=hz;have hn0:=z1.n0;refine go ?_;refine Ay rfl (fun h3=>?_) (fun h3=>?_)
 ·have hi0:0 < z.i:=EY
  refine Hy ?_;intros;refine Ar [0] [10] ?_;refine C4 0 1 2 3 ?_;refine Dh 4 5 ?_;refine dN 6 ?_;refine oC ?_;refine Be (Dr _ g F z.l.length z.s z4 EY EY) fun y hy=>?_;obtain ⟨k5,s5⟩:=y;obtain ⟨r5,h5⟩:=hy;dsimp only at r5 h5 ⊢;have r5:k5 < z.l.length:=EY
  refine dk ?_;refine dN 7 ?_;apply I1;rfl;rfl;rfl;rfl;exact Iy;exact Ir;intro _;refine dk ?_;refine dN 8 ?_;refine N9 (O3 _) C7 fun a9 c9 F9=>?_;refine dk ?_;refine dt 9 ?_;refine dN 10 ?_;refine oS ?_;refine Nm ?_;refine dd ?_;refine go ?_;rw [show ((z.i:Nat):Int) - 1=((z.i - 1:Nat):Int) by omega];refine Ce ⟨z.l++[(k5:Int)],a9,c9,F9,z.i - 1,s5⟩ ⟨Aqr z1 EY r5,by show (z.l++[_]).length+(z.i - 1)<=8;simp;omega,by show z.i - 1<=6;omega,h5.mono (by show _<=B+10+10 * (6 - (z.i - 1));omega)⟩ GO
 ·refine go ?_;refine ret z ⟨z1,z4.mono EY⟩ rfl
def Aj2 {k n t l:Int} {s:au} (hk:1<=k/\k<=5) (hn:Cd n=true) (ht:Cd t=true) (hl:Cd l=true) (hg:gp t l<=32767) (hs:P9 s=true) (he:s=⟨#[]⟩\/k<=2):Br ⟨k,n,t,l,s⟩=true:=by
 unfold Br Ff;simp only [aw,bX,aF];refine ⟨⟨⟨⟨⟨⟨hk,hn⟩,ht⟩,hl⟩,hs⟩,hg⟩,?_⟩;rcases he with h|h
 ·exact .inl (.inl h)
 ·by_cases h1:k=1
  ·exact .inl (.inr h1)
  ·exact .inr EY
def Aqu {s:au} (h:(s.size:Int)<=8) (h2:U0 s.data.toList=true):P9 s=true:=by unfold P9;rw [av h,h2];rfl
def Auc {p:As} (h:Br p=true):0<=p.Am/\p.Am<=65535/\p.data.size<=maxLen:=by
 unfold Br P9 at h;simp only [aw,aF] at h;obtain ⟨t0,t1⟩:=Ba.1 h.1.1.1.1.2;exact ⟨t0,t1,FE⟩
def Avp (B g:Nat) (F:CuF) (s:N4) (ok:Hm B s) (hB:B<=800000000000) :
  Fn prog 175 [Gj g 0 0] [.sl Jc (ab F.a F.By.length F.c) F.By F.bs] [.row g 61 0 [] [ab F.a F.By.length F.c,aa (s.k:Nat),.int .u64 s.Ha] []] (fun (z:As × N4)=>Br z.1=true/\Hm (B+60) z.2) (fun s=>.agg #[aa s.1.Ct,aa s.1.Ae,aa s.1.Am,aa s.1.Es,af s.1.data]) (fun s=>[.row g 61 0 [] [ab F.a F.By.length F.c,aa (s.2.k:Nat),.int .u64 s.2.Ha] []]):=by
 refine enter func175 rfl ntmps175 fun w0=>?_;refine go ?_;intros;refine Be (Ud B g F s ok EY) fun n hn=>?_;obtain ⟨hn1,hn2⟩:=hn;refine go ?_;refine Be (Dr (B+4) g F 5 n.2 hn2 EY EY) fun y1 hy1=>?_;obtain ⟨hy1,hy2⟩:=hy1;have hr1:y1.1<=4:=EY
 refine go ?_;refine Be (Dr _ g F 9 y1.2 hy2 EY EY) fun y3 hy3=>?_;obtain ⟨hy3,hy4⟩:=hy3;refine go ?_;refine ce (fun w s=>Id _ _ _ EY EY) ?_;refine go ?_;refine Be (Dr _ g F 10 y3.2 hy4 EY EY) fun y5 hy5=>?_;obtain ⟨hy5,hy6⟩:=hy5;refine go ?_;refine ce (fun w s=>Id _ _ _ EY EY) ?_;refine go ?_;intros;refine Ay rfl (fun h1=>?_) (fun h1=>?_)
 ·refine go ?_;refine Be (Tq _ g F y5.2 8 hy6 EY EY EY) fun l hl=>?_;obtain ⟨hl1,hl2⟩:=hl;refine go ?_;refine ret (⟨1+(y1.1:Nat),Cf n.1 ((y5.1:Nat) - 1),n.1,Cf n.1 (y3.1:Nat),l.1⟩,l.2) ⟨Aj2 ⟨EY,EY⟩ (Qb _ _) (Ba.2 hn1) (Qb _ _) (by unfold gp Cf;omega) (Aqu hl1.2.1 hl1.2.2) (.inr EY),hl2.mono EY⟩ rfl
 ·refine go ?_;refine ret (⟨1+(y1.1:Nat),Cf n.1 ((y5.1:Nat) - 1),n.1,Cf n.1 (y3.1:Nat),⟨#[]⟩⟩,y5.2) ⟨Aj2 ⟨EY,EY⟩ (Qb _ _) (Ba.2 hn1) (Qb _ _) (by unfold gp Cf;omega) EZ (.inl rfl),hy6.mono EY⟩ rfl
def Azp (B g:Nat) (F:CuF) (s:N4) (ok:Hm B s) (hB:B<=800000000000) :
  Fn prog 175 [Gj g 0 0] [.sl Jc (ab F.a F.By.length F.c) F.By F.bs] [.row g 61 0 [] [ab F.a F.By.length F.c,aa (s.k:Nat),.int .u64 s.Ha] []] (fun (z:As × N4)=>(0<=z.1.Am/\z.1.Am<=65535/\z.1.data.size<=maxLen)/\Hm (B+60) z.2) (fun s=>.agg #[aa s.1.Ct,aa s.1.Ae,aa s.1.Am,aa s.1.Es,af s.1.data]) (fun s=>[.row g 61 0 [] [ab F.a F.By.length F.c,aa (s.2.k:Nat),.int .u64 s.2.Ha] []]):=(Avp B g F s ok hB).weak fun _ h=>⟨Auc h.1,h.2⟩
def Ang (B g:Nat) (F:CuF) (s:N4) (ok:Hm B s) (hB:B<=700000000000) :
  Fn prog 108 [Gj g 0 0] [.sl Jc (ab F.a F.By.length F.c) F.By F.bs] [.row g 61 0 [] [ab F.a F.By.length F.c,aa (s.k:Nat),.int .u64 s.Ha] []] (fun (z:As × N4)=>z.1.data.size<=maxLen/\Hm (B+100) z.2) (fun s=>.agg #[aa s.1.Ct,aa s.1.Ae,aa s.1.Am,aa s.1.Es,af s.1.data]) (fun s=>[.row g 61 0 [] [ab F.a F.By.length F.c,aa (s.2.k:Nat),.int .u64 s.2.Ha] []]):=by
 refine enter func108 rfl ntmps108 fun w0=>?_;refine go ?_;intros;refine Be (Azp B g F s ok EY) fun z hz=>?_;obtain ⟨⟨t0,t1,hz1⟩,hz2⟩:=hz;refine go ?_;intros;refine Be (Dr _ g F 24 z.2 hz2 EY EY) fun p hp=>?_;obtain ⟨r,s3⟩:=p;obtain ⟨-,hp⟩:=hp;dsimp only at hp ⊢;refine go ?_;refine Ay rfl (fun e0=>?_) (fun e0=>?_)
 ·refine Hy ?_;intros;refine Dy (xs:=[0,6,5]) (fun w=>Mu w _) ?_ EZ;refine Av (E:=Bc) fun G=>?_;refine go ?_;refine Be (Qc _ g F _ [0,6,5] G s3 hp EY EZ EZ) fun q hq=>?_;refine go ?_;refine ret (⟨q.1,z.1.Ae,z.1.Am,z.1.Es,z.1.data⟩,q.2) ⟨hz1,hq.2.mono EY⟩ rfl
 ·refine go ?_;refine Ay rfl (fun e1=>?_) (fun e1=>?_)
  ·refine Hy ?_;intros;refine Dy (xs:=[-1,65536,65535]) (fun w=>Mu w _) ?_ EZ;refine Av (E:=Bc) fun G=>?_;refine go ?_;refine Be (Qc _ g F _ [-1,65536,65535] G s3 hp EY EZ EZ) fun q hq=>?_;refine go ?_;refine ret (⟨z.1.Ct,q.1,z.1.Am,z.1.Es,z.1.data⟩,q.2) ⟨hz1,hq.2.mono EY⟩ rfl
  ·refine go ?_;refine Ay rfl (fun e2=>?_) (fun e2=>?_)
   ·refine Hy ?_;intros;refine Ar [1] [7] ?_;refine Dh 0 1 ?_;refine dt 2 ?_;refine dN 3 ?_;apply I1;rfl;rfl;rfl;rfl;exact Iy;exact Ir;intro _;refine Dy (xs:=[32767,32768]) (fun w=>Mu w _) ?_ EZ;refine Av (E:=Bc) fun G=>?_;refine dk ?_;refine dN 4 ?_;refine oC ?_;refine Be (Qc _ g F _ [32767,32768] G s3 hp EY EZ EZ) fun q hq=>?_;have hq3:0<=q.1/\q.1<=32768:=by have:=hq.1;simp only [aG,aT,bn] at this;omega
    refine dk ?_;refine dN 5 ?_;refine oC ?_;refine ce (fun w s=>Id _ _ _ EY EY) ?_;refine dk ?_;refine dt 6 ?_;refine dN 7 ?_;refine oS ?_;refine Nm ?_;refine dd ?_;refine go ?_;refine ret (⟨z.1.Ct,z.1.Ae,z.1.Am,Cf z.1.Am q.1,z.1.data⟩,q.2) ⟨hz1,hq.2.mono EY⟩ rfl
   ·refine go ?_;refine Ay rfl (fun e3=>?_) (fun e3=>?_)
    ·refine Hy ?_;intros;refine Dy (xs:=[⟨#[97,98,99,100,101,102,103,104]⟩,⟨#[97,98,99,100,101,102,103,104,105]⟩,⟨#[65]⟩,⟨#[97,32,98]⟩,⟨#[97]⟩]) (fun w=>Q3 w _ EZ) ?_ EZ;refine Av (E:=A9) fun G=>?_;refine go ?_;refine Be (Afl _ g F _ [⟨#[97,98,99,100,101,102,103,104]⟩,⟨#[97,98,99,100,101,102,103,104,105]⟩,⟨#[65]⟩,⟨#[97,32,98]⟩,⟨#[97]⟩] G s3 hp EY EZ EZ) fun q hq=>?_;have hq3:q.1.size<=maxLen:=by have:=hq.1;simp only [aG,aT,bn] at this;rcases this with e|e|e|e|e <;> rw [e] <;> decide
     refine go ?_;refine ret (⟨z.1.Ct,z.1.Ae,z.1.Am,z.1.Es,q.1⟩,q.2) ⟨hq3,hq.2.mono EY⟩ rfl
    ·refine go ?_;refine ret (z.1,s3) ⟨hz1,hp.mono EY⟩ rfl
def Bdd (a b:Int):FV 84 [aa a,aa b] [] (aa (max a b)):=by
 refine enter func84 rfl ntmps84 fun w0=>?_;refine go ?_;refine Ay rfl (fun h=>?_) (fun h=>?_)
 ·refine go ?_;rw [show max a b=a by omega];exact BA
 ·refine go ?_;rw [show max a b=b by omega];exact BA
def okq {k:Int} {i:Nat} (hk:k=2\/k=3\/k=5\/k=6) (h0:1<=i) (h7:i<=7):Dq ⟨k,(i:Int),⟨#[]⟩⟩=true:=by
 have hf:Pj ((i:Nat):Int)=true:=Nt.2 EY;unfold Dq;rcases hk with rfl|rfl|rfl|rfl
 all_goals
  show (Ff 1 _ 6 && Pj ((i:Nat):Int) && decide _)=true;rw [hf];rfl
structure StD where
 t:Js
 s:N4
structure StW where
 n:Nat
 i:Nat
 s:N4
structure Bi8 (B:Nat) (z:StW):Prop where
 a:1<=z.n
 b:z.n<=7
 i:z.i<=3
 s:Hm (B+10+10 * z.i) z.s
def Amk (B g:Nat) (F:CuF) (s:N4) (n:Dx) (v:Value) (Fx:aq) (h2:2<=n.Ap.Ad.length) (h8:n.Ap.Ad.length<=8) (hd:n.down.length<=8) (hu:n.up.length=n.down.length) (hq:∀q∈n.down++n.up,q.length<=6) (ok:Hm B s) (hB:B<=800000000000) :
  Fn prog 47 [Gj g 0 0,v] [.sl Jc (ab F.a F.By.length F.c) F.By F.bs,.isv Pe v n Fx] [.row g 61 0 [] [ab F.a F.By.length F.c,aa (s.k:Nat),.int .u64 s.Ha] []] (fun (z:StD)=>Dq z.t=true/\z.t.data.size<=maxLen/\Hm (B+200) z.s) (fun z=>.agg #[aa z.t.Ct,aa z.t.node,af z.t.data])
   (fun z=>[.row g 61 0 [] [ab F.a F.By.length F.c,aa (z.s.k:Nat),.int .u64 z.s.Ha] []]):=by
 refine enter func47 rfl ntmps47 fun w0=>?_;refine Fg ?_;rintro a1 c1 F1 a2 c2 F2 a3 c3 F3 a4 c4 F4 a5 c5 F5 a6 c6 F6 a7 c7 F7 rfl l1 l2 l3 l4 l5 l6 l7;refine go ?_;intros;rename_i gb gs;refine Be (Bdd 1 (n.Ap.Ad.length - 1)) fun _ _=>?_;refine go ?_;refine Be (Dr _ g F (max 1 (n.Ap.Ad.length - 1)) s ok EY EY) fun y hy=>?_;obtain ⟨r0,s2⟩:=y;obtain ⟨hr0,h2⟩:=hy;dsimp only at hr0 h2 ⊢;have hr0:r0<=6:=EY
 refine go ?_;rw [show (1:Int)+(r0:Nat)=((1+r0:Nat):Int) by omega];refine Ca [0,3,4] (fun z:StW=>[(5,aa (z.n:Nat)),(6,aa (z.i:Nat))]) (fun z=>[.row g 61 0 [] [ab F.a F.By.length F.c,aa (z.s.k:Nat),.int .u64 z.s.Ha] []]) (Bi8 B) (fun z=>3 - z.i) ⟨1+r0,0,s2⟩ ⟨by show 1<=1+r0;omega,by show 1+r0<=7;omega,aD _,h2.mono (by show _<=B+10+10 * 0;omega)⟩ fun z hz=>?_;obtain ⟨z1,z2,z3,z4⟩:=hz
 repeat apply Pg
 refine Dv [0,3,4,5,6] [0,1,2,3,4,5,6,7,8,9,10,11] (fun b:Bool=>[(40,.bool b)]) (fun _=>[]) (fun b=>b=true->z.i < 3) ?_ fun b hb=>?_
 ·by_cases k0:z.i < 3
  ·by_cases k1:z.n < n.down.length
   ·refine Ms (E:=Ak) (hz:=EZ) (xs:=n.down) z.n ?_;rintro hi1 b1 o1 a8 c8 F8 e1 l8;refine Ms (E:=Ak) (hz:=EZ) (xs:=n.up) z.n ?_;rintro hi2 b2 o2 a9 c9 F9 e2 l9;rw [e1,e2];have m8:=hq _ (cA _ (aB hi1));have m9:=hq _ (eP _ (aB hi2));refine Hy ?_;intros;refine Ar [0,2,6] [] ?_;refine Dh 0 1 ?_;rw [show decide (((z.i:Nat):Int) < 3)=true by exact av EY];refine dt 2 ?_;refine Dg 3 ?_;refine Dg 4 ?_;refine Dg 5 ?_;refine Dg 6 ?_;refine Dg 7 ?_
    rw [show decide (((z.n:Nat):Int) < (n.down.length:Int))=true by exact av EY];refine Dh 8 9 ?_;refine Dg 10 ?_;refine Dg 11 ?_;refine Dg 12 ?_;refine Dg 13 ?_;refine Dg 14 ?_;refine Dg 15 ?_;refine Dg 16 ?_;refine Dg 17 ?_;refine Dg 18 ?_;refine Dg 19 ?_;refine Dg 20 ?_;refine Dg 21 ?_;refine Dg 22 ?_;refine Dg 23 ?_;refine dt 24 ?_;refine dd ?_;refine Bk _ fun _=>k0
   ·refine Hy ?_;intros;refine Ar [2] [] ?_;refine Dh 0 1 ?_;rw [show decide (((z.i:Nat):Int) < 3)=true by exact av EY];refine dt 2 ?_;refine Dg 3 ?_;refine Dg 4 ?_;refine Dg 5 ?_;refine Dg 6 ?_;refine Dg 7 ?_;rw [show decide (((z.n:Nat):Int) < (n.down.length:Int))=false by exact ay EY];refine Dh 8 9 ?_;refine ds 10 ?_;refine ds 11 ?_;refine ds 12 ?_;refine ds 13 ?_;refine ds 14 ?_;refine ds 15 ?_;refine ds 16 ?_;refine ds 17 ?_;refine ds 18 ?_;refine ds 19 ?_;refine ds 20 ?_;refine ds 21 ?_;refine ds 22 ?_;refine ds 23 ?_;refine dt 24 ?_;refine dd ?_
    refine Bk false fun h=>(by cases h)
  ·refine Hy ?_;intros;refine Ar [2] [] ?_;refine Dh 0 1 ?_;rw [show decide (((z.i:Nat):Int) < 3)=false by exact ay EY];refine dt 2 ?_;refine ds 3 ?_;refine ds 4 ?_;refine ds 5 ?_;refine ds 6 ?_;refine ds 7 ?_;refine Dh 8 9 ?_;refine ds 10 ?_;refine ds 11 ?_;refine ds 12 ?_;refine ds 13 ?_;refine ds 14 ?_;refine ds 15 ?_;refine ds 16 ?_;refine ds 17 ?_;refine ds 18 ?_;refine ds 19 ?_;refine ds 20 ?_;refine ds 21 ?_;refine ds 22 ?_;refine ds 23 ?_;refine dt 24 ?_;refine dd ?_;refine Bk false fun h=>(by cases h)
 cases b
 rotate_left
 ·have hb3:=hb rfl;refine go ?_;refine Be (Dr _ g F (n.Ap.Ad.length - 1) z.s z4 EY EY) fun y hy=>?_;obtain ⟨k5,s5⟩:=y;obtain ⟨r5,h5⟩:=hy;dsimp only at r5 h5 ⊢;have r5:k5<=6:=EY
  refine go ?_;rw [show (1:Int)+(k5:Nat)=((1+k5:Nat):Int) by omega];refine Ce ⟨1+k5,z.i+1,s5⟩ ⟨by show 1<=1+k5;omega,by show 1+k5<=7;omega,by show z.i+1<=3;omega,h5.mono (by show _<=B+10+10 * (z.i+1);omega)⟩ (by show 3 - (z.i+1) < 3 - z.i;omega)
 refine go ?_;refine Be (Dr _ g F 10 z.s z4 EY EY) fun y hy=>?_;obtain ⟨r6,s6⟩:=y;obtain ⟨hr6,h6⟩:=hy;dsimp only at hr6 h6 ⊢;have hr6:r6<=9:=EY
 rcases (show r6=0\/r6=1\/r6=2\/r6=3\/r6=4\/r6=5\/r6=6\/r6=7\/r6=8\/r6=9 by omega) with rfl|rfl|rfl|rfl|rfl|rfl|rfl|rfl|rfl|rfl
 ·exact BO
 ·exact BO
 ·exact BR
 ·exact BR
 ·exact BR
 ·refine go ?_;refine ret ⟨⟨3,((z.n:Nat):Int),⟨#[]⟩⟩,s6⟩ ⟨okq EZ z1 z2,HH,h6.mono EY⟩ rfl
 ·refine go ?_;refine ret ⟨⟨5,((z.n:Nat):Int),⟨#[]⟩⟩,s6⟩ ⟨okq EZ z1 z2,HH,h6.mono EY⟩ rfl
 ·refine go ?_;refine ret ⟨⟨6,((z.n:Nat):Int),⟨#[]⟩⟩,s6⟩ ⟨okq EZ z1 z2,HH,h6.mono EY⟩ rfl
 ·exact EW
 ·exact EW
def Azv {q ps:List As} (h:q.length<=6):(Ht q ps).length<=6:=by unfold Ht;rw [aA,aP];omega
def Bdc {d:List (List As)} {i:Nat} {ps:List As} (h:∀q∈d,q.length<=6):∀q∈d.modify i (fun q=>Ht q ps),q.length<=6:=fun q hq=>by
 by_cases hi:i < d.length
 ·rw [In hi] at hq;rcases bC hq with h'|rfl
  ·exact h q h'
  ·exact Azv (h _ (aB hi))
 ·rw [Aa6 hi] at hq;exact h q hq
def Aih {ps:List As}:∀{nodes:ar} {d:List (List As)},(∀q∈d,q.length<=6)->∀q∈Dt d nodes ps,q.length<=6
 | [],_,h=>h
 | x::r,d,h=>by
  show ∀q∈Dt (d.modify x.toNat fun q=>Ht q ps) r ps,q.length<=6;exact Aih (Bdc h)
structure ShZ where
 k:Nat
 ys:List (am)
 F:aq
 G:aq
def Og (d:List (List As)) (nodes:ar) (ps:List As) (a1 a2 a3 a4 a5 a7:aj) (l1 c1 l2 c2 l3 c3 l4 c4 l5 c5 l7 c7:Nat) (w1 w2 w3 w4:Int) (a:aj) (n c:Nat) (ys:List (am)) (F G:aq) (an:aj) (cn:Nat) (Fn_:aq) (ap:aj) (cp:Nat) (Fp:aq) (hx:∀x∈nodes,0<=x/\x.toNat < d.length) (hd:∀q∈d,q.length<=6) :
  Fn prog 167 [.agg #[ab a1 l1 c1,aa w1,aa w2,ab a2 l2 c2,aa w3,aa w4,ab a3 l3 c3,ab a4 l4 c4,ab a5 l5 c5,ab a n c,ab a7 l7 c7],ab an nodes.length cn,ab ap ps.length cp] [.sl Bc (ab an nodes.length cn) nodes Fn_,.sl Ak (ab ap ps.length cp) ps Fp,.isv (EA (O7 Ak EZ) n) (.agg (ys).flatten.toArray) d G] [.ow (EC 1) 120 (ab a n c) ys F] (fun (_:ShZ)=>True) (fun _=>.tuple #[]) (fun z=>[.ow (EC 1) 120 (ab a n c) z.ys z.F,.isv (EA (O7 Ak EZ) n) (.agg (z.ys).flatten.toArray) (Dt d nodes ps) z.G]):=by
 refine enter func167 rfl ntmps167 fun w0=>?_;refine Xf (E:=Bc) (xs:=nodes) ?_;rintro _ _ e0 hn1 hn2;cases e0;refine Bgr (xs:=d) fun hdn=>?_;refine go ?_;intros;refine Ca [1,2,3] (fun z:ShZ=>[(6,aa (z.k:Nat))]) (fun z=>[.ow (EC 1) 120 (ab a n c) z.ys z.F,.isv (EA (O7 Ak EZ) n) (.agg (z.ys).flatten.toArray) (Dt d (nodes.take z.k) ps) z.G]) (fun z=>z.k<=nodes.length) (fun z=>nodes.length - z.k) ⟨0,ys,F,G⟩ (aD _) fun z hz0=>?_;have hsl:=Abd ps (nodes.take z.k) d;have hd6:=Aih (ps:=ps) (nodes:=nodes.take z.k) hd;refine go ?_;refine Ay rfl (fun h1=>?_) (fun h1=>?_)
 ·have hk:z.k < nodes.length:=EY
  obtain ⟨x0,x1⟩:=hx _ (aB hk);obtain ⟨i,hi⟩:∃i:Nat,nodes[z.k]=((i:Nat):Int):=⟨nodes[z.k].toNat,EY⟩;have hil:i < (Dt d (nodes.take z.k) ps).length:=EY
  have hst:=Ae9 (d:=d) (ps:=ps) hk;rw [show nodes[z.k].toNat=i by omega] at hst;unfold Sa at hst;rw [In hil] at hst;have h6:=hd6 _ (aB hil);refine Im (xs:=nodes) z.k ?_;rintro hi2 b o e1;rw [e1,hi];refine Fs (ys:=z.ys) fun hm hl=>?_;refine Aia (ys:=z.ys) (xs:=Dt d (nodes.take z.k) ps) i hm EY EY fun h2 h3 Gi=>?_;refine Adj (x:=(Dt d (nodes.take z.k) ps)[i]) fun a9 c9 e9 l9=>?_;refine Q4 (E:=EC 1) (xs:=z.ys) (m:=1) (Ik 1) i ?_ FC rfl h2;rintro _ g A cs B rfl k2 k3 hH;obtain ⟨k4, -, -⟩:=k3 w0
  have e8:z.ys[i]=[.slice a9 (Dt d (nodes.take z.k) ps)[i].length c9]:=JS
  rw [e8] at k4;subst k4;dsimp only [List.append];refine go ?_;refine Ar [0,3,5] [17] ?_;refine C4 0 1 2 3 ?_;refine C4 4 5 6 7 ?_;refine C4 8 9 10 11 ?_;refine Dh 12 13 ?_;refine dt 14 ?_;refine dN 15 ?_;refine oC ?_;refine Be (Ahc (Dt d (nodes.take z.k) ps)[i] ps a9 c9 _ ap cp Fp EY) fun u _=>?_;refine dk ?_;refine dt 16 ?_;refine dN 17 ?_;refine oS ?_;refine Nm ?_;refine dd ?_;refine P8 (E:=EC 1) (xs:=z.ys) [.slice u.a (Ht (Dt d (nodes.take z.k) ps)[i] ps).length u.c] hH (fun w=>⟨rfl,⟨rfl,FO⟩,rfl⟩) ?_
  refine Av (E:=Ak) (xs:=Ht (Dt d (nodes.take z.k) ps)[i] ps) fun Fq=>?_;refine Aba (E:=Ak) (x:=Ht (Dt d (nodes.take z.k) ps)[i] ps) EZ ?_;refine Re (E:=O7 Ak EZ) (ys:=z.ys) (xs:=Dt d (nodes.take z.k) ps) (x:=Ht (Dt d (nodes.take z.k) ps)[i] ps) i rfl hm EY fun G'=>?_;rw [<-hst];refine go ?_;refine Ce ⟨z.k+1,z.ys.set i [.slice u.a (Ht (Dt d (nodes.take z.k) ps)[i] ps).length u.c],[g],G'⟩ hk (by show nodes.length - (z.k+1) < nodes.length - z.k;omega)
 ·rw [show nodes.take z.k=nodes from aV EY];refine go ?_;refine Xe ?_;refine ret z trivial rfl
def Aoe {l:ar} (hg:Px l) (i:Nat):Rc 1 7 (I0 l ((i:Nat):Int))=true:=by
 refine Aku ?_ fun z hz=>?_
 ·unfold I0 Ko;rw [List.pairwise_map];exact (List.Pairwise.filter _ List.pairwise_lt_range).imp fun h=>by omega
 ·have:=Lv hg hz;have:=hg.n1;omega
structure ShA where
 ys:List (am)
 F:aq
 G:aq
structure SZ where
 e:ShA
 r:ShA
 d:ShA
 u:ShA
structure JE where
 g:Nat
 b:aj
 d:Nat
 F:aq
 a:aj
 c:Nat
 G:aq
def Al3 (n:Dx) (i:Nat) (p:As) (a1:aj) (c1:Nat) (a4:aj) (c4:Nat) (a5:aj) (c5:Nat) (a6:aj) (c6:Nat) (a7:aj) (c7:Nat) (a2 a3:aj) (l2 c2 l3 c3:Nat) (w1 w2 w3 w4:Int) (F1:aq) (z:SZ) (FT:aq) (hl:Lx n=true) (hi:i < n.Ap.Ad.length) (hi0:0 < i) (h8:Px n.Ap.Ad) (hr:Et n.Ap.Ad (i:Nat)=true->Bw (Qt n i)=true) (he:Et n.Ap.Ad (i:Nat)=false->Bb (Qf n i)=true) (hp:Br p=true) (hps:p.data.size<=maxLen) (hd:∀q∈n.down,q.length<=6) :
  Fn prog 170 [.agg #[ab a1 n.Ap.Ad.length c1,aa w1,aa w2,ab a2 l2 c2,aa w3,aa w4,ab a3 l3 c3,ab a4 n.Ap.Ad.length c4,ab a5 n.Ap.Ad.length c5,ab a6 n.Ap.Ad.length c6,ab a7 n.Ap.Ad.length c7],aa (i:Nat),.agg #[aa (p).Ct,aa (p).Ae,aa (p).Am,aa (p).Es,af (p).data]] [Ga FT,.sl Bc (ab a1 n.Ap.Ad.length c1) n.Ap.Ad F1,.isv (EA Bz n.Ap.Ad.length) (.agg z.e.ys.flatten.toArray) n.Af z.e.G,.isv (EA Cb n.Ap.Ad.length) (.agg z.r.ys.flatten.toArray) n.Ac z.r.G,.isv (EA (O7 Ak EZ) n.Ap.Ad.length) (.agg z.d.ys.flatten.toArray) n.down z.d.G,.isv (EA (O7 Ak EZ) n.Ap.Ad.length) (.agg z.u.ys.flatten.toArray) n.up z.u.G] [.ow (EC 2) 111 (ab a4 n.Ap.Ad.length c4) z.e.ys z.e.F,.ow (EC 5) 118 (ab a5 n.Ap.Ad.length c5) z.r.ys z.r.F,.ow (EC 1) 120 (ab a6 n.Ap.Ad.length c6) z.d.ys z.d.F,.ow (EC 1) 120 (ab a7 n.Ap.Ad.length c7) z.u.ys z.u.F] (fun (_:SZ × KA)=>True) (fun y=>.slice y.2.a (C9 n i p).2.length y.2.c) (fun y=>[.ow (EC 2) 111 (ab a4 n.Ap.Ad.length c4) y.1.e.ys y.1.e.F,.ow (EC 5) 118 (ab a5 n.Ap.Ad.length c5) y.1.r.ys y.1.r.F,.ow (EC 1) 120 (ab a6 n.Ap.Ad.length c6) y.1.d.ys y.1.d.F,.ow (EC 1) 120 (ab a7 n.Ap.Ad.length c7) y.1.u.ys y.1.u.F,.isv (EA Bz n.Ap.Ad.length) (.agg y.1.e.ys.flatten.toArray) (C9 n i p).1.Af y.1.e.G,.isv (EA Cb n.Ap.Ad.length) (.agg y.1.r.ys.flatten.toArray) (C9 n i p).1.Ac y.1.r.G,.isv (EA (O7 Ak EZ) n.Ap.Ad.length) (.agg y.1.d.ys.flatten.toArray) (C9 n i p).1.down y.1.d.G,.isv (EA (O7 Ak EZ) n.Ap.Ad.length) (.agg y.1.u.ys.flatten.toArray) (C9 n i p).1.up y.1.u.G,.ow A9 9 (.slice y.2.a (C9 n i p).2.length y.2.c) (C9 n i p).2 y.2.F]):=by
 obtain ⟨q1,q2,q3,q4⟩:=Bn.1 hl;have hn8:=h8.n1;obtain ⟨d0,d1_⟩:=Ac9 (i:=i);refine enter func170 rfl ntmps170 fun w0=>?_;refine Jm n.Ap ?_;refine go ?_;intros;refine Be (Ot n.Ap ((i:Nat):Int) _ F1 h8 EY) fun _ _=>?_;cases hlf:Et n.Ap.Ad (i:Nat)
 rotate_left
 ·have hir:i < n.Ac.length:=EY
  have hgr:=El.1 (Hf hir▸hr hlf);have hev:=(Vi (d:=Nn i) hgr hp d0 d1_).2;rw [show C9 n i p=(⟨n.Ap,n.Ab,n.Af,n.Ac.set i (Dn n.Ac[i] p (Nn i)),n.down,n.up⟩,U3 i (Is n.Ac[i] p)) by unfold C9;rw [aH hlf,Hf hir]];refine go ?_;refine Fs (ys:=z.r.ys) fun hm hlr=>?_;refine Aib (E:=Cb) (ys:=z.r.ys) (xs:=n.Ac) i hm EY EY fun h2 h3 v Gi ev=>?_;refine Fm (v:=v) (x:=n.Ac[i]) ?_;rintro b1 d1 G1 b2 d2 G2 rfl l1 l2
  have e8:z.r.ys[i]=[.bool (n.Ac[i]).Bg,aa (n.Ac[i]).Ai,aa (n.Ac[i]).Aa.next,.slice b1 (n.Ac[i]).Aa.Ao.length d1,.slice b2 (n.Ac[i]).An.length d2]:=JO
  refine Q4 (E:=EC 5) (xs:=z.r.ys) (m:=5) (Ik 5) i ?_ FC rfl h2;rintro _ g A cs B rfl k2 k3 hH;obtain ⟨k4, -, -⟩:=k3 w0;rw [e8] at k4;subst k4;dsimp only [List.append];refine go ?_
  refine Dv [1,3,5,6] [0,1,2,3,4,5,6,7,8,9,10,11,12,13,14,15] (fun w:Nat × NwS=>[(7,Gj w.1 0 0),(8,.slice w.2.ae (Is n.Ac[i] p).length w.2.ce)]) (fun w=>[.row w.1 118 0 [] [.bool (Dn n.Ac[i] p (Nn i)).Bg,aa (Dn n.Ac[i] p (Nn i)).Ai,aa (Dn n.Ac[i] p (Nn i)).Aa.next,.slice w.2.a1 (Dn n.Ac[i] p (Nn i)).Aa.Ao.length w.2.c1,.slice w.2.a2 (Dn n.Ac[i] p (Nn i)).An.length w.2.c2] [],.isv Cb (.agg #[.bool (Dn n.Ac[i] p (Nn i)).Bg,aa (Dn n.Ac[i] p (Nn i)).Ai,aa (Dn n.Ac[i] p (Nn i)).Aa.next,.slice w.2.a1 (Dn n.Ac[i] p (Nn i)).Aa.Ao.length w.2.c1,.slice w.2.a2 (Dn n.Ac[i] p (Nn i)).An.length w.2.c2]) (Dn n.Ac[i] p (Nn i)) w.2.F1,.ow A9 9 (.slice w.2.ae (Is n.Ac[i] p).length w.2.ce) (Is n.Ac[i] p) w.2.Fe]) (fun _=>True) ?_ fun w _=>?_
  ·skip
   refine Ar [0,4,5] [] ?_;refine C4 0 1 2 3 ?_;refine Dh 4 5 ?_;refine dt 6 ?_;refine dM 7 12 ?_ ?_
   ·refine oC ?_;refine Be (Wr i EY) fun _ _=>?_;refine dk ?_;refine dM 8 12 ?_ ?_
    ·refine oC ?_;refine Be (Adm n.Ac[i] p (Nn i) _ Gi hgr hp d0 d1_) fun s _=>?_;refine dk ?_;refine Dh 9 10 ?_;refine dt 11 ?_;refine dN 12 ?_;apply Cn;rfl;intro _;refine dk ?_;refine dN 13 ?_;refine oS ?_;refine dk ?_;refine dt 14 ?_;refine dd ?_;refine Bk (⟨_,s⟩:Nat × NwS) trivial
    ·apply Cn;rfl;intro _;exact BW
   ·apply Cn;rfl;intro _;refine dk ?_;refine dN 7 ?_;refine oC ?_;refine Be (Wr i EY) fun _ _=>?_;exact BW
  obtain ⟨gr,s⟩:=w;dsimp only;refine Hy ?_;intros;refine P8 (E:=EC 5) (xs:=z.r.ys) [.bool (Dn n.Ac[i] p (Nn i)).Bg,aa (Dn n.Ac[i] p (Nn i)).Ai,aa (Dn n.Ac[i] p (Nn i)).Aa.next,.slice s.a1 (Dn n.Ac[i] p (Nn i)).Aa.Ao.length s.c1,.slice s.a2 (Dn n.Ac[i] p (Nn i)).An.length s.c2] hH (fun w=>⟨rfl,⟨rfl,FO⟩,rfl⟩) ?_;refine Re (E:=Cb) (ys:=z.r.ys) (xs:=n.Ac) (x:=Dn n.Ac[i] p (Nn i)) i rfl hm EY fun G'=>?_;refine Av (E:=A9) (xs:=Is n.Ac[i] p) fun Fq=>?_;refine go ?_;refine Be (Ake i (Is n.Ac[i] p) _ _ Fq FT EY EY (Ag4 hgr hp)) fun u _=>?_
  refine go ?_;refine ret (⟨z.e,⟨z.r.ys.set i [.bool (Dn n.Ac[i] p (Nn i)).Bg,aa (Dn n.Ac[i] p (Nn i)).Ai,aa (Dn n.Ac[i] p (Nn i)).Aa.next,.slice s.a1 (Dn n.Ac[i] p (Nn i)).Aa.Ao.length s.c1,.slice s.a2 (Dn n.Ac[i] p (Nn i)).An.length s.c2],[g],G'⟩,z.d,z.u⟩,u) trivial rfl
 ·have hir:i < n.Af.length:=EY
  have hge:Bb n.Af[i]=true:=J9 hir▸he hlf;have hel:=(Hp.1 hge).2.1;have hkl:=Vp n.Ap.Ad ((i:Nat):Int);have hkx:∀x∈I0 n.Ap.Ad ((i:Nat):Int),0<=x/\x.toNat < n.down.length:=fun x hx=>by have:=Lv h8 hx;omega
  have hri:=Aoe h8 i;refine go ?_;refine Be (Qi n.Ap ((i:Nat):Int) _ F1 (Tn h8.z EY) ⟨EY,EY⟩) fun u _=>?_;refine Av (E:=Bc) (xs:=I0 n.Ap.Ad ((i:Nat):Int)) fun Fk=>?_;refine go ?_;refine Ay rfl (fun hk=>?_) (fun hk=>?_)
  ·rw [show C9 n i p=(⟨n.Ap,n.Ab,n.Af.set i (Qn n.Af[i] p.Ae),n.Ac,Dt n.down (Vg n.Af[i] p.Ae (I0 n.Ap.Ad ((i:Nat):Int))) [p],n.up⟩,[]) by unfold C9 Afj Z9;rw [aC JW,aH hk,aH hk,J9 hir]];rw [<-Asi hge hri];refine go ?_;refine Fs (ys:=z.e.ys) fun hm hlr=>?_;refine Aib (E:=Bz) (ys:=z.e.ys) (xs:=n.Af) i hm EY EY fun h2 h3 v Gi ev=>?_;refine Ee (v:=v) (x:=n.Af[i]) ?_;rintro b1 d1 G1 rfl l1;have e8:z.e.ys[i]=[aa n.Af[i].Ai,.slice b1 n.Af[i].Ah.length d1]:=JO
   refine Q4 (E:=EC 2) (xs:=z.e.ys) (m:=2) (Ik 2) i ?_ FC rfl h2;rintro _ g A cs B rfl k2 k3 hH;obtain ⟨k4, -, -⟩:=k3 w0;rw [e8] at k4;subst k4;dsimp only [List.append];refine go ?_
   refine Dv [1,3,5,6,9] [0,1,2,3,4,5,6,7,8,9,10,11,12,13,14,15] (fun w:JE=>[(10,Gj w.g 0 0),(11,.slice w.a (Abu n.Af[i] p.Ae (I0 n.Ap.Ad ((i:Nat):Int))).length w.c)]) (fun w=>[.row w.g 111 0 [] [aa (Qn n.Af[i] p.Ae).Ai,.slice w.b (Qn n.Af[i] p.Ae).Ah.length w.d] [],.isv Bz (.agg #[aa (Qn n.Af[i] p.Ae).Ai,.slice w.b (Qn n.Af[i] p.Ae).Ah.length w.d]) (Qn n.Af[i] p.Ae) w.F,.ow Bc 3 (.slice w.a (Abu n.Af[i] p.Ae (I0 n.Ap.Ad ((i:Nat):Int))).length w.c) (Abu n.Af[i] p.Ae (I0 n.Ap.Ad ((i:Nat):Int))) w.G]) (fun _=>True) ?_ fun w _=>?_
   ·skip
    refine Ar [0,4,5] [] ?_;refine C4 0 1 2 3 ?_;refine C4 4 5 6 7 ?_;refine dM 8 12 ?_ ?_
    ·refine oC ?_;refine Be (Aev n.Af[i] p.Ae (I0 n.Ap.Ad ((i:Nat):Int)) _ Gi u.a u.c Fk EY (fun x hx=>by have:=P2 hge hx;omega) EY) fun s _=>?_;refine Ih ?_;rintro b3 d3 G3 es l3;rw [es];refine Hi (Qn n.Af[i] p.Ae) ?_;refine Oy Kr fun Fe=>?_;refine dk ?_;refine Dh 9 10 ?_;refine dt 11 ?_;refine dN 12 ?_;apply Cn;rfl;intro _;refine dk ?_;exact ES
    ·apply Cn;rfl;intro _;refine dk ?_;refine dN 8 ?_;refine oC ?_;refine Be (Aev n.Af[i] p.Ae (I0 n.Ap.Ad ((i:Nat):Int)) _ Gi u.a u.c Fk EY (fun x hx=>by have:=P2 hge hx;omega) EY) fun s _=>?_;refine Ih ?_;rintro b3 d3 G3 es l3;rw [es];refine Hi (Qn n.Af[i] p.Ae) ?_;refine Oy Kr fun Fe=>?_;refine dk ?_;refine Dh 9 10 ?_;refine dt 11 ?_;exact ES
   refine Hy ?_;intros;refine P8 (E:=EC 2) (xs:=z.e.ys) [aa (Qn n.Af[i] p.Ae).Ai,.slice w.b (Qn n.Af[i] p.Ae).Ah.length w.d] hH (fun _=>⟨rfl,⟨rfl,FO⟩,rfl⟩) ?_;refine Re (E:=Bz) (ys:=z.e.ys) (xs:=n.Af) (x:=Qn n.Af[i] p.Ae) i rfl hm EY fun G'=>?_;refine Av (E:=Bc) (xs:=Abu n.Af[i] p.Ae (I0 n.Ap.Ad ((i:Nat):Int))) fun Fk2=>?_;refine Dy (E:=Ak) (xs:=[p]) (De p hps) ?_ FA;refine Av (E:=Ak) (xs:=[p]) fun Fp=>?_;refine go ?_
   refine Be (Og n.down (Abu n.Af[i] p.Ae (I0 n.Ap.Ad ((i:Nat):Int))) [p] _ _ _ _ _ _ _ _ _ _ _ _ _ _ _ _ _ _ _ _ _ _ _ _ _ z.d.ys z.d.F z.d.G _ _ Fk2 _ _ Fp (by rw [Asi hge hri];exact fun x hx=>hkx x (Abt x hx)) hd) fun y _=>?_;refine go ?_;intros;refine C3 A9 ?_;refine go ?_;refine ret (⟨⟨z.e.ys.set i [aa (Qn n.Af[i] p.Ae).Ai,.slice w.b (Qn n.Af[i] p.Ae).Ah.length w.d],[g],G'⟩,z.r,⟨y.ys,y.F,y.G⟩,z.u⟩,⟨0,_,_,_⟩) trivial rfl
  ·rw [show C9 n i p=(⟨n.Ap,n.Ab,n.Af,n.Ac,Dt n.down (I0 n.Ap.Ad ((i:Nat):Int)) [p],n.up⟩,[]) by unfold C9 Afj Z9;rw [aC JW,aC hk,aC hk]];refine Hy ?_;intros;refine Dy (E:=Ak) (xs:=[p]) (De p hps) ?_ FA;refine Av (E:=Ak) (xs:=[p]) fun Fp=>?_;refine go ?_;refine Be (Og n.down (I0 n.Ap.Ad ((i:Nat):Int)) [p] _ _ _ _ _ _ _ _ _ _ _ _ _ _ _ _ _ _ _ _ _ _ _ _ _ z.d.ys z.d.F z.d.G _ _ Fk _ _ Fp hkx hd) fun w _=>?_;refine go ?_;intros;refine C3 A9 ?_;refine go ?_;refine ret (⟨z.e,z.r,⟨w.ys,w.F,w.G⟩,z.u⟩,⟨0,_,_,_⟩) trivial rfl
structure JU where
 g:Nat
 b:aj
 d:Nat
 F:aq
def Bc5 (n:Dx) (i:Nat) (p:As) (a1:aj) (c1:Nat) (a4:aj) (c4:Nat) (a5:aj) (c5:Nat) (a6:aj) (c6:Nat) (a7:aj) (c7:Nat) (a2 a3:aj) (c2 c3:Nat) (F1 FS:aq) (z:SZ) (hl:Lx n=true) (h0:i≠0) (hi:i < n.Ap.Ad.length) (h8:Px n.Ap.Ad) (hsrc:Cp n.Ab=true) (he:∀k,k≠0->k < n.Ap.Ad.length->Et n.Ap.Ad (k:Nat)=false->Bb (Qf n k)=true) (hp:Br p=true) (hps:p.data.size<=maxLen) (hd:∀q∈n.down,q.length<=6) (hu:∀q∈n.up,q.length<=6) :
  Fn prog 171 [.agg #[ab a1 n.Ap.Ad.length c1,aa n.Ab.Aa.Am,aa n.Ab.Aa.size,ab a2 n.Ab.Aa.Al.length c2,aa n.Ab.Ai,aa n.Ab.quiet,ab a3 n.Ab.holds.length c3,ab a4 n.Ap.Ad.length c4,ab a5 n.Ap.Ad.length c5,ab a6 n.Ap.Ad.length c6,ab a7 n.Ap.Ad.length c7],aa (i:Nat),.agg #[aa (p).Ct,aa (p).Ae,aa (p).Am,aa (p).Es,af (p).data]] [.sl Bc (ab a1 n.Ap.Ad.length c1) n.Ap.Ad F1,.isv Ei (.agg #[aa n.Ab.Aa.Am,aa n.Ab.Aa.size,ab a2 n.Ab.Aa.Al.length c2,aa n.Ab.Ai,aa n.Ab.quiet,ab a3 n.Ab.holds.length c3]) n.Ab FS,.isv (EA Bz n.Ap.Ad.length) (.agg z.e.ys.flatten.toArray) n.Af z.e.G,.isv (EA Cb n.Ap.Ad.length) (.agg z.r.ys.flatten.toArray) n.Ac z.r.G,.isv (EA (O7 Ak EZ) n.Ap.Ad.length) (.agg z.d.ys.flatten.toArray) n.down z.d.G,.isv (EA (O7 Ak EZ) n.Ap.Ad.length) (.agg z.u.ys.flatten.toArray) n.up z.u.G] [.ow (EC 2) 111 (ab a4 n.Ap.Ad.length c4) z.e.ys z.e.F,.ow (EC 5) 118 (ab a5 n.Ap.Ad.length c5) z.r.ys z.r.F,.ow (EC 1) 120 (ab a6 n.Ap.Ad.length c6) z.d.ys z.d.F,.ow (EC 1) 120 (ab a7 n.Ap.Ad.length c7) z.u.ys z.u.F] (fun (_:SZ × Alk)=>True) (fun y=>.agg #[aa ((Qz n i p).Ab).Aa.Am,aa ((Qz n i p).Ab).Aa.size,.slice y.2.a ((Qz n i p).Ab).Aa.Al.length y.2.c,aa ((Qz n i p).Ab).Ai,aa ((Qz n i p).Ab).quiet,.slice y.2.a2 ((Qz n i p).Ab).holds.length y.2.c2]) (fun y=>[.ow (EC 2) 111 (ab a4 n.Ap.Ad.length c4) y.1.e.ys y.1.e.F,.ow (EC 5) 118 (ab a5 n.Ap.Ad.length c5) y.1.r.ys y.1.r.F,.ow (EC 1) 120 (ab a6 n.Ap.Ad.length c6) y.1.d.ys y.1.d.F,.ow (EC 1) 120 (ab a7 n.Ap.Ad.length c7) y.1.u.ys y.1.u.F,.isv (EA Bz n.Ap.Ad.length) (.agg y.1.e.ys.flatten.toArray) (Qz n i p).Af y.1.e.G,.isv (EA Cb n.Ap.Ad.length) (.agg y.1.r.ys.flatten.toArray) (Qz n i p).Ac y.1.r.G,.isv (EA (O7 Ak EZ) n.Ap.Ad.length) (.agg y.1.d.ys.flatten.toArray) (Qz n i p).down y.1.d.G,.isv (EA (O7 Ak EZ) n.Ap.Ad.length) (.agg y.1.u.ys.flatten.toArray) (Qz n i p).up y.1.u.G,.isv Ei (.agg #[aa ((Qz n i p).Ab).Aa.Am,aa ((Qz n i p).Ab).Aa.size,.slice y.2.a ((Qz n i p).Ab).Aa.Al.length y.2.c,aa ((Qz n i p).Ab).Ai,aa ((Qz n i p).Ab).quiet,.slice y.2.a2 ((Qz n i p).Ab).holds.length y.2.c2]) (Qz n i p).Ab y.2.F]):=by
 obtain ⟨q1,q2,q3,q4⟩:=Bn.1 hl;have hn8:=h8.n1;obtain ⟨n0,n1⟩:=Kz hp;have hone:∀x∈[((i:Nat):Int)],0<=x/\x.toNat < n.down.length:=fun x hx=>by
  rw [aL] at hx;subst hx;omega
 obtain ⟨k,hk⟩:∃k,Z0 n i=k:=⟨_,rfl⟩;obtain ⟨e1,e2,e3⟩:=Asy h8 hi h0 hk;refine enter func171 rfl ntmps171 fun w0=>?_;refine Im (xs:=n.Ap.Ad) i ?_;rintro hi2 b o e4;rw [e4,e1];refine go ?_;intros;refine Ay rfl (fun h5=>?_) (fun h5=>?_)
 ·obtain rfl:k=0:=EY
  rw [show Qz n i p=⟨n.Ap,My n.Ab p.Ae,n.Af,n.Ac,Dt n.down [((i:Nat):Int)] (N8 n.Ab p),n.up⟩ by unfold Qz;rw [aH hk]];refine go ?_;refine Be (Al1 n.Ab p _ FS hsrc n0 n1 hps) fun u _=>?_;refine Hy ?_;intros;refine Dy (E:=Bc) (xs:=[((i:Nat):Int)]) (O3 _) ?_ FA;refine Av (E:=Bc) (xs:=[((i:Nat):Int)]) fun Fo=>?_;refine Av (E:=Ak) (xs:=N8 n.Ab p) fun Fq=>?_;refine go ?_;refine Be (Og n.down [((i:Nat):Int)] (N8 n.Ab p) _ _ _ _ _ _ _ _ _ _ _ _ _ _ _ _ _ _ _ _ _ _ _ _ _ z.d.ys z.d.F z.d.G _ _ Fo _ _ Fq hone hd) fun y _=>?_;refine go ?_
  refine ret (⟨⟨z.e,z.r,⟨y.ys,y.F,y.G⟩,z.u⟩,⟨u.a,u.c,u.a2,u.c2,u.F⟩⟩:SZ × Alk) trivial rfl
 have h6:k≠0:=EY
 have hkl:k < n.Af.length:=EY
 have hku:k < n.up.length:=EY
 have hge:Bb n.Af[k]=true:=J9 hkl▸he k h6 EY e3;have hel:=(Hp.1 hge).2.1;obtain ⟨hc0,hc1⟩:=Ns.1 (Hp.1 hge).1;rw [show Qz n i p=⟨n.Ap,n.Ab,n.Af.set k (N7 n.Af[k] p.Ae ((i:Nat):Int)),n.Ac,Dt n.down [((i:Nat):Int)] [Aat p],if Add n.Af[k] p.Ae then n.up.modify k fun q=>Ht q [p] else n.up⟩ by unfold Qz;rw [aC EY,hk,J9 hkl]];refine go ?_;refine Fs (ys:=z.e.ys) fun hm hlr=>?_;refine Aib (E:=Bz) (ys:=z.e.ys) (xs:=n.Af) k hm EY EY fun h2 h3 v Gi ev=>?_;refine Ee (v:=v) (x:=n.Af[k]) ?_;rintro b1 d1 G1 rfl l1
 have e8:z.e.ys[k]=[aa n.Af[k].Ai,.slice b1 n.Af[k].Ah.length d1]:=JO
 refine Q4 (E:=EC 2) (xs:=z.e.ys) (m:=2) (Ik 2) k ?_ FC rfl h2;rintro _ g A cs B rfl k2 k3 hH;obtain ⟨k4, -, -⟩:=k3 w0;rw [e8] at k4;subst k4;dsimp only [List.append];refine go ?_
 refine Dv [1,3,5,6,7] [0,1,2,3,4,5,6,7,8,9,10,11,12,13,14,15] (fun w:JU=>[(10,Gj w.g 0 0),(11,.bool (Add n.Af[k] p.Ae))]) (fun w=>[.row w.g 111 0 [] [aa (N7 n.Af[k] p.Ae ((i:Nat):Int)).Ai,.slice w.b (N7 n.Af[k] p.Ae ((i:Nat):Int)).Ah.length w.d] [],.isv Bz (.agg #[aa (N7 n.Af[k] p.Ae ((i:Nat):Int)).Ai,.slice w.b (N7 n.Af[k] p.Ae ((i:Nat):Int)).Ah.length w.d]) (N7 n.Af[k] p.Ae ((i:Nat):Int)) w.F]) (fun _=>True) ?_ fun w _=>?_
 ·skip
  refine Ar [0,4,5] [] ?_;refine C4 0 1 2 3 ?_;refine C4 4 5 6 7 ?_;refine dM 8 12 ?_ ?_
  ·refine oC ?_;refine Be (Wq n.Af[k] p.Ae ((i:Nat):Int) _ Gi EY (fun x hx=>by have:=P2 hge hx;omega) EY EY) fun s _=>?_;refine Ih ?_;rintro b3 d3 G3 es l3;rw [es];refine Hi (N7 n.Af[k] p.Ae ((i:Nat):Int)) ?_;refine Oy Kr fun Fe=>?_;refine dk ?_;refine Dh 9 10 ?_;refine dt 11 ?_;refine dN 12 ?_;apply Cn;rfl;intro _;refine dk ?_;refine dN 13 ?_;refine oS ?_;refine dk ?_;refine dt 14 ?_;refine dd ?_;refine Bk (⟨_,b3,d3,Fe⟩:JU) trivial
  ·apply Cn;rfl;intro _;refine dk ?_;refine dN 8 ?_;refine oC ?_;refine Be (Wq n.Af[k] p.Ae ((i:Nat):Int) _ Gi EY (fun x hx=>by have:=P2 hge hx;omega) EY EY) fun s _=>?_;refine Ih ?_;rintro b3 d3 G3 es l3;rw [es];refine Hi (N7 n.Af[k] p.Ae ((i:Nat):Int)) ?_;refine Oy Kr fun Fe=>?_;refine dk ?_;refine Dh 9 10 ?_;refine dt 11 ?_;refine dN 13 ?_;refine oS ?_;refine dk ?_;refine dt 14 ?_;refine dd ?_;refine Bk (⟨_,b3,d3,Fe⟩:JU) trivial
 refine Hy ?_;intros;refine P8 (E:=EC 2) (xs:=z.e.ys) [aa (N7 n.Af[k] p.Ae ((i:Nat):Int)).Ai,.slice w.b (N7 n.Af[k] p.Ae ((i:Nat):Int)).Ah.length w.d] hH (fun _=>⟨rfl,⟨rfl,FO⟩,rfl⟩) ?_;refine Re (E:=Bz) (ys:=z.e.ys) (xs:=n.Af) (x:=N7 n.Af[k] p.Ae ((i:Nat):Int)) k rfl hm EY fun G'=>?_;refine Dy (E:=Bc) (xs:=[((i:Nat):Int)]) (O3 _) ?_ FA;refine Av (E:=Bc) (xs:=[((i:Nat):Int)]) fun Fo=>?_;refine Dy (E:=Ak) (xs:=[Aat p]) (De (Aat p) (aD _)) ?_ FA;refine Av (E:=Ak) (xs:=[Aat p]) fun Fp=>?_;refine go ?_
 refine Be (Og n.down [((i:Nat):Int)] [Aat p] _ _ _ _ _ _ _ _ _ _ _ _ _ _ _ _ _ _ _ _ _ _ _ _ _ z.d.ys z.d.F z.d.G _ _ Fo _ _ Fp hone hd) fun y _=>?_;cases hf:Add n.Af[k] p.Ae
 ·rw [aC EZ];refine go ?_;refine ret (⟨⟨⟨z.e.ys.set k [aa (N7 n.Af[k] p.Ae ((i:Nat):Int)).Ai,.slice w.b (N7 n.Af[k] p.Ae ((i:Nat):Int)).Ah.length w.d],[g],G'⟩,z.r,⟨y.ys,y.F,y.G⟩,z.u⟩,⟨a2,c2,a3,c3,FS⟩⟩:SZ × Alk) trivial rfl
 ·rw [aH rfl,In hku];have hu6:=hu _ (aB hku);refine go ?_;refine Fs (ys:=z.u.ys) fun hmu hlu=>?_;refine Aia (ys:=z.u.ys) (xs:=n.up) k hmu EY EY fun h9 _ Gu=>?_;refine Adj (x:=n.up[k]) fun a9 c9 e9 l9=>?_;have e10:z.u.ys[k]=[.slice a9 n.up[k].length c9]:=JS
  refine Q4 (E:=EC 1) (xs:=z.u.ys) (m:=1) (Ik 1) k ?_ FC rfl h9;rintro _ gu Au cs Bu rfl j2 j3 hHu;obtain ⟨j4, -, -⟩:=j3 w0;rw [e10] at j4;subst j4;refine go ?_;refine Ar [0,14,15] [12] ?_;refine C4 0 1 2 3 ?_;refine C4 4 5 6 7 ?_;refine dt 8 ?_;refine dN 9 ?_;apply I1;rfl;rfl;rfl;rfl;exact Iy;exact Ir;intro _;refine Dy (E:=Ak) (xs:=[p]) (De p hps) ?_ FA;refine Av (E:=Ak) (xs:=[p]) fun Fp2=>?_;refine dk ?_;refine dN 10 ?_;refine oC ?_;refine Be (Ahc n.up[k] [p] a9 c9 _ _ _ Fp2 EY) fun r _=>?_;refine dk ?_;refine dt 11 ?_
  refine dN 12 ?_;refine oS ?_;refine Nm ?_;refine dd ?_;refine P8 (E:=EC 1) (xs:=z.u.ys) [.slice r.a (Ht n.up[k] [p]).length r.c] hHu (fun w=>⟨rfl,⟨rfl,FO⟩,rfl⟩) ?_;refine Av (E:=Ak) (xs:=Ht n.up[k] [p]) fun Fu=>?_;refine Aba (E:=Ak) (x:=Ht n.up[k] [p]) EZ ?_;refine Re (E:=O7 Ak EZ) (ys:=z.u.ys) (xs:=n.up) (x:=Ht n.up[k] [p]) k rfl hmu EY fun Gv=>?_;refine go ?_
  refine ret (⟨⟨⟨z.e.ys.set k [aa (N7 n.Af[k] p.Ae ((i:Nat):Int)).Ai,.slice w.b (N7 n.Af[k] p.Ae ((i:Nat):Int)).Ah.length w.d],[g],G'⟩,z.r,⟨y.ys,y.F,y.G⟩,⟨z.u.ys.set k [.slice r.a (Ht n.up[k] [p]).length r.c],[gu],Gv⟩⟩,⟨a2,c2,a3,c3,FS⟩⟩:SZ × Alk) trivial rfl
structure TkZ where
 k:Nat
 z:SZ
 a:aj
 c:Nat
 F:aq
def Au6 (n:Dx) (a1:aj) (c1:Nat) (a4:aj) (c4:Nat) (a5:aj) (c5:Nat) (a6:aj) (c6:Nat) (a7:aj) (c7:Nat) (a2 a3:aj) (c2 c3:Nat) (F1 FS FT:aq) (z:SZ) (hg:At n=true) (hc:n.Ab.Ai < 9999) :
  Fn prog 169 [.agg #[ab a1 n.Ap.Ad.length c1,aa n.Ab.Aa.Am,aa n.Ab.Aa.size,ab a2 n.Ab.Aa.Al.length c2,aa n.Ab.Ai,aa n.Ab.quiet,ab a3 n.Ab.holds.length c3,ab a4 n.Ap.Ad.length c4,ab a5 n.Ap.Ad.length c5,ab a6 n.Ap.Ad.length c6,ab a7 n.Ap.Ad.length c7]] [Ga FT,.sl Bc (ab a1 n.Ap.Ad.length c1) n.Ap.Ad F1,.isv Ei (.agg #[aa n.Ab.Aa.Am,aa n.Ab.Aa.size,ab a2 n.Ab.Aa.Al.length c2,aa n.Ab.Ai,aa n.Ab.quiet,ab a3 n.Ab.holds.length c3]) n.Ab FS,.isv (EA Bz n.Ap.Ad.length) (.agg z.e.ys.flatten.toArray) n.Af z.e.G,.isv (EA Cb n.Ap.Ad.length) (.agg z.r.ys.flatten.toArray) n.Ac z.r.G,.isv (EA (O7 Ak EZ) n.Ap.Ad.length) (.agg z.d.ys.flatten.toArray) n.down z.d.G,.isv (EA (O7 Ak EZ) n.Ap.Ad.length) (.agg z.u.ys.flatten.toArray) n.up z.u.G] [.ow (EC 2) 111 (ab a4 n.Ap.Ad.length c4) z.e.ys z.e.F,.ow (EC 5) 118 (ab a5 n.Ap.Ad.length c5) z.r.ys z.r.F,.ow (EC 1) 120 (ab a6 n.Ap.Ad.length c6) z.d.ys z.d.F,.ow (EC 1) 120 (ab a7 n.Ap.Ad.length c7) z.u.ys z.u.F] (fun (_:SZ × TiS × KA)=>True) (fun y=>.tuple #[.agg #[aa ((Gw n).1.Ab).Aa.Am,aa ((Gw n).1.Ab).Aa.size,.slice y.2.1.a ((Gw n).1.Ab).Aa.Al.length y.2.1.c,aa ((Gw n).1.Ab).Ai,aa ((Gw n).1.Ab).quiet,.slice y.2.1.a2 ((Gw n).1.Ab).holds.length y.2.1.c2],.slice y.2.2.a (Gw n).2.length y.2.2.c]) (fun y=>[.ow (EC 2) 111 (ab a4 n.Ap.Ad.length c4) y.1.e.ys y.1.e.F,.ow (EC 5) 118 (ab a5 n.Ap.Ad.length c5) y.1.r.ys y.1.r.F,.ow (EC 1) 120 (ab a6 n.Ap.Ad.length c6) y.1.d.ys y.1.d.F,.ow (EC 1) 120 (ab a7 n.Ap.Ad.length c7) y.1.u.ys y.1.u.F,.isv (EA Bz n.Ap.Ad.length) (.agg y.1.e.ys.flatten.toArray) (Gw n).1.Af y.1.e.G,.isv (EA Cb n.Ap.Ad.length) (.agg y.1.r.ys.flatten.toArray) (Gw n).1.Ac y.1.r.G,.isv (EA (O7 Ak EZ) n.Ap.Ad.length) (.agg y.1.d.ys.flatten.toArray) (Gw n).1.down y.1.d.G,.isv (EA (O7 Ak EZ) n.Ap.Ad.length) (.agg y.1.u.ys.flatten.toArray) (Gw n).1.up y.1.u.G,.isv Ei (.agg #[aa ((Gw n).1.Ab).Aa.Am,aa ((Gw n).1.Ab).Aa.size,.slice y.2.1.a ((Gw n).1.Ab).Aa.Al.length y.2.1.c,aa ((Gw n).1.Ab).Ai,aa ((Gw n).1.Ab).quiet,.slice y.2.1.a2 ((Gw n).1.Ab).holds.length y.2.1.c2]) (Gw n).1.Ab y.2.1.F,.ow A9 9 (.slice y.2.2.a (Gw n).2.length y.2.2.c) (Gw n).2 y.2.2.F]):=by
 have hG:=Ax.1 hg;have h8:=Hl hG.t;have hn8:=h8.n1;have hn2:=h8.n0;obtain ⟨q1,q2,q3,q4⟩:=Bn.1 hG.l;have hkl:=Vp n.Ap.Ad 0;have hkx:∀x∈I0 n.Ap.Ad 0,0<=x/\x.toNat < n.down.length:=fun x hx=>by have:=Lv (i:=0) h8 hx;omega
 have hd:∀q∈n.down,q.length<=6:=fun q hq=>(C8 ((If hg).2.2.1 q hq)).1;refine enter func169 rfl ntmps169 fun w0=>?_;refine Jm n.Ap ?_;refine go ?_;intros;refine Be (Auy n.Ab _ FS hG.s) fun u _=>?_;refine Av (E:=Ak) (xs:=N2 n.Ab.Aa n.Ab.quiet) fun Fp=>?_;refine go ?_;intros;refine Ar [4] [] ?_;refine C4 0 1 2 4 ?_;refine dN 3 ?_;refine oC ?_;refine Be (Qi n.Ap 0 _ F1 (Tn h8.z (gJ _)) ⟨EY,EY⟩) fun v _=>?_;refine Av (E:=Bc) (xs:=I0 n.Ap.Ad 0) fun Fk=>?_;refine dk ?_;refine dN 5 ?_;refine oC ?_
 refine Be (Og n.down (I0 n.Ap.Ad 0) (N2 n.Ab.Aa n.Ab.quiet) _ _ _ _ _ _ _ _ _ _ _ _ _ _ _ _ _ _ _ _ _ _ _ _ _ z.d.ys z.d.F z.d.G _ _ Fk _ _ Fp hkx hd) fun y _=>?_;refine dk ?_;refine dd ?_;rw [show Dt n.down (I0 n.Ap.Ad 0) (N2 n.Ab.Aa n.Ab.quiet)=(Bf n 0).1.down from rfl];refine go ?_;intros;refine C3 A9 ?_;refine go ?_
 refine Ca [1,2,3,4] (fun s:TkZ=>[(6,.slice s.a (Bf n s.k).2.length s.c),(7,aa ((s.k+1:Nat):Int))]) (fun s=>[.ow (EC 2) 111 (ab a4 n.Ap.Ad.length c4) s.z.e.ys s.z.e.F,.ow (EC 5) 118 (ab a5 n.Ap.Ad.length c5) s.z.r.ys s.z.r.F,.ow (EC 1) 120 (ab a6 n.Ap.Ad.length c6) s.z.d.ys s.z.d.F,.ow (EC 1) 120 (ab a7 n.Ap.Ad.length c7) s.z.u.ys s.z.u.F,.isv (EA Bz n.Ap.Ad.length) (.agg s.z.e.ys.flatten.toArray) (Bf n s.k).1.Af s.z.e.G,.isv (EA Cb n.Ap.Ad.length) (.agg s.z.r.ys.flatten.toArray) (Bf n s.k).1.Ac s.z.r.G,.isv (EA (O7 Ak EZ) n.Ap.Ad.length) (.agg s.z.d.ys.flatten.toArray) (Bf n s.k).1.down s.z.d.G,.isv (EA (O7 Ak EZ) n.Ap.Ad.length) (.agg s.z.u.ys.flatten.toArray) (Bf n s.k).1.up s.z.u.G,.ow A9 9 (.slice s.a (Bf n s.k).2.length s.c) (Bf n s.k).2 s.F]) (fun s=>s.k+1<=n.Ap.Ad.length/\(Bf n s.k).2.length<=40000 * s.k) (fun s=>n.Ap.Ad.length - s.k) ⟨0,⟨z.e,z.r,⟨y.ys,y.F,y.G⟩,z.u⟩,_,_,_⟩ ⟨by show 0+1<=_;omega,aK _⟩ fun s hs0=>?_
 obtain ⟨k,⟨⟨ye,Fe,Ge⟩,⟨yr,Fr,Gr⟩,⟨yd,Fd,Gd⟩,⟨yu,Fu,Gu⟩⟩,ea,ec,eF⟩:=s;obtain ⟨hk,hel⟩:=hs0;dsimp only at hk hel ⊢;obtain ⟨hGN,hT,hSrc⟩:=P6 hg hc k EY;obtain ⟨r1,r2,r3,r4⟩:=Bn.1 hGN.l;rw [hT] at r1 r2 r3 r4;refine go ?_;refine Ay rfl (fun h1=>?_) (fun h1=>?_)
 ·have hj:k+1 < n.Ap.Ad.length:=EY
  obtain ⟨i1,i2,i3,i4,hrn⟩:=hGN.rn (i:=k+1) (by rw [hT];exact hj);rw [hT] at hrn;obtain ⟨d0,d1_⟩:=Ac9 (i:=k+1);refine go ?_;refine Be (Ot n.Ap ((k+1:Nat):Int) _ F1 h8 EY) fun _ _=>?_;cases hlf:Et n.Ap.Ad ((k+1:Nat):Int)
  ·obtain ⟨hge,hck, -⟩:=hrn.hn EY hlf;obtain ⟨hgc,hel5, -⟩:=Hp.1 hge;have hnx:Bf n (k+1)=(⟨n.Ap,Nj n.Ab,(Bf n k).1.Af.set (k+1) (Er (Bf n k).1.Af[k+1]),(Bf n k).1.Ac,(Bf n k).1.down,(Bf n k).1.up⟩,(Bf n k).2++[]):=by
    show ((N1 (Bf n k).1 (k+1)).1,(Bf n k).2++(N1 (Bf n k).1 (k+1)).2)=_;unfold N1;rw [hT,hlf,aC EZ,J9 i1,hSrc]
   rw [bc] at hnx;refine go ?_;refine Fs (ys:=ye) fun hm hlr=>?_;refine Aib (E:=Bz) (ys:=ye) (xs:=(Bf n k).1.Af) (k+1) hm EY EY fun h2 h3 v Gi ev=>?_;generalize hE:(Bf n k).1.Af[k+1]=E at *;refine Ee (v:=v) (x:=E) ?_;rintro b1 d1 G1 rfl l1;have e8:ye[k+1]=[aa E.Ai,ab b1 E.Ah.length d1]:=JO
   refine Q4 (E:=EC 2) (xs:=ye) (m:=2) (Ik 2) (k+1) ?_ FC rfl h2;rintro _ g A cs B rfl k2 k3 hH;obtain ⟨k4, -, -⟩:=k3 w0;rw [e8] at k4;subst k4;dsimp only [List.append];refine go ?_;refine Ar [0,16] [10] ?_;refine C4 0 1 2 3 ?_;refine C4 4 5 6 7 ?_;refine dN 8 ?_;refine oC ?_;refine cr (fun w st=>Akd _ E Gi w (st.get (p:=.isv _ _ _ _) FD) hgc EY (fun x hx=>by have:=P2 hge hx;omega)) fun v3 FU=>?_;refine Ee (v:=v3) ?_;rintro b3 d3 G3 rfl l3;refine dk ?_;refine dt 9 ?_;refine dN 10 ?_;refine oS ?_;refine Nm ?_;refine dd ?_
   refine P8 (E:=EC 2) (xs:=ye) [aa (Er E).Ai,.slice b3 (Er E).Ah.length d3] hH (fun _=>⟨rfl,⟨rfl,FO⟩,rfl⟩) ?_;refine Re (E:=Bz) (ys:=ye) (xs:=(Bf n k).1.Af) (x:=Er E) (k+1) rfl hm EY fun G'=>?_;refine go ?_;refine Ce ⟨k+1,⟨⟨ye.set (k+1) [aa (Er E).Ai,.slice b3 (Er E).Ah.length d3],[g],G'⟩,⟨yr,Fr,Gr⟩,⟨yd,Fd,Gd⟩,⟨yu,Fu,Gu⟩⟩,ea,ec,eF⟩ ⟨JL,by rw [hnx];dsimp only;omega⟩ GC GH GG
  ·obtain ⟨-,hgr0,hck⟩:=hrn.hf EY hlf;have hgr:=El.1 hgr0;obtain ⟨hsm,hfew⟩:=Aeb hgr;have hnx:Bf n (k+1)=(⟨n.Ap,Nj n.Ab,(Bf n k).1.Af,(Bf n k).1.Ac.set (k+1) (C2 (Bf n k).1.Ac[k+1] (Nn (k+1))),(Bf n k).1.down,(Bf n k).1.up.set (k+1) (Ht (Bf n k).1.up[k+1] (Fh (Bf n k).1.Ac[k+1]))⟩,(Bf n k).2++U3 (k+1) (Hv (Bf n k).1.Ac[k+1])):=by
    show ((N1 (Bf n k).1 (k+1)).1,(Bf n k).2++(N1 (Bf n k).1 (k+1)).2)=_;unfold N1;rw [hT,hlf,aH rfl,Hf i2,hSrc,In i4]
   have htl:(U3 (k+1) (Hv (Bf n k).1.Ac[k+1])).length=(Hv (Bf n k).1.Ac[k+1]).length:=bf ..;have hu6:=(C8 hrn.hu).1;generalize hR:(Bf n k).1.Ac[k+1]=R at *;generalize hQ:(Bf n k).1.up[k+1]=Q at *;refine go ?_;refine Fs (ys:=yr) fun hm hlr=>?_;refine Aib (E:=Cb) (ys:=yr) (xs:=(Bf n k).1.Ac) (k+1) hm EY EY fun h2 h3 v Gi ev=>?_;rw [hR];refine Fm (v:=v) (x:=R) ?_;rintro b1 d1 G1 b2 d2 G2 rfl l1 l2;have e8:yr[k+1]=[.bool (R).Bg,aa (R).Ai,aa (R).Aa.next,.slice b1 (R).Aa.Ao.length d1,.slice b2 (R).An.length d2]:=JO
   refine Q4 (E:=EC 5) (xs:=yr) (m:=5) (Ik 5) (k+1) ?_ FC rfl h2;rintro _ g A cs B rfl k2 k3 hH;obtain ⟨k4, -, -⟩:=k3 w0;rw [e8] at k4;subst k4;dsimp only [List.append];refine go ?_
   refine Dv [1,2,3,4,6,7] [0,1,2,3,4,5,6,7,8,9,10,11,12,13,14,15,16,17,18,19,20,21,22] (fun w:Nat × TkR=>[(8,Gj w.1 0 0),(9,.slice w.2.a3 (Fh R).length w.2.c3),(10,.slice w.2.a4 (Hv R).length w.2.c4)]) (fun w=>[.row w.1 118 0 [] [.bool (C2 R (Nn (k+1))).Bg,aa (C2 R (Nn (k+1))).Ai,aa (C2 R (Nn (k+1))).Aa.next,.slice w.2.a1 (C2 R (Nn (k+1))).Aa.Ao.length w.2.c1,.slice w.2.a2 (C2 R (Nn (k+1))).An.length w.2.c2] [],.isv Cb (.agg #[.bool (C2 R (Nn (k+1))).Bg,aa (C2 R (Nn (k+1))).Ai,aa (C2 R (Nn (k+1))).Aa.next,.slice w.2.a1 (C2 R (Nn (k+1))).Aa.Ao.length w.2.c1,.slice w.2.a2 (C2 R (Nn (k+1))).An.length w.2.c2]) (C2 R (Nn (k+1))) w.2.F1,.ow Ak 159 (.slice w.2.a3 (Fh R).length w.2.c3) (Fh R) w.2.F3,.ow A9 9 (.slice w.2.a4 (Hv R).length w.2.c4) (Hv R) w.2.F4]) (fun _=>True) ?_ fun w _=>?_
   ·skip
    refine Ar [0,17] [] ?_;refine C4 0 1 2 3 ?_;refine Dh 4 5 ?_;refine dM 6 12 ?_ ?_
    ·refine oC ?_;refine Be (Wr (k+1) EY) fun _ _=>?_;refine dk ?_;refine dM 7 12 ?_ ?_
     ·refine oC ?_;refine Be (Adn R (Nn (k+1)) _ Gi hgr EY EY (by have:=hgr.k1;omega)) fun s _=>?_;refine dk ?_;refine C4 8 9 10 11 ?_;refine dN 12 ?_;apply Cn;rfl;intro _;refine dk ?_;refine dN 13 ?_;refine oS ?_;refine dk ?_;refine Dh 14 15 ?_;refine dd ?_;refine Bk (⟨_,s⟩:Nat × TkR) trivial
     ·apply Cn;rfl;intro _;exact BS
    ·apply Cn;rfl;intro _;refine dk ?_;refine dN 6 ?_;refine oC ?_;refine Be (Wr (k+1) EY) fun _ _=>?_;exact BS
   obtain ⟨gr,s⟩:=w;dsimp only;refine Hy ?_;intros;refine P8 (E:=EC 5) (xs:=yr) [.bool (C2 R (Nn (k+1))).Bg,aa (C2 R (Nn (k+1))).Ai,aa (C2 R (Nn (k+1))).Aa.next,.slice s.a1 (C2 R (Nn (k+1))).Aa.Ao.length s.c1,.slice s.a2 (C2 R (Nn (k+1))).An.length s.c2] hH (fun _=>⟨rfl,⟨rfl,FO⟩,rfl⟩) ?_;refine Re (E:=Cb) (ys:=yr) (xs:=(Bf n k).1.Ac) (x:=C2 R (Nn (k+1))) (k+1) rfl hm EY fun G'=>?_;refine Av (E:=Ak) (xs:=Fh R) fun Fp9=>?_;refine Fs (ys:=yu) fun hmu hlu=>?_;refine Aia (ys:=yu) (xs:=(Bf n k).1.up) (k+1) hmu EY EY fun h9 _ Gq=>?_;rw [hQ]
   refine Adj (x:=Q) fun a9 c9 e9 l9=>?_;have e10:yu[k+1]=[ab a9 Q.length c9]:=JS
   refine Q4 (E:=EC 1) (xs:=yu) (m:=1) (Ik 1) (k+1) ?_ FC rfl h9;rintro _ gu Au cs Bu rfl j2 j3 hHu;obtain ⟨j4, -, -⟩:=j3 w0;rw [e10] at j4;subst j4;refine go ?_;refine Ar [0,24] [11] ?_;refine C4 0 1 2 3 ?_;refine C4 4 5 6 7 ?_;refine dt 8 ?_;refine dN 9 ?_;refine oC ?_;refine Be (Ahc Q (Fh R) a9 c9 _ _ _ Fp9 EY) fun r _=>?_;refine dk ?_;refine dt 10 ?_;refine dN 11 ?_;refine oS ?_;refine Nm ?_;refine dd ?_;refine P8 (E:=EC 1) (xs:=yu) [.slice r.a (Ht Q (Fh R)).length r.c] hHu (fun _=>⟨rfl,⟨rfl,FO⟩,rfl⟩) ?_
   refine Av (E:=Ak) (xs:=Ht Q (Fh R)) fun Fu=>?_;refine Aba (E:=Ak) (x:=Ht Q (Fh R)) EZ ?_;refine Re (E:=O7 Ak EZ) (ys:=yu) (xs:=(Bf n k).1.up) (x:=Ht Q (Fh R)) (k+1) rfl hmu EY fun Gv=>?_;refine Av (E:=A9) (xs:=Hv R) fun F7=>?_;refine go ?_;refine Be (Ake (k+1) (Hv R) _ _ F7 FT EY EY hsm) fun u9 _=>?_;refine Av (E:=A9) (xs:=U3 (k+1) (Hv R)) fun F8=>?_;apply wO;refine N5 (E:=A9) (xs:=(Bf n k).2) (ys:=U3 (k+1) (Hv R)) D7 Ie fun ax cx Fx=>?_;refine go ?_
   refine Ce ⟨k+1,⟨⟨ye,Fe,Ge⟩,⟨yr.set (k+1) [.bool (C2 R (Nn (k+1))).Bg,aa (C2 R (Nn (k+1))).Ai,aa (C2 R (Nn (k+1))).Aa.next,.slice s.a1 (C2 R (Nn (k+1))).Aa.Ao.length s.c1,.slice s.a2 (C2 R (Nn (k+1))).An.length s.c2],[g],G'⟩,⟨yd,Fd,Gd⟩,⟨yu.set (k+1) [.slice r.a (Ht Q (Fh R)).length r.c],[gu],Gv⟩⟩,ax,cx,Fx⟩ ⟨JL,by rw [hnx];dsimp only;rw [aA,htl];omega⟩ GC GH GG
 ·have hke:n.Ap.Ad.length - 1=k:=EY
  rw [show Gw n=Bf n k by unfold Gw;rw [hke],hSrc];refine go ?_;refine ret (⟨⟨⟨ye,Fe,Ge⟩,⟨yr,Fr,Gr⟩,⟨yd,Fd,Gd⟩,⟨yu,Fu,Gu⟩⟩,u,⟨0,ea,ec,eF⟩⟩:SZ × TiS × KA) trivial rfl
end Go.Proofs.YtmppejmafbfhlaaGreatDoor
