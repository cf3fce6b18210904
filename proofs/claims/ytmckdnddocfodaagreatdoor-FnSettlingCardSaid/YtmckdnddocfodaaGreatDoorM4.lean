/- Part 4 of the proof: 50 texts, one behind the other. -/
import Derived.BigQuiet
import Derived.Deep.RegionLaw
import Derived.Test.YtmckdnddocfodaaGreatDoorShelf
import Derived.Lib.RowBridge
import Derived.Test.YtmckdnddocfodaaGreatDoorM3
open _root_.Go.Proofs.Tryz
set_option maxRecDepth 100000
set_option maxHeartbeats 8000000
set_option linter.all false
set_option linter.unusedVariables false
set_option linter.unusedSimpArgs false
namespace Go.Proofs.YtmckdnddocfodaaGreatDoor
theorem AC{p:Prop}(h:p:=by refine dk ?_;refine dN 7 ?_;refine No (N7 n) Dw (fun a3 c3 F3=>?_) (h63:=by exact I2) (hby:=by exact I2);refine dk ?_;refine dN 11 ?_;refine M0 Dw Eh (fun a4 c4 F4=>?_) (h63:=by exact I2) (hby:=by exact I2);refine dk ?_;refine dt 12 ?_;refine dd ?_;rw [e];refine go ?_;refine ret ⟨_,_,_⟩ trivial rfl):p:=h
theorem AM{p:Prop}(h:p:=by refine dk ?_;refine dt 5 ?_;refine dd ?_;refine go ?_;refine Eo (xs:=[Kd x.Aa]) (Dj _ (by show (⟨#[]⟩:am).size<=maxLen;decide)) ?_ (by simp);refine ret ⟨_,_,_,_,_,_,_,_⟩ trivial rfl):p:=h
theorem BA{p:Prop}(h:p:=by refine ret () trivial rfl):p:=h
theorem BB{p:Prop}(h:p:=by refine dk ?_;refine dN 4 ?_;refine M0 Dw Eh (fun a2 c2 F2=>?_) (hn:=by rw [aL];omega) (h63:=by exact I2) (hby:=by exact I2);exact AC):p:=h
theorem BE{p:Prop}(h:p:=by refine go ?_;refine Bw (Agz r p d g t o A B a1 c1 F1 a2 c2 F2 hg hp d0 d1) fun s _=>?_;refine go ?_;refine ret ⟨s.a1,s.c1,s.F1,s.a2,s.c2,s.F2,s.ae,s.ce,s.Fe⟩ trivial rfl):p:=h
theorem BF{p:Prop}(h:p:=by rw [show Mm x=⟨x.Aa,x.Ae+1,x.quiet+1,Hx x.Aa (x.Ae+1) x.holds⟩ from by unfold Mm L9;rw [ar (by omega)],show G0 x.Aa x.quiet=[] from ar (by omega)];refine go ?_;intros;refine Dk Ap ?_;refine Az (E:=Bx) fun F9=>?_;refine Ed ⟨x.Aa,x.Ae+1,x.quiet+1,Hx x.Aa (x.Ae+1) x.holds⟩ (a1:=a5) ?_;refine ret ⟨_,_,_,_,_,_,_,_⟩ trivial rfl):p:=h
theorem BQ{p:Prop}(h:p:=by refine dk ?_;refine dN 8 ?_;refine oC ?_;refine Bw (Sx r.Aa (Ct (Cf r)) _ FW w0_ w1_ hs0 hs1 hw8 hit) fun y hy=>?_;refine dk ?_;refine Ek 9 10 ?_;refine dt 11 ?_;refine dN 13 ?_;refine oS ?_;refine dk ?_;refine dt 14 ?_;refine dd ?_;refine Cs (⟨_,y⟩:GvS) hy):p:=h
theorem BU{p:Prop}(h:p:=by refine dk ?_;refine dN 11 ?_;refine M0 (E:=Bc) (xs:=[]) (ys:=x.An.drop k) Ej Gp fun a7 c7 F7=>?_;rw [bb];refine dk ?_;refine dt 12 ?_;refine dN 13 ?_;refine oS ?_;refine dk ?_;refine dd ?_;refine go ?_;refine ret ⟨a7,c7,F7⟩ trivial rfl):p:=h
theorem BX{p:Prop}(h:p:=by refine dN 10 ?_;refine oS ?_;refine dk ?_;refine dt 11 ?_;refine dd ?_;refine go ?_;intros;apply wO;refine No (Dj (C9 W p).1 (Ac6 hW)) Ig fun a9 c9 F9=>?_;refine go ?_;refine ret ⟨a,c,z.1,z.2.1,_,a9,c9,F9⟩ trivial rfl):p:=h
theorem CA{p:Prop}(h:p:=by refine Cv (⟨k+1,_,_,_⟩:PkS) (by show k+1<=l.length;omega) (by show l.length - (k+1) < l.length - k;omega)):p:=h
theorem CH{p:Prop}(h:p:=by refine dk ?_;refine dN 7 ?_;refine M0 Id Hl fun a5 c5 F5=>?_;rw [bb];refine dk ?_;refine dt 8 ?_;refine dN 10 ?_;refine oS ?_;refine dk ?_;refine dd ?_;refine Cs (⟨_,_,_,_⟩:Au5) trivial):p:=h
theorem CJ{p:Prop}(h:p:=by refine M0 Dw Eh (fun a2 c2 F2=>?_) (hn:=by rw [aL];omega) (h63:=by exact I2) (hby:=by exact I2);refine dk ?_;refine dN 6 ?_;apply In;rfl;rfl;rfl;rfl;exact Ik;exact Ie;intro _;exact AC):p:=h
theorem DF{p:Prop}(h:p:=by refine go ?_;refine Cv ⟨z.k+1,z.a,z.c,z.F⟩ (by show z.k+1<=t.Ad.length;omega) (by show t.Ad.length - (z.k+1) < t.Ad.length - z.k;omega)):p:=h
theorem DP{p:Prop}(h:p:=by refine ret ⟨_,_,_,_,_⟩ trivial rfl):p:=h
theorem EB{p:Prop}(h:p:=by apply In;rfl;rfl;rfl;rfl;exact Ik;exact Ie;intro _;refine dk ?_;refine dN 0 ?_;apply Lt;rfl;intro _;refine Dk Bi ?_;exact BB):p:=h
theorem EF{p:Prop}(h:p:=by refine Cv ⟨z.k+1,a9,c9,F9⟩ (by show z.k+1<=t.Ad.length;omega) (by show t.Ad.length - (z.k+1) < t.Ad.length - z.k;omega)):p:=h
theorem GH{p:Prop}(h:p:=by show (⟨#[]⟩:am).size<=maxLen;decide):p:=h
theorem HE{p:Prop}(h:p:=by simp [hyl]):p:=h
theorem IU{p:Prop}(h:p:=by show n.Ao.Ad.length<=1000000;omega):p:=h
theorem JB{p:Prop}(h:p:=by show hs.length - (k+1) < _;omega):p:=h
end Go.Proofs.YtmckdnddocfodaaGreatDoor
namespace Go.Proofs.YtmckdnddocfodaaGreatDoor
open Go.RowKit
def Ae7 (x:Ak) (q:Aw):Bool:=Qa q.Ab x.next || decide (8<=gp x.next q.Ab) || Ho x q.Ab
theorem Awd {l:List Aw} {x:Ak}:(l.filter fun q=>!Ae7 x q)=C3 l x:=by
 unfold C3 Ae7;refine dZ fun q _=>?_;have e:decide (8<=gp x.next q.Ab) = !decide (gp x.next q.Ab < 8):=by rw [<-decide_not];exact dH.2 EM
 rw [e];cases Qa q.Ab x.next <;> cases Ho x q.Ab <;> simp
theorem Awf (q:Aw) (x:Ak) (nb gb g o:Nat) (st:Bool) (ck:Int) (qv:Value) (a1:ai) (c1:Nat) (F:ak) (w0_:0<=x.next) (w1_:x.next<=65535) (hn:Cm q.Ab=true) :
  FV 254 [.agg #[aa q.Ab,aa q.Dh,aa q.Bl,aa q.Ch],Fv nb 0 0,Fv gb 0 0] [.cel nb 0 [aa x.next],.cel gb 0 [Fv g o 0],.cel g o [.bool st,aa ck,aa x.next,ab a1 x.Am.length c1,qv],.isv Bz (.agg #[aa x.next,ab a1 x.Am.length c1]) x F] (.bool (Ae7 x q)):=by
 obtain ⟨n0,n1⟩:=Bb.1 hn;have hgb:=Kc x.next q.Ab
 refine enter func254 rfl ntmps254 fun w0=>?_;refine go ?_;intros;cases hb:Qa q.Ab x.next
 rotate_left
 ·rw [show Ae7 x q=true by unfold Ae7;rw [hb];rfl];refine As [0,1,2,3,4] [] ?_;refine Ek 0 1 ?_;refine dt 2 ?_;refine dN 3 ?_;refine oC ?_;refine ce (fun w s=>M6 _ _ _ EM EM EM EM) ?_;rw [hb];refine dk ?_;refine dt 4 ?_;refine ds 5 ?_;refine ds 6 ?_;refine ds 7 ?_;refine ds 8 ?_;refine ds 9 ?_;refine Ek 10 11 ?_;refine ds 12 ?_;refine ds 13 ?_;refine ds 14 ?_;refine ds 15 ?_;refine ds 16 ?_;refine ds 17 ?_;refine ds 18 ?_;refine Ek 19 20 ?_;exact CG
 by_cases h8':8<=gp x.next q.Ab
 ·have h8:=au h8';rw [show Ae7 x q=true by unfold Ae7;rw [h8];simp];refine As [0,1,2,3,4] [] ?_;refine Ek 0 1 ?_;refine dt 2 ?_;refine dN 3 ?_;refine oC ?_;refine ce (fun w s=>M6 _ _ _ EM EM EM EM) ?_;rw [hb];refine dk ?_;refine dt 4 ?_;refine E6 5 ?_;refine E6 6 ?_;refine E6 7 ?_;refine d1g 8 ?_;apply On.h;refine oC ?_;refine ce (fun w s=>Om _ _ _ EM EM EM EM) ?_;refine dk ?_;refine E6 9 ?_;rw [h8];refine Ek 10 11 ?_;refine ds 12 ?_;refine ds 13 ?_;refine ds 14 ?_;refine ds 15 ?_;refine ds 16 ?_;refine ds 17 ?_
  refine ds 18 ?_;refine Ek 19 20 ?_;exact CG
 ·have h8:=ay h8';rw [show Ae7 x q=Ho x q.Ab by unfold Ae7;rw [hb,h8];rfl];refine As [0,1,2,3,4] [] ?_;refine Ek 0 1 ?_;refine dt 2 ?_;refine dN 3 ?_;refine oC ?_;refine ce (fun w s=>M6 _ _ _ EM EM EM EM) ?_;rw [hb];refine dk ?_;refine dt 4 ?_;refine E6 5 ?_;refine E6 6 ?_;refine E6 7 ?_;refine d1g 8 ?_;apply On.h;refine oC ?_;refine ce (fun w s=>Om _ _ _ EM EM EM EM) ?_;refine dk ?_;refine E6 9 ?_;rw [h8];refine Ek 10 11 ?_;refine E6 12 ?_;refine E6 13 ?_;refine E6 14 ?_;refine E6 15 ?_;refine E6 16 ?_
  refine E6 17 ?_;refine d1g 18 ?_;apply On.h;refine oC ?_;refine Bw (Yl x q.Ab _ F w0_ w1_ n0 n1) fun _ _=>?_;refine dk ?_;refine Ek 19 20 ?_;exact CG
structure NwS where
 a1:ai
 c1:Nat
 F1:ak
 a2:ai
 c2:Nat
 F2:ak
 ae:ai
 ce:Nat
 Fe:ak
theorem Agz (r:Ay) (p:Ar) (d:Int) (g t o:Nat) (A B:aj) (a1:ai) (c1:Nat) (F1:ak) (a2:ai) (c2:Nat) (F2:ak) (hg:Eu r) (hp:Bh p=true) (d0:1<=d) (d1:d<=8) :
  Fn prog 232 [Fv g o 0,.agg #[aa p.Bd,aa p.Ab,aa p.Al,aa p.Cy,af p.data],aa d] [] [.row g t o A [.bool r.A1,aa r.Ae,aa (r.Aa).next,.slice a1 (r.Aa).Am.length c1,.slice a2 (r.Aj).length c2] B,.ow C5 190 (.slice a1 (r.Aa).Am.length c1) (r.Aa).Am F1,.ow A9 161 (.slice a2 (r.Aj).length c2) (r.Aj) F2] (fun (_:NwS)=>True)
   (fun s=>.slice s.ae (Ls r p).length s.ce) (fun s=>[.row g t o A [.bool (Gb r p d).A1,aa (Gb r p d).Ae,aa ((Gb r p d).Aa).next,.slice s.a1 ((Gb r p d).Aa).Am.length s.c1,.slice s.a2 ((Gb r p d).Aj).length s.c2] B,.ow C5 190 (.slice s.a1 ((Gb r p d).Aa).Am.length s.c1) ((Gb r p d).Aa).Am s.F1,.ow A9 161 (.slice s.a2 ((Gb r p d).Aj).length s.c2) ((Gb r p d).Aj) s.F2,.ow Bc 9 (.slice s.ae (Ls r p).length s.ce) (Ls r p) s.Fe]):=by
 have k0:=hg.k0;have k1:=hg.k1;obtain ⟨-,q1,q2, -⟩:=Dv.1 hg.q;have hser:∀q∈r.Aj,Cm q.Ab=true:=fun q hq=>(U6 hg hq).1;obtain ⟨hsg, -⟩:=Jj hg hp;obtain ⟨htg, -,htl⟩:=Oh hg hp;obtain ⟨hng,hnq, -,hnl⟩:=T5 hg hp d0 d1 EM;obtain ⟨s0_,s1_⟩:=Gg hsg;obtain ⟨v0_,v1_⟩:=Gg hng;obtain ⟨hw8,hit⟩:=Kz hsg;obtain ⟨n0,n1⟩:=Fg hp;have hp2:=hp;unfold Bh at hp2;simp only [av] at hp2;have htr:Cm p.Al=true:=hp2.1.1.1.1.2;have hld:Cm p.Cy=true:=hp2.1.1.1.2;have hps:p.data.size<=8:=V1 hp2.1.1.2;refine enter func232 rfl ntmps232 fun w0=>?_;refine go ?_;intros;rename_i g3 g4
 refine Gw [2,3,4,6] [0,1,4] (fun _:Unit=>[]) (fun _=>[.row g t o A [.bool true,aa r.Ae,aa (C8 r p).next,.slice a1 (C8 r p).Am.length c1,ab a2 r.Aj.length c2] B,.ow C5 190 (.slice a1 (C8 r p).Am.length c1) (C8 r p).Am F1]) (fun _=>True) ?_ fun _ _=>?_
 ·cases hs:r.A1
  ·by_cases hk:p.Bd=5
   ·have e:C8 r p=⟨p.Cy,r.Aa.Am⟩:=by unfold C8;rw [hs,ar hk];rfl
    have hkd:decide (p.Bd=5)=true:=au hk;rw [e];refine go ?_;refine Bf rfl (fun _=>?_) (fun h=>absurd hk h);refine go ?_;refine Cs () trivial
   ·have e:C8 r p=⟨p.Ab,r.Aa.Am⟩:=by unfold C8;rw [hs,aq hk];rfl
    rw [e];refine go ?_;refine Bf rfl (fun h=>absurd h hk) (fun _=>?_);refine go ?_;refine Cs () trivial
  ·have e:C8 r p=r.Aa:=by unfold C8;rw [hs];rfl
   rw [e];refine go ?_;refine Cs () trivial
 refine go ?_;refine Gw [2,3,4,6] [2,3,4] (fun s:SkS=>[(7,.slice s.ae (Jq r p).length s.ce)]) (fun s=>[.row g t o A [.bool true,aa r.Ae,aa (C0 r p).next,.slice s.a (C0 r p).Am.length s.c,ab a2 r.Aj.length c2] B,.ow C5 190 (.slice s.a (C0 r p).Am.length s.c) (C0 r p).Am s.F,.ow Bc 9 (.slice s.ae (Jq r p).length s.ce) (Jq r p) s.Fe]) (fun _=>True) ?_ fun s _=>?_
 ·by_cases hk:p.Bd=5
  ·have e1:C0 r p=C8 r p:=by unfold C0;rw [ar hk]
   have e2:Jq r p=[]:=by unfold Jq;rw [ar hk]
   refine Bf rfl (fun h=>absurd hk h) (fun _=>?_);rw [e1,e2];refine B4 Bc 9 ?_;refine go ?_;refine Cs (⟨a1,c1,F1,none,0,[]⟩:SkS) trivial
  ·have e1:C0 r p=Hy (C8 r p) p.Ab p.data:=by unfold C0;rw [aq hk]
   have e2:Jq r p=Jb (C8 r p) p.Ab p.data:=by unfold Jq;rw [aq hk]
   refine Bf rfl (fun _=>?_) (fun h=>absurd hk h);rw [e1,e2];refine Ans [.bool true,aa r.Ae] [aa (C8 r p).next,.slice a1 (C8 r p).Am.length c1] [ab a2 r.Aj.length c2] ?_;refine go ?_;refine As [2,3] [] ?_;refine D7 0 1 2 3 ?_;refine Ek 4 5 ?_;refine dt 6 ?_;refine dN 7 ?_;refine oC ?_;refine Bw (Aq9 (C8 r p) p.Ab p.data g t (o+2) (A++[.bool true,aa r.Ae]) _ a1 c1 F1 s0_ s1_ n0 n1 hw8 hit hps) fun y hy=>?_;obtain ⟨hy1,hy2⟩:=hy;refine dk ?_;refine D7 8 9 10 11 ?_;refine dd ?_
   refine Ael [.bool true,aa r.Ae] [aa y.y.next,ab y.a y.y.Am.length y.c] [ab a2 r.Aj.length c2] ?_;rw [<-hy1,<-hy2];refine go ?_;refine Cs (⟨_,_,_,_,_,_⟩:SkS) trivial
 obtain ⟨a3,c3,F3,ae,ce,Fe⟩:=s;dsimp only;refine go ?_;refine Bw (Au7 (C0 r p) true r.Ae p.Al _ g t o A B a3 c3 F3 htg htr) fun y _=>?_;have hsl:(Np (C0 r p) p.Al).length<=24:=by unfold Ls at hnl;rw [aw] at hnl;omega
 refine Az (E:=Bc) (xs:=Np (C0 r p) p.Al) fun G8=>?_;refine go ?_;apply wO;refine M0 (ys:=Np (C0 r p) p.Al) Ej Gp fun a9 c9 F9=>?_;rw [show Jq r p++Np (C0 r p) p.Al=Ls r p from rfl,show Jt (C0 r p) p.Al=Be r p from rfl];refine go ?_;intros;rename_i g11;refine As [3,6] [9] ?_;refine D7 0 1 2 3 ?_;refine Ek 4 5 ?_;refine dN 6 ?_;refine oC ?_;refine cfm (M:=[.ow A9 161 (ab a2 r.Aj.length c2) r.Aj F2]) (.cons EP .nil) (fun w st=>by
   have r1:=st.on (.row g11 3 0 [] [aa (Be r p).next] []) EO;have r2:=st.on (.row g3 169 0 [] [Fv g o 0] []) EO;have r3:=st.on (.row g t o A [.bool true,aa r.Ae,aa (Be r p).next,.slice y.a (Be r p).Am.length y.c,ab a2 r.Aj.length c2] B) EO;obtain ⟨Fw,hFw,hw⟩:=(st.on (.ow C5 190 (.slice y.a (Be r p).Am.length y.c) (Be r p).Am y.F) EO).2.read
   refine ⟨[.cel g11 0 [aa (Be r p).next],.cel g3 0 [Fv g o 0],.cel g o [.bool true,aa r.Ae,aa (Be r p).next,.slice y.a (Be r p).Am.length y.c,ab a2 r.Aj.length c2],.isv Bz (.agg #[aa (Be r p).next,.slice y.a (Be r p).Am.length y.c]) (Be r p) Fw],?_,rfl,?_,Aih 254 [] [Fv g11 0 0,Fv g3 0 0] _ rfl r.Aj a2 c2 F2 (fun q=>Ae7 (Be r p) q) ER EM (fun q hq w' hA=>(Awf q (Be r p) g11 g3 g o true r.Ae _ y.a y.c Fw v0_ v1_ (hser q hq)).val w' hA)⟩
   ·intro q hq;simp only [aF,aM,bn] at hq;rcases hq with rfl|rfl|rfl|rfl
    ·exact ⟨EO,Hq r1⟩
    ·exact ⟨EO,Hq r2⟩
    ·exact ⟨EO,Hq r3⟩
    ·exact ⟨_,rfl,_,rfl,hw⟩
   ·intro q hq b hb;simp only [aF,aM,bn] at hq;rcases hq with rfl|rfl|rfl|rfl
    ·exact ⟨.row g11 3 0 [] [aa (Be r p).next] [],EO,hb⟩
    ·exact ⟨.row g3 169 0 [] [Fv g o 0] [],EO,hb⟩
    ·exact ⟨.row g t o A [.bool true,aa r.Ae,aa (Be r p).next,.slice y.a (Be r p).Am.length y.c,ab a2 r.Aj.length c2] B,EO,hb⟩
    ·exact ⟨.ow C5 190 (.slice y.a (Be r p).Am.length y.c) (Be r p).Am y.F,EO,hFw b hb⟩) (fun z _=>?_)
 rw [Awd];refine dk ?_;refine Ek 7 8 ?_;refine dN 9 ?_;refine oS ?_;refine Pg ?_;refine dd ?_;refine go ?_;refine Bw (Ara (Be r p) (C3 r.Aj (Be r p)) true r.Ae p.Cy d g t o A B y.a y.c y.F z.1 z.2.1 z.2.2 hng hnq Oq hld k0 k1 d0 d1) fun u _=>?_;refine go ?_;refine ret ⟨_,_,_,_,_,_,_,_,_⟩ trivial rfl
structure Au5 where
 g:Nat
 a:ai
 c:Nat
 F:ak
theorem T2 (x:Ay) (v:Value) (F:ak) (hl:x.Aa.Am.length<=1000000000) (hl2:x.Aj.length<=1000000000):Fn prog 142 [v] [.isv Cg v x F] [] (fun (_:Value × ak)=>True) (fun s=>s.1) (fun s=>[.Mw Ca s.1 x s.2]):=by
 refine enter func142 rfl ntmps142 fun w0=>?_;refine Gn ?_;rintro a1 c1 F1 a2 c2 F2 rfl l1 l2;refine go ?_;intros;refine Gw [1,2] [0,1,2,3,4] (fun s:Au5=>[(3,Fv s.g 0 0)]) (fun s=>[.row s.g 80 0 [] [aa x.Aa.next,ab s.a x.Aa.Am.length s.c] [],.ow C5 190 (ab s.a x.Aa.Am.length s.c) x.Aa.Am s.F]) (fun _=>True) ?_ fun s _=>?_
 ·skip
  refine As [1] [] ?_;refine D7 0 1 2 4 ?_;refine Ek 5 6 ?_;refine dM 3 9 ?_ ?_
  ·apply Lt;rfl;intro _;refine Dk C5 ?_;refine dk ?_;refine dM 7 9 ?_ ?_
   ·refine M0 Id Hl fun a5 c5 F5=>?_;rw [bb];refine dk ?_;refine dt 8 ?_;refine dN 9 ?_;apply Cq;rfl;intro _;refine dk ?_;refine dN 10 ?_;refine oS ?_;refine dk ?_;refine dd ?_;refine Cs (⟨_,_,_,_⟩:Au5) trivial
   ·apply Cq;rfl;intro _;exact CH
  ·apply Cq;rfl;intro _;refine dk ?_;refine dN 3 ?_;apply Lt;rfl;intro _;refine Dk C5 ?_;exact CH
 obtain ⟨g3,a5,c5,F5⟩:=s;dsimp only;refine go ?_;refine As [0,3] [] ?_;refine D7 0 1 2 3 ?_;refine Ek 4 6 ?_;refine dt 7 ?_;refine dN 5 ?_;apply Lt;rfl;intro _;refine Dk A9 ?_;refine dk ?_;refine dN 8 ?_;refine M0 Dg Ee fun a6 c6 F6=>?_;rw [bb];refine dk ?_;refine dt 9 ?_;refine dN 10 ?_;refine oS ?_;refine dk ?_;refine dd ?_;refine go ?_;refine Ln x ?_;exact BK
theorem Abn (l:List Aw) (w:Ak) (a:ai) (c:Nat) (F:ak) (v:Value) (Fw:ak) (hl:l.length<=1000000) (hs:∀q∈l,Cm q.Ab=true) (w0_:0<=w.next) (w1_:w.next<=65535):Fn prog 197 [ab a l.length c,v] [.sl A9 (ab a l.length c) l F,.isv Bz v w Fw] [] (fun (_:ai × Nat × ak)=>True) (fun z=>.slice z.1 (C3 l w).length z.2.1) (fun z=>[.ow A9 161 (.slice z.1 (C3 l w).length z.2.1) (C3 l w) z.2.2]):=by
 refine enter func197 rfl ntmps197 fun w0=>?_;refine Cz ?_;rintro a1 c1 F1 rfl l1;refine go ?_;intros;refine Dk A9 ?_;refine Cu [0,3,4] (fun s:PkS=>[(6,aa (s.k:Nat)),(5,.slice s.a (C3 (l.take s.k) w).length s.c)]) (fun s=>[.ow A9 161 (.slice s.a (C3 (l.take s.k) w).length s.c) (C3 (l.take s.k) w) s.F]) (fun s=>s.k<=l.length) (fun s=>l.length - s.k) ⟨0,_,_,_⟩ (aD _) fun s hk=>?_;obtain ⟨k,a4,c4,F4⟩:=s;dsimp only at hk ⊢;refine go ?_;refine Bf rfl (fun h4=>?_) (fun h4=>?_)
 ·have hk:k < l.length:=EM
  have hkl:(C3 (l.take k) w).length<=k:=bi (bA _ _) FK;have hsk:=hs _ (aE hk);obtain ⟨n0,n1⟩:=Bb.1 hsk;have en:∀b,(!(Qa l[k].Ab w.next || Ho w l[k].Ab) && decide (gp w.next l[k].Ab < 8))=b->C3 (l.take (k+1)) w=C3 (l.take k) w++if b then [l[k]] else []:=fun b hb=>by
   unfold C3;rw [cF,aB hk,bp]
   congr 1
   show ([l[k]].filter _)=_;rw [bT,List.filter_nil,hb]
  refine Iu (xs:=l) k ?_;rintro hi b o e;rw [e];refine go ?_;cases g5:(Qa l[k].Ab w.next || Ho w l[k].Ab)
  ·skip
   refine As [0,2] [] ?_;refine D7 0 1 2 3 ?_;refine Ek 4 5 ?_;refine dN 6 ?_;refine oC ?_;refine Bw (Aan w l[k].Ab _ Fw w0_ w1_ n0 n1) fun _ _=>?_;rw [show Em w l[k].Ab=(Qa l[k].Ab w.next || Ho w l[k].Ab) from rfl,g5];refine dk ?_;refine Ek 7 8 ?_;refine E6 9 ?_;refine E6 10 ?_;refine E6 11 ?_;refine E6 12 ?_;refine E6 13 ?_;refine E6 14 ?_;refine E6 15 ?_;refine d1g 16 ?_;apply On.h;refine oC ?_;refine ce (fun w s=>I1 _ _ _ EM EM) ?_;refine dk ?_;refine E6 17 ?_;refine dt 18 ?_;refine dd ?_;refine go ?_;refine Bf rfl (fun h6=>?_) (fun h6=>?_)
   ·have e1:=en true (by rw [g5,au h6];rfl);refine go ?_;intros;apply wO;refine No (ys:=[l[k]]) (M2 l[k]) Dg fun a7 c7 F7=>?_;refine go ?_;rw [show C3 (l.take k) w++[l[k]]=C3 (l.take (k+1)) w from e1.symm];exact CA
   ·have e1:=en false (by rw [g5,ay h6];rfl);refine go ?_;rw [show C3 (l.take k) w=C3 (l.take (k+1)) w by rw [e1];simp];exact CA
  ·skip
   refine As [0,2] [] ?_;refine D7 0 1 2 3 ?_;refine Ek 4 5 ?_;refine dN 6 ?_;refine oC ?_;refine Bw (Aan w l[k].Ab _ Fw w0_ w1_ n0 n1) fun _ _=>?_;rw [show Em w l[k].Ab=(Qa l[k].Ab w.next || Ho w l[k].Ab) from rfl,g5];refine dk ?_;refine Ek 7 8 ?_;refine ds 9 ?_;refine ds 10 ?_;refine ds 11 ?_;refine ds 12 ?_;refine ds 13 ?_;refine ds 14 ?_;refine ds 15 ?_;refine ds 16 ?_;refine ds 17 ?_;refine dt 18 ?_;refine dd ?_;have e1:=en false (by rw [g5];rfl);refine go ?_;rw [show C3 (l.take k) w=C3 (l.take (k+1)) w by rw [e1];simp]
   exact CA
 have hk:k=l.length:=EM
 subst hk;rw [bG];refine go ?_;exact DD
structure GvS where
 g:Nat
 y:Z8
theorem Aap (r:Ay) (d:Int) (v:Value) (F:ak) (hg:Eu r) (d0:0<=d) (d1:d<=100) (_hx:r.Ae<=99999) :
  Fn prog 145 [v,aa d] [.isv Cg v r F] [] (fun (_:TkR)=>True) (fun s=>.tuple #[.agg #[.bool (Bj r d).A1,aa (Bj r d).Ae,aa (Bj r d).Aa.next,.slice s.a1 (Bj r d).Aa.Am.length s.c1,.slice s.a2 (Bj r d).Aj.length s.c2],.slice s.a3 (Db r).length s.c3,.slice s.a4 (Gs r).length s.c4])
   (fun s=>[.isv Cg (.agg #[.bool (Bj r d).A1,aa (Bj r d).Ae,aa (Bj r d).Aa.next,.slice s.a1 (Bj r d).Aa.Am.length s.c1,.slice s.a2 (Bj r d).Aj.length s.c2]) (Bj r d) s.F1,.ow Ap 103 (.slice s.a3 (Db r).length s.c3) (Db r) s.F3,.ow Bc 9 (.slice s.a4 (Gs r).length s.c4) (Gs r) s.F4]):=by
 have k0:=hg.k0;have k1:=hg.k1;obtain ⟨-,q1,q2, -⟩:=Dv.1 hg.q;obtain ⟨w0_,w1_⟩:=Gg hg.w;obtain ⟨hw8,hit⟩:=Kz hg.w;have hpl:(r.Aj.filterMap (Nq (r.Ae+1))).length<=8:=bi (cK _ _) q1;refine enter func145 rfl ntmps145 fun w0=>?_;refine Gn (v:=v) (x:=r) (F:=F) ?_;rintro a1 c1 F1 a2 c2 F2 rfl l1 l2;refine go ?_;intros;refine Bw (T2 r _ F EM EM) fun u _=>?_;refine I3 ?_;rintro a5 c5 F5 a6 c6 F6 e6 - -;rw [e6];refine Az (E:=C5) fun G5=>?_;refine go ?_;intros
 refine Bw (Ape r.Aj (r.Ae+1) d a2 c2 F2 EM (fun q hq=>⟨(Ep.1 (q2 q hq)).t0,(Ep.1 (q2 q hq)).t1⟩) EM EM EM EM) fun z _=>?_;rw [show r.Aj.filterMap (Sm (r.Ae+1))=Cf r from rfl,show r.Aj.filterMap (Qh (r.Ae+1) d)=Ir r d from rfl];refine Az (E:=Bi) (xs:=r.Aj.filterMap (Nq (r.Ae+1))) fun G2=>?_;refine Az (E:=Bi) (xs:=Cf r) fun G3=>?_;refine Dk Bc ?_;refine Dk Ap ?_;refine go ?_
 refine Cu [2,4,5,6,7,9,11,12] (fun s:PkS=>[(13,aa (s.k:Nat)),(8,.slice s.a (((r.Aj.filterMap (Nq (r.Ae+1))).take s.k).map (pkR r.Aa.next)).length s.c)]) (fun s=>[.ow Ap 103 (.slice s.a (((r.Aj.filterMap (Nq (r.Ae+1))).take s.k).map (pkR r.Aa.next)).length s.c) (((r.Aj.filterMap (Nq (r.Ae+1))).take s.k).map (pkR r.Aa.next)) s.F]) (fun s=>s.k<=(r.Aj.filterMap (Nq (r.Ae+1))).length) (fun s=>(r.Aj.filterMap (Nq (r.Ae+1))).length - s.k) ⟨0,_,_,_⟩ (aD _) fun s hs=>?_;obtain ⟨k,a4,c4,F4⟩:=s;dsimp only at hs ⊢;generalize hsn:r.Aj.filterMap (Nq (r.Ae+1))=sn at *;refine go ?_
 refine Bf rfl (fun h4=>?_) (fun h4=>?_)
 ·have hk:k < sn.length:=EM
  have hkl:((sn.take k).map (pkR r.Aa.next)).length<=k:=ET
  refine Jg (xs:=sn) k ?_;rintro hi b o2 e;rw [e];refine go ?_;have eo:(sn.take (k+1)).map (pkR r.Aa.next)=(sn.take k).map (pkR r.Aa.next)++[pkR r.Aa.next sn[k]]:=by rw [cF,aB hk,bZ];rfl
  refine As [0,10] [] ?_;refine D7 0 1 2 3 ?_;refine D7 4 5 6 7 ?_;refine D7 8 9 10 11 ?_;refine dN 12 ?_;apply In;rfl;rfl;rfl;rfl;exact Ik;exact Ie;intro _;refine dk ?_;refine dN 13 ?_;refine No (ys:=[pkR r.Aa.next sn[k]]) (Dj (pkR r.Aa.next sn[k]) GQ) Ig fun a7 c7 F7=>?_;refine dk ?_;refine dt 14 ?_;refine dd ?_;exact DI
 have hk:k=sn.length:=EM
 subst hk;rw [bG];have ep:Db r=sn.map (pkR r.Aa.next):=by unfold Db;rw [hsn]
 rw [ep];refine go ?_;by_cases hL:Cf r=[]
 ·refine Bf rfl (fun h=>absurd h (by rw [hL];decide)) (fun _=>?_);rw [Aep hL,Akk hL];refine go ?_;refine Az (E:=A9) fun F8=>?_;refine E8 (a1:=a5) ⟨r.A1,r.Ae+1,r.Aa,Ir r d⟩ ?_;refine ret ⟨_,_,_,_,_,[],_,_,_,_,_,_⟩ trivial rfl
 ·have hl0:=cY.2 hL;refine Bf rfl (fun _=>?_) (fun h=>absurd h EM);rw [Aa7 hL,Agt hL];obtain ⟨hs8,hsr⟩:=Ach hg hL;have hll8:=Aes r;obtain ⟨hs0,hs1⟩:=Bb.1 hsr;have hll:=Af8 hL;obtain ⟨l0,l1⟩:=Bb.1 (Aa9 hg (aE (show (Cf r).length - 1 < (Cf r).length by omega))).1;have hi1:((Cf r).length:Int) - 1=(((Cf r).length - 1:Nat):Int):=EM
  refine Cr (a1:=a5) r.Aa ?_;generalize G5=FW;refine Jg (xs:=Cf r) ((Cf r).length - 1) ?_;rintro hi b o2 e;rw [e];refine go ?_;refine Gw [4,5,6,7,8,9] [2,3,6,7,10,14] (fun s:GvS=>[(15,Fv s.g 0 0),(16,ab s.y.ae s.y.es.length s.y.ce)]) (fun s=>[.row s.g 80 0 [] [aa s.y.y.next,ab s.y.a s.y.y.Am.length s.y.c] [],.isv Bz (.agg #[aa s.y.y.next,ab s.y.a s.y.y.Am.length s.y.c]) s.y.y s.y.F,.ow Bc 9 (ab s.y.ae s.y.es.length s.y.ce) s.y.es s.y.Fe]) (fun s=>s.y.y=Gt r.Aa (Ct (Cf r))/\s.y.es=Fm r.Aa (Ct (Cf r))) ?_ fun s hy=>?_
  ·skip
   refine As [0,7] [] ?_;refine D7 0 1 2 3 ?_;refine dt 4 ?_;rw [hi1];refine Ek 5 6 ?_;refine dM 7 12 ?_ ?_
   ·refine oC ?_;refine ce (fun w s=>Hc _ _ _ EM EM) ?_;rw [<-hll];refine dk ?_;refine dM 8 12 ?_ ?_
    ·refine oC ?_;refine Bw (Sx r.Aa (Ct (Cf r)) _ FW w0_ w1_ hs0 hs1 hw8 hit) fun y hy=>?_;refine dk ?_;refine Ek 9 10 ?_;refine dt 11 ?_;refine dN 12 ?_;apply Cq;rfl;intro _;refine dk ?_;refine dN 13 ?_;refine oS ?_;refine dk ?_;refine dt 14 ?_;refine dd ?_;refine Cs (⟨_,y⟩:GvS) hy
    ·apply Cq;rfl;intro _;exact BQ
   ·apply Cq;rfl;intro _;refine dk ?_;refine dN 7 ?_;refine oC ?_;refine ce (fun w s=>Hc _ _ _ EM EM) ?_;rw [<-hll];exact BQ
  obtain ⟨g15,y⟩:=s;dsimp only at hy ⊢;obtain ⟨hy1,hy2⟩:=hy;have hmv:=Na (t:=Ct (Cf r)) hg.w;have hm0:0<=y.y.next:=by rw [hy1,hmv.1];exact (Is _ _).1
  have hm1:y.y.next<=65535:=by rw [hy1,hmv.1];exact (Is _ _).2
  have hes:y.es.length<=100:=by rw [hy2];have:=hmv.2.2.1;have:=@Wr r.Aa.next (Ct (Cf r));omega
  refine Az (E:=Bc) (xs:=y.es) fun G8=>?_;refine go ?_;apply wO;refine M0 (ys:=y.es) Ej Gp fun a9 c9 F9=>?_;rw [bb];refine Az (E:=A9) (xs:=Ir r d) fun F8=>?_;refine go ?_;refine Bw (Abn (Ir r d) y.y z.a z.c F8 _ y.F (by have:=Aba r d;omega) (fun q hq=>(Zs hg hq).1) hm0 hm1) fun u2 _=>?_;rw [hy1,Ab0 hg hL,<-hy1];refine go ?_;refine Cz (x:=y.y) ?_;rintro b1 d1 G1 e5 m1;simp only [Value.agg.injEq,Array.mk.injEq,List.cons.injEq,Value.slice.injEq,cP,de] at e5;obtain ⟨rfl,rfl⟩:=e5;refine Az (E:=A9) (xs:=Vk (Ir r d) y.y.next) fun F10=>?_
  refine E8 ⟨r.A1,r.Ae+1,y.y,Vk (Ir r d) y.y.next⟩ ?_;rw [<-hy2];refine ret ⟨_,_,_,_,_,[],_,_,_,_,_,_⟩ trivial rfl
def Aqo (md:Region.Mode) (ops:Array Oper) (X:Nat->Bool) (listed:Array Bool) (i:Nat):Bool:=(List.range ops.size).all fun j=>!X j || listed.getD j false || Ru md ops i ops.size j
section
variable {P:Program} {md:Region.Mode} {ops:Array Oper} {Q:Exit->Act->World->Prop} {S:World->Prop} {X:Nat->Bool}
theorem I4.firstL {i:Nat} {oi:Oper} {v:Value} (hi:ops[i]?=some oi) (hsel:∀(j:Nat) (o:Oper) cs b,ops[j]?=some o->o.op≠.select cs b)
  (hQ:∀c a w,Q (.panic c) (a.put oi.dst v) w->Q (.panic c) a w) :
  ∀(f:Nat) (listed:Array Bool) (a:Act) (w:World),(∀j,j < ops.size->X j=true->listed.getD j false=false->Ru md ops i ops.size j=true) ->
   (∀j oj,ops[j]?=some oj->j≠i->listed.getD j true=false->(∀e∈oj.after,Region.binds md e=true->e.on≠i)->oi.apart ops oj=true) ->
   Xg md ops listed->i∈Region.ready md ops listed->YieldsIf P ops S oi v a->S w->I4 P md ops Q S X f (listed.setIfInBounds i true) (a.put oi.dst v) w->I4 P md ops Q S X (f+1) listed a w:=by
 intro f
 induction f with
 | zero =>
  intro listed a w _ _ _ hr hy hS H;refine ⟨fun h=>GY,fun j hj=>?_⟩;by_cases hji:j=i
  ·exact DV
  ·have:=ready_mono hj hji;rw [H.1] at this;cases this
 | succ f ih =>
  intro listed a w hX hfree hcl hr hy hS H;refine ⟨fun h=>GY,fun j hj=>?_⟩;by_cases hji:j=i
  ·exact DV
  ·obtain ⟨hju,oj,hoj,hall⟩:=mem_ready.1 hj;have hiu:=Wc (mem_ready.1 hr).1;have hnot:∀e∈oj.after,Region.binds md e=true->e.on≠i:=fun e he hb heq=>by
    have h1:=hall e he hb;rw [heq,hiu] at h1;cases h1
   have hXj:X j=false:=by
    cases hx:X j
    ·rfl
    ·have h2:=Vc hcl ops.size j (fun o ho=>by obtain rfl:=Option.some.inj (ho.symm.trans hoj);exact hall) (hX j (dm.1 hoj).1 hx (Wc hju));rw [hiu] at h2;cases h2
   have h2:=wpOp_putIf hoj (hfree j oj hoj hji hju hnot) (fun cs b=>hsel i oi cs b hi) (fun cs b=>hsel j oj cs b hoj) hQ hy (H.2 j (ready_mono hj hji));refine wpOp_mono (fun a' w' h3=>⟨fun _=>h3.2.1 hXj,ih (listed.setIfInBounds j true) a' w' (fun k hk hx hun=>hX k hk hx ?_) (fun k ok hk hki hun hno=>hfree k ok hk hki ?_ hno) (hcl.set hj) (ready_mono hr (Ne.symm hji)) h3.1 (h3.2.1 hXj) ?_⟩) h2
   ·by_cases hjk:j=k
    ·subst hjk;exact Wc hju
    ·rw [getD_set_ne false hjk] at hun;exact hun
   ·by_cases hjk:j=k
    ·subst hjk;exact hju
    ·rw [getD_set_ne true hjk] at hun;exact hun
   ·rw [dV _ _ hji];exact h3.2.2
end
section
variable {c:Cx} {fr:Fr} {H H0:List Pc} {k:List It} {X:ak} {ops:Array Oper} {f:Nat} {listed:Array Bool} {d:Nat} {o:Op} {ty:TypeId} {pos:String} {A8:Array Edge} {v:Value}
theorem dtl (i:Nat) (h:T c ((d,v)::fr) H (.dx k H0 X ops f (listed.setIfInBounds i true))) (ho:ops[i]?=some ⟨some d,o,ty,pos,A8,none⟩:=by rw [aW];rfl) (hy:Yd c.P c.n fr H0 o ty v:=by exact ydE) (hs:Md H0 H:=by repeat (first|exact Md.nil|refine Md.cons EQ ?_))
  (h1:Region.noSelect ops=true:=by kernel_rfl) (h2:Region.free .any ops listed i=true:=by kernel_rfl) (h3:(Region.ready .any ops listed).contains i=true:=by kernel_rfl) (h4:Aqo .any ops (fun i=>X.contains i) listed i=true:=by kernel_rfl) (h5:Me .any ops listed=true:=by kernel_rfl) (hR:Vq c:=by exact W9) (hd:Nat.blt d c.n=true:=by rfl) :
  T c fr H (.dx k H0 X ops (f+1) listed):=.mk fun a w s g =>
 I4.firstL ho (Region.noSelect_spec h1) (fun ch a w hp=>by rw [Ly] at hp ⊢;exact hR _ _ _ _ _ hp) f listed a w (fun j hj hx hl=>by
   have:=aQ.1 h4 j (bX.2 hj);dsimp only at this;rw [hx,hl] at this;simpa using this) (Region.free_spec ho h2) (Aff h5) HL (.inl ⟨rfl,fun w' hw'=>hy.h a w' _ _ _ _ g hw'⟩) (fun p hp=>s.on p (hs.all p hp)) (h.h _ _ s (g.put hd))
end
theorem Au3 (fid:FuncId) (bd caps:aj) (A:List Pc) (hA:A.all (fun p=>!p.mu)=true) (xs:List Ar) (a:ai) (c:Nat) (F:ak) (p:Ar->Bool) (hb:O2 prog fid=true) (hl:xs.length<=1000000000)
  (hp:∀x∈xs,∀w,Nh A w->Calls prog fid (bd++[(.agg #[aa (x).Bd,aa (x).Ab,aa (x).Al,aa (x).Cy,af (x).data]:Value)]++caps).toArray w (RB (.bool (p x)) w)) :
  Fn prog 169 [ab a xs.length c,.func (.func fid) bd.toArray caps.toArray] (.sl Ap (ab a xs.length c) xs F::A) [] (fun (_:Unit)=>True) (fun _=>aa (Qz p xs)) (fun _=>[]):=by
 refine enter func169 rfl ntmps169 (fun w0=>?_) rfl EY .nil;refine go ?_;refine Ei [0,1,4,7] (fun k:Nat=>[(8,aa (k:Nat))]) (fun k=>k<=xs.length/\∀j (_:j < k) (hj:j < xs.length),p xs[j]=false) (fun k=>xs.length - k) 0 ⟨aD _,fun j h=>by omega⟩ fun k hk=>?_;obtain ⟨hk1,hk2⟩:=hk;refine go ?_;refine Bf rfl (fun h5=>?_) (fun h5=>?_)
 ·have hh:k < xs.length:=EM
  refine go ?_;refine N0 (xs:=xs) k ?_;rintro hi b o e sz;rw [e];refine go ?_;apply wO;refine Wn rfl rfl hb Tt ?_;refine cb (fun w st=>hp xs[k] (aE hh) w (fun q hq=>st.on q FB)) ?_;cases hpk:p xs[k]
  ·refine go ?_;refine Tg ?_;refine Cv (hH:=Jx _) (k+1) ⟨hh,fun j hj h=>?_⟩ EM;rcases aY (bt.1 hj) with h2|rfl
   ·exact hk2 j h2 h
   ·exact hpk
  ·refine go ?_;exact DW
 ·obtain rfl:k=xs.length:=EM
  refine go ?_;exact BO
theorem Aml (fid:FuncId) (bd caps:aj) (A:List Pc) (hA:A.all (fun p=>!p.mu)=true) (xs:List Ar) (a:ai) (c:Nat) (F:ak) (p:Ar->Bool) (hb:O2 prog fid=true) (hl:xs.length<=1000000000)
  (hp:∀x∈xs,∀w,Nh A w->Calls prog fid (bd++[(.agg #[aa (x).Bd,aa (x).Ab,aa (x).Al,aa (x).Cy,af (x).data]:Value)]++caps).toArray w (RB (.bool (p x)) w)) :
  Fn prog 108 [ab a xs.length c,.func (.func fid) bd.toArray caps.toArray] (.sl Ap (ab a xs.length c) xs F::A) [] (fun (_:Unit)=>True) (fun _=>.bool (xs.any p)) (fun _=>[]):=by
 refine enter func108 rfl ntmps108 (fun w0=>?_) rfl EY .nil;refine go ?_;refine cb (fun w st=>(Au3 fid bd caps A hA xs a c F p hb hl hp).val w (fun q hq=>st.on q (by simpa using hq)) EY) ?_;refine go ?_;refine ret () trivial ?_;rw [R8];rfl
theorem Au6 (r:Ay) (p:Ar) (d:Int) (g t o:Nat) (A B:aj) (a1:ai) (c1:Nat) (F1:ak) (a2:ai) (c2:Nat) (F2:ak) (hg:Eu r) (hp:Bh p=true) (d0:1<=d) (d1:d<=8) :
  Fn prog 206 [Fv g o 0,.agg #[aa p.Bd,aa p.Ab,aa p.Al,aa p.Cy,af p.data],aa d] [] [.row g t o A [.bool r.A1,aa r.Ae,aa (r.Aa).next,.slice a1 (r.Aa).Am.length c1,.slice a2 (r.Aj).length c2] B,.ow C5 190 (.slice a1 (r.Aa).Am.length c1) (r.Aa).Am F1,.ow A9 161 (.slice a2 (r.Aj).length c2) (r.Aj) F2] (fun (_:NwS)=>True)
   (fun s=>.slice s.ae (Hp r p).length s.ce) (fun s=>[.row g t o A [.bool (Bt r p d).A1,aa (Bt r p d).Ae,aa ((Bt r p d).Aa).next,.slice s.a1 ((Bt r p d).Aa).Am.length s.c1,.slice s.a2 ((Bt r p d).Aj).length s.c2] B,.ow C5 190 (.slice s.a1 ((Bt r p d).Aa).Am.length s.c1) ((Bt r p d).Aa).Am s.F1,.ow A9 161 (.slice s.a2 ((Bt r p d).Aj).length s.c2) ((Bt r p d).Aj) s.F2,.ow Bc 9 (.slice s.ae (Hp r p).length s.ce) (Hp r p) s.Fe]):=by
 have k0:=hg.k0;have k1:=hg.k1;obtain ⟨-,q1,q2, -⟩:=Dv.1 hg.q;obtain ⟨n0,n1⟩:=Fg hp;refine enter func206 rfl ntmps206 fun w0=>?_;refine go ?_;intros;by_cases hk1:p.Bd=1
 ·rw [au hk1];rw [show Bt r p d=Gb r p d by unfold Bt Dq;simp [hk1],show Hp r p=Ls r p by unfold Hp Dq;simp [hk1]];exact BE
 rw [ay hk1];refine go ?_;by_cases hk2:p.Bd=2
 ·rw [au hk2];rw [show Bt r p d=Gb r p d by unfold Bt Dq;simp [hk2],show Hp r p=Ls r p by unfold Hp Dq;simp [hk2]];exact BE
 rw [ay hk2];refine go ?_;by_cases hk5:p.Bd=5
 ·rw [au hk5];rw [show Bt r p d=Gb r p d by unfold Bt Dq;simp [hk5],show Hp r p=Ls r p by unfold Hp Dq;simp [hk5]];exact BE
 rw [ay hk5];refine go ?_;refine B4 Bc 9 ?_;have eE:Hp r p=[]:=by unfold Hp Dq;simp [hk1,hk2,hk5]
 by_cases hk4:p.Bd=4
 ·rw [au hk4];cases hs:r.A1
  ·rw [show Bt r p d=r by unfold Bt Dq;simp [hk1,hk2,hk5,hs],eE,hs];refine go ?_;refine ret ⟨_,_,_,_,_,_,none,0,_⟩ trivial rfl
  ·rw [show Bt r p d=Ts r p by unfold Bt Dq;simp [hk4,hs],eE,show (Ts r p).A1=true from hs];refine go ?_;refine As [0,1,2] [0,18,19,20,21,22] ?_;refine Xn 0 ?_;refine dtl 1 ?_;refine dtl 2 ?_;refine dtl 3 ?_;refine dtl 4 ?_;refine dtl 5 ?_;refine dtl 6 ?_;refine dtl 7 ?_;refine dtl 8 ?_;refine dtl 9 ?_;refine dtl 10 ?_;refine dtl 11 ?_;refine dtl 12 ?_;refine dtl 13 ?_;refine dtl 14 ?_;refine dtl 15 ?_;refine dN 16 ?_;refine oC ?_
   refine cfr (fun w st=>by obtain ⟨Fq, -,hq9⟩:=(st.get (p:=.ow A9 161 (ab a2 r.Aj.length c2) r.Aj F2) EO).2.read;exact ⟨[.sl A9 (ab a2 r.Aj.length c2) r.Aj Fq],I0 ⟨EN,hq9⟩,rfl,Zv r.Aj r.Aa.next p.Ab r.Ae a2 c2 Fq hg.q (Bb.2 ⟨n0,n1⟩) k0 k1⟩) (fun u _=>?_);refine dk ?_;refine dtl 17 ?_;refine Xn 18 ?_;refine Xn 19 ?_;refine Xn 20 ?_;refine Xn 21 ?_;refine dN 22 ?_;refine oS ?_;refine Pg ?_;refine dd ?_;refine go ?_;refine ret ⟨_,_,_,_,_,_,none,0,_⟩ trivial rfl
 rw [ay hk4];rw [show Bt r p d=r by unfold Bt Dq;simp [hk1,hk2,hk5,hk4],eE];refine go ?_;refine ret ⟨_,_,_,_,_,_,none,0,_⟩ trivial rfl
structure HaS where
 k:Nat
 a1:ai
 c1:Nat
 F1:ak
 a2:ai
 c2:Nat
 F2:ak
 ae:ai
 ce:Nat
 Fe:ak
structure EcS where
 k:Nat
 a:ai
 c:Nat
 F:ak
theorem Aww {α:Type} {O:B8 α} {P:Program} {f:FuncId} {args:aj} {x:α} {A:List Pc} (h:Fn P f args A [] (fun (_:Value × ak)=>True) (fun z=>z.1) (fun z=>[.Mw O z.1 x z.2])) (hA:A.all (fun p=>!p.mu)=true) {w:World} (hH:Nh A w):Calls P f args.toArray w (Arc O x w):=by
 refine (h.made w hH (fun _=>rfl) hA).mono ?_;rintro e w' ⟨z, -,he,hh,hn,hF,hB⟩;obtain ⟨h1,h2⟩:=hh (.Mw O z.1 x z.2) EO;exact ⟨z.1,z.2,he,h2,h1,fun b hb=>hF b (by simpa [fp,Pc.F,Pc.mu] using hb),hB⟩
theorem Apj (v:Value) (e:Bg) (F:ak) (hm:e.Af.length<=4294967296) (hm2:∀x∈e.Af,x.Bp.length<=4294967296):Fn prog 141 [v] [.isv B9 v e F] [] (fun (_:Value × ak)=>True) (fun z=>z.1) (fun z=>[.Mw Ck z.1 e z.2]):=by
 refine enter func141 rfl ntmps141 fun w0=>?_;refine Ez ?_;rintro a1 c1 F1 rfl l1;refine B4 Ew 132 ?_;refine go ?_;intros;rename_i g;refine Cu [1,2,3] (fun y:EcS=>[(4,aa (y.k:Nat))]) (fun y=>[.row g 76 0 [] [aa e.Ae,.slice y.a (e.Af.take y.k).length y.c] [],.ow Ew 132 (.slice y.a (e.Af.take y.k).length y.c) (e.Af.take y.k) y.F]) (fun y=>y.k<=e.Af.length) (fun y=>e.Af.length - y.k) ⟨0,none,0,[]⟩ (aD _) fun y hy0=>?_;obtain ⟨k,ya,yc,yF⟩:=y;dsimp only at hy0 ⊢;have htk:(e.Af.take k).length=k:=FK
 refine go ?_;refine Bf rfl (fun h1=>?_) (fun h1=>?_)
 ·have hk:k < e.Af.length:=EM
  have hfl:=hm2 _ (aE hk);refine Um (xs:=e.Af) k ?_;rintro hi b8 o8 a8 c8 F8 e8 l8;rw [e8];refine go ?_;intros;refine As [0,3] [13] ?_;refine D7 0 1 2 3 ?_;refine D7 4 5 7 8 ?_;refine dN 6 ?_;refine oC ?_;refine cn (fun w st=>Acg _ e.Af[k].Bp F8 w (st.get (p:=.sl Bi (.slice a8 e.Af[k].Bp.length c8) e.Af[k].Bp F8) EQ).2 EM) fun a9 c9 F9=>?_;refine Oj e.Af[k] ?_;refine dk ?_;refine dt 9 ?_;refine dN 10 ?_;apply In;rfl;rfl;rfl;rfl;exact Ik;exact Ie;intro _;refine dk ?_;refine dN 11 ?_;refine Ag3 Sf e.Af[k] rfl fun x4 d4 G4=>?_;refine dk ?_;refine dt 12 ?_
  refine dN 13 ?_;refine oS ?_;refine Pg ?_;refine dd ?_;rw [<-aZ hk];refine go ?_;refine Cv ⟨k+1,x4,d4,G4⟩ hk (by show e.Af.length - (k+1) < e.Af.length - k;omega)
 ·rw [show e.Af.take k=e.Af from bc EM];refine go ?_;refine Hg e ?_;exact BK
theorem Zc (v:Value) (e:Bg) (F:ak) (w:World) (h:Vf B9 w v e F) (hm:e.Af.length<=4294967296) (hm2:∀x∈e.Af,x.Bp.length<=4294967296):Calls prog 141 #[v] w (Arc Ck e w):=Aww (Apj v e F hm hm2) rfl (I0 h)
def Cn (e:Bg):Bg:=⟨e.Ae+1,e.Af.filter fun x=>!decide (x.Bl<=e.Ae+1)⟩
theorem Sl.headIn {α:Type} {E:B8 α} {w:World} {b off n cap:Nat} {xs:List α} {F} (h:Sl E w (ab (some ⟨b,off,none⟩) n cap) xs F) (k:Nat) (hk:k < xs.length):b∈F:=by
 obtain ⟨a',cap',hv,hl,h⟩:=h;cases hv;rcases h with ⟨rfl,_⟩|⟨b,off,F',he,_,rfl,hc⟩
 ·simp at hk
 ·cases he;simp
theorem Af6 (v:Value) (e:Bg) (F:ak) (w:World) (h:Vf B9 w v e F) (hc:J9 e.Ae=true) (hm:e.Af.length<=4294967296) (hm2:∀x∈e.Af,x.Bp.length<=4294967296) :
  Calls prog 102 #[v] w (Bau B9 (Cn e) w):=by
 have hcb:=Mq.1 hc;have hm2:=Lib.hid hm2;have h0:=h;obtain ⟨_,rfl,v1,rfl,h1⟩:=h;obtain ⟨a,cap,rfl⟩:=h1.slice;have hB0:∀A B:Obj,Below w.heap.size w ((w.alloc A).alloc B):=fun A B=>((Below.refl _ _).alloc (aA _) _).alloc EO _
 go_enter func102,ntmps102
 go_wp2_with fail;refine (Zc _ e F _ (h0.below (hB0 _ _)) hm hm2.out).mono ?_;rintro e' w1 ⟨_,Fo,rfl,⟨_,rfl,v2,rfl,ho⟩,hn,hFo,hb1⟩;obtain ⟨a2,cap2,rfl⟩:=ho.slice;have r0:=Jd.below (g:=w.heap.size) (t:=76) (cs:=[aa e.Ae,ab a e.Af.length cap]) HK hb1;have r1:=Jd.below (g:=w.heap.size+1) (t:=76) (cs:=[aa 0,ab none 0 0]) HK hb1;obtain ⟨Fr,hFr,hs⟩:=ho.sl P7;have hFl:=ho.lt;have hB:=tr (hB0 _ _) hb1 (aA _);have d0:=fun A=>(r0.alloc A).cells;have c0:=r0.cells;clear hb1;go_wp2_with fail
 go_loopw [5] (fun i wr=>∃k:Nat,k<=e.Af.length/\i=aa k/\∃oa oc F,Hid (Ow Eg 132 wr (.slice oa ((e.Af.take k).filter fun x=>!decide (x.Bl<=e.Ae+1)).length oc) ((e.Af.take k).filter fun x=>!decide (x.Bl<=e.Ae+1)) F)/\Hd F/\(∀b,oa=some b->w1.heap.size+1+1<=b.block)/\(∀c∈F,w.heap.size+2<=c/\c≠w1.heap.size/\c≠w1.heap.size+1) /\
  Jd wr (w.heap.size+1) 76 [aa 0,ab none 0 0]/\Jd wr w1.heap.size 76 [aa e.Ae,ab a2 e.Af.length cap2]/\Jd wr (w1.heap.size+1) 76 [aa (e.Ae+1),.slice oa ((e.Af.take k).filter fun x=>!decide (x.Bl<=e.Ae+1)).length oc]/\Below w1.heap.size w1 wr) (fun i _=>e.Af.length - (intOf i).toNat)
 case atStart=>exact ⟨0,aD _,rfl,none,0,[],Lib.hid (.inl ⟨rfl,EO,rfl⟩),Hd.nil,EO,EO,(r1.alloc _).alloc _,by simp [Lx],by simp [Lx],((Below.refl _ _).alloc (aA _) _).alloc EO _⟩
 case round =>
  obtain ⟨k,hk,rfl,oa,oc,F2,hO,hd2,hoa,hF2,hr1,hr2,hr3,hB2⟩:=hrel;have c1:=hr2.cells;have c2:=hr3.cells;have c4:=hr1.cells;have f4:=hr1.frozens;by_cases hlt:k < e.Af.length
  ·obtain ⟨b,off,_,F1,rfl,hx,hFx,ja⟩:=(hs.below EN hB2).at k hlt;obtain ⟨u1,rfl,hf⟩:=id hx;obtain ⟨fa,fc,rfl⟩:=hf.slice;have a0:=ja 0 EN;have a1:=ja 1 EN;have a2:=ja 2 EN;simp only [show Eg.sz=3 from rfl,bO,bH,bE] at a0 a1 a2;clear ja;by_cases hq:e.Af[k].Bl > e.Ae+1
   ·have hqf:=Lib.hid (Gj (q:=fun x:Et=>!decide (x.Bl<=e.Ae+1)) hlt ET);generalize hys:((e.Af.take k).filter fun x=>!decide (x.Bl<=e.Ae+1))=ys at *;have hys:=Lib.hid hys;go_wp2_with fail
    go_quiet (fail)
    go_wp2_with fail;have D1:=show Jd (wr.drewN nq) _ _ _ from hr1;have D2:=show Jd (wr.drewN nq) _ _ _ from hr2;have D3:=show Jd (wr.drewN nq) _ _ _ from hr3;have DO:=Lib.hid (show Ow Eg 132 (wr.drewN nq) _ _ _ from hO.out.frame fun _ _=>rfl);have DX:Eg.L5 (wr.drewN nq) _ _ _:=Eg.frame hx fun _ _=>rfl;have DB:=Iv hB2 nq;have b0:(wr.drewN nq).cell? ⟨b,off+k * 3,none⟩=_:=a0;have b1:(wr.drewN nq).cell? ⟨b,off+k * 3+1,none⟩=_:=a1;have b2:(wr.drewN nq).cell? ⟨b,off+k * 3+2,none⟩=_:=a2;clear hr1 hr2 hr3 hO hx hf hB2 a0 a1 a2 c1 c2 c4 f4;generalize wr.drewN nq=w2 at *
    have hbb:=World.block_lt_of_cell? w2 _ b0;simp only at hbb;have DBs:=DB.size;have t3:=fun A=>(D3.alloc A).cells 1;have t0:=D3.cells 1;have o0:=D2.cells 1;simp only [bH,bE] at t3 t0 o0;have hyl:ys.length<=4294967295:=by have:=congrArg List.length hys.out;have:=bA (fun x:Et=>!decide (x.Bl<=e.Ae+1)) (e.Af.take k);simp at this;omega
    have hA:=(Below.refl w2.heap.size w2).alloc (aA _) (.cells #[aa e.Af[k].Ab,.slice fa e.Af[k].Bp.length fc,aa e.Af[k].Bl] 132);have DOd:=Lib.hid ((DO.out.below hA).frame (w':=(w2.alloc (.cells #[aa e.Af[k].Ab,.slice fa e.Af[k].Bp.length fc,aa e.Af[k].Bl] 132)).drew) fun _ _=>rfl);have DXd:=Eg.frame (w':=(w2.alloc (.cells #[aa e.Af[k].Ab,.slice fa e.Af[k].Bp.length fc,aa e.Af[k].Bl] 132)).drew) (Eg.below DX hA) fun _ _=>rfl
    have E0':=kc hA o0;have E0:(w2.alloc (.cells #[aa e.Af[k].Ab,.slice fa e.Af[k].Bp.length fc,aa e.Af[k].Bl] 132)).drew.cell? _=_:=E0';have E1':=kc hA b0;have E1:(w2.alloc (.cells #[aa e.Af[k].Ab,.slice fa e.Af[k].Bp.length fc,aa e.Af[k].Bl] 132)).drew.cell? _=_:=E1';have E2':=kc hA b1;have E2:(w2.alloc (.cells #[aa e.Af[k].Ab,.slice fa e.Af[k].Bp.length fc,aa e.Af[k].Bl] 132)).drew.cell? _=_:=E2';have E3':=kc hA b2;have E3:(w2.alloc (.cells #[aa e.Af[k].Ab,.slice fa e.Af[k].Bp.length fc,aa e.Af[k].Bl] 132)).drew.cell? _=_:=E3'
    have nob:∀c∈(ab oa ys.length oc).ownBlock.toList,w1.heap.size+1+1<=c:=fun c hc=>by
     cases oa with
     | none=>simp [Value.ownBlock] at hc
     | some b=>simp [Value.ownBlock] at hc;subst hc;exact hoa b rfl
    have D3a:=show Jd (w2.alloc (.cells #[aa e.Af[k].Ab,.slice fa e.Af[k].Bp.length fc,aa e.Af[k].Bl] 132)).drew _ _ _ from D3.alloc (.cells #[aa e.Af[k].Ab,.slice fa e.Af[k].Bp.length fc,aa e.Af[k].Bl] 132);have hFs:∀c∈F1,c < w1.heap.size:=fun c hc=>hs.lt EN c (hFx c hc);have hbw:b < w1.heap.size:=hs.lt EN b (hs.headIn k hlt);have hn1:¬b=w1.heap.size+1:=EM
    have hn2:¬w1.heap.size+1=b:=EM
    go_region_law (first|((refine At5 U3 EN FC _ _ _ FC 132 (.agg #[aa 0,ab none 0 0,aa 0]) 40 underlying74 Xp rfl (ab oa ys.length oc) ys F2 FC DOd.out hd2 (some ⟨w2.heap.size,0,none⟩) [e.Af[k]] 1 FC [aa e.Af[k].Ab,.slice fa e.Af[k].Bp.length fc,aa e.Af[k].Bl] F1 (C6.one DXd) (.inr ⟨_,rfl,World.news_of_block (w:=(w2.alloc (.cells #[aa e.Af[k].Ab,.slice fa e.Af[k].Bp.length fc,aa e.Af[k].Bl] 132)).drew) (heap_alloc_new w2 _)⟩) (fun c hc he=>by have h1:=nob c (by rw [he];simp);have h2:=hFs c hc;omega) (by unfold maxLen;simp;omega) ET ?_);intro v4 w4 F4 hA4;obtain ⟨oa2,oc2,rfl⟩:=hA4.val;have D4:=D3a.keepK hA4.Amz (fun hm=>by have:=nob _ hm;omega);have t4:=D4.cells 1;have f4:=D4.frozens 1;simp only [bH,bE] at t4))
    all_goals
     have hn4:w1.heap.size+1 ∉ F4:=fun hm=>by
      rcases hA4.mem _ hm with h|h|h
      ·exact (hF2 _ h).2.2 rfl
      ·have:=hFs _ h;omega
      ·have:=D3.lt;simp at h;omega
     have P1:=Lib.hid (hA4.ow.setFar (p:=⟨w1.heap.size+1,1,none⟩) hn4 (ab oa2 (ys.length+1) oc2));have L1:=((show Jd (w2.alloc (.cells #[aa e.Af[k].Ab,.slice fa e.Af[k].Bp.length fc,aa e.Af[k].Bl] 132)).drew _ _ _ from D1.alloc (.cells #[aa e.Af[k].Ab,.slice fa e.Af[k].Bp.length fc,aa e.Af[k].Bl] 132)).keepK hA4.Amz (fun hm=>by have:=nob _ hm;have:=r1.lt;omega)).setOther (p:=⟨w1.heap.size+1,1,none⟩) (by have:=r1.lt;simp;omega) (ab oa2 (ys.length+1) oc2)
     have L2:=((show Jd (w2.alloc (.cells #[aa e.Af[k].Ab,.slice fa e.Af[k].Bp.length fc,aa e.Af[k].Bl] 132)).drew _ _ _ from D2.alloc (.cells #[aa e.Af[k].Ab,.slice fa e.Af[k].Bp.length fc,aa e.Af[k].Bl] 132)).keepK hA4.Amz (fun hm=>by have:=nob _ hm;omega)).setOther (p:=⟨w1.heap.size+1,1,none⟩) EO (ab oa2 (ys.length+1) oc2);have L3:=D4.set 1 (ab oa2 (ys.length+1) oc2);have hoa2:∀b,oa2=some b->w1.heap.size+1+1<=b.block:=fun c hc=>by
      subst hc;rcases hA4.Al3 with h|h
      ·simp only [Value.ownBlock] at h;exact nob _ (by cases oa <;> simp_all [Value.ownBlock])
      ·simp [Value.ownBlock] at h;have:=D3.lt;omega
     have hF4:∀c∈F4,w.heap.size+2<=c/\c≠w1.heap.size/\c≠w1.heap.size+1:=fun c hc=>by
      have hs3:=D3.lt;have hsw:=r1.lt;rcases hA4.mem _ hc with h|h|h
      ·exact hF2 _ h
      ·have h1:=hFs _ h;have h2:w.heap.size+2<=c:=(by simpa using hFo c (hFr c (hFx c h)));exact ⟨h2,EM,EM⟩
      ·simp at h;exact ⟨EM,EM,EM⟩
     have hB5:Below w1.heap.size w1 (w4.setCell ⟨w1.heap.size+1,1,none⟩ (ab oa2 (ys.length+1) oc2)) :=
      Below.setCell ((Iv (tr DB hA (aA _)) 1).trans (hA4.Amz.below ET (fun b hb=>by have:=nob b hb;omega))) EO _
     have hd4:=hA4.hd;clear hA4 D1 D2 D3 D4;go_wp2_with fail;exact ⟨⟨k+1,EM,HX,oa2,oc2,F4,by rw [hqf.out,aw];exact P1,hd4,hoa2,hF4,L1,L2,by rw [hqf.out,aw];exact L3,hB5⟩,FP⟩
   ·have hqf:=Lib.hid (Df (q:=fun x:Et=>!decide (x.Bl<=e.Ae+1)) hlt ET);generalize hys:((e.Af.take k).filter fun x=>!decide (x.Bl<=e.Ae+1))=ys at *;have hys:=Lib.hid hys;go_wp2_with fail
    go_quiet (fail)
    go_wp2_with fail;refine ⟨⟨k+1,EM,HX,oa,oc,F2,?_,hd2,hoa,hF2,hr1,hr2,?_,Iv hB2 _⟩,FP⟩
    ·rw [hqf.out];exact Lib.hid (hO.out.frame fun _ _=>rfl)
    ·rw [hqf.out];exact hr3
  ·have hk:k=e.Af.length:=EM
   subst hk;simp only [bG] at hO hr3 c2;obtain ⟨F3,hF3,hs3⟩:=hO.out.read;have hB3:=tr hB hB2 (aA _);go_wp2_with fail;refine bodyPost_ret (v:=.agg #[aa (e.Ae+1),.slice oa (e.Af.filter fun x=>!decide (x.Bl<=e.Ae+1)).length oc]) ?_ rfl ?_
   ·simp [results,results102,go_sem,c4,c2,f4]
   ·refine ⟨_,F3,rfl,⟨_,rfl,_,rfl,?_⟩,fun b hb=>by have:=(hF2 b (hF3 b hb)).1;omega,?_⟩
    ·refine hs3.frame fun b hb=>?_;have h2:=(hF2 b (hF3 b hb)).1;rw [Below.heap_setCell _ _ _ _ ET,Below.heap_setCell _ _ _ _ ET]
    ·repeat refine Below.setCell ?_ (by simp <;> omega) _
     exact hB3
theorem Al0 {lo hi:Int} {zs:al} (h:Pz lo hi zs=true):(zs.length:Int)<=hi - lo+1\/zs=[]:=by
 by_cases h0:zs=[]
 ·exact .inr h0
 ·left;have key:∀i (hi':i < zs.length),lo+i<=zs[i]/\zs[i]<=hi:=by
   intro i
   induction i with
   | zero =>
    intro hi';have:=I5 h 0 hi';rw [U7 hi'] at this;simp [Ht] at this;simpa using this
   | succ i ih =>
    intro hi';have:=I5 h (i+1) hi';rw [Si hi'] at this;have:=ih EM;simp [Ht] at *;omega
  have hp:=cY.2 h0;have:=key (zs.length - 1) EM;omega
theorem Afy {e:Bg} (h:Ba e=true):J9 e.Ae=true/\e.Af.length<=5/\∀x∈e.Af,x.Bp.length<=7:=by
 unfold Ba at h;simp only [av,aC] at h;refine ⟨h.1.1,h.1.2,fun x hx=>?_⟩;obtain ⟨i,hi,rfl⟩:=aR hx;have:=I5 h.2 i hi;rw [J8 hi] at this;simp [Kq] at this;rcases Al0 this.1.2.2.1 with h|h
 ·omega
 ·rw [h];simp
def Kg (l:al) (n:Int):Nat:=(l.takeWhile fun x=>decide (x < n)).length
def Px (l:al) (n:Int):al:=if l[Kg l n]?=some n then l else l.take (Kg l n)++n::l.drop (Kg l n)
def Le (e:Bg) (n:Int):Nat:=e.Af.findIdx fun x=>x.Ab == n
def Ka (e:Bg) (n f:Int):Bg:=match e.Af[Le e n]? with
 | some x=>⟨e.Ae,e.Af.set (Le e n) ⟨x.Ab,Px x.Bp f,x.Bl⟩⟩
 | none=>if e.Af.length < 5 then ⟨e.Ae,e.Af++[⟨n,[f],e.Ae+6⟩]⟩ else e
def Pi (e:Bg) (n:Int):Bool:=!e.Af.any fun x=>x.Ab == n
def Jz (e:Bg) (n:Int):Bg:=match e.Af[Le e n]? with
 | some _=>⟨e.Ae,e.Af.take (Le e n)++e.Af.drop (Le e n+1)⟩
 | none=>e
def Pr (e:Bg) (n:Int) (below:al):al:=match e.Af[Le e n]? with
 | some x=>x.Bp.filter fun f=>decide (f∈below)
 | none=>if e.Af.length=5 then below else []
theorem O6 (e:Bg) (n:Int):(∃(h:Le e n < e.Af.length),Qz (fun x=>x.Ab == n) e.Af=(Le e n:Nat)/\e.Af[Le e n].Ab=n/\Pi e n=false)\/(Qz (fun x=>x.Ab == n) e.Af=-1/\e.Af[Le e n]?=none/\Pi e n=true/\∀x∈e.Af,x.Ab≠n):=by
 cases h:e.Af.any fun x=>x.Ab == n
 ·right;have h':=cN.1 h;refine ⟨by unfold Qz;rw [h];rfl,?_,by simp [Pi,h],fun x hx=>by have:=h' x hx;simpa using this⟩;have:Le e n=e.Af.length:=List.findIdx_eq_length.2 (fun x hx=>by have:=h' x hx;simpa using this);rw [this];simp
 ·left;have h2:Le e n < e.Af.length:=by
   obtain ⟨x,hx,hp⟩:=bS.1 h;exact eC ⟨x,hx,hp⟩
  refine ⟨h2,by unfold Qz;rw [h];rfl,?_,by simp [Pi,h]⟩;have:(e.Af[Le e n].Ab == n)=true:=fL (p:=fun x:Et=>x.Ab == n) (xs:=e.Af) (w:=h2);simpa using this
theorem Aa0 {lo hi:Int} {zs:al} (h:Pz lo hi zs=true):zs.Pairwise (· < ·)/\∀z∈zs,lo<=z/\z<=hi:=by
 have hb:∀i (hi':i < zs.length),lo<=zs[i]/\zs[i]<=hi:=fun i hi'=>by
  have:=I5 h i hi';unfold Abv Ht at this;simp only [av,aC] at this;rw [aT,aB hi'] at this;simpa using this.1
 refine ⟨?_,fun z hz=>by obtain ⟨i,hi',rfl⟩:=aR hz;exact hb i hi'⟩;have step:∀i (hi:i+1 < zs.length),zs[i] < zs[i+1]:=fun i hi'=>by
  have:=I5 h (i+1) hi';rw [Si hi'] at this;simp only [av,aC] at this;exact this.2
 refine aX.2 fun i j hi' hj hij=>?_;obtain ⟨d,rfl⟩:∃d,j=i+1+d:=⟨j - i - 1,EM⟩;clear hij
 induction d with
 | zero=>exact step i hj
 | succ d ih=>exact fV (ih EM) (step (i+1+d) hj)
theorem Agj {lo hi:Int} {zs:al} (h1:zs.Pairwise (· < ·)) (h2:∀z∈zs,lo<=z/\z<=hi):Pz lo hi zs=true:=by
 unfold Pz;refine Jr fun i hi'=>?_;have hb:=h2 zs[i] (aE hi');cases i with
 | zero=>rw [U7 hi'];simp [Ht,hb]
 | succ i =>
  rw [Si hi'];have:=aX.1 h1 i (i+1) EM hi' EM;simp [Ht,hb,this]
theorem Atd:∀{a b:al},a.Pairwise (· < ·)->b.Pairwise (· < ·)->(∀x,x∈a↔x∈b)->a=b
 | [],[],_,_,_=>rfl
 | [],y::b,_,_,h=>absurd ((h y).2 EO) EO
 | x::a,[],_,_,h=>absurd ((h x).1 EO) EO
 | x::a,y::b,h1,h2,h=>by
  have a1:=ci.1 h1;have b1:=ci.1 h2;have e:x=y:=by
   rcases aF.1 ((h x).1 EO) with e|m
   ·exact e
   ·rcases aF.1 ((h y).2 EO) with e|m2
    ·exact e.symm
    ·have:=b1.1 x m;have:=a1.1 y m2;omega
  subst e
  congr 1
  refine Atd a1.2 b1.2 fun z=>⟨fun hz=>?_,fun hz=>?_⟩
  ·rcases aF.1 ((h z).1 HP) with e|m
   ·have:=a1.1 z hz;omega
   ·exact m
  ·rcases aF.1 ((h z).2 HP) with e|m
   ·have:=b1.1 z hz;omega
   ·exact m
theorem Ai2 {a b:al} (h1:a.Pairwise (· < ·)) (h2:b.Pairwise (· < ·)):(a.filter fun f=>decide (f∈b))=b.filter fun f=>decide (f∈a) :=
 Atd (h1.filter _) (h2.filter _) fun x=>by simp [and_comm]
theorem Avs (x:Et) (gb:Nat) (n:Int) (u:Value) (G:ak):FV 257 [u,Fv gb 0 0] [.isv Eg u x G,.cel gb 0 [aa n]] (.bool (x.Ab == n)):=by
 refine enter func257 rfl ntmps257 fun w0=>?_;refine Agd ?_;rintro a1 c1 F1 rfl l1;refine go ?_;intros;refine ret () trivial ?_;rfl
theorem Amm (e:Bg) (n:Int) (v:Value) (F:ak):FV 234 [v,aa n] [.isv B9 v e F] (aa (Qz (fun x=>x.Ab == n) e.Af)):=by
 refine enter func234 rfl ntmps234 fun w0=>?_;refine Ez ?_;rintro a1 c1 F1 rfl l1;refine go ?_;intros;rename_i gb;refine cb (fun w st=>Qy _ (Uo ER) #[Fv gb 0 0] _ e.Af _ (fun x=>x.Ab == n) w (st.get (p:=.sl Eg (ab a1 e.Af.length c1) e.Af F1) EO).2 (fun k hk wr u G hB hu=>(Avs e.Af[k] gb n u G).val wr (Vp hu ⟨EO,Hq ((st.below hB).get (p:=.row gb 3 0 [] [aa n] []) EO)⟩))) ?_;exact AB
theorem Af5 (e:Bg) (n:Int) (v:Value) (F:ak):FV 165 [v,aa n] [.isv B9 v e F] (aa (Qz (fun x=>x.Ab == n) e.Af)):=by
 refine enter func165 rfl ntmps165 fun w0=>?_;refine Ez ?_;rintro a1 c1 F1 rfl l1;unfold maxLen at l1;refine go ?_;intros;refine Ei [1,2,4] (fun k:Nat=>[(5,aa (k:Nat))]) (fun k=>k<=e.Af.length/\∀j (_:j < k) (hj:j < e.Af.length),(e.Af[j].Ab == n)=false) (fun k=>e.Af.length - k) 0 ⟨aD _,fun j h=>by omega⟩ fun k hk=>?_;obtain ⟨hk1,hk2⟩:=hk;refine go ?_;refine Bf rfl (fun h1=>?_) (fun h1=>?_)
 ·have hh:k < e.Af.length:=EM
  refine go ?_;refine Um (xs:=e.Af) k ?_;rintro hi b o a3 c3 F3 e1 l3;rw [e1];refine go ?_;refine Bf rfl (fun h2=>?_) (fun h2=>?_)
  ·refine go ?_;refine ret () trivial ?_;rw [N1 hh hk2 GD];rfl
  ·refine go ?_;refine Cv (k+1) ⟨hh,fun j hj hl=>?_⟩ EM;rcases aY (bt.1 hj) with h|rfl
   ·exact hk2 j h hl
   ·simpa using h2
 ·obtain rfl:k=e.Af.length:=EM
  refine go ?_;exact BO
theorem Av5 (l:al) (n:Int) (a:ai) (c:Nat) (F:ak):FV 201 [ab a l.length c,aa n] [.sl Bi (ab a l.length c) l F] (.bool (decide (n∈l))):=by
 refine enter func201 rfl ntmps201 fun w0=>?_;refine Th (xs:=l) ?_;rintro _ _ _ l2 l3;refine go ?_;refine Ei [0,1,4] (fun k:Nat=>[(5,aa (k:Nat))]) (fun k=>k<=l.length/\n ∉ l.take k) (fun k=>l.length - k) 0 ⟨aD _,EO⟩ fun k hk=>?_;obtain ⟨hk1,hk2⟩:=hk;refine go ?_;refine Bf rfl (fun h1=>?_) (fun h1=>?_)
 ·have hh:k < l.length:=EM
  refine go ?_;refine Jg (xs:=l) k ?_;rintro hi b o e1;rw [e1];refine go ?_;refine Bf rfl (fun h2=>?_) (fun h2=>?_)
  ·refine go ?_;refine ret () trivial ?_;rw [au (h2▸aE hh:n∈l)];rfl
  ·refine go ?_;refine Cv (k+1) ⟨hh,fun hm=>?_⟩ EM;rw [cF,aB hh] at hm;rcases aG.1 hm with h|h
   ·exact hk2 h
   ·simp at h;exact h2 h.symm
 ·obtain rfl:k=l.length:=EM
  rw [bG] at hk2;refine go ?_;refine ret () trivial ?_;rw [ay hk2];rfl
theorem Ayp (n:Int):FV 280 [aa n] [] (.bool false):=by
 refine enter func280 rfl ntmps280 fun w0=>?_;refine go ?_;refine ret () trivial ?_;simp [Sr]
theorem Azp (n:Int):FV 264 [aa n] [] (.bool false):=by
 refine enter func264 rfl ntmps264 fun w0=>?_;refine go ?_;refine ret () trivial ?_;simp [Sr]
theorem Avh (a b:Int):FV 263 [aa a,aa b] [] (.bool (decide (a < b))):=by
 refine enter func263 rfl ntmps263 fun w0=>?_;refine go ?_;refine Bw (Ayp a) fun _ _=>?_;exact AB
def Ari (l:al) (n:Int):Bool:=decide (l[Kg l n]?=some n)
theorem Aaw {l:al} {n:Int} {k:Nat} (h1:k<=l.length) (h2:∀j (_:j < k) (h:j < l.length),l[j] < n) (h3:∀h:k < l.length,¬l[k] < n):Kg l n=k:=Wa h1 (fun j hj h=>by simpa using h2 j hj h) (fun h=>by simpa using h3 h)
theorem Avg (xs:al) (n:Int) (a:ai) (c:Nat) (F:ak) (hs:xs.Pairwise (· < ·)) (hl:xs.length<=1000000):FV 241 [ab a xs.length c,aa n] [.sl Bi (ab a xs.length c) xs F] (.tuple #[aa (Kg xs n:Nat),.bool (Ari xs n)]):=by
 have hm:=aX.1 hs;refine enter func241 rfl ntmps241 fun w0=>?_;refine go ?_;refine Ei [0,1,4,5,6] (fun s:Nat × Nat=>[(7,aa (s.1:Nat)),(8,aa (s.2:Nat))]) (fun s=>s.1<=s.2/\s.2<=xs.length/\(∀j (_:j < s.1) (h:j < xs.length),xs[j] < n)/\(∀j (_:s.2<=j) (h:j < xs.length),¬xs[j] < n)) (fun s=>s.2 - s.1) (0,xs.length) ⟨aD _,aA _,fun j h=>by omega,fun j h1 h2=>by omega⟩ fun s hs=>?_;obtain ⟨i,j⟩:=s;obtain ⟨h1,h2,h3,h4⟩:=hs;dsimp only at h1 h2 h3 h4 ⊢;refine go ?_;refine Bf rfl (fun h5=>?_) (fun h5=>?_)
 ·have hh:(i+j) / 2 < xs.length:=EM
  have e2:((i:Int)+(j:Int)) / 2=(((i+j) / 2:Nat):Int):=EM
  refine go ?_;apply wO;apply oc;rfl;exact Ae0 rfl EM EM;refine go ?_;apply wO;apply oc;rfl;exact Aid rfl;rw [e2];apply wO;apply oc;rfl;exact An3 rfl EM EM;generalize hq:(i+j) / 2=q at hh;refine go ?_;refine Jg (xs:=xs) q ?_;rintro hi b o e;rw [e];refine go ?_;refine Bw (Avh _ _) fun _ _=>?_;refine go ?_;refine Bf rfl (fun h6=>?_) (fun h6=>?_)
  ·refine go ?_;refine Tg ?_;refine Cv (hH:=Jx _) (q+1,j) ⟨by show q+1<=j;omega,h2,fun k hk h=>?_,h4⟩ (by show j - (q+1) < j - i;omega);rcases aY (bt.1 (show k < q+1 from hk)) with hk|rfl
   ·have:=hm k q h hh hk;omega
   ·exact h6
  ·refine go ?_;refine Tg ?_;refine Cv (hH:=Jx _) (i,q) ⟨by show i<=q;omega,by show q<=xs.length;omega,h3,fun k hk h hn=>h6 ?_⟩ (by show q - i < j - i;omega);rcases aY (show q<=k from hk) with hk|rfl
   ·have:=hm q k hh h hk;omega
   ·exact hn
 ·have hij:i=j:=EM
  subst hij;have hk:Kg xs n=i:=Aaw h2 h3 (fun h=>h4 i (aA _) h);unfold Ari;rw [hk];refine go ?_;refine Dm rfl rfl (fun h6=>?_) (fun h6=>?_)
  ·have hh:i < xs.length:=EM
   rw [aB hh];refine go ?_;refine Jg (xs:=xs) i ?_;rintro hi b o e;rw [e];refine go ?_;refine Dm rfl rfl (fun h7=>?_) (fun h7=>?_)
   ·refine go ?_;refine ret () trivial ?_;rw [au (by simpa using h7)];rfl
   ·refine go ?_;refine Bw (Azp _) fun _ _=>?_;refine go ?_;refine ret () trivial ?_;rw [ay (by simpa using h7)];rfl
  ·refine go ?_;refine ret () trivial ?_;rw [bf EM];rfl
theorem Ayz (xs:al) (n:Int) (a:ai) (c:Nat) (F:ak):FV 181 [ab a xs.length c,aa n] [.sl Bi (ab a xs.length c) xs F] (aa (Qz (fun x=>x == n) xs)):=by
 refine enter func181 rfl ntmps181 fun w0=>?_;refine Th (xs:=xs) ?_;rintro _ _ - l2 l3;refine go ?_;refine Ei [0,1,4,7] (fun k:Nat=>[(8,aa (k:Nat))]) (fun k=>k<=xs.length/\∀j (_:j < k) (hj:j < xs.length),(xs[j] == n)=false) (fun k=>xs.length - k) 0 ⟨aD _,fun j h=>by omega⟩ fun k hk=>?_;obtain ⟨hk1,hk2⟩:=hk;refine go ?_;refine Bf rfl (fun h1=>?_) (fun h1=>?_)
 ·have hh:k < xs.length:=EM
  refine go ?_;refine Jg (xs:=xs) k ?_;rintro hi b o e1;rw [e1];refine go ?_;refine Bf rfl (fun h2=>?_) (fun h2=>?_)
  ·refine go ?_;refine ret () trivial ?_;rw [N1 hh hk2 (by simpa using h2.symm)];rfl
  ·refine go ?_;refine Cv (k+1) ⟨hh,fun j hj hl=>?_⟩ EM;rcases aY (bt.1 hj) with h|rfl
   ·exact hk2 j h hl
   ·simpa using fun e=>h2 e.symm
 ·obtain rfl:k=xs.length:=EM
  refine go ?_;exact BO
theorem Avd (l:al) (n:Int):(l.any fun x=>x == n)=decide (n∈l):=by
 rw [eO,bS,aC];exact ⟨fun ⟨x,hx,h⟩=>by simp at h;exact h▸hx,fun h=>⟨n,h,EO⟩⟩
theorem Arq (xs:al) (n:Int) (a:ai) (c:Nat) (F:ak):FV 123 [ab a xs.length c,aa n] [.sl Bi (ab a xs.length c) xs F] (.bool (decide (n∈xs))):=by
 refine enter func123 rfl ntmps123 fun w0=>?_;refine go ?_;refine Bw (Ayz xs n _ _ F) fun _ _=>?_;refine go ?_;refine ret () trivial ?_;rw [R8,Avd];rfl
theorem Ati (y:Int) (w:World):C6 Bi w [aa y] [y] []:=⟨_,[],[],[],EO,EO,⟨rfl,rfl⟩,rfl,rfl⟩
theorem Aq4 (xs:al) (y:Int) (i:Nat) (a:ai) (c vb:Nat) (F:ak) (hi:i<=xs.length) (hl:xs.length<=1000000) :
  Fn prog 242 [ab a xs.length c,aa i,ab (some ⟨vb,0,none⟩) 1 1] [] [.ow Bi 3 (ab a xs.length c) xs F,.row vb 3 0 [] [aa y] []] (fun (_:ai × Nat × ak)=>True)
   (fun z=>.slice z.1 (xs.take i++y::xs.drop i).length z.2.1) (fun z=>[.ow Bi 3 (.slice z.1 (xs.take i++y::xs.drop i).length z.2.1) (xs.take i++y::xs.drop i) z.2.2]):=by
 have hone:∀w':World,∀cs:aj,C6 Bi w' cs xs []->∀u∈cs,u.oneCell'=true:=fun w' cs h=>h.one' Dw;have hy:=Ati y;have h1y:∀u∈([aa y]:aj),u.oneCell'=true:=HA
 refine enter func242 rfl ntmps242 fun w0=>?_;refine Anq (E:=Bi) fun hc1 hc2=>?_;refine go ?_;apply wO;refine Ahr rfl rfl rfl rfl hi (fun _=>?_) hc1;refine go ?_;refine Bf rfl (fun h1=>?_) (fun h1=>?_)
 ·have hin:i=xs.length:=EM
  subst hin;have e:xs.take xs.length++y::xs.drop xs.length=xs++[y]:=EO
  refine go ?_;apply wO;refine No hy Dw fun a2 c2 F2=>?_;rw [e];exact CY
 ·have hlt:i < xs.length:=EM
  refine Ah6 (xs:=xs) Eh (by rintro rfl;simp at hlt) ?_;rintro g cs rest rfl - - - hcl hcr hfl;rw [show Bi.sz=1 from rfl] at hcl hcr;have h1c:=hone w0 cs (hfl w0);obtain ⟨A,B,hcs,hA,hB⟩:∃A B,cs=A++B/\A=cs.take (i * 1)/\B=cs.drop (i * 1):=⟨_,_,(bm _ _).symm,rfl,rfl⟩;have hAl:A.length=i * 1:=by rw [hA,aL];omega
  have hBl:B.length=(xs.length - i) * 1:=by rw [hB,aU];omega
  have hins:∀w,C6 Bi w (A++[aa y]++B) (xs.take i++y::xs.drop i) []:=fun w=>by rw [hA,hB];exact (hfl w).insL (hy w) i hi
  have h1A:∀u∈A,u.oneCell'=true:=fun u hu=>h1c u HM;have h1B:∀u∈B,u.oneCell'=true:=fun u hu=>h1c u HM;have hlen:(xs.take i++y::xs.drop i).length=xs.length+1:=ET
  clear hA hB hfl hone;subst hcs;have eA:A=((A++B++rest).drop 0).take (i * 1):=by rw [dW,aJ,bR hAl]
  have eB:B=((A++B++rest).drop (0+i * 1)).take ((xs.length - i) * 1):=by rw [dF,aJ,eP hAl,bR hBl]
  rw [hlen];refine go ?_;apply wO;apply oc;rfl;exact Amk rfl;refine go ?_;refine Bf rfl (fun h2=>?_) (fun h2=>?_)
  ·refine go ?_;apply wO;apply oc;rfl;exact Nv (i:=i) rfl rfl rfl EM EM;refine go ?_;apply wO;refine Alt (k:=xs.length+1 - i) (olds:=A) rfl rfl rfl EM (Mj (m:=i * 1) (.head _) eA) EM EN EM EM EM EM fun g' cp' Z rest' h3 h4 h5 h6=>?_;rw [show i+(xs.length+1 - i)=xs.length+1 by omega] at h3 ⊢;obtain ⟨Z1,Z2,rfl,hZ1,hZ2⟩:∃Z1 Z2,Z=Z1++Z2/\Z1.length=1/\Z2.length=B.length:=⟨Z.take 1,Z.drop 1,(bm _ _).symm,FK,by rw [aU];omega⟩;refine go ?_
   apply wO;apply oc;rfl;exact Kb (i:=i) rfl rfl rfl EM EM EM;refine go ?_;apply wO;refine Vl (cs:=[aa y]) (L':=A++[aa y]++(Z2++rest')) rfl rfl rfl (Mj (L:=[aa y]) (o:=0) (m:=1) EQ rfl) .here (Ab3 (M:=Z1) GK EM (by simpa using hZ1)) (by show 1=min 1 (xs.length+1 - i) * 1;omega) FA h1y ?_;refine go ?_;refine As [] [] ?_;refine D7 0 1 2 3 ?_;refine dt 4 ?_ (hy:=Kb (i:=i+1) rfl rfl EM EM EM EM)
   refine Ek 5 6 ?_;refine dt 7 ?_ (hy:=Kb (i:=i) rfl rfl EM EM EM EM);refine dN 8 ?_;refine Vl (cs:=B) (L':=A++[aa y]++B++rest') rfl rfl rfl (Mj EQ eB) .here (Ab3 (P:=A++[aa y]) (M:=Z2) GK FA hZ2) GI FA h1B ?_;refine dk ?_;refine dd ?_
   refine Aa4 (cs:=A++[aa y]++B) (rest:=rest') (xs:=xs.take i++y::xs.drop i) cp' rfl hins EM h4 (by rw [show Bi.sz=1 from rfl];simp only [aw,aK,aV] at h6 ⊢;omega) ?_;rw [hlen];refine go ?_;refine ret (_,cp',[g']) trivial rfl
  ·have hcx:xs.length+1<=c:=EM
   obtain ⟨X,Y,hXY,hX,hY⟩:=Al7 (B:=B) (R:=rest) 1 EM;refine go ?_;apply wO;apply oc;rfl;exact Nv (i:=xs.length+1) rfl rfl EM EM EM;refine go ?_;apply wO;apply oc;rfl;exact Kb (i:=i+1) rfl rfl EM EM EM EM;refine Ke ?_;intros;apply wO
   refine Asy rfl Tt (ovl (tS:=24) (tR:=4) (run_callFunc_extern func265 ER ER ER (e:=Extern.SlicesOverlaps.overlaps #[24,24] #[4]) ER) (.there .here) (.head _) GL) ?_;refine go ?_;refine As [] [] ?_;refine D7 0 1 2 3 ?_;refine dt 4 ?_ (hy:=Kb (i:=i+1) rfl rfl EM EM EM EM);refine Ek 5 6 ?_;refine dt 7 ?_ (hy:=Kb (i:=i) rfl rfl EM EM EM EM);refine dN 8 ?_
   refine Vl (cs:=B) (L':=A++X++B++rest.drop 1) rfl rfl rfl (Mj EQ eB) .here (Ab3 (P:=A++X) (M:=Y) JI HG hY) GE HG h1B ?_;refine dk ?_;refine dd ?_;refine go ?_;apply wO;apply oc;rfl;exact Kb (i:=i) rfl rfl rfl EM EM EM;refine go ?_;apply wO
   refine Vl (cs:=[aa y]) (L':=A++[aa y]++(B++rest.drop 1)) rfl rfl rfl (Mj (L:=[aa y]) (o:=0) (m:=1) EQ rfl) .here (Ab3 (M:=X) GK EM (by simpa using hX)) (by show 1=min 1 (xs.length+1 - i) * 1;omega) FA h1y ?_;refine go ?_
   refine Aa4 (L:=A++[aa y]++(B++rest.drop 1)) (cs:=A++[aa y]++B) (rest:=rest.drop 1) (xs:=xs.take i++y::xs.drop i) c GK hins EM EM (by rw [show Bi.sz=1 from rfl];simp only [aw,aK,aV,aU];omega) ?_;rw [hlen];refine ret (_,c,[g]) trivial rfl
theorem N7 (n:Int) (w:World):C6 Bi w [aa n] [n] []:=⟨_,[],[],[],EO,EO,⟨rfl,rfl⟩,rfl,rfl⟩
theorem Ap0 (l:al) (n:Int):Kg l n<=l.length:=(Qi (p:=fun x=>decide (x < n)) (xs:=l)).1
structure Bbx where
 a:ai
 c:Nat
 F:ak
theorem Av7 (l:al) (n:Int) (a:ai) (c:Nat) (F:ak) (hl:l.length<=1000000):Fn prog 166 [ab a l.length c,aa n] [] [.ow Bi 3 (ab a l.length c) l F] (fun (_:Bbx)=>True) (fun s=>.slice s.a (Px l n).length s.c) (fun s=>[.ow Bi 3 (.slice s.a (Px l n).length s.c) (Px l n) s.F]):=by
 refine enter func166 rfl ntmps166 fun w0=>?_;refine go ?_;refine Ei [0,1,4] (fun k:Nat=>[(5,aa (k:Nat))]) (fun k=>k<=l.length/\∀j (_:j < k) (hj:j < l.length),l[j] < n) (fun k=>l.length - k) 0 ⟨aD _,fun j h=>by omega⟩ fun k hk=>?_;obtain ⟨hk1,hk2⟩:=hk;refine go ?_;refine Dm rfl rfl (fun h1=>?_) (fun h1=>?_)
 ·have hh:k < l.length:=EM
  refine go ?_;refine Qq (m:=1) Eh k ?_ EP rfl hh;rintro _ g A cs B rfl rfl hr hH;obtain ⟨rfl, -⟩:=hr w0;refine go ?_;refine Pf l[k] hH hr ?_;rw [bu];refine Bf rfl (fun h2=>?_) (fun h2=>?_)
  ·refine go ?_;refine Cv (k+1) ⟨hh,fun j hj hl=>?_⟩ EM;rcases aY (bt.1 hj) with h|rfl
   ·exact hk2 j h hl
   ·exact h2
  ·have hp:Kg l n=k:=Aaw hk1 hk2 (fun _=>h2);refine go ?_;refine Dm rfl rfl (fun h4=>?_) (fun h4=>absurd h1 h4);refine go ?_;refine Qq (m:=1) Eh k ?_ EP rfl hh;rintro _ g A cs B e1 - hr hH;cases e1;obtain ⟨rfl, -⟩:=hr w0;refine go ?_;refine Pf l[k] hH hr ?_;rw [bu];refine Bf rfl (fun h3=>?_) (fun h3=>?_)
   ·have e:Px l n=l:=by unfold Px;rw [hp,aB hh,ar (by rw [h3])]
    rw [e];exact BT
   ·have e:Px l n=l.take k++[n]++l.drop k:=by unfold Px;rw [hp,aB hh,aq HL];simp
    refine go ?_;refine Az fun F5=>?_;refine Aud k EM fun F6 hc1 hc2=>?_;refine As [] [] ?_;refine Ek 1 2 ?_;refine dt 3 ?_ (hy:=Nv (i:=k) rfl rfl rfl EM EM);refine Ek 5 8 ?_;refine dt 9 ?_;refine Ala 10 k fun a6 c6 F6=>?_;refine dM 0 6 ?_ ?_
    ·apply Lt;rfl;intro _;refine Dk Bi ?_;refine dk ?_;refine dM 4 6 ?_ ?_
     ·exact CJ
     ·apply In;rfl;rfl;rfl;rfl;exact Ik;exact Ie;intro _;exact BB
    ·exact EB
 ·have hp:Kg l n=k:=Aaw hk1 hk2 (fun h=>by omega);have e:Px l n=l.take k++[n]++l.drop k:=by unfold Px;rw [hp,bf EM];simp
  refine go ?_;refine Dm rfl rfl (fun h4=>absurd h4 h1) (fun h4=>?_);refine go ?_;refine Az fun F5=>?_;refine Aud k EM fun F6 hc1 hc2=>?_;refine As [] [] ?_;refine Ek 1 2 ?_;refine dt 3 ?_ (hy:=Nv (i:=k) rfl rfl rfl EM EM);refine Ek 5 8 ?_;refine dt 9 ?_;refine Ala 10 k fun a6 c6 F6=>?_;refine dM 0 6 ?_ ?_
  ·apply Lt;rfl;intro _;refine Dk Bi ?_;refine dk ?_;refine dM 4 6 ?_ ?_
   ·exact CJ
   ·apply In;rfl;rfl;rfl;rfl;exact Ik;exact Ie;intro _;exact BB
  ·exact EB
theorem Aoe {c:Cx} {fr:Fr} {H S:List Pc} {Φ:Gl} (x:Bg) {a:ai} {n cp:Nat} {F:ak} (hn:n=x.Af.length) (h:T c fr (.Mw Ck (.agg #[aa x.Ae,ab a n cp]) x F::S) Φ) (hp:De H (.ow Ew 132 (ab a n cp) x.Af F) S:=by exact En):T c fr H Φ:=by
 subst hn;exact Hg x h hp
theorem Aeb {e:Bg} {n f:Int} (h:Le e n < e.Af.length):Ka e n f=⟨e.Ae,e.Af.set (Le e n) ⟨e.Af[Le e n].Ab,Px e.Af[Le e n].Bp f,e.Af[Le e n].Bl⟩⟩:=by unfold Ka;rw [aB h]
theorem Aea {e:Bg} {n f:Int} (h:e.Af[Le e n]?=none) (hl:e.Af.length < 5):Ka e n f=⟨e.Ae,e.Af++[⟨n,[f],e.Ae+6⟩]⟩:=by unfold Ka;rw [h];simp [hl]
theorem Aaz {e:Bg} {n f:Int} (h:e.Af[Le e n]?=none) (hl:¬e.Af.length < 5):Ka e n f=e:=by unfold Ka;rw [h];simp [hl]
theorem Ux (e:Bg) (n f:Int) (v:Value) (F:ak) (hl:e.Af.length<=1000000) (hf:∀x∈e.Af,x.Bp.length<=1000000) (hc0:-1000000<=e.Ae) (hc1:e.Ae<=1000000):Fn prog 103 [v,aa n,aa f] [.isv B9 v e F] [] (fun (_:Value × ak)=>True) (fun s=>.tuple #[s.1,.bool (Pi e n)]) (fun s=>[.Mw Ck s.1 (Ka e n f) s.2]):=by
 refine enter func103 rfl ntmps103 fun w0=>?_;refine Ez ?_;rintro a1 c1 F1 rfl l1;refine go ?_;intros;refine cv (fun w st=>Zc _ e _ w (st.get (p:=.isv B9 (.agg #[aa e.Ae,ab a1 e.Af.length c1]) e F) EO) EM (fun x hx=>bi (hf x hx) EN)) fun u FU=>?_;refine Ia ?_;rintro a2 c2 F2 rfl l2;refine go ?_;intros;refine Bw (Af5 e n _ F) fun _ _=>?_;rcases O6 e n with ⟨h,e1,e2,e3⟩|⟨e1,e2,e3,e4⟩
 ·rw [e1,e3,Aeb h];have hfx:=hf e.Af[Le e n] (aE h);refine go ?_;refine Aae (m:=3) (Le e n) ?_ rfl h;rintro _ g A cs B k1 k2 G1 Gi G2 rfl - hc hH;refine Xy ?_;rintro a5 c5 F5 ev l5;obtain rfl:=Oe ev;refine go ?_;intros;refine Bw (Av7 _ f a5 c5 F5 hfx) fun z _=>?_;refine go ?_;refine Oj ⟨e.Af[Le e n].Ab,Px e.Af[Le e n].Bp f,e.Af[Le e n].Bl⟩ ?_;refine Vb _ hH rfl fun F6=>?_;refine Aoe ⟨e.Ae,_⟩ bw.symm ?_;exact BK
 ·rw [e1,e3];refine go ?_;refine Bf rfl (fun h5=>?_) (fun h5=>?_)
  ·rw [Aea e2 EM];refine go ?_;intros;refine Eo (E:=Bi) (xs:=[f]) (N7 f) ?_ EO;refine Oj ⟨n,[f],e.Ae+6⟩ ?_;apply wO;refine Ag3 Sf ⟨n,[f],e.Ae+6⟩ rfl fun a3 c3 F3=>?_;refine go ?_;refine Aoe ⟨e.Ae,_⟩ rfl ?_;exact BK
  ·rw [Aaz e2 EM];refine go ?_;refine Aoe e rfl ?_;exact BK
def Yv (e:Bg) (n:Int) (below:al):al:=match e.Af[Le e n]? with
 | some x=>below.filter fun f=>decide (f∈x.Bp)
 | none=>if e.Af.length=5 then below else []
theorem Ad8 {e:Bg} {n:Int} (h:Le e n < e.Af.length):Jz e n=⟨e.Ae,e.Af.take (Le e n)++e.Af.drop (Le e n+1)⟩:=by unfold Jz;rw [aB h]
theorem Ahu {e:Bg} {n:Int} (h:e.Af[Le e n]?=none):Jz e n=e:=by unfold Jz;rw [h]
theorem Ar0 {e:Bg} {n:Int} {l:al} (h:Le e n < e.Af.length):Yv e n l=l.filter fun f=>decide (f∈e.Af[Le e n].Bp):=by unfold Yv;rw [aB h]
theorem Avr {e:Bg} {n:Int} {l:al} (h:e.Af[Le e n]?=none):Yv e n l=if e.Af.length=5 then l else []:=by unfold Yv;rw [h]
structure Ayh where
 k:Nat
 a:ai
 c:Nat
 F:ak
structure Bby where
 v:Value
 F:ak
 a:ai
 c:Nat
 G:ak
theorem Abo (e:Bg) (n:Int) (below:al) (v:Value) (F:ak) (a0:ai) (c0:Nat) (F0:ak) (hl:e.Af.length<=1000000) (hf:∀x∈e.Af,x.Bp.length<=1000000) (hb:below.length<=1000000):Fn prog 149 [v,aa n,ab a0 below.length c0] [.isv B9 v e F,.sl Bi (ab a0 below.length c0) below F0] [] (fun (_:Bby)=>True) (fun s=>.tuple #[s.v,.slice s.a (Yv e n below).length s.c]) (fun s=>[.Mw Ck s.v (Jz e n) s.F,.ow Bi 3 (.slice s.a (Yv e n below).length s.c) (Yv e n below) s.G]):=by
 refine enter func149 rfl ntmps149 fun w0=>?_;refine Ez ?_;rintro a1 c1 F1 rfl l1;refine go ?_;intros;refine cv (fun w st=>Zc _ e _ w (st.get (p:=.isv B9 (.agg #[aa e.Ae,ab a1 e.Af.length c1]) e F) EO) EM (fun x hx=>bi (hf x hx) EN)) fun u FU=>?_;refine Ia ?_;rintro a2 c2 F2 rfl l2;refine go ?_;intros;refine Bw (Af5 e n _ F) fun _ _=>?_;refine Dk Bi ?_;rcases O6 e n with ⟨h,e1,e2,e3⟩|⟨e1,e2,e3,e4⟩
 ·rw [e1,Ad8 h,Ar0 h];have hfx:=hf e.Af[Le e n] (aE h);refine go ?_;refine Um (xs:=e.Af) (Le e n) ?_;rintro hi b o a5 c5 F5 e6 l5;generalize Le e n=i at *;generalize hx:e.Af[i]=x at *;rw [e6];refine go ?_;refine Cu [2,3,6,7,8,10] (fun s:Ayh=>[(11,aa (s.k:Nat)),(9,.slice s.a ((below.take s.k).filter fun f=>decide (f∈x.Bp)).length s.c)]) (fun s=>[.ow Bi 3 (.slice s.a ((below.take s.k).filter fun f=>decide (f∈x.Bp)).length s.c) ((below.take s.k).filter fun f=>decide (f∈x.Bp)) s.F]) (fun s=>s.k<=below.length) (fun s=>below.length - s.k) ⟨0,_,_,_⟩ (aD _) fun s hs=>?_
  obtain ⟨k,a3,c3,F3⟩:=s;dsimp only at hs ⊢;refine go ?_;refine Bf rfl (fun h6=>?_) (fun h6=>?_)
  ·have hk:k < below.length:=EM
   refine Jg (xs:=below) k ?_;rintro hi2 b2 o2 e7;rw [e7];have ht:below.take (k+1)=below.take k++[below[k]]:=by rw [cF,aB hk];rfl
   have hle:((below.take k).filter fun f=>decide (f∈x.Bp)).length<=k:=bi (bA _ _) ET;refine go ?_;refine As [0,2,7] [] ?_;refine D7 0 1 2 3 ?_;refine D7 4 5 6 7 ?_;refine Ek 8 9 ?_;refine dN 10 ?_;refine oC ?_;refine Bw (Av5 x.Bp below[k] a5 c5 F5) fun _ _=>?_;refine dk ?_;refine dd ?_;refine go ?_;refine Bf rfl (fun h7=>?_) (fun h7=>?_)
   ·have e8:(below.take (k+1)).filter (fun f=>decide (f∈x.Bp))=((below.take k).filter fun f=>decide (f∈x.Bp))++[below[k]]:=by rw [ht,bp];simp [h7]
    refine go ?_;intros;apply wO;refine No (N7 _) Dw fun a6 c6 F6=>?_;rw [<-e8];refine go ?_;refine Cv (⟨k+1,_,_,_⟩:Ayh) hk HS
   ·have e8:(below.take (k+1)).filter (fun f=>decide (f∈x.Bp))=((below.take k).filter fun f=>decide (f∈x.Bp)):=by rw [ht,bp];simp [h7]
    refine go ?_;rw [<-e8];refine Cv (⟨k+1,_,_,_⟩:Ayh) hk HS
  ·have hk:below.take k=below:=bc EM;rw [hk];refine go ?_;refine Aa5 Sf rfl fun ys Fy Gy hyl hym=>?_;refine Aua i hi hyl hym fun G1 Gi G2=>?_;refine Az (E:=EC 3) (xs:=ys) fun Fr=>?_;refine Aud (E:=EC 3) (xs:=ys) i EM fun F6 hc1 hc2=>?_;refine As [8] [13] ?_;refine Ek 1 2 ?_;refine dt 3 ?_;refine dt 4 ?_ (hy:=Nv (i:=i) rfl rfl rfl EM EM);refine D7 6 7 8 9 ?_;refine Ala 10 (i+1) fun a7 c7 F7=>?_;refine dN 0 ?_;apply Lt;rfl;intro _;refine Dk (EC 3) ?_;refine dk ?_;refine dN 5 ?_
   refine M0 (O9 3) (Hj 3) (fun a6 c6 F6=>?_) (hn:=FK) (h63:=GB) (hby:=GB);refine dk ?_;refine dN 11 ?_;refine M0 (O9 3) (Hj 3) (fun a8 c8 F8=>?_) (h63:=GB) (hby:=GB);refine dk ?_;refine dt 12 ?_;refine dN 13 ?_;refine oS ?_;refine Pg ?_;refine dd ?_;refine Anr (E:=Ew) ?_;refine At8 (E:=Ew) (m:=3) (ys:=([]++ys.take i)++ys.drop (i+1)) (cs:=(ys.take i).flatten++(ys.drop (i+1)).flatten) (xs:=e.Af.take i++e.Af.drop (i+1)) ?_ rfl EO HE;refine go ?_
   refine Aoe (n:=(([]++ys.take i)++ys.drop (i+1)).length) ⟨e.Ae,e.Af.take i++e.Af.drop (i+1)⟩ HE ?_;exact DP
 ·rw [e1,Ahu e2,Avr e2];refine go ?_;refine Bf rfl (fun h5=>?_) (fun h5=>?_)
  ·rw [ar EM];refine go ?_;apply wO;refine M0 Dw Eh fun a4 c4 F4=>?_;refine go ?_;refine Aoe e rfl ?_;exact DP
  ·rw [aq EM];refine go ?_;refine Aoe e rfl ?_;exact DP
theorem Aky (e:Bg) (n f:Int) (g t o:Nat) (A B:aj) (a:ai) (c:Nat) (F:ak) (hl:e.Af.length<=1000000) (hf:∀x∈e.Af,x.Bp.length<=1000000/\x.Bp.Pairwise (· < ·)) (hc0:-1000000<=e.Ae) (hc1:e.Ae<=1000000) :
  Fn prog 209 [Fv g o 0,aa n,aa f] [] [.row g t o A [aa e.Ae,ab a e.Af.length c] B,.ow Ew 132 (ab a e.Af.length c) e.Af F] (fun (_:ai × Nat × ak)=>True) (fun _=>.bool (Pi e n)) (fun s=>[.row g t o A [aa (Ka e n f).Ae,.slice s.1 (Ka e n f).Af.length s.2.1] B,.ow Ew 132 (.slice s.1 (Ka e n f).Af.length s.2.1) (Ka e n f).Af s.2.2]):=by
 refine enter func209 rfl ntmps209 fun w0=>?_;refine go ?_;refine cb (fun w st=>by
  obtain ⟨F', -,hs⟩:=(st.get (p:=.ow Ew 132 (ab a e.Af.length c) e.Af F) EO).2.sl P7;exact (Amm e n _ F').val w (I0 ⟨_,rfl,_,rfl,hs⟩)) ?_
 rcases O6 e n with ⟨h,e1,e2,e3⟩|⟨e1,e2,e3,e4⟩
 ·rw [e1,e3,Aeb h];obtain ⟨hfx,hpw⟩:=hf e.Af[Le e n] (aE h);have hsl:∀y,(e.Af.set (Le e n) y).length=e.Af.length:=fun y=>bw;refine go ?_;refine Aae (m:=3) (Le e n) ?_ rfl h;rintro _ g2 A2 cs B2 k1 k2 G1 Gi G2 rfl - hc hH;refine Xy ?_;rintro a5 c5 F5 ev l5;obtain rfl:=Oe ev;refine go ?_;refine cb (fun w st=>by
   obtain ⟨F', -,hs⟩:=(st.get (p:=.ow Bi 3 (.slice a5 e.Af[Le e n].Bp.length c5) e.Af[Le e n].Bp F5) EO).2.read;exact (Avg _ f a5 c5 F' hpw hfx).val w (I0 ⟨EN,hs⟩)) ?_
  cases hq:Ari e.Af[Le e n].Bp f
  ·have ep:Px e.Af[Le e n].Bp f=e.Af[Le e n].Bp.take (Kg e.Af[Le e n].Bp f)++f::e.Af[Le e n].Bp.drop (Kg e.Af[Le e n].Bp f):=by unfold Px;rw [aq (by simpa [Ari] using hq)]
   refine go ?_;intros;refine Bw (Aq4 e.Af[Le e n].Bp f (Kg e.Af[Le e n].Bp f) a5 c5 _ F5 (Ap0 _ _) hfx) fun z _=>?_;rw [<-ep];refine go ?_;refine Oj ⟨e.Af[Le e n].Ab,Px e.Af[Le e n].Bp f,e.Af[Le e n].Bl⟩ ?_;refine Vb _ hH rfl fun F6=>?_;dsimp only;rw [<-hsl ⟨e.Af[Le e n].Ab,Px e.Af[Le e n].Bp f,e.Af[Le e n].Bl⟩];exact DD
  ·have ep:Px e.Af[Le e n].Bp f=e.Af[Le e n].Bp:=by unfold Px;rw [ar (by simpa [Ari] using hq)]
   rw [ep];refine go ?_;refine Oj ⟨e.Af[Le e n].Ab,e.Af[Le e n].Bp,e.Af[Le e n].Bl⟩ ?_;refine Vb _ hH rfl fun F6=>?_;dsimp only;rw [<-hsl ⟨e.Af[Le e n].Ab,e.Af[Le e n].Bp,e.Af[Le e n].Bl⟩];exact DD
 ·rw [e1,e3];refine go ?_;refine Bf rfl (fun h5=>?_) (fun h5=>?_)
  ·rw [Aea e2 EM];refine go ?_;refine As [0] [18] ?_;refine D7 0 1 2 3 ?_;refine D7 4 5 6 8 ?_;refine D7 9 10 11 12 ?_;refine dN 7 ?_;apply In;rfl;rfl;rfl;rfl;exact Ik;exact Ie;intro _;refine dk ?_;refine dt 13 ?_;refine dN 14 ?_;apply In;rfl;rfl;rfl;rfl;exact Ik;exact Ie;intro _;refine Eo (E:=Bi) (xs:=[f]) (N7 f) ?_ EO;refine Oj ⟨n,[f],e.Ae+6⟩ ?_;refine dk ?_;refine dN 15 ?_;refine Ag3 Sf ⟨n,[f],e.Ae+6⟩ rfl fun a3 c3 F3=>?_;refine dk ?_;refine Ek 16 17 ?_;refine dN 18 ?_;refine oS ?_;refine Pg ?_;refine dd ?_;refine go ?_;exact DD
  ·rw [Aaz e2 EM];refine go ?_;exact DD
theorem Arz {e:Bg} {n:Int} {l:al} (h:Le e n < e.Af.length):Pr e n l=e.Af[Le e n].Bp.filter fun f=>decide (f∈l):=by unfold Pr;rw [aB h]
theorem Avp {e:Bg} {n:Int} {l:al} (h:e.Af[Le e n]?=none):Pr e n l=if e.Af.length=5 then l else []:=by unfold Pr;rw [h]
theorem Ap6 (x:Int) (gb:Nat) (l:al) (a:ai) (c:Nat) (F:ak):FV 236 [aa x,Fv gb 0 0] [.cel gb 0 [ab a l.length c],.sl Bi (ab a l.length c) l F] (.bool (!decide (x∈l))):=by
 refine enter func236 rfl ntmps236 fun w0=>?_;refine go ?_;refine Bw (Arq l x _ _ F) fun _ _=>?_;refine go ?_;refine ret () trivial ?_;rw [decide_not];rfl
structure Bbz where
 a:ai
 c:Nat
 F:ak
 a2:ai
 c2:Nat
 F2:ak
theorem An7 (e:Bg) (n:Int) (below:al) (g t o:Nat) (A B:aj) (a:ai) (c:Nat) (F:ak) (a0:ai) (c0:Nat) (F0:ak) (hl:e.Af.length<=1000000) (hf:∀x∈e.Af,x.Bp.length<=1000000) (hb:below.length<=1000000) :
  Fn prog 207 [Fv g o 0,aa n,ab a0 below.length c0] [.sl Bi (ab a0 below.length c0) below F0] [.row g t o A [aa e.Ae,ab a e.Af.length c] B,.ow Ew 132 (ab a e.Af.length c) e.Af F] (fun (_:Bbz)=>True) (fun s=>.slice s.a2 (Pr e n below).length s.c2) (fun s=>[.row g t o A [aa (Jz e n).Ae,.slice s.a (Jz e n).Af.length s.c] B,.ow Ew 132 (.slice s.a (Jz e n).Af.length s.c) (Jz e n).Af s.F,.ow Bi 3 (.slice s.a2 (Pr e n below).length s.c2) (Pr e n below) s.F2]):=by
 refine enter func207 rfl ntmps207 fun w0=>?_;refine go ?_;intros;rename_i gb;refine cb (fun w st=>by
  obtain ⟨F', -,hs⟩:=(st.get (p:=.ow Ew 132 (ab a e.Af.length c) e.Af F) EO).2.sl P7;exact (Amm e n _ F').val w (I0 ⟨_,rfl,_,rfl,hs⟩)) ?_
 refine Ah5 (cs:=[ab a0 below.length c0]) ?_ EO;rcases O6 e n with ⟨h,e1,e2,e3⟩|⟨e1,e2,e3,e4⟩
 ·rw [e1,Ad8 h,Arz h];have hfx:=hf e.Af[Le e n] (aE h);refine go ?_;refine Aa5 Sf rfl fun ys Fy Gy hyl hym=>?_;generalize Le e n=i at *;generalize hx:e.Af[i]=x at *;refine Aua i h hyl hym fun G1 Gi G2=>?_;rw [hx];refine Xy ?_;rintro a5 c5 F5 ev l5;have hyi:ys[i]=[aa x.Ab,ab a5 x.Bp.length c5,aa x.Bl]:=by simpa using ev
  refine Qq (m:=3) (Hj 3) i ?_ EP rfl EM;rintro _ g2 A2 cs B2 rfl rfl hr hH;obtain ⟨rfl, -⟩:=hr w0;rw [hyi];refine go ?_;refine Bw (Aig 236 [] [Fv gb 0 0] [.cel gb 0 [ab a0 below.length c0],.sl Bi (ab a0 below.length c0) below F0] rfl x.Bp a5 c5 F5 (fun z=>!decide (z∈below)) ER EM (fun z _ w hA=>(Ap6 z gb below a0 c0 F0).val w hA)) fun z _=>?_;have e9:(x.Bp.filter fun z=>!!decide (z∈below))=x.Bp.filter fun z=>decide (z∈below):=by simp only [Bool.not_not]
  rw [e9];rw [<-hyi];refine Pf ys[i] hH hr ?_;rw [bu];refine go ?_;refine Bw (Ayf ys e.Af.length i _ _ _ _ hyl.symm EM rfl EM) fun q _=>?_;refine go ?_;refine Anr (E:=Ew) ?_;refine At8 (E:=Ew) (m:=3) (ys:=ys.take i++ys.drop (i+1)) (cs:=(ys.take i).flatten++(ys.drop (i+1)).flatten) (xs:=e.Af.take i++e.Af.drop (i+1)) ?_ rfl EO HE;rw [show (ys.take i++ys.drop (i+1)).length=(e.Af.take i++e.Af.drop (i+1)).length by simp [hyl]];refine ret ⟨_,_,_,_,_,_⟩ trivial rfl
 ·rw [e1,Ahu e2,Avp e2];refine go ?_;refine Bf rfl (fun h5=>?_) (fun h5=>?_)
  ·rw [ar EM];refine go ?_;refine cn (fun w st=>Tm _ below F0 w (st.get (p:=.sl Bi (ab a0 below.length c0) below F0) EO).2 EM) fun a6 c6 F6=>?_;exact DC
  ·rw [aq EM];refine B4 Bi 3 ?_;exact DC
theorem Ta (t:Oc) (v:Value) (F:ak):FV 35 [v] [.isv Tn v t F] (.bool (Fc t)):=by
 refine enter func35 rfl ntmps35 fun w0=>?_;refine Pa ?_;rintro a1 c1 F1 rfl l1;unfold maxLen at l1;refine go ?_;intros;refine Ei [1,2,6,7] (fun k:Nat=>[(8,aa (k:Nat))]) (fun k=>k<=t.Ad.length/\∀j,j < k->Abt t.Ad j=true) (fun k=>t.Ad.length - k) 0 ⟨aD _,fun j h=>by omega⟩ fun k hk=>?_;obtain ⟨hk1,hk2⟩:=hk;refine go ?_;refine Bf rfl (fun h1=>?_) (fun h1=>?_)
 ·have hh:k < t.Ad.length:=EM
  refine Jg (xs:=t.Ad) k ?_;rintro hi b o e1;rw [e1];refine go ?_;refine Dm rfl rfl (fun h2=>?_) (fun h2=>?_)
  ·obtain rfl:k=0:=EM
   refine go ?_;refine Dm rfl rfl (fun h3=>?_) (fun h3=>?_)
   ·refine go ?_;rw [Y0 hh (by rw [Pw hh];exact ay h3)];exact BA
   ·refine go ?_;refine Cv 1 ⟨hh,fun j hj=>by obtain rfl:j=0:=EM;rw [Pw hh];exact au EM⟩ (by show t.Ad.length - 1 < t.Ad.length - 0;omega)
  ·refine go ?_;refine Dm rfl rfl (fun h3=>?_) (fun h3=>?_)
   ·refine go ?_;refine ce (fun w s=>Jc _ _ _ w) ?_;cases g:Ht 0 t.Ad[k] ((k:Int) - 1)
    ·refine go ?_;rw [Y0 hh (by rw [Rt hh EM];exact g)];exact BA
    ·refine go ?_;refine Cv (k+1) ⟨hh,fun j hj=>?_⟩ (by show t.Ad.length - (k+1) < t.Ad.length - k;omega);rcases aY (bt.1 hj) with h|rfl
     ·exact hk2 j h
     ·rw [Rt hh EM];exact g
   ·exact absurd h3 EM
 ·obtain rfl:k=t.Ad.length:=EM
  refine go ?_;refine ce (fun w s=>Jc _ _ _ w) ?_;refine go ?_;refine ret () trivial ?_;unfold Fc;rw [Jr hk2,fg];rfl
theorem Adt (t:Oc) (v:Value) (F:ak):FV 68 [v] [.isv Tn v t F] (.bool (Fc t)):=by
 refine enter func68 rfl ntmps68 fun w0=>?_;refine Pa ?_;rintro a1 c1 F1 rfl l1;unfold maxLen at l1;refine go ?_;intros;refine ce (fun w s=>Mf _ _ _ w) ?_;cases g0:Ht 2 (t.Ad.length:Int) 8
 ·rw [Aor g0];exact AB
 have hb:2<=t.Ad.length/\t.Ad.length<=8:=by
  unfold Ht at g0;simp only [av,aC] at g0;omega
 have h0:0 < t.Ad.length:=EM
 refine Jg (xs:=t.Ad) 0 ?_;rintro hi b o e1;rw [e1];refine go ?_;refine Bf rfl (fun h2=>?_) (fun h2=>?_)
 ·refine go ?_;rw [Y0 h0 (by rw [Pw h0];exact ay h2)];exact BA
 refine go ?_;refine Ei [1,2,3] (fun k:Nat=>[(4,aa ((k+1:Nat):Int))]) (fun k=>k+1<=t.Ad.length/\∀j,j < k+1->Abt t.Ad j=true) (fun k=>t.Ad.length - k) 0 ⟨EM,fun j h=>by obtain rfl:j=0:=EM;rw [Pw h0];exact au EM⟩ fun k hk=>?_;obtain ⟨hk1,hk2⟩:=hk;refine go ?_;refine Bf rfl (fun h1=>?_) (fun h1=>?_)
 ·have hh:k+1 < t.Ad.length:=EM
  refine Jg (a:=some ⟨b,o,none⟩) (xs:=t.Ad) (k+1) ?_;rintro hi2 _ _ e2;cases e2;refine go ?_;refine ce (fun w s=>Mf _ _ _ w) ?_;cases g:Ht 0 t.Ad[k+1] (((k+1:Nat):Int) - 1)
  ·refine go ?_;rw [Y0 hh (by rw [Rt hh EM];exact g)];exact BA
  ·refine go ?_;refine Cv (k+1) ⟨hh,fun j hj=>?_⟩ (by show t.Ad.length - (k+1) < t.Ad.length - k;omega);rcases aY (bt.1 hj) with h|rfl
   ·exact hk2 j h
   ·rw [Rt hh EM];exact g
 ·have hk:k+1=t.Ad.length:=EM
  refine go ?_;refine ret () trivial ?_;unfold Fc;rw [g0,Jr (fun j hj=>hk2 j EM)];rfl
structure KiS where
 k:Nat
 a:ai
 c:Nat
 F:ak
theorem O7 (t:Oc) (node:Int) (v:Value) (F:ak) (hz:I8 t.Ad node 1=[]) (hl:1<=t.Ad.length/\t.Ad.length<=1000000):Fn prog 74 [v,aa node] [.isv Tn v t F] [] (fun (_:KiS)=>True) (fun z=>.slice z.a (E7 t.Ad node).length z.c) (fun z=>[.ow Bi 3 (.slice z.a (E7 t.Ad node).length z.c) (E7 t.Ad node) z.F]):=by
 refine enter func74 rfl ntmps74 fun w0=>?_;refine Pa ?_;rintro a1 c1 F1 rfl l1;unfold maxLen at l1;refine go ?_;intros;refine Dk Bi ?_;refine Cu [1,2,4] (fun z:KiS=>[(5,.slice z.a (Sw t.Ad node z.k).length z.c),(6,aa ((z.k+1:Nat):Int))]) (fun z=>[.ow Bi 3 (.slice z.a (Sw t.Ad node z.k).length z.c) (Sw t.Ad node z.k) z.F]) (fun z=>z.k+1<=t.Ad.length) (fun z=>t.Ad.length - z.k) ⟨0,_,_,_⟩ hl.1 fun z hz2=>?_;have hkl:=Af3 t.Ad node z.k;have hl2:=hl.2;refine go ?_;refine Bf rfl (fun h1=>?_) (fun h1=>?_)
 ·have hh:z.k+1 < t.Ad.length:=EM
  refine Jg (xs:=t.Ad) (z.k+1) ?_;rintro hi b o e1;rw [e1];refine go ?_;refine Bf rfl (fun h2=>?_) (fun h2=>?_)
  ·refine Ke ?_;intros;apply wO;refine No (N7 _) Dw fun a9 c9 F9=>?_;refine go ?_;rw [<-Ao4 hh h2];refine Cv ⟨z.k+1,a9,c9,F9⟩ (by show z.k+1+1<=t.Ad.length;omega) (by show t.Ad.length - (z.k+1) < t.Ad.length - z.k;omega)
  ·rw [<-Asg hh h2];refine go ?_;refine Cv ⟨z.k+1,z.a,z.c,z.F⟩ (by show z.k+1+1<=t.Ad.length;omega) (by show t.Ad.length - (z.k+1) < t.Ad.length - z.k;omega)
 ·have hk:z.k+1=t.Ad.length:=EM
  rw [Af2 hz hk];exact CK
theorem Zb (t:Oc) (node:Int) (v:Value) (F:ak):FV 62 [v,aa node] [.isv Tn v t F] (.bool (Br t.Ad node)):=by
 refine enter func62 rfl ntmps62 fun w0=>?_;refine Pa ?_;rintro a1 c1 F1 rfl l1;refine go ?_;intros;refine Bw (Arq t.Ad node _ _ F1) fun _ _=>?_;refine go ?_;refine ret () trivial ?_;unfold Br;rw [<-decide_not];rfl
theorem Aaq (t:Oc) (node:Int) (v:Value) (F:ak) (hg:Hf t.Ad) (h0:0 < node):FV 138 [v,aa node] [.isv Tn v t F] (.bool (Br t.Ad node)):=by
 refine enter func138 rfl ntmps138 fun w0=>?_;refine Pa ?_;rintro a1 c1 F1 rfl l1;refine go ?_;intros;refine Dm rfl rfl (fun h1=>?_) (fun h1=>?_)
 ·refine go ?_;refine Bw (O7 t node _ F (Rq hg.z EM) (by have:=hg.n0;have:=hg.n1;omega)) fun q _=>?_;refine go ?_;refine ret () trivial ?_;rw [Apm];by_cases hk:E7 t.Ad node=[]
  ·rw [hk];rfl
  ·rw [ay hk,ay fun e=>hk (bx.1 EM)];rfl
 ·exact absurd h0 h1
theorem Ai1 {e:Bg} (h:Ba e=true) {x:Et} (hx:x∈e.Af):x.Bp.Pairwise (· < ·):=by
 unfold Ba at h;simp only [av] at h;obtain ⟨i,hi,rfl⟩:=aR hx;have:=I5 h.2 i hi;rw [J8 hi] at this;simp only [Kq,av] at this;exact (Aa0 this.1.2.2.1).1
theorem Ams {e:Bg} {n:Int} {l:al} (h:Ba e=true) (h2:Pz 1 7 l=true):Yv e n l=Pr e n l:=by
 unfold Yv Pr;cases hx:e.Af[Le e n]? with
 | none=>rfl
 | some x=>exact (Ai2 (Ai1 h (bM hx)) (Aa0 h2).1).symm
theorem Ah9 (v v2:Value) (xs:al) (F F2:ak):FV 27 [v,v2] [.sl Bi v xs F,.sl Bi v2 xs F2] (.bool true):=by
 refine enter func27 rfl ntmps27 fun w0=>?_;refine Th (v:=v) (xs:=xs) (F:=F) ?_;rintro a c rfl l1 l2;refine Th (v:=v2) (xs:=xs) (F:=F2) ?_;rintro a2 c2 rfl l3 l4;refine go ?_;refine Bf rfl (fun h=>?_) (fun h=>?_)
 ·exact absurd rfl h
 refine go ?_;refine Ei [0,1,4] (fun k:Nat=>[(5,aa k)]) (fun k=>k<=xs.length) (fun k=>xs.length - k) 0 (aD _) fun k hk=>?_;refine go ?_;refine Bf rfl (fun h3=>?_) (fun h3=>?_)
 ·have hk3:k < xs.length:=EM
  refine Jg (a:=a) (xs:=xs) k ?_;rintro hi b o e;rw [e];refine Jg (a:=a2) (xs:=xs) k ?_;rintro hi2 b2 o2 e2;rw [e2];refine Ke ?_;intros;refine As [0,1] [] ?_;refine D7 0 1 2 3 ?_;refine D7 4 5 6 7 ?_;refine dt 8 ?_;refine dd ?_;refine go ?_;refine Bf rfl (fun h4=>?_) (fun h4=>?_)
  ·exact absurd rfl h4
  refine go ?_;refine Cv (k+1) hk3 EM
 ·exact AB
theorem Amg (v v2:Value) (e:Bg) (F F2:ak):FV 29 [v,v2] [.isv B9 v e F,.isv B9 v2 e F2] (.bool true):=by
 refine enter func29 rfl ntmps29 fun w0=>?_;refine Ez (v:=v) (x:=e) (F:=F) ?_;rintro a1 c1 F3 rfl l1;unfold maxLen at l1;refine Ez (v:=v2) (x:=e) (F:=F2) ?_;rintro a2 c2 F4 rfl l2;refine go ?_;intros;refine Dm rfl rfl (fun h1=>?_) (fun h1=>?_)
 ·exact absurd rfl h1
 refine go ?_;refine Bf rfl (fun h2=>?_) (fun h2=>?_)
 ·exact absurd rfl h2
 refine go ?_;refine Ei [2,3,4] (fun k:Nat=>[(5,aa (k:Nat))]) (fun k=>k<=e.Af.length) (fun k=>e.Af.length - k) 0 (aD _) fun k hk=>?_;refine go ?_;refine Bf rfl (fun h3=>?_) (fun h3=>?_)
 ·have hk3:k < e.Af.length:=EM
  refine Um (a:=a1) (xs:=e.Af) k ?_;rintro hi b o a5 c5 F5 e6 l5;rw [e6];refine Um (a:=a2) (xs:=e.Af) k ?_;rintro hi2 b2 o2 a7 c7 F7 e8 l7;rw [e8];refine go ?_;refine As [0,2,4,5] [] ?_;refine D7 0 1 2 3 ?_;refine D7 4 5 6 7 ?_;refine Ek 8 9 ?_;refine dM 10 11 ?_ ?_
  ·apply Cq;rfl;intro _;refine dk ?_;refine dN 11 ?_;apply Cq;rfl;intro _;refine dk ?_;refine dN 12 ?_;refine oS ?_;refine dk ?_;refine dN 13 ?_;refine oS ?_;refine dk ?_;refine dd ?_;refine go ?_;refine Dm rfl rfl (fun h4=>?_) (fun h4=>?_)
   ·exact absurd rfl h4
   refine go ?_;refine Dm rfl rfl (fun h5=>?_) (fun h5=>?_)
   ·exact absurd rfl h5
   refine go ?_;refine Bw (Ah9 _ _ e.Af[k].Bp F5 F7) fun _ _=>?_;refine go ?_;refine Cv (k+1) EM EM
  ·apply Cq;rfl;intro _;refine dk ?_;refine dN 10 ?_;apply Cq;rfl;intro _;refine dk ?_;refine dN 12 ?_;refine oS ?_;refine dk ?_;refine dN 13 ?_;refine oS ?_;refine dk ?_;refine dd ?_;refine go ?_;refine Dm rfl rfl (fun h4=>?_) (fun h4=>?_)
   ·exact absurd rfl h4
   refine go ?_;refine Dm rfl rfl (fun h5=>?_) (fun h5=>?_)
   ·exact absurd rfl h5
   refine go ?_;refine Bw (Ah9 _ _ e.Af[k].Bp F5 F7) fun _ _=>?_;refine go ?_;refine Cv (k+1) EM EM
 ·exact AB
theorem Ata (l:al) (n:Int):(Px l n).length<=l.length+1:=by
 unfold Px
 split
 ·omega
 ·simp only [aw,aL,aK,aU];omega
theorem D6 {e:Bg}:Ba e=true↔J9 e.Ae=true/\e.Af.length<=5/\(∀x∈e.Af,Kq e.Ae x=true)/\e.Af.Pairwise fun a b=>a.Ab≠b.Ab:=by
 unfold Ba;simp only [av,aC];constructor
 ·rintro ⟨⟨h1,h2⟩,h3⟩;refine ⟨h1,h2,fun x hx=>?_,aX.2 fun i j hi hj hij=>?_⟩
  ·obtain ⟨i,hi,rfl⟩:=aR hx;have:=I5 h3 i hi;rw [J8 hi,av] at this;exact this.1
  ·have:=I5 h3 j hj;rw [J8 hj,av,bv,cN] at this;have:=this.2 e.Af[i] (cu.2 ⟨i,EM,rfl⟩);simpa using this
 ·rintro ⟨h1,h2,h3,h4⟩;refine ⟨⟨h1,h2⟩,Jr fun i hi=>?_⟩;rw [J8 hi,h3 _ (aE hi),bW,bv,cN];intro x hx;obtain ⟨j,hj,rfl⟩:=cu.1 hx;have:=aX.1 h4 j i EM hi EM;simpa using this
theorem Js {c:Int} {x:Et}:Kq c x=true↔Cm x.Ab=true/\0 < x.Bp.length/\(x.Bp.Pairwise (· < ·)/\∀z∈x.Bp,1<=z/\z<=7)/\c+1<=x.Bl/\x.Bl<=c+6:=by
 unfold Kq Ht;simp only [av,aC];exact ⟨fun ⟨a,b,c,d⟩=>⟨a,b,Aa0 c,d⟩,fun ⟨a,b,c,d⟩=>⟨a,b,Agj c.1 c.2,d⟩⟩
theorem Ajz (l:al) (n:Int):(∀j (_:j < Kg l n) (h:j < l.length),l[j] < n)/\∀h:Kg l n < l.length,¬l[Kg l n] < n:=by
 have:=Qi (p:=fun x=>decide (x < n)) (xs:=l);exact ⟨fun j hj h=>bP (this.2.1 j hj h),fun h=>of_decide_eq_false (this.2.2 h)⟩
theorem Zi {l:al} {n x:Int}:x∈Px l n↔x=n\/x∈l:=by
 unfold Px
 split
 ·rename_i h;have:=bM h;exact ⟨fun h=>.inr h,fun h=>by rcases h with rfl|h;exact this;exact h⟩
 ·rw [aG,aF];constructor
  ·rintro (h|h|h)
   ·exact .inr (bg h)
   ·exact DS
   ·exact .inr (bj h)
  ·rintro (h|h)
   ·exact .inr (.inl h)
   ·rw [<-bm (Kg l n) l,aG] at h;rcases h with h|h
    ·exact DS
    ·exact .inr (.inr h)
theorem Awn {l:al} {n:Int} (h:l.Pairwise (· < ·)):(Px l n).Pairwise (· < ·):=by
 obtain ⟨s1,s2⟩:=Ajz l n;have hp:=aX.1 h;unfold Px
 split
 ·exact h
 ·rename_i hne;refine dJ.2 ⟨h.sublist (dC _ _),ci.2 ⟨fun z hz=>?_,h.sublist (fh _ _)⟩,fun a ha b hb=>?_⟩
  ·obtain ⟨j,hj,rfl⟩:=dQ.1 hz;have hk:Kg l n < l.length:=EM
   have h1:=s2 hk;have h2:l[Kg l n]≠n:=fun e=>hne (by rw [aB hk,e]);rcases bQ j with rfl|hj0
   ·simp only [bO];omega
   ·have:=hp (Kg l n) (Kg l n+j) hk EM EM;omega
  ·obtain ⟨i,hi,rfl⟩:=cu.1 ha;have h1:=s1 i EM EM;rcases aF.1 hb with rfl|hb
   ·exact h1
   ·obtain ⟨j,hj,rfl⟩:=dQ.1 hb;exact hp i (Kg l n+j) EM EM EM
theorem Jy {f:Int}:M7 f=true↔1<=f/\f<=7:=by unfold M7 Ht;simp
theorem Aag {e:Bg} {n f:Int} (hg:Ba e=true) (hn:Cm n=true) (hf:M7 f=true):Ba (Ka e n f)=true:=by
 obtain ⟨h1,h2,h3,h4⟩:=D6.1 hg;obtain ⟨f1,f2⟩:=Jy.1 hf;rcases O6 e n with ⟨h, -,e2, -⟩|⟨-,e2, -,e4⟩
 ·rw [Aeb h];have hx:=Js.1 (h3 _ (aE h));refine D6.2 ⟨h1,GD,fun x hx'=>?_,?_⟩
  ·rcases bq hx' with h'|rfl
   ·exact h3 x h'
   ·refine Js.2 ⟨hx.1,?_,⟨Awn hx.2.2.1.1,fun z hz=>?_⟩,hx.2.2.2⟩
    ·exact dh (Zi.2 (.inl rfl))
    ·rcases Zi.1 hz with rfl|hz
     ·exact ⟨f1,f2⟩
     ·exact hx.2.2.1.2 z hz
  ·refine aX.2 fun i j hi hj hij=>?_;have hp:=aX.1 h4 i j GG HO hij;simp only [dv]
   split <;> split <;> simp_all
 ·by_cases hl:e.Af.length < 5
  ·rw [Aea e2 hl];refine D6.2 ⟨h1,ET,fun x hx=>?_,?_⟩
   ·rcases aG.1 hx with h'|h'
    ·exact h3 x h'
    ·simp only [aF,aM,bn] at h';subst h';exact Js.2 ⟨hn,EO,⟨EO,by simp [f1,f2]⟩,by show e.Ae+1<=e.Ae+6;omega,by show e.Ae+6<=e.Ae+6;omega⟩
   ·refine dJ.2 ⟨h4,EO,fun a ha b hb=>?_⟩;simp only [aF,aM,bn] at hb;subst hb;exact e4 a ha
  ·rw [Aaz e2 hl];exact hg
theorem Afx {e:Bg} {n:Int} (hg:Ba e=true):Ba (Jz e n)=true:=by
 obtain ⟨h1,h2,h3,h4⟩:=D6.1 hg;rcases O6 e n with ⟨h, -,e2, -⟩|⟨-,e2, -,e4⟩
 ·rw [Ad8 h];have hs:(e.Af.take (Le e n)++e.Af.drop (Le e n+1)).Sublist e.Af:=by
   have:=List.Sublist.append (List.Sublist.refl (e.Af.take (Le e n))) (List.drop_sublist_drop_left e.Af (Nat.le_succ (Le e n)))
   rwa [bm] at this
  exact D6.2 ⟨h1,bi hs.length_le h2,fun x hx=>h3 x (hs.subset hx),h4.sublist hs⟩
 ·rw [Ahu e2];exact hg
theorem Tu {e:Bg} {n:Int} {l:al}:∀z∈Pr e n l,z∈l:=fun z hz=>by
 unfold Pr at hz
 split at hz
 ·have:=(aO.1 hz).2;simpa using this
 ·split at hz
  ·exact hz
  ·simp at hz
theorem Amd {r:Ay} {d:Int} (hg:Eu r) (hk:r.Ae < 9999) (d0:1<=d) (d1:d<=8):Lh (Ir r d) r.Aa.next=true/\∀q∈Ir r d,Ho r.Aa q.Ab=false:=by
 have k0:=hg.k0;obtain ⟨h1,h2,h3,h4⟩:=Dv.1 hg.q;refine ⟨Dv.2 ⟨h1,bi (Aba r d) h2,fun q hq=>?_,?_⟩,fun q hq=>(Zs hg hq).2.2⟩
 ·obtain ⟨q',hq',h⟩:=bB.1 hq;have ho:=Ep.1 (h3 q' hq');unfold Qh at h
  split at h
  ·cases h;exact h3 q hq'
  ·split at h
   ·cases h
   ·rename_i hn;have t0:=ho.t0;have t1:=ho.t1
    split at h
    ·cases h;exact Ep.2 ⟨ho.n,ho.g,by show (1:Int)<=2;decide,by show (2:Int)<=3;decide,by show 0<=r.Ae+1+3;omega,by show r.Ae+1+3<=10007;omega,by show 0<=q'.Ch+1;omega,by show q'.Ch+1<=3;omega⟩
    ·cases h;exact Ep.2 ⟨ho.n,ho.g,by show (1:Int)<=1;decide,by show (1:Int)<=3;decide,by show 0<=r.Ae+1+d;omega,by show r.Ae+1+d<=10007;omega,t0,t1⟩
 ·unfold Ir;refine List.Pairwise.filterMap _ (fun a a' h b hb b' hb'=>?_) h4;rw [Rd hb,Rd hb'];exact h
theorem Aa8 {r:Ay} {d:Int} (hg:Eu r) (hk:r.Ae < 9999) (d0:1<=d) (d1:d<=8):Eu (Bj r d):=by
 have k0:=hg.k0;obtain ⟨hq,hf⟩:=Amd hg hk d0 d1;by_cases hL:Cf r=[]
 ·rw [Aep hL];refine ⟨by show 0<=r.Ae+1;omega,by show r.Ae+1<=9999;omega,hg.w,hq,hf,fun hs=>?_⟩;obtain ⟨e1,e2⟩:=hg.z hs;refine ⟨e1,?_⟩;show Ir r d=[];unfold Ir;rw [e2];rfl
 ·have hst:r.A1=true:=by
   cases hs:r.A1
   ·exfalso;apply hL;unfold Cf;rw [(hg.z hs).2];rfl
   ·rfl
  rw [Aa7 hL];obtain ⟨e1, -,e3, -⟩:=Na (t:=Ct (Cf r)) hg.w;have hs8:=(Ach hg hL).1;have hgp:=@Wr r.Aa.next (Ct (Cf r))
  have hw:C7 (Gt r.Aa (Ct (Cf r)))=true:=Abg _ _ hg.w;rw [<-Ab0 hg hL];refine ⟨by show 0<=r.Ae+1;omega,by show r.Ae+1<=9999;omega,hw,Abq (m:=(Fm r.Aa (Ct (Cf r))).length) EM hq hw e1,Oq,fun hs=>?_⟩;have:r.A1=false:=hs;rw [hst] at this;cases this
end Go.Proofs.YtmckdnddocfodaaGreatDoor
namespace Go.Proofs.YtmckdnddocfodaaGreatDoor

def Aku:Cc:=⟨⟨0,0,[]⟩,0,0,[]⟩
end Go.Proofs.YtmckdnddocfodaaGreatDoor
namespace Go.Proofs.YtmckdnddocfodaaGreatDoor
open Go.RowKit
structure Ag1 where
 a:ai
 c:Nat
 a2:ai
 c2:Nat
 F:ak
def Akp (x:Cc) (W:Ax):Cc:=⟨W,x.Ae,x.quiet,Mv W x.holds⟩
structure Bat (x:Cc):Prop where
 w:D9 x.Aa=true
 l:x.Aa.An.length<=6
 t0:0<=x.Aa.Al
 t1:x.Aa.Al<=65535
 k0:0<=x.Ae
 k1:x.Ae<=9999
 m:x.holds.length<=6
 n:∀h∈x.holds,Cm h.Ab=true
 u:∀h∈x.holds,x.Ae+1<=h.Bl
 b:∀h∈x.holds,h.Bl<=x.Ae+3
theorem M4 {x:Cc} (h:Cj x=true):Bat x:=by
 unfold Cj at h;simp only [av] at h;obtain ⟨⟨⟨h1,h2⟩,h3⟩,h4⟩:=h;obtain ⟨⟨t0,t1⟩,⟨s0,s1⟩,s2, -⟩:=D0.1 h1;obtain ⟨k0,k1⟩:=Ag5 h2;have hc:∀h∈x.holds,Cm h.Ab=true/\x.Ae+1<=h.Bl/\h.Bl<=x.Ae+3:=fun h hh=>by
  obtain ⟨i,hi,rfl⟩:=aR hh;have:=aQ.1 h4 i GG;rw [O3 hi] at this;simp only [av,Ht,aC] at this;exact ⟨this.1.1.1,this.1.2.1,this.1.2.2⟩
 have hg:∀i,(hi:i < x.holds.length)->(i:Int)<=gp x.Aa.Al x.holds[i].Ab/\gp x.Aa.Al x.holds[i].Ab < 6:=by
  intro i
  induction i with
  | zero =>
   intro hi;have:=aQ.1 h4 0 GG;rw [O3 hi] at this;simp only [av,E5,aC] at this;have b:=Kc x.Aa.Al x.holds[0].Ab;exact ⟨EM,by have:=this.1.1.2;omega⟩
  | succ i ih =>
   intro hi;have p:=ih EM;have:=aQ.1 h4 (i+1) GG;rw [O3 hi] at this;simp only [av,E5,aC,bJ,bv,bD] at this;have q:=this.2;have q2:=this.1.1.2;simp only [eT] at q;rcases q with q|q
   ·omega
   ·exact ⟨EM,EM⟩
 have hm:x.holds.length<=6:=by
  by_cases h0:x.holds.length<=6
  ·exact h0
  ·have:=hg 6 EM;omega
 exact ⟨h1,EM,t0,t1,k0,k1,hm,fun h hh=>(hc h hh).1,fun h hh=>(hc h hh).2.1,fun h hh=>(hc h hh).2.2⟩
def Xd (hs:List Hm):Prop:=∀h∈hs, -1<=h.Ab/\h.Ab<=65536
theorem Acu {hs:List Hm} (hn:∀h∈hs,Cm h.Ab=true):Xd hs:=fun h hh=>by have:=Bb.1 (hn h hh);omega
def Hx (W:Ax) (cl:Int) (hs:List Hm):List Hm:=hs.filter fun h=>E5 W h.Ab && decide (cl < h.Bl)
theorem V2 {W:Ax} {cl:Int} {hs:List Hm} (h:∀z∈hs,cl+1<=z.Bl):Hx W cl hs=Mv W hs:=by
 unfold Hx Mv;refine dZ fun z hz=>?_;rw [au (show cl < z.Bl by have:=h z hz;omega),fg]
theorem Atj (h:Hm) (w:World):C6 Bx w [aa h.Ab,aa h.Bl] [h] []:=⟨_,[],[],[],EO,EO,⟨rfl,rfl⟩,rfl,rfl⟩
structure HoS where
 k:Nat
 a:ai
 c:Nat
 F:ak
theorem Abm (W:Ax) (hs:List Hm) (cl:Int) (v:Value) (a2:ai) (c2:Nat) (F G:ak) (t0:0<=W.Al) (t1:W.Al<=65535) (hl:hs.length<=1000) (hn:Xd hs) :
  Fn prog 164 [ab a2 hs.length c2,v,aa cl] [.isv Ci v W F,.sl Bx (ab a2 hs.length c2) hs G] [] (fun (_:ai × Nat × ak)=>True)
   (fun z=>.slice z.1 (Hx W cl hs).length z.2.1) (fun z=>[.ow Bx 130 (.slice z.1 (Hx W cl hs).length z.2.1) (Hx W cl hs) z.2.2]):=by
 refine enter func164 rfl ntmps164 fun w0=>?_;refine Eq ?_;rintro a1 c1 F1 rfl l1;refine go ?_;intros;refine Dk Bx ?_;refine Cu [0,2,4,6] (fun s:HoS=>[(7,.slice s.a (Hx W cl (hs.take s.k)).length s.c),(8,aa s.k)]) (fun s=>[.ow Bx 130 (.slice s.a (Hx W cl (hs.take s.k)).length s.c) (Hx W cl (hs.take s.k)) s.F]) (fun s=>s.k<=hs.length) (fun s=>hs.length - s.k) ⟨0,_,0,_⟩ (aD _) fun s hk=>?_;obtain ⟨k,a5,c5,F5⟩:=s;dsimp only at hk ⊢;refine go ?_;refine Bf rfl (fun h3=>?_) (fun h3=>?_)
 ·have hk3:k < hs.length:=EM
  obtain ⟨n0,n1⟩:=hn hs[k] (aE hk3);have hkl:(Hx W cl (hs.take k)).length<=1000:=by have:=bA (fun h:Hm=>E5 W h.Ab && decide (cl < h.Bl)) (hs.take k);unfold Hx;simp only [aL] at this;omega
  refine Tb (xs:=hs) k ?_;rintro hi b o e;rw [e];cases g5:E5 W hs[k].Ab
  ·refine Ke ?_;intros;refine As [0,2] [] ?_;refine D7 0 1 2 3 ?_;refine Ek 4 5 ?_;refine dN 6 ?_;refine oC ?_;refine cb (fun w st=>(Wl W hs[k].Ab _ _ t0 t1 n0 n1).val w (I0 (st.get (p:=.isv Ci (.agg #[aa W.Al,aa W.size,ab a1 W.An.length c1]) W F) EO))) ?_;rw [g5];refine dk ?_;refine dt 7 ?_;refine ds 8 ?_;refine ds 9 ?_;refine ds 10 ?_;refine ds 11 ?_;refine ds 12 ?_;refine ds 13 ?_;refine ds 14 ?_;refine dt 15 ?_;refine dd ?_;refine go ?_;have hf:Hx W cl (hs.take (k+1))=Hx W cl (hs.take k):=Df hk3 (by rw [g5];rfl);rw [<-hf]
   refine Cv ⟨k+1,a5,c5,F5⟩ hk3 JB
  ·refine Ke ?_;intros;refine As [0,2] [] ?_;refine D7 0 1 2 3 ?_;refine Ek 4 5 ?_;refine dN 6 ?_;refine oC ?_;refine cb (fun w st=>(Wl W hs[k].Ab _ _ t0 t1 n0 n1).val w (I0 (st.get (p:=.isv Ci (.agg #[aa W.Al,aa W.size,ab a1 W.An.length c1]) W F) EO))) ?_;rw [g5];refine dk ?_;refine dt 7 ?_;refine E6 8 ?_;refine E6 9 ?_;refine E6 10 ?_;refine E6 11 ?_;refine E6 12 ?_;refine E6 13 ?_;refine E6 14 ?_;refine dt 15 ?_;refine dd ?_;refine go ?_;refine Bf rfl (fun h5=>?_) (fun h5=>?_)
   ·refine go ?_;intros;apply wO;refine No (Atj hs[k]) Iw fun a6 c6 F6=>?_;have hf:Hx W cl (hs.take (k+1))=Hx W cl (hs.take k)++[hs[k]]:=Gj hk3 (by rw [g5,au h5];rfl);rw [<-hf];refine go ?_;refine Cv ⟨k+1,a6,c6,F6⟩ hk3 JB
   ·refine go ?_;have hf:Hx W cl (hs.take (k+1))=Hx W cl (hs.take k):=Df hk3 (by rw [g5,ay h5];rfl);rw [<-hf];refine Cv ⟨k+1,a5,c5,F5⟩ hk3 JB
 ·have hkl:k=hs.length:=EM
  subst hkl;rw [bG];refine go ?_;refine ret (a5,c5,F5) trivial rfl
def We (x:Cc) (W:Ax):Cc:=⟨W,x.Ae,x.quiet,Hx W x.Ae x.holds⟩
theorem Auv {x:Cc} {W:Ax} (h:∀z∈x.holds,x.Ae+1<=z.Bl):We x W=Akp x W:=by unfold We Akp;rw [V2 h]
theorem Sd (x:Cc) (W:Ax) (v vw:Value) (F Fw:ak) (y0:0<=W.Al) (y1:W.Al<=65535) (hl:x.holds.length<=1000) (hn:Xd x.holds) :
  Fn prog 139 [v,vw] [.isv El v x F,.isv Ci vw W Fw] [] (fun (_:Ag1)=>True) (fun s=>.agg #[aa W.Al,aa W.size,ab s.a W.An.length s.c,aa x.Ae,aa x.quiet,.slice s.a2 (Hx W x.Ae x.holds).length s.c2])
   (fun s=>[.isv El (.agg #[aa W.Al,aa W.size,ab s.a W.An.length s.c,aa x.Ae,aa x.quiet,.slice s.a2 (Hx W x.Ae x.holds).length s.c2]) (We x W) s.F]):=by
 refine enter func139 rfl ntmps139 fun w0=>?_;refine Gh ?_;rintro a1 c1 F1 a2 c2 F2 rfl l1 l2;refine Eq (x:=W) (F:=Fw) ?_;rintro a3 c3 F3 rfl l3;refine go ?_;intros;refine As [1,2] [] ?_;refine D7 0 1 2 3 ?_;refine D7 4 5 6 7 ?_;refine Ek 8 9 ?_;refine dN 10 ?_;refine oC ?_;refine Bw (Abm W x.holds x.Ae _ a2 c2 Fw F2 y0 y1 EM hn) fun z _=>?_;refine dk ?_;refine dt 11 ?_;refine dN 12 ?_;refine oS ?_;refine dk ?_;refine dd ?_;refine go ?_;refine Az (E:=Bx) fun F9=>?_;refine Ed (We x W) ?_;exact DP
theorem Apb (x:Cc) (W:Ax) (v vw:Value) (F Fw:ak) (y0:0<=W.Al) (y1:W.Al<=65535) (hl:x.holds.length<=1000) (hn:∀h∈x.holds,Cm h.Ab=true) (hu:∀h∈x.holds,x.Ae+1<=h.Bl) :
  Fn prog 139 [v,vw] [.isv El v x F,.isv Ci vw W Fw] [] (fun (_:Ag1)=>True) (fun s=>.agg #[aa W.Al,aa W.size,ab s.a W.An.length s.c,aa x.Ae,aa x.quiet,.slice s.a2 (Mv W x.holds).length s.c2])
   (fun s=>[.isv El (.agg #[aa W.Al,aa W.size,ab s.a W.An.length s.c,aa x.Ae,aa x.quiet,.slice s.a2 (Mv W x.holds).length s.c2]) (Akp x W) s.F]):=by
 have h:=Sd x W v vw F Fw y0 y1 hl (Acu hn);rw [Auv hu,V2 hu] at h;exact h
end Go.Proofs.YtmckdnddocfodaaGreatDoor
namespace Go.Proofs.YtmckdnddocfodaaGreatDoor

open Go.RowKit Go.Shelf
end Go.Proofs.YtmckdnddocfodaaGreatDoor
namespace Go.Proofs.YtmckdnddocfodaaGreatDoor
open Go.RowKit
theorem Vf.frame {α:Type} {E:B8 α} {w w':World} {v x F} (h:Vf E w v x F) (hF:∀b∈F,w'.heap[b]?=w.heap[b]?):Vf E w' v x F:=by
 obtain ⟨cs,hv,h⟩:=h;exact ⟨cs,hv,E.frame h hF⟩
theorem Amo (t n:Int):A8 (A8 t 1) (n - 1)=A8 t n:=by unfold A8;omega
def Cw (x:Ax):Ax:=if (x.An.length:Int)=x.size then ⟨A8 x.Al 1,x.size,x.An.drop 1⟩ else x
def Dt (x:Ax) (s:am):Ax:=⟨(Cw x).Al,x.size,(Cw x).An++[s]⟩
def Di (x:Ax) (s:am):Ar:=⟨1,A8 x.Al x.An.length,(Cw x).Al,A8 (Cw x).Al ((Cw x).An.length+1),s⟩
theorem Hz (t z:Int) (a:ai) (n c:Nat) (w:World) (h0:0<=t) (h1:t<=65535) (hn:n<=4294967296) :
  Calls prog 44 #[.agg #[aa t,aa z,ab a n c]] w (RB (aa (A8 t n)) w):=by
 go_enter func44,ntmps44
 go_wp2_with fail;refine (Q4 _ _ _ EM EM).mono ?_;rintro e w' ⟨rfl,rfl⟩;go_wp2_with fail
 go_ret
 exact ⟨rfl,(Below.refl _ _).alloc (aA _) _⟩
theorem V3 (t z:Int) (a:ai) (n c:Nat) (w:World) (h0:0<=t) (h1:t<=65535) (hn:n<=4294967296) :
  Calls prog 161 #[.agg #[aa t,aa z,ab a n c]] w (RB (aa (A8 t n)) w):=by
 go_enter func161,ntmps161
 go_wp2_with fail;refine (Hc _ _ _ EM EM).mono ?_;rintro e w' ⟨rfl,rfl⟩;go_wp2_with fail
 go_ret
 exact ⟨rfl,(Below.refl _ _).alloc (aA _) _⟩
structure Bbv where
 Ax9:ah
 Ax1:am
 Bbe:Int
end Go.Proofs.YtmckdnddocfodaaGreatDoor
namespace Go.Proofs.YtmckdnddocfodaaGreatDoor

open Go.RowKit Go.Shelf
end Go.Proofs.YtmckdnddocfodaaGreatDoor
namespace Go.Proofs.YtmckdnddocfodaaGreatDoor
open Go.RowKit
structure Bcg (x:Bbv):Prop where
 l:x.Ax9.length<=8
 q:∀s∈x.Ax9,s.size<=60
 f:x.Ax1.size<=40
 u0:0<=x.Bbe
 u1:x.Bbe<=x.Ax1.size
end Go.Proofs.YtmckdnddocfodaaGreatDoor
namespace Go.Proofs.YtmckdnddocfodaaGreatDoor

open Go.RowKit Go.Shelf
end Go.Proofs.YtmckdnddocfodaaGreatDoor
namespace Go.Proofs.YtmckdnddocfodaaGreatDoor
open Go.RowKit
section
variable {c:Cx} {fr:Fr} {H:List Pc} {Φ:Gl}
end
end Go.Proofs.YtmckdnddocfodaaGreatDoor
namespace Go.Proofs.YtmckdnddocfodaaGreatDoor

open Go.RowKit
end Go.Proofs.YtmckdnddocfodaaGreatDoor
namespace Go.Proofs.YtmckdnddocfodaaGreatDoor
open Go.RowKit
structure PuS where
 a:ai
 c:Nat
 F:ak
theorem P0 {x:Ax} (t0:0<=x.Al) (t1:x.Al<=65535):0<=(Cw x).Al/\(Cw x).Al<=65535:=by
 unfold Cw
 split
 ·exact Is _ _
 ·exact ⟨t0,t1⟩
theorem Avb (x:Ax) (k:Nat) (g t o:Nat) (A B:aj) (r1 r2 r3:Value) (a:ai) (c:Nat) (F:ak) (hl:x.An.length<=6) (hk:k<=x.An.length) (t0:0<=x.Al) (t1:x.Al<=65535) :
  Fn prog 203 [Fv g o 0,aa (k:Nat)] [] [.row g t o A [aa x.Al,aa x.size,ab a x.An.length c,r1,r2,r3] B,.ow Bc 9 (ab a x.An.length c) x.An F] (fun (_:PuS)=>True) (fun _=>.tuple #[]) (fun z=>[.row g t o A [aa (A8 x.Al k),aa x.size,.slice z.a (x.An.drop k).length z.c,r1,r2,r3] B,.ow Bc 9 (.slice z.a (x.An.drop k).length z.c) (x.An.drop k) z.F]):=by
 refine enter func203 rfl ntmps203 fun w0=>?_;refine Az (E:=Bc) (xs:=x.An) fun Fr=>?_;refine go ?_;apply wO;refine sld k fun a2 c2 F2=>?_;refine go ?_;refine cn (fun w st=>Yi _ _ _ _ (st.get (p:=.sl Bc (.slice a2 (x.An.drop k).length c2) (x.An.drop k) F2) EQ).2 (by rw [aU];omega)) fun a6 c6 F6=>?_;refine go ?_;refine ce (fun w st=>Q4 x.Al k w EM EM) ?_;refine go ?_;refine Va ?_;refine ret ⟨a6,c6,F6⟩ trivial rfl
theorem Azf (x:Ax) (s:am) (g t o:Nat) (A B:aj) (r1 r2 r3:Value) (a:ai) (c:Nat) (F:ak) (hl:x.An.length<=6) (ht:Cm x.Al=true) (hs:s.size<=maxLen) (hz:1<=x.size) :
  Fn prog 153 [Fv g o 0,af s] [] [.row g t o A [aa x.Al,aa x.size,ab a x.An.length c,r1,r2,r3] B,.ow Bc 9 (ab a x.An.length c) x.An F] (fun (_:PuS)=>True) (fun _=>.agg #[aa 1,aa (Di x s).Ab,aa (Di x s).Al,aa (Di x s).Cy,af s])
   (fun z=>[.row g t o A [aa (Dt x s).Al,aa (Dt x s).size,.slice z.a (Dt x s).An.length z.c,r1,r2,r3] B,.ow Bc 9 (.slice z.a (Dt x s).An.length z.c) (Dt x s).An z.F]):=by
 obtain ⟨t0,t1⟩:=Bb.1 ht;obtain ⟨R,hR⟩:∃R,Cw x=R:=⟨_,rfl⟩;have hb:=P0 t0 t1;have hRl:R.An.length<=6:=by
  rw [<-hR];unfold Cw
  split
  ·show (x.An.drop 1).length<=6;rw [aU];omega
  ·exact hl
 have hnum:A8 R.Al R.An.length=A8 x.Al x.An.length:=by
  rw [<-hR];unfold Cw
  split
  ·rename_i h;show A8 (A8 x.Al 1) ((x.An.drop 1).length:Nat)=_;rw [aU,show ((x.An.length - 1:Nat):Int)=(x.An.length:Int) - 1 by omega,Amo]
  ·rfl
 rw [show Dt x s=⟨R.Al,x.size,R.An++[s]⟩ by unfold Dt;rw [hR],show Di x s=⟨1,A8 x.Al x.An.length,R.Al,A8 R.Al (R.An.length+1),s⟩ by unfold Di;rw [hR]];dsimp only;rw [hR] at hb;refine enter func153 rfl ntmps153 fun w0=>?_;refine go ?_;intros;refine cb (fun w st=>Hz _ _ _ _ _ w t0 t1 EM) ?_;refine go ?_;refine As [1] [] ?_;refine D7 0 1 2 3 ?_;refine D7 4 5 6 7 ?_;refine Ek 8 9 ?_;refine dd ?_;refine go ?_
 refine Gw [0,1,4,5] [0] (fun _:PuS=>[]) (fun z=>[.row g t o A [aa R.Al,aa x.size,ab z.a R.An.length z.c,r1,r2,r3] B,.ow Bc 9 (ab z.a R.An.length z.c) R.An z.F]) (fun _=>True) ?_ fun z _=>?_
 ·refine Bf rfl (fun h1=>?_) (fun h1=>?_)
  ·have e:R=⟨A8 x.Al 1,x.size,x.An.drop 1⟩:=by rw [<-hR];unfold Cw;rw [ar h1]
   rw [e];refine go ?_;refine Bw (Avb x 1 g t o A B _ _ _ a c F hl EM t0 t1) fun z _=>?_;refine go ?_;refine Cs z trivial
  ·have e:R=x:=by rw [<-hR];unfold Cw;rw [aq h1]
   rw [e];refine go ?_;refine Cs ⟨a,c,F⟩ trivial
 refine go ?_;intros;apply wO;refine No (E:=Bc) (ys:=[s]) (fun w=>⟨[af s],[],[],[],rfl,rfl,⟨rfl,hs,rfl⟩,rfl,rfl⟩) Ej fun a7 c7 F7=>?_;have hla:((R.An++[s]).length:Int)=R.An.length+1:=EO
 refine go ?_;dsimp only [List.append];refine As [1] [] ?_;refine D7 0 1 2 3 ?_;refine D7 4 5 6 7 ?_;refine dt 9 ?_;refine dN 8 ?_;refine oC ?_;refine cb (fun w st=>Hz _ _ _ _ _ w hb.1 hb.2 EM) ?_;refine dk ?_;refine dt 10 ?_;refine dN 11 ?_;refine oS ?_;refine dk ?_;refine dd ?_;refine go ?_;refine ret ⟨a7,c7,F7⟩ trivial ?_;rw [hla];rfl
theorem Aar (x:Ax) (k:Nat) (v:Value) (F:ak) (hl:x.An.length<=4294967296) (hk:k<=x.An.length) (t0:0<=x.Al) (t1:x.Al<=65535) :
  Fn prog 140 [v,aa (k:Nat)] [.isv Ci v x F] [] (fun (_:PuS)=>True) (fun z=>.agg #[aa (A8 x.Al k),aa x.size,.slice z.a (x.An.drop k).length z.c]) (fun z=>[.ow Bc 9 (.slice z.a (x.An.drop k).length z.c) (x.An.drop k) z.F]):=by
 refine enter func140 rfl ntmps140 fun w0=>?_;refine Eq ?_;rintro a1 c1 F1 rfl l1;have hdk:(x.An.drop k).length=x.An.length - k:=aU;refine go ?_;intros;refine As [1,2] [] ?_;refine D7 0 1 2 4 ?_;refine D7 5 7 8 9 ?_;refine Ala 10 k fun a5 c5 F5=>?_;refine dM 3 6 ?_ ?_
 ·refine oC ?_;refine ce (fun w st=>Hc x.Al k w EM EM) ?_;refine dk ?_;refine dN 6 ?_;apply Lt;rfl;intro _;refine Dk Bc ?_;exact BU
 ·apply Lt;rfl;intro _;refine Dk Bc ?_;refine dk ?_;refine dN 3 ?_;refine oC ?_;refine ce (fun w st=>Hc x.Al k w EM EM) ?_;exact BU
theorem Asj (x:Ax) (s:am) (v:Value) (F:ak) (hl:x.An.length<=6) (t0:0<=x.Al) (t1:x.Al<=65535) (hs:s.size<=maxLen) (hz:1<=x.size) :
  Fn prog 143 [v,af s] [.isv Ci v x F] [] (fun (_:Value × ak)=>True) (fun z=>.tuple #[z.1,.agg #[aa 1,aa (Di x s).Ab,aa (Di x s).Al,aa (Di x s).Cy,af s]]) (fun z=>[.isv Ci z.1 (Dt x s) z.2]):=by
 have e0:A8 x.Al ((0:Nat):Int)=x.Al:=by unfold A8;omega
 obtain ⟨R,hR⟩:∃R,Cw x=R:=⟨_,rfl⟩;have hb:=P0 t0 t1;have hRl:R.An.length<=6:=by
  rw [<-hR];unfold Cw
  split
  ·show (x.An.drop 1).length<=6;rw [aU];omega
  ·exact hl
 have hnum:A8 R.Al R.An.length=A8 x.Al x.An.length:=by
  rw [<-hR];unfold Cw
  split
  ·rename_i h;show A8 (A8 x.Al 1) ((x.An.drop 1).length:Nat)=_;rw [aU,show ((x.An.length - 1:Nat):Int)=(x.An.length:Int) - 1 by omega,Amo]
  ·rfl
 rw [show Dt x s=⟨R.Al,x.size,R.An++[s]⟩ by unfold Dt;rw [hR],show Di x s=⟨1,A8 x.Al x.An.length,R.Al,A8 R.Al (R.An.length+1),s⟩ by unfold Di;rw [hR]];dsimp only;rw [hR] at hb;refine enter func143 rfl ntmps143 fun w0=>?_;refine Eq ?_;rintro a1 c1 F1 rfl l1;refine go ?_;intros;refine Bw (Aar x 0 _ F EM (aD _) t0 t1) fun y _=>?_;rw [e0,dW];refine go ?_;intros;rename_i g
 refine Gw [1,2,4,5,6] [2,3,4,5,6] (fun _:PuS=>[]) (fun z=>[.row g 29 0 [] [aa R.Al,aa x.size,ab z.a R.An.length z.c] [],.ow Bc 9 (ab z.a R.An.length z.c) R.An z.F]) (fun _=>True) ?_ fun z _=>?_
 ·refine Bf rfl (fun h1=>?_) (fun h1=>?_)
  ·have e:R=⟨A8 x.Al 1,x.size,x.An.drop 1⟩:=by rw [<-hR];unfold Cw;rw [ar h1]
   rw [e];refine go ?_;refine Bw (Aar x 1 _ F EM EM t0 t1) fun z _=>?_;refine go ?_;refine Cs z trivial
  ·have e:R=x:=by rw [<-hR];unfold Cw;rw [aq h1]
   rw [e];refine go ?_;refine Cs ⟨y.a,y.c,y.F⟩ trivial
 refine go ?_;refine cb (fun w st=>V3 _ _ _ _ _ w hb.1 hb.2 EM) ?_;rw [hnum];refine go ?_;intros;apply wO;refine No (E:=Bc) (ys:=[s]) (fun w=>⟨[af s],[],[],[],rfl,rfl,⟨rfl,hs,rfl⟩,rfl,rfl⟩) Ej fun a7 c7 F7=>?_;have hla:((R.An++[s]).length:Int)=R.An.length+1:=EO
 refine go ?_;dsimp only [List.append];refine As [1] [] ?_;refine D7 0 1 2 3 ?_;refine Ek 4 6 ?_;refine dN 5 ?_;refine oC ?_;refine cb (fun w st=>V3 _ _ _ _ _ w hb.1 hb.2 EM) ?_;refine dk ?_;refine dt 7 ?_;refine dN 8 ?_;refine oS ?_;refine dk ?_;refine dN 9 ?_;refine oS ?_;refine dk ?_;refine dd ?_;refine Az (E:=Bc) (xs:=R.An++[s]) fun F8=>?_;refine Co ⟨R.Al,x.size,R.An++[s]⟩ ?_;refine go ?_;refine ret (_,_) trivial ?_;rw [hla];rfl
structure SeS where
 a:ai
 c:Nat
 F:ak
 a2:ai
 c2:Nat
 F2:ak
theorem Au9 (x:Ax) (s:am) (hs:List Hm) (g t o:Nat) (A B:aj) (a a2:ai) (c c2:Nat) (cl q:Int) (F F2:ak) (hl:x.An.length<=6) (t0:0<=x.Al) (t1:x.Al<=65535) (hss:s.size<=maxLen) (hz:1<=x.size) (hn:∀h∈hs,Cm h.Ab=true) :
  Fn prog 89 [Fv g o 0,af s] [] [.row g t o A [aa x.Al,aa x.size,ab a x.An.length c,aa cl,aa q,ab a2 hs.length c2] B,.ow Bx 130 (ab a2 hs.length c2) hs F2,.ow Bc 9 (ab a x.An.length c) x.An F] (fun (_:SeS)=>True) (fun _=>.agg #[aa 1,aa (Di x s).Ab,aa (Di x s).Al,aa (Di x s).Cy,af s])
   (fun z=>[.row g t o A [aa (Dt x s).Al,aa (Dt x s).size,.slice z.a (Dt x s).An.length z.c,aa cl,aa 0,.slice z.a2 (Mv (Dt x s) hs).length z.c2] B,.ow Bx 130 (.slice z.a2 (Mv (Dt x s) hs).length z.c2) (Mv (Dt x s) hs) z.F2,.ow Bc 9 (.slice z.a (Dt x s).An.length z.c) (Dt x s).An z.F]):=by
 have hb:=P0 t0 t1;refine enter func89 rfl ntmps89 fun w0=>?_;refine go ?_;intros;refine Bw (Azf x s g t o A B _ _ _ a c F hl (Bb.2 ⟨t0,t1⟩) hss hz) fun z _=>?_;refine go ?_;intros;refine Bw (Ajf (Dt x s) hs g t o A B z.a a2 z.c c2 cl 0 z.F F2 hb.1 hb.2 hn) fun y _=>?_;refine go ?_;refine ret ⟨z.a,z.c,z.F,y.1,y.2.1,y.2.2⟩ trivial rfl
def Pp (x:Cc) (s:am):Cc:=⟨Dt x.Aa s,x.Ae,0,Mv (Dt x.Aa s) x.holds⟩
def zPk:Ar:=⟨0,0,0,0,⟨#[]⟩⟩
def Xx (x:Ax) (s:am):Bool:=D9 x && Qd s
end Go.Proofs.YtmckdnddocfodaaGreatDoor
namespace Go.Proofs.YtmckdnddocfodaaGreatDoor

open Go.RowKit
end Go.Proofs.YtmckdnddocfodaaGreatDoor
namespace Go.Proofs.YtmckdnddocfodaaGreatDoor
open Go.RowKit
def Im (x:Ax):Int:=A8 x.Al x.An.length
def Uu (x:Ax) (n:Int):am:=x.An.getD (gp x.Al n).toNat ⟨#[]⟩
def Qe (x:Ax):Int × Bool:=if D9 x then (Im x,true) else (0,false)
def As0 (x:Ax) (n:Int):Bool:=D9 x && Cm n && E5 x n
def Kd (x:Ax):Ar:=⟨5,x.Al,x.Al,Im x,⟨#[]⟩⟩
def Hh (x:Ax) (p:Ar):Bool:=D9 x && Bh p && decide (p.Bd=3) && E5 x p.Ab
def Ac5 (x:Ax) (n:Int):Ar:=⟨2,n,x.Al,Im x,Uu x n⟩
def C9 (x:Ax) (p:Ar):Ar × Bool:=if Hh x p then (Ac5 x p.Ab,true) else (zPk,false)
theorem Asm (x:Ax):0<=Im x/\Im x<=65535:=Is _ _
theorem Aj9 {x:Ax} (h1:1<=x.size):Im (Cw x)=Im x:=by
 unfold Cw
 split
 ·rename_i h;unfold Im;simp only [aU];unfold A8;omega
 ·rfl
theorem Alv {x:Ax} {s:am} (h:Xx x s=true):D9 x=true/\D9 (Dt x s)=true/\As0 (Dt x s) (Di x s).Ab=true/\Uu (Dt x s) (Di x s).Ab=s/\(Di x s).Ab=Im x/\gp (Im x) (Im (Dt x s))=1/\(Di x s).Cy=Im (Dt x s)/\(Di x s).Al=(Dt x s).Al:=by
 unfold Xx at h;simp only [av] at h;obtain ⟨hg,hs⟩:=h;obtain ⟨⟨t0,t1⟩,⟨z0,z1⟩,hl,hi⟩:=D0.1 hg;have hr:0<=(Cw x).Al/\(Cw x).Al<=65535:=P0 t0 t1;have hn:((Cw x).An.length:Int)+1<=x.size/\(Cw x).An.all Qd=true:=by
  unfold Cw
  split
  ·rename_i h;refine ⟨by simp only [aU];omega,?_⟩;rw [aQ] at hi ⊢;exact fun z hz=>hi z (bj hz)
  ·exact ⟨EM,hi⟩
 have hlead:=Aj9 (x:=x) z0;have hgo:D9 (Dt x s)=true:=by
  refine D0.2 ⟨hr,⟨z0,z1⟩,?_,?_⟩
  ·show (((Cw x).An++[s]).length:Int)<=x.size;simp only [aw,aK,aV];omega
  ·show ((Cw x).An++[s]).all Qd=true;simp [hn.2,hs]
 have hnum:(Di x s).Ab=Im x:=rfl;have hgap:gp (Dt x s).Al (Im x)=((Cw x).An.length:Nat):=by
  rw [<-hlead];show gp (Cw x).Al (Im (Cw x))=_;unfold Im gp A8;omega
 have b:=Asm x;refine ⟨hg,hgo,?_,?_,rfl,?_,?_,rfl⟩
 ·unfold As0;rw [hgo,hnum,Bb.2 b,E5,hgap];show decide (((Cw x).An.length:Int) < (((Cw x).An++[s]).length:Nat))=true;simp only [aw,aK,aV,aC];omega
 ·unfold Uu;rw [hnum,hgap];show ((Cw x).An++[s]).getD _ _=s;simp
 ·rw [<-hlead];show gp (Im (Cw x)) (A8 (Cw x).Al (((Cw x).An++[s]).length:Nat))=1;unfold Im gp A8;simp only [aw,aK,aV];omega
 ·show A8 (Cw x).Al (((Cw x).An.length:Nat)+1)=A8 (Cw x).Al ((((Cw x).An++[s]).length:Nat));simp
theorem Ake (t z:Int) (a:ai) (n c:Nat) (h0:0<=t) (h1:t<=65535) (hn:n<=4294967296):FV 122 [.agg #[aa t,aa z,ab a n c]] [] (.agg #[aa 5,aa t,aa t,aa (A8 t n),af ⟨#[]⟩]):=by
 refine enter func122 rfl ntmps122 fun w0=>?_;refine go ?_;intros;refine As [1] [7] ?_;refine D7 0 1 2 3 ?_;refine dt 4 ?_;refine dN 5 ?_;refine oC ?_;refine cb (fun w _=>Hz t z a n c w h0 h1 hn) ?_;refine dk ?_;refine dt 6 ?_;refine dN 7 ?_;refine oS ?_;refine Pg ?_;exact CG
theorem Xv (t z:Int) (a:ai) (n c:Nat) (h0:0<=t) (h1:t<=65535) (hn:n<=4294967296):FV 160 [.agg #[aa t,aa z,ab a n c]] [] (.agg #[aa 5,aa t,aa t,aa (A8 t n),af ⟨#[]⟩]):=by
 refine enter func160 rfl ntmps160 fun w0=>?_;refine go ?_;intros;refine As [1] [7] ?_;refine D7 0 1 2 3 ?_;refine dt 4 ?_;refine dN 5 ?_;refine oC ?_;refine cb (fun w _=>V3 t z a n c w h0 h1 hn) ?_;refine dk ?_;refine dt 6 ?_;refine dN 7 ?_;refine oS ?_;refine Pg ?_;exact CG
def Qs (cl:Int) (hs:List Hm):List Hm:=hs.filter fun h=>!decide (h.Bl<=cl)
def L9 (q:Int):Int:=if q+1 < 4 then q+1 else 0
def G0 (x:Ax) (q:Int):List Ar:=if q+1 < 4 then [] else [Kd x]
def Lg (x:Cc):Cc:=⟨x.Aa,x.Ae+1,L9 x.quiet,Qs (x.Ae+1) x.holds⟩
theorem Aj4 {x:Cc} (h:Cj x=true):0<=x.quiet/\x.quiet<=3:=by
 unfold Cj Ht at h;simp only [av,aC] at h;exact h.1.2
theorem Aot {x:Cc} (h:Cj x=true):∀z∈x.holds,E5 x.Aa z.Ab=true:=fun z hz=>by
 unfold Cj at h;simp only [av] at h;obtain ⟨i,hi,rfl⟩:=aR hz;have:=aQ.1 h.2 i GG;rw [O3 hi] at this;simp only [av] at this;exact this.1.1.2
structure TiS where
 a:ai
 c:Nat
 a2:ai
 c2:Nat
 F:ak
 ae:ai
 ce:Nat
 Fe:ak
theorem Aw6 (h:Hm) (gb g o:Nat) (u v0 v1 v2 q Hs:Value) (cl:Int) (G:ak) :
  FV 121 [u,Fv gb 0 0] [.isv Bx u h G,.cel gb 0 [Fv g o 0],.cel g o [v0,v1,v2,aa cl,q,Hs]] (.bool (decide (h.Bl<=cl))):=by
 refine enter func121 rfl ntmps121 fun w0=>?_;refine Ajx ?_;rintro _ rfl;refine go ?_;intros;refine As [0,2,3] [] ?_;refine D7 0 1 2 3 ?_;refine D7 4 5 6 7 ?_;exact CG
theorem Aw7 (hs:List Hm) (gb tb g t o:Nat) (A B:aj) (v0 v1 v2:Value) (v3:Value) (a2:ai) (c2:Nat) (cl q:Int) (F2:ak) :
  Fn prog 120 [ab a2 hs.length c2,.func (.func 121) #[] #[Fv gb 0 0]] [] [.ow Bx 130 (ab a2 hs.length c2) hs F2,.row gb tb 0 [] [Fv g o 0] [],.row g t o A [v0,v1,v2,aa cl,aa q,v3] B] (fun (_:ai × Nat × ak)=>True)
   (fun z=>.slice z.1 (Qs cl hs).length z.2.1) (fun z=>[.ow Bx 130 (.slice z.1 (Qs cl hs).length z.2.1) (Qs cl hs) z.2.2,.row gb tb 0 [] [Fv g o 0] [],.row g t o A [v0,v1,v2,aa cl,aa q,v3] B]):=by
 refine Alg rfl fun w ⟨hnd,ho⟩ _ hk=>?_;refine (Ve _ (Uo ER) #[Fv gb 0 0] _ hs F2 (fun h=>decide (h.Bl<=cl)) w ho hnd fun k hk2 wr u G hK hu=>?_).mono ?_
 ·have hr:=hk wr hK;have r1:=hr (.row gb tb 0 [] [Fv g o 0] []) EO;have r2:=hr (.row g t o A [v0,v1,v2,aa cl,aa q,v3] B) EO;refine (Aw6 hs[k] gb g o u v0 v1 v2 (aa q) v3 cl G).val wr ?_;intro p hp;simp only [aF,aM,bn] at hp;rcases hp with rfl|rfl|rfl
  ·exact hu
  ·exact ⟨EO,Hq r1⟩
  ·exact ⟨EO,Hq r2⟩
 ·rintro e w' ⟨v',F',rfl,h1,h2,h3,h4⟩;have e:(hs.filter fun x=>!(fun h:Hm=>decide (h.Bl<=cl)) x)=Qs cl hs:=rfl;rw [e] at h1;exact CC
theorem Ava (W:Ax) (hs:List Hm) (g t o:Nat) (A B:aj) (a a2:ai) (c c2:Nat) (cl q:Int) (F2:ak) (t0:0<=W.Al) (t1:W.Al<=65535) (hl:W.An.length<=6) (k0:0<=cl) (k1:cl<=9999) (q0:0<=q) (q3:q<=3) :
  Fn prog 61 [Fv g o 0] [] [.row g t o A [aa W.Al,aa W.size,ab a W.An.length c,aa cl,aa q,ab a2 hs.length c2] B,.ow Bx 130 (ab a2 hs.length c2) hs F2] (fun (_:TiS)=>True)
   (fun z=>.slice z.ae (G0 W q).length z.ce) (fun z=>[.row g t o A [aa W.Al,aa W.size,ab a W.An.length c,aa (cl+1),aa (L9 q),.slice z.a2 (Qs (cl+1) hs).length z.c2] B,.ow Bx 130 (.slice z.a2 (Qs (cl+1) hs).length z.c2) (Qs (cl+1) hs) z.F,.ow Ap 103 (.slice z.ae (G0 W q).length z.ce) (G0 W q) z.Fe]):=by
 refine enter func61 rfl ntmps61 fun w0=>?_;refine go ?_;intros;refine As [0,1] [9] ?_;refine D7 0 1 2 3 ?_;refine Ek 4 5 ?_;refine dN 6 ?_;refine oC ?_;refine Bw (Aw7 hs _ _ g t o A B _ _ _ _ a2 c2 (cl+1) q F2) fun z _=>?_;refine dk ?_;refine Ek 7 8 ?_;refine dN 9 ?_;refine oS ?_;refine Pg ?_;refine dd ?_;refine go ?_;refine Bf rfl (fun h1=>?_) (fun h1=>?_)
 ·refine B4 Ap 103 ?_;refine go ?_;rw [show L9 q=q+1 from ar h1,show G0 W q=[] from ar h1];refine ret ⟨none,0,z.1,z.2.1,z.2.2,none,0,[]⟩ trivial rfl
 ·refine go ?_;refine Bw (Ake W.Al W.size a W.An.length c t0 t1 EM) fun _ _=>?_;refine go ?_;intros;refine Eo (xs:=[Kd W]) (Dj _ GH) ?_ EO;rw [show L9 q=0 from aq h1,show G0 W q=[Kd W] from aq h1];refine ret ⟨none,0,z.1,z.2.1,z.2.2,_,_,_⟩ trivial rfl
theorem Rr (x:Ax) (v:Value) (F:ak) (t0:0<=x.Al) (t1:x.Al<=65535) (hl:x.An.length<=4294967296):Fn prog 140 [v,aa 0] [.isv Ci v x F] [] (fun (_:Value × ak)=>True) (fun s=>s.1) (fun s=>[.Mw Qj s.1 x s.2]):=by
 have e0:A8 x.Al ((0:Nat):Int)=x.Al:=by unfold A8;omega
 have h:=Aar x 0 v F hl (aD _) t0 t1;rw [e0,dW] at h;refine Avt fun w hA=>(h.made w hA (fun _=>rfl)).mono ?_;rintro e w' ⟨z, -,he,hh,hn,hF,hB⟩;obtain ⟨h1,h2⟩:=hh (.ow Bc 9 (ab z.a x.An.length z.c) x.An z.F) EO;exact ⟨(_,z.F),trivial,he,⟨h1,_,rfl,_,rfl,h2⟩,fun b hb=>hF b (by simpa [fp,Pc.F,Pc.mu] using hb),hB⟩
theorem Av2 {W:Ax} {cl:Int} {hs:List Hm} (h:∀z∈hs,E5 W z.Ab=true):Hx W cl hs=Qs cl hs:=by
 unfold Hx Qs;refine dZ fun z hz=>?_;rw [h z hz,bW];by_cases hc:cl < z.Bl
 ·rw [au hc,ay EM];rfl
 ·rw [ay hc,au EM];rfl
def Mm (x:Cc):Cc:=⟨x.Aa,x.Ae+1,L9 x.quiet,Hx x.Aa (x.Ae+1) x.holds⟩
theorem Ado (x:Cc) (v:Value) (F:ak) (t0:0<=x.Aa.Al) (t1:x.Aa.Al<=65535) (hl:x.Aa.An.length<=6) (k0:0<=x.Ae) (k1:x.Ae<=99999) (q0:0<=x.quiet) (q3:x.quiet<=3) (hm:x.holds.length<=1000) (hn:Xd x.holds) :
  Fn prog 99 [v] [.isv El v x F] [] (fun (_:TiS)=>True) (fun s=>.tuple #[.agg #[aa (Mm x).Aa.Al,aa (Mm x).Aa.size,.slice s.a (Mm x).Aa.An.length s.c,aa (Mm x).Ae,aa (Mm x).quiet,.slice s.a2 (Mm x).holds.length s.c2],.slice s.ae (G0 x.Aa x.quiet).length s.ce])
   (fun s=>[.isv El (.agg #[aa (Mm x).Aa.Al,aa (Mm x).Aa.size,.slice s.a (Mm x).Aa.An.length s.c,aa (Mm x).Ae,aa (Mm x).quiet,.slice s.a2 (Mm x).holds.length s.c2]) (Mm x) s.F,.ow Ap 103 (.slice s.ae (G0 x.Aa x.quiet).length s.ce) (G0 x.Aa x.quiet) s.Fe]):=by
 refine enter func99 rfl ntmps99 fun w0=>?_;refine Gh ?_;rintro a1 c1 F1 a2 c2 F2 rfl l1 l2;refine Co x.Aa (a1:=a1) ?_;refine go ?_;intros;refine Bw (Rr x.Aa _ F1 t0 t1 EM) fun y _=>?_;refine Jh ?_;rintro a5 c5 F5 e5 l5;rw [e5];have hH:=fun v a c F G=>Abm x.Aa x.holds (x.Ae+1) v a c F G t0 t1 EM hn;refine go ?_;intros;refine Az (xs:=x.Aa.An) fun F8=>?_;refine Co x.Aa (a1:=a5) ?_;refine As [2,4] [] ?_;refine D7 0 1 2 3 ?_;refine D7 4 5 6 7 ?_;refine D7 8 9 10 11 ?_;refine dt 12 ?_;refine dM 13 15 ?_ ?_
 ·refine oC ?_;refine Bw (hH _ a2 c2 _ _) fun z _=>?_;refine dk ?_;refine dt 14 ?_;refine dN 15 ?_;apply Cq;rfl;intro _;refine dk ?_;refine dN 16 ?_;refine oS ?_;refine dk ?_;refine dd ?_;refine go ?_;refine Bf rfl (fun h1=>?_) (fun h1=>?_)
  ·rw [show Mm x=⟨x.Aa,x.Ae+1,0,Hx x.Aa (x.Ae+1) x.holds⟩ from by unfold Mm L9;rw [aq EM],show G0 x.Aa x.quiet=[Kd x.Aa] from aq EM];refine go ?_;refine Az (E:=Bx) fun F9=>?_;refine Ed ⟨x.Aa,x.Ae+1,0,Hx x.Aa (x.Ae+1) x.holds⟩ (a1:=a5) ?_;refine As [2,5] [] ?_;refine Ek 0 1 ?_;refine dN 2 ?_;refine oC ?_;refine Bw (Xv x.Aa.Al x.Aa.size _ x.Aa.An.length _ t0 t1 EM) fun _ _=>?_;refine dk ?_;refine dM 3 4 ?_ ?_
   ·apply In;rfl;rfl;rfl;rfl;exact Ik;exact Ie;intro _;refine dk ?_;refine dN 4 ?_;refine oS ?_;exact AM
   ·refine oS ?_;refine dk ?_;refine dN 3 ?_;apply In;rfl;rfl;rfl;rfl;exact Ik;exact Ie;intro _;exact AM
  ·exact BF
 ·apply Cq;rfl;intro _;refine dk ?_;refine dN 13 ?_;refine oC ?_;refine Bw (hH _ a2 c2 _ _) fun z _=>?_;refine dk ?_;refine dt 14 ?_;refine dN 16 ?_;refine oS ?_;refine dk ?_;refine dd ?_;refine go ?_;refine Bf rfl (fun h1=>?_) (fun h1=>?_)
  ·rw [show Mm x=⟨x.Aa,x.Ae+1,0,Hx x.Aa (x.Ae+1) x.holds⟩ from by unfold Mm L9;rw [aq EM],show G0 x.Aa x.quiet=[Kd x.Aa] from aq EM];refine go ?_;refine Az (E:=Bx) fun F9=>?_;refine Ed ⟨x.Aa,x.Ae+1,0,Hx x.Aa (x.Ae+1) x.holds⟩ (a1:=a5) ?_;refine As [2,5] [] ?_;refine Ek 0 1 ?_;refine dN 2 ?_;refine oC ?_;refine Bw (Xv x.Aa.Al x.Aa.size _ x.Aa.An.length _ t0 t1 EM) fun _ _=>?_;refine dk ?_;refine dM 3 4 ?_ ?_
   ·apply In;rfl;rfl;rfl;rfl;exact Ik;exact Ie;intro _;refine dk ?_;refine dN 4 ?_;refine oS ?_;exact AM
   ·refine oS ?_;refine dk ?_;refine dN 3 ?_;apply In;rfl;rfl;rfl;rfl;exact Ik;exact Ie;intro _;exact AM
  ·exact BF
theorem Auf {x:Cc} (hg:Cj x=true):Mm x=Lg x:=by unfold Mm Lg;rw [Av2 (Aot hg)]
theorem Apa (x:Cc) (v:Value) (F:ak) (hg:Cj x=true) :
  Fn prog 99 [v] [.isv El v x F] [] (fun (_:TiS)=>True) (fun s=>.tuple #[.agg #[aa (Lg x).Aa.Al,aa (Lg x).Aa.size,.slice s.a (Lg x).Aa.An.length s.c,aa (Lg x).Ae,aa (Lg x).quiet,.slice s.a2 (Lg x).holds.length s.c2],.slice s.ae (G0 x.Aa x.quiet).length s.ce])
   (fun s=>[.isv El (.agg #[aa (Lg x).Aa.Al,aa (Lg x).Aa.size,.slice s.a (Lg x).Aa.An.length s.c,aa (Lg x).Ae,aa (Lg x).quiet,.slice s.a2 (Lg x).holds.length s.c2]) (Lg x) s.F,.ow Ap 103 (.slice s.ae (G0 x.Aa x.quiet).length s.ce) (G0 x.Aa x.quiet) s.Fe]):=by
 obtain ⟨gw,hl,t0,t1,k0,k1,hm,hn,hu,hb⟩:=M4 hg;obtain ⟨q0,q3⟩:=Aj4 hg;have h:=Ado x v F t0 t1 hl k0 EM q0 q3 EM (Acu hn);rw [Auf hg] at h;exact h
theorem Ks {x:Ax} {p:Ar} (h:Hh x p=false):C9 x p=(zPk,false):=by unfold C9;rw [h];rfl
theorem Xa {x:Ax} {p:Ar} (h:Hh x p=true):C9 x p=(Ac5 x p.Ab,true):=by unfold C9;rw [h];rfl
theorem Y9 {x:Ax} {n:Int} (h:E5 x n=true):(gp x.Al n).toNat < x.An.length:=by
 have b:=Kc x.Al n;unfold E5 at h;simp only [aC] at h;omega
theorem Tz {x:Ax} {n:Int} (h:(gp x.Al n).toNat < x.An.length):Uu x n=x.An[(gp x.Al n).toNat]:=by
 unfold Uu;rw [aT,aB h];rfl
theorem Aij (x:Ax) (v:Value) (F:ak):FV 15 [v] [.isv Ci v x F] (.tuple #[aa (Qe x).1,.bool (Qe x).2]):=by
 refine enter func15 rfl ntmps15 fun w0=>?_;refine Eq ?_;rintro a1 c1 F1 rfl l1;refine go ?_;intros;refine cb (fun w st=>Ns _ x _ w (st.get (p:=.isv Ci (.agg #[aa x.Al,aa x.size,ab a1 x.An.length c1]) x F) EO)) ?_;cases g1:D9 x
 ·refine go ?_;intros;rw [show Qe x=(0,false) by unfold Qe;rw [g1];rfl];exact BA
 obtain ⟨⟨t0,t1⟩,⟨z0,z1⟩,hl,hi⟩:=D0.1 g1;have hl6:x.An.length<=6:=EM
 rw [show Qe x=(Im x,true) by unfold Qe;rw [g1];rfl];refine go ?_;intros;refine cb (fun w _=>Hz _ _ _ _ _ w t0 t1 EM) ?_;refine go ?_;intros;exact BA
theorem Acw (x:Ax) (p:Ar) (v:Value) (F:ak) (hs:p.data.size<=maxLen):FV 240 [v,.agg #[aa p.Bd,aa p.Ab,aa p.Al,aa p.Cy,af p.data]] [.isv Ci v x F] (.tuple #[.agg #[aa (C9 x p).1.Bd,aa (C9 x p).1.Ab,aa (C9 x p).1.Al,aa (C9 x p).1.Cy,af (C9 x p).1.data],.bool (C9 x p).2]):=by
 refine enter func240 rfl ntmps240 fun w0=>?_;refine Eq ?_;rintro a1 c1 F1 rfl l1;refine go ?_;intros;refine cb (fun w st=>Ns _ x _ w (st.get (p:=.isv Ci (.agg #[aa x.Al,aa x.size,ab a1 x.An.length c1]) x F) EO)) ?_;cases g1:D9 x
 ·refine go ?_;rw [Ks (by unfold Hh;rw [g1];rfl)];exact BA
 obtain ⟨⟨t0,t1⟩,⟨z0,z1⟩,hl,hi⟩:=D0.1 g1;have hl6:x.An.length<=6:=EM
 refine go ?_;refine Bw (Vg p hs) fun _ _=>?_;cases g2:Bh p
 ·refine go ?_;rw [Ks (by unfold Hh;rw [g1,g2];rfl)];exact BA
 obtain ⟨n0,n1⟩:=Fg g2;refine go ?_;refine Dm rfl rfl (fun h3=>?_) (fun h3=>?_)
 ·refine go ?_;rw [Ks (by unfold Hh;rw [g1,g2,ay h3];rfl)];exact BA
 have h3:=d9.1 h3;refine go ?_;refine cb (fun w st=>(Vy x p.Ab _ F t0 t1 n0 n1).val w (I0 (st.get (p:=.isv Ci (.agg #[aa x.Al,aa x.size,ab a1 x.An.length c1]) x F) EO))) ?_;cases g3:E5 x p.Ab
 ·refine go ?_;rw [Ks (by unfold Hh;rw [g1,g2,g3];simp)];exact BA
 rw [Xa (by unfold Hh;rw [g1,g2,g3,au h3];rfl)];have b:=Kc x.Al p.Ab;have hk3:=Y9 g3;rw [show Ac5 x p.Ab=⟨2,p.Ab,x.Al,Im x,x.An[(gp x.Al p.Ab).toNat]⟩ by unfold Ac5;rw [Tz hk3]];refine Xk (xs:=x.An) (gp x.Al p.Ab).toNat ?_;rintro hi b2 o2 e s1;rw [e];refine Ke ?_;intros;refine As [0,2,3] [] ?_;refine D7 0 1 2 3 ?_;refine D7 4 6 7 8 ?_;refine Ek 9 10 ?_;refine dt 11 ?_;refine dN 5 ?_;refine oC ?_;refine cb (fun w _=>Hz _ _ _ _ _ w t0 t1 EM) ?_;refine dk ?_;refine dN 12 ?_;refine oC ?_;refine ce (fun w s=>Om _ _ _ EM EM EM EM) ?_;refine dk ?_
 refine Ek 13 14 ?_;refine dt 15 ?_;refine dN 16 ?_;refine oS ?_;refine dk ?_;refine dt 17 ?_;exact CG
theorem Aei (x:Ax) (p:Ar) (v:Value) (F:ak) (hs:p.data.size<=maxLen):FV 163 [v,.agg #[aa p.Bd,aa p.Ab,aa p.Al,aa p.Cy,af p.data]] [.isv Ci v x F] (.tuple #[.agg #[aa (C9 x p).1.Bd,aa (C9 x p).1.Ab,aa (C9 x p).1.Al,aa (C9 x p).1.Cy,af (C9 x p).1.data],.bool (C9 x p).2]):=by
 refine enter func163 rfl ntmps163 fun w0=>?_;refine Eq ?_;rintro a1 c1 F1 rfl l1;refine go ?_;intros;refine cb (fun w st=>Ajl _ x _ w (st.get (p:=.isv Ci (.agg #[aa x.Al,aa x.size,ab a1 x.An.length c1]) x F) EO)) ?_;cases g1:D9 x
 ·refine go ?_;rw [Ks (by unfold Hh;rw [g1];rfl)];exact BA
 obtain ⟨⟨t0,t1⟩,⟨z0,z1⟩,hl,hi⟩:=D0.1 g1;have hl6:x.An.length<=6:=EM
 refine go ?_;refine Bw (Ajk p hs) fun _ _=>?_;cases g2:Bh p
 ·refine go ?_;rw [Ks (by unfold Hh;rw [g1,g2];rfl)];exact BA
 obtain ⟨n0,n1⟩:=Fg g2;refine go ?_;refine Dm rfl rfl (fun h3=>?_) (fun h3=>?_)
 ·refine go ?_;rw [Ks (by unfold Hh;rw [g1,g2,ay h3];rfl)];exact BA
 have h3:=d9.1 h3;refine go ?_;refine cb (fun w st=>(Ajm x p.Ab _ F t0 t1 n0 n1).val w (I0 (st.get (p:=.isv Ci (.agg #[aa x.Al,aa x.size,ab a1 x.An.length c1]) x F) EO))) ?_;cases g3:E5 x p.Ab
 ·refine go ?_;rw [Ks (by unfold Hh;rw [g1,g2,g3];simp)];exact BA
 rw [Xa (by unfold Hh;rw [g1,g2,g3,au h3];rfl)];have b:=Kc x.Al p.Ab;have hk3:=Y9 g3;rw [show Ac5 x p.Ab=⟨2,p.Ab,x.Al,Im x,x.An[(gp x.Al p.Ab).toNat]⟩ by unfold Ac5;rw [Tz hk3]];refine Xk (xs:=x.An) (gp x.Al p.Ab).toNat ?_;rintro hi b2 o2 e s1;rw [e];refine Ke ?_;intros;refine As [0,2,3] [] ?_;refine D7 0 1 2 3 ?_;refine D7 4 6 7 8 ?_;refine Ek 9 10 ?_;refine dt 11 ?_;refine dN 5 ?_;refine oC ?_;refine cb (fun w _=>V3 _ _ _ _ _ w t0 t1 EM) ?_;refine dk ?_;refine dN 12 ?_;refine oC ?_;refine ce (fun w s=>I1 _ _ _ EM EM) ?_;refine dk ?_;refine Ek 13 14 ?_
 refine dt 15 ?_;refine dN 16 ?_;refine oS ?_;refine dk ?_;refine dt 17 ?_;exact CG
theorem Ar6 {t a b:Int} (ha:0<=a/\a<=65535) (hb:0<=b/\b<=65535) (h:gp t a=gp t b):a=b:=by unfold gp at h;omega
def srt (t:Int) (hs:List Hm):Prop:=hs.Pairwise fun a b=>gp t a.Ab < gp t b.Ab
theorem Dd {x:Cc}:Cj x=true↔D9 x.Aa=true/\J9 x.Ae=true/\Ht 0 x.quiet 3=true/\(∀h∈x.holds,Cm h.Ab=true/\E5 x.Aa h.Ab=true/\Ht (x.Ae+1) h.Bl (x.Ae+3)=true)/\srt x.Aa.Al x.holds:=by
 unfold Cj;simp only [av,aQ,bX];constructor
 ·rintro ⟨⟨⟨h1,h2⟩,h3⟩,h4⟩;refine ⟨h1,h2,h3,fun h hh=>?_,?_⟩
  ·obtain ⟨i,hi,rfl⟩:=aR hh;have:=h4 i hi;rw [O3 hi] at this;simp only [av] at this;exact ⟨this.1.1.1,this.1.1.2,this.1.2⟩
  ·have step:∀i (hi:i+1 < x.holds.length),gp x.Aa.Al x.holds[i].Ab < gp x.Aa.Al x.holds[i+1].Ab:=fun i hi=>by
    have:=h4 (i+1) hi;rw [O3 hi] at this;simp only [av,bJ,aC,bv,bD] at this;have h:=this.2;rcases h with h|h
    ·omega
    ·simpa using h
   refine aX.2 fun i j hi hj hij=>?_;obtain ⟨d,rfl⟩:∃d,j=i+1+d:=⟨j - i - 1,EM⟩;clear hij
   induction d with
   | zero=>exact step i hj
   | succ d ih=>exact fV (ih EM) (step (i+1+d) hj)
 ·rintro ⟨h1,h2,h3,h4,h5⟩;refine ⟨⟨⟨h1,h2⟩,h3⟩,fun i hi=>?_⟩;rw [O3 hi];obtain ⟨a,b,c⟩:=h4 x.holds[i] (aE hi);rw [a,b,c];simp only [bW,bJ,aC,bv,bD];rcases bQ i with h0|h0
  ·exact .inl h0
  ·have:=aX.1 h5 (i - 1) i EM hi EM;right;omega
def Fa (t:Int) (hs:List Hm) (n:Int):Nat:=(hs.takeWhile fun h=>decide (gp t h.Ab < gp t n)).length
def Ld (t:Int) (hs:List Hm) (n:Int):Bool:=match hs[Fa t hs n]? with|some h=>decide (h.Ab=n)|none=>false
def onB (hs:List Hm) (n:Int):Bool:=hs.any fun h=>decide (h.Ab=n)
def Il (hs:List Hm) (k:Nat) (h:Hm):List Hm:=hs.take k++h::hs.drop k
def Qn (W:Ax) (n:Int):Ar:=⟨4,n,W.Al,Im W,⟨#[]⟩⟩
def Mx (x:Cc) (n:Int):Cc:=if E5 x.Aa n && !Ld x.Aa.Al x.holds n then ⟨x.Aa,x.Ae,x.quiet,Il x.holds (Fa x.Aa.Al x.holds n) ⟨n,x.Ae+3⟩⟩ else We x x.Aa
def Ib (x:Cc) (p:Ar):List Ar:=if E5 x.Aa p.Ab then (if Ld x.Aa.Al x.holds p.Ab then [Qn x.Aa p.Ab] else [Qn x.Aa p.Ab,(C9 x.Aa p).1]) else [Kd x.Aa]
def Hb (x:Cc) (n:Int):Cc:=if E5 x.Aa n && !Ld x.Aa.Al x.holds n then ⟨x.Aa,x.Ae,x.quiet,Il x.holds (Fa x.Aa.Al x.holds n) ⟨n,x.Ae+3⟩⟩ else x
theorem Xq {x:Cc} (hg:Cj x=true):Hx x.Aa x.Ae x.holds=x.holds:=by
 obtain ⟨-, -, -,h4, -⟩:=Dd.1 hg;unfold Hx;refine dw.2 fun h hh=>?_;obtain ⟨a,b,c⟩:=h4 h hh;unfold Ht at c;simp only [av,aC] at c;rw [b,au EM];rfl
theorem Atn {x:Cc} (hg:Cj x=true) (n:Int):Mx x n=Hb x n:=by
 unfold Mx Hb We;rw [Xq hg]
theorem Wk (t:Int) (hs:List Hm) (n:Int):Fa t hs n<=hs.length:=Qi.1
theorem Aen {t n:Int} {hs:List Hm} (hn:0<=n/\n<=65535) (hser:∀h∈hs,Cm h.Ab=true) (hs':srt t hs):Ld t hs n=onB hs n:=by
 obtain ⟨h1,h2,h3⟩:=Qi (p:=fun h:Hm=>decide (gp t h.Ab < gp t n)) (xs:=hs);unfold Ld onB;have hle:=Wk t hs n;rw [eO,bS];constructor
 ·intro h
  split at h
  ·rename_i z hz;exact ⟨z,bM hz,h⟩
  ·cases h
 ·rintro ⟨z,hz,he⟩;simp only [aC] at he;obtain ⟨i,hi,rfl⟩:=aR hz;have hk:Fa t hs n=i:=by
   refine Wa EM (fun j hj h=>?_) (fun h=>?_)
   ·have:=aX.1 hs' j i h hi hj;simp only [aC];rw [<-he];exact this
   ·simp only [bD];rw [he];omega
  rw [hk,aB hi];simpa using he
theorem Aw2 {t n:Int} {hs:List Hm} (u:Int) (hn:0<=n/\n<=65535) (hser:∀h∈hs,Cm h.Ab=true) (hs':srt t hs) (ht:Ld t hs n=false):srt t (Il hs (Fa t hs n) ⟨n,u⟩):=by
 obtain ⟨h1,h2,h3⟩:=Qi (p:=fun h:Hm=>decide (gp t h.Ab < gp t n)) (xs:=hs);have hle:=Wk t hs n;have hon:onB hs n=false:=by rw [<-Aen hn hser hs'];exact ht
 have hne:∀h∈hs,gp t h.Ab≠gp t n:=fun h hh e=>by
  have:=Ar6 (Bb.1 (hser h hh)) hn e;have h0:onB hs n=true:=bS.2 ⟨h,hh,by simp [this]⟩;rw [hon] at h0;cases h0
 unfold Il srt;rw [dJ];refine ⟨hs'.sublist (dC _ _),?_,?_⟩
 ·rw [ci];refine ⟨fun b hb=>?_,hs'.sublist (fh _ _)⟩;obtain ⟨j,hj,rfl⟩:=aR hb;rw [dD];rw [aU] at hj;have hk:Fa t hs n < hs.length:=EM
  have h0:=h3 hk;simp only [bD,Int.not_lt] at h0;have h00:gp t n<=gp t (hs[Fa t hs n]'hk).Ab:=h0;have hd:=hne _ (aE hk);rcases bQ j with e|e
  ·subst e;show gp t n < gp t (hs[Fa t hs n+0]).Ab;simp only [bO];omega
  ·have h5:=aX.1 hs' (Fa t hs n) (Fa t hs n+j) hk EM EM;show gp t n < _;omega
 ·intro a ha b hb;obtain ⟨i,hi,rfl⟩:=aR ha;rw [aL] at hi;rw [fl];have ha2:=h2 i (by show i < Fa t hs n;omega) EM;simp only [aC] at ha2;rcases aF.1 hb with rfl|hb
  ·exact ha2
  ·obtain ⟨j,hj,rfl⟩:=aR hb;rw [dD];rw [aU] at hj;exact aX.1 hs' i _ EM EM EM
theorem Ar5 {x:Cc} {n:Int} (hg:Cj x=true) (hn:0<=n/\n<=65535):Cj (Hb x n)=true:=by
 unfold Hb
 split
 ·rename_i h;simp only [av,bv] at h;obtain ⟨hh,ht⟩:=h;obtain ⟨h1,h2,h3,h4,h5⟩:=Dd.1 hg;refine Dd.2 ⟨h1,h2,h3,fun z hz=>?_,Aw2 _ hn (fun z hz=>(h4 z hz).1) h5 ht⟩;have:z∈x.holds\/z=⟨n,x.Ae+3⟩:=by
   unfold Il at hz;simp only [aG,aF] at hz;rcases hz with h|h|h
   ·exact .inl (bg h)
   ·exact .inr h
   ·exact .inl (bj h)
  rcases this with h|rfl
  ·exact h4 z h
  ·exact ⟨Bb.2 hn,hh,by unfold Ht;simp⟩
 ·exact hg
theorem Aov {x:Cc} (hg:Cj x=true) (hc:x.Ae < 9999):Cj (Lg x)=true:=by
 obtain ⟨h1,h2,h3,h4,h5⟩:=Dd.1 hg;have hk:=Ag5 h2;refine Dd.2 ⟨h1,?_,?_,fun z hz=>?_,h5.sublist (cZ)⟩
 ·unfold Lg J9 Ht;simp;omega
 ·unfold Ht at h3;simp only [av,aC] at h3;unfold Lg L9 Ht;dsimp only
  split <;> simp <;> omega
 ·unfold Lg Qs at hz;simp only [aO] at hz;obtain ⟨z1,z2⟩:=hz;obtain ⟨a,b,c⟩:=h4 z z1;refine ⟨a,b,?_⟩;unfold Ht at c ⊢;simp only [av,aC,bv,bD] at c z2 ⊢;show x.Ae+1+1<=z.Bl/\z.Bl<=x.Ae+1+3;omega
theorem Adl {x:Cc} {W:Ax} (k:Nat) (q:Int) (hg:Cj x=true) (hw:D9 W=true) (hq:Ht 0 q 3=true) (hk:k<=6) (ht:W.Al=A8 x.Aa.Al k):Cj ⟨W,x.Ae,q,Mv W x.holds⟩=true:=by
 obtain ⟨h1,h2,h3,h4,h5⟩:=Dd.1 hg;obtain ⟨-,⟨z0,z1⟩,hl, -⟩:=D0.1 hw;have key:∀n,E5 W n=true->gp x.Aa.Al n=gp W.Al n+k:=fun n hn=>by
  unfold E5 at hn;simp only [aC] at hn;rw [ht] at hn ⊢;have:=Kc (A8 x.Aa.Al k) n;unfold gp A8 at *;omega
 refine Dd.2 ⟨hw,h2,hq,fun z hz=>?_,?_⟩
 ·unfold Mv at hz;simp only [aO] at hz;obtain ⟨a,b,c⟩:=h4 z hz.1;exact ⟨a,hz.2,c⟩
 ·unfold Mv srt;show List.Pairwise (fun a b=>gp W.Al a.Ab < gp W.Al b.Ab) (x.holds.filter fun h=>E5 W h.Ab);have hp:List.Pairwise (fun a b=>gp x.Aa.Al a.Ab < gp x.Aa.Al b.Ab) (x.holds.filter fun h=>E5 W h.Ab):=h5.sublist (cZ);refine List.Pairwise.imp_of_mem (fun {a b} ha hb h=>?_) hp;simp only [aO] at ha hb;have e1:=key _ ha.2;have e2:=key _ hb.2;omega
theorem Aou {x:Cc} {s:am} (hg:Cj x=true) (hs:Qd s=true):Cj (Pp x s)=true:=by
 have hw:=(Dd.1 hg).1;obtain ⟨-,hw2, -⟩:=Alv (x:=x.Aa) (s:=s) (by unfold Xx;rw [hw,hs];rfl);obtain ⟨⟨t0,t1⟩, -⟩:=D0.1 hw;by_cases h:(x.Aa.An.length:Int)=x.Aa.size
 ·refine Adl 1 0 hg hw2 EN EM ?_;show (Cw x.Aa).Al=_;unfold Cw;rw [ar h];rfl
 ·refine Adl 0 0 hg hw2 EN EM ?_;show (Cw x.Aa).Al=_;unfold Cw A8;rw [aq h];omega
theorem As3 {x:Cc} {n:Int} (hg:Cj x=true) (hn:0<=n/\n<=65535):onB (Hb x n).holds n=E5 x.Aa n/\(Hb x n).Aa=x.Aa:=by
 obtain ⟨h1,h2,h3,h4,h5⟩:=Dd.1 hg;have hto:=Aen (t:=x.Aa.Al) hn (fun z hz=>(h4 z hz).1) h5;unfold Hb
 split
 ·rename_i h;simp only [av] at h;refine ⟨?_,rfl⟩;rw [h.1];exact bS.2 ⟨⟨n,x.Ae+3⟩,by unfold Il;simp,EO⟩
 ·rename_i h;refine ⟨?_,rfl⟩;cases hh:E5 x.Aa n
  ·refine cN.2 fun z hz e=>?_;simp only [aC] at e;have:=(h4 z hz).2.1;rw [e,hh] at this;cases this
  ·rw [hh] at h;rw [<-hto];cases ht:Ld x.Aa.Al x.holds n
   ·rw [ht] at h;exact absurd rfl h
   ·rfl
def Li (n:Du) (i:Nat):Bg:=n.Ai.getD i ⟨0,[]⟩
def N6 (n:Du) (i:Nat):Ay:=n.Ah.getD i Aks
def Sc (n:Du) (i:Nat):al:=E7 n.Ao.Ad ((i:Nat):Int)
def Vo (n:Du) (i:Nat) (p:Ar):al:=if p.Bd=2 then Pr (Li n i) p.Ab (Sc n i) else Sc n i
def C1 (n:Du) (i:Nat) (p:Ar):Du × ah :=
 if Br n.Ao.Ad ((i:Nat):Int) then (⟨n.Ao,n.Ac,n.Ai,n.Ah.set i (Bt (N6 n i) p (Ij i)),n.down,n.up⟩,Q2 i (Hp (N6 n i) p))
 else (⟨n.Ao,n.Ac,if p.Bd=2 then n.Ai.set i (Jz (Li n i) p.Ab) else n.Ai,n.Ah,Dc n.down (Vo n i p) [p],n.up⟩,[])
def V7 (n:Du) (i:Nat):Nat:=(n.Ao.Ad.getD i 0).toNat
def Rz (p:Ar):Ar:=⟨4,p.Ab,p.Al,p.Cy,⟨#[]⟩⟩
def Ou (n:Du) (i:Nat) (p:Ar):Du :=
 if V7 n i=0 then ⟨n.Ao,Hb n.Ac p.Ab,n.Ai,n.Ah,Dc n.down [((i:Nat):Int)] (Ib n.Ac p),n.up⟩
 else ⟨n.Ao,n.Ac,n.Ai.set (V7 n i) (Ka (Li n (V7 n i)) p.Ab ((i:Nat):Int)),n.Ah,Dc n.down [((i:Nat):Int)] [Rz p],if Pi (Li n (V7 n i)) p.Ab then n.up.modify (V7 n i) fun q=>Da q [p] else n.up⟩
def Ju (n:Du) (i:Nat):Du × ah :=
 if Br n.Ao.Ad ((i:Nat):Int) then (⟨n.Ao,n.Ac,n.Ai,n.Ah.set i (Bj (N6 n i) (Ij i)),n.down,n.up.modify i fun q=>Da q (Db (N6 n i))⟩,Q2 i (Gs (N6 n i)))
 else (⟨n.Ao,n.Ac,n.Ai.set i (Cn (Li n i)),n.Ah,n.down,n.up⟩,[])
def Ayb (n:Du):Du:=⟨n.Ao,Lg n.Ac,n.Ai,n.Ah,Dc n.down (Sc n 0) (G0 n.Ac.Aa n.Ac.quiet),n.up⟩
def A4 (n:Du):Nat->Du × ah
 | 0=>(Ayb n,[])
 | k+1=>((Ju (A4 n k).1 (k+1)).1,(A4 n k).2++(Ju (A4 n k).1 (k+1)).2)
def Bv (n:Du):Du × ah:=A4 n (n.Ao.Ad.length - 1)
def Xb (n:Du) (s:am):Du:=⟨n.Ao,Pp n.Ac s,n.Ai,n.Ah,Dc n.down (Sc n 0) [Di n.Ac.Aa s],n.up⟩
def Mg (n:Du) (i:Nat):Du:=⟨n.Ao,n.Ac,n.Ai,n.Ah,n.down.modify i (·.drop 1),n.up⟩
def Lv (n:Du) (i:Nat):Du:=⟨n.Ao,n.Ac,n.Ai,n.Ah,n.down,n.up.modify i (·.drop 1)⟩
structure GN (ck:Nat->Int) (n:Du):Prop where
 t:Fc n.Ao=true
 s:Cj n.Ac=true
 l:Kn n=true
 a:∀i (h1:i < n.Ai.length) (h2:i < n.Ah.length) (h3:i < n.down.length) (h4:i < n.up.length),Py n.Ao.Ad (ck i) i n.Ai[i] n.Ah[i] n.down[i] n.up[i]=true
theorem Av {n:Du}:At n=true↔GN (fun _=>n.Ac.Ae) n:=by
 rw [Vv];constructor
 ·rintro ⟨h1,h2,h3,h4⟩;obtain ⟨q1,q2,q3,q4⟩:=Bk.1 h3;exact ⟨h1,h2,h3,fun i a b c d=>by rw [<-Wg a b c d];exact h4 i EM⟩
 ·rintro ⟨h1,h2,h3,h4⟩;obtain ⟨q1,q2,q3,q4⟩:=Bk.1 h3;exact ⟨h1,h2,h3,fun i hi=>by rw [Wg EM EM EM EM];exact h4 i _ _ _ _⟩
def Ab6 (ck:Nat->Int) (i:Nat) (c:Int):Nat->Int:=fun j=>if j=i then c else ck j
structure RN (Cp:al) (clk:Int) (i:Nat) (e:Bg) (r:Ay) (d u:List Ar):Prop where
 hd:E9 d=true
 hu:E9 u=true
 hk:Yh u=true
 hz:i=0->Mc e=true/\Sp r=true/\d.length=0/\u.length=0
 hf:i≠0->Br Cp ((i:Nat):Int)=true->Mc e=true/\Dx r=true/\r.Ae=clk
 hn:i≠0->Br Cp ((i:Nat):Int)=false->Ba e=true/\e.Ae=clk/\Sp r=true
theorem Ng {Cp:al} {clk:Int} {i:Nat} {e:Bg} {r:Ay} {d u:List Ar}:Py Cp clk i e r d u=true↔RN Cp clk i e r d u:=by
 unfold Py;constructor
 ·intro h;simp only [av] at h;obtain ⟨⟨⟨h1,h2⟩,h3⟩,h4⟩:=h;refine ⟨h1,h2,h3,fun e=>?_,fun e l=>?_,fun e l=>?_⟩
  ·rw [ar e] at h4;simp only [av,aC] at h4;exact ⟨h4.1.1.1,h4.1.1.2,h4.1.2,h4.2⟩
  ·rw [aq e,ar l] at h4;simp only [av,aC] at h4;exact ⟨h4.1.1,h4.1.2,h4.2⟩
  ·rw [aq e,aq (by rw [l];decide)] at h4;simp only [av,aC] at h4;exact ⟨h4.1.1,h4.1.2,h4.2⟩
 ·intro h;rw [h.hd,h.hu,h.hk,bW,bW,bW];by_cases e:i=0
  ·rw [ar e];obtain ⟨a,b,c,d⟩:=h.hz e;rw [a,b,au c,au d];rfl
  ·rw [aq e];cases l:Br Cp ((i:Nat):Int)
   ·obtain ⟨a,b,c⟩:=h.hn e l;rw [aq EN,a,au b,c];rfl
   ·obtain ⟨a,b,c⟩:=h.hf e l;rw [ar rfl,a,b,au c];rfl
theorem GN.rn {ck:Nat->Int} {n:Du} (h:GN ck n) {i:Nat} (hi:i < n.Ao.Ad.length):∃(h1:i < n.Ai.length) (h2:i < n.Ah.length) (h3:i < n.down.length) (h4:i < n.up.length),RN n.Ao.Ad (ck i) i n.Ai[i] n.Ah[i] n.down[i] n.up[i]:=by
 obtain ⟨q1,q2,q3,q4⟩:=Bk.1 h.l;exact ⟨EM,EM,EM,EM,Ng.1 (h.a i _ _ _ _)⟩
theorem GN.mk' {ck:Nat->Int} {n:Du} (h1:Fc n.Ao=true) (h2:Cj n.Ac=true) (h3:Kn n=true) (h4:∀i (h1:i < n.Ai.length) (h2:i < n.Ah.length) (h3:i < n.down.length) (h4:i < n.up.length),RN n.Ao.Ad (ck i) i n.Ai[i] n.Ah[i] n.down[i] n.up[i]):GN ck n :=
 ⟨h1,h2,h3,fun i a b c d=>Ng.2 (h4 i a b c d)⟩
theorem GN.src {ck:Nat->Int} {n:Du} {s:Cc} (h:GN ck n) (hs:Cj s=true):GN ck ⟨n.Ao,s,n.Ai,n.Ah,n.down,n.up⟩:=⟨h.t,hs,h.l,h.a⟩
theorem GN.el {ck:Nat->Int} {n:Du} {i:Nat} {e:Bg} (h:GN ck n) (h0:i≠0) (hl:Br n.Ao.Ad ((i:Nat):Int)=false) (he:Ba e=true):GN (Ab6 ck i e.Ae) ⟨n.Ao,n.Ac,n.Ai.set i e,n.Ah,n.down,n.up⟩:=by
 obtain ⟨q1,q2,q3,q4⟩:=Bk.1 h.l;refine .mk' h.t h.s (Bk.2 ⟨by simpa using q1,q2,q3,q4⟩) fun j h1 h2 h3 h4=>?_;have h1':j < n.Ai.length:=GU
 have r:=Ng.1 (h.a j h1' h2 h3 h4);refine ⟨r.hd,r.hu,r.hk,fun e0=>?_,fun e0 l=>?_,fun e0 l=>?_⟩
 ·have:=r.hz e0
  rwa [cX EM]
 ·have hne:i≠j:=fun e1=>by subst e1;rw [hl] at l;cases l
  have:=r.hf e0 l;rw [cX hne];unfold Ab6;rw [aq (Ne.symm hne)];exact this
 ·have:=r.hn e0 l;by_cases e1:i=j
  ·subst e1;rw [eH];unfold Ab6;rw [ar rfl];exact ⟨he,rfl,this.2.2⟩
  ·rw [cX e1];unfold Ab6;rw [aq (Ne.symm e1)];exact this
theorem GN.rc {ck:Nat->Int} {n:Du} {i:Nat} {x:Ay} (h:GN ck n) (h0:i≠0) (hl:Br n.Ao.Ad ((i:Nat):Int)=true) (he:Dx x=true):GN (Ab6 ck i x.Ae) ⟨n.Ao,n.Ac,n.Ai,n.Ah.set i x,n.down,n.up⟩:=by
 obtain ⟨q1,q2,q3,q4⟩:=Bk.1 h.l;refine .mk' h.t h.s (Bk.2 ⟨q1,by simpa using q2,q3,q4⟩) fun j h1 h2 h3 h4=>?_;have h2':j < n.Ah.length:=GD
 have r:=Ng.1 (h.a j h1 h2' h3 h4);refine ⟨r.hd,r.hu,r.hk,fun e0=>?_,fun e0 l=>?_,fun e0 l=>?_⟩
 ·have:=r.hz e0
  rwa [cX EM]
 ·have:=r.hf e0 l;by_cases e1:i=j
  ·subst e1;rw [eH];unfold Ab6;rw [ar rfl];exact ⟨this.1,he,rfl⟩
  ·rw [cX e1];unfold Ab6;rw [aq (Ne.symm e1)];exact this
 ·have hne:i≠j:=fun e1=>by subst e1;rw [hl] at l;cases l
  have:=r.hn e0 l;rw [cX hne];unfold Ab6;rw [aq (Ne.symm hne)];exact this
theorem Anc {q ps:List Ar} (hq:Yh q=true) (hp:∀p∈ps,p.Bd=3):Yh (Da q ps)=true:=by
 unfold Yh Da at *;rw [eK,hq,bW,aQ];exact fun p h=>au (hp p (bg h))
theorem GN.dn {ck:Nat->Int} {n:Du} (h:GN ck n) (i:Nat) (f:List Ar->List Ar) (h0:i=0->f []=[]) (hf:∀q,E9 q=true->E9 (f q)=true):GN ck ⟨n.Ao,n.Ac,n.Ai,n.Ah,n.down.modify i f,n.up⟩:=by
 obtain ⟨q1,q2,q3,q4⟩:=Bk.1 h.l;refine .mk' h.t h.s (Bk.2 ⟨q1,q2,by simpa using q3,q4⟩) fun j h1 h2 h3 h4=>?_;have h3':j < n.down.length:=HL
 have r:=Ng.1 (h.a j h1 h2 h3' h4);by_cases e1:i=j
 ·subst e1;simp only [fB];refine ⟨hf _ r.hd,r.hu,r.hk,fun e0=>?_,r.hf,r.hn⟩;obtain ⟨a,b,c,d⟩:=r.hz e0;refine ⟨a,b,?_,d⟩;rw [bx.1 c,h0 e0];rfl
 ·simp only [dL,aq e1];exact r
theorem GN.un {ck:Nat->Int} {n:Du} (h:GN ck n) (i:Nat) (f:List Ar->List Ar) (h0:i=0->f []=[]) (hf:∀q,E9 q=true->Yh q=true->E9 (f q)=true/\Yh (f q)=true):GN ck ⟨n.Ao,n.Ac,n.Ai,n.Ah,n.down,n.up.modify i f⟩:=by
 obtain ⟨q1,q2,q3,q4⟩:=Bk.1 h.l;refine .mk' h.t h.s (Bk.2 ⟨q1,q2,q3,by simpa using q4⟩) fun j h1 h2 h3 h4=>?_;have h4':j < n.up.length:=by simpa using h4
 have r:=Ng.1 (h.a j h1 h2 h3 h4');by_cases e1:i=j
 ·subst e1;simp only [fB];refine ⟨r.hd,(hf _ r.hu r.hk).1,(hf _ r.hu r.hk).2,fun e0=>?_,r.hf,r.hn⟩;obtain ⟨a,b,c,d⟩:=r.hz e0;refine ⟨a,b,c,?_⟩;rw [bx.1 d,h0 e0];rfl
 ·simp only [dL,aq e1];exact r
theorem GN.sp {ck:Nat->Int} {ps:List Ar} (hp:∀p∈ps,Bh p=true):∀{nodes:al} {n:Du},GN ck n->(∀x∈nodes,x.toNat≠0)->GN ck ⟨n.Ao,n.Ac,n.Ai,n.Ah,Dc n.down nodes ps,n.up⟩
 | [],_,h,_=>h
 | x::r,n,h,hx=>GN.sp hp (nodes:=r) (n:=⟨n.Ao,n.Ac,n.Ai,n.Ah,n.down.modify x.toNat fun q=>Da q ps,n.up⟩) (h.dn x.toNat _ (fun e=>absurd e (hx x EO)) fun q hq=>Aay hq hp) fun y hy=>hx y HQ
theorem Adj {q:List Ar} (h:E9 q=true):E9 (q.drop 1)=true:=by
 unfold E9 at *;simp only [av,aC,aQ] at h ⊢;exact ⟨by rw [aU];omega,fun p hp=>h.2 p (bj hp)⟩
theorem Auj {q:List Ar} (h:Yh q=true):Yh (q.drop 1)=true:=by
 unfold Yh at *;simp only [aQ] at h ⊢;exact fun p hp=>h p (bj hp)
theorem GN.pd {ck:Nat->Int} {n:Du} (h:GN ck n) (i:Nat):GN ck (Mg n i):=h.dn i _ (fun _=>rfl) fun _=>Adj
theorem GN.pu {ck:Nat->Int} {n:Du} (h:GN ck n) (i:Nat):GN ck (Lv n i):=h.un i _ (fun _=>rfl) fun _ a b=>⟨Adj a,Auj b⟩
def U8 (l:List Hn):Prop:=∀s∈l,s.Ea.size<=8
theorem Age {s:am} (h:s.size<=8):(Aj0 s).size<=9:=by
 unfold Aj0;have:(⟨#[43]⟩:am).size=1:=rfl;rw [cH];omega
theorem Al6 {l:List Hn} (h:U8 l):(Fh l).size<=9:=by
 unfold Fh;cases l with
 | nil=>decide
 | cons s r =>
  dsimp only
  split
  ·exact Age (h s EO)
  ·decide
theorem Ath:∀(l:List Hn) (n:Int),U8 l->∀e∈(rel n l).2.2,e.size<=9
 | [],_,_,e,he=>by simp [rel] at he
 | s::r,n,h,e,he=>by
  unfold rel at he
  split at he
  ·rcases aF.1 he with rfl|he
   ·exact Age (h s EO)
   ·exact Ath r _ (fun x hx=>h x IH) e he
  ·simp at he
theorem Ang {w:Ak} (h:U8 w.Am):∀e∈Pj w,e.size<=9:=Ath w.Am w.next h
theorem Amt:∀(k:Nat) (w:Ak),U8 w.Am->(∀e∈Mu k w,e.size<=9)/\U8 (Hw k w).Am
 | 0,w,h=>⟨fun e he=>by simp [Mu] at he,h⟩
 | k+1,w,h=>by
  have ih:=Amt k (Ww w) fun s hs=>h s (bj hs);refine ⟨fun e he=>?_,ih.2⟩;unfold Mu at he;rcases aF.1 he with rfl|he
  ·exact Al6 h
  ·exact ih.1 e he
theorem X8 {w:Ak} (h:C7 w=true):U8 w.Am:=fun s hs=>by
 obtain ⟨n0,n1,hl,hit⟩:=Acc h;exact hit s hs
theorem Ajq {w:Ak} {t:Int} (h:U8 w.Am):∀e∈Fm w t,e.size<=9:=fun e he=>by
 have hg:=Amt (Ec w.next t) w h;unfold Fm at he;rcases aG.1 he with he|he
 ·exact hg.1 e he
 ·exact Ang hg.2 e he
theorem Apt {w:Ak} {t:Int} (h:C7 w=true):(Fm w t).length<=40000:=by
 have h1:=(Na (t:=t) h).2.2.1;have h2:Ec w.next t<=32767:=by
  unfold Ec
  split
  ·rename_i hb;unfold Qa Ht at hb;simp only [av,aC] at hb;omega
  ·omega
 omega
theorem Awp {x:Ak} {k:Nat} {s:Hn} (h:U8 x.Am) (hs:s.Ea.size<=8):U8 (Kh x k s):=fun y hy=>by
 unfold Kh at hy;rcases bq hy with hy|rfl
 ·unfold Lj at hy;rcases aG.1 hy with hy|hy
  ·exact h y hy
  ·rw [List.eq_of_mem_replicate hy];decide
 ·exact hs
theorem Avv {r:Ay} {p:Ar} (hg:Eu r) (hp:Bh p=true):∀e∈Hp r p,e.size<=1000000:=fun e he=>by
 have hd:p.data.size<=8:=by
  unfold Bh Qd at hp;simp only [av,aC] at hp;omega
 have hst:=(Jj hg hp).1;have htk:=(Oh hg hp).1;unfold Hp at he
 split at he
 ·unfold Ls at he;rcases aG.1 he with he|he
  ·unfold Jq at he
   split at he
   ·simp at he
   ·unfold Jb at he
    split at he
    ·simp at he
    ·have:=Ang (w:=Mz (C8 r p) p.Ab p.data) (Awp (s:=⟨true,p.data⟩) (X8 hst) hd) e he;omega
  ·unfold Np at he
   split at he
   ·split at he
    ·have:=Ajq (X8 htk) e he;omega
    ·rw [aH] at he;subst he;decide
   ·simp at he
 ·simp at he
theorem Aa6 {r:Ay} (hg:Eu r):(∀e∈Gs r,e.size<=1000000)/\(Gs r).length<=40000:=by
 unfold Gs
 split
 ·exact ⟨fun e he=>by simp at he,EO⟩
 ·exact ⟨fun e he=>by have:=Ajq (X8 hg.w) e he;omega,Apt hg.w⟩
theorem Ad7 {w:World} {t:TypeId} {a:ai} {c:Nat} {l:al} {F:ak} (h:(Pc.ow Bi t (ab a l.length c) l F).P w):∃F',(Pc.isv Tn (.agg #[ab a l.length c]) ⟨l⟩ F').P w:=by
 obtain ⟨F', -,hs⟩:=h.2.read;exact ⟨F',_,rfl,_,rfl,hs⟩
theorem Xl (t:Oc) (node:Int) (v:Value) (F:ak) (hl:t.Ad.length<=1000000):Fn prog 60 [v,aa node] [.isv Tn v t F] [] (fun (_:KiS)=>True) (fun z=>.slice z.a (E7 t.Ad node).length z.c) (fun z=>[.ow Bi 3 (.slice z.a (E7 t.Ad node).length z.c) (E7 t.Ad node) z.F]):=by
 refine enter func60 rfl ntmps60 fun w0=>?_;refine Pa ?_;rintro a1 c1 F1 rfl l1;refine B4 Bi 3 ?_;refine go ?_;intros;refine Cu [1,4,9,10] (fun z:KiS=>[(5,.slice z.a (I8 t.Ad node z.k).length z.c),(11,aa (z.k:Nat))]) (fun z=>[.ow Bi 3 (.slice z.a (I8 t.Ad node z.k).length z.c) (I8 t.Ad node z.k) z.F]) (fun z=>z.k<=t.Ad.length) (fun z=>t.Ad.length - z.k) ⟨0,_,_,_⟩ (aD _) fun z hz=>?_;have hkl:=Adn t.Ad node z.k;refine go ?_;refine Bf rfl (fun h1=>?_) (fun h1=>?_)
 ·have hh:z.k < t.Ad.length:=EM
  refine Jg (xs:=t.Ad) z.k ?_;rintro hi b o e1;rw [e1];refine go ?_;refine Bf rfl (fun h2=>?_) (fun h2=>?_)
  ·refine Ke ?_;intros;apply wO;refine No (N7 _) Dw fun a9 c9 F9=>?_;refine go ?_;rw [<-Aln hh h2];exact EF
  ·rw [<-Ao5 hh h2];exact DF
 ·rw [show I8 t.Ad node z.k=E7 t.Ad node by unfold E7;rw [show z.k=t.Ad.length by omega]];exact CK
theorem Adm {r:Ay} {p:Ar} (hg:Eu r) (hp:Bh p=true):∀e∈Hp r p,e.size<=1000000:=Avv hg hp
theorem Amy:∀(l:al) (lo:Int),l.Pairwise (· < ·)->(∀z∈l,lo<=z/\z<=7)->(l.length:Int)<=max 0 (8 - lo)
 | [],_,_,_=>by simp;omega
 | x::r,lo,hp,hb=>by
  rw [ci] at hp;have:=Amy r (x+1) hp.2 fun z hz=>⟨by have:=hp.1 z hz;omega,(hb z HP).2⟩;have:=hb x EO;rw [aK];omega
theorem Ol {e:Bg} (hg:Ba e=true) {x:Et} (hx:x∈e.Af):x.Bp.length<=7:=by
 have h:=(Js.1 ((D6.1 hg).2.2.1 x hx)).2.2.1;have:=Amy x.Bp 1 h.1 h.2;omega
theorem Lp {i:Nat}:1<=Ij i/\Ij i<=8:=by unfold Ij;omega
theorem Iq {n:Du} {i:Nat} (h:i < n.Ah.length):N6 n i=n.Ah[i]:=N2 h _
theorem Jl {n:Du} {i:Nat} (h:i < n.Ai.length):Li n i=n.Ai[i]:=N2 h _
theorem Aoh (n:Du) (i:Nat) (p:Ar) (g:Nat) (a1:ai) (c1:Nat) (F1:ak) (a2:ai) (c2:Nat) (F2:ak) (a3:ai) (c3:Nat) (F3:ak) (a4:ai) (c4:Nat) (F4:ak) (a5:ai) (c5:Nat) (F5:ak) (a6:ai) (c6:Nat) (F6:ak) (a7:ai) (c7:Nat) (F7:ak) (FT:ak) (hl:Kn n=true) (hi:i < n.Ao.Ad.length) (h8:Hf n.Ao.Ad) (hr:Br n.Ao.Ad (i:Nat)=true->Dx (N6 n i)=true) (he:Br n.Ao.Ad (i:Nat)=false->Ba (Li n i)=true) (hp:Bh p=true) (hps:p.data.size<=maxLen) :
  Fn prog 156 [Fv g 0 0,aa (i:Nat),.agg #[aa (p).Bd,aa (p).Ab,aa (p).Al,aa (p).Cy,af (p).data]] [Nx FT] [.row g 37 0 [] [ab a1 n.Ao.Ad.length c1,aa n.Ac.Aa.Al,aa n.Ac.Aa.size,ab a2 n.Ac.Aa.An.length c2,aa n.Ac.Ae,aa n.Ac.quiet,ab a3 n.Ac.holds.length c3,ab a4 n.Ai.length c4,ab a5 n.Ah.length c5,ab a6 n.down.length c6,ab a7 n.up.length c7] [],.ow Bi 3 (ab a1 n.Ao.Ad.length c1) n.Ao.Ad F1,.ow Bc 9 (ab a2 n.Ac.Aa.An.length c2) n.Ac.Aa.An F2,.ow Bx 130 (ab a3 n.Ac.holds.length c3) n.Ac.holds F3,.ow Ck 76 (ab a4 n.Ai.length c4) n.Ai F4,.ow Ca 83 (ab a5 n.Ah.length c5) n.Ah F5,.ow (Jo Ap 103) 85 (ab a6 n.down.length c6) n.down F6,.ow (Jo Ap 103) 85 (ab a7 n.up.length c7) n.up F7] (fun (_:NV × KA)=>True) (fun z=>.slice z.2.a (C1 n i p).2.length z.2.c) (fun z=>[.row g 37 0 [] [ab z.1.a1 n.Ao.Ad.length z.1.c1,aa (C1 n i p).1.Ac.Aa.Al,aa (C1 n i p).1.Ac.Aa.size,.slice z.1.a2 (C1 n i p).1.Ac.Aa.An.length z.1.c2,aa (C1 n i p).1.Ac.Ae,aa (C1 n i p).1.Ac.quiet,.slice z.1.a3 (C1 n i p).1.Ac.holds.length z.1.c3,ab z.1.a4 n.Ai.length z.1.c4,ab z.1.a5 n.Ah.length z.1.c5,ab z.1.a6 n.down.length z.1.c6,ab z.1.a7 n.up.length z.1.c7] [],.ow Bi 3 (ab z.1.a1 n.Ao.Ad.length z.1.c1) (C1 n i p).1.Ao.Ad z.1.F1,.ow Bc 9 (.slice z.1.a2 (C1 n i p).1.Ac.Aa.An.length z.1.c2) (C1 n i p).1.Ac.Aa.An z.1.F2,.ow Bx 130 (.slice z.1.a3 (C1 n i p).1.Ac.holds.length z.1.c3) (C1 n i p).1.Ac.holds z.1.F3,.ow Ck 76 (ab z.1.a4 n.Ai.length z.1.c4) (C1 n i p).1.Ai z.1.F4,.ow Ca 83 (ab z.1.a5 n.Ah.length z.1.c5) (C1 n i p).1.Ah z.1.F5,.ow (Jo Ap 103) 85 (ab z.1.a6 n.down.length z.1.c6) (C1 n i p).1.down z.1.F6,.ow (Jo Ap 103) 85 (ab z.1.a7 n.up.length z.1.c7) (C1 n i p).1.up z.1.F7,.ow Bc 9 (.slice z.2.a (C1 n i p).2.length z.2.c) (C1 n i p).2 z.2.F]):=by
 obtain ⟨q1,q2,q3,q4⟩:=Bk.1 hl;have hn8:=h8.n1;obtain ⟨d0,d1_⟩:=Lp (i:=i);refine enter func156 rfl ntmps156 fun w0=>?_;refine go ?_;intros;refine cfr (fun w st=>by obtain ⟨Fq,hq⟩:=Ad7 (st.get (p:=.ow Bi 3 (ab a1 n.Ao.Ad.length c1) n.Ao.Ad F1) EQ);exact ⟨_,I0 hq,rfl,Zb n.Ao i _ Fq⟩) (fun _ _=>?_);refine Q3 ?_;cases hlf:Br n.Ao.Ad (i:Nat)
 rotate_left
 ·have hir:i < n.Ah.length:=EM
  have hgr:=Gm.1 (Iq hir▸hr hlf);have hev:=(Oo (d:=Ij i) hgr hp d0 d1_).2;rw [show C1 n i p=(⟨n.Ao,n.Ac,n.Ai,n.Ah.set i (Bt n.Ah[i] p (Ij i)),n.down,n.up⟩,Q2 i (Hp n.Ah[i] p)) by unfold C1;rw [ar hlf,Iq hir]];refine go ?_;refine Aae (xs:=n.Ah) (m:=5) i ?_ rfl hir;rintro _ g5 A5 cs B5 k1 k2 J1 Ji J2 rfl - hc5 hH5;refine I3 ?_;rintro b1 d1 G1 b2 d2 G2 ev l1 l2;obtain rfl:=Oe ev;refine As [5,6] [] ?_;refine D7 0 1 2 3 ?_;refine D7 4 5 6 7 ?_;refine dt 8 ?_;refine dN 9 ?_;refine oC ?_;refine Bw (Afm i EM) fun _ _=>?_;refine dk ?_;refine dN 10 ?_;refine oC ?_
  refine Bw (Au6 n.Ah[i] p (Ij i) g5 83 (0+i * 5) A5 B5 b1 d1 G1 b2 d2 G2 hgr hp d0 d1_) fun s _=>?_;refine dk ?_;refine dN 11 ?_;refine oC ?_;refine cfr (fun w st=>by obtain ⟨Fq, -,hq⟩:=(st.get (p:=.ow Bc 9 (.slice s.ae (Hp n.Ah[i] p).length s.ce) (Hp n.Ah[i] p) s.Fe) EQ).2.read;exact ⟨[.sl Bc (.slice s.ae (Hp n.Ah[i] p).length s.ce) (Hp n.Ah[i] p) Fq,Nx FT],Vp ⟨EN,hq⟩ (st.get (p:=Nx FT) EQ),rfl,Auh i _ _ _ Fq FT EM EM (Adm hgr hp)⟩) (fun u _=>?_);refine Q3 ?_;refine dk ?_;refine dt 12 ?_;refine dd ?_;refine go ?_;refine Ln (Bt n.Ah[i] p (Ij i)) ?_
  refine Vb _ hH5 rfl fun J5=>?_;refine ret (⟨a1,c1,F1,a2,c2,F2,a3,c3,F3,a4,c4,F4,_,c5,J5,a6,c6,F6,a7,c7,F7⟩,⟨0,_,_,_⟩) trivial rfl
 ·have hir:i < n.Ai.length:=EM
  have hge:Ba n.Ai[i]=true:=Jl hir▸he hlf;have hel:=(D6.1 hge).2.1;have hkl:=T0 n.Ao.Ad ((i:Nat):Int);have hkx:∀x∈E7 n.Ao.Ad ((i:Nat):Int),0<=x/\x.toNat < n.down.length:=fun x hx=>by have:=If h8 hx;omega
  refine go ?_;refine cfr (fun w st=>by obtain ⟨Fq,hq⟩:=Ad7 (st.get (p:=.ow Bi 3 (ab a1 n.Ao.Ad.length c1) n.Ao.Ad F1) EQ);exact ⟨_,I0 hq,rfl,Xl n.Ao ((i:Nat):Int) _ Fq IU⟩) (fun u _=>?_);refine Q3 ?_;refine Az (E:=Bi) (xs:=E7 n.Ao.Ad ((i:Nat):Int)) fun Fk=>?_;refine B4 Bc 9 ?_;refine go ?_;refine Bf rfl (fun hk=>?_) (fun hk=>?_)
  ·rw [show C1 n i p=(⟨n.Ao,n.Ac,n.Ai.set i (Jz n.Ai[i] p.Ab),n.Ah,Dc n.down (Pr n.Ai[i] p.Ab (E7 n.Ao.Ad ((i:Nat):Int))) [p],n.up⟩,[]) by unfold C1 Vo Sc;rw [aq (by rw [hlf];decide),ar hk,ar hk,Jl hir]];refine go ?_;refine Aae (xs:=n.Ai) (m:=2) i ?_ rfl hir;rintro _ g5 A5 cs B5 k1 k2 J1 Ji J2 rfl - hc5 hH5;refine Ia ?_;rintro b1 d1 G1 ev l1;obtain rfl:=Oe ev;refine As [6,7] [] ?_;refine D7 0 1 2 3 ?_;refine D7 4 5 6 7 ?_;refine dt 8 ?_;refine dN 9 ?_;refine oC ?_
   refine Bw (An7 n.Ai[i] p.Ab (E7 n.Ao.Ad ((i:Nat):Int)) g5 76 (0+i * 2) A5 B5 b1 d1 G1 u.a u.c Fk EM (fun x hx=>by have:=Ol hge hx;omega) EM) fun s _=>?_;refine dk ?_;refine dt 10 ?_;refine dd ?_;refine Hg (Jz n.Ai[i] p.Ab) ?_;refine Vb _ hH5 rfl fun J5=>?_;refine Az (E:=Bi) (xs:=Pr n.Ai[i] p.Ab (E7 n.Ao.Ad ((i:Nat):Int))) fun Fk2=>?_;refine Ke ?_;intros;refine Eo (E:=Ap) (xs:=[p]) (Dj p hps) ?_ EO;refine Az (E:=Ap) (xs:=[p]) fun Fp=>?_;refine go ?_
   refine Bw (Xm n.down (Pr n.Ai[i] p.Ab (E7 n.Ao.Ad ((i:Nat):Int))) [p] g _ _ _ _ _ _ _ _ _ _ a6 _ c6 F6 _ _ Fk2 _ _ Fp rfl (fun x hx=>hkx x (Tu x hx))) fun J6 _=>?_;refine go ?_;refine ret (⟨a1,c1,F1,a2,c2,F2,a3,c3,F3,_,c4,J5,a5,c5,F5,a6,c6,J6,a7,c7,F7⟩,⟨0,none,0,[]⟩) trivial rfl
  ·rw [show C1 n i p=(⟨n.Ao,n.Ac,n.Ai,n.Ah,Dc n.down (E7 n.Ao.Ad ((i:Nat):Int)) [p],n.up⟩,[]) by unfold C1 Vo Sc;rw [aq (by rw [hlf];decide),aq hk,aq hk]];refine Ke ?_;intros;refine Eo (E:=Ap) (xs:=[p]) (Dj p hps) ?_ EO;refine Az (E:=Ap) (xs:=[p]) fun Fp=>?_;refine go ?_;refine Bw (Xm n.down (E7 n.Ao.Ad ((i:Nat):Int)) [p] g _ _ _ _ _ _ _ _ _ _ a6 _ c6 F6 _ _ Fk _ _ Fp rfl hkx) fun J6 _=>?_;refine go ?_;refine ret (⟨a1,c1,F1,a2,c2,F2,a3,c3,F3,a4,c4,F4,a5,c5,F5,a6,c6,J6,a7,c7,F7⟩,⟨0,none,0,[]⟩) trivial rfl
theorem T9 (y:Hm) (w:World):C6 Bx w [aa y.Ab,aa y.Bl] [y] []:=⟨_,[],[],[],EO,EO,⟨rfl,rfl⟩,rfl,rfl⟩
theorem An8 (xs:List Hm) (y:Hm) (i:Nat) (a:ai) (c vb:Nat) (F:ak) (hi:i<=xs.length) (hl:xs.length<=1000000) :
  Fn prog 239 [ab a xs.length c,aa i,ab (some ⟨vb,0,none⟩) 1 1] [] [.ow Bx 130 (ab a xs.length c) xs F,.row vb 130 0 [] [aa y.Ab,aa y.Bl] []] (fun (_:ai × Nat × ak)=>True)
   (fun z=>.slice z.1 (xs.take i++y::xs.drop i).length z.2.1) (fun z=>[.ow Bx 130 (.slice z.1 (xs.take i++y::xs.drop i).length z.2.1) (xs.take i++y::xs.drop i) z.2.2]):=by
 have hone:∀w':World,∀cs:aj,C6 Bx w' cs xs []->∀u∈cs,u.oneCell'=true:=fun w' cs h=>h.one' Iw;have hy:=T9 y;have h1y:∀u∈([aa y.Ab,aa y.Bl]:aj),u.oneCell'=true:=HA
 refine enter func239 rfl ntmps239 fun w0=>?_;refine Anq (E:=Bx) fun hc1 hc2=>?_;refine go ?_;apply wO;refine Ahr rfl rfl rfl rfl hi (fun _=>?_) hc1;refine go ?_;refine Bf rfl (fun h1=>?_) (fun h1=>?_)
 ·have hin:i=xs.length:=EM
  subst hin;have e:xs.take xs.length++y::xs.drop xs.length=xs++[y]:=EO
  refine go ?_;apply wO;refine No hy Iw fun a2 c2 F2=>?_;rw [e];exact CY
 ·have hlt:i < xs.length:=EM
  refine Ah6 (xs:=xs) Lc (by rintro rfl;simp at hlt) ?_;rintro g cs rest rfl - - - hcl hcr hfl;rw [show Bx.sz=2 from rfl] at hcl hcr;have h1c:=hone w0 cs (hfl w0);obtain ⟨A,B,hcs,hA,hB⟩:∃A B,cs=A++B/\A=cs.take (i * 2)/\B=cs.drop (i * 2):=⟨_,_,(bm _ _).symm,rfl,rfl⟩;have hAl:A.length=i * 2:=by rw [hA,aL];omega
  have hBl:B.length=(xs.length - i) * 2:=by rw [hB,aU];omega
  have hins:∀w,C6 Bx w (A++[aa y.Ab,aa y.Bl]++B) (xs.take i++y::xs.drop i) []:=fun w=>by rw [hA,hB];exact (hfl w).insL (hy w) i hi
  have h1A:∀u∈A,u.oneCell'=true:=fun u hu=>h1c u HM;have h1B:∀u∈B,u.oneCell'=true:=fun u hu=>h1c u HM;have hlen:(xs.take i++y::xs.drop i).length=xs.length+1:=ET
  clear hA hB hfl hone;subst hcs;have eA:A=((A++B++rest).drop 0).take (i * 2):=by rw [dW,aJ,bR hAl]
  have eB:B=((A++B++rest).drop (0+i * 2)).take ((xs.length - i) * 2):=by rw [dF,aJ,eP hAl,bR hBl]
  rw [hlen];refine go ?_;apply wO;apply oc;rfl;exact Amk rfl;refine go ?_;refine Bf rfl (fun h2=>?_) (fun h2=>?_)
  ·refine go ?_;apply wO;apply oc;rfl;exact Nv (i:=i) rfl rfl rfl EM EM;refine go ?_;apply wO;refine Alt (k:=xs.length+1 - i) (olds:=A) rfl rfl rfl EM (Mj (m:=i * 2) (.head _) eA) EM EN EM EM EM EM fun g' cp' Z rest' h3 h4 h5 h6=>?_;rw [show i+(xs.length+1 - i)=xs.length+1 by omega] at h3 ⊢;obtain ⟨Z1,Z2,rfl,hZ1,hZ2⟩:∃Z1 Z2,Z=Z1++Z2/\Z1.length=2/\Z2.length=B.length:=⟨Z.take 2,Z.drop 2,(bm _ _).symm,FK,by rw [aU];omega⟩;refine go ?_
   apply wO;apply oc;rfl;exact Kb (i:=i) rfl rfl rfl EM EM EM;refine go ?_;apply wO;refine Vl (cs:=[aa y.Ab,aa y.Bl]) (L':=A++[aa y.Ab,aa y.Bl]++(Z2++rest')) rfl rfl rfl (Mj (L:=[aa y.Ab,aa y.Bl]) (o:=0) (m:=2) EQ rfl) .here (Ab3 (M:=Z1) GK EM (by simpa using hZ1)) (by show 2=min 1 (xs.length+1 - i) * 2;omega) FA h1y ?_;refine go ?_;refine As [] [] ?_;refine D7 0 1 2 3 ?_
   refine dt 4 ?_ (hy:=Kb (i:=i+1) rfl rfl EM EM EM EM);refine Ek 5 6 ?_;refine dt 7 ?_ (hy:=Kb (i:=i) rfl rfl EM EM EM EM);refine dN 8 ?_
   refine Vl (cs:=B) (L':=A++[aa y.Ab,aa y.Bl]++B++rest') rfl rfl rfl (Mj EQ eB) .here (Ab3 (P:=A++[aa y.Ab,aa y.Bl]) (M:=Z2) GK FA hZ2) GI FA h1B ?_;refine dk ?_;refine dd ?_
   refine Aa4 (cs:=A++[aa y.Ab,aa y.Bl]++B) (rest:=rest') (xs:=xs.take i++y::xs.drop i) cp' rfl hins EM h4 (by rw [show Bx.sz=2 from rfl];simp only [aw,aK,aV] at h6 ⊢;omega) ?_;rw [hlen];refine go ?_;refine ret (_,cp',[g']) trivial rfl
  ·have hcx:xs.length+1<=c:=EM
   obtain ⟨X,Y,hXY,hX,hY⟩:=Al7 (B:=B) (R:=rest) 2 EM;refine go ?_;apply wO;apply oc;rfl;exact Nv (i:=xs.length+1) rfl rfl EM EM EM;refine go ?_;apply wO;apply oc;rfl;exact Kb (i:=i+1) rfl rfl EM EM EM EM;refine Ke ?_;intros;apply wO
   refine Asy rfl Tt (ovl (tS:=30) (tR:=4) (run_callFunc_extern func261 ER ER ER (e:=Extern.SlicesOverlaps.overlaps #[30,30] #[4]) ER) (.there .here) (.head _) GL) ?_;refine go ?_;refine As [] [] ?_;refine D7 0 1 2 3 ?_;refine dt 4 ?_ (hy:=Kb (i:=i+1) rfl rfl EM EM EM EM);refine Ek 5 6 ?_;refine dt 7 ?_ (hy:=Kb (i:=i) rfl rfl EM EM EM EM);refine dN 8 ?_
   refine Vl (cs:=B) (L':=A++X++B++rest.drop 2) rfl rfl rfl (Mj EQ eB) .here (Ab3 (P:=A++X) (M:=Y) JI HG hY) GE HG h1B ?_;refine dk ?_;refine dd ?_;refine go ?_;apply wO;apply oc;rfl;exact Kb (i:=i) rfl rfl rfl EM EM EM;refine go ?_;apply wO
   refine Vl (cs:=[aa y.Ab,aa y.Bl]) (L':=A++[aa y.Ab,aa y.Bl]++(B++rest.drop 2)) rfl rfl rfl (Mj (L:=[aa y.Ab,aa y.Bl]) (o:=0) (m:=2) EQ rfl) .here (Ab3 (M:=X) GK EM (by simpa using hX)) (by show 2=min 1 (xs.length+1 - i) * 2;omega) FA h1y ?_;refine go ?_
   refine Aa4 (L:=A++[aa y.Ab,aa y.Bl]++(B++rest.drop 2)) (cs:=A++[aa y.Ab,aa y.Bl]++B) (rest:=rest.drop 2) (xs:=xs.take i++y::xs.drop i) c GK hins EM EM (by rw [show Bx.sz=2 from rfl];simp only [aw,aK,aV,aU];omega) ?_;rw [hlen];refine ret (_,c,[g]) trivial rfl
instance:IntC prog 191 .u64:=⟨underlying191⟩
theorem Ak1 (fid:FuncId) (caps:aj) (A:List Pc) (hA:A.all (fun p=>!p.mu)=true) (xs:List Hm) (a:ai) (c:Nat) (F:ak) (tv:Value) (f:Hm->Int) (hm:∀i j (_:i<=j) (hj:j < xs.length),f xs[j] < 0->f (xs[i]'EM) < 0) (hb:O2 prog fid=true) (hl:xs.length<=1000000)
  (hp:∀x∈xs,∀w,Nh A w->Calls prog fid ([.agg #[aa x.Ab,aa x.Bl],tv]++caps).toArray w (RB (aa (f x)) w)) :
  Fn prog 259 [ab a xs.length c,tv,.func (.func fid) #[] caps.toArray] (.sl Bx (ab a xs.length c) xs F::A) [] (fun (_:Unit)=>True) (fun _=>.tuple #[aa ((xs.takeWhile fun x=>decide (f x < 0)).length:Nat),.bool (Avx f xs[(xs.takeWhile fun x=>decide (f x < 0)).length]?)]) (fun _=>[]):=by
 refine enter func259 rfl ntmps259 (fun w0=>?_) rfl EY .nil;refine go ?_;refine Ei [0,1,2,6,7,8] (fun s:Nat × Nat=>[(9,aa (s.1:Nat)),(10,aa (s.2:Nat))]) (fun s=>s.1<=s.2/\s.2<=xs.length/\(∀j (_:j < s.1) (h:j < xs.length),f xs[j] < 0)/\(∀j (_:s.2<=j) (h:j < xs.length),¬f xs[j] < 0)) (fun s=>s.2 - s.1) (0,xs.length) ⟨aD _,aA _,fun j h=>by omega,fun j h1 h2=>by omega⟩ fun s hs=>?_;obtain ⟨i,j⟩:=s;obtain ⟨h1,h2,h3,h4⟩:=hs;dsimp only at h1 h2 h3 h4 ⊢;refine go ?_;refine Bf rfl (fun h5=>?_) (fun h5=>?_)
 ·have hh:(i+j) / 2 < xs.length:=EM
  have e2:((i:Int)+(j:Int)) / 2=(((i+j) / 2:Nat):Int):=EM
  refine go ?_;apply wO;apply oc;rfl;exact Ae0 rfl EM EM;refine go ?_;apply wO;apply oc;rfl;exact Aid rfl;rw [e2];apply wO;apply oc;rfl;exact An3 rfl EM EM;generalize hq:(i+j) / 2=q at hh;refine go ?_;refine Tb (xs:=xs) q ?_;rintro hi b o e;rw [e];refine go ?_;apply wO;refine Ack rfl rfl hb Tt ?_;refine cb (fun w st=>hp xs[q] (aE hh) w (fun p hp=>st.on p HF)) ?_;refine go ?_;refine Bf rfl (fun h6=>?_) (fun h6=>?_)
  ·exact CP
  ·exact CQ
 ·have hij:i=j:=EM
  subst hij;have hk:(xs.takeWhile fun x=>decide (f x < 0)).length=i:=Wa h2 (fun j hj h=>au (h3 j hj h)) (fun h=>ay (h4 i (aA _) h));rw [hk];refine go ?_;refine Dm rfl rfl (fun h6=>?_) (fun h6=>?_)
  ·have hh:i < xs.length:=EM
   rw [aB hh];refine go ?_;refine Tb (xs:=xs) i ?_;exact CX
  ·rw [bf EM];exact AB
theorem Ac6 {W:Ax} {p:Ar} (hg:D9 W=true):(C9 W p).1.data.size<=maxLen:=by
 unfold C9
 split
 ·rename_i h;unfold Hh at h;simp only [av] at h;have hk:=Y9 h.2;show (Uu W p.Ab).size<=maxLen;rw [Tz hk];have:=aQ.1 (D0.1 hg).2.2.2 _ (aE hk);unfold Qd at this;simp only [av,aC] at this;unfold maxLen;omega
 ·decide
theorem Aqf {t n:Int} {hs:List Hm} (hser:∀h∈hs,Cm h.Ab=true) (hn:0<=n/\n<=65535):(hs.takeWhile fun x=>decide (gp t x.Ab - gp t n < 0)).length=Fa t hs n /\
  Avx (fun x:Hm=>gp t x.Ab - gp t n) hs[(hs.takeWhile fun x=>decide (gp t x.Ab - gp t n < 0)).length]?=Ld t hs n:=by
 have e:(fun x:Hm=>decide (gp t x.Ab - gp t n < 0))=fun h=>decide (gp t h.Ab < gp t n):=by
  funext x;rw [dH];omega
 have e1:(hs.takeWhile fun x=>decide (gp t x.Ab - gp t n < 0)).length=Fa t hs n:=by unfold Fa;rw [e]
 refine ⟨e1,?_⟩;rw [e1];unfold Ld;cases hq:hs[Fa t hs n]? with
 | none=>rfl
 | some z =>
  show decide (gp t z.Ab - gp t n=0)=decide (z.Ab=n);rw [dH];have hz:=Bb.1 (hser z (bM hq));exact ⟨fun h=>Ar6 (t:=t) hz hn EM,fun h=>by rw [h];omega⟩
theorem Bay (h:Hm) (n t:Int) (gb g o:Nat) (v1 v2 v3 v4 v5:Value) (t0:0<=t) (t1:t<=65535) (n0:0<=n) (n1:n<=65535) (m0:0<=h.Ab) (m1:h.Ab<=65535) :
  FV 260 [.agg #[aa h.Ab,aa h.Bl],aa n,Fv gb 0 0] [.cel gb 0 [Fv g o 0],.cel g o [aa t,v1,v2,v3,v4,v5]] (aa (gp t h.Ab - gp t n)):=by
 have b1:=Kc t h.Ab;have b2:=Kc t n;refine enter func260 rfl ntmps260 fun w0=>?_;refine go ?_;intros;refine As [0,1,2] [] ?_;refine D7 0 1 2 3 ?_;refine D7 4 5 6 8 ?_;refine D7 9 10 11 12 ?_;refine dt 13 ?_;refine dN 7 ?_;refine oC ?_;refine ce (fun w s=>Om _ _ _ EM EM EM EM) ?_;refine dk ?_;refine dN 14 ?_;refine oC ?_;refine ce (fun w s=>Om _ _ _ EM EM EM EM) ?_;refine dk ?_;refine Ek 15 16 ?_;exact CG
theorem Alf (W:Ax) (hs:List Hm) (n:Int) (g t o:Nat) (A B:aj) (a a2:ai) (c c2:Nat) (cl q:Int) (F2:ak) (t0:0<=W.Al) (t1:W.Al<=65535) (n0:0<=n) (n1:n<=65535) (hser:∀h∈hs,Cm h.Ab=true) (hsr:srt W.Al hs) (hl:hs.length<=1000000) :
  Fn prog 238 [Fv g o 0,aa n] [] [.row g t o A [aa W.Al,aa W.size,ab a W.An.length c,aa cl,aa q,ab a2 hs.length c2] B,.ow Bx 130 (ab a2 hs.length c2) hs F2] (fun (_:Unit)=>True) (fun _=>.tuple #[aa (Fa W.Al hs n:Nat),.bool (Ld W.Al hs n)]) (fun _=>[.row g t o A [aa W.Al,aa W.size,ab a W.An.length c,aa cl,aa q,ab a2 hs.length c2] B,.ow Bx 130 (ab a2 hs.length c2) hs F2]):=by
 have hs1:=Aqf (t:=W.Al) hser ⟨n0,n1⟩;refine enter func238 rfl ntmps238 fun w0=>?_;refine go ?_;intros;rename_i gb;refine cb (fun w st=>by
  have r1:=st.get (p:=.row gb 162 0 [] [Fv g o 0] []) EO;have r2:=st.get (p:=.row g t o A [aa W.Al,aa W.size,ab a W.An.length c,aa cl,aa q,ab a2 hs.length c2] B) EO;obtain ⟨Fw, -,hw⟩:=(st.get (p:=.ow Bx 130 (ab a2 hs.length c2) hs F2) EO).2.read
  refine (Ak1 260 [Fv gb 0 0] [.cel gb 0 [Fv g o 0],.cel g o [aa W.Al,aa W.size,ab a W.An.length c,aa cl,aa q,ab a2 hs.length c2]] rfl hs a2 c2 Fw (aa n) (fun h=>gp W.Al h.Ab - gp W.Al n) (fun i j hij hj h=>?_) ER hl fun x hx w' hA=>?_).val w ?_
  ·rcases aY hij with h2|rfl
   ·have:=aX.1 hsr i j EM hj h2;omega
   ·exact h
  ·obtain ⟨m0,m1⟩:=Bb.1 (hser x hx);exact (Bay x n W.Al gb g o _ _ _ _ _ t0 t1 n0 n1 m0 m1).val w' hA
  ·intro p hp;simp only [aF,aM,bn] at hp;rcases hp with rfl|rfl|rfl
   ·exact ⟨EN,hw⟩
   ·exact ⟨EO,Hq r1⟩
   ·exact ⟨EO,Hq r2⟩) ?_
 rw [hs1.2];rw [hs1.1];exact AB
structure ReS where
 a:ai
 c:Nat
 a2:ai
 c2:Nat
 F:ak
 ae:ai
 ce:Nat
 Fe:ak
theorem Ac2 (W:Ax) (hs:List Hm) (p:Ar) (g t o:Nat) (A B:aj) (a a2:ai) (c c2:Nat) (cl q:Int) (F F2:ak) (hg:Cj ⟨W,cl,q,hs⟩=true) (n0:0<=p.Ab) (n1:p.Ab<=65535) (hps:p.data.size<=maxLen) :
  Fn prog 208 [Fv g o 0,.agg #[aa p.Bd,aa p.Ab,aa p.Al,aa p.Cy,af p.data]] [] [.row g t o A [aa W.Al,aa W.size,ab a W.An.length c,aa cl,aa q,ab a2 hs.length c2] B,.ow Bx 130 (ab a2 hs.length c2) hs F2,.ow Bc 9 (ab a W.An.length c) W.An F] (fun (_:ReS)=>True)
   (fun z=>.slice z.ae (Ib ⟨W,cl,q,hs⟩ p).length z.ce) (fun z=>[.row g t o A [aa W.Al,aa W.size,ab a W.An.length c,aa cl,aa q,.slice z.a2 (Hb ⟨W,cl,q,hs⟩ p.Ab).holds.length z.c2] B,.ow Bx 130 (.slice z.a2 (Hb ⟨W,cl,q,hs⟩ p.Ab).holds.length z.c2) (Hb ⟨W,cl,q,hs⟩ p.Ab).holds z.F,.ow Bc 9 (ab a W.An.length c) W.An F,.ow Ap 103 (.slice z.ae (Ib ⟨W,cl,q,hs⟩ p).length z.ce) (Ib ⟨W,cl,q,hs⟩ p) z.Fe]):=by
 obtain ⟨gw,hl,t0,t1,k0,k1,hm,hn,hu,hbb⟩:=M4 hg;have hsr:=(Dd.1 hg).2.2.2.2;dsimp only at gw hl t0 t1 k0 k1 hm hn hu hbb hsr;have hl2:hs.length<=1000000:=EM
 have hW:D9 W=true:=gw;refine enter func208 rfl ntmps208 fun w0=>?_;cases hb:E5 W p.Ab
 ·have e1:Hb ⟨W,cl,q,hs⟩ p.Ab=⟨W,cl,q,hs⟩:=by unfold Hb;dsimp only;rw [hb];rfl
  have e2:Ib ⟨W,cl,q,hs⟩ p=[Kd W]:=by unfold Ib;dsimp only;rw [hb];rfl
  rw [e1,e2];refine go ?_;intros;refine As [0,1] [] ?_;refine D7 0 1 2 3 ?_;refine Ek 4 5 ?_;refine dN 6 ?_;refine oC ?_;refine cb (fun w st=>by obtain ⟨Fw, -,hw⟩:=(st.get (p:=.ow Bc 9 (ab a W.An.length c) W.An F) EO).2.read;exact (Vy W p.Ab (.agg #[aa W.Al,aa W.size,ab a W.An.length c]) Fw t0 t1 n0 n1).val w (I0 ⟨_,rfl,_,rfl,hw⟩)) ?_;rw [hb];refine dk ?_;refine dt 7 ?_;refine dd ?_;refine go ?_;refine Bw (Ake W.Al W.size a W.An.length c t0 t1 EM) fun _ _=>?_;refine go ?_;intros
  refine Eo (xs:=[Kd W]) (Dj _ GH) ?_ EO;refine ret ⟨a,c,a2,c2,F2,_,_,_⟩ trivial rfl
 refine go ?_;intros;refine As [0,1] [] ?_;refine D7 0 1 2 3 ?_;refine Ek 4 5 ?_;refine dN 6 ?_;refine oC ?_;refine cb (fun w st=>by obtain ⟨Fw, -,hw⟩:=(st.get (p:=.ow Bc 9 (ab a W.An.length c) W.An F) EO).2.read;exact (Vy W p.Ab (.agg #[aa W.Al,aa W.size,ab a W.An.length c]) Fw t0 t1 n0 n1).val w (I0 ⟨_,rfl,_,rfl,hw⟩)) ?_;rw [hb];refine dk ?_;refine dt 7 ?_;refine dd ?_;refine go ?_;refine As [0,1] [] ?_;refine D7 0 1 2 3 ?_;refine D7 4 5 6 7 ?_;refine Ek 8 9 ?_;refine dt 10 ?_;refine dN 11 ?_;refine oC ?_;refine cb (fun w _=>Hz _ _ _ _ _ w t0 t1 EM) ?_
 refine dk ?_;refine dt 12 ?_;refine dN 13 ?_;apply In;rfl;rfl;rfl;rfl;exact Ik;exact Ie;intro _;refine dk ?_;refine dt 14 ?_;refine dd ?_;refine Ke ?_;intros;refine Eo (xs:=[Qn W p.Ab]) (Dj _ GH) ?_ EO;refine go ?_;refine Bw (Alf W hs p.Ab g t o A B a a2 c c2 cl q F2 t0 t1 n0 n1 hn hsr hl2) fun _ _=>?_;cases ht:Ld W.Al hs p.Ab
 ·have e1:Hb ⟨W,cl,q,hs⟩ p.Ab=⟨W,cl,q,Il hs (Fa W.Al hs p.Ab) ⟨p.Ab,cl+3⟩⟩:=by unfold Hb;dsimp only;rw [hb,ht];rfl
  have e2:Ib ⟨W,cl,q,hs⟩ p=[Qn W p.Ab]++[(C9 W p).1]:=by unfold Ib;dsimp only;rw [hb,ht];rfl
  rw [e1,e2];refine go ?_;refine As [0,3] [18] ?_;refine D7 0 1 2 3 ?_;refine D7 4 5 6 7 ?_;refine D7 8 9 10 11 ?_;refine Ek 12 13 ?_;refine dN 14 ?_;apply In;rfl;rfl;rfl;rfl;exact Ik;exact Ie;intro _;refine dk ?_;refine dN 15 ?_;refine oC ?_;refine Bw (An8 hs ⟨p.Ab,cl+3⟩ (Fa W.Al hs p.Ab) a2 c2 _ F2 (Wk _ _ _) hl2) fun z _=>?_;refine dk ?_;refine Ek 16 17 ?_;refine dN 18 ?_;refine oS ?_;refine Pg ?_;refine dd ?_;refine go ?_;refine As [1,3] [] ?_;refine D7 0 1 2 3 ?_;refine dt 4 ?_;refine dM 5 9 ?_ ?_
  ·refine oC ?_;refine cb (fun w st=>by obtain ⟨Fw, -,hw⟩:=(st.get (p:=.ow Bc 9 (ab a W.An.length c) W.An F) EO).2.read;exact (Acw W p (.agg #[aa W.Al,aa W.size,ab a W.An.length c]) Fw hps).val w (I0 ⟨_,rfl,_,rfl,hw⟩)) ?_;refine dk ?_;refine Ek 6 7 ?_;refine dt 8 ?_;refine dN 9 ?_;apply Cq;rfl;intro _;refine dk ?_;exact BX
  ·apply Cq;rfl;intro _;refine dk ?_;refine dN 5 ?_;refine oC ?_;refine cb (fun w st=>by obtain ⟨Fw, -,hw⟩:=(st.get (p:=.ow Bc 9 (ab a W.An.length c) W.An F) EO).2.read;exact (Acw W p (.agg #[aa W.Al,aa W.size,ab a W.An.length c]) Fw hps).val w (I0 ⟨_,rfl,_,rfl,hw⟩)) ?_;refine dk ?_;refine Ek 6 7 ?_;refine dt 8 ?_;exact BX
 ·have e1:Hb ⟨W,cl,q,hs⟩ p.Ab=⟨W,cl,q,hs⟩:=by unfold Hb;dsimp only;rw [hb,ht];rfl
  have e2:Ib ⟨W,cl,q,hs⟩ p=[Qn W p.Ab]:=by unfold Ib;dsimp only;rw [hb,ht];rfl
  rw [e1,e2];refine go ?_;refine ret ⟨a,c,a2,c2,F2,_,_,_⟩ trivial rfl
end Go.Proofs.YtmckdnddocfodaaGreatDoor
