/- Part 10 of the proof: 11 texts, one behind the other. -/
import Derived.Laws.StructEq
import Derived.Test.YtbmlecejkacpnaaGreatDoorRows
import Derived.MakeChecks
import Derived.Stop.LaidErr
import Derived.ProofKit
import Derived.OpenShut
import Derived.Test.YtbmlecejkacpnaaGreatDoorM9
open _root_.Go.Proofs.Tryz
set_option maxRecDepth 100000
set_option maxHeartbeats 8000000
set_option linter.all false
set_option linter.unusedVariables false
set_option linter.unusedSimpArgs false
namespace Go.Proofs.YtbmlecejkacpnaaGreatDoor
open Go.RowKit
structure DrS where
 x:NE
 z:NV
 a:Option Addr
 c:Nat
 F:List Nat
structure DrK where
 k:Nat
 z:NV
 a:Option Addr
 c:Nat
 F:List Nat
theorem rdQ {w:World} {t:TypeId} {a:Option Addr} {n c:Nat} {l:List (List As)} {F:List Nat} (h:(Pc.ow (Gt Al 108) t (.slice a n c) l F).P w):∃F',(Pc.sl (Ly Al (by decide)) (.slice a n c) l F').P w:=by
 obtain ⟨F', -,hs⟩:=h.2.sl (Sa (Me.refl Al) (by decide) _)
 exact ⟨F',by decide,hs⟩
theorem Ady (l:List (List As)) (a:Option Addr) (c:Nat) (F:List Nat) (hl:l.length≤8) (hq:∀q∈l,q.length≤6):Fn prog 55 [.slice a l.length c] [.sl (Ly Al (by decide)) (.slice a l.length c) l F] [] (fun (_:Unit)=>True) (fun _=>.int .i64 ((qd l:Nat):Int)) (fun _=>[]):=by
 refine enter func55 rfl ntmps55 fun w0=>?_
 refine go ?_;intros
 refine H2 [6,7] (fun k:Nat=>[(3,.int .i64 ((qd (l.take k):Nat):Int)),(8,.int .i64 (k:Nat))]) (fun k=>k≤l.length) (fun k=>l.length - k) 0 (Nat.zero_le _) fun k hk=>?_
 have h6:=Abw hq k
 refine go ?_;intros
 refine Bf rfl (fun h1=>?_) (fun h1=>?_)
 ·have hh:k < l.length:=by omega
  have h7:=hq l[k] (List.getElem_mem hh)
  refine Rm (E:=Al) (hz:=by decide) (xs:=l) k ?_
  rintro hi6 b6 o6 a11 c11 F11 rfl l11
  refine go ?_;intros
  rw [show ((qd (l.take k):Nat):Int)+(l[k].length:Int)=((qd (l.take (k+1)):Nat):Int) by rw [Anj hh];omega]
  refine Ct (k+1) hh (by show l.length - (k+1) < l.length - k;omega)
 ·obtain rfl:k=l.length:=by omega
  refine go ?_;intros
  refine ret () trivial ?_
  rw [List.take_length];rfl
theorem Aim {n:Eg} {s:I4} (hg:A8 n=true) (hs:Eo s=true):n.An.Ac.length=(E7 n (Bo n s)).An.Ac.length∧n.Af.length=(E7 n (Bo n s)).Af.length∧n.Ae.length=(E7 n (Bo n s)).Ae.length∧n.down.length=(E7 n (Bo n s)).down.length∧n.up.length=(E7 n (Bo n s)).up.length:=by
 cases e:Bo n s with
 | none=>exact ⟨rfl,rfl,rfl,rfl,rfl⟩
 | some r=>exact Abq hg (Ie hg hs e) (Lm e)
theorem Afi (n:Eg) (s:I4) (g:Nat) (a1:Option Addr) (c1:Nat) (F1:List Nat) (a2:Option Addr) (c2:Nat) (F2:List Nat) (a3:Option Addr) (c3:Nat) (F3:List Nat) (a4:Option Addr) (c4:Nat) (F4:List Nat) (a5:Option Addr) (c5:Nat) (F5:List Nat) (a6:Option Addr) (c6:Nat) (F6:List Nat) (a7:Option Addr) (c7:Nat) (F7:List Nat) (FT:List Nat) (hg:A8 n=true) (hs:Eo s=true) (hss:s.data.size≤maxLen) :
  Fn prog 36 [Eu g 0 0,.agg #[.int .i64 (s).C2,.int .i64 (s).node,.string (s).data]] [Mt FT] [.row g 39 0 [] [.slice a1 n.An.Ac.length c1,.int .i64 n.Ab.Aa.Ak,.int .i64 n.Ab.Aa.size,.slice a2 n.Ab.Aa.Aj.length c2,.int .i64 n.Ab.Ai,.int .i64 n.Ab.quiet,.slice a3 n.Ab.holds.length c3,.slice a4 n.Af.length c4,.slice a5 n.Ae.length c5,.slice a6 n.down.length c6,.slice a7 n.up.length c7] [],.ow Bd 3 (.slice a1 n.An.Ac.length c1) n.An.Ac F1,.ow A9 9 (.slice a2 n.Ab.Aa.Aj.length c2) n.Ab.Aa.Aj F2,.ow Bh 137 (.slice a3 n.Ab.holds.length c3) n.Ab.holds F3,.ow Bm 96 (.slice a4 n.Af.length c4) n.Af F4,.ow Bi 55 (.slice a5 n.Ae.length c5) n.Ae F5,.ow (Gt Al 108) 99 (.slice a6 n.down.length c6) n.down F6,.ow (Gt Al 108) 99 (.slice a7 n.up.length c7) n.up F7] (fun (_:NV × KA)=>True) (fun z=>.tuple #[.slice z.2.a (Uq (Bo n s)).length z.2.c,.bool (Bo n s).isSome]) (fun z=>[.row g 39 0 [] [.slice z.1.a1 (E7 n (Bo n s)).An.Ac.length z.1.c1,.int .i64 (E7 n (Bo n s)).Ab.Aa.Ak,.int .i64 (E7 n (Bo n s)).Ab.Aa.size,.slice z.1.a2 (E7 n (Bo n s)).Ab.Aa.Aj.length z.1.c2,.int .i64 (E7 n (Bo n s)).Ab.Ai,.int .i64 (E7 n (Bo n s)).Ab.quiet,.slice z.1.a3 (E7 n (Bo n s)).Ab.holds.length z.1.c3,.slice z.1.a4 (E7 n (Bo n s)).Af.length z.1.c4,.slice z.1.a5 (E7 n (Bo n s)).Ae.length z.1.c5,.slice z.1.a6 (E7 n (Bo n s)).down.length z.1.c6,.slice z.1.a7 (E7 n (Bo n s)).up.length z.1.c7] [],.ow Bd 3 (.slice z.1.a1 (E7 n (Bo n s)).An.Ac.length z.1.c1) (E7 n (Bo n s)).An.Ac z.1.F1,.ow A9 9 (.slice z.1.a2 (E7 n (Bo n s)).Ab.Aa.Aj.length z.1.c2) (E7 n (Bo n s)).Ab.Aa.Aj z.1.F2,.ow Bh 137 (.slice z.1.a3 (E7 n (Bo n s)).Ab.holds.length z.1.c3) (E7 n (Bo n s)).Ab.holds z.1.F3,.ow Bm 96 (.slice z.1.a4 (E7 n (Bo n s)).Af.length z.1.c4) (E7 n (Bo n s)).Af z.1.F4,.ow Bi 55 (.slice z.1.a5 (E7 n (Bo n s)).Ae.length z.1.c5) (E7 n (Bo n s)).Ae z.1.F5,.ow (Gt Al 108) 99 (.slice z.1.a6 (E7 n (Bo n s)).down.length z.1.c6) (E7 n (Bo n s)).down z.1.F6,.ow (Gt Al 108) 99 (.slice z.1.a7 (E7 n (Bo n s)).up.length z.1.c7) (E7 n (Bo n s)).up z.1.F7,.ow A9 9 (.slice z.2.a (Uq (Bo n s)).length z.2.c) (Uq (Bo n s)) z.2.F]):=by
 obtain ⟨k1,k2,k3,k4,k5⟩:=Aim hg hs
 have h:=Alg n s g a1 c1 F1 a2 c2 F2 a3 c3 F3 a4 c4 F4 a5 c5 F5 a6 c6 F6 a7 c7 F7 FT hg hs hss
 rw [←k1,←k2,←k3,←k4,←k5]
 exact h
theorem Aiq {n:Eg} (hg:A8 n=true) (hc:n.Ab.Ai < 9999):n.An.Ac.length=(Bp n).1.An.Ac.length∧n.Af.length=(Bp n).1.Af.length∧n.Ae.length=(Bp n).1.Ae.length∧n.down.length=(Bp n).1.down.length∧n.up.length=(Bp n).1.up.length:=Abq hg (O0 hg hc) (Pb _ _)
theorem Ap9 (n:Eg) (g:Nat) (a1:Option Addr) (c1:Nat) (F1:List Nat) (a2:Option Addr) (c2:Nat) (F2:List Nat) (a3:Option Addr) (c3:Nat) (F3:List Nat) (a4:Option Addr) (c4:Nat) (F4:List Nat) (a5:Option Addr) (c5:Nat) (F5:List Nat) (a6:Option Addr) (c6:Nat) (F6:List Nat) (a7:Option Addr) (c7:Nat) (F7:List Nat) (FT:List Nat) (hg:A8 n=true) (hc:n.Ab.Ai < 9999) :
  Fn prog 39 [Eu g 0 0] [Mt FT] [.row g 39 0 [] [.slice a1 n.An.Ac.length c1,.int .i64 n.Ab.Aa.Ak,.int .i64 n.Ab.Aa.size,.slice a2 n.Ab.Aa.Aj.length c2,.int .i64 n.Ab.Ai,.int .i64 n.Ab.quiet,.slice a3 n.Ab.holds.length c3,.slice a4 n.Af.length c4,.slice a5 n.Ae.length c5,.slice a6 n.down.length c6,.slice a7 n.up.length c7] [],.ow Bd 3 (.slice a1 n.An.Ac.length c1) n.An.Ac F1,.ow A9 9 (.slice a2 n.Ab.Aa.Aj.length c2) n.Ab.Aa.Aj F2,.ow Bh 137 (.slice a3 n.Ab.holds.length c3) n.Ab.holds F3,.ow Bm 96 (.slice a4 n.Af.length c4) n.Af F4,.ow Bi 55 (.slice a5 n.Ae.length c5) n.Ae F5,.ow (Gt Al 108) 99 (.slice a6 n.down.length c6) n.down F6,.ow (Gt Al 108) 99 (.slice a7 n.up.length c7) n.up F7] (fun (_:NV × KA)=>True) (fun z=>.slice z.2.a (Bp n).2.length z.2.c) (fun z=>[.row g 39 0 [] [.slice z.1.a1 (Bp n).1.An.Ac.length z.1.c1,.int .i64 (Bp n).1.Ab.Aa.Ak,.int .i64 (Bp n).1.Ab.Aa.size,.slice z.1.a2 (Bp n).1.Ab.Aa.Aj.length z.1.c2,.int .i64 (Bp n).1.Ab.Ai,.int .i64 (Bp n).1.Ab.quiet,.slice z.1.a3 (Bp n).1.Ab.holds.length z.1.c3,.slice z.1.a4 (Bp n).1.Af.length z.1.c4,.slice z.1.a5 (Bp n).1.Ae.length z.1.c5,.slice z.1.a6 (Bp n).1.down.length z.1.c6,.slice z.1.a7 (Bp n).1.up.length z.1.c7] [],.ow Bd 3 (.slice z.1.a1 (Bp n).1.An.Ac.length z.1.c1) (Bp n).1.An.Ac z.1.F1,.ow A9 9 (.slice z.1.a2 (Bp n).1.Ab.Aa.Aj.length z.1.c2) (Bp n).1.Ab.Aa.Aj z.1.F2,.ow Bh 137 (.slice z.1.a3 (Bp n).1.Ab.holds.length z.1.c3) (Bp n).1.Ab.holds z.1.F3,.ow Bm 96 (.slice z.1.a4 (Bp n).1.Af.length z.1.c4) (Bp n).1.Af z.1.F4,.ow Bi 55 (.slice z.1.a5 (Bp n).1.Ae.length z.1.c5) (Bp n).1.Ae z.1.F5,.ow (Gt Al 108) 99 (.slice z.1.a6 (Bp n).1.down.length z.1.c6) (Bp n).1.down z.1.F6,.ow (Gt Al 108) 99 (.slice z.1.a7 (Bp n).1.up.length z.1.c7) (Bp n).1.up z.1.F7,.ow A9 9 (.slice z.2.a (Bp n).2.length z.2.c) (Bp n).2 z.2.F]):=by
 obtain ⟨k1,k2,k3,k4,k5⟩:=Aiq hg hc
 have h:=Afv n g a1 c1 F1 a2 c2 F2 a3 c3 F3 a4 c4 F4 a5 c5 F5 a6 c6 F6 a7 c7 F7 FT hg hc
 rw [←k1,←k2,←k3,←k4,←k5]
 exact h
theorem Acf (n:Eg) (g:Nat) (a1:Option Addr) (c1:Nat) (F1:List Nat) (a2:Option Addr) (c2:Nat) (F2:List Nat) (a3:Option Addr) (c3:Nat) (F3:List Nat) (a4:Option Addr) (c4:Nat) (F4:List Nat) (a5:Option Addr) (c5:Nat) (F5:List Nat) (a6:Option Addr) (c6:Nat) (F6:List Nat) (a7:Option Addr) (c7:Nat) (F7:List Nat) (FT:List Nat) (hg:A8 n=true) :
  Fn prog 38 [Eu g 0 0] [Mt FT] [.row g 39 0 [] [.slice a1 n.An.Ac.length c1,.int .i64 n.Ab.Aa.Ak,.int .i64 n.Ab.Aa.size,.slice a2 n.Ab.Aa.Aj.length c2,.int .i64 n.Ab.Ai,.int .i64 n.Ab.quiet,.slice a3 n.Ab.holds.length c3,.slice a4 n.Af.length c4,.slice a5 n.Ae.length c5,.slice a6 n.down.length c6,.slice a7 n.up.length c7] [],.ow Bd 3 (.slice a1 n.An.Ac.length c1) n.An.Ac F1,.ow A9 9 (.slice a2 n.Ab.Aa.Aj.length c2) n.Ab.Aa.Aj F2,.ow Bh 137 (.slice a3 n.Ab.holds.length c3) n.Ab.holds F3,.ow Bm 96 (.slice a4 n.Af.length c4) n.Af F4,.ow Bi 55 (.slice a5 n.Ae.length c5) n.Ae F5,.ow (Gt Al 108) 99 (.slice a6 n.down.length c6) n.down F6,.ow (Gt Al 108) 99 (.slice a7 n.up.length c7) n.up F7] (fun (_:NV × KA)=>True) (fun z=>.slice z.2.a (O2 n).2.length z.2.c) (fun z=>[.row g 39 0 [] [.slice z.1.a1 (O2 n).1.An.Ac.length z.1.c1,.int .i64 (O2 n).1.Ab.Aa.Ak,.int .i64 (O2 n).1.Ab.Aa.size,.slice z.1.a2 (O2 n).1.Ab.Aa.Aj.length z.1.c2,.int .i64 (O2 n).1.Ab.Ai,.int .i64 (O2 n).1.Ab.quiet,.slice z.1.a3 (O2 n).1.Ab.holds.length z.1.c3,.slice z.1.a4 (O2 n).1.Af.length z.1.c4,.slice z.1.a5 (O2 n).1.Ae.length z.1.c5,.slice z.1.a6 (O2 n).1.down.length z.1.c6,.slice z.1.a7 (O2 n).1.up.length z.1.c7] [],.ow Bd 3 (.slice z.1.a1 (O2 n).1.An.Ac.length z.1.c1) (O2 n).1.An.Ac z.1.F1,.ow A9 9 (.slice z.1.a2 (O2 n).1.Ab.Aa.Aj.length z.1.c2) (O2 n).1.Ab.Aa.Aj z.1.F2,.ow Bh 137 (.slice z.1.a3 (O2 n).1.Ab.holds.length z.1.c3) (O2 n).1.Ab.holds z.1.F3,.ow Bm 96 (.slice z.1.a4 (O2 n).1.Af.length z.1.c4) (O2 n).1.Af z.1.F4,.ow Bi 55 (.slice z.1.a5 (O2 n).1.Ae.length z.1.c5) (O2 n).1.Ae z.1.F5,.ow (Gt Al 108) 99 (.slice z.1.a6 (O2 n).1.down.length z.1.c6) (O2 n).1.down z.1.F6,.ow (Gt Al 108) 99 (.slice z.1.a7 (O2 n).1.up.length z.1.c7) (O2 n).1.up z.1.F7,.ow A9 9 (.slice z.2.a (O2 n).2.length z.2.c) (O2 n).2 z.2.F]):=by
 have hwn:=Aov hg
 refine enter func38 rfl ntmps38 fun w0=>?_
 refine Bx A9 9 ?_
 refine go ?_;intros
 refine Ck [0] (fun s:DrS=>[(3,.slice s.a s.x.2.length s.c)]) (fun s=>[.row g 39 0 [] [.slice s.z.a1 s.x.1.An.Ac.length s.z.c1,.int .i64 s.x.1.Ab.Aa.Ak,.int .i64 s.x.1.Ab.Aa.size,.slice s.z.a2 s.x.1.Ab.Aa.Aj.length s.z.c2,.int .i64 s.x.1.Ab.Ai,.int .i64 s.x.1.Ab.quiet,.slice s.z.a3 s.x.1.Ab.holds.length s.z.c3,.slice s.z.a4 s.x.1.Af.length s.z.c4,.slice s.z.a5 s.x.1.Ae.length s.z.c5,.slice s.z.a6 s.x.1.down.length s.z.c6,.slice s.z.a7 s.x.1.up.length s.z.c7] [],.ow Bd 3 (.slice s.z.a1 s.x.1.An.Ac.length s.z.c1) s.x.1.An.Ac s.z.F1,.ow A9 9 (.slice s.z.a2 s.x.1.Ab.Aa.Aj.length s.z.c2) s.x.1.Ab.Aa.Aj s.z.F2,.ow Bh 137 (.slice s.z.a3 s.x.1.Ab.holds.length s.z.c3) s.x.1.Ab.holds s.z.F3,.ow Bm 96 (.slice s.z.a4 s.x.1.Af.length s.z.c4) s.x.1.Af s.z.F4,.ow Bi 55 (.slice s.z.a5 s.x.1.Ae.length s.z.c5) s.x.1.Ae s.z.F5,.ow (Gt Al 108) 99 (.slice s.z.a6 s.x.1.down.length s.z.c6) s.x.1.down s.z.F6,.ow (Gt Al 108) 99 (.slice s.z.a7 s.x.1.up.length s.z.c7) s.x.1.up s.z.F7,.ow A9 9 (.slice s.a s.x.2.length s.c) s.x.2 s.F]) (fun s=>Rj (n,[]) s.x∧drE s.x=O2 n) (fun s=>wN s.x.1) ⟨(n,[]),⟨a1,c1,F1,a2,c2,F2,a3,c3,F3,a4,c4,F4,a5,c5,F5,a6,c6,F6,a7,c7,F7⟩,none,0,[]⟩ ⟨.refl hg,rfl⟩ fun s hs0=>?_
 obtain ⟨x,⟨x1,w1,K1,x2,w2,K2,x3,w3,K3,x4,w4,K4,x5,w5,K5,x6,w6,K6,x7,w7,K7⟩,ea,ec,eF⟩:=s
 obtain ⟨fx,hR⟩:=hs0
 dsimp only at fx hR ⊢
 have hG:=A1.1 fx.g
 have h8:=Ex hG.t
 have hn8:=h8.n1
 have hn2:=h8.n0
 obtain ⟨q1,q2,q3,q4⟩:=Bz.1 hG.l
 obtain ⟨-, -,hd6,hu6⟩:=Ky fx.g
 have hd6:∀q∈x.1.down,q.length≤6:=fun q hq=>(Gk (hd6 q hq)).1
 have hu6:∀q∈x.1.up,q.length≤6:=fun q hq=>(Gk (hu6 q hq)).1
 have hb1:=Abw hd6 x.1.down.length
 have hb2:=Abw hu6 x.1.up.length
 rw [List.take_length] at hb1 hb2
 have hev:=fx.e
 simp only [List.length_nil] at hev
 refine go ?_;intros
 refine Aw [0] [] ?_
 refine dt 0 ?_
 refine dt 1 ?_
 refine dt 2 ?_
 refine dt 3 ?_
 refine dt 5 ?_
 refine dt 6 ?_
 refine dt 7 ?_
 refine dt 8 ?_
 refine dO 4 (by kernel_rfl) (by rw [List.getElem?_toArray];rfl) ?_
 apply At;rfl;kernel_rfl;exact Be
 refine cfr (fun w st=>by obtain ⟨Fq,hq⟩:=rdQ (st.get (p:=.ow (Gt Al 108) 99 (.slice x6 x.1.down.length w6) x.1.down K6) (by exact B8));exact ⟨_,H9 hq,rfl,Ady _ _ _ Fq (by omega) (by assumption)⟩) (fun _ _=>?_)
 refine Ar ?_
 refine dk ?_
 refine dO 9 (by kernel_rfl) (by rw [List.getElem?_toArray];rfl) ?_
 apply At;rfl;kernel_rfl;exact Be
 refine cfr (fun w st=>by obtain ⟨Fq,hq⟩:=rdQ (st.get (p:=.ow (Gt Al 108) 99 (.slice x7 x.1.up.length w7) x.1.up K7) (by exact B8));exact ⟨_,H9 hq,rfl,Ady _ _ _ Fq (by omega) (by assumption)⟩) (fun _ _=>?_)
 refine Ar ?_
 refine dk ?_
 refine dt 10 ?_
 refine dt 11 ?_
 refine dd ?_
 refine go ?_;intros
 refine Bf rfl (fun h1=>?_) (fun h1=>?_)
 ·have hq0:¬Zj x.1=0:=by unfold Zj;omega
  obtain ⟨fR,hw⟩:=Lg fx.g
  have hw:=hw hq0
  refine go ?_;intros
  refine Ck [0,24] (fun y:DrK=>[(3,.slice y.a (D6 x y.k).2.length y.c),(25,.int .i64 (y.k:Nat))]) (fun y=>[.row g 39 0 [] [.slice y.z.a1 (D6 x y.k).1.An.Ac.length y.z.c1,.int .i64 (D6 x y.k).1.Ab.Aa.Ak,.int .i64 (D6 x y.k).1.Ab.Aa.size,.slice y.z.a2 (D6 x y.k).1.Ab.Aa.Aj.length y.z.c2,.int .i64 (D6 x y.k).1.Ab.Ai,.int .i64 (D6 x y.k).1.Ab.quiet,.slice y.z.a3 (D6 x y.k).1.Ab.holds.length y.z.c3,.slice y.z.a4 (D6 x y.k).1.Af.length y.z.c4,.slice y.z.a5 (D6 x y.k).1.Ae.length y.z.c5,.slice y.z.a6 (D6 x y.k).1.down.length y.z.c6,.slice y.z.a7 (D6 x y.k).1.up.length y.z.c7] [],.ow Bd 3 (.slice y.z.a1 (D6 x y.k).1.An.Ac.length y.z.c1) (D6 x y.k).1.An.Ac y.z.F1,.ow A9 9 (.slice y.z.a2 (D6 x y.k).1.Ab.Aa.Aj.length y.z.c2) (D6 x y.k).1.Ab.Aa.Aj y.z.F2,.ow Bh 137 (.slice y.z.a3 (D6 x y.k).1.Ab.holds.length y.z.c3) (D6 x y.k).1.Ab.holds y.z.F3,.ow Bm 96 (.slice y.z.a4 (D6 x y.k).1.Af.length y.z.c4) (D6 x y.k).1.Af y.z.F4,.ow Bi 55 (.slice y.z.a5 (D6 x y.k).1.Ae.length y.z.c5) (D6 x y.k).1.Ae y.z.F5,.ow (Gt Al 108) 99 (.slice y.z.a6 (D6 x y.k).1.down.length y.z.c6) (D6 x y.k).1.down y.z.F6,.ow (Gt Al 108) 99 (.slice y.z.a7 (D6 x y.k).1.up.length y.z.c7) (D6 x y.k).1.up y.z.F7,.ow A9 9 (.slice y.a (D6 x y.k).2.length y.c) (D6 x y.k).2 y.F]) (fun y=>y.k≤x.1.An.Ac.length) (fun y=>x.1.An.Ac.length - y.k) ⟨0,⟨x1,w1,K1,x2,w2,K2,x3,w3,K3,x4,w4,K4,x5,w5,K5,x6,w6,K6,x7,w7,K7⟩,ea,ec,eF⟩ (Nat.zero_le _) fun y hy0=>?_
  obtain ⟨j,⟨x1,w1,K1,x2,w2,K2,x3,w3,K3,x4,w4,K4,x5,w5,K5,x6,w6,K6,x7,w7,K7⟩,ya,yc,yF⟩:=y
  dsimp only at hy0 ⊢
  have fJ:=Wp fx.g j hy0
  have fX:=fx.trans fJ
  generalize hX:D6 x j=X at fJ fX ⊢
  refine go ?_;intros
  refine Bf rfl (fun h2=>?_) (fun h2=>?_)
  ·have hj:j < x.1.An.Ac.length:=by omega
   have hXt:X.1.An.Ac.length=x.1.An.Ac.length:=by rw [fJ.t]
   have hG:=A1.1 fX.g
   obtain ⟨q1,q2,q3,q4⟩:=Bz.1 hG.l
   have hjd:j < X.1.down.length:=by omega
   have hsd:=Sm (n:=X.1) (i:=j) (by omega)
   rw [Nu hjd] at hsd
   have hz1:=Wl fX.g
   have hev2:=fX.e
   simp only [List.length_nil] at hev2
   refine go ?_;intros
   refine Va (xs:=X.1.down) (m:=1) j ?_ rfl (by omega)
   rintro _ g6 A6 cs6 B6 p6 q6 G6 Gi6 H6 e6 - hc6 hH6
   rw [e6]
   refine Sk ?_
   rintro a6 c6 ev6 l6
   obtain rfl:cs6=[.slice a6 X.1.down[j].length c6]:=by simpa using ev6
   refine go ?_;intros
   refine Bf rfl (fun h4=>?_) (fun h4=>?_)
   ·have j1:1≤j:=by
     rcases Nat.eq_zero_or_pos j with rfl|h
     ·have:=hz1.1;rw [Nu hjd] at this;omega
     ·exact h
    have ok:=Apq j1 (by omega)
    refine Jh X.1.down[j] ?_
    refine Q5 _ hH6 rfl fun J6=>?_
    rw [List.set_getElem_self]
    refine go ?_;intros
    refine cf (Afi X.1 (Hg j) g x1 w1 K1 x2 w2 K2 x3 w3 K3 x4 w4 K4 x5 w5 K5 _ w6 J6 x7 w7 K7 FT fX.g ok (Nat.zero_le _)) fun z _=>?_
    refine Ar ?_
    have hfe:=fX.trans (Aqa fX.g (i:=j) (by omega))
    have hfe2:=hfe.e
    have htl:(Kt X (Hg j)).2.length=X.2.length+(Uq (Bo X.1 (Hg j))).length:=List.length_append
    simp only [List.length_nil] at hfe2
    refine Ay (E:=A9) (xs:=Uq (Bo X.1 (Hg j))) fun F8=>?_
    refine go ?_;intros
    apply wO
    refine Ku (E:=A9) (xs:=X.2) (ys:=Uq (Bo X.1 (Hg j))) Dh E4 fun a9 c9 F9=>?_
    generalize hX1:Kt X (Hg j)=X1 at hfe hfe2 htl
    rw [show X.2++Uq (Bo X.1 (Hg j))=X1.2 by rw [←hX1];rfl,show E7 X.1 (Bo X.1 (Hg j))=X1.1 by rw [←hX1];rfl]
    have fX1:Rj X X1:=by rw [←hX1];exact Aqa fX.g (by rw [hXt];exact hj)
    have hG1:=A1.1 fX1.g
    obtain ⟨r1,r2,r3,r4⟩:=Bz.1 hG1.l
    have hX1t:X1.1.An.Ac.length=x.1.An.Ac.length:=by rw [fX1.t];exact hXt
    have hju:j < X1.1.up.length:=by omega
    have hsu:=Q1 (n:=X1.1) (i:=j) (by omega)
    rw [Nu hju] at hsu
    have hz0:=Wl fX1.g
    refine go ?_;intros
    refine Va (xs:=X1.1.up) (m:=1) j ?_ rfl (by omega)
    rintro _ g7 A7 cs7 B7 p7 q7 G7 Gi7 H7 e7 - hc7 hH7
    rw [e7]
    refine Sk ?_
    rintro a7 c7 ev7 l7
    obtain rfl:cs7=[.slice a7 X1.1.up[j].length c7]:=by simpa using ev7
    refine go ?_;intros
    refine Bf rfl (fun h3=>?_) (fun h3=>?_)
    ·have j1:1≤j:=by
      rcases Nat.eq_zero_or_pos j with rfl|h
      ·have:=hz0.2;rw [Nu hju] at this;omega
      ·exact h
     have ok:=Anc j1 (by omega)
     have hnx:D6 x (j+1)=(E7 X1.1 (Bo X1.1 (Jb j)),X1.2):=by
      show Kt (Kt (D6 x j) (Hg j)) (Jb j)=_
      rw [hX,hX1]
      exact Prod.ext rfl (Aqb fX1.g (i:=j) (by omega)).2
     refine Jh X1.1.up[j] ?_
     refine Q5 _ hH7 rfl fun J7=>?_
     rw [List.set_getElem_self]
     refine go ?_;intros
     refine cf (Afi X1.1 (Jb j) g z.1.a1 z.1.c1 z.1.F1 z.1.a2 z.1.c2 z.1.F2 z.1.a3 z.1.c3 z.1.F3 z.1.a4 z.1.c4 z.1.F4 z.1.a5 z.1.c5 z.1.F5 z.1.a6 z.1.c6 z.1.F6 _ z.1.c7 J7 FT fX1.g ok (Nat.zero_le _)) fun y _=>?_
     refine Ar ?_
     refine go ?_;intros
     refine Ct ⟨j+1,⟨y.1.a1,y.1.c1,y.1.F1,y.1.a2,y.1.c2,y.1.F2,y.1.a3,y.1.c3,y.1.F3,y.1.a4,y.1.c4,y.1.F4,y.1.a5,y.1.c5,y.1.F5,y.1.a6,y.1.c6,y.1.F6,y.1.a7,y.1.c7,y.1.F7⟩,a9,c9,F9⟩ (by show j+1≤_;omega) (by show x.1.An.Ac.length - (j+1) < x.1.An.Ac.length - j;omega) (by dsimp only;rw [hnx];exact frE) (by dsimp only;rw [hnx];exact hsE)
    ·have hnx:D6 x (j+1)=X1:=by
      show Kt (Kt (D6 x j) (Hg j)) (Jb j)=_
      rw [hX,hX1]
      exact If (by rw [hsu,if_pos (by omega)])
     refine Jh X1.1.up[j] ?_
     refine Q5 _ hH7 rfl fun J7=>?_
     rw [List.set_getElem_self]
     refine go ?_;intros
     refine Ct ⟨j+1,⟨z.1.a1,z.1.c1,z.1.F1,z.1.a2,z.1.c2,z.1.F2,z.1.a3,z.1.c3,z.1.F3,z.1.a4,z.1.c4,z.1.F4,z.1.a5,z.1.c5,z.1.F5,z.1.a6,z.1.c6,z.1.F6,_,z.1.c7,J7⟩,a9,c9,F9⟩ (by show j+1≤_;omega) (by show x.1.An.Ac.length - (j+1) < x.1.An.Ac.length - j;omega) (by dsimp only;rw [hnx];exact frE) (by dsimp only;rw [hnx];exact hsE)
   ·have htn:Kt X (Hg j)=X:=If (by rw [hsd,if_pos (by omega)])
    refine Jh X.1.down[j] ?_
    refine Q5 _ hH6 rfl fun J6=>?_
    rw [List.set_getElem_self]
    obtain ⟨X1,hX1⟩:∃X1,Kt X (Hg j)=X1:=⟨_,rfl⟩
    have hXX:X1=X:=by rw [←hX1,htn]
    subst hXX
    have fX1:Rj X1 X1:=.refl fX.g
    have hG1:=A1.1 fX1.g
    obtain ⟨r1,r2,r3,r4⟩:=Bz.1 hG1.l
    have hX1t:X1.1.An.Ac.length=x.1.An.Ac.length:=by rw [fX1.t];exact hXt
    have hju:j < X1.1.up.length:=by omega
    have hsu:=Q1 (n:=X1.1) (i:=j) (by omega)
    rw [Nu hju] at hsu
    have hz0:=Wl fX1.g
    refine go ?_;intros
    refine Va (xs:=X1.1.up) (m:=1) j ?_ rfl (by omega)
    rintro _ g7 A7 cs7 B7 p7 q7 G7 Gi7 H7 e7 - hc7 hH7
    rw [e7]
    refine Sk ?_
    rintro a7 c7 ev7 l7
    obtain rfl:cs7=[.slice a7 X1.1.up[j].length c7]:=by simpa using ev7
    refine go ?_;intros
    refine Bf rfl (fun h3=>?_) (fun h3=>?_)
    ·have j1:1≤j:=by
      rcases Nat.eq_zero_or_pos j with rfl|h
      ·have:=hz0.2;rw [Nu hju] at this;omega
      ·exact h
     have ok:=Anc j1 (by omega)
     have hnx:D6 x (j+1)=(E7 X1.1 (Bo X1.1 (Jb j)),X1.2):=by
      show Kt (Kt (D6 x j) (Hg j)) (Jb j)=_
      rw [hX,hX1]
      exact Prod.ext rfl (Aqb fX1.g (i:=j) (by omega)).2
     refine Jh X1.1.up[j] ?_
     refine Q5 _ hH7 rfl fun J7=>?_
     rw [List.set_getElem_self]
     refine go ?_;intros
     refine cf (Afi X1.1 (Jb j) g x1 w1 K1 x2 w2 K2 x3 w3 K3 x4 w4 K4 x5 w5 K5 _ w6 J6 _ w7 J7 FT fX1.g ok (Nat.zero_le _)) fun y _=>?_
     refine Ar ?_
     refine go ?_;intros
     refine Ct ⟨j+1,⟨y.1.a1,y.1.c1,y.1.F1,y.1.a2,y.1.c2,y.1.F2,y.1.a3,y.1.c3,y.1.F3,y.1.a4,y.1.c4,y.1.F4,y.1.a5,y.1.c5,y.1.F5,y.1.a6,y.1.c6,y.1.F6,y.1.a7,y.1.c7,y.1.F7⟩,ya,yc,yF⟩ (by show j+1≤_;omega) (by show x.1.An.Ac.length - (j+1) < x.1.An.Ac.length - j;omega) (by dsimp only;rw [hnx];exact frE) (by dsimp only;rw [hnx];exact hsE)
    ·have hnx:D6 x (j+1)=X1:=by
      show Kt (Kt (D6 x j) (Hg j)) (Jb j)=_
      rw [hX,hX1]
      exact If (by rw [hsu,if_pos (by omega)])
     refine Jh X1.1.up[j] ?_
     refine Q5 _ hH7 rfl fun J7=>?_
     rw [List.set_getElem_self]
     refine go ?_;intros
     refine Ct ⟨j+1,⟨x1,w1,K1,x2,w2,K2,x3,w3,K3,x4,w4,K4,x5,w5,K5,_,w6,J6,_,w7,J7⟩,ya,yc,yF⟩ (by show j+1≤_;omega) (by show x.1.An.Ac.length - (j+1) < x.1.An.Ac.length - j;omega) (by dsimp only;rw [hnx];exact frE) (by dsimp only;rw [hnx];exact hsE)
  ·obtain rfl:j=x.1.An.Ac.length:=by omega
   have hX:=hX
   rw [Afc fx.g] at hX
   refine go ?_;intros
   refine Ct ⟨X,⟨x1,w1,K1,x2,w2,K2,x3,w3,K3,x4,w4,K4,x5,w5,K5,x6,w6,K6,x7,w7,K7⟩,ya,yc,yF⟩ ⟨fX,by rw [←hR,Acu fx.g hq0,hX]⟩ (by show wN X.1 < wN x.1;rw [←hX];exact hw)
 ·have hq0:Zj x.1=0:=by unfold Zj;omega
  rw [X4 hq0] at hR
  rw [hR]
  refine go ?_;intros
  refine ret (⟨x1,w1,K1,x2,w2,K2,x3,w3,K3,x4,w4,K4,x5,w5,K5,x6,w6,K6,x7,w7,K7⟩,⟨0,ea,ec,eF⟩) trivial rfl
end Go.Proofs.YtbmlecejkacpnaaGreatDoor
namespace Go.Proofs.YtbmlecejkacpnaaGreatDoor

open Go.RowKit
end Go.Proofs.YtbmlecejkacpnaaGreatDoor
namespace Go.Proofs.YtbmlecejkacpnaaGreatDoor
open Go.RowKit
structure DqS where
 x:NE
 b:Bool
 cs:List Value
 F:List Nat
 a:Option Addr
 c:Nat
 Fe:List Nat
structure DqK where
 k:Nat
 cs:List Value
 F:List Nat
 a:Option Addr
 c:Nat
 Fe:List Nat
structure FnS where
 k:Nat
 z:NV
 a:Option Addr
 c:Nat
 F:List Nat
theorem Ag5 {n:Eg} {r:Int} (hok:Uo n r=true) {k:Nat} (hk:(k:Int)≤r):A8 (Cc n k).1=true∧(Cc n k).1.Ab.Ai=n.Ab.Ai+(k:Int)∧(Cc n k).2.length≤420000000000:=by
 unfold Uo Hq at hok
 simp only [Bool.and_eq_true,decide_eq_true_eq] at hok
 obtain ⟨⟨g,h1,h2⟩,h3⟩:=hok
 obtain ⟨a, -,b,c⟩:=Ug g k (by omega)
 exact ⟨a,b,by omega⟩
theorem Ac1 (n:Eg) (k:Nat):Cc n (k+1)=((O2 (Bp (Cc n k).1).1).1,(Cc n k).2++(Bp (Cc n k).1).2++(O2 (Bp (Cc n k).1).1).2):=rfl
theorem Ajt {n:Eg} (h1:A8 n=true) (hc:n.Ab.Ai < 9999):A8 (Bp n).1=true∧(Bp n).2.length≤320000∧(O2 (Bp n).1).2.length≤6720000000:=by
 have t1:=O0 h1 hc
 have hn8:=(Ex (A1.1 h1).t).n1
 have hn2:=(Ex (A1.1 h1).t).n0
 have t4:(Bp n).2.length≤40000 * (n.An.Ac.length - 1):=Uu h1 hc _ (by omega)
 exact ⟨t1,by omega,Abh t1⟩
theorem Acc (n:Eg) (r:Int) (v:Value) (F FT:List Nat):Fn prog 11 [v,.int .i64 r] [.isv Pp v n F,Mt FT] [] (fun (_:Wu)=>True) (fun z=>.tuple #[.agg z.cs.toArray,.slice z.a (Ec n r).2.1.length z.c,.bool (Ec n r).2.2]) (fun z=>[.own Aek (.agg z.cs.toArray) (Ec n r).1 z.F,.ow A9 9 (.slice z.a (Ec n r).2.1.length z.c) (Ec n r).2.1 z.Fe]):=by
 refine enter func11 rfl ntmps11 fun w0=>?_
 refine Hf ?_
 rintro a1 c1 F1 a2 c2 F2 a3 c3 F3 a4 c4 F4 a5 c5 F5 a6 c6 F6 a7 c7 F7 rfl l1 l2 l3 l4 l5 l6 l7
 refine Bx Bd 3 ?_
 refine Bx A9 9 ?_
 refine Bx Bh 137 ?_
 refine Bx Bm 96 ?_
 refine Bx Bi 55 ?_
 refine Bx (Gt Al 108) 99 ?_
 refine Bx (Gt Al 108) 99 ?_
 refine L4 Lz ?_
 refine Bx A9 9 ?_
 refine go ?_;intros
 refine cf (T6 n _ F) fun _ _=>?_
 refine Ar ?_
 cases g1:A8 n
 ·rw [show Ec n r=(Lz,[],false) by unfold Ec Uo;rw [g1];rfl]
  refine go ?_;intros
  refine ret (⟨[.slice none 0 0,.int .i64 0,.int .i64 0,.slice none 0 0,.int .i64 0,.int .i64 0,.slice none 0 0,.slice none 0 0,.slice none 0 0,.slice none 0 0,.slice none 0 0],_,none,0,[]⟩:Wu) trivial rfl
 refine go ?_;intros
 refine ce (fun w st=>Hz r 0 60 w) ?_
 cases g2:Hq 0 r 60
 ·rw [show Ec n r=(Lz,[],false) by unfold Ec Uo;rw [g1,g2];rfl]
  refine go ?_;intros
  refine ret (⟨[.slice none 0 0,.int .i64 0,.int .i64 0,.slice none 0 0,.int .i64 0,.int .i64 0,.slice none 0 0,.slice none 0 0,.slice none 0 0,.slice none 0 0,.slice none 0 0],_,none,0,[]⟩:Wu) trivial rfl
 have hr:0≤r∧r≤60:=by unfold Hq at g2;simpa using g2
 have hck:=Qc (A1.1 g1).s
 refine go ?_;intros
 refine Bf rfl (fun h3=>?_) (fun h3=>?_)
 ·rw [show Ec n r=(Lz,[],false) by unfold Ec Uo;rw [g1,g2,decide_eq_false (show ¬n.Ab.Ai+r≤9999 by omega)];rfl]
  refine go ?_;intros
  refine ret (⟨[.slice none 0 0,.int .i64 0,.int .i64 0,.slice none 0 0,.int .i64 0,.int .i64 0,.slice none 0 0,.slice none 0 0,.slice none 0 0,.slice none 0 0,.slice none 0 0],_,none,0,[]⟩:Wu) trivial rfl
 have hok:Uo n r=true:=by unfold Uo;rw [g1,g2,decide_eq_true (show n.Ab.Ai+r≤9999 by omega)];rfl
 have hres:Ec n r=((Cc n r.toNat).1,(Cc n r.toNat).2,true):=by unfold Ec;rw [hok,if_pos rfl]
 rw [hres]
 refine go ?_;intros
 refine cf (Ace n _ F (S0 g1)) fun z _=>?_
 refine Ar ?_
 refine go ?_;intros
 rename_i g
 refine cf (Acf n g z.a1 z.c1 z.F1 z.a2 z.c2 z.F2 z.a3 z.c3 z.F3 z.a4 z.c4 z.F4 z.a5 z.c5 z.F5 z.a6 z.c6 z.F6 z.a7 z.c7 z.F7 FT g1) fun y _=>?_
 refine Ar ?_
 refine go ?_;intros
 refine Ck [1,4,7,29] (fun s:FnS=>[(8,.slice s.a (Cc n s.k).2.length s.c),(30,.int .i64 (s.k:Nat))]) (fun s=>[.row g 39 0 [] [.slice s.z.a1 (Cc n s.k).1.An.Ac.length s.z.c1,.int .i64 (Cc n s.k).1.Ab.Aa.Ak,.int .i64 (Cc n s.k).1.Ab.Aa.size,.slice s.z.a2 (Cc n s.k).1.Ab.Aa.Aj.length s.z.c2,.int .i64 (Cc n s.k).1.Ab.Ai,.int .i64 (Cc n s.k).1.Ab.quiet,.slice s.z.a3 (Cc n s.k).1.Ab.holds.length s.z.c3,.slice s.z.a4 (Cc n s.k).1.Af.length s.z.c4,.slice s.z.a5 (Cc n s.k).1.Ae.length s.z.c5,.slice s.z.a6 (Cc n s.k).1.down.length s.z.c6,.slice s.z.a7 (Cc n s.k).1.up.length s.z.c7] [],.ow Bd 3 (.slice s.z.a1 (Cc n s.k).1.An.Ac.length s.z.c1) (Cc n s.k).1.An.Ac s.z.F1,.ow A9 9 (.slice s.z.a2 (Cc n s.k).1.Ab.Aa.Aj.length s.z.c2) (Cc n s.k).1.Ab.Aa.Aj s.z.F2,.ow Bh 137 (.slice s.z.a3 (Cc n s.k).1.Ab.holds.length s.z.c3) (Cc n s.k).1.Ab.holds s.z.F3,.ow Bm 96 (.slice s.z.a4 (Cc n s.k).1.Af.length s.z.c4) (Cc n s.k).1.Af s.z.F4,.ow Bi 55 (.slice s.z.a5 (Cc n s.k).1.Ae.length s.z.c5) (Cc n s.k).1.Ae s.z.F5,.ow (Gt Al 108) 99 (.slice s.z.a6 (Cc n s.k).1.down.length s.z.c6) (Cc n s.k).1.down s.z.F6,.ow (Gt Al 108) 99 (.slice s.z.a7 (Cc n s.k).1.up.length s.z.c7) (Cc n s.k).1.up s.z.F7,.ow A9 9 (.slice s.a (Cc n s.k).2.length s.c) (Cc n s.k).2 s.F]) (fun s=>(s.k:Int)≤r) (fun s=>r.toNat - s.k) ⟨0,y.1,y.2.a,y.2.c,y.2.F⟩ (by show ((0:Nat):Int)≤r;omega) fun s hs0=>?_
 obtain ⟨k,⟨x1,w1,K1,x2,w2,K2,x3,w3,K3,x4,w4,K4,x5,w5,K5,x6,w6,K6,x7,w7,K7⟩,ea,ec,eF⟩:=s
 dsimp only at hs0 ⊢
 obtain ⟨gk,ck,lk⟩:=Ag5 hok hs0
 refine go ?_;intros
 refine Bf rfl (fun h4=>?_) (fun h4=>?_)
 ·obtain ⟨gt,lt,ld⟩:=Ajt gk (by omega)
  refine go ?_;intros
  refine cf (Ap9 (Cc n k).1 g x1 w1 K1 x2 w2 K2 x3 w3 K3 x4 w4 K4 x5 w5 K5 x6 w6 K6 x7 w7 K7 FT gk (by omega)) fun u _=>?_
  refine Ar ?_
  refine Ay (E:=A9) (xs:=(Bp (Cc n k).1).2) fun F8=>?_
  refine go ?_;intros
  apply wO
  refine Ku (E:=A9) (xs:=(Cc n k).2) (ys:=(Bp (Cc n k).1).2) Dh E4 fun a9 c9 F9=>?_
  refine go ?_;intros
  refine cf (Acf (Bp (Cc n k).1).1 g u.1.a1 u.1.c1 u.1.F1 u.1.a2 u.1.c2 u.1.F2 u.1.a3 u.1.c3 u.1.F3 u.1.a4 u.1.c4 u.1.F4 u.1.a5 u.1.c5 u.1.F5 u.1.a6 u.1.c6 u.1.F6 u.1.a7 u.1.c7 u.1.F7 FT gt) fun y _=>?_
  refine Ar ?_
  refine Ay (E:=A9) (xs:=(O2 (Bp (Cc n k).1).1).2) fun F7=>?_
  refine go ?_;intros
  apply wO
  have hl:((Cc n k).2++(Bp (Cc n k).1).2).length=(Cc n k).2.length+(Bp (Cc n k).1).2.length:=List.length_append
  refine Ku (E:=A9) (xs:=(Cc n k).2++(Bp (Cc n k).1).2) (ys:=(O2 (Bp (Cc n k).1).1).2) Dh E4 fun a8 c8 F6=>?_
  refine go ?_;intros
  refine Ct ⟨k+1,y.1,a8,c8,F6⟩ (by show ((k+1:Nat):Int)≤r;omega) (by show r.toNat - (k+1) < r.toNat - k;omega) (by dsimp only;rw [Ac1];exact frE) (by dsimp only;rw [Ac1];exact hsE)
 ·rw [show r.toNat=k by omega]
  refine go ?_;intros
  refine L4 (Cc n k).1 ?_
  refine ret (⟨[.slice x1 (Cc n k).1.An.Ac.length w1,.int .i64 (Cc n k).1.Ab.Aa.Ak,.int .i64 (Cc n k).1.Ab.Aa.size,.slice x2 (Cc n k).1.Ab.Aa.Aj.length w2,.int .i64 (Cc n k).1.Ab.Ai,.int .i64 (Cc n k).1.Ab.quiet,.slice x3 (Cc n k).1.Ab.holds.length w3,.slice x4 (Cc n k).1.Af.length w4,.slice x5 (Cc n k).1.Ae.length w5,.slice x6 (Cc n k).1.down.length w6,.slice x7 (Cc n k).1.up.length w7],_,_,_,_⟩:Wu) trivial rfl
structure FqS where
 k:Nat
 cs:List Value
 F:List Nat
 a:Option Addr
 c:Nat
 Fe:List Nat
structure RnS where
 i:Nat
 x:NE
 z:NV
 a:Option Addr
 c:Nat
 F:List Nat
structure RqS where
 i:Nat
 x:NE
 cs:List Value
 F:List Nat
 a:Option Addr
 c:Nat
 Fe:List Nat
end Go.Proofs.YtbmlecejkacpnaaGreatDoor
namespace Go.Proofs.YtbmlecejkacpnaaGreatDoor

open Go.RowKit
open Go.RowKit
open Go.RowKit
end Go.Proofs.YtbmlecejkacpnaaGreatDoor
namespace Go.Proofs.YtbmlecejkacpnaaGreatDoor
open Go.RowKit
theorem Asf (b:Bool):decide (¬b=b)=false:=by simp
theorem Apo {t:Mu} {f y:Int} (h:(De t f y).2=true):(De t f y).1=Mk t f y∧A8 (Mk t f y)=true∧(0≤f∧f≤65535):=by
 have h1:=Ah5 h
 have e:(De t f y).1=Mk t f y:=by
  unfold De at h ⊢
  split
  ·rfl
  ·rename_i h2;rw [if_neg h2] at h;cases h
 rw [e] at h1
 refine ⟨e,h1,?_⟩
 have:=(Dw.1 (Ej.1 (A1.1 h1).s).1).1
 exact this
theorem Agi {n M:Eg} {s:I4} {es:List ByteArray} (h:Av n s=(M,es,true)):Eo s=true∧Bo n s=some (M,es):=by
 unfold Av at h
 split at h
 ·rename_i hg
  rw [Bool.and_eq_true] at hg
  cases e:Bo n s with
  | none=>rw [e] at h;simp at h
  | some y=>rw [e] at h;simp only [Prod.mk.injEq,and_true] at h;rw [←h.1,←h.2];exact ⟨hg.2,rfl⟩
 ·simp at h
theorem Ad6 {n:Eg} {s:I4} {y:NE} (e:Bo n s=some y):y.1.Ab.Ai≤n.Ab.Ai+1:=by
 unfold Bo at e
 split at e
 ·cases e
  show n.Ab.Ai≤_
  omega
 ·split at e
  ·split at e
   ·cases e
   ·cases e
    show (Bb _ _).1.Ab.Ai≤_
    rw [Vz]
    exact Int.le_refl _
  ·have hp:(Ei n s).Ab=n.Ab:=by unfold Ei;split <;> rfl
   unfold Cs at e
   split at e
   ·cases e
   ·split at e
    ·cases e
    ·split at e
     ·cases e
      rw [Aoe,hp];omega
     ·split at e
      ·cases e
       rw [Aof,hp];omega
      ·cases e
       rw [hp];omega
theorem Acx {e:ByteArray} (h:(0:Int).toNat < e.size):Aet e=((e[(0:Int).toNat]'h).toNat:Int) - 48:=by
 unfold Aet
 have h2:0 < e.data.toList.length:=by rw [Aij];exact h
 rw [Nu h2 0];rfl
theorem Aas {i m:Nat} {E:List ByteArray} (h:m < E.length):Kr i (E.take (m+1))=Kr i (E.take m)++(if Aet E[m]=((i:Nat):Int) then [E[m].extract 2 E[m].size] else []):=by
 rw [List.take_succ_eq_append_getElem h,Adq]
 congr 1
 unfold Kr
 by_cases e:Aet E[m]=((i:Nat):Int)
 ·rw [if_pos e,List.filter_cons,if_pos (decide_eq_true e)];rfl
 ·rw [if_neg e,List.filter_cons,if_neg (by simpa using e)];rfl
theorem Adr (i:Nat) (E:List ByteArray):(Kr i E).length≤E.length:=by unfold Kr;rw [List.length_map];exact List.length_filter_le _ _
theorem EvW.two {E:List ByteArray} (h:EvW E):∀e∈E,2≤e.size:=fun e he=>by
 obtain ⟨i,x, -,h7,rfl⟩:=h e he
 exact (Zb h7 x).2
def Ae0 (L:List ByteArray):Bool:=L.any fun e=>decide (e=Amv)
theorem Aac (L:List ByteArray) (x:ByteArray):Ae0 (L++[x])=(Ae0 L || decide (x=Amv)):=by unfold Ae0;rw [List.any_append];simp
theorem Ajz {L:List ByteArray} (h:Ae0 L=false):¬Amv∈L:=fun hm=>by
 have:=List.any_eq_false.1 h _ hm
 simp at this
structure DlS where
 i:Nat
 n:Eg
 cs:List Value
 F:List Nat
 S:List ByteArray
 sa:Option Addr
 sc:Nat
 sF:List Nat
 E:List ByteArray
 ea:Option Addr
 ec:Nat
 eF:List Nat
structure DlC (l:List I4) (t:Mu) (f:Int) (z:DlS):Prop where
 i:z.i≤l.length
 g:A8 z.n=true
 j:Xv z.S f z.n z.E
 t:z.n.An=t
 s:z.S.length≤z.i
 c:z.n.Ab.Ai≤((z.i:Nat):Int)
 e:z.E.length≤400000 * z.i
structure DmS where
 m:Nat
 J:Bool
 a:Option Addr
 c:Nat
 F:List Nat
theorem Aer (v:Value) (Bl:List Int) (G FT:List Nat):Fn prog 3 [v] [.sl Gs v Bl G,Mt FT] [] (fun (_:Unit)=>True) (fun _=>.bool true) (fun _=>[]):=by
 refine enter func3 rfl ntmps3 fun w0=>?_
 refine go ?_;intros
 refine cb (fun w st=>(Aqc v Bl G).val w (H9 (st.get (p:=.sl Gs v Bl G) (by simp)))) ?_
 refine go ?_;intros
 refine Bf rfl (fun h=>?_) (fun h=>?_)
 ·refine go ?_;intros
  refine ret () trivial rfl
 refine go ?_;intros
 refine cf (Aeh v Bl G) fun z hz=>?_
 refine Ar ?_
 obtain ⟨tl,ta,tc,tF,f,y⟩:=z
 dsimp only at hz ⊢
 refine go ?_;intros
 have hP:=Ai6 ⟨tl⟩ f y (.agg #[.slice ta tl.length tc]) tF
 have hQ:=Ut ⟨tl⟩ f y (.agg #[.slice ta tl.length tc]) tF
 have hn:=@Apo ⟨tl⟩ f y
 obtain ⟨M,b,e⟩:∃M b,De ⟨tl⟩ f y=(M,b):=⟨_,_,rfl⟩
 rw [e] at hP hQ hn
 dsimp only at hP hQ hn
 refine cf hP fun p9 _=>?_
 refine Ar ?_
 obtain ⟨pcs,pF⟩:=p9
 dsimp only
 refine Mq Qe fun F5=>?_
 refine Hf (x:=M) ?_
 rintro e1 f1 K1 e2 f2 K2 e3 f3 K3 e4 f4 K4 e5 f5 K5 e6 f6 K6 e7 f7 K7 ev - - - - - - -
 obtain rfl:pcs=[.slice e1 M.An.Ac.length f1,.int .i64 M.Ab.Aa.Ak,.int .i64 M.Ab.Aa.size,.slice e2 M.Ab.Aa.Aj.length f2,.int .i64 M.Ab.Ai,.int .i64 M.Ab.quiet,.slice e3 M.Ab.holds.length f3,.slice e4 M.Af.length f4,.slice e5 M.Ae.length f5,.slice e6 M.down.length f6,.slice e7 M.up.length f7]:=by simpa using ev
 clear ev
 refine go ?_;intros
 rename_i gn
 refine cf hQ fun p9 _=>?_
 refine Ar ?_
 obtain ⟨qcs,qF⟩:=p9
 dsimp only
 refine Mq Qe fun F6=>?_
 refine Hf (x:=M) ?_
 rintro u1 m1 R1 u2 m2 R2 u3 m3 R3 u4 m4 R4 u5 m5 R5 u6 m6 R6 u7 m7 R7 ev - - - - - - -
 obtain rfl:qcs=[.slice u1 M.An.Ac.length m1,.int .i64 M.Ab.Aa.Ak,.int .i64 M.Ab.Aa.size,.slice u2 M.Ab.Aa.Aj.length m2,.int .i64 M.Ab.Ai,.int .i64 M.Ab.quiet,.slice u3 M.Ab.holds.length m3,.slice u4 M.Af.length m4,.slice u5 M.Ae.length m5,.slice u6 M.down.length m6,.slice u7 M.up.length m7]:=by simpa using ev
 clear ev
 refine go ?_;intros
 rw [Asf]
 cases b
 ·refine go ?_;intros
  refine ret () trivial rfl
 obtain ⟨rfl,hg0,hf0⟩:=hn rfl
 refine go ?_;intros
 refine cf (Aei v Bl G FT) fun z hz=>?_
 refine Ar ?_
 obtain ⟨hl, -⟩:=hz
 obtain ⟨x,cs,Fx,l,la,lc,Fl⟩:=z
 dsimp only at hl ⊢
 refine Hf (x:=x) ?_
 rintro b1 d1 G1 b2 d2 G2 b3 d3 G3 b4 d4 G4 b5 d5 G5 b6 d6 G6 b7 d7 G7 ev - - - - - - -
 obtain rfl:cs=[.slice b1 x.An.Ac.length d1,.int .i64 x.Ab.Aa.Ak,.int .i64 x.Ab.Aa.size,.slice b2 x.Ab.Aa.Aj.length d2,.int .i64 x.Ab.Ai,.int .i64 x.Ab.quiet,.slice b3 x.Ab.holds.length d3,.slice b4 x.Af.length d4,.slice b5 x.Ae.length d5,.slice b6 x.down.length d6,.slice b7 x.up.length d7]:=by simpa using ev
 clear ev
 refine go ?_;intros
 refine C6 A9 ?_
 refine C6 A9 ?_
 refine go ?_;intros
 refine Ck [2,3,4,6,11] (fun z:DlS=>[(12,.slice z.sa z.S.length z.sc),(13,.slice z.ea z.E.length z.ec),(14,.int .i64 (z.i:Nat))]) (fun z=>[.row gn 39 0 [] z.cs [],.isv Pp (.agg z.cs.toArray) z.n z.F,.ow A9 9 (.slice z.sa z.S.length z.sc) z.S z.sF,.ow A9 9 (.slice z.ea z.E.length z.ec) z.E z.eF]) (DlC l ⟨tl⟩ f) (fun z=>l.length - z.i) ⟨0,Mk ⟨tl⟩ f y,_,_,[],_,_,_,[],_,_,_⟩ ⟨Nat.zero_le _,hg0,Arc hf0,rfl,Nat.le_refl _,by show (0:Int)≤0;decide,Nat.le_refl _⟩ fun z hz=>?_
 obtain ⟨i,n,cs,nF,S,sa,sc,sF,E,ea,ec,eF⟩:=z
 obtain ⟨hi,hg,hI,ht,hs,hc,he⟩:=hz
 dsimp only at hi hg hI ht hs hc he ⊢
 refine Hf (x:=n) ?_
 rintro i1 j1 W1 i2 j2 W2 i3 j3 W3 i4 j4 W4 i5 j5 W5 i6 j6 W6 i7 j7 W7 ev - - - - - - -
 obtain rfl:cs=[.slice i1 n.An.Ac.length j1,.int .i64 n.Ab.Aa.Ak,.int .i64 n.Ab.Aa.size,.slice i2 n.Ab.Aa.Aj.length j2,.int .i64 n.Ab.Ai,.int .i64 n.Ab.quiet,.slice i3 n.Ab.holds.length j3,.slice i4 n.Af.length j4,.slice i5 n.Ae.length j5,.slice i6 n.down.length j6,.slice i7 n.up.length j7]:=by simpa using ev
 clear ev
 refine go ?_;intros
 refine Bf rfl (fun h3=>?_) (fun h3=>?_)
 ·have hil:i < l.length:=by omega
  refine Ao7 (xs:=l) i ?_
  rintro hi9 b9 o9 e9 s9
  rw [e9]
  refine Kx ?_;intros
  refine Aw [0,8] [6,7,8,9,11,12,13] ?_
  refine W9 0 ?_
  refine W9 1 ?_
  refine W9 2 ?_
  refine W9 3 ?_
  refine W9 4 ?_
  refine Ob 5 10 (by kernel_rfl) (by rw [List.getElem?_toArray];rfl) (by rw [List.getElem?_toArray];rfl) ?_ ?_
  ·apply At;rfl;kernel_rfl;exact Be
   refine cf (Zz n l[i] _ nF FT s9) fun p9 _=>?_
   refine Ar ?_
   obtain ⟨M,es,b,e⟩:∃M es b,Av n l[i]=(M,es,b):=⟨_,_,_,rfl⟩
   rw [e]
   dsimp only
   obtain ⟨pcs,pF,pa,pc,pG⟩:=p9
   dsimp only
   refine Mq Qe fun F5=>?_
   refine Ay (E:=A9) (xs:=es) fun F6=>?_
   refine Hf (x:=M) ?_
   rintro e1 f1 K1 e2 f2 K2 e3 f3 K3 e4 f4 K4 e5 f5 K5 e6 f6 K6 e7 f7 K7 ev - - - - - - -
   obtain rfl:pcs=[.slice e1 M.An.Ac.length f1,.int .i64 M.Ab.Aa.Ak,.int .i64 M.Ab.Aa.size,.slice e2 M.Ab.Aa.Aj.length f2,.int .i64 M.Ab.Ai,.int .i64 M.Ab.quiet,.slice e3 M.Ab.holds.length f3,.slice e4 M.Af.length f4,.slice e5 M.Ae.length f5,.slice e6 M.down.length f6,.slice e7 M.up.length f7]:=by simpa using ev
   clear ev
   refine dk ?_
   refine Pi 6 ?_
   refine Pi 7 ?_
   refine Pi 8 ?_
   refine Pi 9 ?_
   refine dO 10 (by kernel_rfl) (by rw [List.getElem?_toArray];rfl) ?_
   apply Co;rfl;intro _
   refine dk ?_
   refine dO 11 (by kernel_rfl) (by rw [List.getElem?_toArray];rfl) ?_
   apply Cu;rfl;rfl;rfl;(first|exact AggC.s|exact OneC.s);rfl;exact Cw;exact Cv;rfl
   refine Mg ?_
   refine Pi 12 ?_
   refine Pi 13 ?_
   refine dd ?_
   cases b
   ·refine go ?_;intros
    rw [show ((i:Nat):Int)+1=((i+1:Nat):Int) by omega]
    refine Ct ⟨i+1,n,_,_,S,_,_,_,E,_,_,_⟩ ⟨by show i+1≤l.length;omega,hg,hI,ht,by show S.length≤i+1;omega,by show n.Ab.Ai≤((i+1:Nat):Int);omega,by show E.length≤400000 * (i+1);omega⟩ (by show l.length - (i+1) < l.length - i;omega)
   ·obtain ⟨hok1,e5⟩:=Agi e
    have hg2:=Ie hg hok1 e5
    have hf:=Ad7 hg hok1 e5
    have ht2:M.An=n.An:=Lm e5
    have hc2:=Ad6 e5
    have hI2:=Afh hI hg hok1 e5 (by omega)
    dsimp only at hg2 hf ht2 hc2 hI2
    have hl9:(E++es).length=E.length+es.length:=List.length_append
    refine go ?_;intros
    apply wO
    refine Ku (E:=A9) (xs:=E) (ys:=es) Dh E4 fun a9 c9 F9=>?_
    refine go ?_;intros
    refine Bf rfl (fun h5=>?_) (fun h5=>?_)
    ·rw [if_pos h5] at hI2
     have hl8:(S++[l[i].data]).length=S.length+1:=by simp
     refine go ?_;intros
     apply wO
     refine Lh (E:=A9) (xs:=S) (Yv s9) Dh fun a8 c8 F8=>?_
     refine go ?_;intros
     rw [show ((i:Nat):Int)+1=((i+1:Nat):Int) by omega]
     refine Ct ⟨i+1,M,_,_,S++[l[i].data],_,_,_,E++es,_,_,_⟩ ⟨by show i+1≤l.length;omega,hg2,hI2,ht2.trans ht,by show (S++[l[i].data]).length≤i+1;omega,by show M.Ab.Ai≤((i+1:Nat):Int);omega,by show (E++es).length≤400000 * (i+1);omega⟩ (by show l.length - (i+1) < l.length - i;omega)
    ·rw [if_neg h5,List.append_nil] at hI2
     refine go ?_;intros
     rw [show ((i:Nat):Int)+1=((i+1:Nat):Int) by omega]
     refine Ct ⟨i+1,M,_,_,S,_,_,_,E++es,_,_,_⟩ ⟨by show i+1≤l.length;omega,hg2,hI2,ht2.trans ht,by show S.length≤i+1;omega,by show M.Ab.Ai≤((i+1:Nat):Int);omega,by show (E++es).length≤400000 * (i+1);omega⟩ (by show l.length - (i+1) < l.length - i;omega)
  ·apply Co;rfl;intro _
   refine dk ?_
   refine dO 5 (by kernel_rfl) (by rw [List.getElem?_toArray];rfl) ?_
   apply At;rfl;kernel_rfl;exact Be
   refine cf (Zz n l[i] _ nF FT s9) fun p9 _=>?_
   refine Ar ?_
   obtain ⟨M,es,b,e⟩:∃M es b,Av n l[i]=(M,es,b):=⟨_,_,_,rfl⟩
   rw [e]
   dsimp only
   obtain ⟨pcs,pF,pa,pc,pG⟩:=p9
   dsimp only
   refine Mq Qe fun F5=>?_
   refine Ay (E:=A9) (xs:=es) fun F6=>?_
   refine Hf (x:=M) ?_
   rintro e1 f1 K1 e2 f2 K2 e3 f3 K3 e4 f4 K4 e5 f5 K5 e6 f6 K6 e7 f7 K7 ev - - - - - - -
   obtain rfl:pcs=[.slice e1 M.An.Ac.length f1,.int .i64 M.Ab.Aa.Ak,.int .i64 M.Ab.Aa.size,.slice e2 M.Ab.Aa.Aj.length f2,.int .i64 M.Ab.Ai,.int .i64 M.Ab.quiet,.slice e3 M.Ab.holds.length f3,.slice e4 M.Af.length f4,.slice e5 M.Ae.length f5,.slice e6 M.down.length f6,.slice e7 M.up.length f7]:=by simpa using ev
   clear ev
   refine dk ?_
   refine Pi 6 ?_
   refine Pi 7 ?_
   refine Pi 8 ?_
   refine Pi 9 ?_
   refine dO 11 (by kernel_rfl) (by rw [List.getElem?_toArray];rfl) ?_
   apply Cu;rfl;rfl;rfl;(first|exact AggC.s|exact OneC.s);rfl;exact Cw;exact Cv;rfl
   refine Mg ?_
   refine Pi 12 ?_
   refine Pi 13 ?_
   refine dd ?_
   cases b
   ·refine go ?_;intros
    rw [show ((i:Nat):Int)+1=((i+1:Nat):Int) by omega]
    refine Ct ⟨i+1,n,_,_,S,_,_,_,E,_,_,_⟩ ⟨by show i+1≤l.length;omega,hg,hI,ht,by show S.length≤i+1;omega,by show n.Ab.Ai≤((i+1:Nat):Int);omega,by show E.length≤400000 * (i+1);omega⟩ (by show l.length - (i+1) < l.length - i;omega)
   ·obtain ⟨hok1,e5⟩:=Agi e
    have hg2:=Ie hg hok1 e5
    have hf:=Ad7 hg hok1 e5
    have ht2:M.An=n.An:=Lm e5
    have hc2:=Ad6 e5
    have hI2:=Afh hI hg hok1 e5 (by omega)
    dsimp only at hg2 hf ht2 hc2 hI2
    have hl9:(E++es).length=E.length+es.length:=List.length_append
    refine go ?_;intros
    apply wO
    refine Ku (E:=A9) (xs:=E) (ys:=es) Dh E4 fun a9 c9 F9=>?_
    refine go ?_;intros
    refine Bf rfl (fun h5=>?_) (fun h5=>?_)
    ·rw [if_pos h5] at hI2
     have hl8:(S++[l[i].data]).length=S.length+1:=by simp
     refine go ?_;intros
     apply wO
     refine Lh (E:=A9) (xs:=S) (Yv s9) Dh fun a8 c8 F8=>?_
     refine go ?_;intros
     rw [show ((i:Nat):Int)+1=((i+1:Nat):Int) by omega]
     refine Ct ⟨i+1,M,_,_,S++[l[i].data],_,_,_,E++es,_,_,_⟩ ⟨by show i+1≤l.length;omega,hg2,hI2,ht2.trans ht,by show (S++[l[i].data]).length≤i+1;omega,by show M.Ab.Ai≤((i+1:Nat):Int);omega,by show (E++es).length≤400000 * (i+1);omega⟩ (by show l.length - (i+1) < l.length - i;omega)
    ·rw [if_neg h5,List.append_nil] at hI2
     refine go ?_;intros
     rw [show ((i:Nat):Int)+1=((i+1:Nat):Int) by omega]
     refine Ct ⟨i+1,M,_,_,S,_,_,_,E++es,_,_,_⟩ ⟨by show i+1≤l.length;omega,hg2,hI2,ht2.trans ht,by show S.length≤i+1;omega,by show M.Ab.Ai≤((i+1:Nat):Int);omega,by show (E++es).length≤400000 * (i+1);omega⟩ (by show l.length - (i+1) < l.length - i;omega)
 obtain rfl:i=l.length:=by omega
 have hP:=Acc n 30 (.agg #[.slice i1 n.An.Ac.length j1,.int .i64 n.Ab.Aa.Ak,.int .i64 n.Ab.Aa.size,.slice i2 n.Ab.Aa.Aj.length j2,.int .i64 n.Ab.Ai,.int .i64 n.Ab.quiet,.slice i3 n.Ab.holds.length j3,.slice i4 n.Af.length j4,.slice i5 n.Ae.length j5,.slice i6 n.down.length j6,.slice i7 n.up.length j7]) nF FT
 have hfin:Ec n 30=((Cc n 30).1,(Cc n 30).2,true):=by
  unfold Ec
  rw [if_pos (by unfold Uo;rw [hg,decide_eq_true (by omega)];rfl)];rfl
 rw [hfin] at hP
 have hI2:=Aoj hI hg (by omega) 30 (by omega)
 obtain ⟨hg2,ht2, -,hk2⟩:=Ug hg 30 (by omega)
 obtain ⟨N,es,hN⟩:∃N es,Cc n 30=(N,es):=⟨_,_,rfl⟩
 rw [hN] at hP hI2 hg2 ht2 hk2
 dsimp only at hP hI2 hg2 ht2 hk2
 refine go ?_;intros
 refine cf hP fun p9 _=>?_
 refine Ar ?_
 obtain ⟨pcs,pF,pa,pc,pG⟩:=p9
 dsimp only
 refine Mq Qe fun F5=>?_
 refine Ay (E:=A9) (xs:=es) fun F6=>?_
 refine Hf (x:=N) ?_
 rintro e1 f1 K1 e2 f2 K2 e3 f3 K3 e4 f4 K4 e5 f5 K5 e6 f6 K6 e7 f7 K7 ev - - - - - - -
 obtain rfl:pcs=[.slice e1 N.An.Ac.length f1,.int .i64 N.Ab.Aa.Ak,.int .i64 N.Ab.Aa.size,.slice e2 N.Ab.Aa.Aj.length f2,.int .i64 N.Ab.Ai,.int .i64 N.Ab.quiet,.slice e3 N.Ab.holds.length f3,.slice e4 N.Af.length f4,.slice e5 N.Ae.length f5,.slice e6 N.down.length f6,.slice e7 N.up.length f7]:=by simpa using ev
 clear ev
 refine go ?_;intros
 apply wO
 refine Ku (E:=A9) (xs:=E) (ys:=es) Dh E4 fun a9 c9 F9=>?_
 have hl9:(E++es).length=E.length+es.length:=List.length_append
 obtain ⟨W,hW⟩:∃W,W=E++es:=⟨_,rfl⟩
 rw [←hW] at hI2 hl9 ⊢
 refine Ay (E:=A9) (xs:=W) fun F7=>?_
 refine Ay (E:=A9) (xs:=S) fun F8=>?_
 have hG2:=A1.1 hg2
 have htl:N.An=⟨tl⟩:=ht2.trans ht
 have hn0:=(Ex hG2.t).n0
 have hn1:=(Ex hG2.t).n1
 obtain ⟨-,qr, -, -⟩:=Bz.1 hG2.l
 rw [htl] at hn0 hn1 qr
 dsimp only at hn0 hn1 qr
 have h43:(⟨#[43]⟩:ByteArray).size=1:=rfl
 refine go ?_;intros
 refine H2 [2,3,4,12,13,18] (fun k:Nat=>[(21,.int .i64 (k:Nat))]) (fun k=>1≤k∧k≤tl.length) (fun k=>tl.length - k) 1 ⟨Nat.le_refl _,by omega⟩ fun j hj=>?_
 obtain ⟨hj1,hj2⟩:=hj
 refine go ?_;intros
 refine Bf rfl (fun h4=>?_) (fun h4=>?_)
 rotate_left
 ·refine go ?_;intros
  refine ret () trivial rfl
 have hjr:j < N.Ae.length:=by omega
 refine go ?_;intros
 refine C6 A9 ?_
 refine go ?_;intros
 refine Ck [2,3,4,12,13,18,21,110,111,112,113,114,117] (fun z:DmS=>[(22,.slice z.a (Kr j (W.take z.m)).length z.c),(23,.bool z.J),(24,.int .i64 (z.m:Nat))]) (fun z=>[.ow A9 9 (.slice z.a (Kr j (W.take z.m)).length z.c) (Kr j (W.take z.m)) z.F]) (fun z=>z.m≤W.length∧z.J=Ae0 (Kr j (W.take z.m))) (fun z=>W.length - z.m) ⟨0,false,_,_,_⟩ ⟨Nat.zero_le _,rfl⟩ fun z hz=>?_
 obtain ⟨m,J,o1a,o1c,o1F⟩:=z
 obtain ⟨hm,hJ⟩:=hz
 dsimp only at hm hJ ⊢
 refine go ?_;intros
 refine Bf rfl (fun h6=>?_) (fun h6=>?_)
 ·have hmW:m < W.length:=by omega
  have h2:=hI2.e.two W[m] (List.getElem_mem hmW)
  have hol:=Adr j (W.take m)
  rw [List.length_take] at hol
  refine Tg (xs:=W) m ?_
  rintro hi9 b9 o9 e9 s9
  rw [e9]
  have hb8:(((W[m])[(0:Int).toNat]'(by show 0 < _;omega)).toNat:Int)≤255:=by
   have:=((W[m])[(0:Int).toNat]'(by show 0 < _;omega)).toNat_lt
   omega
  refine go ?_;intros
  refine Bf rfl (fun h7=>?_) (fun h7=>?_)
  ·have hsc:=Aas (i:=j) hmW
   rw [if_pos (by rw [Acx (by show 0 < _;omega)];exact h7)] at hsc
   have Qm:(Kr j (W.take m)++[(W[m]).extract 2 (W[m]).size]).length=(Kr j (W.take m)).length+1:=by simp
   refine go ?_;intros
   apply wO;apply oc;rfl;exact Al0 rfl rfl (by decide) (by show (2:Int)≤_;omega)
   refine go ?_;intros
   apply wO
   refine Lh (E:=A9) (xs:=Kr j (W.take m)) (Yv (s:=(W[m]).extract 2 (W[m]).size) (by rw [ByteArray.size_extract];unfold maxLen at s9 ⊢;omega)) Dh fun a8 c8 F8=>?_
   rw [←hsc]
   cases J
   ·refine go ?_;intros
    apply wO;apply oc;rfl;exact Al0 rfl rfl (by decide) (by show (2:Int)≤_;omega)
    refine go ?_;intros
    rw [show ((m:Nat):Int)+1=((m+1:Nat):Int) by omega]
    refine Ct ⟨m+1,decide ((W[m]).extract 2 (W[m]).size=⟨#[33]⟩),_,_,_⟩ ⟨by show m+1≤W.length;omega,?_⟩ (by show W.length - (m+1) < W.length - m;omega)
    show _=Ae0 (Kr j (W.take (m+1)))
    rw [hsc,Aac,←hJ];rfl
   ·refine go ?_;intros
    rw [show ((m:Nat):Int)+1=((m+1:Nat):Int) by omega]
    refine Ct ⟨m+1,true,_,_,_⟩ ⟨by show m+1≤W.length;omega,?_⟩ (by show W.length - (m+1) < W.length - m;omega)
    show _=Ae0 (Kr j (W.take (m+1)))
    rw [hsc,Aac,←hJ];rfl
  ·have hsc:=Aas (i:=j) hmW
   rw [if_neg (by rw [Acx (by show 0 < _;omega)];exact h7),List.append_nil] at hsc
   rw [←hsc] at hJ ⊢
   refine go ?_;intros
   rw [show ((m:Nat):Int)+1=((m+1:Nat):Int) by omega]
   refine Ct ⟨m+1,J,_,_,_⟩ ⟨by show m+1≤W.length;omega,hJ⟩ (by show W.length - (m+1) < W.length - m;omega)
 obtain rfl:m=W.length:=by omega
 rw [List.take_length] at hJ ⊢
 refine Ay (E:=A9) (xs:=Kr j W) fun F10=>?_
 have hol:=Adr j W
 refine Qh (xs:=N.Ae) j ?_
 rintro h5b b5 o5 a9 c9 F9 a10 c10 F10 e5 l9 l10
 rw [e5]
 have hR:=hI2.r j hjr
 cases hst:N.Ae[j].Bg
 ·refine go ?_;intros
  rw [show ((j:Nat):Int)+1=((j+1:Nat):Int) by omega]
  refine Ct (j+1) ⟨by omega,by omega⟩ (by omega)
 cases J
 rotate_left
 ·refine go ?_;intros
  rw [show ((j:Nat):Int)+1=((j+1:Nat):Int) by omega]
  refine Ct (j+1) ⟨by omega,by omega⟩ (by omega)
 obtain ⟨k,hWn, -⟩:=hR.w hst
 obtain ⟨b,hb,hE⟩:=hWn.e.resolve_left (Ajz hJ.symm)
 have hk:=hWn.le
 have hG:=Ack f N.Ae[j].Aa.next
 rw [show Pl f N.Ae[j].Aa.next=(((k:Nat):Int),true) by
  unfold Pl
  rw [hWn.n,Ba.2 hf0,Lv]
  have:gp f (Bn f ((k:Nat):Int))=((k:Nat):Int):=by unfold gp Bn;omega
  rw [this];rfl] at hG
 dsimp only at hG
 refine go ?_;intros
 refine cf hG fun _ _=>?_
 refine Ar ?_
 refine go ?_;intros
 rw [show decide (((S.length:Nat):Int) < ((k:Nat):Int))=false from decide_eq_false (by omega)]
 refine go ?_;intros
 rw [show decide (((k:Nat):Int) < ((Kr j W).length:Int))=false from decide_eq_false (by omega)]
 refine go ?_;intros
 refine H2 [2,3,4,12,13,18,21,22,26] (fun q:Nat=>[(28,.int .i64 (q:Nat))]) (fun q=>q≤(Kr j W).length) (fun q=>(Kr j W).length - q) 0 (Nat.zero_le _) fun q hq=>?_
 refine go ?_;intros
 refine Bf rfl (fun h8=>?_) (fun h8=>?_)
 rotate_left
 ·refine go ?_;intros
  rw [show ((j:Nat):Int)+1=((j+1:Nat):Int) by omega]
  refine Ct (j+1) ⟨by omega,by omega⟩ (by omega)
 have hq3:q < (Kr j W).length:=by omega
 refine Tg (xs:=Kr j W) q ?_
 rintro hi9 b9 o9 e9 s9
 rw [e9]
 by_cases hm:(Kr j W)[q]=⟨#[45]⟩
 ·refine Kx ?_;intros
  refine Aw [0] [] ?_
  refine dt 0 ?_
  refine dt 1 ?_
  refine dt 2 ?_
  refine dt 3 ?_
  refine dt 4 ?_
  rw [show decide (¬(Kr j W)[q]=⟨#[45]⟩)=false from decide_eq_false (fun h=>h hm)]
  refine dt 5 ?_
  refine ds 6 ?_
  refine ds 7 ?_
  refine ds 8 ?_
  refine ds 9 ?_
  refine ds 10 ?_
  refine ds 11 ?_
  refine ds 12 ?_
  refine ds 13 ?_
  refine ds 14 ?_
  refine ds 15 ?_
  refine ds 16 ?_
  refine ds 17 ?_
  refine ds 18 ?_
  refine ds 19 ?_
  refine ds 20 ?_
  refine dt 21 ?_
  refine dd ?_
  refine go ?_;intros
  rw [show ((q:Nat):Int)+1=((q+1:Nat):Int) by omega]
  refine Ct (q+1) hq3 (by omega)
 ·obtain ⟨t,ht1,ht2⟩:=(hE q _ (List.getElem?_eq_getElem hq3)).resolve_left hm
  obtain ⟨hbq,ht3⟩:=List.getElem?_eq_some_iff.1 ht1
  have hpl:(Kr j W)[q]=⟨#[43]⟩++S[b+q]:=by rw [ht2,ht3];rfl
  have hidx:((k:Nat):Int) - ((Kr j W).length:Int)+((q:Nat):Int)=((b+q:Nat):Int):=by omega
  refine Tg (xs:=S) (b+q) ?_
  rintro hi10 b10 o10 e10 s10
  rw [e10]
  unfold maxLen at s9
  have hsz:=congrArg ByteArray.size hpl
  rw [ByteArray.size_append,h43] at hsz
  refine Kx ?_;intros
  refine Aw [0,1] [] ?_
  refine dt 0 ?_
  refine dt 1 ?_
  refine dt 2 ?_
  refine dt 3 ?_
  refine dt 4 ?_
  rw [show decide (¬(Kr j W)[q]=⟨#[45]⟩)=true from decide_eq_true hm]
  refine dt 5 ?_
  refine En 6 ?_
  refine En 7 ?_
  refine En 8 ?_
  refine En 9 ?_
  refine En 10 ?_
  refine En 11 ?_
  refine En 12 ?_
  refine En 13 ?_
  refine En 14 ?_
  refine En 15 ?_
  refine En 16 ?_
  rw [hidx]
  refine En 17 ?_
  refine En 18 ?_
  refine En 19 ?_ (hy:=Alz rfl rfl (by show 1+_≤9223372036854775807;omega))
  refine En 20 ?_
  rw [show decide (¬(Kr j W)[q]=⟨#[43]⟩++S[b+q])=false from decide_eq_false (fun h=>h hpl)]
  refine dt 21 ?_
  refine dd ?_
  refine go ?_;intros
  rw [show ((q:Nat):Int)+1=((q+1:Nat):Int) by omega]
  refine Ct (q+1) hq3 (by omega)
theorem Ape {W:World} (hL:laidMetH prog Rows.fnDeliveryRow.laid W) (_:W.ShapedOpen prog):(Mt [2]).P W:=by
 rw [MakeChecks.laidMetH_plain _ _ _ (by kernel_rfl)] at hL
 have h3:=hL.tail.tail
 have e:(Rows.laid_internal_strconv_uint64pow10:DataW Unit)=Lib.tabData .u64 Lib.pow10Tab:=by kernel_rfl
 rw [e] at h3
 have ht:Lib.TabIs prog W "internal/strconv.uint64pow10" .u64 Lib.pow10Tab:=Lib.tabIs_of_head (g:=2) (t:=293) (e:=68) (n:=20) (by kernel_rfl) (by kernel_rfl) underlying293 underlying68 (by kernel_rfl) (by kernel_rfl) h3
 have hc:=Lib.TabIs.cell ht (g:=2) (by kernel_rfl) 0 (by rw [Lib.pow10Tab_length];omega)
 refine ⟨[],rfl,rfl,ht,rfl,fun b hb=>?_⟩
 simp only [List.mem_cons,List.not_mem_nil,or_false] at hb
 subst hb
 exact World.block_lt_of_cell? W ⟨2,0,none⟩ hc
end Go.Proofs.YtbmlecejkacpnaaGreatDoor
namespace Go.Proofs.YtbmlecejkacpnaaGreatDoor
open Go.ChangeShapes Go.WideShapes Go.ChangeAt Go.RowKit
theorem S8 {H:Type} {enc:TypeId × Value→H} {P:Program} (hl:laidOutB P=true) {W W':World} (hb:Below W.heap.size W W') :
  ∀(ts:List TypeId) (vs:List Value) (ds:List (DataW H)) (ps:List MemPlace),(∀t∈ts,P.readableRec t=true∧t < P.types.size) →
   DataW.TrodAll enc P W 0 (fun _=>true) true ts vs ds ps→(∀x∈ps,x.block < W.heap.size)→DataW.TrodAll enc P W' 0 (fun b=>decide (b < W.heap.size)) true ts vs ds ps
 | [],vs,ds,ps,_,h,_=>by obtain ⟨rfl,rfl,rfl⟩:=trodAll_nil h;exact rfl
 | t::ts,vs,ds,ps,ht,h,hlt=>by
  obtain ⟨v,vs',d,ds',p,q,rfl,rfl,rfl,h1,h2⟩:=trodAll_cons h
  have ⟨a,b⟩:=ht t (by simp)
  exact ⟨p,q,Below.trod hl a b h1 hb fun x hx=>hlt x (by simp [hx]),S8 hl hb ts vs' ds' q (fun t h=>ht t (by simp [h])) h2 fun x hx=>hlt x (by simp [hx]),rfl⟩
theorem Aj9 {H:Type} {enc:TypeId × Value→H} {P:Program} {f:Func} {s:ChangeSpec} {tb:TypeId} (hl:laidOutB P=true) (hr:∀t∈f.params.toList,P.readableRec t=true∧t < P.types.size)
  (hb:P.underlying tb=some .bool) (hres:f.resultTypes = #[tb]) (hv:s.vars=[]) {W W':World} {args:Array Value} {ds gs:List (DataW H)} {before:List MemPlace}
  (hs:s.fn H ds={ results:=[.lit (.bool true)],args:=ds }) (hW:DataW.Whole enc P f.params.toList s.vars false W args.toList ds gs before) (hB:Below W.heap.size W W') :
  s.post enc P f false true false false W args (.bool true) W':=by
 have hlt:=hW.lt
 have hW0:=hW
 obtain ⟨p,q,hA,hV,rfl,_,_⟩:=hW0
 rw [hv] at hV
 obtain ⟨rfl,rfl⟩:=trodVars_none hV
 refine ⟨ds,[],p++[],[],p,[],hW,?_,?_,?_,hB.frame _,fun h=>by cases h⟩
 ·rw [List.append_nil,hs,hres]
  exact trodAll_mk1 (shut_bool hb true)
 ·rw [List.append_nil,hs]
  exact S8 hl hB _ _ _ _ hr hA fun x hx=>hlt x (by simpa using hx)
 ·rw [hv,List.append_nil,hs];exact rfl
def Acj (P:Program) {α:Type} (E:Br α) (t:TypeId):Prop :=
 ∀{H:Type} {enc:TypeId × Value→H} {w:World} {fuel:Nat} {cs:List Value} {x:DataW H × List MemPlace},DataW.trod enc P w 0 (fun _=>true) true fuel t cs=some x→∃y F,E.Jr w cs y F
section
variable {P:Program}
theorem Wo {α:Type} {E:Br α} {e:TypeId} (hsz:P.cellsOf e=E.sz) (he:Acj P E e) {H:Type} {enc:TypeId × Value→H} {w:World} {n b off:Nat} :
  ∀(els:List (DataW H × List MemPlace)) (k:Nat),(∀i,i < els.length→(w.cells? 0 ((⟨b,off,none⟩:Addr).add ((k+i) * P.cellsOf e)) (P.cellsOf e)).bind (DataW.trod enc P w 0 (fun _=>true) true n e)=els[i]?) →
   ∃ys F,ys.length=els.length∧Ln E w b (off+k * E.sz) ys F
 | [],_,_=>⟨[],[],rfl,rfl⟩
 | x::r,k,h=>by
  have h0:=h 0 (by simp)
  simp only [Nat.add_zero,List.getElem?_cons_zero,Option.bind_eq_some_iff] at h0
  obtain ⟨cs,hc,hx⟩:=h0
  obtain ⟨y,F1,hy⟩:=he hx
  obtain ⟨ys,F2,hl,hys⟩:=Wo hsz he r (k+1) fun i hi=>by
   have:=h (i+1) (by simpa using hi)
   rw [show k+1+i=k+(i+1) by omega]
   simpa using this
  refine ⟨y::ys,F1++F2,by simp [hl],cs,F1,F2,rfl,hy,fun j hj=>?_,by rwa [show off+k * E.sz+E.sz=off+(k+1) * E.sz by rw [Nat.add_mul];omega]⟩
  obtain ⟨_,hlen,hcell⟩:=World.cells?_some hc
  rw [←hcell j (by rw [hsz];exact hj)]
  congr 1
  simp only [Addr.add,hsz]
  split <;> split <;> simp_all <;> omega
theorem Ad0 {α:Type} {E:Br α} {t e:TypeId} (ht:P.underlying t=some (.slice e)) (hsz:P.cellsOf e=E.sz) (hz:0 < E.sz) (he:Acj P E e):Acj P (Ly E hz) t:=fun h=>by
 rcases DataW.trod_slice ht h with ⟨rfl,_⟩|⟨a,len,cap,elems,rest,n,rfl,rfl,_,_,hlc,hcm,hlen,hel,_,_⟩
 ·exact ⟨[],[],_,rfl,none,0,rfl,⟨by simp,by simp⟩,.inl ⟨rfl,rfl,fun _=>rfl⟩⟩
 ·by_cases h0:len=0
  ·subst h0
   exact ⟨[],[],_,rfl,some a,cap,rfl,⟨by simp,by omega⟩,.inl ⟨rfl,rfl,fun e=>by cases e⟩⟩
  ·have hs:a=⟨a.block,a.off,none⟩:=by
    have:=hel 0 (by omega)
    rw [List.getElem?_eq_getElem (by omega)] at this
    simp only [Option.bind_eq_some_iff] at this
    obtain ⟨cs,hc,_⟩:=this
    obtain ⟨_,hl2,hcell⟩:=World.cells?_some hc
    have h1:=hcell 0 (by omega)
    rw [List.getElem?_eq_getElem (by omega)] at h1
    simp [Addr.add,World.cell?] at h1
    split at h1 <;> simp_all
    cases a;simp_all
   obtain ⟨ys,F,hyl,hys⟩:=Wo hsz he elems 0 (n:=n) (b:=a.block) (off:=a.off) (enc:=_) (w:=_) (by
    rw [←hs];intro i hi;rw [Nat.zero_add];exact hel i (by omega))
   refine ⟨ys,a.block::F,_,rfl,some a,cap,by rw [hyl,hlen],⟨by omega,by omega⟩,.inr ⟨a.block,a.off,F,by rw [←hs],?_,rfl,by simpa using hys⟩⟩
   intro e;rw [e] at hyl;simp at hyl;omega
end
inductive Xs (P:Program):List Field→Nat→(α:Type)→Br α→Prop
 | nil (off:Nat):Xs P [] off Unit An6
 | cons {f:Field} {r:List Field} {off:Nat} {α β:Type} {A:Br α} {B:Br β} (ho:f.offset=off) (hc:P.cellsOf f.type=A.sz) (hA:Acj P A f.type) (h:Xs P r (off+A.sz) β B):Xs P (f::r) off (α × β) (Ai0 A B)
end Go.Proofs.YtbmlecejkacpnaaGreatDoor
