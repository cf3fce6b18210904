/- Part 10 of the proof: 26 texts, one behind the other. -/
import Derived.MapKept
import Derived.WideMake
import Derived.Test.YtkagnmekdkchiaaGreatDoorM9
open _root_.Go.Proofs.Tryz
set_option maxRecDepth 100000
set_option maxHeartbeats 8000000
set_option linter.all false
set_option linter.unusedVariables false
set_option linter.unusedSimpArgs false
namespace Go.Proofs.YtkagnmekdkchiaaGreatDoor
theorem AJ{p:Prop}(h:p:=by refine dk ?_;refine dN 8 ?_;refine Oh (Xo ⟨p.Af,x.Ai+3⟩) Jc fun a8 c8 F8=>?_;refine dk ?_;refine dN 13 ?_;refine N3 (ys:=x.holds.drop (Fm x.Ab.Ao x.holds p.Af)) Jc Lp (h63:=by simp;omega) (hby:=by simp;omega) fun a9 c9 F9=>?_;refine dk ?_;refine dt 14 ?_;refine dN 15 ?_;refine oS ?_;refine dk ?_;refine dd ?_;refine go ?_;intros;rw [hAdd];refine Bw (⟨a9,c9,F9⟩:Ayf) trivial):p:=h
theorem AT{p:Prop}(h:p:=by refine go ?_;intros;refine N5 (⟨r.1,⟨⟨#[]⟩,⟨#[]⟩,0⟩⟩:C7) (Nat.zero_le _) (Nat.zero_le _) (a6:=a6) (a7:=a7) ?_;refine ret ([.slice a1 r.1.Al.Ad.length c1,.int .i64 r.1.Aa.Ab.Ao,.int .i64 r.1.Aa.Ab.size,.slice a2 r.1.Aa.Ab.Ak.length c2,.int .i64 r.1.Aa.Ai,.int .i64 r.1.Aa.quiet,.slice a3 r.1.Aa.holds.length c3,.slice a4 r.1.Ae.length c4,.slice a5 r.1.Ac.length c5,.slice a6 r.1.down.length c6,.slice a7 r.1.up.length c7,.string ⟨#[]⟩,.string ⟨#[]⟩,.int .i64 0],_) trivial rfl):p:=h
theorem BN{p:Prop}(h:p:=by refine dk ?_;refine dN 7 ?_;refine oC ?_;refine cf (Abj R (Ms (k+1)) _ Gi hgr (by omega) (by omega) (by have:=hgr.k1;omega)) fun s _=>?_;refine Ar ?_;refine dk ?_;refine Dk 8 9 10 11 ?_;refine dN 13 ?_;refine oS ?_;refine dk ?_;refine Dy 14 15 ?_;refine dd ?_;refine Bw (⟨_,s⟩:Nat × TkR) trivial):p:=h
theorem BR{p:Prop}(h:p:=by refine dk ?_;refine dN 8 ?_;refine oC ?_;refine cf (Abi n.Ac[i] p (Ms i) _ Gi hgr hp d0 d1_) fun s _=>?_;refine Ar ?_;refine dk ?_;refine Dy 9 10 ?_;refine dt 11 ?_;refine dN 13 ?_;refine oS ?_;refine dk ?_;refine dt 14 ?_;refine dd ?_;refine Bw (⟨_,s⟩:Nat × NwS) trivial):p:=h
theorem BT{p:Prop}(h:p:=by refine dk ?_;refine dN 6 ?_;refine oS ?_;refine dk ?_;refine dd ?_;refine go ?_;intros;refine Bw (⟨_,z.a,z.c,z.a2,z.c2,z.F⟩:RjS) trivial):p:=h
theorem BW{p:Prop}(h:p:=by refine go ?_;intros;refine ret ([.slice none 0 0,.int .i64 0,.int .i64 0,.slice none 0 0,.int .i64 0,.int .i64 0,.slice none 0 0,.slice none 0 0,.slice none 0 0,.slice none 0 0,.slice none 0 0]++[.string ⟨#[]⟩,.string ⟨#[]⟩,.int .i64 0],_) trivial rfl):p:=h
theorem CA{p:Prop}(h:p:=by refine go ?_;intros;refine cf (Uq (Uc (Bo n s)) _ _ F5 hf1 hf2) fun _ _=>?_;refine Ar ?_;refine go ?_;intros;refine ret (⟨⟨y.1.a1,y.1.c1,y.1.a2,y.1.c2,y.1.a3,y.1.c3,y.1.a4,y.1.c4,y.1.a5,y.1.c5,y.1.a6,y.1.c6,y.1.a7,y.1.c7⟩,_,_,_⟩:RuS) ?_ rfl;rfl):p:=h
theorem CG{p:Prop}(h:p:=by refine dk ?_;refine dN 13 ?_;refine N3 (E:=A8) (xs:=[]) Dp Hi fun a9 c9 F9=>?_;rw [List.nil_append];refine dk ?_;refine dt 14 ?_;refine dN 16 ?_;refine oS ?_;refine dk ?_;refine dd ?_;refine Bw (⟨_,a9,c9,F9⟩:L28) trivial):p:=h
theorem CI{p:Prop}(h:p:=by refine dk ?_;refine dt 6 ?_;refine dd ?_;refine go ?_;intros;refine Ic (xs:=[Q4 x.Ab]) (C8 _ (by show (⟨#[]⟩:ByteArray).size≤maxLen;decide)) ?_ (by simp);refine ret ⟨s.a,s.c,s.a2,s.c2,s.F,_,_,_⟩ trivial rfl):p:=h
theorem CK{p:Prop}(h:p:=by refine dk ?_;refine dN 11 ?_;refine oC ?_;refine cf (hW _ F8) fun s _=>?_;refine Ar ?_;refine dk ?_;refine dt 12 ?_;refine dN 14 ?_;refine oS ?_;refine dk ?_;refine dd ?_;refine Bw (⟨_,b1,d1,G1,s⟩:OwN) trivial):p:=h
theorem FG{p:Prop}(h:p:=by refine go ?_;intros;refine Bw false ?_;simp [hn]):p:=h
theorem FR{p:Prop}(h:p:=by refine dk ?_;refine dN 4 ?_;refine oC ?_;refine cf (Sb x x.Ab _ _ F _ t0 t1 (by omega) hn) fun z _=>?_;refine Ar ?_;exact BT):p:=h
theorem GB{p:Prop}(h:p:=by refine go ?_;intros;refine ret () trivial ?_;unfold Fh;rw [g];rfl):p:=h
theorem GC{p:Prop}(h:p:=by refine dN 13 ?_;refine oS ?_;refine dk ?_;refine dt 14 ?_;refine dd ?_;refine Bw (⟨_,b3,d3,Fe,s.a,s.c,s.G⟩:JE) trivial):p:=h
theorem HU{p:Prop}(h:p:=by show x.1.Al.Ad.length - (j+1) < x.1.Al.Ad.length - j;omega):p:=h
theorem JD{p:Prop}(h:p:=by simp [MapKept.IsKey]):p:=h
theorem JT{p:Prop}(h:p:=by unfold Wr at h0;omega):p:=h
theorem KM{p:Prop}(h:p:=by rw [ByteArray.size_append];show _+1+_≤9223372036854775807;omega):p:=h
end Go.Proofs.YtkagnmekdkchiaaGreatDoor
namespace Go.Proofs.YtkagnmekdkchiaaGreatDoor

open Go.RowKit
end Go.Proofs.YtkagnmekdkchiaaGreatDoor
namespace Go.Proofs.YtkagnmekdkchiaaGreatDoor
open Go.RowKit
def Bdp:C7:=⟨P6,⟨⟨#[]⟩,⟨#[]⟩,0⟩⟩
def Fg (t:Me) (f y:Int):C7 × Bool:=if (Er t f y).2 then (⟨(Er t f y).1,⟨⟨#[]⟩,⟨#[]⟩,0⟩⟩,true) else (Bdp,false)
theorem Aje (t:Me) (f y:Int) (v:Value) (F:List Nat):Fn prog 17 [v,.int .i64 f,.int .i64 y] [.isv Kt v t F] [] (fun (_:List Value × List Nat)=>True) (fun s=>.tuple #[.agg s.1.toArray,.bool (Fg t f y).2]) (fun s=>[.own Qe (.agg s.1.toArray) (Fg t f y).1 s.2]):=by
 refine enter func17 rfl ntmps17 fun w0=>?_;refine Lx ?_;rintro a0 c0 F0 rfl l0;refine Br Bc 3 ?_;refine Br A8 9 ?_;refine Br Bi 156 ?_;refine Br Bj 110 ?_;refine Br Bg 117 ?_;refine Br (Fv Aj 159) 135 ?_;refine Br (Fv Aj 159) 135 ?_;refine N5 Bdp (Nat.zero_le _) (Nat.zero_le _) ?_;refine go ?_;intros;refine cf (Aub t f y _ F) fun s _=>?_;refine Ar ?_;unfold Fg;generalize hr:Er t f y=r;refine Aad (x:=r.1) ?_;rintro a1 c1 F1 a2 c2 F2 a3 c3 F3 a4 c4 F4 a5 c5 F5 a6 c6 F6 a7 c7 F7 e l1 l2 l3 l4 l5 l6 l7;rw [e];refine go ?_;intros;cases hb:r.2
 ·exact BW
 ·exact AT
theorem Ab4 (t:Me) (f y:Int) (v:Value) (F:List Nat):Fn prog 12 [v,.int .i64 f,.int .i64 y] [.isv Kt v t F] [] (fun (_:List Value × List Nat)=>True) (fun s=>.tuple #[.agg s.1.toArray,.bool (Fg t f y).2]) (fun s=>[.own Qe (.agg s.1.toArray) (Fg t f y).1 s.2]):=by
 refine enter func12 rfl ntmps12 fun w0=>?_;refine Lx ?_;rintro a0 c0 F0 rfl l0;refine Br Bc 3 ?_;refine Br A8 9 ?_;refine Br Bi 156 ?_;refine Br Bj 110 ?_;refine Br Bg 117 ?_;refine Br (Fv Aj 159) 135 ?_;refine Br (Fv Aj 159) 135 ?_;refine N5 Bdp (Nat.zero_le _) (Nat.zero_le _) ?_;refine go ?_;intros;refine cf (Aj8 t f y _ F) fun s _=>?_;refine Ar ?_;unfold Fg;generalize hr:Er t f y=r;refine Aad (x:=r.1) ?_;rintro a1 c1 F1 a2 c2 F2 a3 c3 F3 a4 c4 F4 a5 c5 F5 a6 c6 F6 a7 c7 F7 e l1 l2 l3 l4 l5 l6 l7;rw [e];refine go ?_;intros;cases hb:r.2
 ·exact BW
 ·exact AT
def Re:C7→List Im→Nat→Nat
 | _,[],i=>i
 | c,e::r,i=>if (Q7 c e.Eh).2=e.E6 then Re (Q7 c e.Eh).1 r (i+1) else i
def Ug (l:Log):List Im:=(Bn (l.Bh.data.toList++l.pending.data.toList)).map Lg.Oz
def Xe (l:Log):Bool:=H2 l.Bh.data.toList l.pending.data.toList l.count
def Mj (t:Me) (f y:Int) (l:Log):Int × Bool:=if (Fg t f y).2 && Xe l then (((Re (Fg t f y).1 (Ug l) 0:Nat):Int),true) else (0,false)
theorem An1 {c:C7} {line:ByteArray} (h:Tf line=true∧¬c.Eb.count=60):Q7 c line=(⟨E7 c.As line,Pg c.Eb line (Pt (Of c.As line))⟩,Pt (Of c.As line)):=by
 unfold Q7;rw [if_pos h.1,if_neg h.2]
end Go.Proofs.YtkagnmekdkchiaaGreatDoor
namespace Go.Proofs.YtkagnmekdkchiaaGreatDoor
open Go.RowKit
open Go.RowKit
theorem Alg {α:Type} {E:Bx α} {w:World}:∀{ys:List (List Value)} {xs:List α} {G:List Nat},Cw E w ys.flatten xs G→(∀y∈ys,y.length=E.sz)→∀i (h1:i < ys.length) (h2:i < xs.length),∃Gi,E.Lo w ys[i] xs[i] Gi∧∀b∈Gi,b∈G
 | [],_,_,_,_,i,h1,_=>by simp at h1
 | y::r,[],_,_,_,i,_,h2=>by simp at h2
 | y::r,x::s,G,h,hm,i,h1,h2=>by
  obtain ⟨c1,c2,F1,F2,e,rfl,hr,hs⟩:=h;rw [List.flatten_cons] at e;obtain ⟨e1,e2⟩:=List.append_inj e (by rw [hm y GL,E.len hr]);subst e1 e2;cases i with
  | zero=>exact ⟨F1,hr,fun b hb=>by simp [hb]⟩
  | succ j =>
   obtain ⟨Gi,g1,g2⟩:=Alg hs (fun z hz=>hm z JH) j JM JC;exact ⟨Gi,g1,fun b hb=>by simp [g2 b hb]⟩
theorem Ahu {α:Type} {E:Bx α} {w:World} {cs:List Value} {x:α} {G2:List Nat} (hx:E.Lo w cs x G2):∀{ys:List (List Value)} {xs:List α} {G:List Nat},Cw E w ys.flatten xs G→(∀y∈ys,y.length=E.sz)→ys.length=xs.length→∀i,∃G',Cw E w (ys.set i cs).flatten (xs.set i x) G'∧∀b∈G',b∈G∨b∈G2
 | [],[],G,h,_,_,i=>⟨G,h,fun b hb=>.inl hb⟩
 | [],y::r,_,_,_,hl,_=>by simp at hl
 | y::r,[],_,_,_,hl,_=>by simp at hl
 | y::r,x1::s,G,h,hm,hl,i=>by
  obtain ⟨c1,c2,F1,F2,e,rfl,hr,hs⟩:=h;rw [List.flatten_cons] at e;obtain ⟨e1,e2⟩:=List.append_inj e (by rw [hm y GL,E.len hr]);subst e1 e2;cases i with
  | zero=>exact ⟨G2++F2,⟨cs,r.flatten,G2,F2,GL,rfl,hx,hs⟩,fun b hb=>by rcases List.mem_append.1 hb with hb|hb;exact .inr hb;exact .inl GT⟩
  | succ j =>
   obtain ⟨G',g1,g2⟩:=Ahu hx hs (fun z hz=>hm z JH) IH j;refine ⟨F1++G',⟨y,(r.set j cs).flatten,F1,G',GL,rfl,hr,g1⟩,fun b hb=>?_⟩;rcases List.mem_append.1 hb with hb|hb
   ·exact .inl GT
   ·rcases g2 b hb with h|h
    ·exact .inl JB
    ·exact .inr h
section
variable {c:Cx} {fr:Fr} {H:List Pc} {Φ:Gl}
theorem E5 {m:Nat} {t:TypeId} {a:Option Addr} {n cp:Nat} {ys:List (List Value)} {F:List Nat} (h:(∀y∈ys,y.length=m)→ys.length=n→T c fr H Φ) (hp:.ow (EC m) t (.slice a n cp) ys F∈H:=by exact Bp):T c fr H Φ:=.mk fun ac w s g=>by
 obtain ⟨hnd,ho⟩:=s.get hp;have key:(∀y∈ys,y.length=m)∧ys.length=n:=by
  rcases ho with ⟨e,rfl, -⟩|⟨b,cap,cs,rest,G,e,h2,h3,h4,h5,h6, -⟩
  ·cases e;exact ⟨GL,rfl⟩
  ·cases e;exact ⟨(Ajo h6).2.2,rfl⟩
 exact (h key.1 key.2).h ac w s g
theorem Bct {α:Type} {E:Bx α} {k:Nat} {v:Value} {xs:List α} {G:List Nat} (h:xs.length=k→T c fr H Φ) (hp:.isv (EA E k) v xs G∈H:=by exact Bp):T c fr H Φ:=.mk fun ac w s g=>by
 obtain ⟨cs,e,hl,hf⟩:=s.get hp;exact (h hl).h ac w s g
theorem Af4 {α:Type} {E:Bx α} {k:Nat} {ys:List (List Value)} {xs:List α} {G:List Nat} (i:Nat) (hm:∀y∈ys,y.length=E.sz) (hl:ys.length=xs.length) (h1:i < ys.length) (h:∀(h1:i < ys.length) (h2:i < xs.length) Gi,T c fr (.isv E (.agg ys[i].toArray) xs[i] Gi::H) Φ) (hp:.isv (EA E k) (.agg ys.flatten.toArray) xs G∈H:=by exact Bp):T c fr H Φ:=.mk fun ac w s g=>by
 obtain ⟨cs,e, -,hf⟩:=s.get hp;obtain rfl:ys.flatten=cs:=by simpa using e
 obtain ⟨Gi,g1,g2⟩:=Alg hf hm i h1 GJ;exact (h h1 GJ Gi).h ac w (s.ro hp rfl rfl ⟨_,rfl,g1⟩ g2) g
theorem Af5 {α:Type} {E:Bx α} {k:Nat} {ys:List (List Value)} {xs:List α} {G:List Nat} (i:Nat) (hm:∀y∈ys,y.length=E.sz) (hl:ys.length=xs.length) (h1:i < ys.length) (h:∀(h1:i < ys.length) (h2:i < xs.length) v Gi,v=.agg ys[i].toArray→T c fr (.isv E v xs[i] Gi::H) Φ) (hp:.isv (EA E k) (.agg ys.flatten.toArray) xs G∈H:=by exact Bp):T c fr H Φ:=Af4 i hm hl h1 (fun h1 h2 Gi=>h h1 h2 _ Gi rfl) hp
theorem Sm {α:Type} {E:Bx α} {k:Nat} {ys:List (List Value)} {xs:List α} {G G2:List Nat} {v:Value} {cs:List Value} {x:α} (i:Nat) (hv:v=.agg cs.toArray) (hm:∀y∈ys,y.length=E.sz) (hl:ys.length=xs.length) (h:∀G',T c fr (.isv (EA E k) (.agg (ys.set i cs).flatten.toArray) (xs.set i x) G'::H) Φ) (hp:.isv (EA E k) (.agg ys.flatten.toArray) xs G∈H:=by exact Bp) (hp2:.isv E v x G2∈H:=by exact Bp):T c fr H Φ:=.mk fun ac w s g=>by
 subst hv;obtain ⟨c1,e,hk,hf⟩:=s.get hp;obtain rfl:ys.flatten=c1:=by simpa using e
 obtain ⟨c2,e2,hx⟩:=s.get hp2;obtain rfl:cs=c2:=by simpa using e2
 obtain ⟨G',g1,g2⟩:=Ahu hx hf hm hl i;refine (h G').h ac w (s.add (N:=[.isv (EA E k) (.agg (ys.set i cs).flatten.toArray) (xs.set i x) G']) (Below.refl _ _) (by intro p hq;rw [List.mem_singleton] at hq;subst hq;exact ⟨_,rfl,by simpa using hk,g1⟩) ⟨GL,trivial⟩ ?_) g;intro p hq z hb;rw [List.mem_singleton] at hq;subst hq;rcases g2 z hb with hb|hb
 ·exact .inr ⟨rfl,_,hp,rfl,hb⟩
 ·exact .inr ⟨rfl,_,hp2,rfl,hb⟩
theorem Abf {α:Type} {E:Bx α} {hz:0 < E.sz} {v:Value} {x:List α} {G:List Nat} (h:∀a1 c1,v=.agg #[.slice a1 x.length c1]→x.length≤maxLen→T c fr (.sl E (.slice a1 x.length c1) x G::H) Φ) (hp:.isv (Nn E hz) v x G∈H:=by exact Bp):T c fr H Φ:=.mk fun ac w s g=>by
 obtain ⟨cs,rfl,v1,rfl,h1⟩:=s.get hp;obtain ⟨a1,c1,rfl⟩:=h1.slice;exact (h a1 c1 rfl h1.len).h ac w (s.ro hp rfl rfl ⟨hz,h1⟩ fun b hb=>hb) g
theorem Ab1 {α:Type} {E:Bx α} {v:Value} {x:List α} {G:List Nat} (hz:0 < E.sz) (h:T c fr (.isv (Nn E hz) (.agg #[v]) x G::H) Φ) (hp:.sl E v x G∈H:=by exact Bp):T c fr H Φ:=.mk fun ac w s g=>by
 obtain ⟨-,h1⟩:=s.get hp;exact h.h ac w (s.ro hp rfl rfl ⟨[v],rfl,v,rfl,h1⟩ fun b hb=>hb) g
end
end Go.Proofs.YtkagnmekdkchiaaGreatDoor
namespace Go.Proofs.YtkagnmekdkchiaaGreatDoor
open Go.RowKit
theorem Asg (s:Jp) (hss:s.data.size≤maxLen):Fn prog 86 [.agg #[.int .i64 s.Ct,.int .i64 s.node,.string s.data]] [] [] (fun (_:Unit)=>True) (fun _=>.bool (Ek s)) (fun _=>[]):=by
 refine enter func86 rfl ntmps86 fun w0=>?_;refine go ?_;intros;refine Be rfl (fun h1=>?_) (fun h1=>?_)
 ·rw [show Ek s=(decide (s.node=0) && P9 s.data) by unfold Ek;rw [if_pos h1]];refine go ?_;intros;refine Dj rfl rfl (fun h2=>?_) (fun h2=>?_)
  ·refine go ?_;intros;refine ce (fun w st=>Qn s.data 8 _ hss) ?_;exact CY
  ·exact CW
 refine go ?_;intros;refine Be rfl (fun h4=>?_) (fun h4=>?_)
 ·rw [show Ek s=(decide (s.node=0) && decide (s.data=⟨#[]⟩)) by unfold Ek;rw [if_neg h1,if_pos h4]];refine go ?_;intros;refine Dj rfl rfl (fun h2=>?_) (fun h2=>?_)
  ·exact CY
  ·exact CW
 rw [show Ek s=(Eu 1 s.Ct 6 && Eu 1 s.node 7 && decide (s.data=⟨#[]⟩)) by unfold Ek;rw [if_neg h1,if_neg h4];rfl];refine go ?_;intros;refine ce (fun w st=>Iq s.Ct 1 6 _) ?_;cases g1:Eu 1 s.Ct 6
 ·exact FF
 refine go ?_;intros;refine ce (fun w st=>Iq s.node 1 7 _) ?_;cases g2:Eu 1 s.node 7
 ·exact FF
 exact FF
theorem As6 {q ps:List Av} {k:Nat} (h:6≤(Gw q (ps.take k)).length):Gw q (ps.take k)=Gw q ps:=by
 unfold Gw at *;rw [List.length_append,List.length_take,List.length_take] at h;rw [List.take_take]
 congr 1
 by_cases h6:6≤q.length
 ·rw [show min (6 - q.length) k=6 - q.length by omega]
 ·by_cases hk:6 - q.length≤k
  ·rw [show min (6 - q.length) k=6 - q.length by omega]
  ·rw [show min (6 - q.length) k=k by omega,List.take_of_length_le GJ,List.take_of_length_le GJ]
theorem As7 {q ps:List Av} {k:Nat} (hk:k < ps.length) (h:(Gw q (ps.take k)).length < 6):Gw q (ps.take (k+1))=Gw q (ps.take k)++[ps[k]]:=by
 rw [List.take_succ_eq_append_getElem hk,Aim];unfold Ue;rw [if_pos h]
theorem Afc (q ps:List Av) (a:Option Addr) (c:Nat) (F:List Nat) (a2:Option Addr) (c2:Nat) (F2:List Nat) (hq:q.length≤1000000):Fn prog 191 [.slice a q.length c,.slice a2 ps.length c2] [.sl Aj (.slice a q.length c) q F,.sl Aj (.slice a2 ps.length c2) ps F2] [] (fun (_:KA)=>True) (fun z=>.slice z.a (Gw q ps).length z.c) (fun z=>[.ow Aj 159 (.slice z.a (Gw q ps).length z.c) (Gw q ps) z.F]):=by
 refine enter func191 rfl ntmps191 fun w0=>?_;refine Akg (E:=Aj) (xs:=ps) ?_;rintro _ _ e0 hn1 hn2;refine Akc (E:=Aj) (xs:=ps) (fun p:Av=>p.data.size≤maxLen) (fun w cs x F h=>by obtain ⟨_,h,_⟩:=h;exact h) ?_;intro hz;cases e0;refine go ?_;intros;refine C4 Aj ?_;refine go ?_;intros;apply wO;refine N3 Hf I3 fun a3 c3 F3=>?_;rw [List.nil_append];refine go ?_;intros;have e0:Gw q (ps.take 0)=q:=by unfold Gw;simp
 refine Ck [1,4] (fun z:KA=>[(5,.slice z.a (Gw q (ps.take z.k)).length z.c),(6,.int .i64 (z.k:Nat))]) (fun z=>[.ow Aj 159 (.slice z.a (Gw q (ps.take z.k)).length z.c) (Gw q (ps.take z.k)) z.F]) (fun z=>z.k≤ps.length) (fun z=>ps.length - z.k) ⟨0,a3,c3,F3⟩ (Nat.zero_le _) (fun z hz0=>?_) (hf:=by dsimp only;rw [e0];exact frE) (hH:=by dsimp only;rw [e0];exact Afr);have hql:(Gw q (ps.take z.k)).length≤q.length+ps.length:=by unfold Gw;rw [List.length_append,List.length_take,List.length_take];omega
 have hnn:ps.length≤9223372036854775807:=by omega
 refine go ?_;intros;refine Dj rfl rfl (fun h1=>?_) (fun h1=>?_)
 ·have hk:z.k < ps.length:=by omega
  refine go ?_;intros;refine Be rfl (fun h2=>?_) (fun h2=>?_)
  ·have h6:(Gw q (ps.take z.k)).length < 6:=by omega
   have hpz:=hz _ (List.getElem_mem hk);refine Qh (xs:=ps) z.k ?_;rintro hi3 b3 o3 e3 s3;rw [e3];refine go ?_;intros;apply wO;refine Oh (ys:=[ps[z.k]]) (C8 ps[z.k] hpz) Hf fun a7 c7 F7=>?_;rw [←As7 hk h6];refine go ?_;intros;refine Cu ⟨z.k+1,a7,c7,F7⟩ hk (by show ps.length - (z.k+1) < ps.length - z.k;omega)
  ·rw [As6 GJ];exact BO
 ·rw [show ps.take z.k=ps from List.take_of_length_le GJ];exact BO
theorem Awl {q ps:List Av} (h:q.length≤6):(Gw q ps).length≤6:=by unfold Gw;rw [List.length_append,List.length_take];omega
theorem Azp {d:List (List Av)} {i:Nat} {ps:List Av} (h:∀q∈d,q.length≤6):∀q∈d.modify i (fun q=>Gw q ps),q.length≤6:=fun q hq=>by
 by_cases hi:i < d.length
 ·rw [Hq hi] at hq;rcases List.mem_or_eq_of_mem_set hq with h'|rfl
  ·exact h q h'
  ·exact Awl (h _ (List.getElem_mem hi))
 ·rw [Y5 hi] at hq;exact h q hq
theorem Agb {ps:List Av}:∀{nodes:List Int} {d:List (List Av)},(∀q∈d,q.length≤6)→∀q∈Dg d nodes ps,q.length≤6
 | [],_,h=>h
 | x::r,d,h=>by
  show ∀q∈Dg (d.modify x.toNat fun q=>Gw q ps) r ps,q.length≤6;exact Agb (Azp h)
structure ShZ where
 k:Nat
 ys:List (List Value)
 F:List Nat
 G:List Nat
theorem Nf (d:List (List Av)) (nodes:List Int) (ps:List Av) (a1 a2 a3 a4 a5 a7:Option Addr) (l1 c1 l2 c2 l3 c3 l4 c4 l5 c5 l7 c7:Nat) (w1 w2 w3 w4:Int) (a:Option Addr) (n c:Nat) (ys:List (List Value)) (F G:List Nat) (an:Option Addr) (cn:Nat) (Fn_:List Nat) (ap:Option Addr) (cp:Nat) (Fp:List Nat) (hx:∀x∈nodes,0≤x∧x.toNat < d.length) (hd:∀q∈d,q.length≤6) :
  Fn prog 138 [.agg #[.slice a1 l1 c1,.int .i64 w1,.int .i64 w2,.slice a2 l2 c2,.int .i64 w3,.int .i64 w4,.slice a3 l3 c3,.slice a4 l4 c4,.slice a5 l5 c5,.slice a n c,.slice a7 l7 c7],.slice an nodes.length cn,.slice ap ps.length cp] [.sl Bc (.slice an nodes.length cn) nodes Fn_,.sl Aj (.slice ap ps.length cp) ps Fp,.isv (EA (Nn Aj GM) n) (.agg (ys).flatten.toArray) d G] [.ow (EC 1) 135 (.slice a n c) ys F] (fun (_:ShZ)=>True) (fun _=>.tuple #[]) (fun z=>[.ow (EC 1) 135 (.slice a n c) z.ys z.F,.isv (EA (Nn Aj GM) n) (.agg (z.ys).flatten.toArray) (Dg d nodes ps) z.G]):=by
 refine enter func138 rfl ntmps138 fun w0=>?_;refine Akg (E:=Bc) (xs:=nodes) ?_;rintro _ _ e0 hn1 hn2;cases e0;refine Bct (xs:=d) fun hdn=>?_;refine go ?_;intros;refine Ck [1,2,3] (fun z:ShZ=>[(6,.int .i64 (z.k:Nat))]) (fun z=>[.ow (EC 1) 135 (.slice a n c) z.ys z.F,.isv (EA (Nn Aj GM) n) (.agg (z.ys).flatten.toArray) (Dg d (nodes.take z.k) ps) z.G]) (fun z=>z.k≤nodes.length) (fun z=>nodes.length - z.k) ⟨0,ys,F,G⟩ (Nat.zero_le _) fun z hz0=>?_;have hsl:=Zb ps (nodes.take z.k) d;have hd6:=Agb (ps:=ps) (nodes:=nodes.take z.k) hd;refine go ?_;intros
 refine Be rfl (fun h1=>?_) (fun h1=>?_)
 ·have hk:z.k < nodes.length:=by omega
  obtain ⟨x0,x1⟩:=hx _ (List.getElem_mem hk);obtain ⟨i,hi⟩:∃i:Nat,nodes[z.k]=((i:Nat):Int):=⟨nodes[z.k].toNat,GJ⟩;have hil:i < (Dg d (nodes.take z.k) ps).length:=by omega
  have hst:=Ac8 (d:=d) (ps:=ps) hk;rw [show nodes[z.k].toNat=i by omega] at hst;unfold Qr at hst;rw [Hq hil] at hst;have h6:=hd6 _ (List.getElem_mem hil);refine Io (xs:=nodes) z.k ?_;rintro hi2 b o e1;rw [e1,hi];refine E5 (ys:=z.ys) fun hm hl=>?_;refine Af4 (ys:=z.ys) (xs:=Dg d (nodes.take z.k) ps) i hm GJ GJ fun h2 h3 Gi=>?_;refine Abf (x:=(Dg d (nodes.take z.k) ps)[i]) fun a9 c9 e9 l9=>?_;refine R5 (E:=EC 1) (xs:=z.ys) (m:=1) (Lh 1) i ?_ GP rfl h2;rintro _ g A cs B rfl k2 k3 hH;obtain ⟨k4, -, -⟩:=k3 w0
  have e8:z.ys[i]=[.slice a9 (Dg d (nodes.take z.k) ps)[i].length c9]:=by simpa using e9
  rw [e8] at k4;subst k4;dsimp only [List.append];refine go ?_;intros;refine At [0,3,5] [17] ?_;refine Dk 0 1 2 3 ?_;refine Dk 4 5 6 7 ?_;refine Dk 8 9 10 11 ?_;refine Dy 12 13 ?_;refine dt 14 ?_;refine dN 15 ?_;refine oC ?_;refine cf (Afc (Dg d (nodes.take z.k) ps)[i] ps a9 c9 _ ap cp Fp GJ) fun u _=>?_;refine Ar ?_;refine dk ?_;refine dt 16 ?_;refine dN 17 ?_;refine oS ?_;refine Rn ?_;refine dd ?_;refine Qv (E:=EC 1) (xs:=z.ys) [.slice u.a (Gw (Dg d (nodes.take z.k) ps)[i] ps).length u.c] hH (fun w=>⟨rfl,⟨rfl,HK⟩,rfl⟩) ?_
  refine A4 (E:=Aj) (xs:=Gw (Dg d (nodes.take z.k) ps)[i] ps) fun Fq=>?_;refine Ab1 (E:=Aj) (x:=Gw (Dg d (nodes.take z.k) ps)[i] ps) GM ?_;refine Sm (E:=Nn Aj GM) (ys:=z.ys) (xs:=Dg d (nodes.take z.k) ps) (x:=Gw (Dg d (nodes.take z.k) ps)[i] ps) i rfl hm GJ fun G'=>?_;rw [←hst];refine go ?_;intros;refine Cu ⟨z.k+1,z.ys.set i [.slice u.a (Gw (Dg d (nodes.take z.k) ps)[i] ps).length u.c],[g],G'⟩ hk (by show nodes.length - (z.k+1) < nodes.length - z.k;omega)
 ·rw [show nodes.take z.k=nodes from List.take_of_length_le GJ];refine go ?_;intros;refine Vc ?_;refine ret z trivial rfl
theorem Alt {l:List Int} (hg:Tn l) (i:Nat):P3 1 7 (H3 l ((i:Nat):Int))=true:=by
 refine Ain ?_ fun z hz=>?_
 ·unfold H3 Jr;rw [List.pairwise_map];exact (List.Pairwise.filter _ List.pairwise_lt_range).imp fun h=>by omega
 ·have:=La hg hz;have:=hg.n1;omega
structure ShA where
 ys:List (List Value)
 F:List Nat
 G:List Nat
structure SZ where
 e:ShA
 r:ShA
 d:ShA
 u:ShA
structure JE where
 g:Nat
 b:Option Addr
 d:Nat
 F:List Nat
 a:Option Addr
 c:Nat
 G:List Nat
theorem Ajw (n:Dt) (i:Nat) (p:Av) (a1:Option Addr) (c1:Nat) (a4:Option Addr) (c4:Nat) (a5:Option Addr) (c5:Nat) (a6:Option Addr) (c6:Nat) (a7:Option Addr) (c7:Nat) (a2 a3:Option Addr) (l2 c2 l3 c3:Nat) (w1 w2 w3 w4:Int) (F1:List Nat) (z:SZ) (FT:List Nat) (hl:Lc n=true) (hi:i < n.Al.Ad.length) (hi0:0 < i) (h8:Tn n.Al.Ad) (hr:Ed n.Al.Ad (i:Nat)=true→Bz (Pl n i)=true) (he:Ed n.Al.Ad (i:Nat)=false→Ba (O9 n i)=true) (hp:By p=true) (hps:p.data.size≤maxLen) (hd:∀q∈n.down,q.length≤6) :
  Fn prog 141 [.agg #[.slice a1 n.Al.Ad.length c1,.int .i64 w1,.int .i64 w2,.slice a2 l2 c2,.int .i64 w3,.int .i64 w4,.slice a3 l3 c3,.slice a4 n.Al.Ad.length c4,.slice a5 n.Al.Ad.length c5,.slice a6 n.Al.Ad.length c6,.slice a7 n.Al.Ad.length c7],.int .i64 (i:Nat),.agg #[.int .i64 (p).Ct,.int .i64 (p).Af,.int .i64 (p).Ao,.int .i64 (p).Ff,.string (p).data]] [Gc FT,.sl Bc (.slice a1 n.Al.Ad.length c1) n.Al.Ad F1,.isv (EA Bt n.Al.Ad.length) (.agg z.e.ys.flatten.toArray) n.Ae z.e.G,.isv (EA B4 n.Al.Ad.length) (.agg z.r.ys.flatten.toArray) n.Ac z.r.G,.isv (EA (Nn Aj GM) n.Al.Ad.length) (.agg z.d.ys.flatten.toArray) n.down z.d.G,.isv (EA (Nn Aj GM) n.Al.Ad.length) (.agg z.u.ys.flatten.toArray) n.up z.u.G] [.ow (EC 2) 110 (.slice a4 n.Al.Ad.length c4) z.e.ys z.e.F,.ow (EC 5) 117 (.slice a5 n.Al.Ad.length c5) z.r.ys z.r.F,.ow (EC 1) 135 (.slice a6 n.Al.Ad.length c6) z.d.ys z.d.F,.ow (EC 1) 135 (.slice a7 n.Al.Ad.length c7) z.u.ys z.u.F] (fun (_:SZ × KA)=>True) (fun y=>.slice y.2.a (Cq n i p).2.length y.2.c) (fun y=>[.ow (EC 2) 110 (.slice a4 n.Al.Ad.length c4) y.1.e.ys y.1.e.F,.ow (EC 5) 117 (.slice a5 n.Al.Ad.length c5) y.1.r.ys y.1.r.F,.ow (EC 1) 135 (.slice a6 n.Al.Ad.length c6) y.1.d.ys y.1.d.F,.ow (EC 1) 135 (.slice a7 n.Al.Ad.length c7) y.1.u.ys y.1.u.F,.isv (EA Bt n.Al.Ad.length) (.agg y.1.e.ys.flatten.toArray) (Cq n i p).1.Ae y.1.e.G,.isv (EA B4 n.Al.Ad.length) (.agg y.1.r.ys.flatten.toArray) (Cq n i p).1.Ac y.1.r.G,.isv (EA (Nn Aj GM) n.Al.Ad.length) (.agg y.1.d.ys.flatten.toArray) (Cq n i p).1.down y.1.d.G,.isv (EA (Nn Aj GM) n.Al.Ad.length) (.agg y.1.u.ys.flatten.toArray) (Cq n i p).1.up y.1.u.G,.ow A8 9 (.slice y.2.a (Cq n i p).2.length y.2.c) (Cq n i p).2 y.2.F]):=by
 obtain ⟨q1,q2,q3,q4⟩:=Bk.1 hl;have hn8:=h8.n1;obtain ⟨d0,d1_⟩:=Aa7 (i:=i);refine enter func141 rfl ntmps141 fun w0=>?_;refine Kq n.Al ?_;refine go ?_;intros;refine cf (Nt n.Al ((i:Nat):Int) _ F1 h8 GJ) fun _ _=>?_;refine Ar ?_;cases hlf:Ed n.Al.Ad (i:Nat)
 rotate_left
 ·have hir:i < n.Ac.length:=by omega
  have hgr:=D9.1 (Gh hir▸hr hlf);have hev:=(Tz (d:=Ms i) hgr hp d0 d1_).2;rw [show Cq n i p=(⟨n.Al,n.Aa,n.Ae,n.Ac.set i (Dc n.Ac[i] p (Ms i)),n.down,n.up⟩,Tj i (Hx n.Ac[i] p)) by unfold Cq;rw [if_pos hlf,Gh hir]];refine go ?_;intros;refine E5 (ys:=z.r.ys) fun hm hlr=>?_;refine Af5 (E:=B4) (ys:=z.r.ys) (xs:=n.Ac) i hm GJ GJ fun h2 h3 v Gi ev=>?_;refine Gt (v:=v) (x:=n.Ac[i]) ?_;rintro b1 d1 G1 b2 d2 G2 rfl l1 l2
  have e8:z.r.ys[i]=[.bool (n.Ac[i]).Bd,.int .i64 (n.Ac[i]).Ai,.int .i64 (n.Ac[i]).Ab.next,.slice b1 (n.Ac[i]).Ab.Ap.length d1,.slice b2 (n.Ac[i]).Am.length d2]:=by simpa using ev.symm
  refine R5 (E:=EC 5) (xs:=z.r.ys) (m:=5) (Lh 5) i ?_ GP rfl h2;rintro _ g A cs B rfl k2 k3 hH;obtain ⟨k4, -, -⟩:=k3 w0;rw [e8] at k4;subst k4;dsimp only [List.append];refine go ?_;intros
  refine Eg [1,3,5,6] [0,1,2,3,4,5,6,7,8,9,10,11,12,13,14,15] (fun w:Nat × NwS=>[(7,Hm w.1 0 0),(8,.slice w.2.ae (Hx n.Ac[i] p).length w.2.ce)]) (fun w=>[.row w.1 117 0 [] [.bool (Dc n.Ac[i] p (Ms i)).Bd,.int .i64 (Dc n.Ac[i] p (Ms i)).Ai,.int .i64 (Dc n.Ac[i] p (Ms i)).Ab.next,.slice w.2.a1 (Dc n.Ac[i] p (Ms i)).Ab.Ap.length w.2.c1,.slice w.2.a2 (Dc n.Ac[i] p (Ms i)).Am.length w.2.c2] [],.isv B4 (.agg #[.bool (Dc n.Ac[i] p (Ms i)).Bd,.int .i64 (Dc n.Ac[i] p (Ms i)).Ai,.int .i64 (Dc n.Ac[i] p (Ms i)).Ab.next,.slice w.2.a1 (Dc n.Ac[i] p (Ms i)).Ab.Ap.length w.2.c1,.slice w.2.a2 (Dc n.Ac[i] p (Ms i)).Am.length w.2.c2]) (Dc n.Ac[i] p (Ms i)) w.2.F1,.ow A8 9 (.slice w.2.ae (Hx n.Ac[i] p).length w.2.ce) (Hx n.Ac[i] p) w.2.Fe]) (fun _=>True) ?_ fun w _=>?_
  ·skip
   refine At [0,4,5] [] ?_;refine Dk 0 1 2 3 ?_;refine Dy 4 5 ?_;refine dt 6 ?_;refine dM 7 12 ?_ ?_
   ·refine oC ?_;refine cf (Ux i GJ) fun _ _=>?_;refine Ar ?_;refine dk ?_;refine dM 8 12 ?_ ?_
    ·refine oC ?_;refine cf (Abi n.Ac[i] p (Ms i) _ Gi hgr hp d0 d1_) fun s _=>?_;refine Ar ?_;refine dk ?_;refine Dy 9 10 ?_;refine dt 11 ?_;refine dN 12 ?_;apply Co;rfl;intro _;refine dk ?_;refine dN 13 ?_;refine oS ?_;refine dk ?_;refine dt 14 ?_;refine dd ?_;refine Bw (⟨_,s⟩:Nat × NwS) trivial
    ·apply Co;rfl;intro _;exact BR
   ·apply Co;rfl;intro _;refine dk ?_;refine dN 7 ?_;refine oC ?_;refine cf (Ux i GJ) fun _ _=>?_;refine Ar ?_;exact BR
  obtain ⟨gr,s⟩:=w;dsimp only;refine M7 ?_;intros;refine Qv (E:=EC 5) (xs:=z.r.ys) [.bool (Dc n.Ac[i] p (Ms i)).Bd,.int .i64 (Dc n.Ac[i] p (Ms i)).Ai,.int .i64 (Dc n.Ac[i] p (Ms i)).Ab.next,.slice s.a1 (Dc n.Ac[i] p (Ms i)).Ab.Ap.length s.c1,.slice s.a2 (Dc n.Ac[i] p (Ms i)).Am.length s.c2] hH (fun w=>⟨rfl,⟨rfl,HK⟩,rfl⟩) ?_;refine Sm (E:=B4) (ys:=z.r.ys) (xs:=n.Ac) (x:=Dc n.Ac[i] p (Ms i)) i rfl hm GJ fun G'=>?_;refine A4 (E:=A8) (xs:=Hx n.Ac[i] p) fun Fq=>?_;refine go ?_;intros
  refine cf (Ah9 i (Hx n.Ac[i] p) _ _ Fq FT GJ GJ (Ae6 hgr hp)) fun u _=>?_;refine Ar ?_;refine go ?_;intros;refine ret (⟨z.e,⟨z.r.ys.set i [.bool (Dc n.Ac[i] p (Ms i)).Bd,.int .i64 (Dc n.Ac[i] p (Ms i)).Ai,.int .i64 (Dc n.Ac[i] p (Ms i)).Ab.next,.slice s.a1 (Dc n.Ac[i] p (Ms i)).Ab.Ap.length s.c1,.slice s.a2 (Dc n.Ac[i] p (Ms i)).Am.length s.c2],[g],G'⟩,z.d,z.u⟩,u) trivial rfl
 ·have hir:i < n.Ae.length:=by omega
  have hge:Ba n.Ae[i]=true:=I5 hir▸he hlf;have hel:=(Gp.1 hge).2.1;have hkl:=T6 n.Al.Ad ((i:Nat):Int);have hkx:∀x∈H3 n.Al.Ad ((i:Nat):Int),0≤x∧x.toNat < n.down.length:=fun x hx=>by have:=La h8 hx;omega
  have hri:=Alt h8 i;refine go ?_;intros;refine cf (Pe n.Al ((i:Nat):Int) _ F1 (Rq h8.z GJ) ⟨GJ,GJ⟩) fun u _=>?_;refine Ar ?_;refine A4 (E:=Bc) (xs:=H3 n.Al.Ad ((i:Nat):Int)) fun Fk=>?_;refine go ?_;intros;refine Be rfl (fun hk=>?_) (fun hk=>?_)
  ·rw [show Cq n i p=(⟨n.Al,n.Aa,n.Ae.set i (Ph n.Ae[i] p.Af),n.Ac,Dg n.down (Tx n.Ae[i] p.Af (H3 n.Al.Ad ((i:Nat):Int))) [p],n.up⟩,[]) by unfold Cq Adj X7;rw [if_neg JV,if_pos hk,if_pos hk,I5 hir]];rw [←Ap1 hge hri];refine go ?_;intros;refine E5 (ys:=z.e.ys) fun hm hlr=>?_;refine Af5 (E:=Bt) (ys:=z.e.ys) (xs:=n.Ae) i hm GJ GJ fun h2 h3 v Gi ev=>?_;refine Ig (v:=v) (x:=n.Ae[i]) ?_;rintro b1 d1 G1 rfl l1;have e8:z.e.ys[i]=[.int .i64 n.Ae[i].Ai,.slice b1 n.Ae[i].Ah.length d1]:=by simpa using ev.symm
   refine R5 (E:=EC 2) (xs:=z.e.ys) (m:=2) (Lh 2) i ?_ GP rfl h2;rintro _ g A cs B rfl k2 k3 hH;obtain ⟨k4, -, -⟩:=k3 w0;rw [e8] at k4;subst k4;dsimp only [List.append];refine go ?_;intros
   refine Eg [1,3,5,6,9] [0,1,2,3,4,5,6,7,8,9,10,11,12,13,14,15] (fun w:JE=>[(10,Hm w.g 0 0),(11,.slice w.a (Zx n.Ae[i] p.Af (H3 n.Al.Ad ((i:Nat):Int))).length w.c)]) (fun w=>[.row w.g 110 0 [] [.int .i64 (Ph n.Ae[i] p.Af).Ai,.slice w.b (Ph n.Ae[i] p.Af).Ah.length w.d] [],.isv Bt (.agg #[.int .i64 (Ph n.Ae[i] p.Af).Ai,.slice w.b (Ph n.Ae[i] p.Af).Ah.length w.d]) (Ph n.Ae[i] p.Af) w.F,.ow Bc 3 (.slice w.a (Zx n.Ae[i] p.Af (H3 n.Al.Ad ((i:Nat):Int))).length w.c) (Zx n.Ae[i] p.Af (H3 n.Al.Ad ((i:Nat):Int))) w.G]) (fun _=>True) ?_ fun w _=>?_
   ·skip
    refine At [0,4,5] [] ?_;refine Dk 0 1 2 3 ?_;refine Dk 4 5 6 7 ?_;refine dM 8 12 ?_ ?_
    ·refine oC ?_;refine cf (Acu n.Ae[i] p.Af (H3 n.Al.Ad ((i:Nat):Int)) _ Gi u.a u.c Fk GJ (fun x hx=>by have:=Ol hge hx;omega) GJ) fun s _=>?_;refine Ar ?_;refine Hl ?_;rintro b3 d3 G3 es l3;rw [es];refine Gk (Ph n.Ae[i] p.Af) ?_;refine Xs Lk fun Fe=>?_;refine dk ?_;refine Dy 9 10 ?_;refine dt 11 ?_;refine dN 12 ?_;apply Co;rfl;intro _;refine dk ?_;exact GC
    ·apply Co;rfl;intro _;refine dk ?_;refine dN 8 ?_;refine oC ?_;refine cf (Acu n.Ae[i] p.Af (H3 n.Al.Ad ((i:Nat):Int)) _ Gi u.a u.c Fk GJ (fun x hx=>by have:=Ol hge hx;omega) GJ) fun s _=>?_;refine Ar ?_;refine Hl ?_;rintro b3 d3 G3 es l3;rw [es];refine Gk (Ph n.Ae[i] p.Af) ?_;refine Xs Lk fun Fe=>?_;refine dk ?_;refine Dy 9 10 ?_;refine dt 11 ?_;exact GC
   refine M7 ?_;intros;refine Qv (E:=EC 2) (xs:=z.e.ys) [.int .i64 (Ph n.Ae[i] p.Af).Ai,.slice w.b (Ph n.Ae[i] p.Af).Ah.length w.d] hH (fun _=>⟨rfl,⟨rfl,HK⟩,rfl⟩) ?_;refine Sm (E:=Bt) (ys:=z.e.ys) (xs:=n.Ae) (x:=Ph n.Ae[i] p.Af) i rfl hm GJ fun G'=>?_;refine A4 (E:=Bc) (xs:=Zx n.Ae[i] p.Af (H3 n.Al.Ad ((i:Nat):Int))) fun Fk2=>?_;refine Ic (E:=Aj) (xs:=[p]) (C8 p hps) ?_ GL;refine A4 (E:=Aj) (xs:=[p]) fun Fp=>?_;refine go ?_;intros
   refine cf (Nf n.down (Zx n.Ae[i] p.Af (H3 n.Al.Ad ((i:Nat):Int))) [p] _ _ _ _ _ _ _ _ _ _ _ _ _ _ _ _ _ _ _ _ _ _ _ _ _ z.d.ys z.d.F z.d.G _ _ Fk2 _ _ Fp (by rw [Ap1 hge hri];exact fun x hx=>hkx x (Zw x hx)) hd) fun y _=>?_;refine Ar ?_;refine go ?_;intros;refine C4 A8 ?_;refine go ?_;intros;refine ret (⟨⟨z.e.ys.set i [.int .i64 (Ph n.Ae[i] p.Af).Ai,.slice w.b (Ph n.Ae[i] p.Af).Ah.length w.d],[g],G'⟩,z.r,⟨y.ys,y.F,y.G⟩,z.u⟩,⟨0,_,_,_⟩) trivial rfl
  ·rw [show Cq n i p=(⟨n.Al,n.Aa,n.Ae,n.Ac,Dg n.down (H3 n.Al.Ad ((i:Nat):Int)) [p],n.up⟩,[]) by unfold Cq Adj X7;rw [if_neg JV,if_neg hk,if_neg hk]];refine M7 ?_;intros;refine Ic (E:=Aj) (xs:=[p]) (C8 p hps) ?_ GL;refine A4 (E:=Aj) (xs:=[p]) fun Fp=>?_;refine go ?_;intros;refine cf (Nf n.down (H3 n.Al.Ad ((i:Nat):Int)) [p] _ _ _ _ _ _ _ _ _ _ _ _ _ _ _ _ _ _ _ _ _ _ _ _ _ z.d.ys z.d.F z.d.G _ _ Fk _ _ Fp hkx hd) fun w _=>?_;refine Ar ?_;refine go ?_;intros;refine C4 A8 ?_;refine go ?_;intros;refine ret (⟨z.e,z.r,⟨w.ys,w.F,w.G⟩,z.u⟩,⟨0,_,_,_⟩) trivial rfl
structure RjS where
 g:Nat
 a:Option Addr
 c:Nat
 a2:Option Addr
 c2:Nat
 F:List Nat
structure Ayf where
 a:Option Addr
 c:Nat
 F:List Nat
theorem Ar7 (x:Cr) (n:Int) (v:Value) (F:List Nat) (t0:0≤x.Ab.Ao) (t1:x.Ab.Ao≤65535) (hm:x.holds.length≤1000) (hn:Ago x.holds) (n0:-1≤n) (n1:n≤65536) :
  Fn prog 260 [v,.int .i64 n] [.isv D7 v x F] [] (fun (_:Unit)=>True) (fun _=>.tuple #[.int .i64 (Fm x.Ab.Ao x.holds n:Nat),.bool (N2 x.Ab.Ao x.holds n)]) (fun _=>[]):=by
 refine enter func260 rfl ntmps260 fun w0=>?_;refine Jh ?_;rintro a1 c1 F1 a2 c2 F2 rfl l1 l2;refine go ?_;intros;refine Ev [1,2,4,5] (fun k:Nat=>[(6,.int .i64 (k:Nat))]) (fun k=>k≤x.holds.length∧∀j (_:j < k) (h:j < x.holds.length),gp x.Ab.Ao x.holds[j].Af < gp x.Ab.Ao n) (fun k=>x.holds.length - k) 0 ⟨Nat.zero_le _,fun j h=>by omega⟩ fun k hk=>?_;obtain ⟨hk1,hk2⟩:=hk;by_cases hlt:k < x.holds.length
 ·obtain ⟨m0,m1⟩:=hn x.holds[k] (List.getElem_mem hlt);refine V1 (xs:=x.holds) k ?_;rintro hi b o e;rw [e];refine go ?_;intros;refine At [0,1] [] ?_;refine Dk 0 1 2 3 ?_;refine dt 4 ?_;rw [decide_eq_true (show (k:Int) < x.holds.length by omega)];refine dt 5 ?_;refine Di 6 ?_;refine Di 7 ?_;refine Di 8 ?_;refine Di 9 ?_;refine Di 10 ?_;refine Di 11 ?_;refine Di 12 ?_;refine Di 13 ?_;refine Di 14 ?_;refine Di 16 ?_;refine Di 17 ?_;refine Di 18 ?_;refine Di 19 ?_;refine d1g 15 ?_;apply On.h;refine oC ?_;refine ce (fun w s=>I1 _ _ _ GJ GJ) ?_;refine dk ?_;refine d1g 20 ?_
  apply On.h;refine oC ?_;refine ce (fun w s=>I1 _ _ _ GJ GJ) ?_;refine dk ?_;refine Di 21 ?_;refine dt 22 ?_;refine dd ?_;refine go ?_;intros;refine Be rfl (fun h=>?_) (fun h=>?_)
  ·refine go ?_;intros;refine Cu (k+1) ⟨hlt,fun j hj hh=>?_⟩ GJ;rcases Nat.lt_or_eq_of_le (Nat.lt_succ_iff.1 hj) with h2|rfl
   ·exact hk2 j h2 hh
   ·exact h
  ·have hh:Fm x.Ab.Ao x.holds n=k:=W4 hk1 (fun j hj h=>decide_eq_true (hk2 j hj h)) (fun _=>decide_eq_false h);have ht:N2 x.Ab.Ao x.holds n=decide (x.holds[k].Af=n):=by unfold N2;rw [hh,List.getElem?_eq_getElem hlt]
   rw [ht,hh];refine go ?_;intros;refine At [0,1] [] ?_;refine Dk 0 1 2 3 ?_;refine Dy 4 5 ?_;rw [decide_eq_true (show (k:Int) < x.holds.length by omega)];refine dt 6 ?_;refine Di 7 ?_;refine Di 8 ?_;refine Di 9 ?_;refine Di 10 ?_;refine Di 11 ?_;refine Di 12 ?_;refine Di 13 ?_;refine Di 14 ?_;refine Dy 15 16 ?_;refine dt 17 ?_;exact CT
 ·have hh:Fm x.Ab.Ao x.holds n=k:=W4 hk1 (fun j hj h=>decide_eq_true (hk2 j hj h)) (fun h=>absurd h hlt);have ht:N2 x.Ab.Ao x.holds n=false:=by unfold N2;rw [hh,List.getElem?_eq_none GJ]
  rw [ht,hh];refine go ?_;intros;refine At [0] [] ?_;refine Dk 0 1 2 3 ?_;refine dt 4 ?_;rw [decide_eq_false (show ¬(k:Int) < x.holds.length by omega)];refine dt 5 ?_;refine ds 6 ?_;refine ds 7 ?_;refine ds 8 ?_;refine ds 9 ?_;refine ds 10 ?_;refine ds 11 ?_;refine ds 12 ?_;refine ds 13 ?_;refine ds 14 ?_;refine ds 15 ?_;refine ds 16 ?_;refine ds 17 ?_;refine ds 18 ?_;refine ds 19 ?_;refine ds 20 ?_;refine ds 21 ?_;refine dt 22 ?_;refine dd ?_;refine go ?_;intros;refine At [0] [] ?_;refine Dk 0 1 2 3 ?_;refine Dy 4 5 ?_;rw [decide_eq_false (show ¬(k:Int) < x.holds.length by omega)]
  refine dt 6 ?_;refine ds 7 ?_;refine ds 8 ?_;refine ds 9 ?_;refine ds 10 ?_;refine ds 11 ?_;refine ds 12 ?_;refine ds 13 ?_;refine ds 14 ?_;refine Dy 15 16 ?_;refine dt 17 ?_;exact CT
theorem Ag2 (x:Cr) (p:Av) (v:Value) (F:List Nat) (t0:0≤x.Ab.Ao) (t1:x.Ab.Ao≤65535) (hl:x.Ab.Ak.length≤6) (k0:0≤x.Ai) (k1:x.Ai≤99999) (hm:x.holds.length≤900) (hn:Ago x.holds) (n0:-1≤p.Af) (n1:p.Af≤65536) (hps:p.data.size≤maxLen) (hans:(Dr x.Ab p).1.data.size≤maxLen) :
  Fn prog 199 [v,.agg #[.int .i64 p.Ct,.int .i64 p.Af,.int .i64 p.Ao,.int .i64 p.Ff,.string p.data]] [.isv D7 v x F] [] (fun (_:TiS)=>True) (fun s=>.tuple #[.agg #[.int .i64 (N9 x p.Af).Ab.Ao,.int .i64 (N9 x p.Af).Ab.size,.slice s.a (N9 x p.Af).Ab.Ak.length s.c,.int .i64 (N9 x p.Af).Ai,.int .i64 (N9 x p.Af).quiet,.slice s.a2 (N9 x p.Af).holds.length s.c2],.slice s.ae (M8 x p).length s.ce])
   (fun s=>[.isv D7 (.agg #[.int .i64 (N9 x p.Af).Ab.Ao,.int .i64 (N9 x p.Af).Ab.size,.slice s.a (N9 x p.Af).Ab.Ak.length s.c,.int .i64 (N9 x p.Af).Ai,.int .i64 (N9 x p.Af).quiet,.slice s.a2 (N9 x p.Af).holds.length s.c2]) (N9 x p.Af) s.F,.ow Aj 159 (.slice s.ae (M8 x p).length s.ce) (M8 x p) s.Fe]):=by
 refine enter func199 rfl ntmps199 fun w0=>?_;refine Jh ?_;rintro a1 c1 F1 a2 c2 F2 rfl l1 l2;refine Ds x.Ab (a1:=a1) ?_;generalize F1=F3;refine go ?_;intros
 refine Eg [2,3,4,5] [0,1,2,3,4,5,6] (fun s:RjS=>[(6,Hm s.g 0 0)]) (fun s=>[.row s.g 43 0 [] [.int .i64 x.Ab.Ao,.int .i64 x.Ab.size,.slice s.a x.Ab.Ak.length s.c,.int .i64 x.Ai,.int .i64 x.quiet,.slice s.a2 (I7 x.Ab x.Ai x.holds).length s.c2] [],.isv D7 (.agg #[.int .i64 x.Ab.Ao,.int .i64 x.Ab.size,.slice s.a x.Ab.Ak.length s.c,.int .i64 x.Ai,.int .i64 x.quiet,.slice s.a2 (I7 x.Ab x.Ai x.holds).length s.c2]) (W8 x x.Ab) s.F]) (fun _=>True) ?_ fun s _=>?_
 ·refine M7 ?_;intros;refine At [1,2] [] ?_;refine Dy 0 1 ?_;refine dt 2 ?_;refine dM 3 5 ?_ ?_
  ·refine oC ?_;refine cf (Rr x.Ab _ F3 t0 t1 GJ) fun y _=>?_;refine Ar ?_;refine Jg ?_;rintro a5 c5 F5 e5 l5;rw [e5];refine A4 (xs:=x.Ab.Ak) fun F8=>?_;refine Ds x.Ab (a1:=a5) ?_;refine dk ?_;refine dM 4 5 ?_ ?_
   ·refine oC ?_;refine cf (Sb x x.Ab _ _ F _ t0 t1 GJ hn) fun z _=>?_;refine Ar ?_;refine dk ?_;refine dN 5 ?_;apply Co;rfl;intro _;exact BT
   ·apply Co;rfl;intro _;exact FR
  ·apply Co;rfl;intro _;refine dk ?_;refine dN 3 ?_;refine oC ?_;refine cf (Rr x.Ab _ F3 t0 t1 GJ) fun y _=>?_;refine Ar ?_;refine Jg ?_;rintro a5 c5 F5 e5 l5;rw [e5];refine A4 (xs:=x.Ab.Ak) fun F8=>?_;refine Ds x.Ab (a1:=a5) ?_;exact FR
 refine go ?_;intros;refine cb (fun w st=>(Xk x.Ab p.Af _ F3 t0 t1 n0 n1).val w (I9 (st.get (p:=.isv Cd (.agg #[.int .i64 x.Ab.Ao,.int .i64 x.Ab.size,.slice a1 x.Ab.Ak.length c1]) x.Ab F3) GL))) ?_;cases hb:Ik x.Ab p.Af
 ·have e1:N9 x p.Af=W8 x x.Ab:=by unfold N9;rw [hb];rfl
  have e2:M8 x p=[Q4 x.Ab]:=by unfold M8;rw [hb];rfl
  rw [e1,e2];refine go ?_;intros;refine At [0,4] [] ?_;refine Dy 0 1 ?_;refine dt 2 ?_;refine dN 3 ?_;refine oC ?_;refine cf (Y2 x.Ab.Ao x.Ab.size _ x.Ab.Ak.length _ t0 t1 GJ) fun _ _=>?_;refine Ar ?_;refine dk ?_;refine dM 4 5 ?_ ?_
  ·apply Km;rfl;rfl;rfl;rfl;exact Ke;exact Jy;intro _;refine dk ?_;refine dN 5 ?_;refine oS ?_;exact CI
  ·refine oS ?_;refine dk ?_;refine dN 4 ?_;apply Km;rfl;rfl;rfl;rfl;exact Ke;exact Jy;intro _;exact CI
 refine go ?_;intros;refine At [3,4] [] ?_;refine Dk 0 1 2 3 ?_;refine Dy 4 5 ?_;refine dt 6 ?_;refine dN 7 ?_;refine oC ?_;refine cb (fun w _=>Sd _ _ _ _ _ w t0 t1 GJ) ?_;refine dk ?_;refine dt 8 ?_;refine dN 9 ?_;apply Km;rfl;rfl;rfl;rfl;exact Ke;exact Jy;intro _;refine dk ?_;refine dt 10 ?_;refine dd ?_;refine M7 ?_;intros;refine Ic (xs:=[Zs x.Ab p.Af]) (C8 _ IK) ?_ GL;refine go ?_;intros;refine cf (Ar7 x p.Af _ F t0 t1 GJ hn n0 n1) fun _ _=>?_;refine Ar ?_;cases ht:N2 x.Ab.Ao x.holds p.Af
 ·have e1:N9 x p.Af=⟨x.Ab,x.Ai,x.quiet,(No x.holds (Fm x.Ab.Ao x.holds p.Af) ⟨p.Af,x.Ai+3⟩)⟩:=by unfold N9;rw [hb,ht];rfl
  have e2:M8 x p=[Zs x.Ab p.Af]++[(Dr x.Ab p).1]:=by unfold M8;rw [hb,ht];rfl
  rw [e1,e2];have hkk:=Xf x.Ab.Ao x.holds p.Af;refine Akg (E:=Bi) (xs:=x.holds) ?_;rintro _ _ e8 q1 q2;cases e8;refine go ?_;intros;refine cb (fun w st=>(Af7 x.Ab p _ F3 hps).val w (I9 (st.get (p:=.isv Cd (.agg #[.int .i64 x.Ab.Ao,.int .i64 x.Ab.size,.slice a1 x.Ab.Ak.length c1]) x.Ab F3) GL))) ?_;refine go ?_;intros;refine Aqr (E:=Bi) (xs:=x.holds) (Fm x.Ab.Ao x.holds p.Af) (fun FT=>?_) hkk;obtain ⟨T1,hT1⟩:∃T1,T1=x.holds.take (Fm x.Ab.Ao x.holds p.Af):=⟨_,rfl⟩;have hT1l:T1.length=Fm x.Ab.Ao x.holds p.Af:=by rw [hT1,List.length_take];omega
  rw [←hT1];have hAdd:T1++[⟨p.Af,x.Ai+3⟩]++x.holds.drop (Fm x.Ab.Ao x.holds p.Af)=(No x.holds (Fm x.Ab.Ao x.holds p.Af) ⟨p.Af,x.Ai+3⟩):=by rw [hT1];unfold No;simp
  refine Eg [4,5,6,7,10] [0,1,2,3,5,6,7,8,9,10,11,12] (fun _:Ayf=>[]) (fun z=>[.row s.g 43 0 [] [.int .i64 x.Ab.Ao,.int .i64 x.Ab.size,.slice s.a x.Ab.Ak.length s.c,.int .i64 x.Ai,.int .i64 x.quiet,.slice z.a (No x.holds (Fm x.Ab.Ao x.holds p.Af) ⟨p.Af,x.Ai+3⟩).length z.c] [],.ow Bi 156 (.slice z.a (No x.holds (Fm x.Ab.Ao x.holds p.Af) ⟨p.Af,x.Ai+3⟩).length z.c) (No x.holds (Fm x.Ab.Ao x.holds p.Af) ⟨p.Af,x.Ai+3⟩) z.F]) (fun _=>True) ?_ fun z _=>?_
  ·refine M7 ?_;intros;refine At [1,8] [] ?_;refine Dy 1 2 ?_;refine dt 3 ?_;refine dt 4 ?_ (hy:=Og (i:=T1.length) rfl rfl (by rw [hT1l]) GJ GJ);refine Dk 6 9 10 11 ?_;refine Anx 12 (Fm x.Ab.Ao x.holds p.Af) (fun a6 c6 F6=>?_);refine dM 0 7 ?_ ?_
   ·apply Lr;rfl;intro _;refine C4 Bi ?_;refine dk ?_;refine dM 5 7 ?_ ?_
    ·refine N3 (ys:=T1) Jc Lp fun a7 c7 F7=>?_;rw [List.nil_append];refine dk ?_;refine dN 7 ?_;apply Km;rfl;rfl;rfl;rfl;exact Ke;exact Jy;intro _;exact AJ
    ·apply Km;rfl;rfl;rfl;rfl;exact Ke;exact Jy;intro _;refine dk ?_;refine dN 5 ?_;refine N3 (ys:=T1) Jc Lp fun a7 c7 F7=>?_;rw [List.nil_append];exact AJ
   ·apply Km;rfl;rfl;rfl;rfl;exact Ke;exact Jy;intro _;refine dk ?_;refine dN 0 ?_;apply Lr;rfl;intro _;refine C4 Bi ?_;refine dk ?_;refine dN 5 ?_;refine N3 (ys:=T1) Jc Lp fun a7 c7 F7=>?_;rw [List.nil_append];exact AJ
  refine Jh (x:=W8 x x.Ab) ?_;rintro b1 d1 G1 b2 d2 G2 e5 m1 m2;simp only [Value.agg.injEq,Array.mk.injEq,List.cons.injEq,Value.slice.injEq,Value.int.injEq,true_and,and_true] at e5;obtain ⟨-, -,⟨rfl, -,rfl⟩, -⟩:=e5;refine A4 (E:=Bi) fun F9=>?_;refine Gf ⟨x.Ab,x.Ai,x.quiet,(No x.holds (Fm x.Ab.Ao x.holds p.Af) ⟨p.Af,x.Ai+3⟩)⟩ (a1:=s.a) ?_;refine go ?_;intros;refine At [4,7] [] ?_;refine Dy 0 1 ?_;refine dt 2 ?_;refine dN 3 ?_;apply Km;rfl;rfl;rfl;rfl;exact Ke;exact Jy;intro _;refine dk ?_;refine dN 4 ?_;refine Oh (C8 (Dr x.Ab p).1 hans) Hf fun a9 c9 F9=>?_;refine dk ?_;refine dN 5 ?_
  refine oS ?_;refine dk ?_;refine dt 6 ?_;refine dd ?_;refine go ?_;intros;refine ret ⟨s.a,s.c,z.a,z.c,_,a9,c9,F9⟩ trivial rfl
 ·have e1:N9 x p.Af=W8 x x.Ab:=by unfold N9;rw [hb,ht];rfl
  have e2:M8 x p=[Zs x.Ab p.Af]:=by unfold M8;rw [hb,ht];rfl
  rw [e1,e2];refine go ?_;intros;refine ret ⟨s.a,s.c,s.a2,s.c2,s.F,_,_,_⟩ trivial rfl
theorem Aju (x:Cr) (p:Av) (v:Value) (F:List Nat) (hg:Ch x=true) (n0:0≤p.Af) (n1:p.Af≤65535) (hps:p.data.size≤maxLen) :
  Fn prog 199 [v,.agg #[.int .i64 p.Ct,.int .i64 p.Af,.int .i64 p.Ao,.int .i64 p.Ff,.string p.data]] [.isv D7 v x F] [] (fun (_:TiS)=>True) (fun s=>.tuple #[.agg #[.int .i64 (L0 x p.Af).Ab.Ao,.int .i64 (L0 x p.Af).Ab.size,.slice s.a (L0 x p.Af).Ab.Ak.length s.c,.int .i64 (L0 x p.Af).Ai,.int .i64 (L0 x p.Af).quiet,.slice s.a2 (L0 x p.Af).holds.length s.c2],.slice s.ae (M8 x p).length s.ce])
   (fun s=>[.isv D7 (.agg #[.int .i64 (L0 x p.Af).Ab.Ao,.int .i64 (L0 x p.Af).Ab.size,.slice s.a (L0 x p.Af).Ab.Ak.length s.c,.int .i64 (L0 x p.Af).Ai,.int .i64 (L0 x p.Af).quiet,.slice s.a2 (L0 x p.Af).holds.length s.c2]) (L0 x p.Af) s.F,.ow Aj 159 (.slice s.ae (M8 x p).length s.ce) (M8 x p) s.Fe]):=by
 obtain ⟨gw,hl,t0,t1,k0,k1,hm,hn,hu,hb⟩:=Kx hg;have h:=Ag2 x p v F t0 t1 hl k0 GJ GJ (Aeb hn) GJ GJ hps (Ael gw);rw [Awu hg] at h;exact h
structure JU where
 g:Nat
 b:Option Addr
 d:Nat
 F:List Nat
theorem Azi (n:Dt) (i:Nat) (p:Av) (a1:Option Addr) (c1:Nat) (a4:Option Addr) (c4:Nat) (a5:Option Addr) (c5:Nat) (a6:Option Addr) (c6:Nat) (a7:Option Addr) (c7:Nat) (a2 a3:Option Addr) (c2 c3:Nat) (F1 FS:List Nat) (z:SZ) (hl:Lc n=true) (h0:i≠0) (hi:i < n.Al.Ad.length) (h8:Tn n.Al.Ad) (hsrc:Ch n.Aa=true) (he:∀k,k≠0→k < n.Al.Ad.length→Ed n.Al.Ad (k:Nat)=false→Ba (O9 n k)=true) (hp:By p=true) (hps:p.data.size≤maxLen) (hd:∀q∈n.down,q.length≤6) (hu:∀q∈n.up,q.length≤6) :
  Fn prog 142 [.agg #[.slice a1 n.Al.Ad.length c1,.int .i64 n.Aa.Ab.Ao,.int .i64 n.Aa.Ab.size,.slice a2 n.Aa.Ab.Ak.length c2,.int .i64 n.Aa.Ai,.int .i64 n.Aa.quiet,.slice a3 n.Aa.holds.length c3,.slice a4 n.Al.Ad.length c4,.slice a5 n.Al.Ad.length c5,.slice a6 n.Al.Ad.length c6,.slice a7 n.Al.Ad.length c7],.int .i64 (i:Nat),.agg #[.int .i64 (p).Ct,.int .i64 (p).Af,.int .i64 (p).Ao,.int .i64 (p).Ff,.string (p).data]] [.sl Bc (.slice a1 n.Al.Ad.length c1) n.Al.Ad F1,.isv D7 (.agg #[.int .i64 n.Aa.Ab.Ao,.int .i64 n.Aa.Ab.size,.slice a2 n.Aa.Ab.Ak.length c2,.int .i64 n.Aa.Ai,.int .i64 n.Aa.quiet,.slice a3 n.Aa.holds.length c3]) n.Aa FS,.isv (EA Bt n.Al.Ad.length) (.agg z.e.ys.flatten.toArray) n.Ae z.e.G,.isv (EA B4 n.Al.Ad.length) (.agg z.r.ys.flatten.toArray) n.Ac z.r.G,.isv (EA (Nn Aj GM) n.Al.Ad.length) (.agg z.d.ys.flatten.toArray) n.down z.d.G,.isv (EA (Nn Aj GM) n.Al.Ad.length) (.agg z.u.ys.flatten.toArray) n.up z.u.G] [.ow (EC 2) 110 (.slice a4 n.Al.Ad.length c4) z.e.ys z.e.F,.ow (EC 5) 117 (.slice a5 n.Al.Ad.length c5) z.r.ys z.r.F,.ow (EC 1) 135 (.slice a6 n.Al.Ad.length c6) z.d.ys z.d.F,.ow (EC 1) 135 (.slice a7 n.Al.Ad.length c7) z.u.ys z.u.F] (fun (_:SZ × Ajg)=>True) (fun y=>.agg #[.int .i64 ((Oy n i p).Aa).Ab.Ao,.int .i64 ((Oy n i p).Aa).Ab.size,.slice y.2.a ((Oy n i p).Aa).Ab.Ak.length y.2.c,.int .i64 ((Oy n i p).Aa).Ai,.int .i64 ((Oy n i p).Aa).quiet,.slice y.2.a2 ((Oy n i p).Aa).holds.length y.2.c2]) (fun y=>[.ow (EC 2) 110 (.slice a4 n.Al.Ad.length c4) y.1.e.ys y.1.e.F,.ow (EC 5) 117 (.slice a5 n.Al.Ad.length c5) y.1.r.ys y.1.r.F,.ow (EC 1) 135 (.slice a6 n.Al.Ad.length c6) y.1.d.ys y.1.d.F,.ow (EC 1) 135 (.slice a7 n.Al.Ad.length c7) y.1.u.ys y.1.u.F,.isv (EA Bt n.Al.Ad.length) (.agg y.1.e.ys.flatten.toArray) (Oy n i p).Ae y.1.e.G,.isv (EA B4 n.Al.Ad.length) (.agg y.1.r.ys.flatten.toArray) (Oy n i p).Ac y.1.r.G,.isv (EA (Nn Aj GM) n.Al.Ad.length) (.agg y.1.d.ys.flatten.toArray) (Oy n i p).down y.1.d.G,.isv (EA (Nn Aj GM) n.Al.Ad.length) (.agg y.1.u.ys.flatten.toArray) (Oy n i p).up y.1.u.G,.isv D7 (.agg #[.int .i64 ((Oy n i p).Aa).Ab.Ao,.int .i64 ((Oy n i p).Aa).Ab.size,.slice y.2.a ((Oy n i p).Aa).Ab.Ak.length y.2.c,.int .i64 ((Oy n i p).Aa).Ai,.int .i64 ((Oy n i p).Aa).quiet,.slice y.2.a2 ((Oy n i p).Aa).holds.length y.2.c2]) (Oy n i p).Aa y.2.F]):=by
 obtain ⟨q1,q2,q3,q4⟩:=Bk.1 hl;have hn8:=h8.n1;obtain ⟨n0,n1⟩:=Jz hp;have hone:∀x∈[((i:Nat):Int)],0≤x∧x.toNat < n.down.length:=fun x hx=>by
  rw [List.mem_singleton] at hx;subst hx;omega
 obtain ⟨k,hk⟩:∃k,X0 n i=k:=⟨_,rfl⟩;obtain ⟨e1,e2,e3⟩:=Aqg h8 hi h0 hk;refine enter func142 rfl ntmps142 fun w0=>?_;refine Io (xs:=n.Al.Ad) i ?_;rintro hi2 b o e4;rw [e4,e1];refine go ?_;intros;refine Be rfl (fun h5=>?_) (fun h5=>?_)
 ·obtain rfl:k=0:=by omega
  rw [show Oy n i p=⟨n.Al,L0 n.Aa p.Af,n.Ae,n.Ac,Dg n.down [((i:Nat):Int)] (M8 n.Aa p),n.up⟩ by unfold Oy;rw [if_pos hk]];refine go ?_;intros;refine cf (Aju n.Aa p _ FS hsrc n0 n1 hps) fun u _=>?_;refine Ar ?_;refine M7 ?_;intros;refine Ic (E:=Bc) (xs:=[((i:Nat):Int)]) (Pp _) ?_ GL;refine A4 (E:=Bc) (xs:=[((i:Nat):Int)]) fun Fo=>?_;refine A4 (E:=Aj) (xs:=M8 n.Aa p) fun Fq=>?_;refine go ?_;intros;refine cf (Nf n.down [((i:Nat):Int)] (M8 n.Aa p) _ _ _ _ _ _ _ _ _ _ _ _ _ _ _ _ _ _ _ _ _ _ _ _ _ z.d.ys z.d.F z.d.G _ _ Fo _ _ Fq hone hd) fun y _=>?_;refine Ar ?_;refine go ?_;intros
  refine ret (⟨⟨z.e,z.r,⟨y.ys,y.F,y.G⟩,z.u⟩,⟨u.a,u.c,u.a2,u.c2,u.F⟩⟩:SZ × Ajg) trivial rfl
 have h6:k≠0:=by omega
 have hkl:k < n.Ae.length:=by omega
 have hku:k < n.up.length:=by omega
 have hge:Ba n.Ae[k]=true:=I5 hkl▸he k h6 GJ e3;have hel:=(Gp.1 hge).2.1;obtain ⟨hc0,hc1⟩:=Nr.1 (Gp.1 hge).1;rw [show Oy n i p=⟨n.Al,n.Aa,n.Ae.set k (N1 n.Ae[k] p.Af ((i:Nat):Int)),n.Ac,Dg n.down [((i:Nat):Int)] [Yq p],if Abb n.Ae[k] p.Af then n.up.modify k fun q=>Gw q [p] else n.up⟩ by unfold Oy;rw [if_neg GJ,hk,I5 hkl]];refine go ?_;intros;refine E5 (ys:=z.e.ys) fun hm hlr=>?_;refine Af5 (E:=Bt) (ys:=z.e.ys) (xs:=n.Ae) k hm GJ GJ fun h2 h3 v Gi ev=>?_;refine Ig (v:=v) (x:=n.Ae[k]) ?_;rintro b1 d1 G1 rfl l1
 have e8:z.e.ys[k]=[.int .i64 n.Ae[k].Ai,.slice b1 n.Ae[k].Ah.length d1]:=by simpa using ev.symm
 refine R5 (E:=EC 2) (xs:=z.e.ys) (m:=2) (Lh 2) k ?_ GP rfl h2;rintro _ g A cs B rfl k2 k3 hH;obtain ⟨k4, -, -⟩:=k3 w0;rw [e8] at k4;subst k4;dsimp only [List.append];refine go ?_;intros
 refine Eg [1,3,5,6,7] [0,1,2,3,4,5,6,7,8,9,10,11,12,13,14,15] (fun w:JU=>[(10,Hm w.g 0 0),(11,.bool (Abb n.Ae[k] p.Af))]) (fun w=>[.row w.g 110 0 [] [.int .i64 (N1 n.Ae[k] p.Af ((i:Nat):Int)).Ai,.slice w.b (N1 n.Ae[k] p.Af ((i:Nat):Int)).Ah.length w.d] [],.isv Bt (.agg #[.int .i64 (N1 n.Ae[k] p.Af ((i:Nat):Int)).Ai,.slice w.b (N1 n.Ae[k] p.Af ((i:Nat):Int)).Ah.length w.d]) (N1 n.Ae[k] p.Af ((i:Nat):Int)) w.F]) (fun _=>True) ?_ fun w _=>?_
 ·skip
  refine At [0,4,5] [] ?_;refine Dk 0 1 2 3 ?_;refine Dk 4 5 6 7 ?_;refine dM 8 12 ?_ ?_
  ·refine oC ?_;refine cf (Z7 n.Ae[k] p.Af ((i:Nat):Int) _ Gi GJ (fun x hx=>by have:=Ol hge hx;omega) GJ GJ) fun s _=>?_;refine Ar ?_;refine Hl ?_;rintro b3 d3 G3 es l3;rw [es];refine Gk (N1 n.Ae[k] p.Af ((i:Nat):Int)) ?_;refine Xs Lk fun Fe=>?_;refine dk ?_;refine Dy 9 10 ?_;refine dt 11 ?_;refine dN 12 ?_;apply Co;rfl;intro _;refine dk ?_;refine dN 13 ?_;refine oS ?_;refine dk ?_;refine dt 14 ?_;refine dd ?_;refine Bw (⟨_,b3,d3,Fe⟩:JU) trivial
  ·apply Co;rfl;intro _;refine dk ?_;refine dN 8 ?_;refine oC ?_;refine cf (Z7 n.Ae[k] p.Af ((i:Nat):Int) _ Gi GJ (fun x hx=>by have:=Ol hge hx;omega) GJ GJ) fun s _=>?_;refine Ar ?_;refine Hl ?_;rintro b3 d3 G3 es l3;rw [es];refine Gk (N1 n.Ae[k] p.Af ((i:Nat):Int)) ?_;refine Xs Lk fun Fe=>?_;refine dk ?_;refine Dy 9 10 ?_;refine dt 11 ?_;refine dN 13 ?_;refine oS ?_;refine dk ?_;refine dt 14 ?_;refine dd ?_;refine Bw (⟨_,b3,d3,Fe⟩:JU) trivial
 refine M7 ?_;intros;refine Qv (E:=EC 2) (xs:=z.e.ys) [.int .i64 (N1 n.Ae[k] p.Af ((i:Nat):Int)).Ai,.slice w.b (N1 n.Ae[k] p.Af ((i:Nat):Int)).Ah.length w.d] hH (fun _=>⟨rfl,⟨rfl,HK⟩,rfl⟩) ?_;refine Sm (E:=Bt) (ys:=z.e.ys) (xs:=n.Ae) (x:=N1 n.Ae[k] p.Af ((i:Nat):Int)) k rfl hm GJ fun G'=>?_;refine Ic (E:=Bc) (xs:=[((i:Nat):Int)]) (Pp _) ?_ GL;refine A4 (E:=Bc) (xs:=[((i:Nat):Int)]) fun Fo=>?_;refine Ic (E:=Aj) (xs:=[Yq p]) (C8 (Yq p) (Nat.zero_le _)) ?_ GL;refine A4 (E:=Aj) (xs:=[Yq p]) fun Fp=>?_;refine go ?_;intros
 refine cf (Nf n.down [((i:Nat):Int)] [Yq p] _ _ _ _ _ _ _ _ _ _ _ _ _ _ _ _ _ _ _ _ _ _ _ _ _ z.d.ys z.d.F z.d.G _ _ Fo _ _ Fp hone hd) fun y _=>?_;refine Ar ?_;cases hf:Abb n.Ae[k] p.Af
 ·rw [if_neg GM];refine go ?_;intros;refine ret (⟨⟨⟨z.e.ys.set k [.int .i64 (N1 n.Ae[k] p.Af ((i:Nat):Int)).Ai,.slice w.b (N1 n.Ae[k] p.Af ((i:Nat):Int)).Ah.length w.d],[g],G'⟩,z.r,⟨y.ys,y.F,y.G⟩,z.u⟩,⟨a2,c2,a3,c3,FS⟩⟩:SZ × Ajg) trivial rfl
 ·rw [if_pos rfl,Hq hku];have hu6:=hu _ (List.getElem_mem hku);refine go ?_;intros;refine E5 (ys:=z.u.ys) fun hmu hlu=>?_;refine Af4 (ys:=z.u.ys) (xs:=n.up) k hmu GJ GJ fun h9 _ Gu=>?_;refine Abf (x:=n.up[k]) fun a9 c9 e9 l9=>?_;have e10:z.u.ys[k]=[.slice a9 n.up[k].length c9]:=by simpa using e9
  refine R5 (E:=EC 1) (xs:=z.u.ys) (m:=1) (Lh 1) k ?_ GP rfl h9;rintro _ gu Au cs Bu rfl j2 j3 hHu;obtain ⟨j4, -, -⟩:=j3 w0;rw [e10] at j4;subst j4;refine go ?_;intros;refine At [0,14,15] [12] ?_;refine Dk 0 1 2 3 ?_;refine Dk 4 5 6 7 ?_;refine dt 8 ?_;refine dN 9 ?_;apply Km;rfl;rfl;rfl;rfl;exact Ke;exact Jy;intro _;refine Ic (E:=Aj) (xs:=[p]) (C8 p hps) ?_ GL;refine A4 (E:=Aj) (xs:=[p]) fun Fp2=>?_;refine dk ?_;refine dN 10 ?_;refine oC ?_;refine cf (Afc n.up[k] [p] a9 c9 _ _ _ Fp2 GJ) fun r _=>?_;refine Ar ?_;refine dk ?_
  refine dt 11 ?_;refine dN 12 ?_;refine oS ?_;refine Rn ?_;refine dd ?_;refine Qv (E:=EC 1) (xs:=z.u.ys) [.slice r.a (Gw n.up[k] [p]).length r.c] hHu (fun w=>⟨rfl,⟨rfl,HK⟩,rfl⟩) ?_;refine A4 (E:=Aj) (xs:=Gw n.up[k] [p]) fun Fu=>?_;refine Ab1 (E:=Aj) (x:=Gw n.up[k] [p]) GM ?_;refine Sm (E:=Nn Aj GM) (ys:=z.u.ys) (xs:=n.up) (x:=Gw n.up[k] [p]) k rfl hmu GJ fun Gv=>?_;refine go ?_;intros
  refine ret (⟨⟨⟨z.e.ys.set k [.int .i64 (N1 n.Ae[k] p.Af ((i:Nat):Int)).Ai,.slice w.b (N1 n.Ae[k] p.Af ((i:Nat):Int)).Ah.length w.d],[g],G'⟩,z.r,⟨y.ys,y.F,y.G⟩,⟨z.u.ys.set k [.slice r.a (Gw n.up[k] [p]).length r.c],[gu],Gv⟩⟩,⟨a2,c2,a3,c3,FS⟩⟩:SZ × Ajg) trivial rfl
structure TkZ where
 k:Nat
 z:SZ
 a:Option Addr
 c:Nat
 F:List Nat
theorem Ash (n:Dt) (a1:Option Addr) (c1:Nat) (a4:Option Addr) (c4:Nat) (a5:Option Addr) (c5:Nat) (a6:Option Addr) (c6:Nat) (a7:Option Addr) (c7:Nat) (a2 a3:Option Addr) (c2 c3:Nat) (F1 FS FT:List Nat) (z:SZ) (hg:Aw n=true) (hc:n.Aa.Ai < 9999) :
  Fn prog 140 [.agg #[.slice a1 n.Al.Ad.length c1,.int .i64 n.Aa.Ab.Ao,.int .i64 n.Aa.Ab.size,.slice a2 n.Aa.Ab.Ak.length c2,.int .i64 n.Aa.Ai,.int .i64 n.Aa.quiet,.slice a3 n.Aa.holds.length c3,.slice a4 n.Al.Ad.length c4,.slice a5 n.Al.Ad.length c5,.slice a6 n.Al.Ad.length c6,.slice a7 n.Al.Ad.length c7]] [Gc FT,.sl Bc (.slice a1 n.Al.Ad.length c1) n.Al.Ad F1,.isv D7 (.agg #[.int .i64 n.Aa.Ab.Ao,.int .i64 n.Aa.Ab.size,.slice a2 n.Aa.Ab.Ak.length c2,.int .i64 n.Aa.Ai,.int .i64 n.Aa.quiet,.slice a3 n.Aa.holds.length c3]) n.Aa FS,.isv (EA Bt n.Al.Ad.length) (.agg z.e.ys.flatten.toArray) n.Ae z.e.G,.isv (EA B4 n.Al.Ad.length) (.agg z.r.ys.flatten.toArray) n.Ac z.r.G,.isv (EA (Nn Aj GM) n.Al.Ad.length) (.agg z.d.ys.flatten.toArray) n.down z.d.G,.isv (EA (Nn Aj GM) n.Al.Ad.length) (.agg z.u.ys.flatten.toArray) n.up z.u.G] [.ow (EC 2) 110 (.slice a4 n.Al.Ad.length c4) z.e.ys z.e.F,.ow (EC 5) 117 (.slice a5 n.Al.Ad.length c5) z.r.ys z.r.F,.ow (EC 1) 135 (.slice a6 n.Al.Ad.length c6) z.d.ys z.d.F,.ow (EC 1) 135 (.slice a7 n.Al.Ad.length c7) z.u.ys z.u.F] (fun (_:SZ × TiS × KA)=>True) (fun y=>.tuple #[.agg #[.int .i64 ((Et n).1.Aa).Ab.Ao,.int .i64 ((Et n).1.Aa).Ab.size,.slice y.2.1.a ((Et n).1.Aa).Ab.Ak.length y.2.1.c,.int .i64 ((Et n).1.Aa).Ai,.int .i64 ((Et n).1.Aa).quiet,.slice y.2.1.a2 ((Et n).1.Aa).holds.length y.2.1.c2],.slice y.2.2.a (Et n).2.length y.2.2.c]) (fun y=>[.ow (EC 2) 110 (.slice a4 n.Al.Ad.length c4) y.1.e.ys y.1.e.F,.ow (EC 5) 117 (.slice a5 n.Al.Ad.length c5) y.1.r.ys y.1.r.F,.ow (EC 1) 135 (.slice a6 n.Al.Ad.length c6) y.1.d.ys y.1.d.F,.ow (EC 1) 135 (.slice a7 n.Al.Ad.length c7) y.1.u.ys y.1.u.F,.isv (EA Bt n.Al.Ad.length) (.agg y.1.e.ys.flatten.toArray) (Et n).1.Ae y.1.e.G,.isv (EA B4 n.Al.Ad.length) (.agg y.1.r.ys.flatten.toArray) (Et n).1.Ac y.1.r.G,.isv (EA (Nn Aj GM) n.Al.Ad.length) (.agg y.1.d.ys.flatten.toArray) (Et n).1.down y.1.d.G,.isv (EA (Nn Aj GM) n.Al.Ad.length) (.agg y.1.u.ys.flatten.toArray) (Et n).1.up y.1.u.G,.isv D7 (.agg #[.int .i64 ((Et n).1.Aa).Ab.Ao,.int .i64 ((Et n).1.Aa).Ab.size,.slice y.2.1.a ((Et n).1.Aa).Ab.Ak.length y.2.1.c,.int .i64 ((Et n).1.Aa).Ai,.int .i64 ((Et n).1.Aa).quiet,.slice y.2.1.a2 ((Et n).1.Aa).holds.length y.2.1.c2]) (Et n).1.Aa y.2.1.F,.ow A8 9 (.slice y.2.2.a (Et n).2.length y.2.2.c) (Et n).2 y.2.2.F]):=by
 have hG:=Ay.1 hg;have h8:=Gn hG.t;have hn8:=h8.n1;have hn2:=h8.n0;obtain ⟨q1,q2,q3,q4⟩:=Bk.1 hG.l;have hkl:=T6 n.Al.Ad 0;have hkx:∀x∈H3 n.Al.Ad 0,0≤x∧x.toNat < n.down.length:=fun x hx=>by have:=La (i:=0) h8 hx;omega
 have hd:∀q∈n.down,q.length≤6:=fun q hq=>(C6 ((Hw hg).2.2.1 q hq)).1;refine enter func140 rfl ntmps140 fun w0=>?_;refine Kq n.Al ?_;refine go ?_;intros;refine cf (Ar9 n.Aa _ FS hG.s) fun u _=>?_;refine Ar ?_;refine A4 (E:=Aj) (xs:=M4 n.Aa.Ab n.Aa.quiet) fun Fp=>?_;refine go ?_;intros;refine At [4] [] ?_;refine Dk 0 1 2 4 ?_;refine dN 3 ?_;refine oC ?_;refine cf (Pe n.Al 0 _ F1 (Rq h8.z (Int.le_refl _)) ⟨GJ,GJ⟩) fun v _=>?_;refine Ar ?_;refine A4 (E:=Bc) (xs:=H3 n.Al.Ad 0) fun Fk=>?_;refine dk ?_;refine dN 5 ?_;refine oC ?_
 refine cf (Nf n.down (H3 n.Al.Ad 0) (M4 n.Aa.Ab n.Aa.quiet) _ _ _ _ _ _ _ _ _ _ _ _ _ _ _ _ _ _ _ _ _ _ _ _ _ z.d.ys z.d.F z.d.G _ _ Fk _ _ Fp hkx hd) fun y _=>?_;refine Ar ?_;refine dk ?_;refine dd ?_;rw [show Dg n.down (H3 n.Al.Ad 0) (M4 n.Aa.Ab n.Aa.quiet)=(Bf n 0).1.down from rfl];refine go ?_;intros;refine C4 A8 ?_;refine go ?_;intros
 refine Ck [1,2,3,4] (fun s:TkZ=>[(6,.slice s.a (Bf n s.k).2.length s.c),(7,.int .i64 ((s.k+1:Nat):Int))]) (fun s=>[.ow (EC 2) 110 (.slice a4 n.Al.Ad.length c4) s.z.e.ys s.z.e.F,.ow (EC 5) 117 (.slice a5 n.Al.Ad.length c5) s.z.r.ys s.z.r.F,.ow (EC 1) 135 (.slice a6 n.Al.Ad.length c6) s.z.d.ys s.z.d.F,.ow (EC 1) 135 (.slice a7 n.Al.Ad.length c7) s.z.u.ys s.z.u.F,.isv (EA Bt n.Al.Ad.length) (.agg s.z.e.ys.flatten.toArray) (Bf n s.k).1.Ae s.z.e.G,.isv (EA B4 n.Al.Ad.length) (.agg s.z.r.ys.flatten.toArray) (Bf n s.k).1.Ac s.z.r.G,.isv (EA (Nn Aj GM) n.Al.Ad.length) (.agg s.z.d.ys.flatten.toArray) (Bf n s.k).1.down s.z.d.G,.isv (EA (Nn Aj GM) n.Al.Ad.length) (.agg s.z.u.ys.flatten.toArray) (Bf n s.k).1.up s.z.u.G,.ow A8 9 (.slice s.a (Bf n s.k).2.length s.c) (Bf n s.k).2 s.F]) (fun s=>s.k+1≤n.Al.Ad.length∧(Bf n s.k).2.length≤40000 * s.k) (fun s=>n.Al.Ad.length - s.k) ⟨0,⟨z.e,z.r,⟨y.ys,y.F,y.G⟩,z.u⟩,_,_,_⟩ ⟨by show 0+1≤_;omega,Nat.le_refl _⟩ fun s hs0=>?_
 obtain ⟨k,⟨⟨ye,Fe,Ge⟩,⟨yr,Fr,Gr⟩,⟨yd,Fd,Gd⟩,⟨yu,Fu,Gu⟩⟩,ea,ec,eF⟩:=s;obtain ⟨hk,hel⟩:=hs0;dsimp only at hk hel ⊢;obtain ⟨hGN,hT,hSrc⟩:=Ox hg hc k GJ;obtain ⟨r1,r2,r3,r4⟩:=Bk.1 hGN.l;rw [hT] at r1 r2 r3 r4;refine go ?_;intros;refine Be rfl (fun h1=>?_) (fun h1=>?_)
 ·have hj:k+1 < n.Al.Ad.length:=by omega
  obtain ⟨i1,i2,i3,i4,hrn⟩:=hGN.rn (i:=k+1) (by rw [hT];exact hj);rw [hT] at hrn;obtain ⟨d0,d1_⟩:=Aa7 (i:=k+1);refine go ?_;intros;refine cf (Nt n.Al ((k+1:Nat):Int) _ F1 h8 GJ) fun _ _=>?_;refine Ar ?_;cases hlf:Ed n.Al.Ad ((k+1:Nat):Int)
  ·obtain ⟨hge,hck, -⟩:=hrn.hn GJ hlf;obtain ⟨hgc,hel5, -⟩:=Gp.1 hge;have hnx:Bf n (k+1)=(⟨n.Al,Mr n.Aa,(Bf n k).1.Ae.set (k+1) (E4 (Bf n k).1.Ae[k+1]),(Bf n k).1.Ac,(Bf n k).1.down,(Bf n k).1.up⟩,(Bf n k).2++[]):=by
    exact GG
   rw [List.append_nil] at hnx;refine go ?_;intros;refine E5 (ys:=ye) fun hm hlr=>?_;refine Af5 (E:=Bt) (ys:=ye) (xs:=(Bf n k).1.Ae) (k+1) hm GJ GJ fun h2 h3 v Gi ev=>?_;generalize hE:(Bf n k).1.Ae[k+1]=E at *;refine Ig (v:=v) (x:=E) ?_;rintro b1 d1 G1 rfl l1;have e8:ye[k+1]=[.int .i64 E.Ai,.slice b1 E.Ah.length d1]:=by simpa using ev.symm
   refine R5 (E:=EC 2) (xs:=ye) (m:=2) (Lh 2) (k+1) ?_ GP rfl h2;rintro _ g A cs B rfl k2 k3 hH;obtain ⟨k4, -, -⟩:=k3 w0;rw [e8] at k4;subst k4;dsimp only [List.append];refine go ?_;intros;refine At [0,16] [10] ?_;refine Dk 0 1 2 3 ?_;refine Dk 4 5 6 7 ?_;refine dN 8 ?_;refine oC ?_;refine cr (fun w st=>Asf _ E Gi w (st.get (p:=.isv Bt (.agg #[.int .i64 E.Ai,.slice b1 E.Ah.length d1]) E Gi) GO) hgc GJ (fun x hx=>by have:=Ol hge hx;omega)) fun v3 FU=>?_;refine Ig (v:=v3) ?_;rintro b3 d3 G3 rfl l3;refine dk ?_;refine dt 9 ?_
   refine dN 10 ?_;refine oS ?_;refine Rn ?_;refine dd ?_;refine Qv (E:=EC 2) (xs:=ye) [.int .i64 (E4 E).Ai,.slice b3 (E4 E).Ah.length d3] hH (fun _=>⟨rfl,⟨rfl,HK⟩,rfl⟩) ?_;refine Sm (E:=Bt) (ys:=ye) (xs:=(Bf n k).1.Ae) (x:=E4 E) (k+1) rfl hm GJ fun G'=>?_;refine go ?_;intros
   refine Cu ⟨k+1,⟨⟨ye.set (k+1) [.int .i64 (E4 E).Ai,.slice b3 (E4 E).Ah.length d3],[g],G'⟩,⟨yr,Fr,Gr⟩,⟨yd,Fd,Gd⟩,⟨yu,Fu,Gu⟩⟩,ea,ec,eF⟩ ⟨JS,by rw [hnx];dsimp only;omega⟩ HF HM HL
  ·obtain ⟨-,hgr0,hck⟩:=hrn.hf GJ hlf;have hgr:=D9.1 hgr0;obtain ⟨hsm,hfew⟩:=Ab8 hgr;have hnx:Bf n (k+1)=(⟨n.Al,Mr n.Aa,(Bf n k).1.Ae,(Bf n k).1.Ac.set (k+1) (Cy (Bf n k).1.Ac[k+1] (Ms (k+1))),(Bf n k).1.down,(Bf n k).1.up.set (k+1) (Gw (Bf n k).1.up[k+1] (Ew (Bf n k).1.Ac[k+1]))⟩,(Bf n k).2++Tj (k+1) (Gz (Bf n k).1.Ac[k+1])):=by
    show ((M3 (Bf n k).1 (k+1)).1,(Bf n k).2++(M3 (Bf n k).1 (k+1)).2)=_;unfold M3;rw [hT,hlf,if_pos rfl,Gh i2,hSrc,Hq i4]
   have htl:(Tj (k+1) (Gz (Bf n k).1.Ac[k+1])).length=(Gz (Bf n k).1.Ac[k+1]).length:=List.length_map ..;have hu6:=(C6 hrn.hu).1;generalize hR:(Bf n k).1.Ac[k+1]=R at *;generalize hQ:(Bf n k).1.up[k+1]=Q at *;refine go ?_;intros;refine E5 (ys:=yr) fun hm hlr=>?_;refine Af5 (E:=B4) (ys:=yr) (xs:=(Bf n k).1.Ac) (k+1) hm GJ GJ fun h2 h3 v Gi ev=>?_;rw [hR];refine Gt (v:=v) (x:=R) ?_;rintro b1 d1 G1 b2 d2 G2 rfl l1 l2;have e8:yr[k+1]=[.bool (R).Bd,.int .i64 (R).Ai,.int .i64 (R).Ab.next,.slice b1 (R).Ab.Ap.length d1,.slice b2 (R).Am.length d2]:=by simpa using ev.symm
   refine R5 (E:=EC 5) (xs:=yr) (m:=5) (Lh 5) (k+1) ?_ GP rfl h2;rintro _ g A cs B rfl k2 k3 hH;obtain ⟨k4, -, -⟩:=k3 w0;rw [e8] at k4;subst k4;dsimp only [List.append];refine go ?_;intros
   refine Eg [1,2,3,4,6,7] [0,1,2,3,4,5,6,7,8,9,10,11,12,13,14,15,16,17,18,19,20,21,22] (fun w:Nat × TkR=>[(8,Hm w.1 0 0),(9,.slice w.2.a3 (Ew R).length w.2.c3),(10,.slice w.2.a4 (Gz R).length w.2.c4)]) (fun w=>[.row w.1 117 0 [] [.bool (Cy R (Ms (k+1))).Bd,.int .i64 (Cy R (Ms (k+1))).Ai,.int .i64 (Cy R (Ms (k+1))).Ab.next,.slice w.2.a1 (Cy R (Ms (k+1))).Ab.Ap.length w.2.c1,.slice w.2.a2 (Cy R (Ms (k+1))).Am.length w.2.c2] [],.isv B4 (.agg #[.bool (Cy R (Ms (k+1))).Bd,.int .i64 (Cy R (Ms (k+1))).Ai,.int .i64 (Cy R (Ms (k+1))).Ab.next,.slice w.2.a1 (Cy R (Ms (k+1))).Ab.Ap.length w.2.c1,.slice w.2.a2 (Cy R (Ms (k+1))).Am.length w.2.c2]) (Cy R (Ms (k+1))) w.2.F1,.ow Aj 159 (.slice w.2.a3 (Ew R).length w.2.c3) (Ew R) w.2.F3,.ow A8 9 (.slice w.2.a4 (Gz R).length w.2.c4) (Gz R) w.2.F4]) (fun _=>True) ?_ fun w _=>?_
   ·skip
    refine At [0,17] [] ?_;refine Dk 0 1 2 3 ?_;refine Dy 4 5 ?_;refine dM 6 12 ?_ ?_
    ·refine oC ?_;refine cf (Ux (k+1) GJ) fun _ _=>?_;refine Ar ?_;refine dk ?_;refine dM 7 12 ?_ ?_
     ·refine oC ?_;refine cf (Abj R (Ms (k+1)) _ Gi hgr GJ GJ (by have:=hgr.k1;omega)) fun s _=>?_;refine Ar ?_;refine dk ?_;refine Dk 8 9 10 11 ?_;refine dN 12 ?_;apply Co;rfl;intro _;refine dk ?_;refine dN 13 ?_;refine oS ?_;refine dk ?_;refine Dy 14 15 ?_;refine dd ?_;refine Bw (⟨_,s⟩:Nat × TkR) trivial
     ·apply Co;rfl;intro _;exact BN
    ·apply Co;rfl;intro _;refine dk ?_;refine dN 6 ?_;refine oC ?_;refine cf (Ux (k+1) GJ) fun _ _=>?_;refine Ar ?_;exact BN
   obtain ⟨gr,s⟩:=w;dsimp only;refine M7 ?_;intros;refine Qv (E:=EC 5) (xs:=yr) [.bool (Cy R (Ms (k+1))).Bd,.int .i64 (Cy R (Ms (k+1))).Ai,.int .i64 (Cy R (Ms (k+1))).Ab.next,.slice s.a1 (Cy R (Ms (k+1))).Ab.Ap.length s.c1,.slice s.a2 (Cy R (Ms (k+1))).Am.length s.c2] hH (fun _=>⟨rfl,⟨rfl,HK⟩,rfl⟩) ?_;refine Sm (E:=B4) (ys:=yr) (xs:=(Bf n k).1.Ac) (x:=Cy R (Ms (k+1))) (k+1) rfl hm GJ fun G'=>?_;refine A4 (E:=Aj) (xs:=Ew R) fun Fp9=>?_;refine E5 (ys:=yu) fun hmu hlu=>?_;refine Af4 (ys:=yu) (xs:=(Bf n k).1.up) (k+1) hmu GJ GJ fun h9 _ Gq=>?_;rw [hQ]
   refine Abf (x:=Q) fun a9 c9 e9 l9=>?_;have e10:yu[k+1]=[.slice a9 Q.length c9]:=by simpa using e9
   refine R5 (E:=EC 1) (xs:=yu) (m:=1) (Lh 1) (k+1) ?_ GP rfl h9;rintro _ gu Au cs Bu rfl j2 j3 hHu;obtain ⟨j4, -, -⟩:=j3 w0;rw [e10] at j4;subst j4;refine go ?_;intros;refine At [0,24] [11] ?_;refine Dk 0 1 2 3 ?_;refine Dk 4 5 6 7 ?_;refine dt 8 ?_;refine dN 9 ?_;refine oC ?_;refine cf (Afc Q (Ew R) a9 c9 _ _ _ Fp9 GJ) fun r _=>?_;refine Ar ?_;refine dk ?_;refine dt 10 ?_;refine dN 11 ?_;refine oS ?_;refine Rn ?_;refine dd ?_
   refine Qv (E:=EC 1) (xs:=yu) [.slice r.a (Gw Q (Ew R)).length r.c] hHu (fun _=>⟨rfl,⟨rfl,HK⟩,rfl⟩) ?_;refine A4 (E:=Aj) (xs:=Gw Q (Ew R)) fun Fu=>?_;refine Ab1 (E:=Aj) (x:=Gw Q (Ew R)) GM ?_;refine Sm (E:=Nn Aj GM) (ys:=yu) (xs:=(Bf n k).1.up) (x:=Gw Q (Ew R)) (k+1) rfl hmu GJ fun Gv=>?_;refine A4 (E:=A8) (xs:=Gz R) fun F7=>?_;refine go ?_;intros;refine cf (Ah9 (k+1) (Gz R) _ _ F7 FT GJ GJ hsm) fun u9 _=>?_;refine Ar ?_;refine A4 (E:=A8) (xs:=Tj (k+1) (Gz R)) fun F8=>?_;apply wO
   refine N3 (E:=A8) (xs:=(Bf n k).2) (ys:=Tj (k+1) (Gz R)) Dp Hi fun ax cx Fx=>?_;refine go ?_;intros
   refine Cu ⟨k+1,⟨⟨ye,Fe,Ge⟩,⟨yr.set (k+1) [.bool (Cy R (Ms (k+1))).Bd,.int .i64 (Cy R (Ms (k+1))).Ai,.int .i64 (Cy R (Ms (k+1))).Ab.next,.slice s.a1 (Cy R (Ms (k+1))).Ab.Ap.length s.c1,.slice s.a2 (Cy R (Ms (k+1))).Am.length s.c2],[g],G'⟩,⟨yd,Fd,Gd⟩,⟨yu.set (k+1) [.slice r.a (Gw Q (Ew R)).length r.c],[gu],Gv⟩⟩,ax,cx,Fx⟩ ⟨JS,by rw [hnx];dsimp only;rw [List.length_append,htl];omega⟩ HF HM HL
 ·have hke:n.Al.Ad.length - 1=k:=by omega
  rw [show Et n=Bf n k by unfold Et;rw [hke],hSrc];refine go ?_;intros;refine ret (⟨⟨⟨ye,Fe,Ge⟩,⟨yr,Fr,Gr⟩,⟨yd,Fd,Gd⟩,⟨yu,Fu,Gu⟩⟩,u,⟨0,ea,ec,eF⟩⟩:SZ × TiS × KA) trivial rfl
structure OwN where
 g:Nat
 a1:Option Addr
 c1:Nat
 F1:List Nat
 s:Ajg
structure OwK where
 k:Nat
 a4:Option Addr
 c4:Nat
 F4:List Nat
 a5:Option Addr
 c5:Nat
 F5:List Nat
 a6:Option Addr
 c6:Nat
 F6:List Nat
 a7:Option Addr
 c7:Nat
 F7:List Nat
theorem Ua:One (Fv Aj 159):=fun h u hu=>by
 obtain ⟨v,rfl,h⟩:=h;obtain rfl:=List.mem_singleton.1 hu;rcases h with ⟨rfl, -, -⟩|⟨b,cap,cs,rest,G,rfl, -⟩ <;> rfl
theorem Apj {x:Cr} (hg:Ch x=true):Anc x x.Ab=x:=by
 obtain ⟨gw,hl,t0,t1,k0,k1,hm,hn,hu,hb⟩:=Kx hg;unfold Anc;rw [←Wj hu,Y0 hg]
theorem Alu (n:Dt) (v:Value) (F:List Nat) (hg:Aw n=true):Fn prog 134 [v] [.isv O1 v n F] [] (fun (_:OwN × OwK)=>True) (fun z=>.agg #[.slice z.1.a1 n.Al.Ad.length z.1.c1,.int .i64 (n.Aa).Ab.Ao,.int .i64 (n.Aa).Ab.size,.slice z.1.s.a (n.Aa).Ab.Ak.length z.1.s.c,.int .i64 (n.Aa).Ai,.int .i64 (n.Aa).quiet,.slice z.1.s.a2 (n.Aa).holds.length z.1.s.c2,.slice z.2.a4 (n.Ae).length z.2.c4,.slice z.2.a5 (n.Ac).length z.2.c5,.slice z.2.a6 (n.down).length z.2.c6,.slice z.2.a7 (n.up).length z.2.c7]) (fun z=>[.ow Bc 3 (.slice z.1.a1 n.Al.Ad.length z.1.c1) n.Al.Ad z.1.F1,.isv D7 (.agg #[.int .i64 (n.Aa).Ab.Ao,.int .i64 (n.Aa).Ab.size,.slice z.1.s.a (n.Aa).Ab.Ak.length z.1.s.c,.int .i64 (n.Aa).Ai,.int .i64 (n.Aa).quiet,.slice z.1.s.a2 (n.Aa).holds.length z.1.s.c2]) n.Aa z.1.s.F,.ow Bj 110 (.slice z.2.a4 (n.Ae).length z.2.c4) (n.Ae) z.2.F4,.ow Bg 117 (.slice z.2.a5 (n.Ac).length z.2.c5) (n.Ac) z.2.F5,.ow (Fv Aj 159) 135 (.slice z.2.a6 (n.down).length z.2.c6) (n.down) z.2.F6,.ow (Fv Aj 159) 135 (.slice z.2.a7 (n.up).length z.2.c7) (n.up) z.2.F7]):=by
 have hG:=Ay.1 hg;have h8:=(Gn hG.t).n1;have hS:=Kx hG.s;have hSl:=hS.l;have hSm:=hS.m;obtain ⟨q1,q2,q3,q4⟩:=Bk.1 hG.l;obtain ⟨g1,g2,g3,g4⟩:=Hw hg;refine enter func134 rfl ntmps134 fun w0=>?_;refine Ia ?_;rintro a1 c1 F1 a2 c2 F2 a3 c3 F3 a4 c4 F4 a5 c5 F5 a6 c6 F6 a7 c7 F7 rfl l1 l2 l3 l4 l5 l6 l7;refine Gf n.Aa ?_;refine Ds n.Aa.Ab (a1:=a2) ?_;have hW:=fun vw Fw=>Asa n.Aa n.Aa.Ab (.agg #[.int .i64 n.Aa.Ab.Ao,.int .i64 n.Aa.Ab.size,.slice a2 n.Aa.Ab.Ak.length c2,.int .i64 n.Aa.Ai,.int .i64 n.Aa.quiet,.slice a3 n.Aa.holds.length c3]) vw (F2++F3) Fw hS.t0 hS.t1 GJ hS.n hS.u
 rw [Apj hG.s,show Nc n.Aa.Ab n.Aa.holds=n.Aa.holds by rw [←Wj hS.u,Y0 hG.s]] at hW;refine go ?_;intros
 refine Eg [1,2] [0,1,2,3,4,5,6,7,8,9,10,11] (fun w:OwN=>[(3,Hm w.g 0 0)]) (fun w=>[.row w.g 48 0 [] [.slice w.a1 n.Al.Ad.length w.c1,.int .i64 (n.Aa).Ab.Ao,.int .i64 (n.Aa).Ab.size,.slice w.s.a (n.Aa).Ab.Ak.length w.s.c,.int .i64 (n.Aa).Ai,.int .i64 (n.Aa).quiet,.slice w.s.a2 (n.Aa).holds.length w.s.c2,.slice none 0 0,.slice none 0 0,.slice none 0 0,.slice none 0 0] [],.ow Bc 3 (.slice w.a1 n.Al.Ad.length w.c1) n.Al.Ad w.F1,.isv D7 (.agg #[.int .i64 (n.Aa).Ab.Ao,.int .i64 (n.Aa).Ab.size,.slice w.s.a (n.Aa).Ab.Ak.length w.s.c,.int .i64 (n.Aa).Ai,.int .i64 (n.Aa).quiet,.slice w.s.a2 (n.Aa).holds.length w.s.c2]) n.Aa w.s.F]) (fun _=>True) ?_ fun w _=>?_
 ·skip
  refine At [1] [] ?_;refine Dk 0 1 2 5 ?_;refine Dk 6 7 8 9 ?_;refine dM 3 13 ?_ ?_
  ·refine oC ?_;refine cn (fun w st=>Xi _ n.Al.Ad F1 w (st.get (p:=.sl Bc (.slice a1 n.Al.Ad.length c1) n.Al.Ad F1) GO).2 GJ) fun b1 d1 G1=>?_;refine dk ?_;refine dt 4 ?_;refine dM 10 13 ?_ ?_
   ·refine oC ?_;refine cf (Rr n.Aa.Ab _ F2 hS.t0 hS.t1 GJ) fun y _=>?_;refine Ar ?_;refine Jg ?_;rintro a9 c9 F9 e9 l9;rw [e9];refine A4 (xs:=n.Aa.Ab.Ak) fun F8=>?_;refine Ds n.Aa.Ab (a1:=a9) ?_;refine dk ?_;refine dM 11 13 ?_ ?_
    ·refine oC ?_;refine cf (hW _ F8) fun s _=>?_;refine Ar ?_;refine dk ?_;refine dt 12 ?_;refine dN 13 ?_;apply Co;rfl;intro _;refine dk ?_;refine dN 14 ?_;refine oS ?_;refine dk ?_;refine dd ?_;refine Bw (⟨_,b1,d1,G1,s⟩:OwN) trivial
    ·apply Co;rfl;intro _;exact CK
   ·apply Co;rfl;intro _;refine dk ?_;refine dN 10 ?_;refine oC ?_;refine cf (Rr n.Aa.Ab _ F2 hS.t0 hS.t1 GJ) fun y _=>?_;refine Ar ?_;refine Jg ?_;rintro a9 c9 F9 e9 l9;rw [e9];refine A4 (xs:=n.Aa.Ab.Ak) fun F8=>?_;refine Ds n.Aa.Ab (a1:=a9) ?_;exact CK
  ·apply Co;rfl;intro _;refine dk ?_;refine dN 3 ?_;refine oC ?_;refine cn (fun w st=>Xi _ n.Al.Ad F1 w (st.get (p:=.sl Bc (.slice a1 n.Al.Ad.length c1) n.Al.Ad F1) GO).2 GJ) fun b1 d1 G1=>?_;refine dk ?_;refine dt 4 ?_;refine dN 10 ?_;refine oC ?_;refine cf (Rr n.Aa.Ab _ F2 hS.t0 hS.t1 GJ) fun y _=>?_;refine Ar ?_;refine Jg ?_;rintro a9 c9 F9 e9 l9;rw [e9];refine A4 (xs:=n.Aa.Ab.Ak) fun F8=>?_;refine Ds n.Aa.Ab (a1:=a9) ?_;refine dk ?_;refine dN 11 ?_;refine oC ?_;refine cf (hW _ F8) fun s _=>?_;refine Ar ?_;refine dk ?_;refine dt 12 ?_;refine dN 14 ?_;refine oS ?_
   refine dk ?_;refine dd ?_;refine Bw (⟨_,b1,d1,G1,s⟩:OwN) trivial
 refine Br Bj 110 ?_;refine Br Bg 117 ?_;refine Br (Fv Aj 159) 135 ?_;refine Br (Fv Aj 159) 135 ?_;refine go ?_;intros
 refine Ck [1,2,3] (fun y:OwK=>[(4,.int .i64 (y.k:Nat))]) (fun y=>[.row w.g 48 0 [] [.slice w.a1 n.Al.Ad.length w.c1,.int .i64 (n.Aa).Ab.Ao,.int .i64 (n.Aa).Ab.size,.slice w.s.a (n.Aa).Ab.Ak.length w.s.c,.int .i64 (n.Aa).Ai,.int .i64 (n.Aa).quiet,.slice w.s.a2 (n.Aa).holds.length w.s.c2,.slice y.a4 (n.Ae.take y.k).length y.c4,.slice y.a5 (n.Ac.take y.k).length y.c5,.slice y.a6 (n.down.take y.k).length y.c6,.slice y.a7 (n.up.take y.k).length y.c7] [],.ow Bj 110 (.slice y.a4 (n.Ae.take y.k).length y.c4) (n.Ae.take y.k) y.F4,.ow Bg 117 (.slice y.a5 (n.Ac.take y.k).length y.c5) (n.Ac.take y.k) y.F5,.ow (Fv Aj 159) 135 (.slice y.a6 (n.down.take y.k).length y.c6) (n.down.take y.k) y.F6,.ow (Fv Aj 159) 135 (.slice y.a7 (n.up.take y.k).length y.c7) (n.up.take y.k) y.F7]) (fun y=>y.k≤n.Ae.length) (fun y=>n.Ae.length - y.k) ⟨0,none,0,[],none,0,[],none,0,[],none,0,[]⟩ (Nat.zero_le _) fun y hy=>?_
 refine go ?_;intros;refine Be rfl (fun h1=>?_) (fun h1=>?_)
 ·have hk:y.k < n.Ae.length:=by omega
  have hk5:y.k < n.Ac.length:=by omega
  have hk6:y.k < n.down.length:=by omega
  have hk7:y.k < n.up.length:=by omega
  have t4:(n.Ae.take y.k).length≤8:=by rw [List.length_take];omega
  have t5:(n.Ac.take y.k).length≤8:=by rw [List.length_take];omega
  have t6:(n.down.take y.k).length≤8:=by rw [List.length_take];omega
  have t7:(n.up.take y.k).length≤8:=by rw [List.length_take];omega
  have hge:=g1 _ (List.getElem_mem hk);have hel:=(Gp.1 hge).2.1;have hgr:=D9.1 (g2 _ (List.getElem_mem hk5));have hrs:=(J0 hgr.w).1;have hrq:=(C9.1 hgr.q).2.1;have hd6:=(C6 (g3 _ (List.getElem_mem hk6))).1;have hu6:=(C6 (g4 _ (List.getElem_mem hk7))).1;refine Pr (xs:=n.Ae) y.k ?_;rintro hi4 b4 o4 a8 c8 F8 e4 l8;rw [e4];refine Mg n.Ae[y.k] ?_;dsimp only [List.append];refine go ?_;intros;refine At [1,3,11] [11] ?_;refine Dk 0 1 2 3 ?_;refine Dy 4 5 ?_;refine dt 6 ?_;refine dN 7 ?_;refine oC ?_
  refine cv (fun w2 st=>Wk _ n.Ae[y.k] F8 w2 (st.get (p:=.isv Bt (.agg #[.int .i64 n.Ae[y.k].Ai,.slice a8 n.Ae[y.k].Ah.length c8]) n.Ae[y.k] F8) GO) GJ (fun x hx=>by have:=Ol hge hx;omega)) fun v9 F9=>?_;refine Hl (x:=n.Ae[y.k]) ?_;rintro a9 c9 F10 rfl l9;refine Gk n.Ae[y.k] ?_;refine dk ?_;refine dN 8 ?_;apply Km;rfl;rfl;rfl;rfl;exact Ke;exact Jy;intro _;refine dk ?_;refine dN 9 ?_;refine Aa4 Ra n.Ae[y.k] rfl fun x4 d4 G4=>?_;refine dk ?_;refine dt 10 ?_;refine dN 11 ?_;refine oS ?_;refine Rn ?_;refine dd ?_;rw [←List.take_succ_eq_append_getElem hk]
  refine Jt (xs:=n.Ac) y.k ?_;rintro hi5 b5 o5 a11 c11 F11 a12 c12 F12 e5 l11 l12;rw [e5];refine Ee n.Ac[y.k] ?_;dsimp only [List.append];refine go ?_;intros;refine At [1,8,15] [11] ?_;refine Dk 0 1 2 3 ?_;refine Dy 4 5 ?_;refine dt 6 ?_;refine dN 7 ?_;refine oC ?_;refine cf (Sc n.Ac[y.k] _ _ GJ GJ) fun s9 _=>?_;refine Ar ?_;refine H4 (x:=n.Ac[y.k]) ?_;rintro a9 c9 G9 a10 c10 G10 e9 l9 l10;rw [e9];refine Ju n.Ac[y.k] ?_;refine dk ?_;refine dN 8 ?_;apply Km;rfl;rfl;rfl;rfl;exact Ke;exact Jy;intro _;refine dk ?_;refine dN 9 ?_;refine Aa4 Qb n.Ac[y.k] rfl fun x5 d5 G5=>?_
  refine dk ?_;refine dt 10 ?_;refine dN 11 ?_;refine oS ?_;refine Rn ?_;refine dd ?_;rw [←List.take_succ_eq_append_getElem hk5];refine O6 (E:=Aj) (hz:=GM) (xs:=n.down) y.k ?_;rintro hi6 b6 o6 a13 c13 F13 e6 l13;rw [e6];refine go ?_;intros;refine At [0,11,17] [12] ?_;refine Dk 0 1 3 4 ?_;refine Dy 5 6 ?_;refine dt 7 ?_;refine dN 2 ?_;apply Lr;rfl;intro _;refine C4 Aj ?_;refine dk ?_;refine dN 8 ?_;refine N3 Hf I3 fun a9 c9 F9=>?_;rw [List.nil_append];refine Jv n.down[y.k] ?_;refine dk ?_;refine dN 9 ?_;apply Km;rfl;rfl;rfl;rfl;exact Ke;exact Jy;intro _;refine dk ?_;refine dN 10 ?_
  refine Aa4 (Ua) n.down[y.k] rfl fun x6 d6 G6=>?_;refine dk ?_;refine dt 11 ?_;refine dN 12 ?_;refine oS ?_;refine Rn ?_;refine dd ?_;rw [←List.take_succ_eq_append_getElem hk6];refine O6 (E:=Aj) (hz:=GM) (xs:=n.up) y.k ?_;rintro hi7 b7 o7 a14 c14 F14 e7 l14;rw [e7];refine go ?_;intros;refine At [0,14,19] [12] ?_;refine Dk 0 1 3 4 ?_;refine Dy 5 6 ?_;refine dt 7 ?_;refine dN 2 ?_;apply Lr;rfl;intro _;refine C4 Aj ?_;refine dk ?_;refine dN 8 ?_;refine N3 Hf I3 fun a9 c9 F9=>?_;rw [List.nil_append];refine Jv n.up[y.k] ?_;refine dk ?_;refine dN 9 ?_
  apply Km;rfl;rfl;rfl;rfl;exact Ke;exact Jy;intro _;refine dk ?_;refine dN 10 ?_;refine Aa4 (Ua) n.up[y.k] rfl fun x7 d7 G7=>?_;refine dk ?_;refine dt 11 ?_;refine dN 12 ?_;refine oS ?_;refine Rn ?_;refine dd ?_;rw [←List.take_succ_eq_append_getElem hk7];refine go ?_;intros;refine Cu ⟨y.k+1,x4,d4,G4,x5,d5,G5,x6,d6,G6,x7,d7,G7⟩ hk (by show n.Ae.length - (y.k+1) < n.Ae.length - y.k;omega)
 ·rw [show n.Ae.take y.k=n.Ae from List.take_of_length_le GJ,show n.Ac.take y.k=n.Ac from List.take_of_length_le GJ,show n.down.take y.k=n.down from List.take_of_length_le GJ,show n.up.take y.k=n.up from List.take_of_length_le GJ];refine go ?_;intros;refine ret (⟨w,y⟩:OwN × OwK) trivial rfl
theorem Av2 (t:Me) (v:Value) (F:List Nat) (hl:t.Ad.length≤1000000):Fn prog 176 [v] [.isv Kt v t F] [] (fun (_:KiS)=>True) (fun z=>.slice z.a (lvs t.Ad).length z.c) (fun z=>[.ow Bc 3 (.slice z.a (lvs t.Ad).length z.c) (lvs t.Ad) z.F]):=by
 refine enter func176 rfl ntmps176 fun w0=>?_;refine Lx ?_;rintro a1 c1 F1 rfl l1;refine Br Bc 3 ?_;refine go ?_;intros;refine Ck [1,2,7] (fun z:KiS=>[(3,.slice z.a (Po t.Ad z.k).length z.c),(8,.int .i64 (z.k:Nat))]) (fun z=>[.ow Bc 3 (.slice z.a (Po t.Ad z.k).length z.c) (Po t.Ad z.k) z.F]) (fun z=>z.k≤t.Ad.length) (fun z=>t.Ad.length - z.k) ⟨0,_,_,_⟩ (Nat.zero_le _) fun z hz=>?_;have hkl:=Aie t.Ad z.k;refine go ?_;intros;refine Be rfl (fun h1=>?_) (fun h1=>?_)
 ·have hh:z.k < t.Ad.length:=by omega
  refine go ?_;intros;refine cf (Wg t z.k _ F) fun _ _=>?_;refine Ar ?_;cases g:Ed t.Ad (z.k:Nat)
  ·rw [←Av5 g];exact EH
  ·refine M7 ?_;intros;apply wO;refine Oh (Pp _) C5 fun a9 c9 F9=>?_;refine go ?_;intros;rw [←Asu g];exact FV
 ·have hk:z.k=t.Ad.length:=by omega
  rw [show Po t.Ad z.k=lvs t.Ad by unfold lvs;rw [hk]];exact BO
end Go.Proofs.YtkagnmekdkchiaaGreatDoor
namespace Go.Proofs.YtkagnmekdkchiaaGreatDoor

open Go.RowKit
end Go.Proofs.YtkagnmekdkchiaaGreatDoor
namespace Go.Proofs.YtkagnmekdkchiaaGreatDoor
open Go.RowKit
theorem Alo {E:List ByteArray} {sep:ByteArray} {m:Nat} (hs:sep.size≤2) (hm:m≤100) (hl:E.length≤900000000000) (he:∀e∈E,e.size≤m) (k:Nat):(Lib.join ((E.take k).map (·.data.toList)) sep.data.toList).length≤100000000000000:=by
 have h:=Alp (sep:=sep.data.toList) (m:=m) (xs:=(E.take k).map (·.data.toList)) fun x hx=>by
  obtain ⟨e,he2,rfl⟩:=List.mem_map.1 hx;rw [Cb];exact he e (List.mem_of_mem_take he2)
 rw [List.length_map,List.length_take,Cb] at h;have h2:(sep.size+m) * min k E.length≤102 * 900000000000:=Nat.mul_le_mul GJ GJ;omega
theorem Uq (E:List ByteArray) (a:Option Addr) (c:Nat) (F:List Nat) (hl:E.length≤900000000000) (he:∀e∈E,e.size≤100):Fn prog 68 [.slice a E.length c] [.sl A8 (.slice a E.length c) E F] [] (fun (_:Unit)=>True) (fun _=>.string (Wd E)) (fun _=>[]):=by
 refine enter func68 rfl ntmps68 fun w0=>?_;refine go ?_;intros;refine Be rfl (fun h=>?_) (fun h=>?_)
 ·have e:E=[]:=List.length_eq_zero_iff.1 GJ;subst e;exact AB
 ·have hf:=Alo (sep:=⟨#[44,32]⟩) GM GM hl he E.length;rw [List.take_length] at hf;refine go ?_;intros;refine cb (fun w st=>Avp E ⟨#[44,32]⟩ a c F w (st.get (p:=.sl A8 (.slice a E.length c) E F) GL) GJ GJ hf) ?_;refine go ?_;intros;refine ret () trivial ?_;unfold Wd jnW;rw [if_neg (fun e=>h (by rw [e];rfl))];rfl
theorem X9 (l:List Int) (a:Option Addr) (c:Nat) (F FT:List Nat) (hf:∀f∈l,0≤f∧f≤99999) (h7:l.length≤1000):Fn prog 121 [.slice a l.length c] [.sl Bc (.slice a l.length c) l F,Gc FT] [] (fun (_:Unit)=>True) (fun _=>.string (T9 l)) (fun _=>[]):=by
 refine enter func121 rfl ntmps121 fun w0=>?_;refine go ?_;intros;refine Be rfl (fun h=>?_) (fun h=>?_)
 ·have e:l=[]:=List.length_eq_zero_iff.1 GJ;subst e;exact AB
 ·refine go ?_;intros;refine cf (Azd l a c F FT (fun f hh=>⟨(hf f hh).1,by have:=hf f hh;show f.natAbs < 100000;omega⟩) GJ h7) fun _ _=>?_;refine Ar ?_;refine go ?_;intros;refine ret () trivial ?_;unfold T9;rw [if_neg (fun e=>h (by rw [e];rfl))];rfl
def jnK (sep:ByteArray) (E:List ByteArray) (k:Nat):ByteArray:=bz (Lib.join ((E.take k).map (·.data.toList)) sep.data.toList)
theorem Avn {sep:ByteArray} {E:List ByteArray} {k:Nat} (h0:0 < k) (h:k < E.length):jnK sep E (k+1)=jnK sep E k++sep++E[k]:=by
 unfold jnK;rw [List.take_succ_eq_append_getElem h,List.map_append,List.map_cons,List.map_nil,Ar1 _ _ _ (by rw [List.length_map,List.length_take];omega)];rw [←V8 (_++E[k]),Hb,Hb,Jq,List.append_assoc]
theorem Azb {sep:ByteArray} {E:List ByteArray} (h:0 < E.length):jnK sep E 1=E[0]:=by
 unfold jnK;cases E with
 | nil=>cases h
 | cons x r =>
  rw [List.take_succ_cons,List.take_zero,List.map_cons,List.map_nil,Lib.join_cons];simp [Lib.joinTail,V8]
theorem Abo (E:List ByteArray) (sep:ByteArray) (a:Option Addr) (c:Nat) (F:List Nat) (hs:sep.size≤2) (hl:E.length≤900000000000) (he:∀e∈E,e.size≤100):Fn prog 82 [.slice a E.length c,.string sep] [.sl A8 (.slice a E.length c) E F] [] (fun (_:Unit)=>True) (fun _=>.string (jnW sep.data.toList E)) (fun _=>[]):=by
 refine enter func82 rfl ntmps82 fun w0=>?_;refine go ?_;intros;refine Be rfl (fun h=>?_) (fun h=>?_)
 ·have e:E=[]:=List.length_eq_zero_iff.1 GJ;subst e;exact AB
 refine M9 (xs:=E) 0 ?_;rintro hi0 b0 o0 rfl s0;refine go ?_;intros;rw [show E[0]=jnK sep E 1 from (Azb hi0).symm];refine Ev [0,1,4] (fun k:Nat=>[(5,.string (jnK sep E k)),(6,.int .i64 (k:Nat))]) (fun k=>1≤k∧k≤E.length) (fun k=>E.length - k) 1 ⟨Nat.le_refl _,GJ⟩ fun k hk=>?_;obtain ⟨hk1,hk2⟩:=hk;have hz:=Alo (k:=k) hs GM hl he;have hz2:(jnK sep E k).size≤100000000000000:=by unfold jnK;rw [Jb];exact hz
 refine go ?_;intros;refine Be rfl (fun h3=>?_) (fun h3=>?_)
 ·have hk3:k < E.length:=by omega
  have h8:=he _ (List.getElem_mem hk3);have hq:(jnK sep E k++sep).size=_:=ByteArray.size_append;refine M9 (xs:=E) k ?_;rintro hi b o e1 s1;cases e1;refine go ?_;intros;rw [show jnK sep E k++sep++E[k]=jnK sep E (k+1) from (Avn hk1 hk3).symm];refine go ?_;intros;rw [show ((k:Nat):Int)+1=((k+1:Nat):Int) by omega];refine Cu (k+1) ⟨GJ,hk3⟩ GJ
 ·have hk3:k=E.length:=by omega
  subst hk3;refine go ?_;intros;refine ret () trivial ?_;unfold jnW jnK;rw [if_neg (fun e=>h (by rw [e];rfl)),List.take_length];rfl
theorem Bd8 (l:List Int):jnW [32] (l.map itB)=T9 l:=by
 unfold jnW T9 jn;by_cases h:l=[]
 ·subst h;rfl
 ·rw [if_neg h,if_neg GW,Ae8]
structure LiS where
 k:Nat
 a:Option Addr
 c:Nat
 F:List Nat
theorem Aib (l:List Int) (a:Option Addr) (c:Nat) (F:List Nat) (hf:∀f∈l,0≤f∧f≤99999) (h7:l.length≤1000):Fn prog 92 [.slice a l.length c] [.sl Bc (.slice a l.length c) l F] [] (fun (_:Unit)=>True) (fun _=>.string (T9 l)) (fun _=>[]):=by
 refine enter func92 rfl ntmps92 fun w0=>?_;refine go ?_;intros;refine C4 A8 ?_;refine go ?_;intros;refine Ck [0,2] (fun z:LiS=>[(3,.slice z.a ((l.map itB).take z.k).length z.c),(4,.int .i64 (z.k:Nat))]) (fun z=>[.ow A8 9 (.slice z.a ((l.map itB).take z.k).length z.c) ((l.map itB).take z.k) z.F]) (fun z=>z.k≤l.length) (fun z=>l.length - z.k) ⟨0,_,_,_⟩ (Nat.zero_le _) fun z hz=>?_;obtain ⟨k,a1,c1,F1⟩:=z;dsimp only at hz ⊢;have hml:(l.map itB).length=l.length:=List.length_map ..;refine go ?_;intros;refine Be rfl (fun h3=>?_) (fun h3=>?_)
 ·have hk3:k < l.length:=by omega
  have h8:=hf _ (List.getElem_mem hk3);have htl:((l.map itB).take k).length=k:=by rw [List.length_take];omega
  refine Io (xs:=l) k ?_;rintro hi b o e1;rw [e1];refine go ?_;intros;refine cb (fun w st=>Tg l[k] (by have:=h8.1;omega) GJ w) ?_;refine go ?_;intros;apply wO;refine Oh (E:=A8) (xs:=(l.map itB).take k) (Amo (s:=bz (Lib.itoa l[k])) (by rw [Jb,Pd h8.1];have:=Dx 5 l[k].natAbs (by show _ < 1000000;omega);unfold maxLen;omega)) Dp fun a9 c9 F9=>?_;rw [show (l.map itB).take k++[bz (Lib.itoa l[k])]=(l.map itB).take (k+1) by rw [List.take_succ_eq_append_getElem GJ,List.getElem_map];rfl];refine go ?_;intros;rw [show ((k:Nat):Int)+1=((k+1:Nat):Int) by omega]
  refine Cu ⟨k+1,a9,c9,F9⟩ hk3 HV
 ·have hk3:k=l.length:=by omega
  subst hk3;rw [show (l.map itB).take l.length=l.map itB by rw [←hml];exact List.take_length];refine A4 (E:=A8) (xs:=l.map itB) fun F8=>?_;refine go ?_;intros;refine cf (Abo (l.map itB) ⟨#[32]⟩ a1 c1 F8 GM GJ (fun e hh=>by
   obtain ⟨f,hf2,rfl⟩:=List.mem_map.1 hh;have h9:=hf f hf2;unfold itB;rw [Jb,Pd h9.1];have:=Dx 5 f.natAbs (by show _ < 1000000;omega);omega)) fun _ _=>?_
  refine Ar ?_;refine go ?_;intros;refine ret () trivial ?_;rw [←Bd8 l];rfl
def Yw:List (ByteArray × Int)→Nat→List MapEntry
 | [],_=>[]
 | (s,n)::r,i=>{ key:=.string s,val:=.int .i64 n,born:=i }::Yw r (i+1)
theorem Ahp (s:ByteArray) (n:Int):∀(es:List (ByteArray × Int)) (i:Nat),Yw (es++[(s,n)]) i=Yw es i++[{ key:=.string s,val:=.int .i64 n,born:=i+es.length }]
 | [],i=>rfl
 | (t,m)::r,i=>by
  show _::Yw (r++[(s,n)]) (i+1)=_::(Yw r (i+1)++_);rw [Ahp s n r (i+1),List.length_cons,show i+1+r.length=i+(r.length+1) by omega]
def Bey:Bx (Nat × List (ByteArray × Int)) where
 sz:=0
 Lo w cs x F:=cs=[]∧F=[x.1]∧w.heap[x.1]?=some (.map (Yw x.2 0).toArray x.2.length)
 len h:=by simp [h.1]
 lt h:=by
  obtain ⟨-,rfl,h⟩:=h;intro b hb;rw [List.mem_singleton] at hb;subst hb;exact (Array.getElem?_eq_some_iff.1 h).1
 frame h hF:=by
  obtain ⟨h1,rfl,h⟩:=h;exact ⟨h1,rfl,by rw [hF _ GL];exact h⟩
def MpP (b:Nat) (es:List (ByteArray × Int)):Pc:=.own Bey (.agg #[]) (b,es) [b]
theorem MpP.at_ {b:Nat} {es:List (ByteArray × Int)} {w:World} (h:(MpP b es).P w):w.heap[b]?=some (.map (Yw es 0).toArray es.length):=by
 obtain ⟨-,cs, -,h⟩:=h;exact h.2.2
theorem MpP.mk {b:Nat} {es:List (ByteArray × Int)} {w:World} (h:w.heap[b]?=some (.map (Yw es 0).toArray es.length)):(MpP b es).P w:=⟨GL,[],rfl,rfl,rfl,h⟩
def Vu:List (ByteArray × Int)→ByteArray→Option Int
 | [],_=>none
 | (k,n)::r,s=>if s=k then some n else Vu r s
theorem Bcs {s k:ByteArray} (h:s=k):Instr.sameNow .string (.string s) (.string k)=some true:=by
 obtain ⟨r,hr,hi⟩:=MapKept.sameNow_of_keys (d:=.string) (a:=.string s) (b:=.string k) JD JD;rw [hr,hi.2 (by rw [h])]
theorem Aw5 {s k:ByteArray} (h:¬s=k):Instr.sameNow .string (.string s) (.string k)=some false:=by
 obtain ⟨r,hr,hi⟩:=MapKept.sameNow_of_keys (d:=.string) (a:=.string s) (b:=.string k) JD JD;rw [hr];cases r
 ·rfl
 ·have:=hi.1 rfl;simp at this;exact absurd this h
theorem Aa8 {s:ByteArray}:∀{es:List (ByteArray × Int)} (j i:Nat),Vu es s=none→Instr.findNow .string (.string s) (Yw es j) i=some none
 | [],_,_,_=>rfl
 | (k,n)::r,j,i,h=>by
  unfold Vu at h
  split at h
  ·cases h
  ·rename_i hk;unfold Yw Instr.findNow;rw [Aw5 hk];exact Aa8 (j+1) (i+1) h
theorem Ahs {s:ByteArray} {n:Int}:∀{es:List (ByteArray × Int)} (j i:Nat),Vu es s=some n→∃m,Instr.findNow .string (.string s) (Yw es j) i=some (some (m,.int .i64 n))
 | [],_,_,h=>by cases h
 | (k,v)::r,j,i,h=>by
  unfold Vu at h
  split at h
  ·rename_i hk;cases h;refine ⟨i,?_⟩;unfold Yw Instr.findNow;rw [Bcs hk]
  ·rename_i hk;obtain ⟨m,hm⟩:=Ahs (j+1) (i+1) h;refine ⟨m,?_⟩;unfold Yw Instr.findNow;rw [Aw5 hk];exact hm
class MapC (P:Program) (t:TypeId) (kt et:outParam TypeId):Prop where
 u:P.underlying t=some (.map kt et)
 k:P.underlying kt=some .string
 z:(P.info? et).map (·.zero)=some (some (.int .i64 0))
theorem Avq {P:Program} {t kt et:TypeId} [hM:MapC P t kt et] (e:Bool) (s:ByteArray) (w:World):(Instr.checkKey e 10000 kt (.string s)).run P w=.ok () w:=MapKept.run_checkKey (k:=.string s) hM.k JD e 9999
section
variable {c:Cx} {fr:Fr} {H:List Pc} {Φ:Gl} {ty:TypeId} {d:Nat} {x y z:Operand}
theorem Be7 {t:TypeId} (hd:Nat.blt d c.n=true) (h:∀b,T c ((d,.map (some b))::fr) (MpP b []::H) Φ):On c fr H (some d) (.makeMap t none) ty Φ:=⟨fun pos Ce gd=>Ok fun Q a w s g=>by
 have e:(execOp a.eval ⟨some d,.makeMap t none,ty,pos,Ce,gd⟩).run c.P w=.ok (.value (.map (some w.heap.size))) (w.alloc (.map #[] 0)):=by
  simp [execOp,run_makeMap_plain]
 rw [e];refine (h _).h _ _ (s.add (N:=[MpP w.heap.size []]) (V2 _ _) (fun p hp=>?_) ⟨GL,trivial⟩ fun p hp b hb=>?_) (g.put hd)
 ·rw [List.mem_singleton] at hp;subst hp;exact MpP.mk (MapKept.heap_alloc w _).1
 ·rw [List.mem_singleton] at hp;subst hp;simp [MpP,Pc.F] at hb;subst hb;exact .inl (Nat.le_refl _)⟩
theorem Aqe {t kt et:TypeId} [hM:MapC c.P t kt et] {b:Nat} {es:List (ByteArray × Int)} {s:ByteArray} {n:Int} {S:List Pc} (hx:ev fr x=some (.map (some b))) (hy:ev fr y=some (.string s)) (hz:ev fr z=some (.int .i64 n)) (hr:Rpl H (MpP b es) (MpP b (es++[(s,n)])) S) (hn:Vu es s=none) (h:T c fr S Φ):On c fr H none (.insert t x y z) ty Φ:=⟨fun pos Ce gd=>Ok fun Q a w st g=>by
 have hP:(MpP b es).P w:=by obtain ⟨R,h1,_⟩:=hr.picks;exact st.on _ h1.mem
 have hb:=MpP.at_ hP
 have hf:=Aa8 0 0 hn;have hk:=fun e=>Avq (P:=c.P) (t:=t) e s w;have e:(execOp a.eval ⟨none,.insert t x y z,ty,pos,Ce,gd⟩).run c.P w=.ok .skip { w with heap:=w.heap.setIfInBounds b (.map ((Yw es 0).toArray.push { key:=.string s,val:=.int .i64 n,born:=es.length }) (es.length+1)) }:=by
  simp [execOp,g.ev hx,g.ev hy,g.ev hz,Instr.mapUpdate,run_underlying hM.u,MapKept.run_getObj_map hb,hk,MapKept.run_findKey hM.k hf,MapKept.run_setObj_map _ hb,Result.andThen]
 rw [e];obtain ⟨h1,h2⟩:=MapKept.heap_set (o':=.map ((Yw es 0).toArray.push { key:=.string s,val:=.int .i64 n,born:=es.length }) (es.length+1)) hb;refine h.h _ _ (st.rpl hr rfl (fun b hb=>.inl hb) ⟨rfl,rfl,rfl,GL,fun k hk hn=>?_⟩ (MpP.mk ?_)) g
 ·exact h2 k (fun e=>hn (by rw [e];simp [MpP,Pc.F]))
 ·rw [h1,Ahp,List.length_append,List.push_toArray,Nat.zero_add];rfl⟩
theorem Beu {P:Program} {n:Nat} {t kt et:TypeId} [hM:MapC P t kt et] {b:Nat} {es:List (ByteArray × Int)} {s:ByteArray} (hx:ev fr x=some (.map (some b))) (hy:ev fr y=some (.string s)) (hm:MpP b es∈H) :
  Yd P n fr H (.lookup t x y true) ty (.tuple #[.int .i64 ((Vu es s).getD 0),.bool (Vu es s).isSome]):=.mk fun a w d pos Ce gd hA hH=>by
 have hb:=MpP.at_ (hH _ hm:(MpP b es).P w)
 obtain ⟨i,hi,hz⟩:=Option.map_eq_some_iff.1 hM.z;have hk:=fun e=>Avq (P:=P) (t:=t) e s w;have e:(Instr.lookup t (.map (some b)) (.string s) true).run P w=.ok (.tuple #[.int .i64 ((Vu es s).getD 0),.bool (Vu es s).isSome]) w:=by
  cases hg:Vu es s with
  | none=>simp [Instr.lookup,run_underlying hM.u,MapKept.run_getObj_map hb,hk,MapKept.run_findKey hM.k (Aa8 0 0 hg),zeroValue,typeInfo,hi,hz,Result.andThen]
  | some v =>
   obtain ⟨m,hm⟩:=Ahs 0 0 hg;simp [Instr.lookup,run_underlying hM.u,MapKept.run_getObj_map hb,hk,MapKept.run_findKey hM.k hm,Result.andThen]
 simp [execOp,hA.ev hx,hA.ev hy,e]
end
theorem Do {s:ByteArray} {l:Bs}:s=bz l↔s.data.toList=l:=⟨fun h=>by rw [h,Jq],fun h=>by rw [←h,V8]⟩
theorem Q6 {ws:List ByteArray} {i:Nat} (h:i < ws.length):atW (ws.map fun t=>t.data.toList) i=(ws[i]).data.toList:=by
 unfold atW;rw [Pa (by rw [List.length_map];exact h),List.getElem_map]
def Ajs:List (ByteArray × Int):=[(⟨#[100,111,119,110]⟩,2),(⟨#[117,112]⟩,5),(⟨#[108,111,115,101]⟩,3),(⟨#[99,117,116]⟩,6)]
theorem An9 (s:ByteArray):(Vu Ajs s).getD 0=Pn s.data.toList∧(Vu Ajs s).isSome=decide (Pn s.data.toList≠0):=by
 unfold Ajs Vu Vu Vu Vu Vu Pn;have e1:(s=⟨#[100,111,119,110]⟩)=(s.data.toList=Ana):=propext (Do (l:=Ana));have e2:(s=⟨#[117,112]⟩)=(s.data.toList=wUp):=propext (Do (l:=wUp));have e3:(s=⟨#[108,111,115,101]⟩)=(s.data.toList=Anb):=propext (Do (l:=Anb));have e4:(s=⟨#[99,117,116]⟩)=(s.data.toList=Ax5):=propext (Do (l:=Ax5));by_cases h1:s.data.toList=Ana
 ·rw [if_pos (by rw [e1];exact h1),if_pos h1];exact EM
 rw [if_neg (by rw [e1];exact h1),if_neg h1];by_cases h2:s.data.toList=wUp
 ·rw [if_pos (by rw [e2];exact h2),if_pos h2];exact EM
 rw [if_neg (by rw [e2];exact h2),if_neg h2];by_cases h3:s.data.toList=Anb
 ·rw [if_pos (by rw [e3];exact h3),if_pos h3];exact EM
 rw [if_neg (by rw [e3];exact h3),if_neg h3];by_cases h4:s.data.toList=Ax5
 ·rw [if_pos (by rw [e4];exact h4),if_pos h4];exact EM
 rw [if_neg (by rw [e4];exact h4),if_neg h4];exact EM
def Zd (ws:List ByteArray):List Bs:=ws.map fun t=>t.data.toList
theorem Amx {ws:List ByteArray} (h0:0 < ws.length) (h:ws[0]=⟨#[115,101,110,100]⟩) (hn:ws.length=1):Ii (Zd ws)=some ⟨1,0,⟨#[]⟩⟩:=by
 unfold Ii Zd;rw [Q6 h0,List.length_map,if_pos ⟨Do.1 h,hn⟩]
theorem Ac9 {ws:List ByteArray} (h1:1 < ws.length) (h:(ws[0]'GJ)=⟨#[115,101,110,100]⟩) (hn:ws.length=2) (he:¬ws[1]=⟨#[]⟩):Ii (Zd ws)=some ⟨1,0,ws[1]⟩:=by
 unfold Ii Zd;rw [Q6 GJ,Q6 h1,List.length_map,if_neg GJ,if_pos ⟨Do.1 h,hn,fun e=>he (Do.2 e)⟩,V8]
theorem Ao5 {ws:List ByteArray} (h0:0 < ws.length) (h:ws[0]=⟨#[116,105,99,107]⟩) (hn:ws.length=1):Ii (Zd ws)=some ⟨4,0,⟨#[]⟩⟩:=by
 have h2:=(Do (l:=Ai4)).1 h;unfold Ii Zd;rw [Q6 h0,List.length_map,if_neg (by rw [h2];exact fun e=>absurd e.1 GM),if_neg GJ,if_pos ⟨h2,hn⟩]
theorem Wz {ws:List ByteArray} (hn:¬ws.length=2) (h1:∀h0:0 < ws.length,ws.length=1→¬ws[0]=⟨#[115,101,110,100]⟩∧¬ws[0]=⟨#[116,105,99,107]⟩) (h0:0 < ws.length):Ii (Zd ws)=none:=by
 unfold Ii Zd;rw [Q6 h0,List.length_map,if_neg (fun e=>(h1 h0 e.2).1 (Do.2 e.1)),if_neg (fun e=>hn e.2.1),if_neg (fun e=>(h1 h0 e.2).2 (Do.2 e.1)),if_pos hn]
theorem Aix {ws:List ByteArray} (h1:1 < ws.length) (hn:ws.length=2) (h:¬((ws[0]'GJ)=⟨#[115,101,110,100]⟩∧¬ws[1]=⟨#[]⟩)) :
  Ii (Zd ws)=if Pn (ws[0]'GJ).data.toList≠0∧(Cc ws[1]).2=true then some ⟨Pn (ws[0]'GJ).data.toList,(Cc ws[1]).1,⟨#[]⟩⟩ else none:=by
 unfold Ii Zd;rw [Q6 GJ,Q6 h1,List.length_map,V8,if_neg GJ,if_neg (fun e=>h ⟨Do.2 e.1,fun e2=>e.2.2 (Do.1 e2)⟩),if_neg GJ,if_neg GJ]
instance:MapC prog 168 9 3:=⟨GK,GK,GK⟩
theorem Axe (ws:List ByteArray) (h0:0 < ws.length) (a:Option Addr) (c:Nat) (F FT:List Nat) (hz:∀w∈ws,w.size≤1000000):Fn prog 65 [.slice a ws.length c] [.sl A8 (.slice a ws.length c) ws F,Gc FT] [] (fun (u:Jp × Bool)=>u.1.data.size≤maxLen∧Ii (Zd ws)=if u.2 then some u.1 else none) (fun u=>.tuple #[.agg #[.int .i64 u.1.Ct,.int .i64 u.1.node,.string u.1.data],.bool u.2]) (fun _=>[]):=by
 have hz0:(⟨#[]⟩:ByteArray).size≤maxLen:=Nat.zero_le _;refine enter func65 rfl ntmps65 fun w0=>?_;refine M9 (xs:=ws) 0 ?_;rintro hi0 b0 o0 rfl s0
 repeat (first|(apply wO;apply oc;rfl;exact ydE)|(apply wO;apply Co;rfl;intro _)|apply Apv|apply Aav|apply Adm|apply Sx)
 refine Eg [0,2,3] [0,1,2,3] (fun _:Unit=>[]) (fun _=>[]) (fun _=>ws.length=2∧∀h1:1 < ws.length,¬(ws[0]=⟨#[115,101,110,100]⟩∧¬ws[1]=⟨#[]⟩)) ?_ fun _ hj=>?_
 ·by_cases h1:ws[0]=⟨#[115,101,110,100]⟩
  ·refine go ?_;intros;rw [show decide (ws[0]=⟨#[115,101,110,100]⟩)=true from decide_eq_true h1];by_cases hn:ws.length=1
   ·refine go ?_;intros;rw [show decide ((ws.length:Int)=1)=true from decide_eq_true GJ];refine go ?_;intros;refine ret (⟨⟨1,0,⟨#[]⟩⟩,true⟩:Jp × Bool) ⟨hz0,Amx hi0 h1 hn⟩ rfl
   refine go ?_;intros;rw [show decide ((ws.length:Int)=1)=false from decide_eq_false GJ];refine go ?_;intros;rw [show decide (ws[0]=⟨#[115,101,110,100]⟩)=true from decide_eq_true h1];by_cases hn2:ws.length=2
   rotate_left
   ·refine go ?_;intros;rw [show decide ((ws.length:Int)=2)=false from decide_eq_false GJ];refine go ?_;intros;rw [show decide (ws[0]=⟨#[116,105,99,107]⟩)=false from decide_eq_false (by rw [h1];decide)];refine go ?_;intros;refine Be rfl (fun h9=>?_) (fun h9=>?_)
    rotate_left
    ·exact absurd h9 GJ
    refine go ?_;intros;refine ret (⟨⟨0,0,⟨#[]⟩⟩,false⟩:Jp × Bool) ⟨hz0,Wz hn2 (fun _ e=>absurd e hn) hi0⟩ rfl
   refine M9 (xs:=ws) 1 ?_;rintro hi1 b1 o1 e1 s1;cases e1;refine go ?_;intros;rw [show decide ((ws.length:Int)=2)=true from decide_eq_true GJ];refine go ?_;intros;by_cases he:ws[1]=⟨#[]⟩
   ·rw [show decide (¬ws[1]=⟨#[]⟩)=false from decide_eq_false (fun h=>h he)];refine go ?_;intros;rw [show decide (ws[0]=⟨#[116,105,99,107]⟩)=false from decide_eq_false (by rw [h1];decide)];refine go ?_;intros;refine Be rfl (fun h9=>?_) (fun h9=>?_)
    ·exact absurd h9 GJ
    refine go ?_;intros;refine Bw () ⟨hn2,fun _ h=>h.2 he⟩
   ·rw [show decide (¬ws[1]=⟨#[]⟩)=true from decide_eq_true he];refine go ?_;intros;refine ret (⟨⟨1,0,ws[1]⟩,true⟩:Jp × Bool) ⟨s1,Ac9 hi1 h1 hn2 he⟩ rfl
  ·refine go ?_;intros;rw [show decide (ws[0]=⟨#[115,101,110,100]⟩)=false from decide_eq_false h1];refine go ?_;intros;rw [show decide (ws[0]=⟨#[115,101,110,100]⟩)=false from decide_eq_false h1];refine go ?_;intros;by_cases h2:ws[0]=⟨#[116,105,99,107]⟩
   ·rw [show decide (ws[0]=⟨#[116,105,99,107]⟩)=true from decide_eq_true h2];refine go ?_;intros;by_cases hn:ws.length=1
    ·rw [show decide ((ws.length:Int)=1)=true from decide_eq_true GJ];refine go ?_;intros;refine ret (⟨⟨4,0,⟨#[]⟩⟩,true⟩:Jp × Bool) ⟨hz0,Ao5 hi0 h2 hn⟩ rfl
    rw [show decide ((ws.length:Int)=1)=false from decide_eq_false GJ];refine go ?_;intros;refine Be rfl (fun h9=>?_) (fun h9=>?_)
    ·refine go ?_;intros;refine ret (⟨⟨0,0,⟨#[]⟩⟩,false⟩:Jp × Bool) ⟨hz0,Wz GJ (fun _ e=>⟨h1,fun e2=>by first|omega|exact h2 e2⟩) hi0⟩ rfl
    refine go ?_;intros;refine Bw () ⟨GJ,fun _ h=>h1 h.1⟩
   ·rw [show decide (ws[0]=⟨#[116,105,99,107]⟩)=false from decide_eq_false h2];refine go ?_;intros;refine Be rfl (fun h9=>?_) (fun h9=>?_)
    ·refine go ?_;intros;refine ret (⟨⟨0,0,⟨#[]⟩⟩,false⟩:Jp × Bool) ⟨hz0,Wz GJ (fun _ e=>⟨h1,fun e2=>by first|omega|exact h2 e2⟩) hi0⟩ rfl
    refine go ?_;intros;refine Bw () ⟨GJ,fun _ h=>h1 h.1⟩
 obtain ⟨hn2,hns⟩:=hj;have hi1:1 < ws.length:=by omega
 have hsw:=Aix hi1 hn2 (hns hi1);have hz1:=hz _ (List.getElem_mem hi1);refine M9 (xs:=ws) 1 ?_;rintro - b1 o1 e1 s1;cases e1;refine go ?_;intros;apply wO;refine Be7 rfl fun mb=>?_;apply wO;refine Aqe (s:=⟨#[100,111,119,110]⟩) rfl rfl rfl Aj4 rfl ?_;apply wO;refine Aqe (s:=⟨#[117,112]⟩) rfl rfl rfl Aj4 rfl ?_;apply wO;refine Aqe (s:=⟨#[108,111,115,101]⟩) rfl rfl rfl Aj4 rfl ?_;apply wO;refine Aqe (s:=⟨#[99,117,116]⟩) rfl rfl rfl Aj4 rfl ?_;refine go ?_;intros;apply wO;apply oc;rfl;exact Beu (es:=Ajs) rfl rfl Bp;obtain ⟨g1,g2⟩:=An9 ws[0];rw [g1,g2];refine go ?_;intros
 refine cb (fun w st=>(Aeg ws[1] FT GJ).val w (I9 (st.get (p:=Gc FT) GL))) ?_;by_cases hk:Pn (ws[0]).data.toList≠0
 ·rw [show decide (Pn (ws[0]).data.toList≠0)=true from decide_eq_true hk];refine go ?_;intros;refine ret (⟨⟨Pn (ws[0]).data.toList,(Cc ws[1]).1,⟨#[]⟩⟩,(Cc ws[1]).2⟩:Jp × Bool) ⟨hz0,?_⟩ rfl;rw [hsw];cases (Cc ws[1]).2
  ·rw [if_neg (fun e=>by cases e.2)];rfl
  ·rw [if_pos ⟨hk,rfl⟩];rfl
 ·rw [show decide (Pn (ws[0]).data.toList≠0)=false from decide_eq_false hk];refine go ?_;intros;refine ret (⟨⟨Pn (ws[0]).data.toList,(Cc ws[1]).1,⟨#[]⟩⟩,false⟩:Jp × Bool) ⟨hz0,?_⟩ rfl;rw [hsw,if_neg (fun e=>hk e.1)];rfl
theorem Oo {n:Dt} (h:Aw n=true):2≤n.Al.Ad.length∧n.Al.Ad.length≤8∧n.down.length≤8∧n.up.length=n.down.length∧n.Ae.length=n.Al.Ad.length∧n.down.length=n.Al.Ad.length:=by
 have hG:=Ay.1 h;have h1:=(Gn hG.t).n0;have h2:=(Gn hG.t).n1;obtain ⟨q1,q2,q3,q4⟩:=Bk.1 hG.l;exact ⟨h1,h2,GJ,GJ,GJ,GJ⟩
structure DrS where
 x:NE
 z:NV
 a:Option Addr
 c:Nat
 F:List Nat
structure DrK where
 k:Nat
 z:NV
 a:Option Addr
 c:Nat
 F:List Nat
theorem rdQ {w:World} {t:TypeId} {a:Option Addr} {n c:Nat} {l:List (List Av)} {F:List Nat} (h:(Pc.ow (Fv Aj 159) t (.slice a n c) l F).P w):∃F',(Pc.sl (Nn Aj GM) (.slice a n c) l F').P w:=by
 obtain ⟨F', -,hs⟩:=h.2.sl (Pj (Kv.refl Aj) GM _);exact ⟨F',GM,hs⟩
theorem Uf (l:List (List Av)) (a:Option Addr) (c:Nat) (F:List Nat) (hl:l.length≤8) (hq:∀q∈l,q.length≤6):Fn prog 116 [.slice a l.length c] [.sl (Nn Aj GM) (.slice a l.length c) l F] [] (fun (_:Unit)=>True) (fun _=>.int .i64 ((qd l:Nat):Int)) (fun _=>[]):=by
 refine enter func116 rfl ntmps116 fun w0=>?_;refine go ?_;intros;refine Ev [6,7] (fun k:Nat=>[(3,.int .i64 ((qd (l.take k):Nat):Int)),(8,.int .i64 (k:Nat))]) (fun k=>k≤l.length) (fun k=>l.length - k) 0 (Nat.zero_le _) fun k hk=>?_;have h6:=Nu hq k;refine go ?_;intros;refine Be rfl (fun h1=>?_) (fun h1=>?_)
 ·have hh:k < l.length:=by omega
  have h7:=hq l[k] (List.getElem_mem hh);refine O6 (E:=Aj) (hz:=GM) (xs:=l) k ?_;rintro hi6 b6 o6 a11 c11 F11 rfl l11;refine go ?_;intros;rw [show ((qd (l.take k):Nat):Int)+(l[k].length:Int)=((qd (l.take (k+1)):Nat):Int) by rw [Aj1 hh];omega];refine Cu (k+1) hh HV
 ·obtain rfl:k=l.length:=by omega
  refine go ?_;intros;refine ret () trivial ?_;rw [List.take_length];rfl
theorem Atm {n:Dt} {s:Jp} (hg:Aw n=true) (hs:Ek s=true):n.Al.Ad.length=(Hh n (Bo n s)).Al.Ad.length∧n.Ae.length=(Hh n (Bo n s)).Ae.length∧n.Ac.length=(Hh n (Bo n s)).Ac.length∧n.down.length=(Hh n (Bo n s)).down.length∧n.up.length=(Hh n (Bo n s)).up.length:=by
 cases e:Bo n s with
 | none=>exact ⟨rfl,rfl,rfl,rfl,rfl⟩
 | some r=>exact Azm hg (Mw hg hs e) (Rt e)
theorem Akb (n:Dt) (s:Jp) (g:Nat) (a1:Option Addr) (c1:Nat) (F1:List Nat) (a2:Option Addr) (c2:Nat) (F2:List Nat) (a3:Option Addr) (c3:Nat) (F3:List Nat) (a4:Option Addr) (c4:Nat) (F4:List Nat) (a5:Option Addr) (c5:Nat) (F5:List Nat) (a6:Option Addr) (c6:Nat) (F6:List Nat) (a7:Option Addr) (c7:Nat) (F7:List Nat) (FT:List Nat) (hg:Aw n=true) (hs:Ek s=true) (hss:s.data.size≤maxLen) :
  Fn prog 67 [Hm g 0 0,.agg #[.int .i64 (s).Ct,.int .i64 (s).node,.string (s).data]] [Gc FT] [.row g 48 0 [] [.slice a1 n.Al.Ad.length c1,.int .i64 n.Aa.Ab.Ao,.int .i64 n.Aa.Ab.size,.slice a2 n.Aa.Ab.Ak.length c2,.int .i64 n.Aa.Ai,.int .i64 n.Aa.quiet,.slice a3 n.Aa.holds.length c3,.slice a4 n.Ae.length c4,.slice a5 n.Ac.length c5,.slice a6 n.down.length c6,.slice a7 n.up.length c7] [],.ow Bc 3 (.slice a1 n.Al.Ad.length c1) n.Al.Ad F1,.ow A8 9 (.slice a2 n.Aa.Ab.Ak.length c2) n.Aa.Ab.Ak F2,.ow Bi 156 (.slice a3 n.Aa.holds.length c3) n.Aa.holds F3,.ow Bj 110 (.slice a4 n.Ae.length c4) n.Ae F4,.ow Bg 117 (.slice a5 n.Ac.length c5) n.Ac F5,.ow (Fv Aj 159) 135 (.slice a6 n.down.length c6) n.down F6,.ow (Fv Aj 159) 135 (.slice a7 n.up.length c7) n.up F7] (fun (_:NV × KA)=>True) (fun z=>.tuple #[.slice z.2.a (Uc (Bo n s)).length z.2.c,.bool (Bo n s).isSome]) (fun z=>[.row g 48 0 [] [.slice z.1.a1 (Hh n (Bo n s)).Al.Ad.length z.1.c1,.int .i64 (Hh n (Bo n s)).Aa.Ab.Ao,.int .i64 (Hh n (Bo n s)).Aa.Ab.size,.slice z.1.a2 (Hh n (Bo n s)).Aa.Ab.Ak.length z.1.c2,.int .i64 (Hh n (Bo n s)).Aa.Ai,.int .i64 (Hh n (Bo n s)).Aa.quiet,.slice z.1.a3 (Hh n (Bo n s)).Aa.holds.length z.1.c3,.slice z.1.a4 (Hh n (Bo n s)).Ae.length z.1.c4,.slice z.1.a5 (Hh n (Bo n s)).Ac.length z.1.c5,.slice z.1.a6 (Hh n (Bo n s)).down.length z.1.c6,.slice z.1.a7 (Hh n (Bo n s)).up.length z.1.c7] [],.ow Bc 3 (.slice z.1.a1 (Hh n (Bo n s)).Al.Ad.length z.1.c1) (Hh n (Bo n s)).Al.Ad z.1.F1,.ow A8 9 (.slice z.1.a2 (Hh n (Bo n s)).Aa.Ab.Ak.length z.1.c2) (Hh n (Bo n s)).Aa.Ab.Ak z.1.F2,.ow Bi 156 (.slice z.1.a3 (Hh n (Bo n s)).Aa.holds.length z.1.c3) (Hh n (Bo n s)).Aa.holds z.1.F3,.ow Bj 110 (.slice z.1.a4 (Hh n (Bo n s)).Ae.length z.1.c4) (Hh n (Bo n s)).Ae z.1.F4,.ow Bg 117 (.slice z.1.a5 (Hh n (Bo n s)).Ac.length z.1.c5) (Hh n (Bo n s)).Ac z.1.F5,.ow (Fv Aj 159) 135 (.slice z.1.a6 (Hh n (Bo n s)).down.length z.1.c6) (Hh n (Bo n s)).down z.1.F6,.ow (Fv Aj 159) 135 (.slice z.1.a7 (Hh n (Bo n s)).up.length z.1.c7) (Hh n (Bo n s)).up z.1.F7,.ow A8 9 (.slice z.2.a (Uc (Bo n s)).length z.2.c) (Uc (Bo n s)) z.2.F]):=by
 obtain ⟨k1,k2,k3,k4,k5⟩:=Atm hg hs;have h:=Bcv n s g a1 c1 F1 a2 c2 F2 a3 c3 F3 a4 c4 F4 a5 c5 F5 a6 c6 F6 a7 c7 F7 FT hg hs hss;rw [←k1,←k2,←k3,←k4,←k5];exact h
theorem Aua (n:Dt) (g:Nat) (a1:Option Addr) (c1:Nat) (F1:List Nat) (a2:Option Addr) (c2:Nat) (F2:List Nat) (a3:Option Addr) (c3:Nat) (F3:List Nat) (a4:Option Addr) (c4:Nat) (F4:List Nat) (a5:Option Addr) (c5:Nat) (F5:List Nat) (a6:Option Addr) (c6:Nat) (F6:List Nat) (a7:Option Addr) (c7:Nat) (F7:List Nat) (FT:List Nat) (hg:Aw n=true) :
  Fn prog 69 [Hm g 0 0] [Gc FT] [.row g 48 0 [] [.slice a1 n.Al.Ad.length c1,.int .i64 n.Aa.Ab.Ao,.int .i64 n.Aa.Ab.size,.slice a2 n.Aa.Ab.Ak.length c2,.int .i64 n.Aa.Ai,.int .i64 n.Aa.quiet,.slice a3 n.Aa.holds.length c3,.slice a4 n.Ae.length c4,.slice a5 n.Ac.length c5,.slice a6 n.down.length c6,.slice a7 n.up.length c7] [],.ow Bc 3 (.slice a1 n.Al.Ad.length c1) n.Al.Ad F1,.ow A8 9 (.slice a2 n.Aa.Ab.Ak.length c2) n.Aa.Ab.Ak F2,.ow Bi 156 (.slice a3 n.Aa.holds.length c3) n.Aa.holds F3,.ow Bj 110 (.slice a4 n.Ae.length c4) n.Ae F4,.ow Bg 117 (.slice a5 n.Ac.length c5) n.Ac F5,.ow (Fv Aj 159) 135 (.slice a6 n.down.length c6) n.down F6,.ow (Fv Aj 159) 135 (.slice a7 n.up.length c7) n.up F7] (fun (_:NV × KA)=>True) (fun z=>.slice z.2.a (Pv n).2.length z.2.c) (fun z=>[.row g 48 0 [] [.slice z.1.a1 (Pv n).1.Al.Ad.length z.1.c1,.int .i64 (Pv n).1.Aa.Ab.Ao,.int .i64 (Pv n).1.Aa.Ab.size,.slice z.1.a2 (Pv n).1.Aa.Ab.Ak.length z.1.c2,.int .i64 (Pv n).1.Aa.Ai,.int .i64 (Pv n).1.Aa.quiet,.slice z.1.a3 (Pv n).1.Aa.holds.length z.1.c3,.slice z.1.a4 (Pv n).1.Ae.length z.1.c4,.slice z.1.a5 (Pv n).1.Ac.length z.1.c5,.slice z.1.a6 (Pv n).1.down.length z.1.c6,.slice z.1.a7 (Pv n).1.up.length z.1.c7] [],.ow Bc 3 (.slice z.1.a1 (Pv n).1.Al.Ad.length z.1.c1) (Pv n).1.Al.Ad z.1.F1,.ow A8 9 (.slice z.1.a2 (Pv n).1.Aa.Ab.Ak.length z.1.c2) (Pv n).1.Aa.Ab.Ak z.1.F2,.ow Bi 156 (.slice z.1.a3 (Pv n).1.Aa.holds.length z.1.c3) (Pv n).1.Aa.holds z.1.F3,.ow Bj 110 (.slice z.1.a4 (Pv n).1.Ae.length z.1.c4) (Pv n).1.Ae z.1.F4,.ow Bg 117 (.slice z.1.a5 (Pv n).1.Ac.length z.1.c5) (Pv n).1.Ac z.1.F5,.ow (Fv Aj 159) 135 (.slice z.1.a6 (Pv n).1.down.length z.1.c6) (Pv n).1.down z.1.F6,.ow (Fv Aj 159) 135 (.slice z.1.a7 (Pv n).1.up.length z.1.c7) (Pv n).1.up z.1.F7,.ow A8 9 (.slice z.2.a (Pv n).2.length z.2.c) (Pv n).2 z.2.F]):=by
 have hwn:=Ax8 hg;refine enter func69 rfl ntmps69 fun w0=>?_;refine Br A8 9 ?_;refine go ?_;intros
 refine Ck [0] (fun s:DrS=>[(3,.slice s.a s.x.2.length s.c)]) (fun s=>[.row g 48 0 [] [.slice s.z.a1 s.x.1.Al.Ad.length s.z.c1,.int .i64 s.x.1.Aa.Ab.Ao,.int .i64 s.x.1.Aa.Ab.size,.slice s.z.a2 s.x.1.Aa.Ab.Ak.length s.z.c2,.int .i64 s.x.1.Aa.Ai,.int .i64 s.x.1.Aa.quiet,.slice s.z.a3 s.x.1.Aa.holds.length s.z.c3,.slice s.z.a4 s.x.1.Ae.length s.z.c4,.slice s.z.a5 s.x.1.Ac.length s.z.c5,.slice s.z.a6 s.x.1.down.length s.z.c6,.slice s.z.a7 s.x.1.up.length s.z.c7] [],.ow Bc 3 (.slice s.z.a1 s.x.1.Al.Ad.length s.z.c1) s.x.1.Al.Ad s.z.F1,.ow A8 9 (.slice s.z.a2 s.x.1.Aa.Ab.Ak.length s.z.c2) s.x.1.Aa.Ab.Ak s.z.F2,.ow Bi 156 (.slice s.z.a3 s.x.1.Aa.holds.length s.z.c3) s.x.1.Aa.holds s.z.F3,.ow Bj 110 (.slice s.z.a4 s.x.1.Ae.length s.z.c4) s.x.1.Ae s.z.F4,.ow Bg 117 (.slice s.z.a5 s.x.1.Ac.length s.z.c5) s.x.1.Ac s.z.F5,.ow (Fv Aj 159) 135 (.slice s.z.a6 s.x.1.down.length s.z.c6) s.x.1.down s.z.F6,.ow (Fv Aj 159) 135 (.slice s.z.a7 s.x.1.up.length s.z.c7) s.x.1.up s.z.F7,.ow A8 9 (.slice s.a s.x.2.length s.c) s.x.2 s.F]) (fun s=>Uj (n,[]) s.x∧drE s.x=Pv n) (fun s=>wN s.x.1) ⟨(n,[]),⟨a1,c1,F1,a2,c2,F2,a3,c3,F3,a4,c4,F4,a5,c5,F5,a6,c6,F6,a7,c7,F7⟩,none,0,[]⟩ ⟨.refl hg,rfl⟩ fun s hs0=>?_
 obtain ⟨x,⟨x1,w1,K1,x2,w2,K2,x3,w3,K3,x4,w4,K4,x5,w5,K5,x6,w6,K6,x7,w7,K7⟩,ea,ec,eF⟩:=s;obtain ⟨fx,hR⟩:=hs0;dsimp only at fx hR ⊢;have hG:=Ay.1 fx.g;have h8:=Gn hG.t;have hn8:=h8.n1;have hn2:=h8.n0;obtain ⟨q1,q2,q3,q4⟩:=Bk.1 hG.l;obtain ⟨-, -,hd6,hu6⟩:=Hw fx.g;have hd6:∀q∈x.1.down,q.length≤6:=fun q hq=>(C6 (hd6 q hq)).1;have hu6:∀q∈x.1.up,q.length≤6:=fun q hq=>(C6 (hu6 q hq)).1;have hb1:=Nu hd6 x.1.down.length;have hb2:=Nu hu6 x.1.up.length;rw [List.take_length] at hb1 hb2;have hev:=fx.e;simp only [List.length_nil] at hev;refine go ?_;intros;refine At [0] [] ?_;refine Dk 0 1 2 3 ?_
 refine Dk 5 6 7 8 ?_;refine dN 4 ?_;refine oC ?_;refine cfr (fun w st=>by obtain ⟨Fq,hq⟩:=rdQ (st.get (p:=.ow (Fv Aj 159) 135 (.slice x6 x.1.down.length w6) x.1.down K6) GO);exact ⟨_,I9 hq,rfl,Uf _ _ _ Fq GJ IC⟩) (fun _ _=>?_);refine Ar ?_;refine dk ?_;refine dN 9 ?_;refine oC ?_;refine cfr (fun w st=>by obtain ⟨Fq,hq⟩:=rdQ (st.get (p:=.ow (Fv Aj 159) 135 (.slice x7 x.1.up.length w7) x.1.up K7) GO);exact ⟨_,I9 hq,rfl,Uf _ _ _ Fq GJ IC⟩) (fun _ _=>?_);refine Ar ?_;refine dk ?_;refine Dy 10 11 ?_;refine dd ?_;refine go ?_;intros
 refine Be rfl (fun h1=>?_) (fun h1=>?_)
 ·have hq0:¬Wr x.1=0:=by unfold Wr;omega
  obtain ⟨fR,hw⟩:=Mc fx.g;have hw:=hw hq0;refine go ?_;intros
  refine Ck [0,24] (fun y:DrK=>[(3,.slice y.a (El x y.k).2.length y.c),(25,.int .i64 (y.k:Nat))]) (fun y=>[.row g 48 0 [] [.slice y.z.a1 (El x y.k).1.Al.Ad.length y.z.c1,.int .i64 (El x y.k).1.Aa.Ab.Ao,.int .i64 (El x y.k).1.Aa.Ab.size,.slice y.z.a2 (El x y.k).1.Aa.Ab.Ak.length y.z.c2,.int .i64 (El x y.k).1.Aa.Ai,.int .i64 (El x y.k).1.Aa.quiet,.slice y.z.a3 (El x y.k).1.Aa.holds.length y.z.c3,.slice y.z.a4 (El x y.k).1.Ae.length y.z.c4,.slice y.z.a5 (El x y.k).1.Ac.length y.z.c5,.slice y.z.a6 (El x y.k).1.down.length y.z.c6,.slice y.z.a7 (El x y.k).1.up.length y.z.c7] [],.ow Bc 3 (.slice y.z.a1 (El x y.k).1.Al.Ad.length y.z.c1) (El x y.k).1.Al.Ad y.z.F1,.ow A8 9 (.slice y.z.a2 (El x y.k).1.Aa.Ab.Ak.length y.z.c2) (El x y.k).1.Aa.Ab.Ak y.z.F2,.ow Bi 156 (.slice y.z.a3 (El x y.k).1.Aa.holds.length y.z.c3) (El x y.k).1.Aa.holds y.z.F3,.ow Bj 110 (.slice y.z.a4 (El x y.k).1.Ae.length y.z.c4) (El x y.k).1.Ae y.z.F4,.ow Bg 117 (.slice y.z.a5 (El x y.k).1.Ac.length y.z.c5) (El x y.k).1.Ac y.z.F5,.ow (Fv Aj 159) 135 (.slice y.z.a6 (El x y.k).1.down.length y.z.c6) (El x y.k).1.down y.z.F6,.ow (Fv Aj 159) 135 (.slice y.z.a7 (El x y.k).1.up.length y.z.c7) (El x y.k).1.up y.z.F7,.ow A8 9 (.slice y.a (El x y.k).2.length y.c) (El x y.k).2 y.F]) (fun y=>y.k≤x.1.Al.Ad.length) (fun y=>x.1.Al.Ad.length - y.k) ⟨0,⟨x1,w1,K1,x2,w2,K2,x3,w3,K3,x4,w4,K4,x5,w5,K5,x6,w6,K6,x7,w7,K7⟩,ea,ec,eF⟩ (Nat.zero_le _) fun y hy0=>?_
  obtain ⟨j,⟨x1,w1,K1,x2,w2,K2,x3,w3,K3,x4,w4,K4,x5,w5,K5,x6,w6,K6,x7,w7,K7⟩,ya,yc,yF⟩:=y;dsimp only at hy0 ⊢;have fJ:=Ac7 fx.g j hy0;have fX:=fx.trans fJ;generalize hX:El x j=X at fJ fX ⊢;refine go ?_;intros;refine Be rfl (fun h2=>?_) (fun h2=>?_)
  ·have hj:j < x.1.Al.Ad.length:=by omega
   have hXt:X.1.Al.Ad.length=x.1.Al.Ad.length:=by rw [fJ.t]
   have hG:=Ay.1 fX.g;obtain ⟨q1,q2,q3,q4⟩:=Bk.1 hG.l;have hjd:j < X.1.down.length:=by omega
   have hsd:=Xq (n:=X.1) (i:=j) GJ;rw [Pa hjd] at hsd;have hz1:=Aaa fX.g;have hev2:=fX.e;simp only [List.length_nil] at hev2;refine go ?_;intros;refine Aba (xs:=X.1.down) (m:=1) j ?_ rfl GJ;rintro _ g6 A6 cs6 B6 p6 q6 G6 Gi6 H6 e6 - hc6 hH6;rw [e6];refine Xn ?_;rintro a6 c6 ev6 l6;obtain rfl:cs6=[.slice a6 X.1.down[j].length c6]:=by simpa using ev6
   refine go ?_;intros;refine Be rfl (fun h4=>?_) (fun h4=>?_)
   ·have j1:1≤j:=by
     rcases Nat.eq_zero_or_pos j with rfl|h
     ·have:=hz1.1;rw [Pa hjd] at this;omega
     ·exact h
    have ok:=Azv j1 GJ;refine Jv X.1.down[j] ?_;refine Vd _ hH6 rfl fun J6=>?_;rw [List.set_getElem_self];refine go ?_;intros;refine cf (Akb X.1 (Ij j) g x1 w1 K1 x2 w2 K2 x3 w3 K3 x4 w4 K4 x5 w5 K5 _ w6 J6 x7 w7 K7 FT fX.g ok (Nat.zero_le _)) fun z _=>?_;refine Ar ?_;have hfe:=fX.trans (Bc0 fX.g (i:=j) GJ);have hfe2:=hfe.e;have htl:(Mm X (Ij j)).2.length=X.2.length+(Uc (Bo X.1 (Ij j))).length:=List.length_append;simp only [List.length_nil] at hfe2;refine A4 (E:=A8) (xs:=Uc (Bo X.1 (Ij j))) fun F8=>?_;refine go ?_;intros;apply wO
    refine N3 (E:=A8) (xs:=X.2) (ys:=Uc (Bo X.1 (Ij j))) Dp Hi fun a9 c9 F9=>?_;generalize hX1:Mm X (Ij j)=X1 at hfe hfe2 htl;rw [show X.2++Uc (Bo X.1 (Ij j))=X1.2 by rw [←hX1];rfl,show Hh X.1 (Bo X.1 (Ij j))=X1.1 by rw [←hX1];rfl];have fX1:Uj X X1:=by rw [←hX1];exact Bc0 fX.g (by rw [hXt];exact hj)
    have hG1:=Ay.1 fX1.g;obtain ⟨r1,r2,r3,r4⟩:=Bk.1 hG1.l;have hX1t:X1.1.Al.Ad.length=x.1.Al.Ad.length:=by rw [fX1.t];exact hXt
    have hju:j < X1.1.up.length:=by omega
    have hsu:=Va (n:=X1.1) (i:=j) GJ;rw [Pa hju] at hsu;have hz0:=Aaa fX1.g;refine go ?_;intros;refine Aba (xs:=X1.1.up) (m:=1) j ?_ rfl GJ;rintro _ g7 A7 cs7 B7 p7 q7 G7 Gi7 H7 e7 - hc7 hH7;rw [e7];refine Xn ?_;rintro a7 c7 ev7 l7;obtain rfl:cs7=[.slice a7 X1.1.up[j].length c7]:=by simpa using ev7
    refine go ?_;intros;refine Be rfl (fun h3=>?_) (fun h3=>?_)
    ·have j1:1≤j:=by
      rcases Nat.eq_zero_or_pos j with rfl|h
      ·have:=hz0.2;rw [Pa hju] at this;omega
      ·exact h
     have ok:=Awh j1 GJ;have hnx:El x (j+1)=(Hh X1.1 (Bo X1.1 (Lt j)),X1.2):=by
      show Mm (Mm (El x j) (Ij j)) (Lt j)=_;rw [hX,hX1];exact Prod.ext rfl (Bc1 fX1.g (i:=j) GJ).2
     refine Jv X1.1.up[j] ?_;refine Vd _ hH7 rfl fun J7=>?_;rw [List.set_getElem_self];refine go ?_;intros;refine cf (Akb X1.1 (Lt j) g z.1.a1 z.1.c1 z.1.F1 z.1.a2 z.1.c2 z.1.F2 z.1.a3 z.1.c3 z.1.F3 z.1.a4 z.1.c4 z.1.F4 z.1.a5 z.1.c5 z.1.F5 z.1.a6 z.1.c6 z.1.F6 _ z.1.c7 J7 FT fX1.g ok (Nat.zero_le _)) fun y _=>?_;refine Ar ?_;refine go ?_;intros
     refine Cu ⟨j+1,⟨y.1.a1,y.1.c1,y.1.F1,y.1.a2,y.1.c2,y.1.F2,y.1.a3,y.1.c3,y.1.F3,y.1.a4,y.1.c4,y.1.F4,y.1.a5,y.1.c5,y.1.F5,y.1.a6,y.1.c6,y.1.F6,y.1.a7,y.1.c7,y.1.F7⟩,a9,c9,F9⟩ (by show j+1≤_;omega) HU HM HL
    ·have hnx:El x (j+1)=X1:=by
      show Mm (Mm (El x j) (Ij j)) (Lt j)=_;rw [hX,hX1];exact Jd (by rw [hsu,if_pos GJ])
     refine Jv X1.1.up[j] ?_;refine Vd _ hH7 rfl fun J7=>?_;rw [List.set_getElem_self];refine go ?_;intros;refine Cu ⟨j+1,⟨z.1.a1,z.1.c1,z.1.F1,z.1.a2,z.1.c2,z.1.F2,z.1.a3,z.1.c3,z.1.F3,z.1.a4,z.1.c4,z.1.F4,z.1.a5,z.1.c5,z.1.F5,z.1.a6,z.1.c6,z.1.F6,_,z.1.c7,J7⟩,a9,c9,F9⟩ (by show j+1≤_;omega) HU HM HL
   ·have htn:Mm X (Ij j)=X:=Jd (by rw [hsd,if_pos GJ]);refine Jv X.1.down[j] ?_;refine Vd _ hH6 rfl fun J6=>?_;rw [List.set_getElem_self];obtain ⟨X1,hX1⟩:∃X1,Mm X (Ij j)=X1:=⟨_,rfl⟩;have hXX:X1=X:=by rw [←hX1,htn]
    subst hXX;have fX1:Uj X1 X1:=.refl fX.g;have hG1:=Ay.1 fX1.g;obtain ⟨r1,r2,r3,r4⟩:=Bk.1 hG1.l;have hX1t:X1.1.Al.Ad.length=x.1.Al.Ad.length:=by rw [fX1.t];exact hXt
    have hju:j < X1.1.up.length:=by omega
    have hsu:=Va (n:=X1.1) (i:=j) GJ;rw [Pa hju] at hsu;have hz0:=Aaa fX1.g;refine go ?_;intros;refine Aba (xs:=X1.1.up) (m:=1) j ?_ rfl GJ;rintro _ g7 A7 cs7 B7 p7 q7 G7 Gi7 H7 e7 - hc7 hH7;rw [e7];refine Xn ?_;rintro a7 c7 ev7 l7;obtain rfl:cs7=[.slice a7 X1.1.up[j].length c7]:=by simpa using ev7
    refine go ?_;intros;refine Be rfl (fun h3=>?_) (fun h3=>?_)
    ·have j1:1≤j:=by
      rcases Nat.eq_zero_or_pos j with rfl|h
      ·have:=hz0.2;rw [Pa hju] at this;omega
      ·exact h
     have ok:=Awh j1 GJ;have hnx:El x (j+1)=(Hh X1.1 (Bo X1.1 (Lt j)),X1.2):=by
      show Mm (Mm (El x j) (Ij j)) (Lt j)=_;rw [hX,hX1];exact Prod.ext rfl (Bc1 fX1.g (i:=j) GJ).2
     refine Jv X1.1.up[j] ?_;refine Vd _ hH7 rfl fun J7=>?_;rw [List.set_getElem_self];refine go ?_;intros;refine cf (Akb X1.1 (Lt j) g x1 w1 K1 x2 w2 K2 x3 w3 K3 x4 w4 K4 x5 w5 K5 _ w6 J6 _ w7 J7 FT fX1.g ok (Nat.zero_le _)) fun y _=>?_;refine Ar ?_;refine go ?_;intros;refine Cu ⟨j+1,⟨y.1.a1,y.1.c1,y.1.F1,y.1.a2,y.1.c2,y.1.F2,y.1.a3,y.1.c3,y.1.F3,y.1.a4,y.1.c4,y.1.F4,y.1.a5,y.1.c5,y.1.F5,y.1.a6,y.1.c6,y.1.F6,y.1.a7,y.1.c7,y.1.F7⟩,ya,yc,yF⟩ (by show j+1≤_;omega) HU HM HL
    ·have hnx:El x (j+1)=X1:=by
      show Mm (Mm (El x j) (Ij j)) (Lt j)=_;rw [hX,hX1];exact Jd (by rw [hsu,if_pos GJ])
     refine Jv X1.1.up[j] ?_;refine Vd _ hH7 rfl fun J7=>?_;rw [List.set_getElem_self];refine go ?_;intros;refine Cu ⟨j+1,⟨x1,w1,K1,x2,w2,K2,x3,w3,K3,x4,w4,K4,x5,w5,K5,_,w6,J6,_,w7,J7⟩,ya,yc,yF⟩ (by show j+1≤_;omega) HU HM HL
  ·obtain rfl:j=x.1.Al.Ad.length:=by omega
   have hX:=hX;rw [Aoy fx.g] at hX;refine go ?_;intros;refine Cu ⟨X,⟨x1,w1,K1,x2,w2,K2,x3,w3,K3,x4,w4,K4,x5,w5,K5,x6,w6,K6,x7,w7,K7⟩,ya,yc,yF⟩ ⟨fX,by rw [←hR,Aev fx.g hq0,hX]⟩ (by show wN X.1 < wN x.1;rw [←hX];exact hw)
 ·have hq0:Wr x.1=0:=by unfold Wr;omega
  rw [Zt hq0] at hR;rw [hR];exact EY
theorem Ag7 (n:Dt) (v:Value) (F:List Nat):Fn prog 84 [v] [.isv O1 v n F] [] (fun (_:Unit)=>True) (fun _=>.tuple #[.int .i64 (P0 n).1,.int .i64 (P0 n).2.1,.bool (P0 n).2.2]) (fun _=>[]):=by
 refine enter func84 rfl ntmps84 fun w0=>?_;refine Ia ?_;rintro a1 c1 F1 a2 c2 F2 a3 c3 F3 a4 c4 F4 a5 c5 F5 a6 c6 F6 a7 c7 F7 rfl l1 l2 l3 l4 l5 l6 l7;refine go ?_;intros;refine cf (Abl n _ F) fun _ _=>?_;refine Ar ?_;cases g:Aw n
 ·refine go ?_;intros;refine ret () trivial ?_;unfold P0;rw [g];rfl
 obtain ⟨-, -,e3,e4⟩:=Hw g;obtain ⟨q2,q8,qn,qu,qe,qt⟩:=Oo g;refine go ?_;intros;refine Ev [1,2,3,4] (fun k:Nat=>[(5,.int .i64 ((qd (n.down.take k):Nat):Int)),(6,.int .i64 ((qd (n.up.take k):Nat):Int)),(7,.int .i64 (k:Nat))]) (fun k=>k≤n.down.length) (fun k=>n.down.length - k) 0 (Nat.zero_le _) fun k hk=>?_;have b1:=Nu (fun q hq=>(C6 (e3 q hq)).1) k;have b2:=Nu (fun q hq=>(C6 (e4 q hq)).1) k;refine go ?_;intros;refine Be rfl (fun h3=>?_) (fun h3=>?_)
 ·have hk3:k < n.down.length:=by omega
  have hk4:k < n.up.length:=by omega
  have b3:=(C6 (e3 _ (List.getElem_mem hk3))).1;have b4:=(C6 (e4 _ (List.getElem_mem hk4))).1;have s3:=Aj1 hk3;have s4:=Aj1 hk4;refine O6 (E:=Aj) (hz:=GM) (xs:=n.down) k ?_;rintro hi1 g1 o1 a8 c8 F8 ea l8;refine O6 (E:=Aj) (hz:=GM) (xs:=n.up) k ?_;rintro hi2 g2 o2 a9 c9 F9 eb l9;rw [ea,eb];refine go ?_;intros;rw [show ((qd (n.down.take k):Nat):Int)+(n.down[k].length:Int)=((qd (n.down.take (k+1)):Nat):Int) by omega,show ((qd (n.up.take k):Nat):Int)+(n.up[k].length:Int)=((qd (n.up.take (k+1)):Nat):Int) by omega];exact EL
 ·have hk3:k=n.down.length:=by omega
  subst hk3;rw [List.take_length,show n.up.take n.down.length=n.up by rw [←qu,List.take_length]];refine go ?_;intros;refine ret () trivial ?_;unfold P0;rw [g];rfl
theorem Ann (n:Dt) (v:Value) (F:List Nat):Fn prog 118 [v] [.isv O1 v n F] [] (fun (_:Unit)=>True) (fun _=>.tuple #[.bool (Fh n).1,.bool (Fh n).2]) (fun _=>[]):=by
 refine enter func118 rfl ntmps118 fun w0=>?_;refine Ia ?_;rintro a1 c1 F1 a2 c2 F2 a3 c3 F3 a4 c4 F4 a5 c5 F5 a6 c6 F6 a7 c7 F7 rfl l1 l2 l3 l4 l5 l6 l7;refine go ?_;intros;refine cf (Ajc n _ F) fun _ _=>?_;refine Ar ?_;cases g:Aw n
 ·exact GB
 obtain ⟨-, -,e3,e4⟩:=Hw g;obtain ⟨q2,q8,qn,qu,qe,qt⟩:=Oo g;have hG:=Ay.1 g;obtain ⟨-,qr, -, -⟩:=Bk.1 hG.l;have hS:=Kx hG.s;have hW:=Dz.1 (Ez.1 hG.s).1;have hS1:=hS.l;have hb1:=Nu (fun q hq=>(C6 (e3 q hq)).1) n.down.length;have hb2:=Nu (fun q hq=>(C6 (e4 q hq)).1) n.up.length;rw [List.take_length] at hb1 hb2;refine M7 ?_;intros;refine Kq n.Al (a1:=a1) ?_;refine go ?_;intros;refine cf (Av2 n.Al _ _ GJ) fun z _=>?_;refine Ar ?_;refine A4 (E:=Bc) (xs:=lvs n.Al.Ad) fun Fl=>?_;have hlv:=Aie n.Al.Ad n.Al.Ad.length;rw [show Po n.Al.Ad n.Al.Ad.length=lvs n.Al.Ad from rfl] at hlv
 refine go ?_;intros;refine Ev [1,2,3,12,13] (fun k:Nat=>[(14,.int .i64 (k:Nat))]) (fun k=>k≤(lvs n.Al.Ad).length∧∀x∈(lvs n.Al.Ad).take k,Abc n x.toNat=true) (fun k=>(lvs n.Al.Ad).length - k) 0 ⟨Nat.zero_le _,GL⟩ fun k hk=>?_;obtain ⟨hk,hal⟩:=hk;refine go ?_;intros;refine Be rfl (fun h3=>?_) (fun h3=>?_)
 ·have hk3:k < (lvs n.Al.Ad).length:=by omega
  obtain ⟨i,hi8,hie,hlf⟩:=Bcb hk3;have h5:i < n.Ac.length:=by omega
  refine Io (xs:=lvs n.Al.Ad) k ?_;rintro hi b o e;rw [e,hie];refine Jt (xs:=n.Ac) i ?_;rintro h5b b5 o5 a9 c9 F9 a10 c10 F10 e5 l9 l10;rw [e5];refine Ee n.Ac[i] ?_;cases hs:Adr n.Ac[i]
  ·refine M7 ?_;intros;refine At [0,8] [] ?_;refine dt 0 ?_;refine dN 1 ?_;refine oC ?_;refine cf (Acp n.Ac[i] _ _) fun _ _=>?_;refine Ar ?_;rw [hs];refine dk ?_;refine Dy 2 3 ?_;refine ds 4 ?_;refine ds 5 ?_;refine ds 6 ?_;refine ds 7 ?_;refine ds 8 ?_;refine ds 9 ?_;refine ds 10 ?_;refine ds 11 ?_;refine dt 12 ?_;refine dd ?_;refine go ?_;intros;refine ret () trivial ?_;unfold Fh;rw [g];rw [if_pos rfl,Agd hi8 hlf (by unfold Abc;rw [Gh h5,hs];rfl)];rfl
  ·refine M7 ?_;intros;refine At [0,8] [] ?_;refine dt 0 ?_;refine dN 1 ?_;refine oC ?_;refine cf (Acp n.Ac[i] _ _) fun _ _=>?_;refine Ar ?_;rw [hs];refine dk ?_;refine Dy 2 3 ?_;refine Di 4 ?_;refine Di 5 ?_;refine Di 6 ?_;refine Di 7 ?_;refine Di 8 ?_;refine Di 9 ?_;refine d1g 10 ?_;apply On.h;refine oC ?_;refine cb (fun w s=>H5 n.Aa.Ab.Ao n.Aa.Ab.size _ n.Aa.Ab.Ak.length _ w hW.1.1 hW.1.2 GJ) ?_;refine dk ?_;refine Di 11 ?_;refine dt 12 ?_;refine dd ?_;refine go ?_;intros;refine Be rfl (fun h6=>?_) (fun h6=>?_)
   ·refine go ?_;intros;refine ret () trivial ?_;unfold Fh;rw [g];rw [if_pos rfl,Agd hi8 hlf (by unfold Abc;rw [Gh h5,hs,decide_eq_false h6];rfl)];rfl
   ·refine go ?_;intros;rw [show ((k:Nat):Int)+1=((k+1:Nat):Int) by omega];refine Cu (k+1) ⟨hk3,fun x hx=>?_⟩ GJ;rw [List.take_succ_eq_append_getElem hk3] at hx;rcases List.mem_append.1 hx with hx|hx
    ·exact hal x hx
    ·rw [List.mem_singleton.1 hx,hie];show Abc n i=true;unfold Abc;rw [Gh h5,hs,decide_eq_true (Decidable.not_not.1 h6)];rfl
 ·refine M7 ?_;intros;refine At [2] [] ?_;refine Dk 0 1 3 4 ?_;refine dN 2 ?_;refine oC ?_;refine cf (Uf n.down _ _ _ GJ fun q hq=>(C6 (e3 q hq)).1) fun _ _=>?_;refine Ar ?_;refine dk ?_;refine dN 5 ?_;refine oC ?_;refine cf (Uf n.up _ _ _ GJ fun q hq=>(C6 (e4 q hq)).1) fun _ _=>?_;refine Ar ?_;refine dk ?_;refine Dk 6 7 8 9 ?_;refine dd ?_;have hst:X4 n=decide (((qd n.down:Nat):Int)+((qd n.up:Nat):Int)=0):=by
   by_cases h0:Wr n=0
   ·rw [Am0 h0 fun j hj hl=>hal ((j:Nat):Int) (by rw [List.take_of_length_le GJ];exact Av6 hj hl)];exact (decide_eq_true JT).symm
   ·rw [Axf h0];exact (decide_eq_false JT).symm
  rw [←hst];exact GB
theorem Z5 {k:Nat} (h:k≤999999):(bz (Lib.itoa ((k:Nat):Int))).size≤6:=by
 rw [Jb,Pd (Int.natCast_nonneg k),Int.natAbs_natCast];exact Dx 5 k (by show _ < 1000000;omega)
theorem Azx (n:Dt) (line:ByteArray) (v:Value) (F FT:List Nat) (g:Aw n=true):Fn prog 70 [v,.string line] [.isv O1 v n F,Gc FT] [] (fun (u:ByteArray × Bool)=>J9 n line.data.toList=if u.2 then some u.1 else none) (fun u=>.tuple #[.string u.1,.bool u.2]) (fun _=>[]):=by
 refine enter func70 rfl ntmps70 fun w0=>?_;refine Ia ?_;rintro a1 c1 F1 a2 c2 F2 a3 c3 F3 a4 c4 F4 a5 c5 F5 a6 c6 F6 a7 c7 F7 rfl l1 l2 l3 l4 l5 l6 l7;obtain ⟨e1,e2,e3,e4⟩:=Hw g;obtain ⟨q2,q8,qn,qu,qe,qt⟩:=Oo g;have hG:=Ay.1 g;obtain ⟨-,qr, -, -⟩:=Bk.1 hG.l;have hS:=Kx hG.s;have hW:=Dz.1 (Ez.1 hG.s).1;have hS1:=hS.l;have hb1:=Nu (fun q hq=>(C6 (e3 q hq)).1) n.down.length;have hb2:=Nu (fun q hq=>(C6 (e4 q hq)).1) n.up.length;rw [List.take_length] at hb1 hb2;have z1:=Z5 (k:=qd n.down) GJ;have z2:=Z5 (k:=qd n.up) GJ;refine go ?_;intros;refine Be rfl (fun h1=>?_) (fun h1=>?_)
 ·refine go ?_;intros;refine cb (fun w s=>H5 n.Aa.Ab.Ao n.Aa.Ab.size _ n.Aa.Ab.Ak.length _ w hW.1.1 hW.1.2 GJ) ?_;have hld:=Z9 n.Aa.Ab;unfold Lb at hld;refine go ?_;intros;refine cb (fun w st=>Yz (Ce n.Aa.Ab.Ao n.Aa.Ab.Ak.length) GJ GJ FT w (st.get (p:=Gc FT) GL)) ?_;refine go ?_;intros;refine ret (⟨_,true⟩:ByteArray × Bool) ?_ rfl;show J9 n _=some _;unfold J9;rw [if_pos (show line.data.toList=Aau from Do.1 h1)];rfl
 refine go ?_;intros;refine Be rfl (fun h2=>?_) (fun h2=>?_)
 ·refine M7 ?_;intros;refine At [0] [] ?_;refine Dk 0 1 5 6 ?_;refine dN 2 ?_;refine oC ?_;refine cf (Uf n.down _ _ _ GJ fun q hq=>(C6 (e3 q hq)).1) fun _ _=>?_;refine Ar ?_;refine dk ?_;refine dN 3 ?_;refine oC ?_;refine cb (fun w st=>Yz ((qd n.down:Nat):Int) GJ GJ FT w (st.get (p:=Gc FT) GL)) ?_;refine dk ?_;refine dt 4 ?_ (hy:=M2 rfl rfl (by show _+1≤9223372036854775807;omega));refine dN 7 ?_;refine oC ?_;refine cf (Uf n.up _ _ _ GJ fun q hq=>(C6 (e4 q hq)).1) fun _ _=>?_;refine Ar ?_;refine dk ?_;refine dN 8 ?_;refine oC ?_
  refine cb (fun w st=>Yz ((qd n.up:Nat):Int) GJ GJ FT w (st.get (p:=Gc FT) GL)) ?_;refine dk ?_;refine dt 9 ?_ (hy:=M2 rfl rfl KM);refine Dy 10 11 ?_;refine dd ?_;refine go ?_;intros;refine ret (⟨_,true⟩:ByteArray × Bool) ?_ rfl;show J9 n _=some _;unfold J9;rw [if_neg (show ¬line.data.toList=Aau from fun e=>h1 (Do.2 e)),if_pos (show line.data.toList=Vf from Do.1 h2)]
 refine go ?_;intros;refine Be rfl (fun h3=>?_) (fun h3=>?_)
 ·refine go ?_;intros;have hP:=fun v=>Ann n v F;simp only [show Fh n=(X4 n,true) by unfold Fh;rw [g];rfl] at hP;refine cf (hP _) fun _ _=>?_;refine Ar ?_;have e:J9 n line.data.toList=some (if X4 n then bz Bar else bz wNo):=by
   unfold J9;rw [if_neg (show ¬line.data.toList=Aau from fun e=>h1 (Do.2 e)),if_neg (show ¬line.data.toList=Vf from fun e=>h2 (Do.2 e)),if_pos (show line.data.toList=W7 from Do.1 h3)]
  cases hst:X4 n
  ·refine go ?_;intros;refine ret (⟨bz wNo,true⟩:ByteArray × Bool) ?_ rfl;rw [e,hst];rfl
  ·refine go ?_;intros;refine ret (⟨bz Bar,true⟩:ByteArray × Bool) ?_ rfl;rw [e,hst];rfl
 ·refine go ?_;intros;refine ret (⟨⟨#[]⟩,false⟩:ByteArray × Bool) ?_ rfl;unfold J9;rw [if_neg (show ¬line.data.toList=Aau from fun e=>h1 (Do.2 e)),if_neg (show ¬line.data.toList=Vf from fun e=>h2 (Do.2 e)),if_neg (show ¬line.data.toList=W7 from fun e=>h3 (Do.2 e))];rfl
theorem Ts {n:Dt} {w:Bs} {l:List Int} (h:Eu 1 (l.getD 0 0) ((n.Al.Ad.length:Int) - 1)=true):Jf n w l =
  if w=Agl∧l.length=1∧Se n (l.getD 0 0)=true then some (T9 ((Pl n (l.getD 0 0).toNat).Am.map (·.Af)))
  else if w=Agn∧l.length=1∧Se n (l.getD 0 0)=true∧(Pl n (l.getD 0 0).toNat).Bd=true then some (Ye (Pl n (l.getD 0 0).toNat).Ab)
  else if w=M0∧l.length=2∧Se n (l.getD 0 0)=false then (if B9 (l.getD 1 0) then some (T9 (Kl (O9 n (l.getD 0 0).toNat) (l.getD 1 0))) else none)
  else none:=by unfold Jf;rw [if_pos h]
theorem Ahr {e:Bl} (he:Ba e=true) (k:Int):(∀f∈(E8 e k).1,0≤f∧f≤99999)∧(E8 e k).1.length≤1000:=by
 unfold E8
 split
 ·refine ⟨fun f hf=>by have:=Ahq he f hf;omega,?_⟩;unfold Kl
  split
  ·rename_i x hx;have:=(Ty he).2.2 x (List.mem_of_getElem? hx);dsimp only;omega
  ·exact Nat.zero_le _
 ·exact ⟨fun f hf=>(by cases hf),Nat.zero_le _⟩
theorem Ayu (n:Dt) (w:ByteArray) (l:List Int) (v:Value) (F:List Nat) (a:Option Addr) (c:Nat) (Fl FT:List Nat) (g:Aw n=true) (hl0:0 < l.length):Fn prog 72 [v,.string w,.slice a l.length c] [.isv O1 v n F,.sl Bc (.slice a l.length c) l Fl,Gc FT] [] (fun (u:ByteArray × Bool)=>Jf n w.data.toList l=if u.2 then some u.1 else none) (fun u=>.tuple #[.string u.1,.bool u.2]) (fun _=>[]):=by
 refine enter func72 rfl ntmps72 fun w0=>?_;refine Ia ?_;rintro a1 c1 F1 a2 c2 F2 a3 c3 F3 a4 c4 F4 a5 c5 F5 a6 c6 F6 a7 c7 F7 rfl l1 l2 l3 l4 l5 l6 l7;obtain ⟨e1,e2,e3,e4⟩:=Hw g;obtain ⟨q2,q8,qn,qu,qe,qt⟩:=Oo g;have hG:=Ay.1 g;obtain ⟨-,qr, -, -⟩:=Bk.1 hG.l;have hS:=Kx hG.s;have hW:=Dz.1 (Ez.1 hG.s).1;have hS1:=hS.l;have hb1:=Nu (fun q hq=>(C6 (e3 q hq)).1) n.down.length;have hb2:=Nu (fun q hq=>(C6 (e4 q hq)).1) n.up.length;rw [List.take_length] at hb1 hb2;refine Kq n.Al (a1:=a1) ?_;refine Io (xs:=l) 0 ?_;rintro hi0 b0 o0 rfl;have eg:l.getD 0 0=l[0]:=Pa hi0 0;refine go ?_;intros
 refine ce (fun w s=>Hk _ _ _ _) ?_;cases hb:Eu 1 l[0] ((n.Al.Ad.length:Int) - 1)
 ·refine go ?_;intros;refine ret (⟨⟨#[]⟩,false⟩:ByteArray × Bool) ?_ rfl;unfold Jf;rw [eg,hb];rfl
 have hb0:=hb;unfold Eu at hb0;simp only [Bool.and_eq_true,decide_eq_true_eq] at hb0;obtain ⟨i,hi⟩:∃i:Nat,l[0]=(i:Int):=⟨l[0].toNat,GJ⟩;have hi8:i < n.Al.Ad.length:=by omega
 have h5:i < n.Ac.length:=by omega
 have hie:i < n.Ae.length:=by omega
 rw [←eg] at hb;have eN:l.getD 0 0=(i:Int):=by rw [eg,hi]
 rw [hi];refine go ?_;intros;refine cf (Wg n.Al (i:Int) _ F1) fun _ _=>?_;refine Ar ?_;generalize hlf:Ed n.Al.Ad (i:Int)=B;have hLN:Se n (l.getD 0 0)=B:=by rw [eN];exact hlf
 repeat (apply wO;apply oc;rfl;exact ydE)
 apply Aav;apply Adm;apply Sx;apply Sw;apply Sx;have hR:=D9.1 (e2 _ (List.getElem_mem h5));have er:Pl n (l.getD 0 0).toNat=n.Ac[i]:=by rw [eN,Int.toNat_natCast];exact Gh h5
 refine Eg [1,2,3,6,7,8,9] [0,1,2,3,4,5,6,7,8,9,10,11,12] (fun b:Bool=>[(29,.bool b)]) (fun _=>[]) (fun b=>b=decide (w=⟨#[97,119,97,105,116]⟩∧l.length=1∧B=true)) ?_ fun b hb9=>?_
 ·by_cases hw:w=⟨#[97,119,97,105,116]⟩
  ·refine go ?_;intros;rw [show decide (w=⟨#[97,119,97,105,116]⟩)=true from decide_eq_true hw];refine go ?_;intros;by_cases hn:l.length=1
   ·rw [show decide ((l.length:Int)=1)=true from decide_eq_true GJ];refine go ?_;intros;refine Bw B ?_;cases B <;> simp [hw,hn]
   ·rw [show decide ((l.length:Int)=1)=false from decide_eq_false GJ];exact FG
  ·refine go ?_;intros;rw [show decide (w=⟨#[97,119,97,105,116]⟩)=false from decide_eq_false hw];refine go ?_;intros;refine Bw false ?_;simp [hw]
 subst hb9;by_cases hc1:w=⟨#[97,119,97,105,116]⟩∧l.length=1∧B=true
 ·rw [decide_eq_true hc1];refine Jt (xs:=n.Ac) i ?_;rintro h5b b5 o5 a9 c9 F9 a10 c10 F10 e5 l9 l10;rw [e5];refine Ee n.Ac[i] ?_;refine go ?_;intros;refine cf (Aay n.Ac[i] _ _) fun z _=>?_;refine Ar ?_;obtain ⟨ra,rc,rF⟩:=z;dsimp only;have hP:=X9 (n.Ac[i].Am.map (·.Af)) ra rc;have ea:Ep n.Ac[i]=(n.Ac[i].Am.map (·.Af),true):=by unfold Ep;rw [e2 _ (List.getElem_mem h5)];rfl
  rw [ea];dsimp only;refine A4 (E:=Bc) (xs:=n.Ac[i].Am.map (·.Af)) fun F8=>?_;refine go ?_;intros;refine cf (hP F8 FT (fun f hf=>by
   obtain ⟨q,hq,rfl⟩:=List.mem_map.1 hf;have:=Bb.1 (Wu hR hq).1;omega) (by rw [List.length_map];have:=(C9.1 hR.q).2.1;omega)) fun _ _=>?_
  refine Ar ?_;refine go ?_;intros;refine ret (⟨_,true⟩:ByteArray × Bool) ?_ rfl;rw [Ts hb,if_pos ⟨Do.1 hc1.1,hc1.2.1,hLN.trans hc1.2.2⟩,er];rfl
 rw [decide_eq_false hc1];apply Adm;apply c_f;rfl;apply Sx;refine Eg [1,2,3,6,7,8,9] [0,1,2,3,4,5,6,7,8,9,10,11,12] (fun b:Bool=>[(51,.bool b)]) (fun _=>[]) (fun b=>b=decide (w=⟨#[115,108,111,116,115]⟩∧l.length=1∧B=true∧n.Ac[i].Bd=true)) ?_ fun b hb9=>?_
 ·refine Jt (xs:=n.Ac) i ?_;rintro h5b b5 o5 a9 c9 F9 a10 c10 F10 e5 l9 l10;rw [e5];by_cases hw:w=⟨#[115,108,111,116,115]⟩
  ·refine go ?_;intros;rw [show decide (w=⟨#[115,108,111,116,115]⟩)=true from decide_eq_true hw];refine go ?_;intros;by_cases hn:l.length=1
   ·rw [show decide ((l.length:Int)=1)=true from decide_eq_true GJ];refine go ?_;intros;cases B
    ·refine go ?_;intros;refine Bw false ?_;simp
    ·refine go ?_;intros;refine Bw n.Ac[i].Bd ?_;cases n.Ac[i].Bd <;> simp [hw,hn]
   ·rw [show decide ((l.length:Int)=1)=false from decide_eq_false GJ];exact FG
  ·refine go ?_;intros;rw [show decide (w=⟨#[115,108,111,116,115]⟩)=false from decide_eq_false hw];refine go ?_;intros;refine Bw false ?_;simp [hw]
 subst hb9;by_cases hc2:w=⟨#[115,108,111,116,115]⟩∧l.length=1∧B=true∧n.Ac[i].Bd=true
 ·rw [decide_eq_true hc2];refine Jt (xs:=n.Ac) i ?_;rintro h5b b5 o5 a9 c9 F9 a10 c10 F10 e5 l9 l10;rw [e5];refine Ci n.Ac[i].Ab (a1:=a9) ?_;refine go ?_;intros;refine cf (Amu n.Ac[i].Ab _ F9 FT hR.w) fun _ _=>?_;refine Ar ?_;refine go ?_;intros;refine ret (⟨_,true⟩:ByteArray × Bool) ?_ rfl;rw [Ts hb,if_neg (fun e=>hc1 ⟨Do.2 e.1,e.2.1,hLN.symm.trans e.2.2⟩),if_pos ⟨Do.1 hc2.1,hc2.2.1,hLN.trans hc2.2.2.1,by rw [er];exact hc2.2.2.2⟩,er];rfl
 rw [decide_eq_false hc2];apply Adm;apply c_f;rfl;apply Sx;refine Eg [2,3,6,7,8] [0,1,2,3,4,5,6,7,8,9,10,11,12] (fun b:Bool=>[(77,.bool b)]) (fun _=>[]) (fun b=>b=decide (w=⟨#[102,97,99,101,115]⟩∧l.length=2∧B=false)) ?_ fun b hb9=>?_
 ·by_cases hw:w=⟨#[102,97,99,101,115]⟩
  ·refine go ?_;intros;rw [show decide (w=⟨#[102,97,99,101,115]⟩)=true from decide_eq_true hw];refine go ?_;intros;by_cases hn:l.length=2
   ·rw [show decide ((l.length:Int)=2)=true from decide_eq_true GJ];refine go ?_;intros;refine Bw (!B) ?_;cases B <;> simp [hw,hn]
   ·rw [show decide ((l.length:Int)=2)=false from decide_eq_false GJ];exact FG
  ·refine go ?_;intros;rw [show decide (w=⟨#[102,97,99,101,115]⟩)=false from decide_eq_false hw];refine go ?_;intros;refine Bw false ?_;simp [hw]
 subst hb9;by_cases hc3:w=⟨#[102,97,99,101,115]⟩∧l.length=2∧B=false
 rotate_left
 ·rw [decide_eq_false hc3];refine go ?_;intros;refine ret (⟨⟨#[]⟩,false⟩:ByteArray × Bool) ?_ rfl;rw [Ts hb,if_neg (fun e=>hc1 ⟨Do.2 e.1,e.2.1,hLN.symm.trans e.2.2⟩),if_neg (fun e=>hc2 ⟨Do.2 e.1,e.2.1,hLN.symm.trans e.2.2.1,by rw [←er];exact e.2.2.2⟩),if_neg (fun e=>hc3 ⟨Do.2 e.1,e.2.1,hLN.symm.trans e.2.2⟩)];rfl
 rw [decide_eq_true hc3];have hl1:1 < l.length:=by omega
 have hfn:=Ahr (e1 _ (List.getElem_mem hie)) l[1];refine Io (xs:=l) 1 ?_;rintro hi1 b1 o1 ea1;cases ea1;refine Pr (xs:=n.Ae) i ?_;rintro h5b b5 o5 a9 c9 F9 e5 l9;rw [e5];refine Mg n.Ae[i] ?_;refine M7 ?_;intros;refine At [1,3,4] [9,10,11,12,13] ?_;refine Dk 0 1 2 3 ?_;refine Dk 4 5 6 7 ?_;refine dN 8 ?_;refine oC ?_;refine cf (Anl n.Ae[i] l[1] _ _) fun z _=>?_;refine Ar ?_;obtain ⟨fa,fc,fF⟩:=z;dsimp only;refine A4 (E:=Bc) (xs:=(E8 n.Ae[i] l[1]).1) fun F8=>?_;refine dk ?_;refine dtp 9 ?_;refine dtp 10 ?_;refine dtp 11 ?_;refine dtp 12 ?_;refine dtp 13 ?_;refine dd ?_;refine go ?_;intros
 refine cf (X9 (E8 n.Ae[i] l[1]).1 fa fc F8 FT hfn.1 hfn.2) fun _ _=>?_;refine Ar ?_;refine go ?_;intros;refine ret (⟨_,(E8 n.Ae[i] l[1]).2⟩:ByteArray × Bool) ?_ rfl;rw [Ts hb,if_neg (fun e=>hc1 ⟨Do.2 e.1,e.2.1,hLN.symm.trans e.2.2⟩),if_neg (fun e=>hc2 ⟨Do.2 e.1,e.2.1,hLN.symm.trans e.2.2.1,by rw [←er];exact e.2.2.2⟩),if_pos ⟨Do.1 hc3.1,hc3.2.1,hLN.trans hc3.2.2⟩,Pa hl1,eN,Int.toNat_natCast,I5 hie];unfold E8;rw [e1 _ (List.getElem_mem hie),Bool.true_and];cases B9 l[1] <;> rfl
structure NL where
 a1:Option Addr
 c1:Nat
 a2:Option Addr
 c2:Nat
 a3:Option Addr
 c3:Nat
 a4:Option Addr
 c4:Nat
 a5:Option Addr
 c5:Nat
 a6:Option Addr
 c6:Nat
 a7:Option Addr
 c7:Nat
structure RuS where
 z:NL
 t:ByteArray
 b:Bool
 F:List Nat
theorem Bb6 {p q r:Pc} {w:World} (h:p.P w) (h2:q.P w) (h3:r.P w):O2 [p,q,r] w:=fun x hx=>by
 simp at hx;rcases hx with rfl|rfl|rfl
 ·exact h
 ·exact h2
 ·exact h3
def Tl (line:ByteArray):List ByteArray:=(Cv 32 line.data.toList).map bz
theorem Ai7 (line:ByteArray):Zd (Tl line)=Fc line:=by
 unfold Zd Tl Fc;rw [List.map_map];exact (List.map_congr_left fun x _=>Jq x).trans (List.map_id _)
theorem Ai6 (line:ByteArray):0 < (Tl line).length∧(Tl line).length≤line.size+1∧∀t∈Tl line,t.size≤line.size:=by
 obtain ⟨r,hr, -⟩:=Ov 32 line.data.toList;obtain ⟨h1,h2⟩:=Att line.data.toList;rw [Cb] at h1;unfold Tl;rw [List.length_map];refine ⟨by rw [hr];simp,h1,fun t ht=>?_⟩;obtain ⟨x,hx,rfl⟩:=List.mem_map.1 ht;have:=h2 x hx;rw [Cb] at this;rw [Jb];exact this
theorem Ap0 {n:Dt} {s:Jp} (hg:Aw n=true) (hs:Ek s=true):(Uc (Bo n s)).length≤900000000000∧∀e∈Uc (Bo n s),e.size≤100:=by
 cases e:Bo n s with
 | none=>exact ⟨Nat.zero_le _,fun e he=>by cases he⟩
 | some y =>
  have h1:=Amz hg hs e;refine ⟨by show y.2.length≤_;omega,fun z hz=>?_⟩;have:=(Xc (Ao6 hg hs e z hz)).2;omega
theorem Aam {n:Dt} {line:ByteArray} {s:Jp} (h:Ii (Fc line)=some s):Oa n line=Jo n s:=by unfold Oa;rw [h]
theorem Aw0 {n:Dt} {line:ByteArray} {s:Jp} (h:Ii (Fc line)=some s) (hs:Ek s=true):E7 n line=Hh n (Bo n s)∧Oa n line=if (Bo n s).isSome then some (E7 n line,if s.Ct=2∨s.Ct=4 then Wd (Uc (Bo n s)) else bz wOk) else none:=by
 have e:Oa n line=(Bo n s).map fun y=>(y.1,if s.Ct=2∨s.Ct=4 then Wd y.2 else bz wOk):=by rw [Aam h];unfold Jo;rw [if_pos hs]
 unfold E7;rw [e];cases Bo n s with
 | none=>exact ⟨rfl,rfl⟩
 | some y=>exact ⟨rfl,rfl⟩
theorem Aal {n:Dt} {line:ByteArray} {r:Option ByteArray} (h:Oa n line=Pk n r):E7 n line=n:=by
 unfold E7;rw [h];cases r <;> rfl
theorem Bef (n:Dt) (line:ByteArray) (g:Nat) (a1:Option Addr) (c1:Nat) (a2:Option Addr) (c2:Nat) (a3:Option Addr) (c3:Nat) (a4:Option Addr) (c4:Nat) (a5:Option Addr) (c5:Nat) (a6:Option Addr) (c6:Nat) (a7:Option Addr) (c7:Nat) (F FT:List Nat) (hg:Aw n=true) (hl:line.size≤900):Fn prog 33 [Hm g 0 0,.string line] [Gc FT] [.row g 48 0 [] [.slice a1 n.Al.Ad.length c1,.int .i64 n.Aa.Ab.Ao,.int .i64 n.Aa.Ab.size,.slice a2 n.Aa.Ab.Ak.length c2,.int .i64 n.Aa.Ai,.int .i64 n.Aa.quiet,.slice a3 n.Aa.holds.length c3,.slice a4 n.Ae.length c4,.slice a5 n.Ac.length c5,.slice a6 n.down.length c6,.slice a7 n.up.length c7] [],.own Zm (.agg #[.slice a1 n.Al.Ad.length c1,.int .i64 n.Aa.Ab.Ao,.int .i64 n.Aa.Ab.size,.slice a2 n.Aa.Ab.Ak.length c2,.int .i64 n.Aa.Ai,.int .i64 n.Aa.quiet,.slice a3 n.Aa.holds.length c3,.slice a4 n.Ae.length c4,.slice a5 n.Ac.length c5,.slice a6 n.down.length c6,.slice a7 n.up.length c7]) n F] (fun (u:RuS)=>Oa n line=if u.b then some (E7 n line,u.t) else none) (fun u=>.tuple #[.string u.t,.bool u.b]) (fun u=>[.row g 48 0 [] [.slice u.z.a1 (E7 n line).Al.Ad.length u.z.c1,.int .i64 (E7 n line).Aa.Ab.Ao,.int .i64 (E7 n line).Aa.Ab.size,.slice u.z.a2 (E7 n line).Aa.Ab.Ak.length u.z.c2,.int .i64 (E7 n line).Aa.Ai,.int .i64 (E7 n line).Aa.quiet,.slice u.z.a3 (E7 n line).Aa.holds.length u.z.c3,.slice u.z.a4 (E7 n line).Ae.length u.z.c4,.slice u.z.a5 (E7 n line).Ac.length u.z.c5,.slice u.z.a6 (E7 n line).down.length u.z.c6,.slice u.z.a7 (E7 n line).up.length u.z.c7] [],.own Zm (.agg #[.slice u.z.a1 (E7 n line).Al.Ad.length u.z.c1,.int .i64 (E7 n line).Aa.Ab.Ao,.int .i64 (E7 n line).Aa.Ab.size,.slice u.z.a2 (E7 n line).Aa.Ab.Ak.length u.z.c2,.int .i64 (E7 n line).Aa.Ai,.int .i64 (E7 n line).Aa.quiet,.slice u.z.a3 (E7 n line).Aa.holds.length u.z.c3,.slice u.z.a4 (E7 n line).Ae.length u.z.c4,.slice u.z.a5 (E7 n line).Ac.length u.z.c5,.slice u.z.a6 (E7 n line).down.length u.z.c6,.slice u.z.a7 (E7 n line).up.length u.z.c7]) (E7 n line) u.F]):=by
 obtain ⟨hw0,hwl,hws⟩:=Ai6 line;refine enter func33 rfl ntmps33 fun w0=>?_;refine go ?_;intros;refine cn (fun w st=>Baf line ⟨#[32]⟩ GJ GM FT w (st.get (p:=Gc FT) GL)) fun a0 c0 F0=>?_;rw [show Lib.splitB ⟨#[32]⟩ 0 (Lib.countB line ⟨#[32]⟩) line=Tl line from Aga 32 line];generalize hwd:Tl line=ws at *;have hWL:Zd ws=Fc line:=by rw [←hwd];exact Ai7 line
 refine A4 (E:=A8) (xs:=ws) fun F1=>?_;refine go ?_;intros;refine cf (Axe ws hw0 a0 c0 F1 FT (fun t ht=>by have:=hws t ht;omega)) fun u hu=>?_;refine Ar ?_;obtain ⟨s,ok⟩:=u;obtain ⟨hs,hst⟩:=hu;dsimp only at hs hst ⊢;rw [hWL] at hst;cases ok
 rotate_left
 ·replace hst:Ii (Fc line)=some s:=hst;refine go ?_;intros;refine cf (Agu s hs) fun _ _=>?_;refine Ar ?_;cases hk:Ek s
  ·have eN:Oa n line=none:=by rw [Aam hst];unfold Jo;rw [hk];rfl
   have eM:E7 n line=n:=Aal (r:=none) eN;rw [eM,eN];refine go ?_;intros;refine ret (⟨⟨a1,c1,a2,c2,a3,c3,a4,c4,a5,c5,a6,c6,a7,c7⟩,⟨#[]⟩,false,F⟩:RuS) ?_ rfl;rfl
  obtain ⟨eM,eN⟩:=Aw0 (n:=n) hst hk;obtain ⟨hf1,hf2⟩:=Ap0 hg hk;rw [eN,eM];refine Aad (x:=n) ?_;rintro x1 w1 K1 x2 w2 K2 x3 w3 K3 x4 w4 K4 x5 w5 K5 x6 w6 K6 x7 w7 K7 ev - - - - - - -;simp only [Value.agg.injEq,Array.mk.injEq,List.cons.injEq,Value.slice.injEq,Value.int.injEq,true_and,and_true] at ev;obtain ⟨⟨rfl,rfl⟩,⟨rfl,rfl⟩,⟨rfl,rfl⟩,⟨rfl,rfl⟩,⟨rfl,rfl⟩,⟨rfl,rfl⟩,rfl,rfl⟩:=ev;refine go ?_;intros;refine cf (Akb n s g a1 c1 K1 a2 c2 K2 a3 c3 K3 a4 c4 K4 a5 c5 K5 a6 c6 K6 a7 c7 K7 FT hg hk hs) fun y _=>?_;refine Ar ?_;refine A4 (E:=A8) (xs:=Uc (Bo n s)) fun F5=>?_;refine Np (Hh n (Bo n s)) ?_
  by_cases k2:s.Ct=2
  ·rw [if_pos (show s.Ct=2∨s.Ct=4 from .inl k2)];refine go ?_;intros;rw [show decide (s.Ct=2)=true from decide_eq_true k2];exact CA
  by_cases k4:s.Ct=4
  ·rw [if_pos (show s.Ct=2∨s.Ct=4 from .inr k4)];refine go ?_;intros;rw [show decide (s.Ct=2)=false from decide_eq_false k2];refine go ?_;intros;refine Be rfl (fun k5=>?_) (fun k5=>?_)
   rotate_left
   ·exact absurd k4 k5
   exact CA
  ·rw [if_neg (show ¬(s.Ct=2∨s.Ct=4) from fun h=>h.elim k2 k4)];refine go ?_;intros;rw [show decide (s.Ct=2)=false from decide_eq_false k2];refine go ?_;intros;refine Be rfl (fun k5=>?_) (fun k5=>?_)
   ·exact absurd k5 k4
   refine go ?_;intros;refine ret (⟨⟨y.1.a1,y.1.c1,y.1.a2,y.1.c2,y.1.a3,y.1.c3,y.1.a4,y.1.c4,y.1.a5,y.1.c5,y.1.a6,y.1.c6,y.1.a7,y.1.c7⟩,bz wOk,_,_⟩:RuS) ?_ rfl;rfl
 replace hst:Ii (Fc line)=none:=hst;refine go ?_;intros;refine Be rfl (fun h1=>?_) (fun h1=>?_)
 ·have eN:Oa n line=some ((Pv n).1,Wd (Pv n).2):=by unfold Oa;rw [hst];dsimp only;rw [if_pos (show line.data.toList=Ve from Do.1 h1)]
  have eM:E7 n line=(Pv n).1:=by unfold E7;rw [eN]
  rw [eN,eM];have hf1:=Apy hg;refine Aad (x:=n) ?_;rintro x1 w1 K1 x2 w2 K2 x3 w3 K3 x4 w4 K4 x5 w5 K5 x6 w6 K6 x7 w7 K7 ev - - - - - - -;simp only [Value.agg.injEq,Array.mk.injEq,List.cons.injEq,Value.slice.injEq,Value.int.injEq,true_and,and_true] at ev;obtain ⟨⟨rfl,rfl⟩,⟨rfl,rfl⟩,⟨rfl,rfl⟩,⟨rfl,rfl⟩,⟨rfl,rfl⟩,⟨rfl,rfl⟩,rfl,rfl⟩:=ev;refine go ?_;intros;refine cf (Aua n g a1 c1 K1 a2 c2 K2 a3 c3 K3 a4 c4 K4 a5 c5 K5 a6 c6 K6 a7 c7 K7 FT hg) fun y _=>?_;refine Ar ?_;refine A4 (E:=A8) (xs:=(Pv n).2) fun F5=>?_;refine Np (Pv n).1 ?_;refine go ?_;intros
  refine cf (Uq (Pv n).2 _ _ F5 GJ (fun e he=>by have:=(Xc (Bbx hg e he)).2;omega)) fun _ _=>?_;refine Ar ?_;refine go ?_;intros;refine ret (⟨⟨y.1.a1,y.1.c1,y.1.a2,y.1.c2,y.1.a3,y.1.c3,y.1.a4,y.1.c4,y.1.a5,y.1.c5,y.1.a6,y.1.c6,y.1.a7,y.1.c7⟩,_,true,_⟩:RuS) ?_ rfl;rfl
 have hWlen:(Fc line).length=ws.length:=by rw [←hWL];unfold Zd;rw [List.length_map]
 refine go ?_;intros;refine Be rfl (fun h2=>?_) (fun h2=>?_)
 ·have eN:Oa n line=Pk n (J9 n line.data.toList):=by unfold Oa;rw [hst];dsimp only;rw [if_neg (show ¬line.data.toList=Ve from fun e=>h1 (Do.2 e)),if_pos GJ]
  have eM:=Aal eN;rw [eM,eN];refine go ?_;intros;refine cfr (fun w st=>by obtain ⟨Fq,hq⟩:=st.rO Aaw (v:=.agg #[.slice a1 n.Al.Ad.length c1,.int .i64 n.Aa.Ab.Ao,.int .i64 n.Aa.Ab.size,.slice a2 n.Aa.Ab.Ak.length c2,.int .i64 n.Aa.Ai,.int .i64 n.Aa.quiet,.slice a3 n.Aa.holds.length c3,.slice a4 n.Ae.length c4,.slice a5 n.Ac.length c5,.slice a6 n.down.length c6,.slice a7 n.up.length c7]) (x:=n) (F:=F) Bp;exact ⟨[.isv O1 _ n Fq,Gc FT],Uv hq (st.get (p:=Gc FT) GO),rfl,Azx n line _ Fq FT hg⟩) (fun u hu=>?_);refine Ar ?_;refine go ?_;intros
  refine ret (⟨⟨a1,c1,a2,c2,a3,c3,a4,c4,a5,c5,a6,c6,a7,c7⟩,u.1,u.2,F⟩:RuS) ?_ rfl;show Pk n _=if u.2 then some (n,u.1) else none
  rw [hu];cases u.2 <;> rfl
 have hdr:((Fc line).drop 1).map bz=ws.drop 1:=by
  rw [←hWL];unfold Zd;rw [←List.map_drop,List.map_map];exact (List.map_congr_left fun x _=>V8 x).trans (List.map_id _)
 have eN:Oa n line=if Qq (ws.drop 1) then Pk n (Jf n (ws[0]).data.toList (Jl (ws.drop 1))) else none:=by
  unfold Oa;rw [hst];dsimp only;rw [if_neg (show ¬line.data.toList=Ve from fun e=>h1 (Do.2 e)),if_neg GJ,hdr,←hWL,show atW (Zd ws) 0=(ws[0]).data.toList from Q6 hw0]
 have hdl:(ws.drop 1).length=ws.length - 1:=List.length_drop ..;refine go ?_;intros;apply wO;refine sld (E:=A8) (xs:=ws) 1 fun a8 c8 F8=>?_;refine go ?_;intros;refine cf (Ame (ws.drop 1) a8 c8 F8 FT (fun t ht=>by have:=hws t (List.mem_of_mem_drop ht);omega) GJ) fun z _=>?_;refine Ar ?_;cases hp:Qq (ws.drop 1)
 ·rw [hp] at eN;have eM:=Aal (r:=none) eN;have e2:Q1 (ws.drop 1)=([],false):=by unfold Q1;rw [hp];rfl
  rw [e2];refine go ?_;intros;rw [eM,eN];refine ret (⟨⟨a1,c1,a2,c2,a3,c3,a4,c4,a5,c5,a6,c6,a7,c7⟩,⟨#[]⟩,false,F⟩:RuS) ?_ rfl;rfl
 rw [hp,if_pos rfl] at eN;have eM:=Aal (r:=Jf n (ws[0]).data.toList (Jl (ws.drop 1))) eN;have e2:Q1 (ws.drop 1)=(Jl (ws.drop 1),true):=by unfold Q1;rw [hp];rfl
 rw [eM,eN];have hvl:(Jl (ws.drop 1)).length=ws.length - 1:=by unfold Jl;rw [List.length_map,hdl]
 rw [e2];dsimp only;generalize Jl (ws.drop 1)=vs at *;have hvs:0 < vs.length:=by omega
 obtain ⟨lx,la,lc⟩:=z;dsimp only;refine A4 (E:=Bc) (xs:=vs) fun F8=>?_;refine M9 (xs:=ws) 0 ?_;rintro hi0 b0 o0 e0 s0;cases e0;refine M7 ?_;intros;refine At [0,5] [8,9,10,11] ?_;refine Dk 0 1 2 3 ?_;refine Dy 4 5 ?_;refine dt 6 ?_;refine dN 7 ?_;refine oC ?_
 refine cfr (fun w st=>by obtain ⟨Fq,hq⟩:=st.rO Aaw (v:=.agg #[.slice a1 n.Al.Ad.length c1,.int .i64 n.Aa.Ab.Ao,.int .i64 n.Aa.Ab.size,.slice a2 n.Aa.Ab.Ak.length c2,.int .i64 n.Aa.Ai,.int .i64 n.Aa.quiet,.slice a3 n.Aa.holds.length c3,.slice a4 n.Ae.length c4,.slice a5 n.Ac.length c5,.slice a6 n.down.length c6,.slice a7 n.up.length c7]) (x:=n) (F:=F) Bp;exact ⟨[.isv O1 _ n Fq,.sl Bc (.slice la vs.length lc) vs F8,Gc FT],Bb6 hq (st.get (p:=.sl Bc (.slice la vs.length lc) vs F8) GO) (st.get (p:=Gc FT) GO),rfl,Ayu n ws[0] vs _ Fq la lc F8 FT hg hvs⟩) (fun u hu=>?_)
 refine Ar ?_;refine dk ?_;refine dtp 8 ?_;refine dtp 9 ?_;refine dtp 10 ?_;refine dtp 11 ?_;refine dd ?_;refine go ?_;intros;refine ret (⟨⟨a1,c1,a2,c2,a3,c3,a4,c4,a5,c5,a6,c6,a7,c7⟩,u.1,u.2,F⟩:RuS) ?_ rfl;show Pk n _=if u.2 then some (n,u.1) else none
 rw [hu];cases u.2 <;> rfl
structure CoS where
 z:NL
 F:List Nat
structure Vi where
 cs:List Value
 F:List Nat
theorem Axi {d p:Bs} {k:Int} (h:H2 d p k=true):d.length+p.length≤30000:=by
 unfold H2 at h;simp only [Bool.and_eq_true,decide_eq_true_eq] at h;exact h.1
theorem Adv {x:C7} (h:I0 x=true):x.Eb.Bh.size+x.Eb.pending.size≤30000:=by
 unfold I0 at h;rw [Bool.and_eq_true] at h;have:=Axi h.2;rw [Cb,Cb] at this;exact this
theorem Ari (x:C7) (line:ByteArray) (g:Nat) (a1:Option Addr) (c1:Nat) (a2:Option Addr) (c2:Nat) (a3:Option Addr) (c3:Nat) (a4:Option Addr) (c4:Nat) (a5:Option Addr) (c5:Nat) (a6:Option Addr) (c6:Nat) (a7:Option Addr) (c7:Nat) (F FT:List Nat) (hg:I0 x=true) (hl:line.size≤maxLen):Fn prog 19 [Hm g 0 0,.string line] [Gc FT] [.row g 50 0 [] [.slice a1 x.As.Al.Ad.length c1,.int .i64 x.As.Aa.Ab.Ao,.int .i64 x.As.Aa.Ab.size,.slice a2 x.As.Aa.Ab.Ak.length c2,.int .i64 x.As.Aa.Ai,.int .i64 x.As.Aa.quiet,.slice a3 x.As.Aa.holds.length c3,.slice a4 x.As.Ae.length c4,.slice a5 x.As.Ac.length c5,.slice a6 x.As.down.length c6,.slice a7 x.As.up.length c7,.string x.Eb.Bh,.string x.Eb.pending,.int .i64 x.Eb.count] [],.own Zm (.agg #[.slice a1 x.As.Al.Ad.length c1,.int .i64 x.As.Aa.Ab.Ao,.int .i64 x.As.Aa.Ab.size,.slice a2 x.As.Aa.Ab.Ak.length c2,.int .i64 x.As.Aa.Ai,.int .i64 x.As.Aa.quiet,.slice a3 x.As.Aa.holds.length c3,.slice a4 x.As.Ae.length c4,.slice a5 x.As.Ac.length c5,.slice a6 x.As.down.length c6,.slice a7 x.As.up.length c7]) x.As F] (fun (_:CoS)=>True) (fun _=>.string (Q7 x line).2) (fun u=>[.row g 50 0 [] [.slice u.z.a1 (Q7 x line).1.As.Al.Ad.length u.z.c1,.int .i64 (Q7 x line).1.As.Aa.Ab.Ao,.int .i64 (Q7 x line).1.As.Aa.Ab.size,.slice u.z.a2 (Q7 x line).1.As.Aa.Ab.Ak.length u.z.c2,.int .i64 (Q7 x line).1.As.Aa.Ai,.int .i64 (Q7 x line).1.As.Aa.quiet,.slice u.z.a3 (Q7 x line).1.As.Aa.holds.length u.z.c3,.slice u.z.a4 (Q7 x line).1.As.Ae.length u.z.c4,.slice u.z.a5 (Q7 x line).1.As.Ac.length u.z.c5,.slice u.z.a6 (Q7 x line).1.As.down.length u.z.c6,.slice u.z.a7 (Q7 x line).1.As.up.length u.z.c7,.string (Q7 x line).1.Eb.Bh,.string (Q7 x line).1.Eb.pending,.int .i64 (Q7 x line).1.Eb.count] [],.own Zm (.agg #[.slice u.z.a1 (Q7 x line).1.As.Al.Ad.length u.z.c1,.int .i64 (Q7 x line).1.As.Aa.Ab.Ao,.int .i64 (Q7 x line).1.As.Aa.Ab.size,.slice u.z.a2 (Q7 x line).1.As.Aa.Ab.Ak.length u.z.c2,.int .i64 (Q7 x line).1.As.Aa.Ai,.int .i64 (Q7 x line).1.As.Aa.quiet,.slice u.z.a3 (Q7 x line).1.As.Aa.holds.length u.z.c3,.slice u.z.a4 (Q7 x line).1.As.Ae.length u.z.c4,.slice u.z.a5 (Q7 x line).1.As.Ac.length u.z.c5,.slice u.z.a6 (Q7 x line).1.As.down.length u.z.c6,.slice u.z.a7 (Q7 x line).1.As.up.length u.z.c7]) (Q7 x line).1.As u.F]):=by
 have hgn:Aw x.As=true:=by unfold I0 at hg;rw [Bool.and_eq_true] at hg;exact hg.1
 have hgl:H2 x.Eb.Bh.data.toList x.Eb.pending.data.toList x.Eb.count=true:=by unfold I0 at hg;rw [Bool.and_eq_true] at hg;exact hg.2
 have hsz:=Adv hg;refine enter func19 rfl ntmps19 fun w0=>?_;refine go ?_;intros;refine cb (fun w st=>Lg.Vl line ⟨#[]⟩ w hl (Nat.zero_le _)) ?_;rw [show Lg.Bz line ⟨#[]⟩=Tf line from rfl];cases h1:Tf line
 ·have e:Q7 x line=(x,bz Bc2):=by unfold Q7;rw [h1];rfl
  rw [e];refine go ?_;intros;refine ret (⟨⟨a1,c1,a2,c2,a3,c3,a4,c4,a5,c5,a6,c6,a7,c7⟩,F⟩:CoS) trivial rfl
 refine go ?_;intros;refine Be rfl (fun h2=>?_) (fun h2=>?_)
 ·have e:Q7 x line=(x,bz Ax6):=by unfold Q7;rw [h1,if_pos rfl,if_pos h2]
  rw [e];refine go ?_;intros;refine ret (⟨⟨a1,c1,a2,c2,a3,c3,a4,c4,a5,c5,a6,c6,a7,c7⟩,F⟩:CoS) trivial rfl
 have hlz:line.size≤160:=by
  have h:=h1;unfold Tf Lg.Bz Eu at h;simp only [Bool.and_eq_true,decide_eq_true_eq] at h;have:=h.1.1.1.1.2;omega
 rw [An1 ⟨h1,h2⟩];have ht:=Ant (Ao0 (line:=line) hgn);have hGd:Xx line.data.toList (Pt (Of x.As line)).data.toList:=Ip (by rw [←Lg.Nq];exact Yx h1 ht.1 ht.2);obtain ⟨xn,⟨d,p,q⟩⟩:=x;dsimp only at hgn hgl hsz h2 ht hGd ⊢;have hcn:=Lg.Add hgl;obtain ⟨k,rfl⟩:∃k:Nat,q=(k:Int):=⟨q.toNat,GJ⟩;refine go ?_;intros
 refine cfr (fun w st=>by obtain ⟨Fq,hq⟩:=st.rO Aaw (v:=.agg #[.slice a1 xn.Al.Ad.length c1,.int .i64 xn.Aa.Ab.Ao,.int .i64 xn.Aa.Ab.size,.slice a2 xn.Aa.Ab.Ak.length c2,.int .i64 xn.Aa.Ai,.int .i64 xn.Aa.quiet,.slice a3 xn.Aa.holds.length c3,.slice a4 xn.Ae.length c4,.slice a5 xn.Ac.length c5,.slice a6 xn.down.length c6,.slice a7 xn.up.length c7]) (x:=xn) (F:=F) Bp;exact ⟨[.isv O1 _ xn Fq],I9 hq,rfl,At9 xn _ Fq (Ti hgn)⟩) (fun z _=>?_);refine Ar ?_;refine Np xn ?_;refine go ?_;intros
 refine cf (Bef xn line _ z.a1 z.c1 z.a2 z.c2 z.a3 z.c3 z.a4 z.c4 z.a5 z.c5 z.a6 z.c6 z.a7 z.c7 _ FT hgn GJ) fun u hu=>?_;refine Ar ?_;refine go ?_;intros
 refine Eg [0,1] [] (fun _:NL × List Nat=>[(6,.string (Of xn line))]) (fun z=>[.row g 50 0 [] [.slice z.1.a1 (E7 xn line).Al.Ad.length z.1.c1,.int .i64 (E7 xn line).Aa.Ab.Ao,.int .i64 (E7 xn line).Aa.Ab.size,.slice z.1.a2 (E7 xn line).Aa.Ab.Ak.length z.1.c2,.int .i64 (E7 xn line).Aa.Ai,.int .i64 (E7 xn line).Aa.quiet,.slice z.1.a3 (E7 xn line).Aa.holds.length z.1.c3,.slice z.1.a4 (E7 xn line).Ae.length z.1.c4,.slice z.1.a5 (E7 xn line).Ac.length z.1.c5,.slice z.1.a6 (E7 xn line).down.length z.1.c6,.slice z.1.a7 (E7 xn line).up.length z.1.c7,.string d,.string p,.int .i64 (k:Int)] [],.own Zm (.agg #[.slice z.1.a1 (E7 xn line).Al.Ad.length z.1.c1,.int .i64 (E7 xn line).Aa.Ab.Ao,.int .i64 (E7 xn line).Aa.Ab.size,.slice z.1.a2 (E7 xn line).Aa.Ab.Ak.length z.1.c2,.int .i64 (E7 xn line).Aa.Ai,.int .i64 (E7 xn line).Aa.quiet,.slice z.1.a3 (E7 xn line).Aa.holds.length z.1.c3,.slice z.1.a4 (E7 xn line).Ae.length z.1.c4,.slice z.1.a5 (E7 xn line).Ac.length z.1.c5,.slice z.1.a6 (E7 xn line).down.length z.1.c6,.slice z.1.a7 (E7 xn line).up.length z.1.c7]) (E7 xn line) z.2,Gc FT]) (fun _=>True) ?_ fun z _=>?_
 ·cases hb:u.b
  ·rw [hb] at hu;have eM:E7 xn line=xn:=by unfold E7;rw [hu];rfl
   have eT:Of xn line=⟨#[63]⟩:=by unfold Of;rw [hu];rfl
   rw [eM,eT];refine go ?_;intros;refine Bw (⟨a1,c1,a2,c2,a3,c3,a4,c4,a5,c5,a6,c6,a7,c7⟩,F) trivial
  ·rw [hb] at hu;have eT:Of xn line=u.t:=by unfold Of;rw [hu];rfl
   rw [eT];refine go ?_;intros;refine Bw (⟨u.z.a1,u.z.c1,u.z.a2,u.z.c2,u.z.a3,u.z.c3,u.z.a4,u.z.c4,u.z.a5,u.z.c5,u.z.a6,u.z.c6,u.z.a7,u.z.c7⟩,u.F) trivial
 refine go ?_;intros;refine Eg [0,1] [0,1,2] (fun _:Unit=>[(6,.string (Pt (Of xn line)))]) (fun _=>[]) (fun _=>True) ?_ fun _ _=>?_
 ·refine Be rfl (fun h5=>?_) (fun h5=>?_)
  ·have e:Pt (Of xn line)=bz Ax7:=by unfold Pt;rw [if_pos GJ]
   rw [e];exact BV
  ·have e:Pt (Of xn line)=Of xn line:=by unfold Pt;rw [if_neg GJ]
   rw [e];exact BV
 have hbs:(Lg.bs (J4 k line.data.toList (Pt (Of xn line)).data.toList)).size≤400:=by
  rw [Lg.Ih];have:=Abr (k:=k) GJ hGd;omega
 refine M7 ?_;intros;refine At [0] [30] ?_;refine Dk 0 1 2 3 ?_;refine Dk 4 5 6 7 ?_;refine Dk 8 9 10 11 ?_;refine Dk 12 13 14 15 ?_;refine Dk 16 17 18 21 ?_;refine Dk 22 23 24 25 ?_;refine dt 26 ?_;refine dN 19 ?_;refine oC ?_;refine cb (fun w st=>Lg.Wc k line (Pt (Of xn line)) _ w GJ hGd (Aqs (st.get (p:=Gc FT) GO))) ?_;refine dk ?_;refine dt 20 ?_ (hy:=M2 rfl rfl GJ);refine Dy 27 28 ?_;refine dt 29 ?_;refine dN 30 ?_;refine oS ?_;refine Rn ?_;refine dd ?_;refine go ?_;intros
 refine ret (⟨⟨z.1.a1,z.1.c1,z.1.a2,z.1.c2,z.1.a3,z.1.c3,z.1.a4,z.1.c4,z.1.a5,z.1.c5,z.1.a6,z.1.c6,z.1.a7,z.1.c7⟩,_⟩:CoS) trivial rfl
structure L28 where
 g:Nat
 a:Option Addr
 c:Nat
 F:List Nat
structure L2S where
 k:Nat
 a:Option Addr
 c:Nat
 F:List Nat
theorem Avw (n:Dt) (v:Value) (F:List Nat) (hs:Aei n):Fn prog 40 [v] [.isv O1 v n F] [] (fun (_:Vi)=>True) (fun z=>.agg z.cs.toArray) (fun z=>[.isv O1 (.agg z.cs.toArray) n z.F]):=by
 have hs1:=hs.t;have hs2:=hs.i;have hs3:=hs.h;have hs4:=hs.e;have hs5:=hs.rl;have hs6:=hs.d;have hs7:=hs.u;refine enter func40 rfl ntmps40 fun w0=>?_;refine Ia ?_;rintro a1 c1 F1 a2 c2 F2 a3 c3 F3 a4 c4 F4 a5 c5 F5 a6 c6 F6 a7 c7 F7 rfl l1 l2 l3 l4 l5 l6 l7;refine go ?_;intros;refine Eg [1,2] [0,1,2,3,4,5,6,7,8,9] (fun w:L28=>[(3,Hm w.g 0 0)]) (fun w=>[.row w.g 40 0 [] [.int .i64 n.Aa.Ab.Ao,.int .i64 n.Aa.Ab.size,.slice w.a n.Aa.Ab.Ak.length w.c] [],.ow A8 9 (.slice w.a n.Aa.Ab.Ak.length w.c) n.Aa.Ab.Ak w.F]) (fun _=>True) ?_ fun w _=>?_
 ·skip
  refine At [1] [] ?_;refine Dk 0 1 2 3 ?_;refine Dk 4 5 6 7 ?_;refine Dk 9 10 11 12 ?_;refine dM 8 15 ?_ ?_
  ·apply Lr;rfl;intro _;refine C4 A8 ?_;refine dk ?_;refine dM 13 15 ?_ ?_
   ·refine N3 (E:=A8) (xs:=[]) Dp Hi fun a9 c9 F9=>?_;rw [List.nil_append];refine dk ?_;refine dt 14 ?_;refine dN 15 ?_;apply Co;rfl;intro _;refine dk ?_;refine dN 16 ?_;refine oS ?_;refine dk ?_;refine dd ?_;refine Bw (⟨_,a9,c9,F9⟩:L28) trivial
   ·apply Co;rfl;intro _;exact CG
  ·apply Co;rfl;intro _;refine dk ?_;refine dN 8 ?_;apply Lr;rfl;intro _;refine C4 A8 ?_;exact CG
 refine go ?_;intros;refine cn (fun w2 st=>Xi _ n.Al.Ad F1 w2 (st.get (p:=.sl Bc (.slice a1 n.Al.Ad.length c1) n.Al.Ad F1) GO).2 GJ) fun b1 d1 G1=>?_;refine go ?_;intros;rename_i g4;refine At [2,5] [] ?_;refine Dk 0 1 2 3 ?_;refine Dk 4 5 6 8 ?_;refine Dy 9 10 ?_;refine dN 7 ?_;apply Lr;rfl;intro _;refine C4 Bi ?_;refine dk ?_;refine dN 11 ?_;refine N3 (E:=Bi) (xs:=[]) Jc Lp fun b3 d3 G3=>?_;rw [List.nil_append];refine dk ?_;refine Dy 12 13 ?_;refine dN 14 ?_;refine oS ?_;refine dk ?_;refine dd ?_;refine Br Bj 110 ?_;refine go ?_;intros
 refine Ck [1,2,4] (fun z:L2S=>[(5,.int .i64 (z.k:Nat))]) (fun z=>[.row g4 48 0 [] [.slice b1 n.Al.Ad.length d1,.int .i64 n.Aa.Ab.Ao,.int .i64 n.Aa.Ab.size,.slice w.a n.Aa.Ab.Ak.length w.c,.int .i64 n.Aa.Ai,.int .i64 n.Aa.quiet,.slice b3 n.Aa.holds.length d3,.slice z.a (n.Ae.take z.k).length z.c,.slice none 0 0,.slice none 0 0,.slice none 0 0] [],.ow Bj 110 (.slice z.a (n.Ae.take z.k).length z.c) (n.Ae.take z.k) z.F]) (fun z=>z.k≤n.Ae.length) (fun z=>n.Ae.length - z.k) ⟨0,none,0,[]⟩ (Nat.zero_le _) fun z hz=>?_;obtain ⟨k,za,zc,zF⟩:=z;dsimp only at hz ⊢
 have t4:(n.Ae.take k).length≤n.Ae.length:=by rw [List.length_take];omega
 refine go ?_;intros;refine Be rfl (fun h1=>?_) (fun h1=>?_)
 ·have hk3:k < n.Ae.length:=by omega
  refine Pr (xs:=n.Ae) k ?_;rintro hi4 b4 o4 a8 c8 F8 e4 l8;rw [e4];refine Mg n.Ae[k] ?_;refine M7 ?_;intros;refine At [1,3,10] [11] ?_;refine Dk 0 1 2 3 ?_;refine Dy 4 5 ?_;refine dt 6 ?_;refine dN 7 ?_;refine oC ?_;refine cv (fun w2 st=>Wk _ n.Ae[k] F8 w2 (st.get (p:=.isv Bt (.agg #[.int .i64 n.Ae[k].Ai,.slice a8 n.Ae[k].Ah.length c8]) n.Ae[k] F8) GO) (by have:=hs.e1 _ (List.getElem_mem hk3);omega) (fun x hx=>by have:=hs.e2 _ (List.getElem_mem hk3) x hx;omega)) fun v9 F9=>?_;refine Hl (x:=n.Ae[k]) ?_;rintro a9 c9 F10 rfl l9;refine Gk n.Ae[k] ?_;refine dk ?_;refine dN 8 ?_
  apply Km;rfl;rfl;rfl;rfl;exact Ke;exact Jy;intro _;refine dk ?_;refine dN 9 ?_;refine Aa4 Ra n.Ae[k] rfl fun x4 d4 G4=>?_;refine dk ?_;refine dt 10 ?_;refine dN 11 ?_;refine oS ?_;refine Rn ?_;refine dd ?_;rw [←List.take_succ_eq_append_getElem hk3];refine go ?_;intros;rw [show ((k:Nat):Int)+1=((k+1:Nat):Int) by omega];refine Cu ⟨k+1,x4,d4,G4⟩ hk3 (by show n.Ae.length - (k+1) < n.Ae.length - k;omega)
 rw [show n.Ae.take k=n.Ae from List.take_of_length_le GJ];generalize za=y4;generalize zc=v4;generalize zF=V4;refine Br Bg 117 ?_;refine go ?_;intros
 refine Ck [1,2,4] (fun z:L2S=>[(6,.int .i64 (z.k:Nat))]) (fun z=>[.row g4 48 0 [] [.slice b1 n.Al.Ad.length d1,.int .i64 n.Aa.Ab.Ao,.int .i64 n.Aa.Ab.size,.slice w.a n.Aa.Ab.Ak.length w.c,.int .i64 n.Aa.Ai,.int .i64 n.Aa.quiet,.slice b3 n.Aa.holds.length d3,.slice y4 n.Ae.length v4,.slice z.a (n.Ac.take z.k).length z.c,.slice none 0 0,.slice none 0 0] [],.ow Bg 117 (.slice z.a (n.Ac.take z.k).length z.c) (n.Ac.take z.k) z.F]) (fun z=>z.k≤n.Ac.length) (fun z=>n.Ac.length - z.k) ⟨0,none,0,[]⟩ (Nat.zero_le _) fun z hz=>?_;obtain ⟨k,za,zc,zF⟩:=z;dsimp only at hz ⊢
 have t4:(n.Ac.take k).length≤n.Ac.length:=by rw [List.length_take];omega
 refine go ?_;intros;refine Be rfl (fun h1=>?_) (fun h1=>?_)
 ·have hk3:k < n.Ac.length:=by omega
  refine Jt (xs:=n.Ac) k ?_;rintro hi5 b5 o5 a11 c11 F11 a12 c12 F12 e5 l11 l12;rw [e5];refine Ee n.Ac[k] ?_;refine M7 ?_;intros;refine At [1,4,12] [11] ?_;refine Dk 0 1 2 3 ?_;refine Dy 4 5 ?_;refine dt 6 ?_;refine dN 7 ?_;refine oC ?_;refine cf (Sc n.Ac[k] _ _ (by have:=hs.r _ (List.getElem_mem hk3);omega) (by have:=hs.r _ (List.getElem_mem hk3);omega)) fun s9 _=>?_;refine Ar ?_;refine H4 (x:=n.Ac[k]) ?_;rintro a9 c9 G9 a10 c10 G10 e9 l9 l10;rw [e9];refine Ju n.Ac[k] ?_;refine dk ?_;refine dN 8 ?_;apply Km;rfl;rfl;rfl;rfl;exact Ke;exact Jy;intro _;refine dk ?_;refine dN 9 ?_
  refine Aa4 Qb n.Ac[k] rfl fun x4 d4 G4=>?_;refine dk ?_;refine dt 10 ?_;refine dN 11 ?_;refine oS ?_;refine Rn ?_;refine dd ?_;rw [←List.take_succ_eq_append_getElem hk3];refine go ?_;intros;rw [show ((k:Nat):Int)+1=((k+1:Nat):Int) by omega];refine Cu ⟨k+1,x4,d4,G4⟩ hk3 (by show n.Ac.length - (k+1) < n.Ac.length - k;omega)
 rw [show n.Ac.take k=n.Ac from List.take_of_length_le GJ];generalize za=y5;generalize zc=v5;generalize zF=V5;refine Br (Fv Aj 159) 135 ?_;refine go ?_;intros
 refine Ck [1,2,4] (fun z:L2S=>[(7,.int .i64 (z.k:Nat))]) (fun z=>[.row g4 48 0 [] [.slice b1 n.Al.Ad.length d1,.int .i64 n.Aa.Ab.Ao,.int .i64 n.Aa.Ab.size,.slice w.a n.Aa.Ab.Ak.length w.c,.int .i64 n.Aa.Ai,.int .i64 n.Aa.quiet,.slice b3 n.Aa.holds.length d3,.slice y4 n.Ae.length v4,.slice y5 n.Ac.length v5,.slice z.a (n.down.take z.k).length z.c,.slice none 0 0] [],.ow (Fv Aj 159) 135 (.slice z.a (n.down.take z.k).length z.c) (n.down.take z.k) z.F]) (fun z=>z.k≤n.down.length) (fun z=>n.down.length - z.k) ⟨0,none,0,[]⟩ (Nat.zero_le _) fun z hz=>?_;obtain ⟨k,za,zc,zF⟩:=z;dsimp only at hz ⊢
 have t4:(n.down.take k).length≤n.down.length:=by rw [List.length_take];omega
 refine go ?_;intros;refine Be rfl (fun h1=>?_) (fun h1=>?_)
 ·have hk3:k < n.down.length:=by omega
  have hq9:=hs.dq _ (List.getElem_mem hk3);refine O6 (E:=Aj) (hz:=GM) (xs:=n.down) k ?_;rintro hi6 b6 o6 a13 c13 F13 e6 l13;rw [e6];refine M7 ?_;intros;refine At [0,2,11] [12] ?_;refine Dk 0 1 3 4 ?_;refine Dy 5 6 ?_;refine dt 7 ?_;refine dN 2 ?_;apply Lr;rfl;intro _;refine C4 Aj ?_;refine dk ?_;refine dN 8 ?_;refine N3 (E:=Aj) (xs:=[]) Hf I3 fun a9 c9 F9=>?_;rw [List.nil_append];refine Jv n.down[k] ?_;refine dk ?_;refine dN 9 ?_;apply Km;rfl;rfl;rfl;rfl;exact Ke;exact Jy;intro _;refine dk ?_;refine dN 10 ?_;refine Aa4 (Ua) n.down[k] rfl fun x4 d4 G4=>?_;refine dk ?_;refine dt 11 ?_
  refine dN 12 ?_;refine oS ?_;refine Rn ?_;refine dd ?_;rw [←List.take_succ_eq_append_getElem hk3];refine go ?_;intros;rw [show ((k:Nat):Int)+1=((k+1:Nat):Int) by omega];refine Cu ⟨k+1,x4,d4,G4⟩ hk3 (by show n.down.length - (k+1) < n.down.length - k;omega)
 rw [show n.down.take k=n.down from List.take_of_length_le GJ];generalize za=y6;generalize zc=v6;generalize zF=V6;refine Br (Fv Aj 159) 135 ?_;refine go ?_;intros
 refine Ck [1,2,4] (fun z:L2S=>[(8,.int .i64 (z.k:Nat))]) (fun z=>[.row g4 48 0 [] [.slice b1 n.Al.Ad.length d1,.int .i64 n.Aa.Ab.Ao,.int .i64 n.Aa.Ab.size,.slice w.a n.Aa.Ab.Ak.length w.c,.int .i64 n.Aa.Ai,.int .i64 n.Aa.quiet,.slice b3 n.Aa.holds.length d3,.slice y4 n.Ae.length v4,.slice y5 n.Ac.length v5,.slice y6 n.down.length v6,.slice z.a (n.up.take z.k).length z.c] [],.ow (Fv Aj 159) 135 (.slice z.a (n.up.take z.k).length z.c) (n.up.take z.k) z.F]) (fun z=>z.k≤n.up.length) (fun z=>n.up.length - z.k) ⟨0,none,0,[]⟩ (Nat.zero_le _) fun z hz=>?_;obtain ⟨k,za,zc,zF⟩:=z;dsimp only at hz ⊢
 have t4:(n.up.take k).length≤n.up.length:=by rw [List.length_take];omega
 refine go ?_;intros;refine Be rfl (fun h1=>?_) (fun h1=>?_)
 ·have hk3:k < n.up.length:=by omega
  have hq9:=hs.uq _ (List.getElem_mem hk3);refine O6 (E:=Aj) (hz:=GM) (xs:=n.up) k ?_;rintro hi6 b6 o6 a13 c13 F13 e6 l13;rw [e6];refine M7 ?_;intros;refine At [0,2,12] [12] ?_;refine Dk 0 1 3 4 ?_;refine Dy 5 6 ?_;refine dt 7 ?_;refine dN 2 ?_;apply Lr;rfl;intro _;refine C4 Aj ?_;refine dk ?_;refine dN 8 ?_;refine N3 (E:=Aj) (xs:=[]) Hf I3 fun a9 c9 F9=>?_;rw [List.nil_append];refine Jv n.up[k] ?_;refine dk ?_;refine dN 9 ?_;apply Km;rfl;rfl;rfl;rfl;exact Ke;exact Jy;intro _;refine dk ?_;refine dN 10 ?_;refine Aa4 (Ua) n.up[k] rfl fun x4 d4 G4=>?_;refine dk ?_;refine dt 11 ?_
  refine dN 12 ?_;refine oS ?_;refine Rn ?_;refine dd ?_;rw [←List.take_succ_eq_append_getElem hk3];refine go ?_;intros;rw [show ((k:Nat):Int)+1=((k+1:Nat):Int) by omega];refine Cu ⟨k+1,x4,d4,G4⟩ hk3 (by show n.up.length - (k+1) < n.up.length - k;omega)
 rw [show n.up.take k=n.up from List.take_of_length_le GJ];generalize za=y7;generalize zc=v7;generalize zF=V7;refine Np n ?_;refine go ?_;intros;refine Xs Aaw fun F9=>?_;refine ret (⟨[.slice b1 n.Al.Ad.length d1,.int .i64 n.Aa.Ab.Ao,.int .i64 n.Aa.Ab.size,.slice w.a n.Aa.Ab.Ak.length w.c,.int .i64 n.Aa.Ai,.int .i64 n.Aa.quiet,.slice b3 n.Aa.holds.length d3,.slice y4 n.Ae.length v4,.slice y5 n.Ac.length v5,.slice y6 n.down.length v6,.slice y7 n.up.length v7],_⟩:Vi) trivial rfl
theorem Alv (x:C7) (v:Value) (F:List Nat) (hs:Aei x.As):Fn prog 23 [v] [.isv Hj v x F] [] (fun (_:Vi)=>True) (fun z=>.agg z.cs.toArray) (fun z=>[.isv Hj (.agg z.cs.toArray) x z.F]):=by
 refine enter func23 rfl ntmps23 fun w0=>?_;refine Dh ?_;rintro a1 c1 F1 a2 c2 F2 a3 c3 F3 a4 c4 F4 a5 c5 F5 a6 c6 F6 a7 c7 F7 rfl s1 s2 l1 l2 l3 l4 l5 l6 l7;refine Jm x.As (a1:=a1) (a2:=a2) (a3:=a3) (a4:=a4) (a5:=a5) (a6:=a6) (a7:=a7) ?_;refine M7 ?_;intros;refine At [1] [6] ?_;refine Dk 0 1 3 4 ?_;refine dN 2 ?_;refine oC ?_;refine cf (Avw x.As _ _ hs) fun z _=>?_;refine Ar ?_;obtain ⟨cs,zF⟩:=z;dsimp only;refine Ia (x:=x.As) (v:=.agg cs.toArray) ?_;rintro b1 d1 G1 b2 d2 G2 b3 d3 G3 b4 d4 G4 b5 d5 G5 b6 d6 G6 b7 d7 G7 ev - - - - - - -
 obtain rfl:cs=[.slice b1 x.As.Al.Ad.length d1,.int .i64 x.As.Aa.Ab.Ao,.int .i64 x.As.Aa.Ab.size,.slice b2 x.As.Aa.Ab.Ak.length d2,.int .i64 x.As.Aa.Ai,.int .i64 x.As.Aa.quiet,.slice b3 x.As.Aa.holds.length d3,.slice b4 x.As.Ae.length d4,.slice b5 x.As.Ac.length d5,.slice b6 x.As.down.length d6,.slice b7 x.As.up.length d7]:=by simpa using ev
 clear ev;refine dk ?_;refine dt 5 ?_;refine dN 6 ?_;refine oS ?_;refine Rn ?_;refine dd ?_;refine go ?_;intros;refine Du x s1 s2 (a1:=b1) (a2:=b2) (a3:=b3) (a4:=b4) (a5:=b5) (a6:=b6) (a7:=b7) ?_;refine ret (⟨[.slice b1 x.As.Al.Ad.length d1,.int .i64 x.As.Aa.Ab.Ao,.int .i64 x.As.Aa.Ab.size,.slice b2 x.As.Aa.Ab.Ak.length d2,.int .i64 x.As.Aa.Ai,.int .i64 x.As.Aa.quiet,.slice b3 x.As.Aa.holds.length d3,.slice b4 x.As.Ae.length d4,.slice b5 x.As.Ac.length d5,.slice b6 x.As.down.length d6,.slice b7 x.As.up.length d7,.string x.Eb.Bh,.string x.Eb.pending,.int .i64 x.Eb.count],_⟩:Vi) trivial rfl
end Go.Proofs.YtkagnmekdkchiaaGreatDoor
namespace Go.Proofs.YtkagnmekdkchiaaGreatDoor
open Go.RowKit
open Go.RowKit
theorem Ahw {α:Type} {O R:Bx α} (hW:Kv O R) {w:World}:∀{xs:List α} {cs:List Value} {G:List Nat},Cw O w cs xs G→∃G',(∀b∈G',b∈G)∧Cw R w cs xs G'
 | [],_,_,h=>⟨[],GL,h.1,rfl⟩
 | x::r,_,_,h=>by
  obtain ⟨c1,c2,F1,F2,rfl,rfl,h1,h2⟩:=h;obtain ⟨G1,s1,r1⟩:=hW.Lo h1;obtain ⟨G2,s2,r2⟩:=Ahw hW h2;exact ⟨G1++G2,fun b hb=>by rcases List.mem_append.1 hb with hb|hb;simp [s1 b hb];simp [s2 b hb],c1,c2,G1,G2,rfl,rfl,r1,r2⟩
theorem Ku.skip {x:Pc}:∀{B A:List Pc},Ku A B→Ku (x::A) B
 | _,_,.nil=>.nil
 | _,_,.cons hp hr=>.cons (.there hp) hr.skip
theorem Ku.all:∀A:List Pc,Ku A A
 | []=>.nil
 | _::A=>.cons .here (Ku.all A)
section
variable {c:Cx} {fr:Fr} {H:List Pc} {Φ:Gl}
theorem Ad6 {α:Type} {O R:Bx α} (hW:Kv O R) {cs:List Value} {xs:List α} {G:List Nat} {S:List Pc} (h:∀G',T c fr (.isv (EA R xs.length) (.agg cs.toArray) xs G'::S) Φ) (hp:Cz H (.flat O cs xs G) S:=by exact Df):T c fr H Φ:=.mk fun a w s g=>by
 have s1:=s.pick hp;obtain ⟨-,ho⟩:=s1.on (.flat O cs xs G) GL;obtain ⟨G',hG,hf⟩:=Ahw hW ho;exact (h G').h a w (s1.conv rfl ⟨_,rfl,rfl,hf⟩ hG) g
theorem Yu (m:Dt) {l:List Int} {N:Nat} (hT:m.Al.Ad=l) (hN:N=l.length) (hl:Lc m=true) {a1 a2 a3 a4 a5 a6 a7:Option Addr} {c1 c2 c3 c4 c5 c6 c7:Nat} {F1 FS F4 G4 F5 G5 F6 G6 F7 G7:List Nat} {ys4 ys5 ys6 ys7:List (List Value)} (h4:ys4.length=N) (h5:ys5.length=N) (h6:ys6.length=N) (h7:ys7.length=N)
  (h:∀F,T c fr (.isv O1 (.agg #[.slice a1 N c1,.int .i64 m.Aa.Ab.Ao,.int .i64 m.Aa.Ab.size,.slice a2 m.Aa.Ab.Ak.length c2,.int .i64 m.Aa.Ai,.int .i64 m.Aa.quiet,.slice a3 m.Aa.holds.length c3,.slice a4 N c4,.slice a5 N c5,.slice a6 N c6,.slice a7 N c7]) m F::H) Φ) (p1:.sl Bc (.slice a1 N c1) l F1∈H:=by exact Bp) (p2:.isv D7 (.agg #[.int .i64 m.Aa.Ab.Ao,.int .i64 m.Aa.Ab.size,.slice a2 m.Aa.Ab.Ak.length c2,.int .i64 m.Aa.Ai,.int .i64 m.Aa.quiet,.slice a3 m.Aa.holds.length c3]) m.Aa FS∈H:=by exact Bp) (p4:.sl (EC 2) (.slice a4 N c4) ys4 F4∈H:=by exact Bp) (q4:.isv (EA (Bt) N) (.agg ys4.flatten.toArray) m.Ae G4∈H:=by exact Bp) (p5:.sl (EC 5) (.slice a5 N c5) ys5 F5∈H:=by exact Bp) (q5:.isv (EA (B4) N) (.agg ys5.flatten.toArray) m.Ac G5∈H:=by exact Bp) (p6:.sl (EC 1) (.slice a6 N c6) ys6 F6∈H:=by exact Bp) (q6:.isv (EA (Nn Aj GM) N) (.agg ys6.flatten.toArray) m.down G6∈H:=by exact Bp) (p7:.sl (EC 1) (.slice a7 N c7) ys7 F7∈H:=by exact Bp) (q7:.isv (EA (Nn Aj GM) N) (.agg ys7.flatten.toArray) m.up G7∈H:=by exact Bp):T c fr H Φ:=by
 obtain ⟨e1,e2,e3,e4⟩:=Bk.1 hl;subst hT hN;refine Jh (hm:=p2) ?_;rintro b2 d2 F2 b3 d3 F3 ev - -;have ev2:=ev;simp only [Value.agg.injEq,Array.mk.injEq,List.cons.injEq,Value.slice.injEq,true_and,and_true] at ev2;obtain ⟨⟨rfl,rfl⟩,rfl,rfl⟩:=ev2;refine Ad5 (E:=Bt) (xs:=m.Ae) rfl GJ rfl (fun F8=>?_) (.tail _ (.tail _ p4)) (.tail _ (.tail _ q4));refine Ad5 (E:=B4) (xs:=m.Ac) rfl GJ rfl (fun F9=>?_) (.tail _ (.tail _ (.tail _ p5))) (.tail _ (.tail _ (.tail _ q5)))
 refine Ad5 (E:=Nn Aj GM) (xs:=m.down) rfl GJ rfl (fun F10=>?_) (.tail _ (.tail _ (.tail _ (.tail _ p6)))) (.tail _ (.tail _ (.tail _ (.tail _ q6))));refine Ad5 (E:=Nn Aj GM) (xs:=m.up) rfl GJ rfl (fun F11=>?_) (.tail _ (.tail _ (.tail _ (.tail _ (.tail _ p7))))) (.tail _ (.tail _ (.tail _ (.tail _ (.tail _ q7)))))
 refine Jm m (a1:=a1) (c1:=c1) (F1:=F1) (a2:=a2) (c2:=c2) (F2:=F2) (a3:=a3) (c3:=c3) (F3:=F3) (a4:=a4) (c4:=c4) (F4:=F8) (a5:=a5) (c5:=c5) (F5:=F9) (a6:=a6) (c6:=c6) (F6:=F10) (a7:=a7) (c7:=c7) (F7:=F11) ?_ (.tail _ (.tail _ (.tail _ (.tail _ (.tail _ (.tail _ p1)))))) (.tail _ (.tail _ (.tail _ (.tail _ (.head _))))) (.tail _ (.tail _ (.tail _ (.tail _ (.tail _ (.head _)))))) (by rw [e1];exact .tail _ (.tail _ (.tail _ (.head _)))) (by rw [e2];exact .tail _ (.tail _ (.head _))) (by rw [e3];exact .tail _ (.head _)) (by rw [e4];exact .head _);rw [e1,e2,e3,e4]
 exact Beg _ (h _) (.cons .here (Ku.skip (Ku.skip (Ku.skip (Ku.skip (Ku.skip (Ku.skip (Ku.all H))))))))
end
end Go.Proofs.YtkagnmekdkchiaaGreatDoor
namespace Go.Proofs.YtkagnmekdkchiaaGreatDoor
open Go.RowKit
def Q3 (x:Cr) (s:ByteArray):Cr:=⟨Da x.Ab s,x.Ai,0,I7 (Da x.Ab s) x.Ai x.holds⟩
theorem Aw6 {x:Cr} {s:ByteArray} (h:∀z∈x.holds,x.Ai+1≤z.Cg):Q3 x s=Qt x s:=by unfold Q3 Qt;rw [Wj h]
theorem Aob (x:Cr) (s:ByteArray) (v:Value) (F:List Nat) (t0:0≤x.Ab.Ao) (t1:x.Ab.Ao≤65535) (hl:x.Ab.Ak.length≤6) (z1:1≤x.Ab.size) (hm:x.holds.length≤1000) (hn:Ago x.holds) (hs:s.size≤maxLen) :
  Fn prog 137 [v,.string s] [.isv D7 v x F] [] (fun (_:Ajg)=>True) (fun z=>.tuple #[.agg #[.int .i64 (Q3 x s).Ab.Ao,.int .i64 (Q3 x s).Ab.size,.slice z.a (Q3 x s).Ab.Ak.length z.c,.int .i64 (Q3 x s).Ai,.int .i64 (Q3 x s).quiet,.slice z.a2 (Q3 x s).holds.length z.c2],.agg #[.int .i64 1,.int .i64 (Dm x.Ab s).Af,.int .i64 (Dm x.Ab s).Ao,.int .i64 (Dm x.Ab s).Ff,.string s]]) (fun z=>[.isv D7 (.agg #[.int .i64 (Q3 x s).Ab.Ao,.int .i64 (Q3 x s).Ab.size,.slice z.a (Q3 x s).Ab.Ak.length z.c,.int .i64 (Q3 x s).Ai,.int .i64 (Q3 x s).quiet,.slice z.a2 (Q3 x s).holds.length z.c2]) (Q3 x s) z.F]):=by
 have hb:=Rs t0 t1;refine enter func137 rfl ntmps137 fun w0=>?_;refine Jh ?_;rintro a1 c1 F1 a2 c2 F2 rfl l1 l2;refine Ds x.Ab ?_;generalize F1=F3;refine go ?_;intros;refine cf (Avy x.Ab s _ F3 hl t0 t1 hs z1) fun y _=>?_;refine Ar ?_;refine Ib (x:=Da x.Ab s) ?_;rintro a5 c5 F5 e5 l5;rw [e5];refine go ?_;intros;refine cf (Sb x (Da x.Ab s) _ _ F y.2 hb.1 hb.2 GJ hn) fun q _=>?_;refine Ar ?_;refine Jh (x:=W8 x (Da x.Ab s)) ?_;rintro a6 c6 F6 a7 c7 F7 e6 l6 l7;rw [e6];refine go ?_;intros;refine At [0,4] [] ?_;refine Dy 0 1 ?_;refine dN 2 ?_;refine oS ?_;refine dk ?_;refine dN 3 ?_
 refine oS ?_;refine dk ?_;refine dd ?_;refine Gf (Q3 x s) ?_;refine go ?_;intros;exact FC
theorem Ar8 (x:Cr) (s:ByteArray) (v:Value) (F:List Nat) (hg:Ch x=true) (hs:s.size≤maxLen) :
  Fn prog 137 [v,.string s] [.isv D7 v x F] [] (fun (_:Ajg)=>True) (fun z=>.tuple #[.agg #[.int .i64 (Qt x s).Ab.Ao,.int .i64 (Qt x s).Ab.size,.slice z.a (Qt x s).Ab.Ak.length z.c,.int .i64 (Qt x s).Ai,.int .i64 (Qt x s).quiet,.slice z.a2 (Qt x s).holds.length z.c2],.agg #[.int .i64 1,.int .i64 (Dm x.Ab s).Af,.int .i64 (Dm x.Ab s).Ao,.int .i64 (Dm x.Ab s).Ff,.string s]]) (fun z=>[.isv D7 (.agg #[.int .i64 (Qt x s).Ab.Ao,.int .i64 (Qt x s).Ab.size,.slice z.a (Qt x s).Ab.Ak.length z.c,.int .i64 (Qt x s).Ai,.int .i64 (Qt x s).quiet,.slice z.a2 (Qt x s).holds.length z.c2]) (Qt x s) z.F]):=by
 obtain ⟨gw,hl,t0,t1,k0,k1,hm,hn,hu,hb⟩:=Kx hg;obtain ⟨-,⟨z1, -⟩, -⟩:=Dz.1 gw;have h:=Aob x s v F t0 t1 hl z1 GJ (Aeb hn) hs;rw [Aw6 hu] at h;exact h
end Go.Proofs.YtkagnmekdkchiaaGreatDoor
