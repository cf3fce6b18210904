/- Part 5 of the proof: 35 texts, one behind the other. -/
import Derived.Test.YtmppejmafbfhlaaGreatDoorM4
open _root_.Go.Proofs.Tryz
set_option maxRecDepth 100000
set_option maxHeartbeats 8000000
set_option linter.all false
set_option linter.unusedVariables false
set_option linter.unusedSimpArgs false
namespace Go.Proofs.YtmppejmafbfhlaaGreatDoor
theorem AK{p:Prop}(h:p:=by refine dk ?_;refine dN 7 ?_;refine N9 (Tb ⟨n,1,ck+d,0⟩) Dc fun a8 c8 F8=>?_;refine dk ?_;refine dN 11 ?_;refine N5 (ys:=l.drop (En base l n)) Dc D8 (h63:=by simp;omega) (hby:=by simp;omega) fun a9 c9 F9=>?_;refine dk ?_;refine dt 12 ?_;refine dd ?_;rw [hAdd];refine go ?_;refine ret ⟨_,_,_⟩ trivial rfl):p:=h
theorem AR{p:Prop}(h:p:=by apply Cn;rfl;intro _;refine dk ?_;refine dN 12 ?_;refine oS ?_;refine dk ?_;refine dN 13 ?_;refine oS ?_;refine dk ?_;refine dd ?_;refine Bk ((_,_):Nat × Nat) trivial):p:=h
theorem AZ{p:Prop}(h:p:=by refine Dh 3 4 ?_;refine ds 5 ?_;refine ds 6 ?_;refine ds 7 ?_;refine ds 8 ?_;refine ds 9 ?_;refine ds 10 ?_;refine ds 11 ?_;refine ds 12 ?_;refine ds 13 ?_;refine ds 14 ?_;refine ds 15 ?_;refine ds 16 ?_;refine Dh 17 18 ?_;refine dd ?_;exact AA):p:=h
theorem BH{p:Prop}(h:p:=by have h9:=hpk;unfold Br P9 at h9;simp only [aw,aF] at h9;unfold maxLen;omega):p:=h
theorem BI{p:Prop}(h:p:=by refine go ?_;refine Be (Alj r p d g t o A B a1 c1 F1 a2 c2 F2 hg hp d0 d1) fun s _=>?_;refine go ?_;refine ret ⟨s.a1,s.c1,s.F1,s.a2,s.c2,s.F2,s.ae,s.ce,s.Fe⟩ trivial rfl):p:=h
theorem BP{p:Prop}(h:p:=by have hz:n.up[i]=[]:=bu.1 (by omega);rw [show C6 n s=none by unfold C6;rw [aC (by omega),hq,aH (by omega)],ay h0,show n.up.set i (n.up[i].drop 1)=n.up by rw [hz,gz];rw [<-hz,bv]];refine go ?_;intros;refine ret (⟨a1,c1,F1,a2,c2,F2,a3,c3,F3,a4,c4,F4,a5,c5,F5,a6,c6,F6,a7,c7,J⟩,⟨0,none,0,[]⟩) trivial rfl):p:=h
theorem BX{p:Prop}(h:p:=by refine dk ?_;refine dN 8 ?_;refine oC ?_;refine Be (Uq r.Aa (Dm (Da r)) _ FW w0_ w1_ hs0 hs1 hw8 hit) fun y hy=>?_;refine dk ?_;refine Dh 9 10 ?_;refine dt 11 ?_;refine dN 13 ?_;refine oS ?_;refine dk ?_;refine dt 14 ?_;refine dd ?_;refine Bk (⟨_,y⟩:GvS) hy):p:=h
theorem BY{p:Prop}(h:p:=by refine go ?_;refine ret () trivial ?_;rw [show Ff 1 s.Ct 6=true by unfold Ff;simp;omega];rfl):p:=h
theorem CL{p:Prop}(h:p:=by refine Ce (⟨k+1,_,_,_⟩:PkS) (by show k+1<=l.length;omega) (by show l.length - (k+1) < l.length - k;omega)):p:=h
theorem CM{p:Prop}(h:p:=by refine Ce (⟨i+1,_,_,_⟩:AwS) (by show i+1<=N.length;omega) (by show N.length - (i+1) < N.length - i;omega)):p:=h
theorem CO{p:Prop}(h:p:=by refine go ?_;refine Bk () trivial):p:=h
theorem CW{p:Prop}(h:p:=by refine dk ?_;refine dN 7 ?_;refine N5 Ja Io fun a5 c5 F5=>?_;rw [aZ];refine dk ?_;refine dt 8 ?_;refine dN 10 ?_;refine oS ?_;refine dk ?_;refine dd ?_;refine Bk (⟨_,_,_,_⟩:Bb4) trivial):p:=h
theorem CY{p:Prop}(h:p:=by have:=(Mx (s:=s) hg).1;rw [hq] at this;unfold Fj at this;simp only [aw,aF] at this;exact this.1):p:=h
theorem DQ{p:Prop}(h:p:=by refine go ?_;refine ret () trivial ?_;rw [bZ,cJ];rfl):p:=h
theorem DR{p:Prop}(h:p:=by refine go ?_;refine ret () trivial ?_;rw [ay h2];rfl):p:=h
theorem DS{p:Prop}(h:p:=by refine go ?_;refine ret () trivial ?_;rw [av h2];rfl):p:=h
theorem DU{p:Prop}(h:p:=by refine go ?_;refine Ce ⟨z.k+1,z.a,z.c,z.F⟩ (by show z.k+1<=t.Ad.length;omega) (by show t.Ad.length - (z.k+1) < t.Ad.length - z.k;omega)):p:=h
theorem EM{p:Prop}(h:p:=by refine go ?_;refine ret (⟨a1,c1,F1,a2,c2,F2,a3,c3,F3,a4,c4,F4,a5,c5,F5,a6,c6,F6,a7,c7,F7⟩,⟨0,none,0,[]⟩) trivial rfl):p:=h
theorem EO{p:Prop}(h:p:=by refine go ?_;refine ret (⟨x1,w1,K1,x2,w2,K2,x3,w3,K3,x4,w4,K4,x5,w5,K5,x6,w6,K6,x7,w7,K7⟩,⟨0,ea,ec,eF⟩) trivial rfl):p:=h
theorem EQ{p:Prop}(h:p:=by refine Ce ⟨z.k+1,a9,c9,F9⟩ (by show z.k+1<=t.Ad.length;omega) (by show t.Ad.length - (z.k+1) < t.Ad.length - z.k;omega)):p:=h
theorem ET{p:Prop}(h:p:=by rw [<-Ve ho];refine go ?_;rw [show l.length=(Rs base l n (ck+4)).length from hcl.symm];refine ret ⟨_,_,_⟩ trivial rfl):p:=h
theorem EU{p:Prop}(h:p:=by refine ret (⟨some ⟨gp,0,none⟩,c1,[gp],a2,c2,F2,z.a2,z.c2,z.F,a4,c4,F4,a5,c5,F5,a6,c6,J6,a7,c7,F7⟩:NV) trivial rfl):p:=h
theorem GC{p:Prop}(h:p:=by show n.Ap.Ad.length - (k+1) < n.Ap.Ad.length - k;omega):p:=h
theorem GG{p:Prop}(h:p:=by dsimp only;rw [hnx];exact hsE):p:=h
theorem GH{p:Prop}(h:p:=by dsimp only;rw [hnx];exact frE):p:=h
theorem GR{p:Prop}(h:p:=by show l.length - (k+1) < l.length - k;omega):p:=h
theorem IM{p:Prop}(h:p:=by unfold Hb;rw [hu,aH rfl,hi,ba]):p:=h
theorem IP{p:Prop}(h:p:=by unfold C6;rw [aC (by omega),hq,aH (by omega)]):p:=h
theorem JL{p:Prop}(h:p:=by show k+1+1<=_;omega):p:=h
theorem JR{p:Prop}(h:p:=by show n.Ap.Ad.length<=1000000;omega):p:=h
theorem JW{p:Prop}(h:p:=by rw [hlf];decide):p:=h
theorem JZ{p:Prop}(h:p:=by unfold Hb;split <;> rfl):p:=h
end Go.Proofs.YtmppejmafbfhlaaGreatDoor
namespace Go.Proofs.YtmppejmafbfhlaaGreatDoor
open Go.RowKit
def Tb (y:A4) (w:World):Cw Az w [aa y.Ae,aa y.state,aa y.Cm,aa y.Dw] [y] []:=⟨_,[],[],[],FA,FA,⟨rfl,rfl⟩,rfl,rfl⟩
def Aw6 (xs:List A4) (y:A4) (i:Nat) (a:aj) (c vb:Nat) (F:aq) (hi:i<=xs.length) (hl:xs.length<=1000000) :
  Fn prog 390 [ab a xs.length c,aa i,ab (some ⟨vb,0,none⟩) 1 1] [] [.ow Az 195 (ab a xs.length c) xs F,.row vb 195 0 [] [aa y.Ae,aa y.state,aa y.Cm,aa y.Dw] []] (fun (_:aj × Nat × aq)=>True)
   (fun z=>.slice z.1 (xs.take i++y::xs.drop i).length z.2.1) (fun z=>[.ow Az 195 (.slice z.1 (xs.take i++y::xs.drop i).length z.2.1) (xs.take i++y::xs.drop i) z.2.2]):=by
 have hone:∀w':World,∀cs:am,Cw Az w' cs xs []->∀u∈cs,u.oneCell'=true:=fun w' cs h=>h.one' Dc;have hy:=Tb y;have h1y:∀u∈([aa y.Ae,aa y.state,aa y.Cm,aa y.Dw]:am),u.oneCell'=true:=HQ
 refine enter func390 rfl ntmps390 fun w0=>?_;refine As7 (E:=Az) fun hc1 hc2=>?_;refine go ?_;apply wO;refine Al8 rfl rfl rfl rfl hi (fun _=>?_) hc1;refine go ?_;refine Ay rfl (fun h1=>?_) (fun h1=>?_)
 ·have hin:i=xs.length:=EY
  subst hin;have e:xs.take xs.length++y::xs.drop xs.length=xs++[y]:=FA
  refine go ?_;apply wO;refine N9 hy Dc fun a2 c2 F2=>?_;rw [e];exact DL
 ·have hlt:i < xs.length:=EY
  refine Amp (xs:=xs) D8 (by rintro rfl;simp at hlt) ?_;rintro g cs rest rfl - - - hcl hcr hfl;rw [show Az.sz=4 from rfl] at hcl hcr;have h1c:=hone w0 cs (hfl w0);obtain ⟨A,B,hcs,hA,hB⟩:∃A B,cs=A++B/\A=cs.take (i * 4)/\B=cs.drop (i * 4):=⟨_,_,(bo _ _).symm,rfl,rfl⟩;have hAl:A.length=i * 4:=by rw [hA,aP];omega
  have hBl:B.length=(xs.length - i) * 4:=by rw [hB,aX];omega
  have hins:∀w,Cw Az w (A++[aa y.Ae,aa y.state,aa y.Cm,aa y.Dw]++B) (xs.take i++y::xs.drop i) []:=fun w=>by rw [hA,hB];exact (hfl w).insL (hy w) i hi
  have h1A:∀u∈A,u.oneCell'=true:=fun u hu=>h1c u IC;have h1B:∀u∈B,u.oneCell'=true:=fun u hu=>h1c u IC;have hlen:(xs.take i++y::xs.drop i).length=xs.length+1:=FF
  clear hA hB hfl hone;subst hcs;have eA:A=((A++B++rest).drop 0).take (i * 4):=by rw [dh,aM,bU hAl]
  have eB:B=((A++B++rest).drop (0+i * 4)).take ((xs.length - i) * 4):=by rw [cH,aM,dF hAl,bU hBl]
  rw [hlen];refine go ?_;apply wO;apply oc;rfl;exact Ar7 rfl;refine go ?_;refine Ay rfl (fun h2=>?_) (fun h2=>?_)
  ·refine go ?_;apply wO;apply oc;rfl;exact Pd (i:=i) rfl rfl rfl EY EY;refine go ?_;apply wO;refine Aq6 (k:=xs.length+1 - i) (olds:=A) rfl rfl rfl EY (Nc (m:=i * 4) (.head _) eA) EY EZ EY EY EY EY fun g' cp' Z rest' h3 h4 h5 h6=>?_;rw [show i+(xs.length+1 - i)=xs.length+1 by omega] at h3 ⊢;obtain ⟨Z1,Z2,rfl,hZ1,hZ2⟩:∃Z1 Z2,Z=Z1++Z2/\Z1.length=4/\Z2.length=B.length:=⟨Z.take 4,Z.drop 4,(bo _ _).symm,GD,JX⟩;refine go ?_
   apply wO;apply oc;rfl;exact Li (i:=i) rfl rfl rfl EY EY EY;refine go ?_;apply wO
   refine Xt (cs:=[aa y.Ae,aa y.state,aa y.Cm,aa y.Dw]) (L':=A++[aa y.Ae,aa y.state,aa y.Cm,aa y.Dw]++(Z2++rest')) rfl rfl rfl (Nc (L:=[aa y.Ae,aa y.state,aa y.Cm,aa y.Dw]) (o:=0) (m:=4) FD rfl) .here (Afh (M:=Z1) HC EY (by simpa using hZ1)) (by show 4=min 1 (xs.length+1 - i) * 4;omega) FY h1y ?_;refine go ?_;refine Ar [] [] ?_;refine C4 0 1 2 3 ?_
   refine dt 4 ?_ (hy:=Li (i:=i+1) rfl rfl EY EY EY EY);refine Dh 5 6 ?_;refine dt 7 ?_ (hy:=Li (i:=i) rfl rfl EY EY EY EY);refine dN 8 ?_
   refine Xt (cs:=B) (L':=A++[aa y.Ae,aa y.state,aa y.Cm,aa y.Dw]++B++rest') rfl rfl rfl (Nc FD eB) .here (Afh (P:=A++[aa y.Ae,aa y.state,aa y.Cm,aa y.Dw]) (M:=Z2) HC FY hZ2) HA FY h1B ?_;refine dk ?_;refine dd ?_
   refine Ad9 (cs:=A++[aa y.Ae,aa y.state,aa y.Cm,aa y.Dw]++B) (rest:=rest') (xs:=xs.take i++y::xs.drop i) cp' rfl hins EY h4 (by rw [show Az.sz=4 from rfl];simp only [aA,aU,aY] at h6 ⊢;omega) ?_;rw [hlen];refine go ?_;refine ret (_,cp',[g']) trivial rfl
  ·have hcx:xs.length+1<=c:=EY
   obtain ⟨X,Y,hXY,hX,hY⟩:=Aro (B:=B) (R:=rest) 4 EY;refine go ?_;apply wO;apply oc;rfl;exact Pd (i:=xs.length+1) rfl rfl EY EY EY;refine go ?_;apply wO;apply oc;rfl;exact Li (i:=i+1) rfl rfl EY EY EY EY;refine Hy ?_;intros;apply wO
   refine Azg rfl Wj (ovl (tS:=116) (tR:=4) (run_callFunc_extern func393 FB FB FB (e:=Extern.SlicesOverlaps.overlaps #[116,116] #[4]) FB) (.there .here) (.head _) HD) ?_;refine go ?_;refine Ar [] [] ?_;refine C4 0 1 2 3 ?_;refine dt 4 ?_ (hy:=Li (i:=i+1) rfl rfl EY EY EY EY);refine Dh 5 6 ?_;refine dt 7 ?_ (hy:=Li (i:=i) rfl rfl EY EY EY EY);refine dN 8 ?_
   refine Xt (cs:=B) (L':=A++X++B++rest.drop 4) rfl rfl rfl (Nc FD eB) .here (Afh (P:=A++X) (M:=Y) KJ HU hY) GX HU h1B ?_;refine dk ?_;refine dd ?_;refine go ?_;apply wO;apply oc;rfl;exact Li (i:=i) rfl rfl rfl EY EY EY;refine go ?_;apply wO
   refine Xt (cs:=[aa y.Ae,aa y.state,aa y.Cm,aa y.Dw]) (L':=A++[aa y.Ae,aa y.state,aa y.Cm,aa y.Dw]++(B++rest.drop 4)) rfl rfl rfl (Nc (L:=[aa y.Ae,aa y.state,aa y.Cm,aa y.Dw]) (o:=0) (m:=4) FD rfl) .here (Afh (M:=X) HC EY (by simpa using hX)) (by show 4=min 1 (xs.length+1 - i) * 4;omega) FY h1y ?_;refine go ?_
   refine Ad9 (L:=A++[aa y.Ae,aa y.state,aa y.Cm,aa y.Dw]++(B++rest.drop 4)) (cs:=A++[aa y.Ae,aa y.state,aa y.Cm,aa y.Dw]++B) (rest:=rest.drop 4) (xs:=xs.take i++y::xs.drop i) c HC hins EY EY (by rw [show Az.sz=4 from rfl];simp only [aA,aU,aY,aX];omega) ?_;rw [hlen];refine ret (_,c,[g]) trivial rfl
instance:IntC prog 130 .u64:=⟨underlying130⟩
def Atq (fid:FuncId) (caps:am) (A:List Pc) (hA:A.all (fun p=>!p.mu)=true) (xs:List A4) (a:aj) (c:Nat) (F:aq) (tv:Value) (f:A4->Int) (hm:∀i j (_:i<=j) (hj:j < xs.length),f xs[j] < 0->f (xs[i]'EY) < 0) (hb:Rr prog fid=true) (hl:xs.length<=1000000)
  (hp:∀x∈xs,∀w,O8 A w->Calls prog fid ([.agg #[aa x.Ae,aa x.state,aa x.Cm,aa x.Dw],tv]++caps).toArray w (RB (aa (f x)) w)) :
  Fn prog 383 [ab a xs.length c,tv,.func (.func fid) #[] caps.toArray] (.sl Az (ab a xs.length c) xs F::A) [] (fun (_:Unit)=>True) (fun _=>.tuple #[aa ((xs.takeWhile fun x=>decide (f x < 0)).length:Nat),.bool (Bcv f xs[(xs.takeWhile fun x=>decide (f x < 0)).length]?)]) (fun _=>[]):=by
 refine enter func383 rfl ntmps383 (fun w0=>?_) rfl GA .nil;refine go ?_;refine Dl [0,1,2,6,7,8] (fun s:Nat × Nat=>[(9,aa (s.1:Nat)),(10,aa (s.2:Nat))]) (fun s=>s.1<=s.2/\s.2<=xs.length/\(∀j (_:j < s.1) (h:j < xs.length),f xs[j] < 0)/\(∀j (_:s.2<=j) (h:j < xs.length),¬f xs[j] < 0)) (fun s=>s.2 - s.1) (0,xs.length) ⟨aD _,aK _,fun j h=>by omega,fun j h1 h2=>by omega⟩ fun s hs=>?_;obtain ⟨i,j⟩:=s;obtain ⟨h1,h2,h3,h4⟩:=hs;dsimp only at h1 h2 h3 h4 ⊢;refine go ?_;refine Ay rfl (fun h5=>?_) (fun h5=>?_)
 ·have hh:(i+j) / 2 < xs.length:=EY
  have e2:((i:Int)+(j:Int)) / 2=(((i+j) / 2:Nat):Int):=EY
  refine go ?_;apply wO;apply oc;rfl;exact Aiw rfl EY EY;refine go ?_;apply wO;apply oc;rfl;exact Amx rfl;rw [e2];apply wO;apply oc;rfl;exact Ap1 rfl EY EY;generalize hq:(i+j) / 2=q at hh;refine go ?_;refine Iq (xs:=xs) q ?_;rintro hi b o e;rw [e];refine go ?_;apply wO;refine Afy rfl rfl hb Wj ?_;refine cb (fun w st=>hp xs[q] (aB hh) w (fun p hp=>st.on p HK)) ?_;refine go ?_;refine Ay rfl (fun h6=>?_) (fun h6=>?_)
  ·exact DF
  ·exact DG
 ·have hij:i=j:=EY
  subst hij;have hk:(xs.takeWhile fun x=>decide (f x < 0)).length=i:=Y1 h2 (fun j hj h=>av (h3 j hj h)) (fun h=>ay (h4 i (aK _) h));rw [hk];refine go ?_;refine Dd rfl rfl (fun h6=>?_) (fun h6=>?_)
  ·have hh:i < xs.length:=EY
   rw [aE hh];refine go ?_;refine Iq (xs:=xs) i ?_;exact DK
  ·rw [bp EY];exact AA
def Bat {base n:Int} {l:List A4} (hser:∀q∈l,Cd q.Ae=true) (hn:Cd n=true):(l.takeWhile fun x=>decide (gp base x.Ae - gp base n < 0)).length=En base l n /\
  Bcv (fun x:A4=>gp base x.Ae - gp base n) l[(l.takeWhile fun x=>decide (gp base x.Ae - gp base n < 0)).length]?=Ng base l n:=by
 have e:(fun x:A4=>decide (gp base x.Ae - gp base n < 0))=fun h=>decide (gp base h.Ae < gp base n):=by
  funext x;rw [dU];omega
 have e1:(l.takeWhile fun x=>decide (gp base x.Ae - gp base n < 0)).length=En base l n:=by unfold En;rw [e]
 refine ⟨e1,?_⟩;rw [e1];unfold Ng;cases hq:l[En base l n]? with
 | none=>rfl
 | some z =>
  show decide (gp base z.Ae - gp base n=0)=decide (z.Ae=n);rw [dU];exact ⟨fun h=>Be4 (t:=base) (hser z (ci hq)) hn EY,fun h=>by rw [h];omega⟩
def Bh0 (r:A4) (n t:Int) (gb:Nat) (t0:0<=t) (t1:t<=65535) (n0:0<=n) (n1:n<=65535) (m0:0<=r.Ae) (m1:r.Ae<=65535) :
  FV 384 [.agg #[aa r.Ae,aa r.state,aa r.Cm,aa r.Dw],aa n,Gj gb 0 0] [.cel gb 0 [aa t]] (aa (gp t r.Ae - gp t n)):=by
 have b1:=Lt t r.Ae;have b2:=Lt t n;refine enter func384 rfl ntmps384 fun w0=>?_;refine go ?_;intros;refine Ar [0,1] [] ?_;refine C4 0 1 2 4 ?_;refine dt 5 ?_;refine dN 3 ?_;refine oC ?_;refine ce (fun w s=>P3 _ _ _ EY EY EY EY) ?_;refine dk ?_;refine dN 6 ?_;exact EF
def Z8 (l:List A4) (base n:Int) (a:aj) (c:Nat) (F:aq) (hq:Mo l base=true) (hn:Cd n=true) :
  FV 366 [ab a l.length c,aa base,aa n] [.sl Az (ab a l.length c) l F] (.tuple #[aa (En base l n:Nat),.bool (Ng base l n)]):=by
 obtain ⟨q1,q2,q3,q4⟩:=Dj.1 hq;have hser:∀q∈l,Cd q.Ae=true:=fun q h=>(Ew.1 (q3 q h)).n;obtain ⟨b0,b1⟩:=Ba.1 q1;obtain ⟨n0,n1⟩:=Ba.1 hn;obtain ⟨e1,e2⟩:=Bat (base:=base) hser hn;refine enter func366 rfl ntmps366 fun w0=>?_;refine go ?_;intros;rename_i gb;refine cb (fun w st=>by
  have r1:=st.get (p:=.row gb 3 0 [] [aa base] []) FA;have hw:=(st.get (p:=.sl Az (ab a l.length c) l F) FA).2;refine (Atq 384 [Gj gb 0 0] [.cel gb 0 [aa base]] rfl l a c F (aa n) (fun r=>gp base r.Ae - gp base n) (fun i j hij hj h=>?_) FB EY fun x hx w' hA=>?_).val w ?_
  ·rcases be hij with h2|rfl
   ·have:=bh.1 q4 i j EY hj h2;omega
   ·exact h
  ·obtain ⟨m0,m1⟩:=Ba.1 (hser x hx);exact (Bh0 x n base gb b0 b1 n0 n1 m0 m1).val w' hA
  ·intro p hp;simp only [aG,aT,bn] at hp;rcases hp with rfl|rfl
   ·exact st.get FA
   ·exact ⟨FA,Iv r1⟩) ?_
 rw [e2,e1];exact AA
def Ahb (l:List A4) (base n:Int) (a:aj) (c:Nat) (F:aq) (hq:Mo l base=true) (hn:Cd n=true) :
  FV 349 [ab a l.length c,aa base,aa n] [.sl Az (ab a l.length c) l F] (.tuple #[aa (En base l n:Nat),.bool (Ng base l n)]):=by
 obtain ⟨q1,q2,q3,q4⟩:=Dj.1 hq;have hser:∀q∈l,Cd q.Ae=true:=fun q h=>(Ew.1 (q3 q h)).n;obtain ⟨b0,b1⟩:=Ba.1 q1;obtain ⟨n0,n1⟩:=Ba.1 hn;obtain ⟨t1,t2,t3⟩:=Rm (p:=fun r:A4=>decide (gp base r.Ae < gp base n)) (xs:=l);have hle:=Tu base l n;have hb2:=Lt base n;refine enter func349 rfl ntmps349 fun w0=>?_;refine go ?_;refine Ca [0,1,2,6,7] (fun k:Nat=>[(8,aa (k:Nat))]) (fun _=>[]) (fun k=>k<=En base l n) (fun k=>l.length - k) 0 (aD _) fun k hk=>?_;have leaf:∀h:k < l.length,decide (gp base l[k].Ae < gp base n)=decide (k < En base l n):=fun h=>by
  by_cases h2:k < En base l n
  ·rw [av h2];exact t2 k h2 h
  ·have e:k=En base l n:=EY
   subst e;rw [ay h2];exact t3 h
 refine go ?_;refine Dd rfl rfl (fun h4=>?_) (fun h4=>?_)
 ·have hi:k < l.length:=EY
  refine go ?_;refine Iq (xs:=l) k ?_;rintro hi b o e;rw [e];refine go ?_;obtain ⟨m0,m1⟩:=Ba.1 (hser _ (aB hi));have hb1:=Lt base l[k].Ae;refine ce (fun w s=>Jw _ _ _ EY EY) ?_;refine go ?_;refine ce (fun w s=>Jw _ _ _ EY EY) ?_;have lf:=leaf hi;refine go ?_;refine Ay rfl (fun h5=>?_) (fun h5=>?_)
  ·have h6:k < En base l n:=by rw [av h5] at lf;simpa using lf.symm
   refine go ?_;refine Ce (k+1) (by show k+1<=En base l n;omega) GR
  ·have h6:k=En base l n:=by rw [ay h5] at lf;have:¬k < En base l n:=(by simpa using lf.symm);omega
   refine go ?_;refine Ar [0] [] ?_;refine C4 0 1 2 3 ?_;refine dt 4 ?_;rw [av h4];refine dt 5 ?_;refine Dg 6 ?_;refine Dg 7 ?_;refine Dg 8 ?_;refine Dg 9 ?_;refine Dg 10 ?_;refine Dg 11 ?_;refine Dg 12 ?_;refine Dh 13 14 ?_;refine dt 15 ?_;refine dd ?_;rw [U9 EY];subst h6;exact AA
 ·have h6:k=En base l n:=EY
  refine go ?_;refine Ar [0] [] ?_;refine C4 0 1 2 3 ?_;refine dt 4 ?_;rw [ay h4];refine dt 5 ?_;refine ds 6 ?_;refine ds 7 ?_;refine ds 8 ?_;refine ds 9 ?_;refine ds 10 ?_;refine ds 11 ?_;refine ds 12 ?_;refine Dh 13 14 ?_;refine dt 15 ?_;refine dd ?_;rw [Ajf EY];subst h6;exact AA
def Aln (base:Int) (l:List A4) (n u:Int):List A4:=if Ng base l n then [] else Xy base l n u
structure OwR where
 a:aj
 c:Nat
 F:aq
def Alf (l:List A4) (base n ck d:Int) (a:aj) (c:Nat) (F:aq) (hq:Mo l base=true) (hn:Cd n=true) (h8:gp base n < 8) (k0:0<=ck) (k1:ck<=9999) (d0:1<=d) (d1:d<=8) :
  Fn prog 382 [ab a l.length c,aa base,aa n,aa ck,aa d] [.sl Az (ab a l.length c) l F] [] (fun (_:OwR)=>True) (fun s=>.tuple #[.slice s.a (Aln base l n (ck+d)).length s.c,.bool (!Ng base l n)]) (fun s=>[.ow Az 195 (.slice s.a (Aln base l n (ck+d)).length s.c) (Aln base l n (ck+d)) s.F]):=by
 have hle:=Tu base l n;obtain ⟨q1,q2,q3,q4⟩:=Dj.1 hq;have hck:Ld ck=true:=by unfold Ld Ff;simp;omega
 have hdl:Ayl d=true:=by unfold Ayl Ff;simp;omega
 refine enter func382 rfl ntmps382 fun w0=>?_;refine go ?_;refine Be (Ri l base _ F) fun _ _=>?_;rw [hq];refine go ?_;refine ce (fun w s=>Jj _ _) ?_;rw [hn];refine go ?_;refine ce (fun w s=>Tm _ _) ?_;rw [hck];refine go ?_;refine Be (Auo d) fun _ _=>?_;rw [hdl];refine go ?_;refine Be (Z8 l base n a c F hq hn) fun _ _=>?_;cases ho:Ng base l n
 ·rw [show Aln base l n (ck+d)=Xy base l n (ck+d) by unfold Aln;rw [ho];rfl];have hln:=Ayk base l n (ck+d);refine go ?_;refine Be (Ui l a c F EY) fun z _=>?_;refine go ?_;intros;refine Be (Aw6 l ⟨n,1,ck+d,0⟩ (En base l n) z.1 z.2.1 _ z.2.2 hle EY) fun y _=>?_;rw [show l.take (En base l n)++(⟨n,1,ck+d,0⟩:A4)::l.drop (En base l n)=Xy base l n (ck+d) from rfl];refine go ?_
  refine cb (fun w st=>by obtain ⟨Fw, -,hw⟩:=(st.get (p:=.ow Az 195 (.slice y.1 (Xy base l n (ck+d)).length y.2.1) (Xy base l n (ck+d)) y.2.2) FA).2.read;exact (Ri (Xy base l n (ck+d)) base _ Fw).val w (I6 ⟨EZ,hw⟩)) ?_;rw [Aj6 hq hn h8 EY EY ho];exact BC
 ·rw [show Aln base l n (ck+d)=[] by unfold Aln;rw [ho];rfl];refine go ?_;refine Bt Az 195 ?_;refine ret ⟨none,0,[]⟩ trivial rfl
def Ayt (l:List A4) (base n ck d:Int) (a:aj) (c:Nat) (F:aq) (hq:Mo l base=true) (hn:Cd n=true) (k0:0<=ck) (k1:ck<=9999) (d0:1<=d) (d1:d<=8) :
  Fn prog 354 [ab a l.length c,aa base,aa n,aa ck,aa d] [.sl Az (ab a l.length c) l F] [] (fun (_:OwR)=>True) (fun s=>.slice s.a (U8 base l n (ck+d)).length s.c) (fun s=>[.ow Az 195 (.slice s.a (U8 base l n (ck+d)).length s.c) (U8 base l n (ck+d)) s.F]):=by
 have hle:=Tu base l n;obtain ⟨q1,q2,q3,q4⟩:=Dj.1 hq;obtain ⟨b0,b1⟩:=Ba.1 q1;obtain ⟨n0,n1⟩:=Ba.1 hn;have hbd:=Lt base n;refine enter func354 rfl ntmps354 fun w0=>?_;refine go ?_;refine Be (Ahb l base n a c F hq hn) fun _ _=>?_;cases ho:Ng base l n
 rotate_left
 ·rw [show U8 base l n (ck+d)=l by unfold U8;rw [ho];rfl];refine Hy ?_;intros;refine C3 Az ?_;refine go ?_;apply wO;refine N5 Dc D8 fun a5 c5 F5=>?_;rw [aZ];exact BC
 refine go ?_;refine ce (fun w s=>Jw _ _ _ EY EY) ?_;refine go ?_;refine Ay rfl (fun h4=>?_) (fun h4=>?_)
 ·rw [show U8 base l n (ck+d)=l by unfold U8;rw [ho,ay (show ¬gp base n < 8 by omega)];rfl];refine Hy ?_;intros;refine C3 Az ?_;refine go ?_;apply wO;refine N5 Dc D8 fun a5 c5 F5=>?_;rw [aZ];exact BC
 rw [show U8 base l n (ck+d)=Xy base l n (ck+d) by unfold U8;rw [ho,av (show gp base n < 8 by omega)];rfl];refine Xf (E:=Az) (xs:=l) ?_;rintro _ _ e8 c0 c1;cases e8;refine Ata (E:=Az) (xs:=l) (En base l n) (fun FT=>?_) hle;obtain ⟨T1,hT1⟩:∃T1,T1=l.take (En base l n):=⟨_,rfl⟩;have hT1l:T1.length=En base l n:=by rw [hT1,aP];omega
 rw [<-hT1];have hAdd:T1++[(⟨n,1,ck+d,0⟩:A4)]++l.drop (En base l n)=Xy base l n (ck+d):=by rw [hT1];unfold Xy Bh6;simp
 refine go ?_;intros;refine Ar [0,1] [] ?_;refine Dh 1 2 ?_;refine dt 3 ?_ (hy:=Pd (i:=T1.length) rfl rfl (by rw [hT1l]) EY EY);refine Dh 5 8 ?_;refine dt 9 ?_;refine Aqk 10 (En base l n) (fun a6 c6 F6=>?_);refine dM 0 6 ?_ ?_
 ·apply Kt;rfl;intro _;refine C3 Az ?_;refine dk ?_;refine dM 4 6 ?_ ?_
  ·refine N5 (ys:=T1) Dc D8 fun a7 c7 F7=>?_;rw [aZ];refine dk ?_;refine dN 6 ?_;apply I1;rfl;rfl;rfl;rfl;exact Iy;exact Ir;intro _;exact AK
  ·apply I1;rfl;rfl;rfl;rfl;exact Iy;exact Ir;intro _;refine dk ?_;refine dN 4 ?_;refine N5 (ys:=T1) Dc D8 fun a7 c7 F7=>?_;rw [aZ];exact AK
 ·apply I1;rfl;rfl;rfl;rfl;exact Iy;exact Ir;intro _;refine dk ?_;refine dN 0 ?_;apply Kt;rfl;intro _;refine C3 Az ?_;refine dk ?_;refine dN 4 ?_;refine N5 (ys:=T1) Dc D8 fun a7 c7 F7=>?_;rw [aZ];exact AK
def Acx (l:List A4) (base n ck:Int) (a:aj) (c:Nat) (F:aq) (hq:Mo l base=true) (hn:Cd n=true) (k0:0<=ck) (k1:ck<=9999) :
  Fn prog 332 [ab a l.length c,aa base,aa n,aa ck] [.sl Az (ab a l.length c) l F] [] (fun (_:OwR)=>True) (fun s=>.tuple #[.slice s.a (Rs base l n (ck+4)).length s.c,.bool true]) (fun s=>[.ow Az 195 (.slice s.a (Rs base l n (ck+4)).length s.c) (Rs base l n (ck+4)) s.F]):=by
 have hle:=Tu base l n;obtain ⟨q1,q2,q3,q4⟩:=Dj.1 hq;have hck:Ld ck=true:=by unfold Ld Ff;simp;omega
 refine enter func332 rfl ntmps332 fun w0=>?_;refine go ?_;refine Be (Ri l base _ F) fun _ _=>?_;rw [hq];refine go ?_;refine ce (fun w s=>Jj _ _) ?_;rw [hn];refine go ?_;refine ce (fun w s=>Tm _ _) ?_;rw [hck];refine go ?_;refine Be (Ui l a c F EY) fun z _=>?_;refine go ?_;refine cb (fun w st=>by obtain ⟨Fw, -,hw⟩:=(st.get (p:=.ow Az 195 (.slice z.1 (l).length z.2.1) (l) z.2.2) FA).2.read;exact (Z8 l base n z.1 z.2.1 Fw hq hn).val w (I6 ⟨EZ,hw⟩)) ?_;have hcl:=Ajk base l n (ck+4);cases ho:Ng base l n
 ·rw [X6 ho];exact BC
 ·have hlt:=Va ho;refine go ?_;refine Agz (xs:=l) (En base l n) ?_ (hi:=hlt);rintro hi g A B ha hF hh;rw [ha];refine go ?_;refine P8 (⟨n,3,ck+4,l[En base l n].Dw⟩:A4) hh (fun w=>?_) ?_
  ·rw [U9 hi] at ho;have e:l[En base l n].Ae=n:=by simpa using ho
   rw [e];exact DT
  exact ET
def Al2 (l:List A4) (base n ck:Int) (a:aj) (c:Nat) (F:aq) (hq:Mo l base=true) (hn:Cd n=true) (k0:0<=ck) (k1:ck<=9999) :
  Fn prog 304 [ab a l.length c,aa base,aa n,aa ck] [.sl Az (ab a l.length c) l F] [] (fun (_:OwR)=>True) (fun s=>.slice s.a (Rs base l n (ck+4)).length s.c) (fun s=>[.ow Az 195 (.slice s.a (Rs base l n (ck+4)).length s.c) (Rs base l n (ck+4)) s.F]):=by
 have hle:=Tu base l n;obtain ⟨q1,q2,q3,q4⟩:=Dj.1 hq;have hcl:=Ajk base l n (ck+4);refine enter func304 rfl ntmps304 fun w0=>?_;refine Hy ?_;intros;refine C3 Az ?_;refine go ?_;apply wO;refine N5 Dc D8 fun a5 c5 F5=>?_;rw [aZ];refine go ?_;refine Be (Ahb l base n a c F hq hn) fun _ _=>?_;cases ho:Ng base l n
 ·rw [X6 ho];exact BC
 ·have hlt:=Va ho;refine go ?_;refine Iq (xs:=l) (En base l n) ?_;rintro hi b o e;rw [e];refine Agz (xs:=l) (a:=a5) (En base l n) ?_ (hi:=hlt);rintro hi g A B ha hF hh;rw [ha];refine go ?_;refine P8 (⟨n,3,ck+4,l[En base l n].Dw⟩:A4) hh (fun w=>⟨rfl,rfl⟩) ?_;exact ET
structure SkS where
 a:aj
 c:Nat
 F:aq
 ae:aj
 ce:Nat
 Fe:aq
def Bb6 (w:Aj) (st:Bool) (ck tr:Int) (q:Value) (g t o:Nat) (A B:am) (a1:aj) (c1:Nat) (F1:aq) (hg:Cz w=true) (ht:Cd tr=true) :
  Fn prog 363 [Gj g o 0,aa tr] [] [.row g t o A [.bool st,aa ck,aa (w).next,.slice a1 (w).Ao.length c1,q] B,.ow C0 223 (.slice a1 (w).Ao.length c1) (w).Ao F1] (fun (_:SkS)=>True)
   (fun s=>.slice s.ae (Pn w tr).length s.ce) (fun s=>[.row g t o A [.bool st,aa ck,aa (O6 w tr).next,.slice s.a (O6 w tr).Ao.length s.c,q] B,.ow C0 223 (.slice s.a (O6 w tr).Ao.length s.c) (O6 w tr).Ao s.F,.ow A9 9 (.slice s.ae (Pn w tr).length s.ce) (Pn w tr) s.Fe]):=by
 obtain ⟨w0_,w1_⟩:=Iu hg;obtain ⟨t0_,t1_⟩:=Ba.1 ht;obtain ⟨hw8,hit⟩:=Lc hg;have hgb:=Lt w.next tr
 refine enter func363 rfl ntmps363 fun w0=>?_;refine go ?_;refine ce (fun w s=>Od _ _ _ EY EY EY EY) ?_;cases hb:Ug w.next tr
 ·have e1:O6 w tr=w:=by unfold O6;rw [hb];rfl
  have e2:Pn w tr=[]:=by unfold Pn;rw [hb];rfl
  rw [e1,e2];refine Bt A9 9 ?_;exact DP
 refine go ?_;refine ce (fun w s=>P3 _ _ _ EY EY EY EY) ?_;refine go ?_;refine Ay rfl (fun h4=>?_) (fun h4=>?_)
 ·have e1:O6 w tr=Jq w tr:=by unfold O6;rw [hb,aH rfl,aH h4]
  have e2:Pn w tr=Jp w tr:=by unfold Pn;rw [hb,aH rfl,aH h4]
  rw [e1,e2];refine As9 [.bool st,aa ck] [aa w.next,ab a1 w.Ao.length c1] [q] ?_;refine go ?_;refine Be (Am6 w tr g t (o+2) (A++[.bool st,aa ck]) _ a1 c1 F1 w0_ w1_ t0_ t1_ hw8 hit) fun y hy=>?_;obtain ⟨hy1,hy2⟩:=hy;refine Aik [.bool st,aa ck] [aa y.y.next,ab y.a y.y.Ao.length y.c] [q] ?_;rw [show Jq w tr=y.y from hy1.symm,show Jp w tr=y.es from hy2.symm];exact DP
 ·have e1:O6 w tr=⟨tr,[]⟩:=by unfold O6;rw [hb,aH rfl,aC h4]
  have e2:Pn w tr=[⟨#[33]⟩]:=by unfold Pn;rw [hb,aH rfl,aC h4]
  rw [e1,e2];refine Bt C0 223 ?_;refine Hy ?_;intros;refine Dy (xs:=[(⟨#[33]⟩:au)]) (Us _ EZ) ?_ FA;refine go ?_;refine ret ⟨none,0,[],_,_,_⟩ trivial rfl
structure AwS where
 i:Nat
 a:aj
 c:Nat
 F:aq
def Axd (x:Aj) (l:List A4) (st:Bool) (ck Es d:Int) (g t o:Nat) (A B:am) (a1:aj) (c1:Nat) (F1:aq) (a2:aj) (c2:Nat) (F2:aq) (hg:Cz x=true) (hq:Mo l x.next=true) (hf:∀q∈l,Jb x q.Ae=false) (hl:Cd Es=true) (k0:0<=ck) (k1:ck<=9999) (d0:1<=d) (d1:d<=8) :
  Fn prog 365 [Gj g o 0,aa Es,aa d] [] [.row g t o A [.bool st,aa ck,aa (x).next,.slice a1 (x).Ao.length c1,.slice a2 (l).length c2] B,.ow C0 223 (.slice a1 (x).Ao.length c1) (x).Ao F1,.ow Az 195 (.slice a2 (l).length c2) (l) F2] (fun (_:OwR)=>True)
   (fun _=>.tuple #[]) (fun s=>[.row g t o A [.bool st,aa ck,aa (x).next,.slice a1 (x).Ao.length c1,.slice s.a (Qd x l Es (ck+d)).length s.c] B,.ow C0 223 (.slice a1 (x).Ao.length c1) (x).Ao F1,.ow Az 195 (.slice s.a (Qd x l Es (ck+d)).length s.c) (Qd x l Es (ck+d)) s.F]):=by
 obtain ⟨w0_,w1_⟩:=Iu hg;obtain ⟨l0_,l1_⟩:=Ba.1 hl;have hgb:=Lt x.next Es
 refine enter func365 rfl ntmps365 fun w0=>?_;refine go ?_;refine ce (fun w s=>Od _ _ _ EY EY EY EY) ?_;cases hb:Ug x.next Es
 ·have e1:Qd x l Es (ck+d)=l:=by unfold Qd;rw [hb];rfl
  rw [e1];exact BC
 obtain ⟨k,hk⟩:∃k,k=Aap x Es:=⟨_,rfl⟩;have hk8:k<=8:=by rw [hk];exact Tk _ _
 have hkm:((k:Nat):Int)=min (gp x.next Es) 8:=by rw [hk];unfold Aap;omega
 obtain ⟨N,hN⟩:∃N,N=O2 x k:=⟨_,rfl⟩;have hNl:N.length<=8:=by have:=Adx x k;rw [hN];omega
 have e1:Qd x l Es (ck+d)=Ln x.next (ck+d) l N:=by unfold Qd;rw [hb,aH rfl,hN,hk]
 rw [e1];have Uz:=Jk x.next (min (gp x.next Es) 8)
 have hgp:gp x.next (Cf x.next (min (gp x.next Es) 8))=(k:Nat):=by rw [<-hkm];unfold gp Cf;omega
 refine go ?_;refine Ar [0] [] ?_;refine C4 0 1 2 3 ?_;refine C4 4 5 6 12 ?_;refine dN 7 ?_;refine oC ?_;refine ce (fun w s=>P3 _ _ _ EY EY EY EY) ?_;refine dk ?_;refine dt 8 ?_;refine dN 9 ?_;refine oC ?_;refine ce (fun w s=>Sv _ _ _ EY EY) ?_;refine dk ?_;refine dN 10 ?_;refine oC ?_;refine cfr (fun w st=>by obtain ⟨F9,hF9⟩:=Bgf (st.get (p:=.ow C0 223 (.slice a1 (x).Ao.length c1) (x).Ao F1) FA);exact ⟨_,I6 hF9,rfl,Am7 x _ k _ F9 w0_ w1_ EY EY hgp⟩) (fun m _=>?_);refine dk ?_;refine dt 11 ?_;refine dd ?_;rw [<-hN]
 refine Av (E:=Bc) (xs:=N) fun GN=>?_;refine go ?_;refine Ca [0,2,6,30,31] (fun s:AwS=>[(32,aa (s.i:Nat))]) (fun s=>[.row g t o A [.bool st,aa ck,aa (x).next,.slice a1 (x).Ao.length c1,.slice s.a (Ln x.next (ck+d) l (N.take s.i)).length s.c] B,.ow Az 195 (.slice s.a (Ln x.next (ck+d) l (N.take s.i)).length s.c) (Ln x.next (ck+d) l (N.take s.i)) s.F]) (fun s=>s.i<=N.length) (fun s=>N.length - s.i) ⟨0,a2,c2,F2⟩ (aD _) fun s hs=>?_;obtain ⟨i,a3,c3,F3⟩:=s;dsimp only at hs ⊢;have hall:=Rq (w:=x) (u:=ck+d) EY EY (N.take i) l (fun n hn=>by
  have:=R5 (w:=x) (n:=n) hk8 (by rw [<-hN];exact bK hn);exact ⟨this.1,this.2.2⟩) hq hf
 have hLs:∀h:i < N.length,Ln x.next (ck+d) l (N.take (i+1))=U8 x.next (Ln x.next (ck+d) l (N.take i)) N[i] (ck+d):=fun h=>Aei h
 generalize hLd:Ln x.next (ck+d) l (N.take i)=L at *
 have hLq:=hall.1;have hL8:=(Dj.1 hLq).2.1;refine go ?_;refine Ay rfl (fun h4=>?_) (fun h4=>?_)
 ·have hi:i < N.length:=EY
  have hni:=R5 (w:=x) (n:=N[i]) hk8 (by rw [<-hN];exact aB hi);refine Im (xs:=N) i ?_;rintro hi2 b o2 e;rw [e];refine go ?_;refine Ar [1] [] ?_;refine C4 0 1 2 3 ?_;refine C4 4 5 6 7 ?_;refine Dh 8 9 ?_;refine dt 10 ?_;refine dN 11 ?_;refine oC ?_;refine cfr (fun w st=>by obtain ⟨Fq, -,hq9⟩:=(st.get (p:=.ow Az 195 (.slice a3 (L).length c3) (L) F3) FA).2.read;exact ⟨[.sl Az (ab a3 L.length c3) L Fq],I6 ⟨EZ,hq9⟩,rfl,Alf L x.next N[i] ck d a3 c3 Fq hLq hni.1 hni.2.1 k0 k1 d0 d1⟩) (fun u _=>?_);refine dk ?_;refine C4 12 13 14 15 ?_;refine dt 16 ?_;refine dd ?_
  refine go ?_;cases ho:Ng x.next L N[i]
  ·have eA:Ln x.next (ck+d) l (N.take (i+1))=Aln x.next L N[i] (ck+d):=by rw [hLs hi];unfold U8 Aln;rw [ho,av hni.2.1];rfl
   refine go ?_;rw [<-eA];exact CM
  ·have eA:Ln x.next (ck+d) l (N.take (i+1))=L:=by rw [hLs hi];unfold U8;rw [ho];rfl
   refine go ?_;rw [<-eA];exact CM
 have hi:i=N.length:=EY
 subst hi;rw [bj] at hLd;rw [hLd];refine go ?_;refine Xe ?_;refine ret (⟨_,_,_⟩:OwR) trivial rfl
def Ai2 (x:Aj) (q:A4):Bool:=Ug q.Ae x.next || decide (8<=gp x.next q.Ae) || Jb x q.Ae
def Bdf {l:List A4} {x:Aj}:(l.filter fun q=>!Ai2 x q)=Ej l x:=by
 unfold Ej Ai2;refine ex fun q _=>?_;have e:decide (8<=gp x.next q.Ae) = !decide (gp x.next q.Ae < 8):=by rw [<-decide_not];exact dU.2 EY
 rw [e];cases Ug q.Ae x.next <;> cases Jb x q.Ae <;> simp
def Bdh (q:A4) (x:Aj) (nb gb g o:Nat) (st:Bool) (ck:Int) (qv:Value) (a1:aj) (c1:Nat) (F:aq) (w0_:0<=x.next) (w1_:x.next<=65535) (hn:Cd q.Ae=true) :
  FV 364 [.agg #[aa q.Ae,aa q.state,aa q.Cm,aa q.Dw],Gj nb 0 0,Gj gb 0 0] [.cel nb 0 [aa x.next],.cel gb 0 [Gj g o 0],.cel g o [.bool st,aa ck,aa x.next,ab a1 x.Ao.length c1,qv],.isv Bx (.agg #[aa x.next,ab a1 x.Ao.length c1]) x F] (.bool (Ai2 x q)):=by
 obtain ⟨n0,n1⟩:=Ba.1 hn;have hgb:=Lt x.next q.Ae
 refine enter func364 rfl ntmps364 fun w0=>?_;refine go ?_;intros;cases hb:Ug q.Ae x.next
 rotate_left
 ·rw [show Ai2 x q=true by unfold Ai2;rw [hb];rfl];refine Ar [0,1,2,3,4] [] ?_;refine Dh 0 1 ?_;refine dt 2 ?_;refine dN 3 ?_;refine oC ?_;refine ce (fun w s=>Od _ _ _ EY EY EY EY) ?_;rw [hb];refine dk ?_;refine dt 4 ?_;refine ds 5 ?_;refine ds 6 ?_;refine ds 7 ?_;refine ds 8 ?_;refine ds 9 ?_;refine Dh 10 11 ?_;refine ds 12 ?_;refine ds 13 ?_;refine ds 14 ?_;refine ds 15 ?_;refine ds 16 ?_;refine ds 17 ?_;refine ds 18 ?_;refine Dh 19 20 ?_;exact CR
 by_cases h8':8<=gp x.next q.Ae
 ·have h8:=av h8';rw [show Ai2 x q=true by unfold Ai2;rw [h8];simp];refine Ar [0,1,2,3,4] [] ?_;refine Dh 0 1 ?_;refine dt 2 ?_;refine dN 3 ?_;refine oC ?_;refine ce (fun w s=>Od _ _ _ EY EY EY EY) ?_;rw [hb];refine dk ?_;refine dt 4 ?_;refine Dg 5 ?_;refine Dg 6 ?_;refine Dg 7 ?_;refine d1g 8 ?_;apply On.h;refine oC ?_;refine ce (fun w s=>P3 _ _ _ EY EY EY EY) ?_;refine dk ?_;refine Dg 9 ?_;rw [h8];refine Dh 10 11 ?_;refine ds 12 ?_;refine ds 13 ?_;refine ds 14 ?_;refine ds 15 ?_;refine ds 16 ?_;refine ds 17 ?_
  refine ds 18 ?_;refine Dh 19 20 ?_;exact CR
 ·have h8:=ay h8';rw [show Ai2 x q=Jb x q.Ae by unfold Ai2;rw [hb,h8];rfl];refine Ar [0,1,2,3,4] [] ?_;refine Dh 0 1 ?_;refine dt 2 ?_;refine dN 3 ?_;refine oC ?_;refine ce (fun w s=>Od _ _ _ EY EY EY EY) ?_;rw [hb];refine dk ?_;refine dt 4 ?_;refine Dg 5 ?_;refine Dg 6 ?_;refine Dg 7 ?_;refine d1g 8 ?_;apply On.h;refine oC ?_;refine ce (fun w s=>P3 _ _ _ EY EY EY EY) ?_;refine dk ?_;refine Dg 9 ?_;rw [h8];refine Dh 10 11 ?_;refine Dg 12 ?_;refine Dg 13 ?_;refine Dg 14 ?_;refine Dg 15 ?_;refine Dg 16 ?_
  refine Dg 17 ?_;refine d1g 18 ?_;apply On.h;refine oC ?_;refine Be (Abm x q.Ae _ F w0_ w1_ n0 n1) fun _ _=>?_;refine dk ?_;refine Dh 19 20 ?_;exact CR
structure NwS where
 a1:aj
 c1:Nat
 F1:aq
 a2:aj
 c2:Nat
 F2:aq
 ae:aj
 ce:Nat
 Fe:aq
def Alj (r:A8) (p:As) (d:Int) (g t o:Nat) (A B:am) (a1:aj) (c1:Nat) (F1:aq) (a2:aj) (c2:Nat) (F2:aq) (hg:Mk r) (hp:Br p=true) (d0:1<=d) (d1:d<=8) :
  Fn prog 331 [Gj g o 0,.agg #[aa p.Ct,aa p.Ae,aa p.Am,aa p.Es,af p.data],aa d] [] [.row g t o A [.bool r.Bg,aa r.Ai,aa (r.Aa).next,.slice a1 (r.Aa).Ao.length c1,.slice a2 (r.An).length c2] B,.ow C0 223 (.slice a1 (r.Aa).Ao.length c1) (r.Aa).Ao F1,.ow Az 195 (.slice a2 (r.An).length c2) (r.An) F2] (fun (_:NwS)=>True)
   (fun s=>.slice s.ae (M4 r p).length s.ce) (fun s=>[.row g t o A [.bool (Ll r p d).Bg,aa (Ll r p d).Ai,aa ((Ll r p d).Aa).next,.slice s.a1 ((Ll r p d).Aa).Ao.length s.c1,.slice s.a2 ((Ll r p d).An).length s.c2] B,.ow C0 223 (.slice s.a1 ((Ll r p d).Aa).Ao.length s.c1) ((Ll r p d).Aa).Ao s.F1,.ow Az 195 (.slice s.a2 ((Ll r p d).An).length s.c2) ((Ll r p d).An) s.F2,.ow A9 9 (.slice s.ae (M4 r p).length s.ce) (M4 r p) s.Fe]):=by
 have k0:=hg.k0;have k1:=hg.k1;obtain ⟨-,q1,q2, -⟩:=Dj.1 hg.q;have hser:∀q∈r.An,Cd q.Ae=true:=fun q hq=>(Yv hg hq).1;obtain ⟨hsg, -⟩:=Rf hg hp;obtain ⟨htg, -,htl⟩:=Ue hg hp;obtain ⟨hng,hnq, -,hnl⟩:=Zn hg hp d0 d1 EY;obtain ⟨s0_,s1_⟩:=Iu hsg;obtain ⟨v0_,v1_⟩:=Iu hng;obtain ⟨hw8,hit⟩:=Lc hsg;obtain ⟨n0,n1⟩:=Kz hp;have hp2:=hp;unfold Br at hp2;simp only [aw] at hp2;have htr:Cd p.Am=true:=hp2.1.1.1.1.2;have hld:Cd p.Es=true:=hp2.1.1.1.2;have hps:p.data.size<=8:=Vn hp2.1.1.2;refine enter func331 rfl ntmps331 fun w0=>?_;refine go ?_;intros;rename_i g3 g4
 refine Dv [2,3,4,6] [0,1,4] (fun _:Unit=>[]) (fun _=>[.row g t o A [.bool true,aa r.Ai,aa (Eg r p).next,.slice a1 (Eg r p).Ao.length c1,ab a2 r.An.length c2] B,.ow C0 223 (.slice a1 (Eg r p).Ao.length c1) (Eg r p).Ao F1]) (fun _=>True) ?_ fun _ _=>?_
 ·cases hs:r.Bg
  ·by_cases hk:p.Ct=5
   ·have e:Eg r p=⟨p.Es,r.Aa.Ao⟩:=by unfold Eg;rw [hs,aH hk];rfl
    have hkd:decide (p.Ct=5)=true:=av hk;rw [e];refine go ?_;refine Ay rfl (fun _=>?_) (fun h=>absurd hk h);exact CO
   ·have e:Eg r p=⟨p.Ae,r.Aa.Ao⟩:=by unfold Eg;rw [hs,aC hk];rfl
    rw [e];refine go ?_;refine Ay rfl (fun h=>absurd h hk) (fun _=>?_);exact CO
  ·have e:Eg r p=r.Aa:=by unfold Eg;rw [hs];rfl
   rw [e];exact CO
 refine go ?_;refine Dv [2,3,4,6] [2,3,4] (fun s:SkS=>[(7,.slice s.ae (Lh r p).length s.ce)]) (fun s=>[.row g t o A [.bool true,aa r.Ai,aa (Gg r p).next,.slice s.a (Gg r p).Ao.length s.c,ab a2 r.An.length c2] B,.ow C0 223 (.slice s.a (Gg r p).Ao.length s.c) (Gg r p).Ao s.F,.ow A9 9 (.slice s.ae (Lh r p).length s.ce) (Lh r p) s.Fe]) (fun _=>True) ?_ fun s _=>?_
 ·by_cases hk:p.Ct=5
  ·have e1:Gg r p=Eg r p:=by unfold Gg;rw [aH hk]
   have e2:Lh r p=[]:=by unfold Lh;rw [aH hk]
   refine Ay rfl (fun h=>absurd hk h) (fun _=>?_);rw [e1,e2];refine Bt A9 9 ?_;refine go ?_;refine Bk (⟨a1,c1,F1,none,0,[]⟩:SkS) trivial
  ·have e1:Gg r p=Mm (Eg r p) p.Ae p.data:=by unfold Gg;rw [aC hk]
   have e2:Lh r p=L9 (Eg r p) p.Ae p.data:=by unfold Lh;rw [aC hk]
   refine Ay rfl (fun _=>?_) (fun h=>absurd hk h);rw [e1,e2];refine As9 [.bool true,aa r.Ai] [aa (Eg r p).next,.slice a1 (Eg r p).Ao.length c1] [ab a2 r.An.length c2] ?_;refine go ?_;refine Ar [2,3] [] ?_;refine C4 0 1 2 3 ?_;refine Dh 4 5 ?_;refine dt 6 ?_;refine dN 7 ?_;refine oC ?_;refine Be (Axc (Eg r p) p.Ae p.data g t (o+2) (A++[.bool true,aa r.Ai]) _ a1 c1 F1 s0_ s1_ n0 n1 hw8 hit hps) fun y hy=>?_;obtain ⟨hy1,hy2⟩:=hy;refine dk ?_;refine C4 8 9 10 11 ?_;refine dd ?_
   refine Aik [.bool true,aa r.Ai] [aa y.y.next,ab y.a y.y.Ao.length y.c] [ab a2 r.An.length c2] ?_;rw [<-hy1,<-hy2];refine go ?_;refine Bk (⟨_,_,_,_,_,_⟩:SkS) trivial
 obtain ⟨a3,c3,F3,ae,ce,Fe⟩:=s;dsimp only;refine go ?_;refine Be (Bb6 (Gg r p) true r.Ai p.Am _ g t o A B a3 c3 F3 htg htr) fun y _=>?_;have hsl:(Pn (Gg r p) p.Am).length<=24:=by unfold M4 at hnl;rw [aA] at hnl;omega
 refine Av (E:=A9) (xs:=Pn (Gg r p) p.Am) fun G8=>?_;refine go ?_;apply wO;refine N5 (ys:=Pn (Gg r p) p.Am) D7 Ie fun a9 c9 F9=>?_;rw [show Lh r p++Pn (Gg r p) p.Am=M4 r p from rfl,show O6 (Gg r p) p.Am=Cv r p from rfl];refine go ?_;intros;rename_i g11;refine Ar [3,6] [9] ?_;refine C4 0 1 2 3 ?_;refine Dh 4 5 ?_;refine dN 6 ?_;refine oC ?_;refine cfm (M:=[.ow Az 195 (ab a2 r.An.length c2) r.An F2]) (.cons FC .nil) (fun w st=>by
   have r1:=st.on (.row g11 3 0 [] [aa (Cv r p).next] []) FA;have r2:=st.on (.row g3 298 0 [] [Gj g o 0] []) FA;have r3:=st.on (.row g t o A [.bool true,aa r.Ai,aa (Cv r p).next,.slice y.a (Cv r p).Ao.length y.c,ab a2 r.An.length c2] B) FA;obtain ⟨Fw,hFw,hw⟩:=(st.on (.ow C0 223 (.slice y.a (Cv r p).Ao.length y.c) (Cv r p).Ao y.F) FA).2.read
   refine ⟨[.cel g11 0 [aa (Cv r p).next],.cel g3 0 [Gj g o 0],.cel g o [.bool true,aa r.Ai,aa (Cv r p).next,.slice y.a (Cv r p).Ao.length y.c,ab a2 r.An.length c2],.isv Bx (.agg #[aa (Cv r p).next,.slice y.a (Cv r p).Ao.length y.c]) (Cv r p) Fw],?_,rfl,?_,Am1 364 [] [Gj g11 0 0,Gj g3 0 0] _ rfl r.An a2 c2 F2 (fun q=>Ai2 (Cv r p) q) FB EY (fun q hq w' hA=>(Bdh q (Cv r p) g11 g3 g o true r.Ai _ y.a y.c Fw v0_ v1_ (hser q hq)).val w' hA)⟩
   ·intro q hq;simp only [aG,aT,bn] at hq;rcases hq with rfl|rfl|rfl|rfl
    ·exact ⟨FA,Iv r1⟩
    ·exact ⟨FA,Iv r2⟩
    ·exact ⟨FA,Iv r3⟩
    ·exact ⟨_,rfl,_,rfl,hw⟩
   ·intro q hq b hb;simp only [aG,aT,bn] at hq;rcases hq with rfl|rfl|rfl|rfl
    ·exact ⟨.row g11 3 0 [] [aa (Cv r p).next] [],FA,hb⟩
    ·exact ⟨.row g3 298 0 [] [Gj g o 0] [],FA,hb⟩
    ·exact ⟨.row g t o A [.bool true,aa r.Ai,aa (Cv r p).next,.slice y.a (Cv r p).Ao.length y.c,ab a2 r.An.length c2] B,FA,hb⟩
    ·exact ⟨.ow C0 223 (.slice y.a (Cv r p).Ao.length y.c) (Cv r p).Ao y.F,FA,hFw b hb⟩) (fun z _=>?_)
 rw [Bdf];refine dk ?_;refine Dh 7 8 ?_;refine dN 9 ?_;refine oS ?_;refine Nm ?_;refine dd ?_;refine go ?_;refine Be (Axd (Cv r p) (Ej r.An (Cv r p)) true r.Ai p.Es d g t o A B y.a y.c y.F z.1 z.2.1 z.2.2 hng hnq P4 hld k0 k1 d0 d1) fun u _=>?_;refine go ?_;refine ret ⟨_,_,_,_,_,_,_,_,_⟩ trivial rfl
structure Bb4 where
 g:Nat
 a:aj
 c:Nat
 F:aq
def T4 (x:A8) (v:Value) (F:aq) (hl:x.Aa.Ao.length<=1000000000) (hl2:x.An.length<=1000000000):Fn prog 124 [v] [.isv Cb v x F] [] (fun (_:Value × aq)=>True) (fun s=>s.1) (fun s=>[.own B4 s.1 x s.2]):=by
 refine enter func124 rfl ntmps124 fun w0=>?_;refine Fm ?_;rintro a1 c1 F1 a2 c2 F2 rfl l1 l2;refine go ?_;intros;refine Dv [1,2] [0,1,2,3,4] (fun s:Bb4=>[(3,Gj s.g 0 0)]) (fun s=>[.row s.g 115 0 [] [aa x.Aa.next,ab s.a x.Aa.Ao.length s.c] [],.ow C0 223 (ab s.a x.Aa.Ao.length s.c) x.Aa.Ao s.F]) (fun _=>True) ?_ fun s _=>?_
 ·skip
  refine Ar [1] [] ?_;refine C4 0 1 2 4 ?_;refine Dh 5 6 ?_;refine dM 3 9 ?_ ?_
  ·apply Kt;rfl;intro _;refine C3 C0 ?_;refine dk ?_;refine dM 7 9 ?_ ?_
   ·refine N5 Ja Io fun a5 c5 F5=>?_;rw [aZ];refine dk ?_;refine dt 8 ?_;refine dN 9 ?_;apply Cn;rfl;intro _;refine dk ?_;refine dN 10 ?_;refine oS ?_;refine dk ?_;refine dd ?_;refine Bk (⟨_,_,_,_⟩:Bb4) trivial
   ·apply Cn;rfl;intro _;exact CW
  ·apply Cn;rfl;intro _;refine dk ?_;refine dN 3 ?_;apply Kt;rfl;intro _;refine C3 C0 ?_;exact CW
 obtain ⟨g3,a5,c5,F5⟩:=s;dsimp only;refine go ?_;refine Ar [0,3] [] ?_;refine C4 0 1 2 3 ?_;refine Dh 4 6 ?_;refine dt 7 ?_;refine dN 5 ?_;apply Kt;rfl;intro _;refine C3 Az ?_;refine dk ?_;refine dN 8 ?_;refine N5 Dc D8 fun a6 c6 F6=>?_;rw [aZ];refine dk ?_;refine dt 9 ?_;refine dN 10 ?_;refine oS ?_;refine dk ?_;refine dd ?_;refine go ?_;refine Kw x ?_;exact BL
def Aeu (l:List A4) (w:Aj) (a:aj) (c:Nat) (F:aq) (v:Value) (Fw:aq) (hl:l.length<=1000000) (hs:∀q∈l,Cd q.Ae=true) (w0_:0<=w.next) (w1_:w.next<=65535):Fn prog 303 [ab a l.length c,v] [.sl Az (ab a l.length c) l F,.isv Bx v w Fw] [] (fun (_:aj × Nat × aq)=>True) (fun z=>.slice z.1 (Ej l w).length z.2.1) (fun z=>[.ow Az 195 (.slice z.1 (Ej l w).length z.2.1) (Ej l w) z.2.2]):=by
 refine enter func303 rfl ntmps303 fun w0=>?_;refine Cq ?_;rintro a1 c1 F1 rfl l1;refine go ?_;intros;refine C3 Az ?_;refine Ca [0,3,4] (fun s:PkS=>[(6,aa (s.k:Nat)),(5,.slice s.a (Ej (l.take s.k) w).length s.c)]) (fun s=>[.ow Az 195 (.slice s.a (Ej (l.take s.k) w).length s.c) (Ej (l.take s.k) w) s.F]) (fun s=>s.k<=l.length) (fun s=>l.length - s.k) ⟨0,_,_,_⟩ (aD _) fun s hk=>?_;obtain ⟨k,a4,c4,F4⟩:=s;dsimp only at hk ⊢;refine go ?_;refine Ay rfl (fun h4=>?_) (fun h4=>?_)
 ·have hk:k < l.length:=EY
  have hkl:(Ej (l.take k) w).length<=k:=bE (bN _ _) GD;have hsk:=hs _ (aB hk);obtain ⟨n0,n1⟩:=Ba.1 hsk;have en:∀b,(!(Ug l[k].Ae w.next || Jb w l[k].Ae) && decide (gp w.next l[k].Ae < 8))=b->Ej (l.take (k+1)) w=Ej (l.take k) w++if b then [l[k]] else []:=fun b hb=>by
   unfold Ej;rw [cy,aE hk,cj]
   congr 1
   show ([l[k]].filter _)=_;rw [fV,List.filter_nil,hb]
  refine Iq (xs:=l) k ?_;rintro hi b o e;rw [e];refine go ?_;cases g5:(Ug l[k].Ae w.next || Jb w l[k].Ae)
  ·skip
   refine Ar [0,2] [] ?_;refine C4 0 1 2 3 ?_;refine Dh 4 5 ?_;refine dN 6 ?_;refine oC ?_;refine Be (Adl w l[k].Ae _ Fw w0_ w1_ n0 n1) fun _ _=>?_;rw [show Hg w l[k].Ae=(Ug l[k].Ae w.next || Jb w l[k].Ae) from rfl,g5];refine dk ?_;refine Dh 7 8 ?_;refine Dg 9 ?_;refine Dg 10 ?_;refine Dg 11 ?_;refine Dg 12 ?_;refine Dg 13 ?_;refine Dg 14 ?_;refine Dg 15 ?_;refine d1g 16 ?_;apply On.h;refine oC ?_;refine ce (fun w s=>Jw _ _ _ EY EY) ?_;refine dk ?_;refine Dg 17 ?_;refine dt 18 ?_;refine dd ?_;refine go ?_;refine Ay rfl (fun h6=>?_) (fun h6=>?_)
   ·have e1:=en true (by rw [g5,av h6];rfl);refine go ?_;intros;apply wO;refine N9 (ys:=[l[k]]) (Ob l[k]) Dc fun a7 c7 F7=>?_;refine go ?_;rw [show Ej (l.take k) w++[l[k]]=Ej (l.take (k+1)) w from e1.symm];exact CL
   ·have e1:=en false (by rw [g5,ay h6];rfl);refine go ?_;rw [show Ej (l.take k) w=Ej (l.take (k+1)) w by rw [e1];simp];exact CL
  ·skip
   refine Ar [0,2] [] ?_;refine C4 0 1 2 3 ?_;refine Dh 4 5 ?_;refine dN 6 ?_;refine oC ?_;refine Be (Adl w l[k].Ae _ Fw w0_ w1_ n0 n1) fun _ _=>?_;rw [show Hg w l[k].Ae=(Ug l[k].Ae w.next || Jb w l[k].Ae) from rfl,g5];refine dk ?_;refine Dh 7 8 ?_;refine ds 9 ?_;refine ds 10 ?_;refine ds 11 ?_;refine ds 12 ?_;refine ds 13 ?_;refine ds 14 ?_;refine ds 15 ?_;refine ds 16 ?_;refine ds 17 ?_;refine dt 18 ?_;refine dd ?_;have e1:=en false (by rw [g5];rfl);refine go ?_;rw [show Ej (l.take k) w=Ej (l.take (k+1)) w by rw [e1];simp]
   exact CL
 have hk:k=l.length:=EY
 subst hk;rw [bj];refine go ?_;exact BN
structure GvS where
 g:Nat
 y:Ac3
def Adn (r:A8) (d:Int) (v:Value) (F:aq) (hg:Mk r) (d0:0<=d) (d1:d<=100) (_hx:r.Ai<=99999) :
  Fn prog 235 [v,aa d] [.isv Cb v r F] [] (fun (_:TkR)=>True) (fun s=>.tuple #[.agg #[.bool (C2 r d).Bg,aa (C2 r d).Ai,aa (C2 r d).Aa.next,.slice s.a1 (C2 r d).Aa.Ao.length s.c1,.slice s.a2 (C2 r d).An.length s.c2],.slice s.a3 (Fh r).length s.c3,.slice s.a4 (Hv r).length s.c4])
   (fun s=>[.isv Cb (.agg #[.bool (C2 r d).Bg,aa (C2 r d).Ai,aa (C2 r d).Aa.next,.slice s.a1 (C2 r d).Aa.Ao.length s.c1,.slice s.a2 (C2 r d).An.length s.c2]) (C2 r d) s.F1,.ow Ak 159 (.slice s.a3 (Fh r).length s.c3) (Fh r) s.F3,.ow A9 9 (.slice s.a4 (Hv r).length s.c4) (Hv r) s.F4]):=by
 have k0:=hg.k0;have k1:=hg.k1;obtain ⟨-,q1,q2, -⟩:=Dj.1 hg.q;obtain ⟨w0_,w1_⟩:=Iu hg.w;obtain ⟨hw8,hit⟩:=Lc hg.w;have hpl:(r.An.filterMap (Qy (r.Ai+1))).length<=8:=bE (cX _ _) q1;refine enter func235 rfl ntmps235 fun w0=>?_;refine Fm (v:=v) (x:=r) (F:=F) ?_;rintro a1 c1 F1 a2 c2 F2 rfl l1 l2;refine go ?_;intros;refine Be (T4 r _ F EY EY) fun u _=>?_;refine I2 ?_;rintro a5 c5 F5 a6 c6 F6 e6 - -;rw [e6];refine Av (E:=C0) fun G5=>?_;refine go ?_;intros
 refine Be (Au1 r.An (r.Ai+1) d a2 c2 F2 EY (fun q hq=>⟨(Ew.1 (q2 q hq)).t0,(Ew.1 (q2 q hq)).t1⟩) EY EY EY EY) fun z _=>?_;rw [show r.An.filterMap (U4 (r.Ai+1))=Da r from rfl,show r.An.filterMap (Uu (r.Ai+1) d)=N3 r d from rfl];refine Av (E:=Bc) (xs:=r.An.filterMap (Qy (r.Ai+1))) fun G2=>?_;refine Av (E:=Bc) (xs:=Da r) fun G3=>?_;refine C3 A9 ?_;refine C3 Ak ?_;refine go ?_
 refine Ca [2,4,5,6,7,9,11,12] (fun s:PkS=>[(13,aa (s.k:Nat)),(8,.slice s.a (((r.An.filterMap (Qy (r.Ai+1))).take s.k).map (pkR r.Aa.next)).length s.c)]) (fun s=>[.ow Ak 159 (.slice s.a (((r.An.filterMap (Qy (r.Ai+1))).take s.k).map (pkR r.Aa.next)).length s.c) (((r.An.filterMap (Qy (r.Ai+1))).take s.k).map (pkR r.Aa.next)) s.F]) (fun s=>s.k<=(r.An.filterMap (Qy (r.Ai+1))).length) (fun s=>(r.An.filterMap (Qy (r.Ai+1))).length - s.k) ⟨0,_,_,_⟩ (aD _) fun s hs=>?_;obtain ⟨k,a4,c4,F4⟩:=s;dsimp only at hs ⊢;generalize hsn:r.An.filterMap (Qy (r.Ai+1))=sn at *;refine go ?_
 refine Ay rfl (fun h4=>?_) (fun h4=>?_)
 ·have hk:k < sn.length:=EY
  have hkl:((sn.take k).map (pkR r.Aa.next)).length<=k:=FF
  refine Im (xs:=sn) k ?_;rintro hi b o2 e;rw [e];refine go ?_;have eo:(sn.take (k+1)).map (pkR r.Aa.next)=(sn.take k).map (pkR r.Aa.next)++[pkR r.Aa.next sn[k]]:=by rw [cy,aE hk,bB];rfl
  refine Ar [0,10] [] ?_;refine C4 0 1 2 3 ?_;refine C4 4 5 6 7 ?_;refine C4 8 9 10 11 ?_;refine dN 12 ?_;apply I1;rfl;rfl;rfl;rfl;exact Iy;exact Ir;intro _;refine dk ?_;refine dN 13 ?_;refine N9 (ys:=[pkR r.Aa.next sn[k]]) (De (pkR r.Aa.next sn[k]) HH) H9 fun a7 c7 F7=>?_;refine dk ?_;refine dt 14 ?_;refine dd ?_;exact DW
 have hk:k=sn.length:=EY
 subst hk;rw [bj];have ep:Fh r=sn.map (pkR r.Aa.next):=by unfold Fh;rw [hsn]
 rw [ep];refine go ?_;by_cases hL:Da r=[]
 ·refine Ay rfl (fun h=>absurd h (by rw [hL];decide)) (fun _=>?_);rw [Aio hL,Apq hL];refine go ?_;refine Av (E:=Az) fun F8=>?_;refine D5 (a1:=a5) ⟨r.Bg,r.Ai+1,r.Aa,N3 r d⟩ ?_;refine ret ⟨_,_,_,_,_,[],_,_,_,_,_,_⟩ trivial rfl
 ·have hl0:=cT.2 hL;refine Ay rfl (fun _=>?_) (fun h=>absurd h EY);rw [Aec hL,Ak9 hL];obtain ⟨hs8,hsr⟩:=Afw hg hL;have hll8:=Aiq r;obtain ⟨hs0,hs1⟩:=Ba.1 hsr;have hll:=Akk hL;obtain ⟨l0,l1⟩:=Ba.1 (Aed hg (aB (show (Da r).length - 1 < (Da r).length by omega))).1;have hi1:((Da r).length:Int) - 1=(((Da r).length - 1:Nat):Int):=EY
  refine Ch (a1:=a5) r.Aa ?_;generalize G5=FW;refine Im (xs:=Da r) ((Da r).length - 1) ?_;rintro hi b o2 e;rw [e];refine go ?_;refine Dv [4,5,6,7,8,9] [2,3,6,7,10,14] (fun s:GvS=>[(15,Gj s.g 0 0),(16,ab s.y.ae s.y.es.length s.y.ce)]) (fun s=>[.row s.g 115 0 [] [aa s.y.y.next,ab s.y.a s.y.y.Ao.length s.y.c] [],.isv Bx (.agg #[aa s.y.y.next,ab s.y.a s.y.y.Ao.length s.y.c]) s.y.y s.y.F,.ow A9 9 (ab s.y.ae s.y.es.length s.y.ce) s.y.es s.y.Fe]) (fun s=>s.y.y=Jq r.Aa (Dm (Da r))/\s.y.es=Jp r.Aa (Dm (Da r))) ?_ fun s hy=>?_
  ·skip
   refine Ar [0,7] [] ?_;refine C4 0 1 2 3 ?_;refine dt 4 ?_;rw [hi1];refine Dh 5 6 ?_;refine dM 7 12 ?_ ?_
   ·refine oC ?_;refine ce (fun w s=>Id _ _ _ EY EY) ?_;rw [<-hll];refine dk ?_;refine dM 8 12 ?_ ?_
    ·refine oC ?_;refine Be (Uq r.Aa (Dm (Da r)) _ FW w0_ w1_ hs0 hs1 hw8 hit) fun y hy=>?_;refine dk ?_;refine Dh 9 10 ?_;refine dt 11 ?_;refine dN 12 ?_;apply Cn;rfl;intro _;refine dk ?_;refine dN 13 ?_;refine oS ?_;refine dk ?_;refine dt 14 ?_;refine dd ?_;refine Bk (⟨_,y⟩:GvS) hy
    ·apply Cn;rfl;intro _;exact BX
   ·apply Cn;rfl;intro _;refine dk ?_;refine dN 7 ?_;refine oC ?_;refine ce (fun w s=>Id _ _ _ EY EY) ?_;rw [<-hll];exact BX
  obtain ⟨g15,y⟩:=s;dsimp only at hy ⊢;obtain ⟨hy1,hy2⟩:=hy;have hmv:=Vs (t:=Dm (Da r)) hg.w;have hm0:0<=y.y.next:=by rw [hy1,hmv.1];exact (Jk _ _).1
  have hm1:y.y.next<=65535:=by rw [hy1,hmv.1];exact (Jk _ _).2
  have hes:y.es.length<=100:=by rw [hy2];have:=hmv.2.2.1;have:=@Zu r.Aa.next (Dm (Da r));omega
  refine Av (E:=A9) (xs:=y.es) fun G8=>?_;refine go ?_;apply wO;refine N5 (ys:=y.es) D7 Ie fun a9 c9 F9=>?_;rw [aZ];refine Av (E:=Az) (xs:=N3 r d) fun F8=>?_;refine go ?_;refine Be (Aeu (N3 r d) y.y z.a z.c F8 _ y.F (by have:=Aee r d;omega) (fun q hq=>(Acq hg hq).1) hm0 hm1) fun u2 _=>?_;rw [hy1,Afd hg hL,<-hy1];refine go ?_;refine Cq (x:=y.y) ?_;rintro b1 d1 G1 e5 m1;simp only [Value.agg.injEq,Array.mk.injEq,List.cons.injEq,Value.slice.injEq,cM,cO] at e5;obtain ⟨rfl,rfl⟩:=e5;refine Av (E:=Az) (xs:=Aab (N3 r d) y.y.next) fun F10=>?_
  refine D5 ⟨r.Bg,r.Ai+1,y.y,Aab (N3 r d) y.y.next⟩ ?_;rw [<-hy2];refine ret ⟨_,_,_,_,_,[],_,_,_,_,_,_⟩ trivial rfl
def Awm (md:Region.Mode) (ops:Array Oper) (X:Nat->Bool) (listed:Array Bool) (i:Nat):Bool:=(List.range ops.size).all fun j=>!X j || listed.getD j false || Tt md ops i ops.size j
section
variable {P:Program} {md:Region.Mode} {ops:Array Oper} {Q:Exit->Act->World->Prop} {S:World->Prop} {X:Nat->Bool}
def E7.firstL {i:Nat} {oi:Oper} {v:Value} (hi:ops[i]?=some oi) (hsel:∀(j:Nat) (o:Oper) cs b,ops[j]?=some o->o.op≠.select cs b)
  (hQ:∀c a w,Q (.panic c) (a.put oi.dst v) w->Q (.panic c) a w) :
  ∀(f:Nat) (listed:Array Bool) (a:Act) (w:World),(∀j,j < ops.size->X j=true->listed.getD j false=false->Tt md ops i ops.size j=true) ->
   (∀j oj,ops[j]?=some oj->j≠i->listed.getD j true=false->(∀e∈oj.after,Region.binds md e=true->e.on≠i)->oi.apart ops oj=true) ->
   Aaj md ops listed->i∈Region.ready md ops listed->YieldsIf P ops S oi v a->S w->E7 P md ops Q S X f (listed.setIfInBounds i true) (a.put oi.dst v) w->E7 P md ops Q S X (f+1) listed a w:=by
 intro f
 induction f with
 | zero =>
  intro listed a w _ _ _ hr hy hS H;refine ⟨fun h=>HO,fun j hj=>?_⟩;by_cases hji:j=i
  ·exact EK
  ·have:=ready_mono hj hji;rw [H.1] at this;cases this
 | succ f ih =>
  intro listed a w hX hfree hcl hr hy hS H;refine ⟨fun h=>HO,fun j hj=>?_⟩;by_cases hji:j=i
  ·exact EK
  ·obtain ⟨hju,oj,hoj,hall⟩:=mem_ready.1 hj;have hiu:=Y2 (mem_ready.1 hr).1;have hnot:∀e∈oj.after,Region.binds md e=true->e.on≠i:=fun e he hb heq=>by
    have h1:=hall e he hb;rw [heq,hiu] at h1;cases h1
   have hXj:X j=false:=by
    cases hx:X j
    ·rfl
    ·have h2:=Xj hcl ops.size j (fun o ho=>by obtain rfl:=Option.some.inj (ho.symm.trans hoj);exact hall) (hX j (bJ.1 hoj).1 hx (Y2 hju));rw [hiu] at h2;cases h2
   have h2:=wpOp_putIf hoj (hfree j oj hoj hji hju hnot) (fun cs b=>hsel i oi cs b hi) (fun cs b=>hsel j oj cs b hoj) hQ hy (H.2 j (ready_mono hj hji));refine wpOp_mono (fun a' w' h3=>⟨fun _=>h3.2.1 hXj,ih (listed.setIfInBounds j true) a' w' (fun k hk hx hun=>hX k hk hx ?_) (fun k ok hk hki hun hno=>hfree k ok hk hki ?_ hno) (hcl.set hj) (ready_mono hr (Ne.symm hji)) h3.1 (h3.2.1 hXj) ?_⟩) h2
   ·by_cases hjk:j=k
    ·subst hjk;exact Y2 hju
    ·rw [getD_set_ne false hjk] at hun;exact hun
   ·by_cases hjk:j=k
    ·subst hjk;exact hju
    ·rw [getD_set_ne true hjk] at hun;exact hun
   ·rw [ef _ _ hji];exact h3.2.2
end
section
variable {c:Cx} {fr:Fr} {H H0:List Pc} {k:List It} {X:aq} {ops:Array Oper} {f:Nat} {listed:Array Bool} {d:Nat} {o:Op} {ty:TypeId} {pos:String} {Cf:Array Edge} {v:Value}
def Ze (i:Nat) (h:T c ((d,v)::fr) H (.dx k H0 X ops f (listed.setIfInBounds i true))) (ho:ops[i]?=some ⟨some d,o,ty,pos,Cf,none⟩:=by rw [aO];rfl) (hy:Yd c.P c.n fr H0 o ty v:=by exact ydE) (hs:M8 H0 H:=by repeat (first|exact M8.nil|refine M8.cons FD ?_))
  (h1:Region.noSelect ops=true:=by kernel_rfl) (h2:Region.free .any ops listed i=true:=by kernel_rfl) (h3:(Region.ready .any ops listed).contains i=true:=by kernel_rfl) (h4:Awm .any ops (fun i=>X.contains i) listed i=true:=by kernel_rfl) (h5:Na .any ops listed=true:=by kernel_rfl) (hR:X2 c:=by exact Aad) (hd:Nat.blt d c.n=true:=by rfl) :
  T c fr H (.dx k H0 X ops (f+1) listed):=.mk fun a w s g =>
 E7.firstL ho (Region.noSelect_spec h1) (fun ch a w hp=>by rw [Mz] at hp ⊢;exact hR _ _ _ _ _ hp) f listed a w (fun j hj hx hl=>by
   have:=aW.1 h4 j (cR.2 hj);dsimp only at this;rw [hx,hl] at this;simpa using this) (Region.free_spec ho h2) (Ajj h5) IA (.inl ⟨rfl,fun w' hw'=>hy.h a w' _ _ _ _ g hw'⟩) (fun p hp=>s.on p (hs.all p hp)) (h.h _ _ s (g.put hd))
end
def Bb1 (fid:FuncId) (bd caps:am) (A:List Pc) (hA:A.all (fun p=>!p.mu)=true) (xs:List As) (a:aj) (c:Nat) (F:aq) (p:As->Bool) (hb:Rr prog fid=true) (hl:xs.length<=1000000000)
  (hp:∀x∈xs,∀w,O8 A w->Calls prog fid (bd++[(.agg #[aa (x).Ct,aa (x).Ae,aa (x).Am,aa (x).Es,af (x).data]:Value)]++caps).toArray w (RB (.bool (p x)) w)) :
  Fn prog 248 [ab a xs.length c,.func (.func fid) bd.toArray caps.toArray] (.sl Ak (ab a xs.length c) xs F::A) [] (fun (_:Unit)=>True) (fun _=>aa (Si p xs)) (fun _=>[]):=by
 refine enter func248 rfl ntmps248 (fun w0=>?_) rfl GA .nil;refine go ?_;refine Dl [0,1,4,7] (fun k:Nat=>[(8,aa (k:Nat))]) (fun k=>k<=xs.length/\∀j (_:j < k) (hj:j < xs.length),p xs[j]=false) (fun k=>xs.length - k) 0 ⟨aD _,fun j h=>by omega⟩ fun k hk=>?_;obtain ⟨hk1,hk2⟩:=hk;refine go ?_;refine Ay rfl (fun h5=>?_) (fun h5=>?_)
 ·have hh:k < xs.length:=EY
  refine go ?_;refine Pf (xs:=xs) k ?_;rintro hi b o e sz;rw [e];refine go ?_;apply wO;refine Ab7 rfl rfl hb Wj ?_;refine cb (fun w st=>hp xs[k] (aB hh) w (fun q hq=>st.on q GB)) ?_;cases hpk:p xs[k]
  ·refine go ?_;refine Xd ?_;refine Ce (hH:=Lq _) (k+1) ⟨hh,fun j hj h=>?_⟩ EY;rcases be (bA.1 hj) with h2|rfl
   ·exact hk2 j h2 h
   ·exact hpk
  ·refine go ?_;refine ret () trivial ?_;rw [Pi hh hk2 hpk];rfl
 ·obtain rfl:k=xs.length:=EY
  exact BU
def Ar8 (fid:FuncId) (bd caps:am) (A:List Pc) (hA:A.all (fun p=>!p.mu)=true) (xs:List As) (a:aj) (c:Nat) (F:aq) (p:As->Bool) (hb:Rr prog fid=true) (hl:xs.length<=1000000000)
  (hp:∀x∈xs,∀w,O8 A w->Calls prog fid (bd++[(.agg #[aa (x).Ct,aa (x).Ae,aa (x).Am,aa (x).Es,af (x).data]:Value)]++caps).toArray w (RB (.bool (p x)) w)) :
  Fn prog 190 [ab a xs.length c,.func (.func fid) bd.toArray caps.toArray] (.sl Ak (ab a xs.length c) xs F::A) [] (fun (_:Unit)=>True) (fun _=>.bool (xs.any p)) (fun _=>[]):=by
 refine enter func190 rfl ntmps190 (fun w0=>?_) rfl GA .nil;refine go ?_;refine cb (fun w st=>(Bb1 fid bd caps A hA xs a c F p hb hl hp).val w (fun q hq=>st.on q (by simpa using hq)) GA) ?_;refine go ?_;refine ret () trivial ?_;rw [Ty];rfl
def Bb5 (r:A8) (p:As) (d:Int) (g t o:Nat) (A B:am) (a1:aj) (c1:Nat) (F1:aq) (a2:aj) (c2:Nat) (F2:aq) (hg:Mk r) (hp:Br p=true) (d0:1<=d) (d1:d<=8) :
  Fn prog 289 [Gj g o 0,.agg #[aa p.Ct,aa p.Ae,aa p.Am,aa p.Es,af p.data],aa d] [] [.row g t o A [.bool r.Bg,aa r.Ai,aa (r.Aa).next,.slice a1 (r.Aa).Ao.length c1,.slice a2 (r.An).length c2] B,.ow C0 223 (.slice a1 (r.Aa).Ao.length c1) (r.Aa).Ao F1,.ow Az 195 (.slice a2 (r.An).length c2) (r.An) F2] (fun (_:NwS)=>True)
   (fun s=>.slice s.ae (Is r p).length s.ce) (fun s=>[.row g t o A [.bool (Dn r p d).Bg,aa (Dn r p d).Ai,aa ((Dn r p d).Aa).next,.slice s.a1 ((Dn r p d).Aa).Ao.length s.c1,.slice s.a2 ((Dn r p d).An).length s.c2] B,.ow C0 223 (.slice s.a1 ((Dn r p d).Aa).Ao.length s.c1) ((Dn r p d).Aa).Ao s.F1,.ow Az 195 (.slice s.a2 ((Dn r p d).An).length s.c2) ((Dn r p d).An) s.F2,.ow A9 9 (.slice s.ae (Is r p).length s.ce) (Is r p) s.Fe]):=by
 have k0:=hg.k0;have k1:=hg.k1;obtain ⟨-,q1,q2, -⟩:=Dj.1 hg.q;obtain ⟨n0,n1⟩:=Kz hp;refine enter func289 rfl ntmps289 fun w0=>?_;refine go ?_;intros;by_cases hk1:p.Ct=1
 ·rw [av hk1];rw [show Dn r p d=Ll r p d by unfold Dn Mh;simp [hk1],show Is r p=M4 r p by unfold Is Mh;simp [hk1]];exact BI
 rw [ay hk1];refine go ?_;by_cases hk2:p.Ct=2
 ·rw [av hk2];rw [show Dn r p d=Ll r p d by unfold Dn Mh;simp [hk2],show Is r p=M4 r p by unfold Is Mh;simp [hk2]];exact BI
 rw [ay hk2];refine go ?_;by_cases hk5:p.Ct=5
 ·rw [av hk5];rw [show Dn r p d=Ll r p d by unfold Dn Mh;simp [hk5],show Is r p=M4 r p by unfold Is Mh;simp [hk5]];exact BI
 rw [ay hk5];refine go ?_;refine Bt A9 9 ?_;have eE:Is r p=[]:=by unfold Is Mh;simp [hk1,hk2,hk5]
 by_cases hk4:p.Ct=4
 ·rw [av hk4];cases hs:r.Bg
  ·rw [show Dn r p d=r by unfold Dn Mh;simp [hk1,hk2,hk5,hs],eE,hs];refine go ?_;refine ret ⟨_,_,_,_,_,_,none,0,_⟩ trivial rfl
  ·rw [show Dn r p d=Ann r p by unfold Dn Mh;simp [hk4,hs],eE,show (Ann r p).Bg=true from hs];refine go ?_;refine Ar [0,1,2] [0,18,19,20,21,22] ?_;refine P0 0 ?_;refine Ze 1 ?_;refine Ze 2 ?_;refine Ze 3 ?_;refine Ze 4 ?_;refine Ze 5 ?_;refine Ze 6 ?_;refine Ze 7 ?_;refine Ze 8 ?_;refine Ze 9 ?_;refine Ze 10 ?_;refine Ze 11 ?_;refine Ze 12 ?_;refine Ze 13 ?_;refine Ze 14 ?_;refine Ze 15 ?_;refine dN 16 ?_;refine oC ?_
   refine cfr (fun w st=>by obtain ⟨Fq, -,hq9⟩:=(st.get (p:=.ow Az 195 (ab a2 r.An.length c2) r.An F2) FA).2.read;exact ⟨[.sl Az (ab a2 r.An.length c2) r.An Fq],I6 ⟨EZ,hq9⟩,rfl,Acx r.An r.Aa.next p.Ae r.Ai a2 c2 Fq hg.q (Ba.2 ⟨n0,n1⟩) k0 k1⟩) (fun u _=>?_);refine dk ?_;refine Ze 17 ?_;refine P0 18 ?_;refine P0 19 ?_;refine P0 20 ?_;refine P0 21 ?_;refine dN 22 ?_;refine oS ?_;refine Nm ?_;refine dd ?_;refine go ?_;refine ret ⟨_,_,_,_,_,_,none,0,_⟩ trivial rfl
 rw [ay hk4];rw [show Dn r p d=r by unfold Dn Mh;simp [hk1,hk2,hk5,hk4],eE];refine go ?_;refine ret ⟨_,_,_,_,_,_,none,0,_⟩ trivial rfl
structure HaS where
 k:Nat
 a1:aj
 c1:Nat
 F1:aq
 a2:aj
 c2:Nat
 F2:aq
 ae:aj
 ce:Nat
 Fe:aq
def Ux (t:Nf) (v:Value) (F:aq):FV 59 [v] [.isv Ro v t F] (.bool (Gb t)):=by
 refine enter func59 rfl ntmps59 fun w0=>?_;refine Mv ?_;rintro a1 c1 F1 rfl l1;unfold maxLen at l1;refine go ?_;intros;refine Dl [1,2,6,7] (fun k:Nat=>[(8,aa (k:Nat))]) (fun k=>k<=t.Ad.length/\∀j,j < k->Ae3 t.Ad j=true) (fun k=>t.Ad.length - k) 0 ⟨aD _,fun j h=>by omega⟩ fun k hk=>?_;obtain ⟨hk1,hk2⟩:=hk;refine go ?_;refine Ay rfl (fun h1=>?_) (fun h1=>?_)
 ·have hh:k < t.Ad.length:=EY
  refine Im (xs:=t.Ad) k ?_;rintro hi b o e1;rw [e1];refine go ?_;refine Dd rfl rfl (fun h2=>?_) (fun h2=>?_)
  ·obtain rfl:k=0:=EY
   refine go ?_;refine Dd rfl rfl (fun h3=>?_) (fun h3=>?_)
   ·refine go ?_;rw [Abx hh (by rw [Q8 hh];exact ay h3)];exact BA
   ·refine go ?_;refine Ce 1 ⟨hh,fun j hj=>by obtain rfl:j=0:=EY;rw [Q8 hh];exact av EY⟩ (by show t.Ad.length - 1 < t.Ad.length - 0;omega)
  ·refine go ?_;refine Dd rfl rfl (fun h3=>?_) (fun h3=>?_)
   ·refine go ?_;refine ce (fun w s=>Hw _ _ _ w) ?_;cases g:Ff 0 t.Ad[k] ((k:Int) - 1)
    ·refine go ?_;rw [Abx hh (by rw [Tr hh EY];exact g)];exact BA
    ·refine go ?_;refine Ce (k+1) ⟨hh,fun j hj=>?_⟩ (by show t.Ad.length - (k+1) < t.Ad.length - k;omega);rcases be (bA.1 hj) with h|rfl
     ·exact hk2 j h
     ·rw [Tr hh EY];exact g
   ·exact absurd h3 EY
 ·obtain rfl:k=t.Ad.length:=EY
  refine go ?_;refine ce (fun w s=>Hw _ _ _ w) ?_;refine go ?_;refine ret () trivial ?_;unfold Gb;rw [Ks hk2,fE];rfl
def Ahe (t:Nf) (v:Value) (F:aq):FV 62 [v] [.isv Ro v t F] (.bool (Gb t)):=by
 refine enter func62 rfl ntmps62 fun w0=>?_;refine Mv ?_;rintro a1 c1 F1 rfl l1;unfold maxLen at l1;refine go ?_;intros;refine ce (fun w s=>Kq _ _ _ w) ?_;cases g0:Ff 2 (t.Ad.length:Int) 8
 ·rw [Aud g0];exact AA
 have hb:2<=t.Ad.length/\t.Ad.length<=8:=by
  unfold Ff at g0;simp only [aw,aF] at g0;omega
 have h0:0 < t.Ad.length:=EY
 refine Im (xs:=t.Ad) 0 ?_;rintro hi b o e1;rw [e1];refine go ?_;refine Ay rfl (fun h2=>?_) (fun h2=>?_)
 ·refine go ?_;rw [Abx h0 (by rw [Q8 h0];exact ay h2)];exact BA
 refine go ?_;refine Dl [1,2,3] (fun k:Nat=>[(4,aa ((k+1:Nat):Int))]) (fun k=>k+1<=t.Ad.length/\∀j,j < k+1->Ae3 t.Ad j=true) (fun k=>t.Ad.length - k) 0 ⟨EY,fun j h=>by obtain rfl:j=0:=EY;rw [Q8 h0];exact av EY⟩ fun k hk=>?_;obtain ⟨hk1,hk2⟩:=hk;refine go ?_;refine Ay rfl (fun h1=>?_) (fun h1=>?_)
 ·have hh:k+1 < t.Ad.length:=EY
  refine Im (a:=some ⟨b,o,none⟩) (xs:=t.Ad) (k+1) ?_;rintro hi2 _ _ e2;cases e2;refine go ?_;refine ce (fun w s=>Kq _ _ _ w) ?_;cases g:Ff 0 t.Ad[k+1] (((k+1:Nat):Int) - 1)
  ·refine go ?_;rw [Abx hh (by rw [Tr hh EY];exact g)];exact BA
  ·refine go ?_;refine Ce (k+1) ⟨hh,fun j hj=>?_⟩ (by show t.Ad.length - (k+1) < t.Ad.length - k;omega);rcases be (bA.1 hj) with h|rfl
   ·exact hk2 j h
   ·rw [Tr hh EY];exact g
 ·have hk:k+1=t.Ad.length:=EY
  refine go ?_;refine ret () trivial ?_;unfold Gb;rw [g0,Ks (fun j hj=>hk2 j EY)];rfl
structure KiS where
 k:Nat
 a:aj
 c:Nat
 F:aq
def Qi (t:Nf) (node:Int) (v:Value) (F:aq) (hz:Ko t.Ad node 1=[]) (hl:1<=t.Ad.length/\t.Ad.length<=1000000):Fn prog 168 [v,aa node] [.isv Ro v t F] [] (fun (_:KiS)=>True) (fun z=>.slice z.a (I0 t.Ad node).length z.c) (fun z=>[.ow Bc 3 (.slice z.a (I0 t.Ad node).length z.c) (I0 t.Ad node) z.F]):=by
 refine enter func168 rfl ntmps168 fun w0=>?_;refine Mv ?_;rintro a1 c1 F1 rfl l1;unfold maxLen at l1;refine go ?_;intros;refine C3 Bc ?_;refine Ca [1,2,4] (fun z:KiS=>[(5,.slice z.a (Up t.Ad node z.k).length z.c),(6,aa ((z.k+1:Nat):Int))]) (fun z=>[.ow Bc 3 (.slice z.a (Up t.Ad node z.k).length z.c) (Up t.Ad node z.k) z.F]) (fun z=>z.k+1<=t.Ad.length) (fun z=>t.Ad.length - z.k) ⟨0,_,_,_⟩ hl.1 fun z hz2=>?_;have hkl:=Aj9 t.Ad node z.k;have hl2:=hl.2;refine go ?_;refine Ay rfl (fun h1=>?_) (fun h1=>?_)
 ·have hh:z.k+1 < t.Ad.length:=EY
  refine Im (xs:=t.Ad) (z.k+1) ?_;rintro hi b o e1;rw [e1];refine go ?_;refine Ay rfl (fun h2=>?_) (fun h2=>?_)
  ·refine Hy ?_;intros;apply wO;refine N9 (O3 _) C7 fun a9 c9 F9=>?_;refine go ?_;rw [<-Aur hh h2];refine Ce ⟨z.k+1,a9,c9,F9⟩ (by show z.k+1+1<=t.Ad.length;omega) (by show t.Ad.length - (z.k+1) < t.Ad.length - z.k;omega)
  ·rw [<-Ayr hh h2];refine go ?_;refine Ce ⟨z.k+1,z.a,z.c,z.F⟩ (by show z.k+1+1<=t.Ad.length;omega) (by show t.Ad.length - (z.k+1) < t.Ad.length - z.k;omega)
 ·have hk:z.k+1=t.Ad.length:=EY
  rw [Aj8 hz hk];exact CB
def Yc (t:Nf) (node:Int) (v:Value) (F:aq):FV 158 [v,aa node] [.isv Ro v t F] (.bool (Et t.Ad node)):=by
 refine enter func158 rfl ntmps158 fun w0=>?_;refine Mv ?_;rintro a1 c1 F1 rfl l1;refine go ?_;intros;refine Be (Axx t.Ad node _ _ F1) fun _ _=>?_;refine go ?_;refine ret () trivial ?_;unfold Et;rw [<-decide_not];rfl
def Ot (t:Nf) (node:Int) (v:Value) (F:aq) (hg:Px t.Ad) (h0:0 < node):FV 134 [v,aa node] [.isv Ro v t F] (.bool (Et t.Ad node)):=by
 refine enter func134 rfl ntmps134 fun w0=>?_;refine Mv ?_;rintro a1 c1 F1 rfl l1;refine go ?_;intros;refine Dd rfl rfl (fun h1=>?_) (fun h1=>?_)
 ·refine go ?_;refine Be (Qi t node _ F (Tn hg.z EY) (by have:=hg.n0;have:=hg.n1;omega)) fun q _=>?_;refine go ?_;refine ret () trivial ?_;rw [Avc];by_cases hk:I0 t.Ad node=[]
  ·rw [hk];rfl
  ·rw [ay hk,ay fun e=>hk (bu.1 EY)];rfl
 ·exact absurd h0 h1
def Azs (l:ar) (n:Int):(Sm l n).length<=l.length+1:=by
 unfold Sm
 split
 ·omega
 ·simp only [aA,aP,aU,aX];omega
def Hp {e:Bj}:Bb e=true↔Ld e.Ai=true/\e.Ah.length<=5/\(∀x∈e.Ah,Lj e.Ai x=true)/\e.Ah.Pairwise fun a b=>a.Ae≠b.Ae:=by
 unfold Bb;simp only [aw,aF];constructor
 ·rintro ⟨⟨h1,h2⟩,h3⟩;refine ⟨h1,h2,fun x hx=>?_,bh.2 fun i j hi hj hij=>?_⟩
  ·obtain ⟨i,hi,rfl⟩:=bl hx;have:=J8 h3 i hi;rw [Ky hi,aw] at this;exact this.1
  ·have:=J8 h3 j hj;rw [Ky hj,aw,bw,cB] at this;have:=this.2 e.Ah[i] (cQ.2 ⟨i,EY,rfl⟩);exact EV
 ·rintro ⟨h1,h2,h3,h4⟩;refine ⟨⟨h1,h2⟩,Ks fun i hi=>?_⟩;rw [Ky hi,h3 _ (aB hi),bQ,bw,cB];intro x hx;obtain ⟨j,hj,rfl⟩:=cQ.1 hx;have:=bh.1 h4 j i EY hi EY;exact EV
def P5 {c:Int} {x:Hk}:Lj c x=true↔Cd x.Ae=true/\0 < x.Bl.length/\(x.Bl.Pairwise (· < ·)/\∀z∈x.Bl,1<=z/\z<=7)/\c+1<=x.Cm/\x.Cm<=c+6:=by
 unfold Lj Ff;simp only [aw,aF];exact ⟨fun ⟨a,b,c,d⟩=>⟨a,b,Zr c,d⟩,fun ⟨a,b,c,d⟩=>⟨a,b,Aku c.1 c.2,d⟩⟩
def Aoz (l:ar) (n:Int):(∀j (_:j < Lp l n) (h:j < l.length),l[j] < n)/\∀h:Lp l n < l.length,¬l[Lp l n] < n:=by
 have:=Rm (p:=fun x=>decide (x < n)) (xs:=l);exact ⟨fun j hj h=>dv (this.2.1 j hj h),fun h=>of_decide_eq_false (this.2.2 h)⟩
def Ao0 {l:ar} {n x:Int}:x∈Sm l n↔x=n\/x∈l:=by
 unfold Sm
 split
 ·rename_i h;have:=ci h;exact ⟨fun h=>.inr h,fun h=>by rcases h with rfl|h;exact this;exact h⟩
 ·rw [aJ,aG];constructor
  ·rintro (h|h|h)
   ·exact .inr (bK h)
   ·exact .inl h
   ·exact .inr (br h)
  ·rintro (h|h)
   ·exact .inr (.inl h)
   ·rw [<-bo (Lp l n) l,aJ] at h;rcases h with h|h
    ·exact .inl h
    ·exact .inr (.inr h)
def Bdq {l:ar} {n:Int} (h:l.Pairwise (· < ·)):(Sm l n).Pairwise (· < ·):=by
 obtain ⟨s1,s2⟩:=Aoz l n;have hp:=bh.1 h;unfold Sm
 split
 ·exact h
 ·rename_i hne;refine dS.2 ⟨h.sublist (fH _ _),dl.2 ⟨fun z hz=>?_,h.sublist (fL _ _)⟩,fun a ha b hb=>?_⟩
  ·obtain ⟨j,hj,rfl⟩:=fN.1 hz;have hk:Lp l n < l.length:=EY
   have h1:=s2 hk;have h2:l[Lp l n]≠n:=fun e=>hne (by rw [aE hk,e]);rcases co j with rfl|hj0
   ·simp only [bT];omega
   ·have:=hp (Lp l n) (Lp l n+j) hk EY EY;omega
  ·obtain ⟨i,hi,rfl⟩:=cQ.1 ha;have h1:=s1 i EY EY;rcases aG.1 hb with rfl|hb
   ·exact h1
   ·obtain ⟨j,hj,rfl⟩:=fN.1 hb;exact hp i (Lp l n+j) EY EY EY
def Nt {f:Int}:Pj f=true↔1<=f/\f<=7:=by unfold Pj Ff;simp
def Auh {e:Bj} {n f:Int} (hg:Bb e=true) (hn:Cd n=true) (hf:Pj f=true):Bb (N7 e n f)=true:=by
 obtain ⟨h1,h2,h3,h4⟩:=Hp.1 hg;obtain ⟨f1,f2⟩:=Nt.1 hf;rcases Rv e n with ⟨h, -,e2, -⟩|⟨-,e2, -,e4⟩
 ·rw [Ah4 h];have hx:=P5.1 (h3 _ (aB h));refine Hp.2 ⟨h1,HN,fun x hx'=>?_,?_⟩
  ·rcases bC hx' with h'|rfl
   ·exact h3 x h'
   ·refine P5.2 ⟨hx.1,?_,⟨Bdq hx.2.2.1.1,fun z hz=>?_⟩,hx.2.2.2⟩
    ·exact List.length_pos_of_mem (Ao0.2 (.inl rfl))
    ·rcases Ao0.1 hz with rfl|hz
     ·exact ⟨f1,f2⟩
     ·exact hx.2.2.1.2 z hz
  ·refine bh.2 fun i j hi hj hij=>?_;have hp:=bh.1 h4 i j ID HE hij;simp only [fU]
   split <;> split <;> simp_all
 ·by_cases hl:e.Ah.length < 5
  ·rw [Ah3 e2 hl];refine Hp.2 ⟨h1,FF,fun x hx=>?_,?_⟩
   ·rcases aJ.1 hx with h'|h'
    ·exact h3 x h'
    ·simp only [aG,aT,bn] at h';subst h';exact P5.2 ⟨hn,FA,⟨FA,by simp [f1,f2]⟩,by show e.Ai+1<=e.Ai+6;omega,by show e.Ai+6<=e.Ai+6;omega⟩
   ·refine dS.2 ⟨h4,FA,fun a ha b hb=>?_⟩;simp only [aG,aT,bn] at hb;subst hb;exact e4 a ha
  ·rw [Ad3 e2 hl];exact hg
def Aug {e:Bj} {n:Int} (hg:Bb e=true):Bb (Qn e n)=true:=by
 obtain ⟨h1,h2,h3,h4⟩:=Hp.1 hg;rcases Rv e n with ⟨h, -,e2, -⟩|⟨-,e2, -,e4⟩
 ·rw [Ahz h];have hs:(e.Ah.take (Ml e n)++e.Ah.drop (Ml e n+1)).Sublist e.Ah:=by
   have:=List.Sublist.append (List.Sublist.refl (e.Ah.take (Ml e n))) (List.drop_sublist_drop_left e.Ah (Nat.le_succ (Ml e n)))
   rwa [bo] at this
  exact Hp.2 ⟨h1,bE hs.length_le h2,fun x hx=>h3 x (hs.subset hx),h4.sublist hs⟩
 ·rw [Amc e2];exact hg
def Abt {e:Bj} {n:Int} {l:ar}:∀z∈Vg e n l,z∈l:=fun z hz=>by
 unfold Vg at hz
 split at hz
 ·have:=(bR.1 hz).2;exact EV
 ·split at hz
  ·exact hz
  ·simp at hz
def Arx {r:A8} {d:Int} (hg:Mk r) (hk:r.Ai < 9999) (d0:1<=d) (d1:d<=8):Mo (N3 r d) r.Aa.next=true/\∀q∈N3 r d,Jb r.Aa q.Ae=false:=by
 have k0:=hg.k0;obtain ⟨h1,h2,h3,h4⟩:=Dj.1 hg.q;refine ⟨Dj.2 ⟨h1,bE (Aee r d) h2,fun q hq=>?_,?_⟩,fun q hq=>(Acq hg hq).2.2⟩
 ·obtain ⟨q',hq',h⟩:=eh.1 hq;have ho:=Ew.1 (h3 q' hq');unfold Uu at h
  split at h
  ·cases h;exact h3 q hq'
  ·split at h
   ·cases h
   ·rename_i hn;have t0:=ho.t0;have t1:=ho.t1
    split at h
    ·cases h;exact Ew.2 ⟨ho.n,ho.g,by show (1:Int)<=2;decide,by show (2:Int)<=3;decide,by show 0<=r.Ai+1+3;omega,by show r.Ai+1+3<=10007;omega,by show 0<=q'.Dw+1;omega,by show q'.Dw+1<=3;omega⟩
    ·cases h;exact Ew.2 ⟨ho.n,ho.g,by show (1:Int)<=1;decide,by show (1:Int)<=3;decide,by show 0<=r.Ai+1+d;omega,by show r.Ai+1+d<=10007;omega,t0,t1⟩
 ·unfold N3;refine List.Pairwise.filterMap _ (fun a a' h b hb b' hb'=>?_) h4;rw [Amq hb,Amq hb'];exact h
def Awh {r:A8} {d:Int} (hg:Mk r) (hk:r.Ai < 9999) (d0:1<=d) (d1:d<=8):Mk (C2 r d):=by
 have k0:=hg.k0;obtain ⟨hq,hf⟩:=Arx hg hk d0 d1;by_cases hL:Da r=[]
 ·rw [Aio hL];refine ⟨by show 0<=r.Ai+1;omega,by show r.Ai+1<=9999;omega,hg.w,hq,hf,fun hs=>?_⟩;obtain ⟨e1,e2⟩:=hg.z hs;refine ⟨e1,?_⟩;show N3 r d=[];unfold N3;rw [e2];rfl
 ·have hst:r.Bg=true:=by
   cases hs:r.Bg
   ·exfalso;apply hL;unfold Da;rw [(hg.z hs).2];rfl
   ·rfl
  rw [Aec hL];obtain ⟨e1, -,e3, -⟩:=Vs (t:=Dm (Da r)) hg.w;have hs8:=(Afw hg hL).1;have hgp:=@Zu r.Aa.next (Dm (Da r))
  have hw:Cz (Jq r.Aa (Dm (Da r)))=true:=Aem _ _ hg.w;rw [<-Afd hg hL];refine ⟨by show 0<=r.Ai+1;omega,by show r.Ai+1<=9999;omega,hw,Ae0 (m:=(Jp r.Aa (Dm (Da r))).length) EY hq hw e1,P4,fun hs=>?_⟩;have:r.Bg=false:=hs;rw [hst] at this;cases this
def Qf (n:Dx) (i:Nat):Bj:=n.Af.getD i ⟨0,[]⟩
def Qt (n:Dx) (i:Nat):A8:=n.Ac.getD i Awv
def Z9 (n:Dx) (i:Nat):ar:=I0 n.Ap.Ad ((i:Nat):Int)
def Afj (n:Dx) (i:Nat) (p:As):ar:=if p.Ct=2 then Vg (Qf n i) p.Ae (Z9 n i) else Z9 n i
def C9 (n:Dx) (i:Nat) (p:As):Dx × ai :=
 if Et n.Ap.Ad ((i:Nat):Int) then (⟨n.Ap,n.Ab,n.Af,n.Ac.set i (Dn (Qt n i) p (Nn i)),n.down,n.up⟩,U3 i (Is (Qt n i) p))
 else (⟨n.Ap,n.Ab,if p.Ct=2 then n.Af.set i (Qn (Qf n i) p.Ae) else n.Af,n.Ac,Dt n.down (Afj n i p) [p],n.up⟩,[])
def Z0 (n:Dx) (i:Nat):Nat:=(n.Ap.Ad.getD i 0).toNat
def Aat (p:As):As:=⟨4,p.Ae,p.Am,p.Es,⟨#[]⟩⟩
def Qz (n:Dx) (i:Nat) (p:As):Dx :=
 if Z0 n i=0 then ⟨n.Ap,My n.Ab p.Ae,n.Af,n.Ac,Dt n.down [((i:Nat):Int)] (N8 n.Ab p),n.up⟩
 else ⟨n.Ap,n.Ab,n.Af.set (Z0 n i) (N7 (Qf n (Z0 n i)) p.Ae ((i:Nat):Int)),n.Ac,Dt n.down [((i:Nat):Int)] [Aat p],if Add (Qf n (Z0 n i)) p.Ae then n.up.modify (Z0 n i) fun q=>Ht q [p] else n.up⟩
def N1 (n:Dx) (i:Nat):Dx × ai :=
 if Et n.Ap.Ad ((i:Nat):Int) then (⟨n.Ap,n.Ab,n.Af,n.Ac.set i (C2 (Qt n i) (Nn i)),n.down,n.up.modify i fun q=>Ht q (Fh (Qt n i))⟩,U3 i (Hv (Qt n i)))
 else (⟨n.Ap,n.Ab,n.Af.set i (Er (Qf n i)),n.Ac,n.down,n.up⟩,[])
def Big (n:Dx):Dx:=⟨n.Ap,Nj n.Ab,n.Af,n.Ac,Dt n.down (Z9 n 0) (N2 n.Ab.Aa n.Ab.quiet),n.up⟩
def Bf (n:Dx):Nat->Dx × ai
 | 0=>(Big n,[])
 | k+1=>((N1 (Bf n k).1 (k+1)).1,(Bf n k).2++(N1 (Bf n k).1 (k+1)).2)
def Gw (n:Dx):Dx × ai:=Bf n (n.Ap.Ad.length - 1)
def Ah9 (n:Dx) (s:au):Dx:=⟨n.Ap,Sc n.Ab s,n.Af,n.Ac,Dt n.down (Z9 n 0) [Dz n.Ab.Aa s],n.up⟩
def Q9 (n:Dx) (i:Nat):Dx:=⟨n.Ap,n.Ab,n.Af,n.Ac,n.down.modify i (·.drop 1),n.up⟩
def Pa (n:Dx) (i:Nat):Dx:=⟨n.Ap,n.Ab,n.Af,n.Ac,n.down,n.up.modify i (·.drop 1)⟩
structure GN (ck:Nat->Int) (n:Dx):Prop where
 t:Gb n.Ap=true
 s:Cp n.Ab=true
 l:Lx n=true
 a:∀i (h1:i < n.Af.length) (h2:i < n.Ac.length) (h3:i < n.down.length) (h4:i < n.up.length),Rb n.Ap.Ad (ck i) i n.Af[i] n.Ac[i] n.down[i] n.up[i]=true
def Ax {n:Dx}:At n=true↔GN (fun _=>n.Ab.Ai) n:=by
 rw [Uo];constructor
 ·rintro ⟨h1,h2,h3,h4⟩;obtain ⟨q1,q2,q3,q4⟩:=Bn.1 h3;exact ⟨h1,h2,h3,fun i a b c d=>by rw [<-Vc a b c d];exact h4 i EY⟩
 ·rintro ⟨h1,h2,h3,h4⟩;obtain ⟨q1,q2,q3,q4⟩:=Bn.1 h3;exact ⟨h1,h2,h3,fun i hi=>by rw [Vc EY EY EY EY];exact h4 i _ _ _ _⟩
def Afp (ck:Nat->Int) (i:Nat) (c:Int):Nat->Int:=fun j=>if j=i then c else ck j
structure RN (par:ar) (clk:Int) (i:Nat) (e:Bj) (r:A8) (d u:List As):Prop where
 hd:Fj d=true
 hu:Fj u=true
 hk:upQ u=true
 hz:i=0->M7 e=true/\Uf r=true/\d.length=0/\u.length=0
 hf:i≠0->Et par ((i:Nat):Int)=true->M7 e=true/\Bw r=true/\r.Ai=clk
 hn:i≠0->Et par ((i:Nat):Int)=false->Bb e=true/\e.Ai=clk/\Uf r=true
def Ol {par:ar} {clk:Int} {i:Nat} {e:Bj} {r:A8} {d u:List As}:Rb par clk i e r d u=true↔RN par clk i e r d u:=by
 unfold Rb;constructor
 ·intro h;simp only [aw] at h;obtain ⟨⟨⟨h1,h2⟩,h3⟩,h4⟩:=h;refine ⟨h1,h2,h3,fun e=>?_,fun e l=>?_,fun e l=>?_⟩
  ·rw [aH e] at h4;simp only [aw,aF] at h4;exact ⟨h4.1.1.1,h4.1.1.2,h4.1.2,h4.2⟩
  ·rw [aC e,aH l] at h4;simp only [aw,aF] at h4;exact ⟨h4.1.1,h4.1.2,h4.2⟩
  ·rw [aC e,aC (by rw [l];decide)] at h4;simp only [aw,aF] at h4;exact ⟨h4.1.1,h4.1.2,h4.2⟩
 ·intro h;rw [h.hd,h.hu,h.hk,bQ,bQ,bQ];by_cases e:i=0
  ·rw [aH e];obtain ⟨a,b,c,d⟩:=h.hz e;rw [a,b,av c,av d];rfl
  ·rw [aC e];cases l:Et par ((i:Nat):Int)
   ·obtain ⟨a,b,c⟩:=h.hn e l;rw [aC EZ,a,av b,c];rfl
   ·obtain ⟨a,b,c⟩:=h.hf e l;rw [aH rfl,a,b,av c];rfl
def GN.rn {ck:Nat->Int} {n:Dx} (h:GN ck n) {i:Nat} (hi:i < n.Ap.Ad.length):∃(h1:i < n.Af.length) (h2:i < n.Ac.length) (h3:i < n.down.length) (h4:i < n.up.length),RN n.Ap.Ad (ck i) i n.Af[i] n.Ac[i] n.down[i] n.up[i]:=by
 obtain ⟨q1,q2,q3,q4⟩:=Bn.1 h.l;exact ⟨EY,EY,EY,EY,Ol.1 (h.a i _ _ _ _)⟩
def GN.mk' {ck:Nat->Int} {n:Dx} (h1:Gb n.Ap=true) (h2:Cp n.Ab=true) (h3:Lx n=true) (h4:∀i (h1:i < n.Af.length) (h2:i < n.Ac.length) (h3:i < n.down.length) (h4:i < n.up.length),RN n.Ap.Ad (ck i) i n.Af[i] n.Ac[i] n.down[i] n.up[i]):GN ck n :=
 ⟨h1,h2,h3,fun i a b c d=>Ol.2 (h4 i a b c d)⟩
def GN.src {ck:Nat->Int} {n:Dx} {s:Cu} (h:GN ck n) (hs:Cp s=true):GN ck ⟨n.Ap,s,n.Af,n.Ac,n.down,n.up⟩:=⟨h.t,hs,h.l,h.a⟩
def GN.el {ck:Nat->Int} {n:Dx} {i:Nat} {e:Bj} (h:GN ck n) (h0:i≠0) (hl:Et n.Ap.Ad ((i:Nat):Int)=false) (he:Bb e=true):GN (Afp ck i e.Ai) ⟨n.Ap,n.Ab,n.Af.set i e,n.Ac,n.down,n.up⟩:=by
 obtain ⟨q1,q2,q3,q4⟩:=Bn.1 h.l;refine .mk' h.t h.s (Bn.2 ⟨by simpa using q1,q2,q3,q4⟩) fun j h1 h2 h3 h4=>?_;have h1':j < n.Af.length:=HY
 have r:=Ol.1 (h.a j h1' h2 h3 h4);refine ⟨r.hd,r.hu,r.hk,fun e0=>?_,fun e0 l=>?_,fun e0 l=>?_⟩
 ·have:=r.hz e0
  rwa [de EY]
 ·have hne:i≠j:=fun e1=>by subst e1;rw [hl] at l;cases l
  have:=r.hf e0 l;rw [de hne];unfold Afp;rw [aC (Ne.symm hne)];exact this
 ·have:=r.hn e0 l;by_cases e1:i=j
  ·subst e1;rw [eQ];unfold Afp;rw [aH rfl];exact ⟨he,rfl,this.2.2⟩
  ·rw [de e1];unfold Afp;rw [aC (Ne.symm e1)];exact this
def GN.rc {ck:Nat->Int} {n:Dx} {i:Nat} {x:A8} (h:GN ck n) (h0:i≠0) (hl:Et n.Ap.Ad ((i:Nat):Int)=true) (he:Bw x=true):GN (Afp ck i x.Ai) ⟨n.Ap,n.Ab,n.Af,n.Ac.set i x,n.down,n.up⟩:=by
 obtain ⟨q1,q2,q3,q4⟩:=Bn.1 h.l;refine .mk' h.t h.s (Bn.2 ⟨q1,by simpa using q2,q3,q4⟩) fun j h1 h2 h3 h4=>?_;have h2':j < n.Ac.length:=HN
 have r:=Ol.1 (h.a j h1 h2' h3 h4);refine ⟨r.hd,r.hu,r.hk,fun e0=>?_,fun e0 l=>?_,fun e0 l=>?_⟩
 ·have:=r.hz e0
  rwa [de EY]
 ·have:=r.hf e0 l;by_cases e1:i=j
  ·subst e1;rw [eQ];unfold Afp;rw [aH rfl];exact ⟨this.1,he,rfl⟩
  ·rw [de e1];unfold Afp;rw [aC (Ne.symm e1)];exact this
 ·have hne:i≠j:=fun e1=>by subst e1;rw [hl] at l;cases l
  have:=r.hn e0 l;rw [de hne];unfold Afp;rw [aC (Ne.symm hne)];exact this
def As0 {q ps:List As} (hq:upQ q=true) (hp:∀p∈ps,p.Ct=3):upQ (Ht q ps)=true:=by
 unfold upQ Ht at *;rw [dY,hq,bQ,aW];exact fun p h=>av (hp p (bK h))
def GN.dn {ck:Nat->Int} {n:Dx} (h:GN ck n) (i:Nat) (f:List As->List As) (h0:i=0->f []=[]) (hf:∀q,Fj q=true->Fj (f q)=true):GN ck ⟨n.Ap,n.Ab,n.Af,n.Ac,n.down.modify i f,n.up⟩:=by
 obtain ⟨q1,q2,q3,q4⟩:=Bn.1 h.l;refine .mk' h.t h.s (Bn.2 ⟨q1,q2,by simpa using q3,q4⟩) fun j h1 h2 h3 h4=>?_;have h3':j < n.down.length:=IA
 have r:=Ol.1 (h.a j h1 h2 h3' h4);by_cases e1:i=j
 ·subst e1;simp only [gh];refine ⟨hf _ r.hd,r.hu,r.hk,fun e0=>?_,r.hf,r.hn⟩;obtain ⟨a,b,c,d⟩:=r.hz e0;refine ⟨a,b,?_,d⟩;rw [bu.1 c,h0 e0];rfl
 ·simp only [gB,aC e1];exact r
def GN.un {ck:Nat->Int} {n:Dx} (h:GN ck n) (i:Nat) (f:List As->List As) (h0:i=0->f []=[]) (hf:∀q,Fj q=true->upQ q=true->Fj (f q)=true/\upQ (f q)=true):GN ck ⟨n.Ap,n.Ab,n.Af,n.Ac,n.down,n.up.modify i f⟩:=by
 obtain ⟨q1,q2,q3,q4⟩:=Bn.1 h.l;refine .mk' h.t h.s (Bn.2 ⟨q1,q2,q3,by simpa using q4⟩) fun j h1 h2 h3 h4=>?_;have h4':j < n.up.length:=by simpa using h4
 have r:=Ol.1 (h.a j h1 h2 h3 h4');by_cases e1:i=j
 ·subst e1;simp only [gh];refine ⟨r.hd,(hf _ r.hu r.hk).1,(hf _ r.hu r.hk).2,fun e0=>?_,r.hf,r.hn⟩;obtain ⟨a,b,c,d⟩:=r.hz e0;refine ⟨a,b,c,?_⟩;rw [bu.1 d,h0 e0];rfl
 ·simp only [gB,aC e1];exact r
def GN.sp {ck:Nat->Int} {ps:List As} (hp:∀p∈ps,Br p=true):∀{nodes:ar} {n:Dx},GN ck n->(∀x∈nodes,x.toNat≠0)->GN ck ⟨n.Ap,n.Ab,n.Af,n.Ac,Dt n.down nodes ps,n.up⟩
 | [],_,h,_=>h
 | x::r,n,h,hx=>GN.sp hp (nodes:=r) (n:=⟨n.Ap,n.Ab,n.Af,n.Ac,n.down.modify x.toNat fun q=>Ht q ps,n.up⟩) (h.dn x.toNat _ (fun e=>absurd e (hx x FA)) fun q hq=>Ad2 hq hp) fun y hy=>hx y KT
def Ag1 {q:List As} (h:Fj q=true):Fj (q.drop 1)=true:=by
 unfold Fj at *;simp only [aw,aF,aW] at h ⊢;exact ⟨JX,fun p hp=>h.2 p (br hp)⟩
def Bbg {q:List As} (h:upQ q=true):upQ (q.drop 1)=true:=by
 unfold upQ at *;simp only [aW] at h ⊢;exact fun p hp=>h p (br hp)
def GN.pd {ck:Nat->Int} {n:Dx} (h:GN ck n) (i:Nat):GN ck (Q9 n i):=h.dn i _ (fun _=>rfl) fun _=>Ag1
def GN.pu {ck:Nat->Int} {n:Dx} (h:GN ck n) (i:Nat):GN ck (Pa n i):=h.un i _ (fun _=>rfl) fun _ a b=>⟨Ag1 a,Bbg b⟩
def Xa (l:List Ig):Prop:=∀s∈l,s.Dk.size<=8
def Akq {s:au} (h:s.size<=8):(Ahv s).size<=9:=by
 unfold Ahv;have:(⟨#[43]⟩:au).size=1:=rfl;rw [aN];omega
def Arn {l:List Ig} (h:Xa l):(Gt l).size<=9:=by
 unfold Gt;cases l with
 | nil=>decide
 | cons s r =>
  dsimp only
  split
  ·exact Akq (h s FA)
  ·decide
def Az2:∀(l:List Ig) (n:Int),Xa l->∀e∈(rel n l).2.2,e.size<=9
 | [],_,_,e,he=>by simp [rel] at he
 | s::r,n,h,e,he=>by
  unfold rel at he
  split at he
  ·rcases aG.1 he with rfl|he
   ·exact Akq (h s FA)
   ·exact Az2 r _ (fun x hx=>h x IJ) e he
  ·simp at he
def As3 {w:Aj} (h:Xa w.Ao):∀e∈Sb w,e.size<=9:=Az2 w.Ao w.next h
def Asj:∀(k:Nat) (w:Aj),Xa w.Ao->(∀e∈O1 k w,e.size<=9)/\Xa (Jd k w).Ao
 | 0,w,h=>⟨fun e he=>by simp [O1] at he,h⟩
 | k+1,w,h=>by
  have ih:=Asj k (Z4 w) fun s hs=>h s (br hs);refine ⟨fun e he=>?_,ih.2⟩;unfold O1 at he;rcases aG.1 he with rfl|he
  ·exact Arn h
  ·exact ih.1 e he
def Abb {w:Aj} (h:Cz w=true):Xa w.Ao:=fun s hs=>by
 obtain ⟨n0,n1,hl,hit⟩:=Sz h;exact hit s hs
def Aoq {w:Aj} {t:Int} (h:Xa w.Ao):∀e∈Jp w t,e.size<=9:=fun e he=>by
 have hg:=Asj (Ez w.next t) w h;unfold Jp at he;rcases aJ.1 he with he|he
 ·exact hg.1 e he
 ·exact As3 hg.2 e he
def Avn {w:Aj} {t:Int} (h:Cz w=true):(Jp w t).length<=40000:=by
 have h1:=(Vs (t:=t) h).2.2.1;have h2:Ez w.next t<=32767:=by
  unfold Ez
  split
  ·rename_i hb;unfold Ug Ff at hb;simp only [aw,aF] at hb;omega
  ·omega
 omega
def Bds {x:Aj} {k:Nat} {s:Ig} (h:Xa x.Ao) (hs:s.Dk.size<=8):Xa (Mp x k s):=fun y hy=>by
 unfold Mp at hy;rcases bC hy with hy|rfl
 ·unfold Mw at hy;rcases aJ.1 hy with hy|hy
  ·exact h y hy
  ·rw [List.eq_of_mem_replicate hy];decide
 ·exact hs
def Bcu {r:A8} {p:As} (hg:Mk r) (hp:Br p=true):∀e∈Is r p,e.size<=1000000:=fun e he=>by
 have hd:p.data.size<=8:=by
  unfold Br P9 at hp;simp only [aw,aF] at hp;omega
 have hst:=(Rf hg hp).1;have htk:=(Ue hg hp).1;unfold Is at he
 split at he
 ·unfold M4 at he;rcases aJ.1 he with he|he
  ·unfold Lh at he
   split at he
   ·simp at he
   ·unfold L9 at he
    split at he
    ·simp at he
    ·have:=As3 (w:=Z3 (Eg r p) p.Ae p.data) (Bds (s:=⟨true,p.data⟩) (Abb hst) hd) e he;omega
  ·unfold Pn at he
   split at he
   ·split at he
    ·have:=Aoq (Abb htk) e he;omega
    ·rw [aL] at he;subst he;decide
   ·simp at he
 ·simp at he
def Aeb {r:A8} (hg:Mk r):(∀e∈Hv r,e.size<=1000000)/\(Hv r).length<=40000:=by
 unfold Hv
 split
 ·exact ⟨fun e he=>by simp at he,FA⟩
 ·exact ⟨fun e he=>by have:=Aoq (Abb hg.w) e he;omega,Avn hg.w⟩
def Ahx {w:World} {t:TypeId} {a:aj} {c:Nat} {l:ar} {F:aq} (h:(Pc.ow Bc t (ab a l.length c) l F).P w):∃F',(Pc.isv Ro (.agg #[ab a l.length c]) ⟨l⟩ F').P w:=by
 obtain ⟨F', -,hs⟩:=h.2.read;exact ⟨F',_,rfl,_,rfl,hs⟩
def Aas (t:Nf) (node:Int) (v:Value) (F:aq) (hl:t.Ad.length<=1000000):Fn prog 150 [v,aa node] [.isv Ro v t F] [] (fun (_:KiS)=>True) (fun z=>.slice z.a (I0 t.Ad node).length z.c) (fun z=>[.ow Bc 3 (.slice z.a (I0 t.Ad node).length z.c) (I0 t.Ad node) z.F]):=by
 refine enter func150 rfl ntmps150 fun w0=>?_;refine Mv ?_;rintro a1 c1 F1 rfl l1;refine Bt Bc 3 ?_;refine go ?_;intros;refine Ca [1,4,9,10] (fun z:KiS=>[(5,.slice z.a (Ko t.Ad node z.k).length z.c),(11,aa (z.k:Nat))]) (fun z=>[.ow Bc 3 (.slice z.a (Ko t.Ad node z.k).length z.c) (Ko t.Ad node z.k) z.F]) (fun z=>z.k<=t.Ad.length) (fun z=>t.Ad.length - z.k) ⟨0,_,_,_⟩ (aD _) fun z hz=>?_;have hkl:=Ag9 t.Ad node z.k;refine go ?_;refine Ay rfl (fun h1=>?_) (fun h1=>?_)
 ·have hh:z.k < t.Ad.length:=EY
  refine Im (xs:=t.Ad) z.k ?_;rintro hi b o e1;rw [e1];refine go ?_;refine Ay rfl (fun h2=>?_) (fun h2=>?_)
  ·refine Hy ?_;intros;apply wO;refine N9 (O3 _) C7 fun a9 c9 F9=>?_;refine go ?_;rw [<-Aqv hh h2];exact EQ
  ·rw [<-Aus hh h2];exact DU
 ·rw [show Ko t.Ad node z.k=I0 t.Ad node by unfold I0;rw [show z.k=t.Ad.length by omega]];exact CB
def Ag4 {r:A8} {p:As} (hg:Mk r) (hp:Br p=true):∀e∈Is r p,e.size<=1000000:=Bcu hg hp
def Asm:∀(l:ar) (lo:Int),l.Pairwise (· < ·)->(∀z∈l,lo<=z/\z<=7)->(l.length:Int)<=max 0 (8 - lo)
 | [],_,_,_=>by simp;omega
 | x::r,lo,hp,hb=>by
  rw [dl] at hp;have:=Asm r (x+1) hp.2 fun z hz=>⟨by have:=hp.1 z hz;omega,(hb z JB).2⟩;have:=hb x FA;rw [aU];omega
def P2 {e:Bj} (hg:Bb e=true) {x:Hk} (hx:x∈e.Ah):x.Bl.length<=7:=by
 have h:=(P5.1 ((Hp.1 hg).2.2.1 x hx)).2.2.1;have:=Asm x.Bl 1 h.1 h.2;omega
def Ac9 {i:Nat}:1<=Nn i/\Nn i<=8:=by unfold Nn;omega
def Hf {n:Dx} {i:Nat} (h:i < n.Ac.length):Qt n i=n.Ac[i]:=Qg h _
def J9 {n:Dx} {i:Nat} (h:i < n.Af.length):Qf n i=n.Af[i]:=Qg h _
def At1 (n:Dx) (i:Nat) (p:As) (g:Nat) (a1:aj) (c1:Nat) (F1:aq) (a2:aj) (c2:Nat) (F2:aq) (a3:aj) (c3:Nat) (F3:aq) (a4:aj) (c4:Nat) (F4:aq) (a5:aj) (c5:Nat) (F5:aq) (a6:aj) (c6:Nat) (F6:aq) (a7:aj) (c7:Nat) (F7:aq) (FT:aq) (hl:Lx n=true) (hi:i < n.Ap.Ad.length) (h8:Px n.Ap.Ad) (hr:Et n.Ap.Ad (i:Nat)=true->Bw (Qt n i)=true) (he:Et n.Ap.Ad (i:Nat)=false->Bb (Qf n i)=true) (hp:Br p=true) (hps:p.data.size<=maxLen) :
  Fn prog 220 [Gj g 0 0,aa (i:Nat),.agg #[aa (p).Ct,aa (p).Ae,aa (p).Am,aa (p).Es,af (p).data]] [Ga FT] [.row g 43 0 [] [ab a1 n.Ap.Ad.length c1,aa n.Ab.Aa.Am,aa n.Ab.Aa.size,ab a2 n.Ab.Aa.Al.length c2,aa n.Ab.Ai,aa n.Ab.quiet,ab a3 n.Ab.holds.length c3,ab a4 n.Af.length c4,ab a5 n.Ac.length c5,ab a6 n.down.length c6,ab a7 n.up.length c7] [],.ow Bc 3 (ab a1 n.Ap.Ad.length c1) n.Ap.Ad F1,.ow A9 9 (ab a2 n.Ab.Aa.Al.length c2) n.Ab.Aa.Al F2,.ow Bv 165 (ab a3 n.Ab.holds.length c3) n.Ab.holds F3,.ow Cc 111 (ab a4 n.Af.length c4) n.Af F4,.ow B4 118 (ab a5 n.Ac.length c5) n.Ac F5,.ow (J0 Ak 159) 120 (ab a6 n.down.length c6) n.down F6,.ow (J0 Ak 159) 120 (ab a7 n.up.length c7) n.up F7] (fun (_:NV × KA)=>True) (fun z=>.slice z.2.a (C9 n i p).2.length z.2.c) (fun z=>[.row g 43 0 [] [ab z.1.a1 n.Ap.Ad.length z.1.c1,aa (C9 n i p).1.Ab.Aa.Am,aa (C9 n i p).1.Ab.Aa.size,.slice z.1.a2 (C9 n i p).1.Ab.Aa.Al.length z.1.c2,aa (C9 n i p).1.Ab.Ai,aa (C9 n i p).1.Ab.quiet,.slice z.1.a3 (C9 n i p).1.Ab.holds.length z.1.c3,ab z.1.a4 n.Af.length z.1.c4,ab z.1.a5 n.Ac.length z.1.c5,ab z.1.a6 n.down.length z.1.c6,ab z.1.a7 n.up.length z.1.c7] [],.ow Bc 3 (ab z.1.a1 n.Ap.Ad.length z.1.c1) (C9 n i p).1.Ap.Ad z.1.F1,.ow A9 9 (.slice z.1.a2 (C9 n i p).1.Ab.Aa.Al.length z.1.c2) (C9 n i p).1.Ab.Aa.Al z.1.F2,.ow Bv 165 (.slice z.1.a3 (C9 n i p).1.Ab.holds.length z.1.c3) (C9 n i p).1.Ab.holds z.1.F3,.ow Cc 111 (ab z.1.a4 n.Af.length z.1.c4) (C9 n i p).1.Af z.1.F4,.ow B4 118 (ab z.1.a5 n.Ac.length z.1.c5) (C9 n i p).1.Ac z.1.F5,.ow (J0 Ak 159) 120 (ab z.1.a6 n.down.length z.1.c6) (C9 n i p).1.down z.1.F6,.ow (J0 Ak 159) 120 (ab z.1.a7 n.up.length z.1.c7) (C9 n i p).1.up z.1.F7,.ow A9 9 (.slice z.2.a (C9 n i p).2.length z.2.c) (C9 n i p).2 z.2.F]):=by
 obtain ⟨q1,q2,q3,q4⟩:=Bn.1 hl;have hn8:=h8.n1;obtain ⟨d0,d1_⟩:=Ac9 (i:=i);refine enter func220 rfl ntmps220 fun w0=>?_;refine go ?_;intros;refine cfr (fun w st=>by obtain ⟨Fq,hq⟩:=Ahx (st.get (p:=.ow Bc 3 (ab a1 n.Ap.Ad.length c1) n.Ap.Ad F1) FD);exact ⟨_,I6 hq,rfl,Yc n.Ap i _ Fq⟩) (fun _ _=>?_);refine Pp ?_;cases hlf:Et n.Ap.Ad (i:Nat)
 rotate_left
 ·have hir:i < n.Ac.length:=EY
  have hgr:=El.1 (Hf hir▸hr hlf);have hev:=(Vi (d:=Nn i) hgr hp d0 d1_).2;rw [show C9 n i p=(⟨n.Ap,n.Ab,n.Af,n.Ac.set i (Dn n.Ac[i] p (Nn i)),n.down,n.up⟩,U3 i (Is n.Ac[i] p)) by unfold C9;rw [aH hlf,Hf hir]];refine go ?_;refine Adc (xs:=n.Ac) (m:=5) i ?_ rfl hir;rintro _ g5 A5 cs B5 k1 k2 J1 Ji J2 rfl - hc5 hH5;refine I2 ?_;rintro b1 d1 G1 b2 d2 G2 ev l1 l2;obtain rfl:=Oa ev;refine Ar [5,6] [] ?_;refine C4 0 1 2 3 ?_;refine C4 4 5 6 7 ?_;refine dt 8 ?_;refine dN 9 ?_;refine oC ?_;refine Be (Ajo i EY) fun _ _=>?_;refine dk ?_;refine dN 10 ?_;refine oC ?_
  refine Be (Bb5 n.Ac[i] p (Nn i) g5 118 (0+i * 5) A5 B5 b1 d1 G1 b2 d2 G2 hgr hp d0 d1_) fun s _=>?_;refine dk ?_;refine dN 11 ?_;refine oC ?_;refine cfr (fun w st=>by obtain ⟨Fq, -,hq⟩:=(st.get (p:=.ow A9 9 (.slice s.ae (Is n.Ac[i] p).length s.ce) (Is n.Ac[i] p) s.Fe) FD).2.read;exact ⟨[.sl A9 (.slice s.ae (Is n.Ac[i] p).length s.ce) (Is n.Ac[i] p) Fq,Ga FT],Vj ⟨EZ,hq⟩ (st.get (p:=Ga FT) FD),rfl,Bba i _ _ _ Fq FT EY EY (Ag4 hgr hp)⟩) (fun u _=>?_);refine Pp ?_;refine dk ?_;refine dt 12 ?_;refine dd ?_;refine go ?_
  refine Kw (Dn n.Ac[i] p (Nn i)) ?_;refine Xg _ hH5 rfl fun J5=>?_;refine ret (⟨a1,c1,F1,a2,c2,F2,a3,c3,F3,a4,c4,F4,_,c5,J5,a6,c6,F6,a7,c7,F7⟩,⟨0,_,_,_⟩) trivial rfl
 ·have hir:i < n.Af.length:=EY
  have hge:Bb n.Af[i]=true:=J9 hir▸he hlf;have hel:=(Hp.1 hge).2.1;have hkl:=Vp n.Ap.Ad ((i:Nat):Int);have hkx:∀x∈I0 n.Ap.Ad ((i:Nat):Int),0<=x/\x.toNat < n.down.length:=fun x hx=>by have:=Lv h8 hx;omega
  refine go ?_;refine cfr (fun w st=>by obtain ⟨Fq,hq⟩:=Ahx (st.get (p:=.ow Bc 3 (ab a1 n.Ap.Ad.length c1) n.Ap.Ad F1) FD);exact ⟨_,I6 hq,rfl,Aas n.Ap ((i:Nat):Int) _ Fq JR⟩) (fun u _=>?_);refine Pp ?_;refine Av (E:=Bc) (xs:=I0 n.Ap.Ad ((i:Nat):Int)) fun Fk=>?_;refine Bt A9 9 ?_;refine go ?_;refine Ay rfl (fun hk=>?_) (fun hk=>?_)
  ·rw [show C9 n i p=(⟨n.Ap,n.Ab,n.Af.set i (Qn n.Af[i] p.Ae),n.Ac,Dt n.down (Vg n.Af[i] p.Ae (I0 n.Ap.Ad ((i:Nat):Int))) [p],n.up⟩,[]) by unfold C9 Afj Z9;rw [aC JW,aH hk,aH hk,J9 hir]];refine go ?_;refine Adc (xs:=n.Af) (m:=2) i ?_ rfl hir;rintro _ g5 A5 cs B5 k1 k2 J1 Ji J2 rfl - hc5 hH5;refine Ih ?_;rintro b1 d1 G1 ev l1;obtain rfl:=Oa ev;refine Ar [6,7] [] ?_;refine C4 0 1 2 3 ?_;refine C4 4 5 6 7 ?_;refine dt 8 ?_;refine dN 9 ?_;refine oC ?_
   refine Be (Atl n.Af[i] p.Ae (I0 n.Ap.Ad ((i:Nat):Int)) g5 111 (0+i * 2) A5 B5 b1 d1 G1 u.a u.c Fk EY (fun x hx=>by have:=P2 hge hx;omega) EY) fun s _=>?_;refine dk ?_;refine dt 10 ?_;refine dd ?_;refine Hi (Qn n.Af[i] p.Ae) ?_;refine Xg _ hH5 rfl fun J5=>?_;refine Av (E:=Bc) (xs:=Vg n.Af[i] p.Ae (I0 n.Ap.Ad ((i:Nat):Int))) fun Fk2=>?_;refine Hy ?_;intros;refine Dy (E:=Ak) (xs:=[p]) (De p hps) ?_ FA;refine Av (E:=Ak) (xs:=[p]) fun Fp=>?_;refine go ?_
   refine Be (Aau n.down (Vg n.Af[i] p.Ae (I0 n.Ap.Ad ((i:Nat):Int))) [p] g _ _ _ _ _ _ _ _ _ _ a6 _ c6 F6 _ _ Fk2 _ _ Fp rfl (fun x hx=>hkx x (Abt x hx))) fun J6 _=>?_;refine go ?_;refine ret (⟨a1,c1,F1,a2,c2,F2,a3,c3,F3,_,c4,J5,a5,c5,F5,a6,c6,J6,a7,c7,F7⟩,⟨0,none,0,[]⟩) trivial rfl
  ·rw [show C9 n i p=(⟨n.Ap,n.Ab,n.Af,n.Ac,Dt n.down (I0 n.Ap.Ad ((i:Nat):Int)) [p],n.up⟩,[]) by unfold C9 Afj Z9;rw [aC JW,aC hk,aC hk]];refine Hy ?_;intros;refine Dy (E:=Ak) (xs:=[p]) (De p hps) ?_ FA;refine Av (E:=Ak) (xs:=[p]) fun Fp=>?_;refine go ?_;refine Be (Aau n.down (I0 n.Ap.Ad ((i:Nat):Int)) [p] g _ _ _ _ _ _ _ _ _ _ a6 _ c6 F6 _ _ Fk _ _ Fp rfl hkx) fun J6 _=>?_;refine go ?_;refine ret (⟨a1,c1,F1,a2,c2,F2,a3,c3,F3,a4,c4,F4,a5,c5,F5,a6,c6,J6,a7,c7,F7⟩,⟨0,none,0,[]⟩) trivial rfl
def Bgm (x:Cu) (n:Int):(My x n).Aa=x.Aa:=by unfold My;split <;> rfl
def Bgk (x:Cu) (n:Int):(My x n).Ai=x.Ai:=by unfold My;split <;> rfl
def Bgl (x:Cu) (n:Int):(My x n).quiet=x.quiet:=by unfold My;split <;> rfl
def Asy {n:Dx} {i k:Nat} (hg:Px n.Ap.Ad) (hi:i < n.Ap.Ad.length) (h0:i≠0) (h:Z0 n i=k):n.Ap.Ad[i]=((k:Nat):Int)/\k < i/\Et n.Ap.Ad ((k:Nat):Int)=false:=by
 have h1:=hg.p i hi EY;have e:n.Ap.Ad.getD i 0=n.Ap.Ad[i]:=Qg hi 0;unfold Z0 at h;rw [e] at h;have e2:n.Ap.Ad[i]=((k:Nat):Int):=EY
 refine ⟨e2,EY,?_⟩;unfold Et;rw [<-e2,av (aB hi)];rfl
def Bbh (n:Dx) (i:Nat) (p:As) (g:Nat) (a1:aj) (c1:Nat) (F1:aq) (a2:aj) (c2:Nat) (F2:aq) (a3:aj) (c3:Nat) (F3:aq) (a4:aj) (c4:Nat) (F4:aq) (a5:aj) (c5:Nat) (F5:aq) (a6:aj) (c6:Nat) (F6:aq) (a7:aj) (c7:Nat) (F7:aq) (hl:Lx n=true) (h0:i≠0) (hi:i < n.Ap.Ad.length) (h8:Px n.Ap.Ad) (hsrc:Cp n.Ab=true) (he:∀k,k≠0->k < n.Ap.Ad.length->Et n.Ap.Ad (k:Nat)=false->Bb (Qf n k)=true) (hp:Br p=true) (hps:p.data.size<=maxLen) :
  Fn prog 221 [Gj g 0 0,aa (i:Nat),.agg #[aa (p).Ct,aa (p).Ae,aa (p).Am,aa (p).Es,af (p).data]] [] [.row g 43 0 [] [ab a1 n.Ap.Ad.length c1,aa n.Ab.Aa.Am,aa n.Ab.Aa.size,ab a2 n.Ab.Aa.Al.length c2,aa n.Ab.Ai,aa n.Ab.quiet,ab a3 n.Ab.holds.length c3,ab a4 n.Af.length c4,ab a5 n.Ac.length c5,ab a6 n.down.length c6,ab a7 n.up.length c7] [],.ow Bc 3 (ab a1 n.Ap.Ad.length c1) n.Ap.Ad F1,.ow A9 9 (ab a2 n.Ab.Aa.Al.length c2) n.Ab.Aa.Al F2,.ow Bv 165 (ab a3 n.Ab.holds.length c3) n.Ab.holds F3,.ow Cc 111 (ab a4 n.Af.length c4) n.Af F4,.ow B4 118 (ab a5 n.Ac.length c5) n.Ac F5,.ow (J0 Ak 159) 120 (ab a6 n.down.length c6) n.down F6,.ow (J0 Ak 159) 120 (ab a7 n.up.length c7) n.up F7] (fun (_:NV)=>True) (fun _=>.tuple #[]) (fun z=>[.row g 43 0 [] [ab z.a1 n.Ap.Ad.length z.c1,aa (Qz n i p).Ab.Aa.Am,aa (Qz n i p).Ab.Aa.size,.slice z.a2 (Qz n i p).Ab.Aa.Al.length z.c2,aa (Qz n i p).Ab.Ai,aa (Qz n i p).Ab.quiet,.slice z.a3 (Qz n i p).Ab.holds.length z.c3,ab z.a4 n.Af.length z.c4,ab z.a5 n.Ac.length z.c5,ab z.a6 n.down.length z.c6,ab z.a7 n.up.length z.c7] [],.ow Bc 3 (ab z.a1 n.Ap.Ad.length z.c1) (Qz n i p).Ap.Ad z.F1,.ow A9 9 (.slice z.a2 (Qz n i p).Ab.Aa.Al.length z.c2) (Qz n i p).Ab.Aa.Al z.F2,.ow Bv 165 (.slice z.a3 (Qz n i p).Ab.holds.length z.c3) (Qz n i p).Ab.holds z.F3,.ow Cc 111 (ab z.a4 n.Af.length z.c4) (Qz n i p).Af z.F4,.ow B4 118 (ab z.a5 n.Ac.length z.c5) (Qz n i p).Ac z.F5,.ow (J0 Ak 159) 120 (ab z.a6 n.down.length z.c6) (Qz n i p).down z.F6,.ow (J0 Ak 159) 120 (ab z.a7 n.up.length z.c7) (Qz n i p).up z.F7]):=by
 obtain ⟨q1,q2,q3,q4⟩:=Bn.1 hl;have hn8:=h8.n1;obtain ⟨n0,n1⟩:=Kz hp;have hone:∀x∈[((i:Nat):Int)],0<=x/\x.toNat < n.down.length:=fun x hx=>by
  rw [aL] at hx;subst hx;omega
 obtain ⟨k,hk⟩:∃k,Z0 n i=k:=⟨_,rfl⟩;obtain ⟨e1,e2,e3⟩:=Asy h8 hi h0 hk;refine enter func221 rfl ntmps221 fun w0=>?_;refine Q4 (xs:=n.Ap.Ad) (m:=1) Eb i ?_ FC rfl hi;rintro _ gp A0 cs B0 rfl rfl hr hH;obtain ⟨rfl, -⟩:=hr w0;rw [e1];refine go ?_;intros;refine P8 ((k:Nat):Int) hH (fun w=>⟨rfl,rfl⟩) ?_;rw [show n.Ap.Ad.set i ((k:Nat):Int)=n.Ap.Ad by rw [<-e1,bv]];refine Ay rfl (fun h5=>?_) (fun h5=>?_)
 ·obtain rfl:k=0:=EY
  rw [show Qz n i p=⟨n.Ap,My n.Ab p.Ae,n.Af,n.Ac,Dt n.down [((i:Nat):Int)] (N8 n.Ab p),n.up⟩ by unfold Qz;rw [aH hk]];dsimp only;rw [Bgm,Bgk,Bgl];refine go ?_;refine As9 [ab (some ⟨gp,0,none⟩) n.Ap.Ad.length c1] [aa n.Ab.Aa.Am,aa n.Ab.Aa.size,ab a2 n.Ab.Aa.Al.length c2,aa n.Ab.Ai,aa n.Ab.quiet,ab a3 n.Ab.holds.length c3] [ab a4 n.Af.length c4,ab a5 n.Ac.length c5,ab a6 n.down.length c6,ab a7 n.up.length c7] ?_;refine Ar [2] [] ?_;refine C4 0 1 3 4 ?_;refine Dh 5 6 ?_;refine dM 2 7 ?_ ?_
  ·apply I1;rfl;rfl;rfl;rfl;exact Iy;exact Ir;intro _;refine Dy (E:=Bc) (xs:=[((i:Nat):Int)]) (O3 _) ?_ FA;refine Av (E:=Bc) (xs:=[((i:Nat):Int)]) fun Fo=>?_;refine dk ?_;refine dN 7 ?_;refine oC ?_;refine Be (Agf n.Ab.Aa n.Ab.holds p g 43 (0+1) _ _ a2 a3 c2 c3 n.Ab.Ai n.Ab.quiet F2 F3 hsrc n0 n1 hps) fun z _=>?_
   refine Aik [ab (some ⟨gp,0,none⟩) n.Ap.Ad.length c1] [aa n.Ab.Aa.Am,aa n.Ab.Aa.size,ab a2 n.Ab.Aa.Al.length c2,aa n.Ab.Ai,aa n.Ab.quiet,.slice z.a2 (My n.Ab p.Ae).holds.length z.c2] [ab a4 n.Af.length c4,ab a5 n.Ac.length c5,ab a6 n.down.length c6,ab a7 n.up.length c7] ?_;refine Av (E:=Ak) (xs:=N8 n.Ab p) fun Fq=>?_;refine dk ?_;refine dN 8 ?_;refine oC ?_;refine Be (Aau n.down [((i:Nat):Int)] (N8 n.Ab p) g _ _ _ _ _ _ _ _ _ _ a6 _ c6 F6 _ _ Fo _ _ Fq rfl hone) fun J6 _=>?_;refine dk ?_;refine dd ?_;refine go ?_
   exact EU
  ·refine oC ?_;refine Be (Agf n.Ab.Aa n.Ab.holds p g 43 (0+1) _ _ a2 a3 c2 c3 n.Ab.Ai n.Ab.quiet F2 F3 hsrc n0 n1 hps) fun z _=>?_;refine Aik [ab (some ⟨gp,0,none⟩) n.Ap.Ad.length c1] [aa n.Ab.Aa.Am,aa n.Ab.Aa.size,ab a2 n.Ab.Aa.Al.length c2,aa n.Ab.Ai,aa n.Ab.quiet,.slice z.a2 (My n.Ab p.Ae).holds.length z.c2] [ab a4 n.Af.length c4,ab a5 n.Ac.length c5,ab a6 n.down.length c6,ab a7 n.up.length c7] ?_;refine Av (E:=Ak) (xs:=N8 n.Ab p) fun Fq=>?_;refine dk ?_;refine dN 2 ?_;apply I1;rfl;rfl;rfl;rfl;exact Iy;exact Ir;intro _
   refine Dy (E:=Bc) (xs:=[((i:Nat):Int)]) (O3 _) ?_ FA;refine Av (E:=Bc) (xs:=[((i:Nat):Int)]) fun Fo=>?_;refine dk ?_;refine dN 8 ?_;refine oC ?_;refine Be (Aau n.down [((i:Nat):Int)] (N8 n.Ab p) g _ _ _ _ _ _ _ _ _ _ a6 _ c6 F6 _ _ Fo _ _ Fq rfl hone) fun J6 _=>?_;refine dk ?_;refine dd ?_;refine go ?_;exact EU
 have h6:k≠0:=EY
 have hkl:k < n.Af.length:=EY
 have hku:k < n.up.length:=EY
 have hge:Bb n.Af[k]=true:=J9 hkl▸he k h6 EY e3;have hel:=(Hp.1 hge).2.1;obtain ⟨hc0,hc1⟩:=Ns.1 (Hp.1 hge).1;rw [show Qz n i p=⟨n.Ap,n.Ab,n.Af.set k (N7 n.Af[k] p.Ae ((i:Nat):Int)),n.Ac,Dt n.down [((i:Nat):Int)] [Aat p],if Add n.Af[k] p.Ae then n.up.modify k fun q=>Ht q [p] else n.up⟩ by unfold Qz;rw [aC EY,hk,J9 hkl]];refine go ?_;refine Adc (xs:=n.Af) (m:=2) k ?_ rfl hkl;rintro _ g5 A5 cs B5 k1 k2 J1 Ji J2 rfl - hc5 hH5;refine Ih ?_;rintro b1 d1 G1 ev l1;obtain rfl:=Oa ev;refine Ar [5,6] [] ?_;refine C4 0 1 2 3 ?_;refine C4 4 5 6 7 ?_;refine dt 8 ?_;refine dN 9 ?_
 refine oC ?_;refine Be (Ap7 n.Af[k] p.Ae ((i:Nat):Int) g5 111 (0+k * 2) A5 B5 b1 d1 G1 EY (fun x hx=>⟨by have:=P2 hge hx;omega,Anu hge hx⟩) EY EY) fun s _=>?_;refine dk ?_;refine dt 10 ?_;refine dd ?_;refine Hi (N7 n.Af[k] p.Ae ((i:Nat):Int)) ?_;refine Xg _ hH5 rfl fun J5=>?_;refine Hy ?_;intros;refine Dy (E:=Bc) (xs:=[((i:Nat):Int)]) (O3 _) ?_ FA;refine Av (E:=Bc) (xs:=[((i:Nat):Int)]) fun Fo=>?_;refine Dy (E:=Ak) (xs:=[Aat p]) (De (Aat p) (aD _)) ?_ FA;refine Av (E:=Ak) (xs:=[Aat p]) fun Fp=>?_;refine go ?_
 refine Be (Aau n.down [((i:Nat):Int)] [Aat p] g _ _ _ _ _ _ _ _ _ _ a6 _ c6 F6 _ _ Fo _ _ Fp rfl hone) fun J6 _=>?_;cases hf:Add n.Af[k] p.Ae
 ·rw [aC EZ];refine go ?_;refine Xe ?_;refine ret (⟨some ⟨gp,0,none⟩,c1,[gp],a2,c2,F2,a3,c3,F3,_,c4,J5,a5,c5,F5,a6,c6,J6,a7,c7,F7⟩:NV) trivial rfl
 ·rw [aH rfl,show (n.up.modify k fun q=>Ht q [p])=n.up.set k (Vy n.up[k] p) by rw [In hku,Azu]];refine go ?_;refine Ar [0,6] [] ?_;refine C4 0 1 2 3 ?_;refine Dh 4 5 ?_;refine dN 6 ?_;refine oC ?_;refine Be (Ady n.up k p a7 _ c7 F7 rfl hku hps) fun J7 _=>?_;refine dk ?_;refine dd ?_;refine go ?_;refine Xe ?_;refine ret (⟨some ⟨gp,0,none⟩,c1,[gp],a2,c2,F2,a3,c3,F3,_,c4,J5,a5,c5,F5,a6,c6,J6,a7,c7,J7⟩:NV) trivial rfl
def Ay3 (es:List Hk) (ck:Int):List Hk:=es.filter fun x=>!decide (x.Cm<=ck)
def Ax4 (x:Hk) (ck:Int) (gb g o:Nat) (u q:Value) (G:aq):FV 284 [u,Gj gb 0 0] [.isv D9 u x G,.cel gb 0 [Gj g o 0],.cel g o [aa ck,q]] (.bool (decide (x.Cm<=ck))):=by
 refine enter func284 rfl ntmps284 fun w0=>?_;refine Ako ?_;rintro a1 c1 F1 rfl l1;refine go ?_;intros;refine Ar [0,3,4] [] ?_;refine C4 0 1 2 3 ?_;refine C4 4 5 6 7 ?_;exact CR
def Ax5 (es:List Hk) (ck:Int) (gb tb g t o:Nat) (A B:am) (a:aj) (c:Nat) (F:aq) :
  Fn prog 283 [ab a es.length c,.func (.func 284) #[] #[Gj gb 0 0]] [] [.ow Ex 167 (ab a es.length c) es F,.row gb tb 0 [] [Gj g o 0] [],.row g t o A [aa ck,ab a es.length c] B] (fun (_:aj × Nat × aq)=>True)
   (fun z=>.slice z.1 (Ay3 es ck).length z.2.1) (fun z=>[.ow Ex 167 (.slice z.1 (Ay3 es ck).length z.2.1) (Ay3 es ck) z.2.2,.row gb tb 0 [] [Gj g o 0] [],.row g t o A [aa ck,ab a es.length c] B]):=by
 refine Aqp rfl fun w ⟨hnd,ho⟩ _ hk=>?_;refine (Acy _ (Wf FB) #[Gj gb 0 0] _ es F (fun x=>decide (x.Cm<=ck)) w ho hnd fun k hk2 wr u G hK hu=>?_).mono ?_
 ·have hr:=hk wr hK;have r1:=hr (.row gb tb 0 [] [Gj g o 0] []) FA;have r2:=hr (.row g t o A [aa ck,ab a es.length c] B) FA;refine (Ax4 es[k] ck gb g o u (ab a es.length c) G).val wr ?_;intro p hp;simp only [aG,aT,bn] at hp;rcases hp with rfl|rfl|rfl
  ·exact hu
  ·exact ⟨FA,Iv r1⟩
  ·exact ⟨FA,Iv r2⟩
 ·rintro e w' ⟨v',F',rfl,h1,h2,h3,h4⟩;exact CP
def Bb0 (e:Bj) (g t o:Nat) (A B:am) (a:aj) (c:Nat) (F:aq) (h0:-1000000<=e.Ai) (h1:e.Ai<=1000000) :
  Fn prog 215 [Gj g o 0] [] [.row g t o A [aa e.Ai,ab a e.Ah.length c] B,.ow Ex 167 (ab a e.Ah.length c) e.Ah F] (fun (_:aj × Nat × aq)=>True)
   (fun _=>.tuple #[]) (fun z=>[.row g t o A [aa (Er e).Ai,.slice z.1 (Er e).Ah.length z.2.1] B,.ow Ex 167 (.slice z.1 (Er e).Ah.length z.2.1) (Er e).Ah z.2.2]):=by
 refine enter func215 rfl ntmps215 fun w0=>?_;refine go ?_;intros;refine Ar [0,1] [9] ?_;refine C4 0 1 2 3 ?_;refine Dh 4 5 ?_;refine dN 6 ?_;refine oC ?_;refine Be (Ax5 e.Ah (e.Ai+1) _ _ g t o A B a c F) fun z _=>?_;refine dk ?_;refine Dh 7 8 ?_;refine dN 9 ?_;refine oS ?_;refine Nm ?_;refine dd ?_;refine Xe ?_;exact BN
def Aqt {e:Bj} (h:Bb e=true) (hc:e.Ai < 9999):Bb (Er e)=true:=by
 obtain ⟨h1,h2,h3,h4⟩:=Hp.1 h;have h5:=Ns.1 h1;unfold Er;refine Hp.2 ⟨Ns.2 ⟨by show 0<=e.Ai+1;omega,by show e.Ai+1<=9999;omega⟩,bE (bN _ _) h2,fun x hx=>?_,h4.filter _⟩;obtain ⟨hx1,hx2⟩:=bR.1 hx;obtain ⟨a,b,c,d,f⟩:=P5.1 (h3 x hx1);simp only [bw,bS] at hx2;exact P5.2 ⟨a,b,c,by show e.Ai+1+1<=x.Cm;omega,by show x.Cm<=e.Ai+1+6;omega⟩
def Avm {k n t l:Int} {s:au} (hk:1<=k/\k<=5) (hn:Cd n=true) (ht:Cd t=true) (hl:Cd l=true) (hg:gp t l<=32767) (hs:P9 s=true) (he:s=⟨#[]⟩\/k<=2):Br ⟨k,n,t,l,s⟩=true:=by
 unfold Br Ff;simp only [aw,bX,aF];refine ⟨⟨⟨⟨⟨⟨hk,hn⟩,ht⟩,hl⟩,hs⟩,hg⟩,?_⟩;rcases he with h|h
 ·exact .inl (.inl h)
 ·by_cases h1:k=1
  ·exact .inl (.inr h1)
  ·exact .inr EY
def Afx:P9 ⟨#[]⟩=true:=EZ
def Al5 {x:Aw} (h:Ed x=true):Cd x.Am=true/\Cd (Lw x)=true/\gp x.Am (Lw x)<=32767:=by
 obtain ⟨⟨t0,t1⟩,⟨s0,s1⟩,hl, -⟩:=Du.1 h;refine ⟨Ba.2 ⟨t0,t1⟩,Qb _ _,?_⟩;unfold Lw gp Cf;omega
def Ak2 {x:Aw} (h:Ed x=true):Br (Sr x)=true:=by
 obtain ⟨a,b,c⟩:=Al5 h;exact Avm EZ a a b c Afx (.inl rfl)
def Arw {x:Aw} {q:Int} (h:Ed x=true):∀p∈N2 x q,Br p=true:=fun p hp=>by
 unfold N2 at hp
 split at hp
 ·simp at hp
 ·rw [aL] at hp;subst hp;exact Ak2 h
def Axl {x:Aw} {n:Int} (h:Ed x=true) (hn:Cd n=true) (hh:Jh x n=true):Br (Anf x n)=true:=by
 obtain ⟨a,b,c⟩:=Al5 h;have hi:=(Du.1 h).2.2.2;have hl:=Abz hh;exact Avm EZ hn a b c (by rw [Vm hl];exact aW.1 hi _ (aB hl)) (.inr EZ)
def Ajl {x:Aw} {n:Int} (h:Ed x=true) (hn:Cd n=true):Br (Abq x n)=true:=by
 obtain ⟨a,b,c⟩:=Al5 h;exact Avm EZ hn a b c Afx (.inl rfl)
def Av2 {x:Cu} {p:As} (h:Ed x.Aa=true) (hp:Br p=true) (hk:p.Ct=3):∀r∈N8 x p,Br r=true:=fun r hr=>by
 have hn:=Ba.2 (Kz hp);unfold N8 at hr
 split at hr
 ·rename_i hh
  split at hr
  ·rw [aL] at hr;subst hr;exact Ajl h hn
  ·simp only [aG,aT,bn] at hr;rcases hr with rfl|rfl
   ·exact Ajl h hn
   ·rw [show Dp x.Aa p=(Anf x.Aa p.Ae,true) by unfold Dp Kn;rw [h,hp,hh,av hk];rfl];exact Axl h hn hh
 ·rw [aL] at hr;subst hr;exact Ak2 h
def Avu {x:Aw} {s:au} (h:Ed x=true) (hs:P9 s=true):Br (Dz x s)=true:=by
 obtain ⟨⟨t0,t1⟩,⟨s0,s1⟩,hl, -⟩:=Du.1 h;have hr:=Rd t0 t1;have hrl:(Df x).Al.length<=6:=by
  unfold Df
  split
  ·show (x.Al.drop 1).length<=6;rw [aX];omega
  ·omega
 refine Avm EZ (Qb _ _) (Ba.2 hr) (Qb _ _) ?_ hs (.inr EZ);unfold gp Cf;omega
def Axw {p:As} (h:Br p=true):Br (Aat p)=true:=by
 unfold Br at h;simp only [aw,aF] at h;exact Avm EZ h.1.1.1.1.1.2 h.1.1.1.1.2 h.1.1.1.2 h.1.2 Afx (.inl rfl)
def Afb {r:A8} (h:Mk r):∀p∈Fh r,Br p=true/\p.Ct=3:=fun p hp=>by
 unfold Fh at hp;obtain ⟨k,hk,rfl⟩:=bL.1 hp;obtain ⟨q,hq,hs⟩:=eh.1 hk;obtain ⟨-, -,q2, -⟩:=Dj.1 h.q;have hn:=(Ew.1 (q2 q hq)).n;have hw:=Sz h.w;have e:k=q.Ae:=by
  unfold Qy at hs
  split at hs
  ·cases hs
  ·split at hs
   ·cases hs
   ·split at hs
    ·exact (Option.some.inj hs).symm
    ·cases hs
 subst e;have hx:=Ba.2 ⟨hw.n0,hw.n1⟩;exact ⟨Avm EZ hn hx hx (by unfold gp;omega) Afx (.inl rfl),rfl⟩
def GN.ck {ck ck':Nat->Int} {n:Dx} (h:GN ck n) (he:∀i,i≠0->i < n.Ap.Ad.length->ck i=ck' i):GN ck' n:=by
 obtain ⟨q1,q2,q3,q4⟩:=Bn.1 h.l;refine .mk' h.t h.s h.l fun i h1 h2 h3 h4=>?_;have r:=Ol.1 (h.a i h1 h2 h3 h4);exact ⟨r.hd,r.hu,r.hk,r.hz,fun e0 l=>by rw [<-he i e0 EY];exact r.hf e0 l,fun e0 l=>by rw [<-he i e0 EY];exact r.hn e0 l⟩
def Afv {l:ar} (hg:Px l) (i:Nat):∀x∈I0 l ((i:Nat):Int),x.toNat≠0:=fun x hx=>by have:=Lv hg hx;omega
def Aru {ck:Nat->Int} {n:Dx} {i:Nat} (h:GN ck n) (h0:i≠0) (hi:i < n.Ap.Ad.length) (hc:ck i < 9999):GN (Afp ck i (ck i+1)) (N1 n i).1:=by
 obtain ⟨h1,h2,h3,h4,r⟩:=h.rn hi;obtain ⟨d0,d1⟩:1<=Nn i/\Nn i<=8:=by unfold Nn;omega
 unfold N1;cases hl:Et n.Ap.Ad ((i:Nat):Int)
 ·rw [aC EZ];obtain ⟨he,e2,e3⟩:=r.hn h0 hl;have e:Qf n i=n.Af[i]:=by unfold Qf;rw [bt,aE h1];rfl
  have:=h.el h0 hl (Aqt (e:=n.Af[i]) he EY);rw [show (Er n.Af[i]).Ai=ck i+1 by rw [<-e2];rfl] at this;rw [e];exact this
 ·rw [aH rfl];obtain ⟨he,e2,e3⟩:=r.hf h0 hl;have e:Qt n i=n.Ac[i]:=by unfold Qt;rw [bt,aE h2];rfl
  have hg:=El.1 e2;have ht:=Awh hg EY d0 d1;have:=h.rc h0 hl (El.2 ht);rw [show (C2 n.Ac[i] (Nn i)).Ai=ck i+1 by unfold C2;split <;> (show n.Ac[i].Ai+1=_;rw [e3])] at this;rw [e];exact this.un i _ (fun e=>absurd e h0) fun q a b=>⟨Ad2 a fun p hp=>(Afb hg p hp).1,As0 b fun p hp=>(Afb hg p hp).2⟩
def Ain (n:Dx) (i:Nat):(N1 n i).1.Ap=n.Ap/\(N1 n i).1.Ab=n.Ab:=by unfold N1;split <;> exact ⟨rfl,rfl⟩
def ckT (c:Int) (k:Nat):Nat->Int:=fun j=>if j<=k then c+1 else c
def P6 {n:Dx} (hg:At n=true) (hc:n.Ab.Ai < 9999):∀k,k+1<=n.Ap.Ad.length->GN (ckT n.Ab.Ai k) (Bf n k).1/\(Bf n k).1.Ap=n.Ap/\(Bf n k).1.Ab=Nj n.Ab
 | 0,_=>by
  have h:=Ax.1 hg;have ht:=Hl h.t;refine ⟨?_,rfl,rfl⟩;have h2:=((h.src (Auj h.s hc)).sp (Arw (q:=n.Ab.quiet) (Ep.1 h.s).1) (Afv ht 0)).ck (ck':=ckT n.Ab.Ai 0) fun i h0 _=>by unfold ckT;rw [aC EY]
  exact h2
 | k+1,hk=>by
  obtain ⟨h1,h2,h3⟩:=P6 hg hc k EY;obtain ⟨t1,t2⟩:=Ain (Bf n k).1 (k+1);have e:ckT n.Ab.Ai k (k+1)=n.Ab.Ai:=by unfold ckT;rw [aC EY]
  have:=Aru h1 (i:=k+1) EY (by rw [h2];omega) (by rw [e];exact hc);refine ⟨this.ck fun i h0 hi=>?_,t1.trans h2,t2.trans h3⟩;rw [e];unfold Afp ckT;by_cases c1:i=k+1
  ·rw [aH c1,aH EY]
  ·rw [aC c1];by_cases c2:i<=k
   ·rw [aH c2,aH EY]
   ·rw [aC c2,aC EY]
def Arv {n:Dx} (hg:At n=true) (hc:n.Ab.Ai < 9999):At (Gw n).1=true:=by
 have h:=Ax.1 hg;have ht:=Hl h.t;have:=ht.n0;obtain ⟨h1,h2,h3⟩:=P6 hg hc (n.Ap.Ad.length - 1) EY;refine Ax.2 ?_;show GN (fun _=>(Bf n (n.Ap.Ad.length - 1)).1.Ab.Ai) _;rw [h3];exact h1.ck fun i h0 hi=>by rw [h2] at hi;unfold ckT;rw [aH EY];rfl
def Bab {g t o k:Nat} {A B X cs Y:am} (hk:X.length=k) {w:World}:(Pc.row g t (o+k) (A++X) cs (Y++B)).P w↔(Pc.row g t o A (X++cs++Y) B).P w:=by
 show ((A++X).length=o+k/\Ip w g t (A++X++cs++(Y++B)))↔(A.length=o/\Ip w g t (A++(X++cs++Y)++B));rw [aA,hk];have e:A++X++cs++(Y++B)=A++(X++cs++Y)++B:=HC
 rw [e];exact ⟨fun h=>⟨EY,h.2⟩,fun h=>⟨EY,h.2⟩⟩
def Ayi {p q:Pc} {R:List Pc} {w:World} (h:p.P w->q.P w) (hH:O8 (p::R) w):O8 (q::R) w:=fun x hx=>by
 rcases aG.1 hx with rfl|hx
 ·exact h (hH p FA)
 ·exact hH x IJ
def Bak {p q:Pc} {R:List Pc} (hm:p.mu=q.mu) (hF:p.F=q.F) (hS:Ti (p::R)):Ti (q::R):=⟨fun x hx hmu b hb=>hS.1 x hx (by rw [hm];exact hmu) b (by rw [hF];exact hb),hS.2⟩
def Ayc {P:Program} {f:FuncId} {args:am} {A M':List Pc} {g t o k:Nat} {A' B X cs Y L:am} {σ:Type} {C:σ->Prop} {v:σ->Value} {cs' L':σ->am} {N':σ->List Pc}
  (h:Fn P f args A (.row g t (o+k) (A'++X) cs (Y++B)::M') C v (fun s=>.row g t (o+k) (A'++X) (cs' s) (Y++B)::N' s)) (hk:X.length=k) (hL:L=X++cs++Y) (hL':∀s,L' s=X++cs' s++Y) :
  Fn P f args A (.row g t o A' L B::M') C v (fun s=>.row g t o A' (L' s) B::N' s):=fun w hH hS=>by
 subst hL;refine (h w (Ayi (Bab hk).2 hH) (Bak rfl rfl hS)).mono ?_;rintro e w' ⟨s,hC,he,h1,h2,h3,h4⟩;refine ⟨s,hC,he,?_,Bak rfl rfl h2,?_,?_⟩
 ·show O8 (.row g t o A' (L' s) B::N' s) w';rw [hL' s];exact Ayi (Bab hk).1 h1
 ·simpa [fp,Pc.mu,Pc.F] using h3
 ·intro p hp b hb;have hp':∃q∈(Pc.row g t (o+k) (A'++X) (cs' s) (Y++B)::N' s),q.mu=p.mu/\b∈q.F:=by
   rcases aG.1 hp with rfl|hp
   ·exact ⟨_,.head _,rfl,hb⟩
   ·exact ⟨p,.tail _ hp,rfl,hb⟩
  obtain ⟨q,hq,hm,hbq⟩:=hp';rcases h4 q hq b hbq with h|⟨x,hx,hbx⟩|⟨hm2,x,hx,hbx⟩
  ·exact .inl h
  ·refine .inr (.inl ?_);rcases aG.1 hx with rfl|hx
   ·exact ⟨_,.head _,hbx⟩
   ·exact ⟨x,.tail _ hx,hbx⟩
  ·exact .inr (.inr ⟨by rw [<-hm];exact hm2,x,hx,hbx⟩)
structure TkN where
 k:Nat
 z:NV
 a:aj
 c:Nat
 F:aq
def Bb3 (n:Dx) (g:Nat) (a1:aj) (c1:Nat) (F1:aq) (a2:aj) (c2:Nat) (F2:aq) (a3:aj) (c3:Nat) (F3:aq) (a4:aj) (c4:Nat) (F4:aq) (a5:aj) (c5:Nat) (F5:aq) (a6:aj) (c6:Nat) (F6:aq) (a7:aj) (c7:Nat) (F7:aq) (FT:aq) (hg:At n=true) (hc:n.Ab.Ai < 9999) :
  Fn prog 152 [Gj g 0 0] [Ga FT] [.row g 43 0 [] [ab a1 n.Ap.Ad.length c1,aa n.Ab.Aa.Am,aa n.Ab.Aa.size,ab a2 n.Ab.Aa.Al.length c2,aa n.Ab.Ai,aa n.Ab.quiet,ab a3 n.Ab.holds.length c3,ab a4 n.Af.length c4,ab a5 n.Ac.length c5,ab a6 n.down.length c6,ab a7 n.up.length c7] [],.ow Bc 3 (ab a1 n.Ap.Ad.length c1) n.Ap.Ad F1,.ow A9 9 (ab a2 n.Ab.Aa.Al.length c2) n.Ab.Aa.Al F2,.ow Bv 165 (ab a3 n.Ab.holds.length c3) n.Ab.holds F3,.ow Cc 111 (ab a4 n.Af.length c4) n.Af F4,.ow B4 118 (ab a5 n.Ac.length c5) n.Ac F5,.ow (J0 Ak 159) 120 (ab a6 n.down.length c6) n.down F6,.ow (J0 Ak 159) 120 (ab a7 n.up.length c7) n.up F7] (fun (_:NV × KA)=>True) (fun z=>.slice z.2.a (Gw n).2.length z.2.c) (fun z=>[.row g 43 0 [] [ab z.1.a1 n.Ap.Ad.length z.1.c1,aa (Gw n).1.Ab.Aa.Am,aa (Gw n).1.Ab.Aa.size,.slice z.1.a2 (Gw n).1.Ab.Aa.Al.length z.1.c2,aa (Gw n).1.Ab.Ai,aa (Gw n).1.Ab.quiet,.slice z.1.a3 (Gw n).1.Ab.holds.length z.1.c3,ab z.1.a4 n.Af.length z.1.c4,ab z.1.a5 n.Ac.length z.1.c5,ab z.1.a6 n.down.length z.1.c6,ab z.1.a7 n.up.length z.1.c7] [],.ow Bc 3 (ab z.1.a1 n.Ap.Ad.length z.1.c1) (Gw n).1.Ap.Ad z.1.F1,.ow A9 9 (.slice z.1.a2 (Gw n).1.Ab.Aa.Al.length z.1.c2) (Gw n).1.Ab.Aa.Al z.1.F2,.ow Bv 165 (.slice z.1.a3 (Gw n).1.Ab.holds.length z.1.c3) (Gw n).1.Ab.holds z.1.F3,.ow Cc 111 (ab z.1.a4 n.Af.length z.1.c4) (Gw n).1.Af z.1.F4,.ow B4 118 (ab z.1.a5 n.Ac.length z.1.c5) (Gw n).1.Ac z.1.F5,.ow (J0 Ak 159) 120 (ab z.1.a6 n.down.length z.1.c6) (Gw n).1.down z.1.F6,.ow (J0 Ak 159) 120 (ab z.1.a7 n.up.length z.1.c7) (Gw n).1.up z.1.F7,.ow A9 9 (.slice z.2.a (Gw n).2.length z.2.c) (Gw n).2 z.2.F]):=by
 have hG:=Ax.1 hg;have h8:=Hl hG.t;have hn8:=h8.n1;have hn2:=h8.n0;obtain ⟨q1,q2,q3,q4⟩:=Bn.1 hG.l;have hS:=Kk hG.s;obtain ⟨hq0,hq3⟩:=Ao4 hG.s;have hkl:=Vp n.Ap.Ad 0;have hkx:∀x∈I0 n.Ap.Ad 0,0<=x/\x.toNat < n.down.length:=fun x hx=>by have:=Lv (i:=0) h8 hx;omega
 refine enter func152 rfl ntmps152 fun w0=>?_;refine go ?_;refine dsI [.cel g 0 [ab a1 n.Ap.Ad.length c1]] [] ?_;refine dtI 0 (fun w h=>I6 (Ij (h (.row g _ 0 [] _ []) FD))) ?_;refine dtI 1 (fun w h=>I6 (Ij (h (.row g _ 0 [] _ []) FD))) ?_;refine dtI 2 (fun w h=>I6 (Ij (h (.row g _ 0 [] _ []) FD))) ?_;refine dtI 3 (fun w h=>I6 (Ij (h (.row g _ 0 [] _ []) FD))) ?_;refine dtI 4 (fun w h=>I6 (Ij (h (.row g _ 0 [] _ []) FD))) ?_;refine dtI 6 (fun w h=>I6 (Ij (h (.row g _ 0 [] _ []) FD))) ?_
 refine dtI 7 (fun w h=>I6 (Ij (h (.row g _ 0 [] _ []) FD))) ?_;refine dtI 8 (fun w h=>I6 (Ij (h (.row g _ 0 [] _ []) FD))) ?_;refine dN 5 ?_;refine oC ?_;refine cfr (fun w st=>by obtain ⟨Fq,hq⟩:=Ahx (st.get (p:=.ow Bc 3 (ab a1 n.Ap.Ad.length c1) n.Ap.Ad F1) FD);exact ⟨_,I6 hq,rfl,Aas n.Ap 0 _ Fq JR⟩) (fun u _=>?_);refine Pp ?_;refine Av (E:=Bc) (xs:=I0 n.Ap.Ad 0) fun Fk=>?_;refine dkI (fun w h=>I6 (Ij (h (.row g _ 0 [] _ []) FD))) ?_;refine dN 9 ?_;refine oC ?_
 refine Be (Ayc (X:=[ab a1 n.Ap.Ad.length c1]) (cs:=[aa n.Ab.Aa.Am,aa n.Ab.Aa.size,ab a2 n.Ab.Aa.Al.length c2,aa n.Ab.Ai,aa n.Ab.quiet,ab a3 n.Ab.holds.length c3]) (Y:=[ab a4 n.Af.length c4,ab a5 n.Ac.length c5,ab a6 n.down.length c6,ab a7 n.up.length c7]) (L:=[ab a1 n.Ap.Ad.length c1,aa n.Ab.Aa.Am,aa n.Ab.Aa.size,ab a2 n.Ab.Aa.Al.length c2,aa n.Ab.Ai,aa n.Ab.quiet,ab a3 n.Ab.holds.length c3,ab a4 n.Af.length c4,ab a5 n.Ac.length c5,ab a6 n.down.length c6,ab a7 n.up.length c7]) (L':=fun z:TiS=>[ab a1 n.Ap.Ad.length c1,aa n.Ab.Aa.Am,aa n.Ab.Aa.size,ab a2 n.Ab.Aa.Al.length c2,aa (n.Ab.Ai+1),aa (Ss n.Ab.quiet),.slice z.a2 (Vo (n.Ab.Ai+1) n.Ab.holds).length z.c2,ab a4 n.Af.length c4,ab a5 n.Ac.length c5,ab a6 n.down.length c6,ab a7 n.up.length c7]) (cs':=fun z:TiS=>[aa n.Ab.Aa.Am,aa n.Ab.Aa.size,ab a2 n.Ab.Aa.Al.length c2,aa (n.Ab.Ai+1),aa (Ss n.Ab.quiet),.slice z.a2 (Vo (n.Ab.Ai+1) n.Ab.holds).length z.c2]) (Bb9 n.Ab.Aa n.Ab.holds g 43 (0+1) _ _ a2 a3 c2 c3 n.Ab.Ai n.Ab.quiet F3 hS.t0 hS.t1 hS.l hS.k0 hS.k1 hq0 hq3) rfl rfl (fun _=>rfl)) fun z _=>?_
 refine Av (E:=Ak) (xs:=N2 n.Ab.Aa n.Ab.quiet) fun Fp=>?_;refine dkI (fun w h=>I6 (Ij (h (.row g _ 0 [] _ []) FD))) ?_;refine dN 10 ?_;refine oC ?_;refine Be (Aau n.down (I0 n.Ap.Ad 0) (N2 n.Ab.Aa n.Ab.quiet) g _ _ _ _ _ _ _ _ _ _ a6 _ c6 F6 _ _ Fk _ _ Fp rfl hkx) fun J6 _=>?_;refine dkI (fun w h=>I6 (Ij (h (.row g _ 0 [] _ []) FD))) ?_;refine dd ?_;refine Bt A9 9 ?_;rw [show Dt n.down (I0 n.Ap.Ad 0) (N2 n.Ab.Aa n.Ab.quiet)=(Bf n 0).1.down from rfl];refine go ?_
 refine Ca [0,2] (fun s:TkN=>[(3,.slice s.a (Bf n s.k).2.length s.c),(4,aa ((s.k+1:Nat):Int))]) (fun s=>[.row g 43 0 [] [ab s.z.a1 n.Ap.Ad.length s.z.c1,aa (Bf n s.k).1.Ab.Aa.Am,aa (Bf n s.k).1.Ab.Aa.size,.slice s.z.a2 (Bf n s.k).1.Ab.Aa.Al.length s.z.c2,aa (Bf n s.k).1.Ab.Ai,aa (Bf n s.k).1.Ab.quiet,.slice s.z.a3 (Bf n s.k).1.Ab.holds.length s.z.c3,ab s.z.a4 n.Af.length s.z.c4,ab s.z.a5 n.Ac.length s.z.c5,ab s.z.a6 n.down.length s.z.c6,ab s.z.a7 n.up.length s.z.c7] [],.ow Bc 3 (ab s.z.a1 n.Ap.Ad.length s.z.c1) (Bf n s.k).1.Ap.Ad s.z.F1,.ow A9 9 (.slice s.z.a2 (Bf n s.k).1.Ab.Aa.Al.length s.z.c2) (Bf n s.k).1.Ab.Aa.Al s.z.F2,.ow Bv 165 (.slice s.z.a3 (Bf n s.k).1.Ab.holds.length s.z.c3) (Bf n s.k).1.Ab.holds s.z.F3,.ow Cc 111 (ab s.z.a4 n.Af.length s.z.c4) (Bf n s.k).1.Af s.z.F4,.ow B4 118 (ab s.z.a5 n.Ac.length s.z.c5) (Bf n s.k).1.Ac s.z.F5,.ow (J0 Ak 159) 120 (ab s.z.a6 n.down.length s.z.c6) (Bf n s.k).1.down s.z.F6,.ow (J0 Ak 159) 120 (ab s.z.a7 n.up.length s.z.c7) (Bf n s.k).1.up s.z.F7,.ow A9 9 (.slice s.a (Bf n s.k).2.length s.c) (Bf n s.k).2 s.F]) (fun s=>s.k+1<=n.Ap.Ad.length/\(Bf n s.k).2.length<=40000 * s.k) (fun s=>n.Ap.Ad.length - s.k) ⟨0,⟨a1,c1,F1,a2,c2,F2,z.a2,z.c2,z.F,a4,c4,F4,a5,c5,F5,a6,c6,J6,a7,c7,F7⟩,none,0,[]⟩ ⟨by show 0+1<=_;omega,aK _⟩ fun s hs0=>?_
 obtain ⟨k,⟨x1,w1,K1,x2,w2,K2,x3,w3,K3,x4,w4,K4,x5,w5,K5,x6,w6,K6,x7,w7,K7⟩,ea,ec,eF⟩:=s;obtain ⟨hk,hel⟩:=hs0;dsimp only at hk hel ⊢;obtain ⟨hGN,hT,hSrc⟩:=P6 hg hc k EY;obtain ⟨r1,r2,r3,r4⟩:=Bn.1 hGN.l;rw [hT] at r1 r2 r3 r4;rw [hT,hSrc];refine go ?_;refine Ay rfl (fun h1=>?_) (fun h1=>?_)
 ·have hj:k+1 < n.Ap.Ad.length:=EY
  obtain ⟨i1,i2,i3,i4,hrn⟩:=hGN.rn (i:=k+1) (by rw [hT];exact hj);rw [hT] at hrn;obtain ⟨d0,d1_⟩:=Ac9 (i:=k+1);refine go ?_;refine cfr (fun w st=>by obtain ⟨Fq,hq⟩:=Ahx (st.get (p:=.ow Bc 3 (ab x1 n.Ap.Ad.length w1) n.Ap.Ad K1) FD);exact ⟨_,I6 hq,rfl,Yc n.Ap ((k+1:Nat):Int) _ Fq⟩) (fun _ _=>?_);refine Pp ?_;cases hlf:Et n.Ap.Ad ((k+1:Nat):Int)
  ·obtain ⟨hge,hck, -⟩:=hrn.hn EY hlf;obtain ⟨hc0,hc1⟩:=Ns.1 (Hp.1 hge).1;have hnx:Bf n (k+1)=(⟨n.Ap,Nj n.Ab,(Bf n k).1.Af.set (k+1) (Er (Bf n k).1.Af[k+1]),(Bf n k).1.Ac,(Bf n k).1.down,(Bf n k).1.up⟩,(Bf n k).2++[]):=by
    show ((N1 (Bf n k).1 (k+1)).1,(Bf n k).2++(N1 (Bf n k).1 (k+1)).2)=_;unfold N1;rw [hT,hlf,aC EZ,J9 i1,hSrc]
   rw [bc] at hnx;refine Adc (xs:=(Bf n k).1.Af) (m:=2) (k+1) ?_ rfl i1;rintro _ g5 A5 cs B5 k1 k2 J1 Ji J2 e5 - hc5 hH5;rw [e5];refine Ih ?_;rintro b1 d1 G1 ev l1;obtain rfl:=Oa ev;refine go ?_;refine Be (Bb0 (Bf n k).1.Af[k+1] g5 111 (0+(k+1) * 2) A5 B5 b1 d1 G1 EY EY) fun s9 _=>?_;refine Hi (Er (Bf n k).1.Af[k+1]) ?_;refine Xg _ hH5 rfl fun J5=>?_;refine go ?_
   refine Ce ⟨k+1,⟨x1,w1,K1,x2,w2,K2,x3,w3,K3,_,w4,J5,x5,w5,K5,x6,w6,K6,x7,w7,K7⟩,ea,ec,eF⟩ ⟨JL,by rw [hnx];dsimp only;omega⟩ GC GH GG
  ·obtain ⟨-,hgr0,hck⟩:=hrn.hf EY hlf;have hgr:=El.1 hgr0;obtain ⟨hsm,hfew⟩:=Aeb hgr;have hnx:Bf n (k+1)=(⟨n.Ap,Nj n.Ab,(Bf n k).1.Af,(Bf n k).1.Ac.set (k+1) (C2 (Bf n k).1.Ac[k+1] (Nn (k+1))),(Bf n k).1.down,Sa (Bf n k).1.up (k+1) (Fh (Bf n k).1.Ac[k+1])⟩,(Bf n k).2++U3 (k+1) (Hv (Bf n k).1.Ac[k+1])):=by
    show ((N1 (Bf n k).1 (k+1)).1,(Bf n k).2++(N1 (Bf n k).1 (k+1)).2)=_;unfold N1;rw [hT,hlf,aH rfl,Hf i2,hSrc];rfl
   have htl:(U3 (k+1) (Hv (Bf n k).1.Ac[k+1])).length=(Hv (Bf n k).1.Ac[k+1]).length:=bf ..;generalize hR:(Bf n k).1.Ac[k+1]=R at *;refine go ?_;refine Adc (xs:=(Bf n k).1.Ac) (m:=5) (k+1) ?_ rfl i2;rintro _ g5 A5 cs B5 k1 k2 J1 Ji J2 e5 - hc5 hH5;rw [e5,hR];refine I2 ?_;rintro b1 d1 G1 b2 d2 G2 ev l1 l2;obtain rfl:=Oa ev;refine Ar [5] [] ?_;refine C4 0 1 2 3 ?_;refine Dh 4 5 ?_;refine dt 6 ?_;refine dN 7 ?_;refine oC ?_;refine Be (Ajo (k+1) EY) fun _ _=>?_;refine dk ?_;refine dN 8 ?_;refine oC ?_
   refine Be (Bb7 R (Nn (k+1)) g5 118 (0+(k+1) * 5) A5 B5 b1 d1 G1 b2 d2 G2 hgr EY EY) fun s9 _=>?_;refine dk ?_;refine C4 9 10 11 12 ?_;refine dt 13 ?_;refine dd ?_;refine Kw (C2 R (Nn (k+1))) ?_;refine Xg _ hH5 rfl fun J5=>?_;refine Av (E:=Ak) (xs:=Fh R) fun Fp=>?_;refine Amm (E:=Ak) (fun p:As=>p.data.size<=maxLen) (fun w cs x F h=>by obtain ⟨_,h,_⟩:=h;exact h) ?_;intro hz;refine Xf (E:=Ak) (xs:=Fh R) ?_;rintro pa pc e9 hp1 hp2;clear e9;refine go ?_;rw [show (Bf n k).1.up=Sa (Bf n k).1.up (k+1) ((Fh R).take 0) by rw [fl,Aks]]
   refine Ca [0,2,3,4,6,56,57] (fun y:KF=>[(58,aa (y.k:Nat))]) (fun y=>[.ow (J0 Ak 159) 120 (ab x7 n.up.length w7) (Sa (Bf n k).1.up (k+1) ((Fh R).take y.k)) y.F]) (fun y=>y.k<=(Fh R).length) (fun y=>(Fh R).length - y.k) ⟨0,K7⟩ (aD _) fun y hy0=>?_;have hpl:=Akr (Bf n k).1.up (k+1) ((Fh R).take y.k);refine go ?_;refine Ay rfl (fun h2=>?_) (fun h2=>?_)
   ·have hm:y.k < (Fh R).length:=EY
    refine Pf (xs:=Fh R) y.k ?_;rintro hi3 b3 o3 e3 s3;rw [e3];refine go ?_;intros;refine Ar [0,6] [] ?_;refine C4 0 1 2 3 ?_;refine Dh 4 5 ?_;refine dN 6 ?_;refine oC ?_;refine Be (Ady (Sa (Bf n k).1.up (k+1) ((Fh R).take y.k)) (k+1) (Fh R)[y.k] x7 _ w7 y.F EY EY s3) fun f1 _=>?_;rw [Ahw i4 hm];refine dk ?_;refine dd ?_;refine go ?_;refine Ce ⟨y.k+1,f1⟩ hm (by show (Fh R).length - (y.k+1) < (Fh R).length - y.k;omega)
   ·rw [show (Fh R).take y.k=Fh R from aV EY];refine go ?_;refine cfr (fun w st=>by obtain ⟨Fq, -,hq⟩:=(st.get (p:=.ow A9 9 (.slice s9.a4 (Hv R).length s9.c4) (Hv R) s9.F4) FD).2.read;exact ⟨[.sl A9 (.slice s9.a4 (Hv R).length s9.c4) (Hv R) Fq,Ga FT],Vj ⟨EZ,hq⟩ (st.get (p:=Ga FT) FD),rfl,Bba (k+1) _ _ _ Fq FT EY EY hsm⟩) (fun u9 _=>?_);refine Pp ?_;refine Av (E:=A9) (xs:=U3 (k+1) (Hv R)) fun F8=>?_;apply wO;refine N5 (E:=A9) (xs:=(Bf n k).2) (ys:=U3 (k+1) (Hv R)) D7 Ie fun a9 c9 F9=>?_;refine go ?_
    refine Ce ⟨k+1,⟨x1,w1,K1,x2,w2,K2,x3,w3,K3,x4,w4,K4,_,w5,J5,x6,w6,K6,x7,w7,y.F⟩,a9,c9,F9⟩ ⟨JL,by rw [hnx];dsimp only;rw [aA,htl];omega⟩ GC GH GG
 ·have hke:n.Ap.Ad.length - 1=k:=EY
  rw [show Gw n=Bf n k by unfold Gw;rw [hke],hT,hSrc];exact EO
structure Js where
 Ct:Int
 node:Int
 data:au
def Dq (s:Js):Bool:=if s.Ct=1 then decide (s.node=0) && P9 s.data else if s.Ct=4 then decide (s.node=0) && decide (s.data=⟨#[]⟩) else Ff 1 s.Ct 6 && Pj s.node && decide (s.data=⟨#[]⟩)
def Xz (s:Js):Bool:=decide (s.Ct=5) || decide (s.Ct=6)
def U1 (n:Dx) (s:Js):List As:=(if Xz s then n.up else n.down).getD s.node.toNat []
def Hb (n:Dx) (s:Js):Dx:=if Xz s then Pa n s.node.toNat else Q9 n s.node.toNat
def C6 (n:Dx) (s:Js):Option (Dx × ai) :=
 if (n.Ap.Ad.length:Int)<=s.node then none
 else if (U1 n s).length=0 then none
 else if s.Ct=2 then some (C9 (Hb n s) s.node.toNat (Nw (U1 n s)))
 else if s.Ct=5 then some (Qz (Hb n s) s.node.toNat (Nw (U1 n s)),[])
 else some (Hb n s,[])
def Bo (n:Dx) (s:Js):Option (Dx × ai) :=
 if s.Ct=1 then some (Ah9 n s.data,[])
 else if s.Ct=4 then (if n.Ab.Ai=9999 then none else some (Gw n))
 else C6 n s
def Ic (n:Dx) (r:Option (Dx × ai)):Dx:=match r with|some x=>x.1|none=>n
def Vx (r:Option (Dx × ai)):ai:=match r with|some x=>x.2|none=>[]
def Av6 {n:Dx} {s:au} (h:At n=true) (hs:P9 s=true):At (Ah9 n s)=true:=by
 have hg:=Ax.1 h;have ht:=Hl hg.t;exact Ax.2 (((hg.src (Aui hg.s hs)).sp (fun p hp=>by rw [aL] at hp;subst hp;exact Avu (Ep.1 hg.s).1 hs) (Afv ht 0)))
def Aef {ck:Nat->Int} {i:Nat} {c:Int} (h:ck i=c):Afp ck i c=ck:=by
 funext j;unfold Afp;by_cases e:j=i
 ·rw [aH e,e,h]
 ·rw [aC e]
def At6 {e:Bj} {n:Int} {l:ar}:∀x∈Vg e n l,x∈l:=Abt
def An3 (r:A8) (p:As) (d:Int):(Dn r p d).Ai=r.Ai:=by
 unfold Dn
 split
 ·rfl
 ·split <;> rfl
def Are (e:Bj) (n f:Int):(N7 e n f).Ai=e.Ai:=by
 unfold N7
 split
 ·rfl
 ·split <;> rfl
def Arc (e:Bj) (n:Int):(Qn e n).Ai=e.Ai:=by unfold Qn;split <;> rfl
def Aqi {n:Dx} {i:Nat} {p:As} (h:At n=true) (h0:i≠0) (hi:i < n.Ap.Ad.length) (hp:Br p=true):At (C9 n i p).1=true:=by
 have hg:=Ax.1 h;have ht:=Hl hg.t;obtain ⟨h1,h2,h3,h4,r⟩:=hg.rn hi;have d0:1<=Nn i/\Nn i<=8:=by unfold Nn;omega
 have ee:Qf n i=n.Af[i]:=by unfold Qf;rw [bt,aE h1];rfl
 have er:Qt n i=n.Ac[i]:=by unfold Qt;rw [bt,aE h2];rfl
 have hps:∀q∈[p],Br q=true:=fun q hq=>by rw [aL] at hq;rw [hq];exact hp
 unfold C9;cases hl:Et n.Ap.Ad ((i:Nat):Int)
 ·rw [aC EZ];obtain ⟨he,e2, -⟩:=r.hn h0 hl;by_cases hk:p.Ct=2
  ·have:=(hg.el h0 hl (Aug (n:=p.Ae) he)).sp hps (nodes:=Vg n.Af[i] p.Ae (Z9 n i)) (fun x hx=>Afv ht i x (At6 x hx));rw [Aef (show (fun _=>n.Ab.Ai) i=(Qn n.Af[i] p.Ae).Ai by rw [Arc,e2])] at this;unfold Afj;rw [aH hk,aH hk,ee];exact Ax.2 this
  ·unfold Afj;rw [aC hk,aC hk];exact Ax.2 (hg.sp hps (Afv ht i))
 ·rw [aH rfl,er];obtain ⟨-,e2,e3⟩:=r.hf h0 hl;have:=hg.rc h0 hl (El.2 (Vi (d:=Nn i) (El.1 e2) hp d0.1 d0.2).1);rw [Aef (show (fun _=>n.Ab.Ai) i=(Dn n.Ac[i] p (Nn i)).Ai by rw [An3,e3])] at this;exact Ax.2 this
def Bei {n:Dx} {i:Nat} {p:As} (h:At n=true) (h0:i≠0) (hi:i < n.Ap.Ad.length) (hp:Br p=true) (hk:p.Ct=3):At (Qz n i p)=true:=by
 have hg:=Ax.1 h;have ht:=Hl hg.t;have hone:∀x∈[((i:Nat):Int)],x.toNat≠0:=fun x hx=>by rw [aL] at hx;subst hx;omega
 have h1:=ht.p i hi EY;have e:n.Ap.Ad.getD i 0=n.Ap.Ad[i]:=by rw [bt,aE hi];rfl
 obtain ⟨k,hkk⟩:∃k,Z0 n i=k:=⟨_,rfl⟩;have hk2:n.Ap.Ad[i]=((k:Nat):Int):=by unfold Z0 at hkk;rw [e] at hkk;omega
 unfold Qz;rw [hkk];by_cases hz:k=0
 ·rw [aH hz];have:=(hg.src (Ayf (n:=p.Ae) hg.s (Kz hp))).sp (Av2 (Ep.1 hg.s).1 hp hk) hone;refine Ax.2 ?_;rw [show (My n.Ab p.Ae).Ai=n.Ab.Ai by unfold My;split <;> rfl];exact this
 ·rw [aC hz];have hkl:k < n.Ap.Ad.length:=EY
  obtain ⟨r1,r2,r3,r4,r⟩:=hg.rn hkl;have ee:Qf n k=n.Af[k]:=by unfold Qf;rw [bt,aE r1];rfl
  have hl:Et n.Ap.Ad ((k:Nat):Int)=false:=by
   unfold Et;rw [<-hk2,av (aB hi)];rfl
  obtain ⟨he,e2, -⟩:=r.hn hz hl;rw [ee];have hf:Pj ((i:Nat):Int)=true:=Nt.2 ⟨EY,by have:=ht.n1;omega⟩;have:=(hg.el hz hl (Auh he (Ba.2 (Kz hp)) hf)).sp (nodes:=[((i:Nat):Int)]) (ps:=[Aat p]) (fun q hq=>by rw [aL] at hq;rw [hq];exact Axw hp) hone;rw [Aef (show (fun _=>n.Ab.Ai) k=(N7 n.Af[k] p.Ae ((i:Nat):Int)).Ai by rw [Are,e2])] at this;refine Ax.2 ?_
  split
  ·exact this.un k _ (fun e=>absurd e hz) fun q a b=>⟨Ad2 a fun x hx=>by rw [aL] at hx;rw [hx];exact hp,As0 b fun x hx=>by rw [aL] at hx;rw [hx];exact hk⟩
  ·exact this
def Mx {n:Dx} {s:Js} (h:At n=true):Fj (U1 n s)=true/\(Xz s=true->upQ (U1 n s)=true):=by
 have hg:=Ax.1 h;obtain ⟨q1,q2,q3,q4⟩:=Bn.1 hg.l;unfold U1;by_cases hi:s.node.toNat < n.Ap.Ad.length
 ·obtain ⟨h1,h2,h3,h4,r⟩:=hg.rn hi;cases Xz s
  ·rw [aC EZ,Qg h3];exact ⟨r.hd,fun e=>by cases e⟩
  ·rw [aH rfl,Qg h4];exact ⟨r.hu,fun _=>r.hk⟩
 ·have e:((if Xz s then n.up else n.down).getD s.node.toNat [])=[]:=by
   rw [bt,bp (by split <;> omega)];rfl
  rw [e];exact ⟨rfl,fun _=>rfl⟩
def Lz {n:Dx} {s:Js} (h:At n=true):At (Hb n s)=true:=by
 have hg:=Ax.1 h;unfold Hb
 split
 ·exact Ax.2 (hg.pu _)
 ·exact Ax.2 (hg.pd _)
def Pl {q:List As} (h:0 < q.length):Nw q∈q:=by rw [Yq h];exact aB _
def Np {q:List As} (h:Fj q=true) {p:As} (hp:p∈q):Br p=true:=by
 unfold Fj at h;rw [aw] at h;exact aW.1 h.2 p hp
def Beh {q:List As} (h:upQ q=true) {p:As} (hp:p∈q):p.Ct=3:=dv (aW.1 h p hp)
def App {n:Dx} {s:Js} {r:Dx × ai} (h:At n=true) (hn:Pj s.node=true) (hr:C6 n s=some r):At r.1=true:=by
 have hf:=Nt.1 hn;have hpg:=Lz (s:=s) h;have hq:=Mx (s:=s) h;have htl:(Hb n s).Ap=n.Ap:=JZ
 unfold C6 at hr
 split at hr
 ·cases hr
 ·rename_i h1
  split at hr
  ·cases hr
  ·rename_i h2;have hm:=Pl (q:=U1 n s) EY;have hpk:=Np hq.1 hm;have hi:s.node.toNat < (Hb n s).Ap.Ad.length:=by rw [htl];omega
   split at hr
   ·cases hr;exact Aqi hpg EY hi hpk
   ·split at hr
    ·rename_i h5;cases hr;exact Bei hpg EY hi hpk (Beh (hq.2 (by unfold Xz;rw [av h5];rfl)) hm)
    ·cases hr;exact hpg
def Yy {x:Cu} (h:Cp x=true):0<=x.Ai/\x.Ai<=9999:=by
 unfold Cp at h;simp only [aw] at h;exact Ns.1 h.1.1.2
def M0 {n:Dx} {s:Js} {r:Dx × ai} (h:At n=true) (hs:Dq s=true) (hr:Bo n s=some r):At r.1=true:=by
 unfold Bo at hr;unfold Dq at hs
 split at hr
 ·rename_i h1;rw [aH h1,aw] at hs;cases hr;exact Av6 h hs.2
 ·rename_i h1
  split at hr
  ·rename_i h4
   split at hr
   ·cases hr
   ·rename_i hc;cases hr;have:=Yy (Ax.1 h).s;exact Arv h EY
  ·rename_i h4;rw [aC h1,aC h4] at hs;simp only [aw] at hs;exact App h hs.1.2 hr
section
variable {c:Cx} {fr:Fr} {H:List Pc} {Φ:Gl}
end
def Bea (n:Dx) (s:Js) (g:Nat) (a1:aj) (c1:Nat) (F1:aq) (a2:aj) (c2:Nat) (F2:aq) (a3:aj) (c3:Nat) (F3:aq) (a4:aj) (c4:Nat) (F4:aq) (a5:aj) (c5:Nat) (F5:aq) (a6:aj) (c6:Nat) (F6:aq) (a7:aj) (c7:Nat) (F7:aq) (FT:aq) (hg:At n=true) (hf:Pj s.node=true) :
  Fn prog 153 [Gj g 0 0,.agg #[aa s.Ct,aa s.node,af s.data]] [Ga FT] [.row g 43 0 [] [ab a1 n.Ap.Ad.length c1,aa n.Ab.Aa.Am,aa n.Ab.Aa.size,ab a2 n.Ab.Aa.Al.length c2,aa n.Ab.Ai,aa n.Ab.quiet,ab a3 n.Ab.holds.length c3,ab a4 n.Af.length c4,ab a5 n.Ac.length c5,ab a6 n.down.length c6,ab a7 n.up.length c7] [],.ow Bc 3 (ab a1 n.Ap.Ad.length c1) n.Ap.Ad F1,.ow A9 9 (ab a2 n.Ab.Aa.Al.length c2) n.Ab.Aa.Al F2,.ow Bv 165 (ab a3 n.Ab.holds.length c3) n.Ab.holds F3,.ow Cc 111 (ab a4 n.Af.length c4) n.Af F4,.ow B4 118 (ab a5 n.Ac.length c5) n.Ac F5,.ow (J0 Ak 159) 120 (ab a6 n.down.length c6) n.down F6,.ow (J0 Ak 159) 120 (ab a7 n.up.length c7) n.up F7] (fun (_:NV × KA)=>True) (fun z=>.tuple #[.slice z.2.a (Vx (C6 n s)).length z.2.c,.bool (C6 n s).isSome]) (fun z=>[.row g 43 0 [] [ab z.1.a1 n.Ap.Ad.length z.1.c1,aa (Ic n (C6 n s)).Ab.Aa.Am,aa (Ic n (C6 n s)).Ab.Aa.size,.slice z.1.a2 (Ic n (C6 n s)).Ab.Aa.Al.length z.1.c2,aa (Ic n (C6 n s)).Ab.Ai,aa (Ic n (C6 n s)).Ab.quiet,.slice z.1.a3 (Ic n (C6 n s)).Ab.holds.length z.1.c3,ab z.1.a4 n.Af.length z.1.c4,ab z.1.a5 n.Ac.length z.1.c5,ab z.1.a6 n.down.length z.1.c6,ab z.1.a7 n.up.length z.1.c7] [],.ow Bc 3 (ab z.1.a1 n.Ap.Ad.length z.1.c1) (Ic n (C6 n s)).Ap.Ad z.1.F1,.ow A9 9 (.slice z.1.a2 (Ic n (C6 n s)).Ab.Aa.Al.length z.1.c2) (Ic n (C6 n s)).Ab.Aa.Al z.1.F2,.ow Bv 165 (.slice z.1.a3 (Ic n (C6 n s)).Ab.holds.length z.1.c3) (Ic n (C6 n s)).Ab.holds z.1.F3,.ow Cc 111 (ab z.1.a4 n.Af.length z.1.c4) (Ic n (C6 n s)).Af z.1.F4,.ow B4 118 (ab z.1.a5 n.Ac.length z.1.c5) (Ic n (C6 n s)).Ac z.1.F5,.ow (J0 Ak 159) 120 (ab z.1.a6 n.down.length z.1.c6) (Ic n (C6 n s)).down z.1.F6,.ow (J0 Ak 159) 120 (ab z.1.a7 n.up.length z.1.c7) (Ic n (C6 n s)).up z.1.F7,.ow A9 9 (.slice z.2.a (Vx (C6 n s)).length z.2.c) (Vx (C6 n s)) z.2.F]):=by
 have hG:=Ax.1 hg;have h8:=Hl hG.t;have hn8:=h8.n1;obtain ⟨q1,q2,q3,q4⟩:=Bn.1 hG.l;obtain ⟨f1,f2⟩:=Nt.1 hf;obtain ⟨i,hi⟩:∃i:Nat,s.node=((i:Nat):Int):=⟨s.node.toNat,EY⟩;have i0:i≠0:=EY
 refine enter func153 rfl ntmps153 fun w0=>?_;refine Bt A9 9 ?_;rw [hi];refine go ?_;intros;refine Ar [0,2] [] ?_;refine C4 0 1 2 3 ?_;refine C4 4 5 6 7 ?_;refine dt 8 ?_;refine dd ?_;refine go ?_;refine Ay rfl (fun h1=>?_) (fun h1=>?_)
 ·rw [show C6 n s=none by unfold C6;rw [aH EY]];exact EM
 have hil:i < n.Ap.Ad.length:=EY
 by_cases k5:s.Ct=5
 ·have hu:Xz s=true:=by unfold Xz;rw [av k5];rfl
  have hq:U1 n s=n.up[i]:=by unfold U1;rw [hu,aH rfl,hi,ba];exact Qg EY []
  have hpo:Hb n s=Pa n i:=IM
  have h6:n.up[i].length<=6:=by
   exact CY
  refine go ?_;refine Dd rfl rfl (fun g5=>?_) (fun g5=>?_)
  rotate_left
  ·exact absurd k5 g5
  refine go ?_;refine Be (Ahm n.up i a7 _ c7 F7 rfl EY h6) fun J _=>?_;by_cases h0:0 < n.up[i].length
  rotate_left
  ·exact BP
  have hmem:=Pl h0;have hpk:Br (Nw n.up[i])=true:=Np (hq▸(Mx (s:=s) hg).1) hmem;have hpz:(Nw n.up[i]).data.size<=maxLen:=by
   exact BH
  rw [av h0,show n.up.set i (n.up[i].drop 1)=(Pa n i).up from (In EY).symm];have hgm:At (Pa n i)=true:=hpo▸Lz hg;have hGm:=Ax.1 hgm;have hlm:n.up.length=(Pa n i).up.length:=(dD ..).symm;generalize hP:Nw n.up[i]=P at *;have htk:C6 n s=some (Qz (Pa n i) i P,[]):=by
   unfold C6;rw [aC EY,hq,aC EY,hpo,hP,hi,ba];rw [aC EY,aH k5]
  rw [htk];refine go ?_;intros;refine Ay rfl (fun k2=>?_) (fun k2=>?_)
  ·exact absurd k2 EY
  refine go ?_;refine Ay rfl (fun m5=>?_) (fun m5=>?_)
  rotate_left
  ·exact absurd k5 m5
  refine go ?_;rw [hlm];refine cf (Bbh (Pa n i) i P g a1 c1 F1 a2 c2 F2 a3 c3 F3 a4 c4 F4 a5 c5 F5 a6 c6 F6 a7 c7 J hGm.l i0 hil (Hl hGm.t) hGm.s (fun k hk hkl hl=>?_) hpk hpz) fun z _=>?_
  rotate_left
  ·refine Pp ?_;refine go ?_;refine ret (z,⟨0,none,0,[]⟩) trivial rfl
  ·obtain ⟨x1,x2,x3,x4,r⟩:=hGm.rn (i:=k) hkl;rw [J9 x1];exact (r.hn hk hl).1
 by_cases k6:s.Ct=6
 ·have hu:Xz s=true:=by unfold Xz;rw [av k6,gG]
  have hq:U1 n s=n.up[i]:=by unfold U1;rw [hu,aH rfl,hi,ba];exact Qg EY []
  have hpo:Hb n s=Pa n i:=IM
  have h6:n.up[i].length<=6:=by
   exact CY
  refine go ?_;refine Dd rfl rfl (fun g5=>?_) (fun g5=>?_)
  ·exact absurd g5 EY
  refine go ?_;refine Ay rfl (fun g6=>?_) (fun g6=>?_)
  rotate_left
  ·exact absurd k6 g6
  refine go ?_;refine Be (Ahm n.up i a7 _ c7 F7 rfl EY h6) fun J _=>?_;by_cases h0:0 < n.up[i].length
  rotate_left
  ·exact BP
  have hmem:=Pl h0;have hpk:Br (Nw n.up[i])=true:=Np (hq▸(Mx (s:=s) hg).1) hmem;have hpz:(Nw n.up[i]).data.size<=maxLen:=by
   exact BH
  rw [av h0,show n.up.set i (n.up[i].drop 1)=(Pa n i).up from (In EY).symm];have hgm:At (Pa n i)=true:=hpo▸Lz hg;have hGm:=Ax.1 hgm;have hlm:n.up.length=(Pa n i).up.length:=(dD ..).symm;generalize hP:Nw n.up[i]=P at *;have htk:C6 n s=some (Pa n i,[]):=by
   unfold C6;rw [aC EY,hq,aC EY,hpo,hP,hi,ba];rw [aC EY,aC EY]
  rw [htk];refine go ?_;intros;refine Ay rfl (fun k2=>?_) (fun k2=>?_)
  ·exact absurd k2 EY
  refine go ?_;refine Ay rfl (fun m5=>?_) (fun m5=>?_)
  ·exact absurd m5 EY
  refine go ?_;refine ret (⟨a1,c1,F1,a2,c2,F2,a3,c3,F3,a4,c4,F4,a5,c5,F5,a6,c6,F6,a7,c7,J⟩,⟨0,none,0,[]⟩) trivial rfl
 ·have hu:Xz s=false:=by unfold Xz;rw [ay k5,ay k6];rfl
  have hq:U1 n s=n.down[i]:=by unfold U1;rw [hu,aC EZ,hi,ba];exact Qg EY []
  have hpo:Hb n s=Q9 n i:=by unfold Hb;rw [hu,aC EZ,hi,ba]
  have h6:n.down[i].length<=6:=by
   exact CY
  refine go ?_;refine Dd rfl rfl (fun g5=>?_) (fun g5=>?_)
  ·exact absurd g5 k5
  refine go ?_;refine Ay rfl (fun g6=>?_) (fun g6=>?_)
  ·exact absurd g6 k6
  refine go ?_;refine Be (Ahm n.down i a6 _ c6 F6 rfl EY h6) fun J _=>?_;by_cases h0:0 < n.down[i].length
  rotate_left
  ·have hz:n.down[i]=[]:=bu.1 EY;rw [show C6 n s=none by unfold C6;rw [aC EY,hq,aH EY],ay h0,show n.down.set i (n.down[i].drop 1)=n.down by rw [hz,gz];rw [<-hz,bv]];refine go ?_;intros;refine ret (⟨a1,c1,F1,a2,c2,F2,a3,c3,F3,a4,c4,F4,a5,c5,F5,a6,c6,J,a7,c7,F7⟩,⟨0,none,0,[]⟩) trivial rfl
  have hmem:=Pl h0;have hpk:Br (Nw n.down[i])=true:=Np (hq▸(Mx (s:=s) hg).1) hmem;have hpz:(Nw n.down[i]).data.size<=maxLen:=by
   exact BH
  rw [av h0,show n.down.set i (n.down[i].drop 1)=(Q9 n i).down from (In EY).symm];have hgm:At (Q9 n i)=true:=hpo▸Lz hg;have hGm:=Ax.1 hgm;have hlm:n.down.length=(Q9 n i).down.length:=(dD ..).symm;generalize hP:Nw n.down[i]=P at *;have htk:C6 n s=if s.Ct=2 then some (C9 (Q9 n i) i P) else some (Q9 n i,[]):=by
   unfold C6;rw [aC EY,hq,aC EY,hpo,hP,hi,ba]
   split
   ·rfl
   ·first|rfl|rw [aC k5]
  rw [htk];refine go ?_;intros;refine Ay rfl (fun k2=>?_) (fun k2=>?_)
  ·rw [aH k2];refine go ?_;rw [hlm];refine cf (At1 (Q9 n i) i P g a1 c1 F1 a2 c2 F2 a3 c3 F3 a4 c4 F4 a5 c5 F5 a6 c6 J a7 c7 F7 FT hGm.l hil (Hl hGm.t) (fun hl=>?_) (fun hl=>?_) hpk hpz) fun z _=>?_
   rotate_left
   rotate_left
   ·refine Pp ?_;refine go ?_;refine ret (z.1,z.2) trivial rfl
   ·obtain ⟨x1,x2,x3,x4,r⟩:=hGm.rn (i:=i) hil;rw [Hf x2];exact (r.hf i0 hl).2.1
   ·obtain ⟨x1,x2,x3,x4,r⟩:=hGm.rn (i:=i) hil;rw [J9 x1];exact (r.hn i0 hl).1
  ·rw [aC k2];refine go ?_;refine Ay rfl (fun m5=>?_) (fun m5=>?_)
   ·exact absurd m5 k5
   refine go ?_;refine ret (⟨a1,c1,F1,a2,c2,F2,a3,c3,F3,a4,c4,F4,a5,c5,F5,a6,c6,J,a7,c7,F7⟩,⟨0,none,0,[]⟩) trivial rfl
def Bgt (n:Dx) (s:Js) (g:Nat) (a1:aj) (c1:Nat) (F1:aq) (a2:aj) (c2:Nat) (F2:aq) (a3:aj) (c3:Nat) (F3:aq) (a4:aj) (c4:Nat) (F4:aq) (a5:aj) (c5:Nat) (F5:aq) (a6:aj) (c6:Nat) (F6:aq) (a7:aj) (c7:Nat) (F7:aq) (FT:aq) (hg:At n=true) (hs:Dq s=true) (hss:s.data.size<=maxLen) :
  Fn prog 97 [Gj g 0 0,.agg #[aa s.Ct,aa s.node,af s.data]] [Ga FT] [.row g 43 0 [] [ab a1 n.Ap.Ad.length c1,aa n.Ab.Aa.Am,aa n.Ab.Aa.size,ab a2 n.Ab.Aa.Al.length c2,aa n.Ab.Ai,aa n.Ab.quiet,ab a3 n.Ab.holds.length c3,ab a4 n.Af.length c4,ab a5 n.Ac.length c5,ab a6 n.down.length c6,ab a7 n.up.length c7] [],.ow Bc 3 (ab a1 n.Ap.Ad.length c1) n.Ap.Ad F1,.ow A9 9 (ab a2 n.Ab.Aa.Al.length c2) n.Ab.Aa.Al F2,.ow Bv 165 (ab a3 n.Ab.holds.length c3) n.Ab.holds F3,.ow Cc 111 (ab a4 n.Af.length c4) n.Af F4,.ow B4 118 (ab a5 n.Ac.length c5) n.Ac F5,.ow (J0 Ak 159) 120 (ab a6 n.down.length c6) n.down F6,.ow (J0 Ak 159) 120 (ab a7 n.up.length c7) n.up F7] (fun (_:NV × KA)=>True) (fun z=>.tuple #[.slice z.2.a (Vx (Bo n s)).length z.2.c,.bool (Bo n s).isSome]) (fun z=>[.row g 43 0 [] [ab z.1.a1 n.Ap.Ad.length z.1.c1,aa (Ic n (Bo n s)).Ab.Aa.Am,aa (Ic n (Bo n s)).Ab.Aa.size,.slice z.1.a2 (Ic n (Bo n s)).Ab.Aa.Al.length z.1.c2,aa (Ic n (Bo n s)).Ab.Ai,aa (Ic n (Bo n s)).Ab.quiet,.slice z.1.a3 (Ic n (Bo n s)).Ab.holds.length z.1.c3,ab z.1.a4 n.Af.length z.1.c4,ab z.1.a5 n.Ac.length z.1.c5,ab z.1.a6 n.down.length z.1.c6,ab z.1.a7 n.up.length z.1.c7] [],.ow Bc 3 (ab z.1.a1 n.Ap.Ad.length z.1.c1) (Ic n (Bo n s)).Ap.Ad z.1.F1,.ow A9 9 (.slice z.1.a2 (Ic n (Bo n s)).Ab.Aa.Al.length z.1.c2) (Ic n (Bo n s)).Ab.Aa.Al z.1.F2,.ow Bv 165 (.slice z.1.a3 (Ic n (Bo n s)).Ab.holds.length z.1.c3) (Ic n (Bo n s)).Ab.holds z.1.F3,.ow Cc 111 (ab z.1.a4 n.Af.length z.1.c4) (Ic n (Bo n s)).Af z.1.F4,.ow B4 118 (ab z.1.a5 n.Ac.length z.1.c5) (Ic n (Bo n s)).Ac z.1.F5,.ow (J0 Ak 159) 120 (ab z.1.a6 n.down.length z.1.c6) (Ic n (Bo n s)).down z.1.F6,.ow (J0 Ak 159) 120 (ab z.1.a7 n.up.length z.1.c7) (Ic n (Bo n s)).up z.1.F7,.ow A9 9 (.slice z.2.a (Vx (Bo n s)).length z.2.c) (Vx (Bo n s)) z.2.F]):=by
 have hG:=Ax.1 hg;have h8:=Hl hG.t;have hn8:=h8.n1;have hn2:=h8.n0;obtain ⟨q1,q2,q3,q4⟩:=Bn.1 hG.l;have hS:=Kk hG.s;obtain ⟨-,⟨hz1, -⟩, -, -⟩:=Du.1 hS.w;have hkl:=Vp n.Ap.Ad 0;have hkx:∀x∈I0 n.Ap.Ad 0,0<=x/\x.toNat < n.down.length:=fun x hx=>by have:=Lv (i:=0) h8 hx;omega
 refine enter func97 rfl ntmps97 fun w0=>?_;refine Bt A9 9 ?_;refine go ?_;intros;rename_i gs;refine Ay rfl (fun h1=>?_) (fun h1=>?_)
 ·rw [show Bo n s=some (Ah9 n s.data,[]) by unfold Bo;rw [aH h1]];refine go ?_;refine dsI [.cel g 0 [ab a1 n.Ap.Ad.length c1],.row gs 91 0 [] [aa s.Ct,aa s.node,af s.data] []] [] ?_;refine dtI 0 (fun w h=>Vj (Ij (h (.row g _ 0 [] _ []) FD)) (h _ FD)) ?_;refine dtI 1 (fun w h=>Vj (Ij (h (.row g _ 0 [] _ []) FD)) (h _ FD)) ?_;refine dtI 2 (fun w h=>Vj (Ij (h (.row g _ 0 [] _ []) FD)) (h _ FD)) ?_;refine dtI 3 (fun w h=>Vj (Ij (h (.row g _ 0 [] _ []) FD)) (h _ FD)) ?_
  refine dtI 4 (fun w h=>Vj (Ij (h (.row g _ 0 [] _ []) FD)) (h _ FD)) ?_;refine dtI 6 (fun w h=>Vj (Ij (h (.row g _ 0 [] _ []) FD)) (h _ FD)) ?_;refine dtI 7 (fun w h=>Vj (Ij (h (.row g _ 0 [] _ []) FD)) (h _ FD)) ?_;refine dtI 8 (fun w h=>Vj (Ij (h (.row g _ 0 [] _ []) FD)) (h _ FD)) ?_;refine dtI 9 (fun w h=>Vj (Ij (h (.row g _ 0 [] _ []) FD)) (h _ FD)) ?_;refine dtI 10 (fun w h=>Vj (Ij (h (.row g _ 0 [] _ []) FD)) (h _ FD)) ?_;refine dN 5 ?_;refine oC ?_
  refine cfr (fun w st=>by obtain ⟨Fq,hq⟩:=Ahx (st.get (p:=.ow Bc 3 (ab a1 n.Ap.Ad.length c1) n.Ap.Ad F1) FD);exact ⟨_,I6 hq,rfl,Aas n.Ap 0 _ Fq JR⟩) (fun u _=>?_);refine Pp ?_;refine Av (E:=Bc) (xs:=I0 n.Ap.Ad 0) fun Fk=>?_;refine dkI (fun w h=>Vj (Ij (h (.row g _ 0 [] _ []) FD)) (h _ FD)) ?_;refine dN 11 ?_;refine oC ?_
  refine Be (Ayc (X:=[ab a1 n.Ap.Ad.length c1]) (cs:=[aa n.Ab.Aa.Am,aa n.Ab.Aa.size,ab a2 n.Ab.Aa.Al.length c2,aa n.Ab.Ai,aa n.Ab.quiet,ab a3 n.Ab.holds.length c3]) (Y:=[ab a4 n.Af.length c4,ab a5 n.Ac.length c5,ab a6 n.down.length c6,ab a7 n.up.length c7]) (L:=[ab a1 n.Ap.Ad.length c1,aa n.Ab.Aa.Am,aa n.Ab.Aa.size,ab a2 n.Ab.Aa.Al.length c2,aa n.Ab.Ai,aa n.Ab.quiet,ab a3 n.Ab.holds.length c3,ab a4 n.Af.length c4,ab a5 n.Ac.length c5,ab a6 n.down.length c6,ab a7 n.up.length c7]) (L':=fun z:SeS=>[ab a1 n.Ap.Ad.length c1,aa (Di n.Ab.Aa s.data).Am,aa (Di n.Ab.Aa s.data).size,.slice z.a (Di n.Ab.Aa s.data).Al.length z.c,aa n.Ab.Ai,aa 0,.slice z.a2 (Oe (Di n.Ab.Aa s.data) n.Ab.holds).length z.c2,ab a4 n.Af.length c4,ab a5 n.Ac.length c5,ab a6 n.down.length c6,ab a7 n.up.length c7]) (cs':=fun z:SeS=>[aa (Di n.Ab.Aa s.data).Am,aa (Di n.Ab.Aa s.data).size,.slice z.a (Di n.Ab.Aa s.data).Al.length z.c,aa n.Ab.Ai,aa 0,.slice z.a2 (Oe (Di n.Ab.Aa s.data) n.Ab.holds).length z.c2]) (Bb8 n.Ab.Aa s.data n.Ab.holds g 43 (0+1) _ _ a2 a3 c2 c3 n.Ab.Ai n.Ab.quiet F2 F3 hS.l hS.t0 hS.t1 hss hz1 hS.n) rfl rfl (fun _=>rfl)) fun z _=>?_
  refine dkI (fun w h=>Vj (Ij (h (.row g _ 0 [] _ []) FD)) (h _ FD)) ?_;refine dN 12 ?_;apply I1;rfl;rfl;rfl;rfl;exact Iy;exact Ir;intro _;refine Dy (E:=Ak) (xs:=[Dz n.Ab.Aa s.data]) (De (Dz n.Ab.Aa s.data) hss) ?_ FA;refine Av (E:=Ak) (xs:=[Dz n.Ab.Aa s.data]) fun Fp=>?_;refine dkI (fun w h=>Vj (Ij (h (.row g _ 0 [] _ []) FD)) (h _ FD)) ?_;refine dN 13 ?_;refine oC ?_;refine Be (Aau n.down (I0 n.Ap.Ad 0) [Dz n.Ab.Aa s.data] g _ _ _ _ _ _ _ _ _ _ a6 _ c6 F6 _ _ Fk _ _ Fp rfl hkx) fun J6 _=>?_
  refine dkI (fun w h=>Vj (Ij (h (.row g _ 0 [] _ []) FD)) (h _ FD)) ?_;refine dd ?_;refine go ?_;refine ret (⟨a1,c1,F1,z.a,z.c,z.F,z.a2,z.c2,z.F2,a4,c4,F4,a5,c5,F5,a6,c6,J6,a7,c7,F7⟩,⟨0,none,0,[]⟩) trivial rfl
 refine go ?_;refine Ay rfl (fun h4=>?_) (fun h4=>?_)
 ·refine go ?_;refine Ay rfl (fun hc=>?_) (fun hc=>?_)
  ·rw [show Bo n s=none by unfold Bo;rw [aC h1,aH h4,aH hc]];exact EM
  ·rw [show Bo n s=some (Gw n) by unfold Bo;rw [aC h1,aH h4,aC hc]];have hck:=Yy hG.s;refine go ?_;refine Be (Bb3 n g a1 c1 F1 a2 c2 F2 a3 c3 F3 a4 c4 F4 a5 c5 F5 a6 c6 F6 a7 c7 F7 FT hg EY) fun z _=>?_;refine go ?_;refine ret (z.1,z.2) trivial rfl
 ·rw [show Bo n s=C6 n s by unfold Bo;rw [aC h1,aC h4]];have hf:Pj s.node=true:=by
   unfold Dq at hs;rw [aC h1,aC h4] at hs;simp only [aw] at hs;exact hs.1.2
  refine go ?_;refine Be (Bea n s g a1 c1 F1 a2 c2 F2 a3 c3 F3 a4 c4 F4 a5 c5 F5 a6 c6 F6 a7 c7 F7 FT hg hf) fun z _=>?_;refine go ?_;refine ret (z.1,z.2) trivial rfl
def Aiy (s:Js) (hss:s.data.size<=maxLen):FV 96 [.agg #[aa s.Ct,aa s.node,af s.data]] [] (.bool (Dq s)):=by
 refine enter func96 rfl ntmps96 fun w0=>?_;refine go ?_;intros;refine Ay rfl (fun h1=>?_) (fun h1=>?_)
 ·rw [show Dq s=(decide (s.node=0) && P9 s.data) by unfold Dq;rw [aH h1]];refine go ?_;refine Dd rfl rfl (fun h2=>?_) (fun h2=>?_)
  ·refine go ?_;refine cb (fun w st=>Ab0 s.data w hss) ?_;exact DS
  ·exact DR
 refine go ?_;refine Ay rfl (fun h4=>?_) (fun h4=>?_)
 ·rw [show Dq s=(decide (s.node=0) && decide (s.data=⟨#[]⟩)) by unfold Dq;rw [aC h1,aH h4]];refine go ?_;refine Dd rfl rfl (fun h2=>?_) (fun h2=>?_)
  ·exact DS
  ·exact DR
 rw [show Dq s=(Ff 1 s.Ct 6 && Pj s.node && decide (s.data=⟨#[]⟩)) by unfold Dq;rw [aC h1,aC h4]];refine go ?_;refine Ay rfl (fun k2=>?_) (fun k2=>?_)
 ·refine go ?_;refine Ay rfl (fun _=>?_) (fun hx=>absurd k2 hx);refine go ?_;refine ce (fun w st=>Vk s.node _) ?_;cases g5:Pj s.node
  ·exact DQ
  ·exact BY
 ·refine go ?_;refine Ay rfl (fun k3=>?_) (fun k3=>?_)
  ·refine go ?_;refine Ay rfl (fun _=>?_) (fun hx=>absurd k3 hx);refine go ?_;refine ce (fun w st=>Vk s.node _) ?_;cases g5:Pj s.node
   ·exact DQ
   ·exact BY
  ·refine go ?_;refine Ay rfl (fun k5=>?_) (fun k5=>?_)
   ·refine go ?_;refine Ay rfl (fun _=>?_) (fun hx=>absurd k5 hx);refine go ?_;refine ce (fun w st=>Vk s.node _) ?_;cases g5:Pj s.node
    ·exact DQ
    ·exact BY
   ·refine go ?_;refine Ay rfl (fun k6=>?_) (fun k6=>?_)
    ·refine go ?_;refine ce (fun w st=>Vk s.node _) ?_;cases g5:Pj s.node
     ·exact DQ
     ·exact BY
    ·refine go ?_;refine ret () trivial ?_;rw [show Ff 1 s.Ct 6=false by unfold Ff;simp;omega];rfl
def Rh:Dx:=⟨⟨[]⟩,Ap4,[],[],[],[]⟩
def If {n:Dx} (h:At n=true):(∀x∈n.Af,Bb x=true)/\(∀x∈n.Ac,Bw x=true)/\(∀q∈n.down,Fj q=true)/\∀q∈n.up,Fj q=true:=by
 have hG:=Ax.1 h;obtain ⟨q1,q2,q3,q4⟩:=Bn.1 hG.l;refine ⟨fun x hx=>?_,fun x hx=>?_,fun x hx=>?_,fun x hx=>?_⟩
 all_goals
  obtain ⟨i,hi,rfl⟩:=bl hx;obtain ⟨h1,h2,h3,h4,r⟩:=hG.rn (i:=i) EY
 ·by_cases e:i=0
  ·exact Wm (r.hz e).1
  ·cases l:Et n.Ap.Ad ((i:Nat):Int)
   ·exact (r.hn e l).1
   ·exact Wm (r.hf e l).1
 ·by_cases e:i=0
  ·exact Wn (r.hz e).2.1
  ·cases l:Et n.Ap.Ad ((i:Nat):Int)
   ·exact Wn (r.hn e l).2.2
   ·exact (r.hf e l).2.1
 ·exact r.hd
 ·exact r.hu
def C8 {q:List As} (h:Fj q=true):q.length<=6/\∀p∈q,Br p=true:=by
 unfold Fj at h;simpa [aW] using h
def Ku {n:Dx} (h:At n=true):Q0 n:=by
 have hG:=Ax.1 h;have h8:=(Hl hG.t).n1;obtain ⟨q1,q2,q3,q4⟩:=Bn.1 hG.l;have hS:=Kk hG.s;have hl:=hS.l;have hm:=hS.m;obtain ⟨e1,e2,e3,e4⟩:=If h;refine ⟨EY,EY,EY,EY,fun x hx=>?_,fun x hx y hy=>?_,EY,fun x hx=>⟨?_,?_⟩,EY,fun q hq=>?_,EY,fun q hq=>?_⟩
 ·have:=(Hp.1 (e1 x hx)).2.1;omega
 ·have:=(Vh (e1 x hx)).2.2 y hy;omega
 ·have:=(Lc (El.1 (e2 x hx)).w).1;omega
 ·have:=(Dj.1 (El.1 (e2 x hx)).q).2.1;omega
 ·have:=(C8 (e3 q hq)).1;omega
 ·have:=(C8 (e4 q hq)).1;omega
def Afc (n:Dx):∀k,(Bf n k).1.Ap=n.Ap
 | 0=>rfl
 | k+1=>(Ain _ _).1.trans (Afc n k)
def Ts {n:Dx} {s:Js} {r:Dx × ai} (hr:Bo n s=some r):r.1.Ap=n.Ap:=by
 have hd:∀(n:Dx) i p,(C9 n i p).1.Ap=n.Ap:=fun n i p=>by unfold C9;split <;> rfl
 have hu:∀(n:Dx) i p,(Qz n i p).Ap=n.Ap:=fun n i p=>by unfold Qz;split <;> rfl
 have hp:(Hb n s).Ap=n.Ap:=JZ
 unfold Bo C6 at hr
 split at hr
 ·cases hr;rfl
 split at hr
 ·split at hr
  ·cases hr
  ·cases hr;exact Afc n _
 split at hr
 ·cases hr
 split at hr
 ·cases hr
 split at hr
 ·cases hr;exact (hd _ _ _).trans hp
 split at hr
 ·cases hr;exact (hu _ _ _).trans hp
 ·cases hr;exact hp
def Bc9 {n m:Dx} (h1:At n=true) (h2:At m=true) (h:m.Ap=n.Ap):n.Ap.Ad.length=m.Ap.Ad.length/\n.Af.length=m.Af.length/\n.Ac.length=m.Ac.length/\n.down.length=m.down.length/\n.up.length=m.up.length:=by
 obtain ⟨p1,p2,p3,p4⟩:=Bn.1 (Ax.1 h1).l;obtain ⟨q1,q2,q3,q4⟩:=Bn.1 (Ax.1 h2).l;rw [h] at q1 q2 q3 q4;exact ⟨by rw [h],EY,EY,EY,EY⟩
def Bm (n:Dx) (s:Js):Dx × ai × Bool:=if At n && Dq s then (match Bo n s with
 | some r=>(r.1,r.2,true)
 | none=>(Rh,[],false)) else (Rh,[],false)
def okQ (up:Bool) (p:As):Bool:=Br p && (!up || decide (p.Ct=3))
def Asw (up:Bool) (l:List As):(l.all (okQ up) && decide (l.length<=6))=(Fj l && (!up || upQ l)):=by
 have h:l.all (okQ up)=(l.all Br && (!up || upQ l)):=by
  unfold upQ okQ
  induction l with
  | nil=>cases up <;> rfl
  | cons p l ih =>
   simp only [dV,ih];cases Br p <;> cases up <;> cases decide (p.Ct=3) <;> cases l.all Br <;> simp
 rw [h];unfold Fj;cases decide (l.length<=6) <;> cases l.all Br <;> simp
def Azl {up:Bool} {l:List As} {k:Nat} (h:k < l.length) (hp:okQ up l[k]=false):(Fj l && (!up || upQ l))=false:=by
 rw [<-Asw,show l.all (okQ up)=false from cS.2 ⟨l[k],aB h,HK⟩];rfl
def Ahd (l:List As) (up:Bool) (a:aj) (c:Nat) (F:aq) (hl:l.length<=9223372036854775807):FV 200 [ab a l.length c,.bool up] [.sl Ak (ab a l.length c) l F] (.bool (Fj l && (!up || upQ l))):=by
 refine enter func200 rfl ntmps200 fun w0=>?_;refine go ?_;refine Dl [0,1,4] (fun k:Nat=>[(5,aa (k:Nat))]) (fun k=>k<=l.length/\∀j,j < k->∀h:j < l.length,okQ up l[j]=true) (fun k=>l.length - k) 0 ⟨aD _,fun j h=>by omega⟩ fun k hk=>?_;obtain ⟨hk1,hk2⟩:=hk;refine go ?_;refine Ay rfl (fun h1=>?_) (fun h1=>?_)
 ·have hh:k < l.length:=EY
  refine Pf (xs:=l) k ?_;rintro hi b o e1 s1;rw [e1];refine go ?_;refine Be (Aoh l[k] s1) fun _ _=>?_;cases g:Br l[k]
  ·rw [Azl hh (by unfold okQ;rw [g];rfl)];exact AA
  cases up
  ·refine go ?_;refine Ce (k+1) ⟨hh,fun j hj h=>?_⟩ GR;rcases be (bA.1 hj) with h'|rfl
   ·exact hk2 j h' h
   ·unfold okQ;rw [g];rfl
  ·refine go ?_;refine Ay rfl (fun h3=>?_) (fun h3=>?_)
   ·rw [Azl hh (by unfold okQ;rw [g,ay h3];rfl)];exact AA
   ·refine go ?_;refine Ce (k+1) ⟨hh,fun j hj h=>?_⟩ GR;rcases be (bA.1 hj) with h'|rfl
    ·exact hk2 j h' h
    ·unfold okQ;rw [g,av EY];rfl
 ·obtain rfl:k=l.length:=EY
  refine go ?_;refine ret () trivial ?_;rw [<-Asw,show l.all (okQ up)=true from aW.2 fun p hp=>by obtain ⟨j,hj,rfl⟩:=bl hp;exact hk2 j hj hj,bQ];by_cases h6:l.length<=6
  ·rw [av h6,av EY];rfl
  ·rw [ay h6,ay EY];rfl
def Xr (e:Bj) (v:Value) (F:aq):FV 192 [v] [.isv Bz v e F] (.bool (M7 e)):=by
 refine enter func192 rfl ntmps192 fun w0=>?_;refine Ee ?_;rintro a1 c1 F1 rfl l1;refine go ?_;intros;refine Dd rfl rfl (fun h1=>?_) (fun h1=>?_)
 ·refine go ?_;refine ret () trivial ?_;unfold M7;rw [av h1,bQ];by_cases h:e.Ah.length=0
  ·rw [av h,av EY];rfl
  ·rw [ay h,ay EY];rfl
 ·refine go ?_;refine ret () trivial ?_;unfold M7;rw [ay h1];rfl
def Bf4 (p:As) (hs:p.data.size<=maxLen):FV 246 [.agg #[aa (p).Ct,aa (p).Ae,aa (p).Am,aa (p).Es,af (p).data]] [] (.bool (!Br p)):=by
 refine enter func246 rfl ntmps246 fun w0=>?_;refine go ?_;intros;refine Be (Xn p hs) fun _ _=>?_;exact AA
def Aj7 (l:List As) (a:aj) (c:Nat) (F:aq):FV 189 [ab a l.length c] [.sl Ak (ab a l.length c) l F] (.bool (Fj l)):=by
 refine enter func189 rfl ntmps189 fun w0=>?_;refine Amm (E:=Ak) (fun p:As=>p.data.size<=maxLen) (fun w cs x F h=>by obtain ⟨_,h,_⟩:=h;exact h) ?_;intro hz;refine go ?_;refine Dd rfl rfl (fun h1=>?_) (fun h1=>?_)
 ·refine go ?_;refine cb (fun w st=>(Ar8 246 [] [] [] rfl l a c F (fun p=>!Br p) FB EY (fun p hp w _=>(Bf4 p (hz p hp)).val w (by intro q hq;cases hq))).val w (I6 (st.get (p:=.sl _ _ _ _) FD))) ?_;refine go ?_;refine ret () trivial ?_;unfold Fj;rw [av (show l.length<=6 by omega),ew];simp;rfl
 ·refine go ?_;refine ret () trivial ?_;unfold Fj;rw [ay (show ¬l.length<=6 by omega)];rfl
def Vl (r:A8) (v:Value) (F:aq):FV 193 [v] [.isv Cb v r F] (.bool (Uf r)):=by
 have key:∀b:Bool,(b=(!r.Bg && decide (r.Ai=0) && (decide (r.Aa.next=0) && decide (r.Aa.Ao.length=0) && decide (r.An.length=0))))->b=Uf r:=fun b h=>h;refine enter func193 rfl ntmps193 fun w0=>?_;refine Fm ?_;rintro a1 c1 F1 a2 c2 F2 rfl l1 l2;unfold maxLen at l1 l2;cases hs:r.Bg <;> rw [hs] at key
 ·refine go ?_;intros;refine Dd rfl rfl (fun h1=>?_) (fun h1=>?_)
  ·refine go ?_;refine Dd rfl rfl (fun h2=>?_) (fun h2=>?_)
   ·refine go ?_;refine Dd rfl rfl (fun h3=>?_) (fun h3=>?_)
    ·refine go ?_;refine ret () trivial ?_;rw [<-key (decide ((r.An.length:Int)=0)) (by simp [h1,h2,show r.Aa.Ao.length=0 by omega])];rfl
    ·refine go ?_;refine ret () trivial ?_;rw [<-key false (by simp [show ¬r.Aa.Ao=[] from fun e=>h3 (by rw [e];rfl)])];rfl
   ·refine go ?_;refine ret () trivial ?_;rw [<-key false (by simp [h2])];rfl
  ·refine go ?_;refine ret () trivial ?_;rw [<-key false (by simp [h1])];rfl
 ·refine go ?_;intros;refine ret () trivial ?_;rw [<-key false FA];rfl
def Bf3 (p:As):FV 191 [.agg #[aa (p).Ct,aa (p).Ae,aa (p).Am,aa (p).Es,af (p).data]] [] (.bool (!decide (p.Ct=3))):=by
 refine enter func191 rfl ntmps191 fun w0=>?_;refine go ?_;intros;refine ret () trivial ?_;rw [<-decide_not];rfl
def Beg (l:List As):(l.any fun p=>!decide (p.Ct=3)) = !upQ l:=by
 unfold upQ;rw [eu]
def Aso {α:Type} (l:List α):decide ((l.length:Int)=0)=decide (l.length=0):=by
 by_cases h:l.length=0
 ·rw [av h,av EY]
 ·rw [ay h,ay EY]
def Az9 {par:ar} {clk:Int} {i:Nat} {e:Bj} {r:A8} {d u:List As} (h:(Fj d && Fj u && upQ u)=false):Rb par clk i e r d u=false:=by unfold Rb;rw [h];rfl
def Bgn {par:ar} {clk:Int} {i:Nat} {e:Bj} {r:A8} {d u:List As} (h:(Fj d && Fj u && upQ u)=true):Rb par clk i e r d u=(if i=0 then M7 e && Uf r && decide (d.length=0) && decide (u.length=0)
  else if Et par i then M7 e && Bw r && decide (r.Ai=clk) else Bb e && decide (e.Ai=clk) && Uf r):=by unfold Rb;rw [h,bQ]
def Ai5 (n:Dx) (i:Nat) (v:Value) (F:aq) (hl:Lx n=true) (hi:i < n.Ap.Ad.length):FV 118 [v,aa (i:Nat)] [.isv Pe v n F] (.bool (Tv n i)):=by
 obtain ⟨q1,q2,q3,q4⟩:=Bn.1 hl;rw [Vc EY EY EY EY];refine enter func118 rfl ntmps118 fun w0=>?_;refine Fg ?_;rintro a1 c1 F1 a2 c2 F2 a3 c3 F3 a4 c4 F4 a5 c5 F5 a6 c6 F6 a7 c7 F7 rfl l1 l2 l3 l4 l5 l6 l7;unfold maxLen at l1 l2 l3 l4 l5 l6 l7;refine Jm n.Ap ?_;refine Oo (xs:=n.Af) i ?_;rintro hi4 b4 o4 a8 c8 F8 rfl l8;refine E5 n.Af[i] ?_;refine Jl (xs:=n.Ac) i ?_;rintro hi5 b5 o5 a9 c9 F9 a10 c10 F10 rfl l9 l10;refine D5 n.Ac[i] ?_;refine Ms (E:=Ak) (hz:=EZ) (xs:=n.down) i ?_;rintro hi6 b6 o6 a11 c11 F11 rfl l11
 refine Ms (E:=Ak) (hz:=EZ) (xs:=n.up) i ?_;rintro hi7 b7 o7 a12 c12 F12 rfl l12;unfold maxLen at l8 l9 l10 l11 l12;refine go ?_;intros;refine Dv [1,2,4] [0,1,2,3,4,5,6,7,8,9,10,11,12,13,14,15,16,17,18,19,20] (fun z:Nat × Nat=>[(5,Gj z.1 0 0),(6,Gj z.2 0 0)]) (fun z=>[.row z.1 111 0 [] [aa n.Af[i].Ai,.slice a8 n.Af[i].Ah.length c8] [],.row z.2 118 0 [] [.bool n.Ac[i].Bg,aa n.Ac[i].Ai,aa n.Ac[i].Aa.next,.slice a9 n.Ac[i].Aa.Ao.length c9,.slice a10 n.Ac[i].An.length c10] []]) (fun _=>True) ?_ fun z _=>?_
 ·refine Ar [0,6,10] [] ?_;refine C4 0 1 2 3 ?_;refine C4 4 5 6 7 ?_;refine Dh 8 9 ?_;refine dM 10 11 ?_ ?_
  ·apply Cn;rfl;intro _;refine dk ?_;refine dN 11 ?_;exact AR
  ·apply Cn;rfl;intro _;refine dk ?_;refine dN 10 ?_;exact AR
 refine go ?_;refine Be (Aj7 n.down[i] _ _ F11) fun _ _=>?_;cases g1:Fj n.down[i]
 ·rw [Az9 (by rw [g1];rfl)];exact AA
 refine go ?_;refine Be (Aj7 n.up[i] _ _ F12) fun _ _=>?_;cases g2:Fj n.up[i]
 ·rw [Az9 (by rw [g1,g2];rfl)];exact AA
 have u6:n.up[i].length<=6:=by
  unfold Fj at g2;simp only [aw,aF] at g2;exact g2.1
 refine go ?_;refine cb (fun w st=>(Ar8 191 [] [] [] rfl n.up[i] a12 c12 F12 (fun p=>!decide (p.Ct=3)) FB EY (fun p hp w _=>(Bf3 p).val w (by intro q hq;cases hq))).val w (I6 (st.get (p:=.sl _ _ _ _) FD))) ?_;rw [Beg];cases g3:upQ n.up[i]
 ·rw [Az9 (by rw [g1,g2,g3];rfl)];exact AA
 rw [Bgn (by rw [g1,g2,g3];rfl)];refine go ?_;refine Ay rfl (fun h0=>?_) (fun h0=>?_)
 ·obtain rfl:i=0:=EY
  rw [aH rfl];refine go ?_;refine Be (Xr n.Af[0] _ F8) fun _ _=>?_;cases g4:M7 n.Af[0]
  ·exact AA
  refine go ?_;refine Be (Vl n.Ac[0] _ (F9++F10)) fun _ _=>?_;cases g5:Uf n.Ac[0]
  ·exact AA
  refine go ?_;refine Dd rfl rfl (fun h6=>?_) (fun h6=>?_)
  ·refine go ?_;refine ret () trivial ?_;rw [<-Aso n.down[0],<-Aso n.up[0],av h6];rfl
  ·refine go ?_;refine ret () trivial ?_;rw [<-Aso n.down[0],ay h6];rfl
 rw [aC EY];refine go ?_;refine Be (Yc n.Ap i _ F1) fun _ _=>?_;cases g6:Et n.Ap.Ad i
 ·rw [aC EZ];refine go ?_;refine cb (fun w st=>U7 _ n.Af[i] F8 w (st.get (p:=.isv _ _ _ _) FD)) ?_;cases g4:Bb n.Af[i]
  ·exact AA
  refine go ?_;refine Dd rfl rfl (fun h7=>?_) (fun h7=>?_)
  ·refine go ?_;refine Be (Vl n.Ac[i] _ (F9++F10)) fun _ _=>?_;refine go ?_;refine ret () trivial ?_;rw [av h7];rfl
  ·refine go ?_;refine ret () trivial ?_;rw [ay h7];rfl
 ·rw [aH rfl];refine go ?_;refine Be (Xr n.Af[i] _ F8) fun _ _=>?_;cases g4:M7 n.Af[i]
  ·exact AA
  refine go ?_;refine Be (Uj n.Ac[i] _ (F9++F10)) fun _ _=>?_;cases g5:Bw n.Ac[i]
  ·exact AA
  exact AA
def Abk (n:Dx) (v:Value) (F:aq):FV 69 [v] [.isv Pe v n F] (.bool (At n)):=by
 refine enter func69 rfl ntmps69 fun w0=>?_;refine Fg ?_;rintro a1 c1 F1 a2 c2 F2 a3 c3 F3 a4 c4 F4 a5 c5 F5 a6 c6 F6 a7 c7 F7 rfl l1 l2 l3 l4 l5 l6 l7;unfold maxLen at l1 l2 l3 l4 l5 l6 l7;refine Jm n.Ap ?_;refine D6 n.Ab ?_;refine go ?_;intros;refine Be (Ux n.Ap _ F1) fun _ _=>?_;cases g1:Gb n.Ap
 ·rw [show At n=false by unfold At;rw [g1];rfl];exact AA
 refine go ?_;refine Be (Xp n.Ab _ (F2++F3)) fun _ _=>?_;cases g2:Cp n.Ab
 ·rw [show At n=false by unfold At;rw [g1,g2];rfl];exact AA
 refine go ?_;refine Dd rfl rfl (fun m0=>?_) (fun m0=>?_)
 ·rw [show At n=false by
   have:Lx n=false:=by
    cases hl:Lx n
    ·rfl
    ·obtain ⟨q1,q2,q3,q4⟩:=Bn.1 hl;exact absurd EY m0
   unfold At;rw [this];simp]
  exact AA
 refine go ?_;refine Dd rfl rfl (fun m1=>?_) (fun m1=>?_)
 ·rw [show At n=false by
   have:Lx n=false:=by
    cases hl:Lx n
    ·rfl
    ·obtain ⟨q1,q2,q3,q4⟩:=Bn.1 hl;exact absurd EY m1
   unfold At;rw [this];simp]
  exact AA
 refine go ?_;refine Dd rfl rfl (fun m2=>?_) (fun m2=>?_)
 ·rw [show At n=false by
   have:Lx n=false:=by
    cases hl:Lx n
    ·rfl
    ·obtain ⟨q1,q2,q3,q4⟩:=Bn.1 hl;exact absurd EY m2
   unfold At;rw [this];simp]
  exact AA
 refine go ?_;refine Ay rfl (fun m3=>?_) (fun m3=>?_)
 ·rw [show At n=false by
   have:Lx n=false:=by
    cases hl:Lx n
    ·rfl
    ·obtain ⟨q1,q2,q3,q4⟩:=Bn.1 hl;exact absurd EY m3
   unfold At;rw [this];simp]
  exact AA
 have q1:n.Af.length=n.Ap.Ad.length:=EY
 have q2:n.Ac.length=n.Ap.Ad.length:=EY
 have q3:n.down.length=n.Ap.Ad.length:=EY
 have q4:n.up.length=n.Ap.Ad.length:=EY
 have hl:=Bn.2 ⟨q1,q2,q3,q4⟩;refine go ?_;refine Dl [1,2,47] (fun k:Nat=>[(48,aa (k:Nat))]) (fun k=>k<=n.Ap.Ad.length/\∀j,j < k->Tv n j=true) (fun k=>n.Ap.Ad.length - k) 0 ⟨aD _,fun j h=>by omega⟩ fun k hk=>?_;obtain ⟨hk1,hk2⟩:=hk;refine go ?_;refine Ay rfl (fun h1=>?_) (fun h1=>?_)
 ·have hh:k < n.Ap.Ad.length:=EY
  refine go ?_;refine Be (Ai5 n k _ F hl hh) fun _ _=>?_;cases g:Tv n k
  ·rw [Ag0 hh g];exact AA
  refine go ?_;refine Ce (k+1) ⟨hh,fun j hj=>?_⟩ GC;rcases be (bA.1 hj) with h|rfl
  ·exact hk2 j h
  ·exact g
 ·obtain rfl:k=n.Ap.Ad.length:=EY
  refine go ?_;refine ret () trivial ?_;rw [Uo.2 ⟨g1,g2,hl,hk2⟩];rfl
def As4 {par:ar} {clk:Int} {i:Nat} {e:Bj} {r:A8} {d u:List As} (h:(Bb e && Bw r && Fj d && (Fj u && upQ u))=false):Rb par clk i e r d u=false:=by rw [<-Ad4];unfold Ah6;rw [h];rfl
def Bgo {par:ar} {clk:Int} {i:Nat} {e:Bj} {r:A8} {d u:List As} (h:(Bb e && Bw r && Fj d && (Fj u && upQ u))=true):Rb par clk i e r d u=(if i=0 then M7 e && (!r.Bg && decide (r.Ai=0)) && decide (d.length+u.length=0)
  else if Et par i then M7 e && decide (r.Ai=clk) else (!r.Bg && decide (r.Ai=0)) && decide (e.Ai=clk)):=by rw [<-Ad4];unfold Ah6;rw [h,bQ]
def Bc4 (n:Dx) (i:Nat) (v:Value) (F:aq) (hl:Lx n=true) (hi:i < n.Ap.Ad.length) (hg:Px n.Ap.Ad):FV 125 [v,aa (i:Nat)] [.isv Pe v n F] (.bool (Tv n i)):=by
 obtain ⟨q1,q2,q3,q4⟩:=Bn.1 hl;rw [Vc EY EY EY EY];refine enter func125 rfl ntmps125 fun w0=>?_;refine Fg ?_;rintro a1 c1 F1 a2 c2 F2 a3 c3 F3 a4 c4 F4 a5 c5 F5 a6 c6 F6 a7 c7 F7 rfl l1 l2 l3 l4 l5 l6 l7;unfold maxLen at l1 l2 l3 l4 l5 l6 l7;refine Jm n.Ap ?_;refine Oo (xs:=n.Af) i ?_;rintro hi4 b4 o4 a8 c8 F8 rfl l8;refine E5 n.Af[i] ?_;refine Jl (xs:=n.Ac) i ?_;rintro hi5 b5 o5 a9 c9 F9 a10 c10 F10 rfl l9 l10;refine D5 n.Ac[i] ?_;refine Ms (E:=Ak) (hz:=EZ) (xs:=n.down) i ?_;rintro hi6 b6 o6 a11 c11 F11 rfl l11
 refine Ms (E:=Ak) (hz:=EZ) (xs:=n.up) i ?_;rintro hi7 b7 o7 a12 c12 F12 rfl l12;unfold maxLen at l8 l9 l10 l11 l12;refine go ?_;intros;refine Dv [1,2,4] [0,1,2,3,4,5,6,7,8,9,10,11,12,13,14,15,16,17,18,19,20] (fun z:Nat × Nat=>[(5,Gj z.1 0 0),(6,Gj z.2 0 0)]) (fun z=>[.row z.1 111 0 [] [aa n.Af[i].Ai,.slice a8 n.Af[i].Ah.length c8] [],.row z.2 118 0 [] [.bool n.Ac[i].Bg,aa n.Ac[i].Ai,aa n.Ac[i].Aa.next,.slice a9 n.Ac[i].Aa.Ao.length c9,.slice a10 n.Ac[i].An.length c10] []]) (fun _=>True) ?_ fun z _=>?_
 ·refine Ar [0,6,10] [] ?_;refine C4 0 1 2 3 ?_;refine C4 4 5 6 7 ?_;refine Dh 8 9 ?_;refine dM 10 11 ?_ ?_
  ·apply Cn;rfl;intro _;refine dk ?_;refine dN 11 ?_;exact AR
  ·apply Cn;rfl;intro _;refine dk ?_;refine dN 10 ?_;exact AR
 refine go ?_;refine cb (fun w st=>Akc _ n.Af[i] F8 w (st.get (p:=.isv _ _ _ _) FD)) ?_;cases g1:Bb n.Af[i]
 ·rw [As4 (by rw [g1];rfl)];exact AA
 refine go ?_;refine Be (Akb n.Ac[i] _ (F9++F10)) fun _ _=>?_;cases g2:Bw n.Ac[i]
 ·rw [As4 (by rw [g1,g2];rfl)];exact AA
 refine go ?_;refine Be (Ahd n.down[i] false _ _ F11 EY) fun _ _=>?_;rw [show (Fj n.down[i] && (!false || upQ n.down[i]))=Fj n.down[i] by simp];cases g3:Fj n.down[i]
 ·rw [As4 (by rw [g1,g2,g3];rfl)];exact AA
 refine go ?_;refine Be (Ahd n.up[i] true _ _ F12 EY) fun _ _=>?_;rw [show (Fj n.up[i] && (!true || upQ n.up[i]))=(Fj n.up[i] && upQ n.up[i]) by simp];cases g4:(Fj n.up[i] && upQ n.up[i])
 ·rw [As4 (by rw [g1,g2,g3,g4];rfl)];exact AA
 rw [Bgo (by rw [g1,g2,g3,g4];rfl)]
 repeat (first|apply Pg|(apply wO;apply oc;rfl;exact ydE)|apply V8|apply Zz|(apply Ar3;rfl;rfl)|(apply Ar2;rfl;rfl;rfl;rfl)|(apply Ar4;rfl;rfl;rfl)|(apply c_t;rfl)|(apply c_f;rfl)|apply X5|apply Un|apply Ahl)
 refine Dv [1,2,4,5,6] [0,1,2,3,4,5,6,7,8,9,10,11,12,13,14,15,16,17,18,19,20,21,22] (fun _:Unit=>[(7,.bool (M7 n.Af[i]))]) (fun _=>[]) (fun _=>True) ?_ fun _ _=>?_
 ·refine go ?_;refine Dd rfl rfl (fun h1=>?_) (fun h1=>?_)
  ·refine go ?_;rw [show decide ((n.Af[i].Ah.length:Int)=0)=M7 n.Af[i] by unfold M7;rw [av h1,Aso];rfl];refine Bk () trivial
  ·refine go ?_;rw [show false=M7 n.Af[i] by unfold M7;rw [ay h1];rfl];refine Bk () trivial
 repeat (first|apply Pg|(apply wO;apply oc;rfl;exact ydE)|apply V8|apply Zz|(apply Ar3;rfl;rfl)|(apply Ar2;rfl;rfl;rfl;rfl)|(apply Ar4;rfl;rfl;rfl)|(apply c_t;rfl)|(apply c_f;rfl)|apply X5|apply Un|apply Ahl)
 refine Dv [1,2,4,5,6,7] [0,1,2,3,4,5,6,7,8,9,10,11,12,13,14,15,16,17,18,19,20,21,22] (fun _:Unit=>[(8,.bool (!n.Ac[i].Bg && decide (n.Ac[i].Ai=0)))]) (fun _=>[]) (fun _=>True) ?_ fun _ _=>?_
 ·cases hs:n.Ac[i].Bg
  ·exact CO
  ·exact CO
 refine Pp ?_;generalize hzr:(!n.Ac[i].Bg && decide (n.Ac[i].Ai=0))=zr;refine go ?_;refine Ay rfl (fun h0=>?_) (fun h0=>?_)
 ·obtain rfl:i=0:=EY
  rw [aH rfl];have hd6:(n.down[0].length:Int)+(n.up[0].length:Int)<=12:=by
   unfold Fj at g3 g4;simp only [aw,aF] at g3 g4;omega
  cases hze:M7 n.Af[0] <;> cases zr
  ·refine go ?_;refine Ar [2,3,5] [] ?_;refine Dh 0 1 ?_;refine ds 2 ?_;exact AZ
  ·refine go ?_;refine Ar [2,3,5] [] ?_;refine Dh 0 1 ?_;refine ds 2 ?_;exact AZ
  ·refine go ?_;refine Ar [2,3,5] [] ?_;refine Dh 0 1 ?_;refine Dg 2 ?_;exact AZ
  ·refine go ?_;refine Ar [2,3,5] [] ?_;refine Dh 0 1 ?_;refine Dg 2 ?_;refine Dh 3 4 ?_;refine Dg 5 ?_;refine Dg 6 ?_;refine Dg 7 ?_;refine Dg 8 ?_;refine Dg 9 ?_;refine Dg 10 ?_;refine Dg 11 ?_;refine Dg 12 ?_;refine Dg 13 ?_;refine Dg 14 ?_;refine Dg 15 ?_;refine Dg 16 ?_;refine Dh 17 18 ?_;refine dd ?_;refine go ?_;refine ret () trivial ?_;rw [show decide ((n.down[0].length:Int)+(n.up[0].length:Int)=0)=decide (n.down[0].length+n.up[0].length=0) by congr 1;rw [eq_iff_iff];omega];rfl
 rw [aC EY];refine go ?_;refine Be (Ot n.Ap i _ F1 hg EY) fun _ _=>?_;cases g6:Et n.Ap.Ad i
 ·rw [aC EZ];cases zr
  ·exact AA
  ·exact AA
 ·rw [aH rfl];cases hze:M7 n.Af[i]
  ·exact AA
  ·exact AA
def Adp (n:Dx) (v:Value) (F:aq):FV 76 [v] [.isv Pe v n F] (.bool (At n)):=by
 refine enter func76 rfl ntmps76 fun w0=>?_;refine Fg ?_;rintro a1 c1 F1 a2 c2 F2 a3 c3 F3 a4 c4 F4 a5 c5 F5 a6 c6 F6 a7 c7 F7 rfl l1 l2 l3 l4 l5 l6 l7;unfold maxLen at l1 l2 l3 l4 l5 l6 l7;refine Jm n.Ap ?_;refine D6 n.Ab ?_;refine go ?_;intros;refine Be (Ahe n.Ap _ F1) fun _ _=>?_;cases g1:Gb n.Ap
 ·rw [show At n=false by unfold At;rw [g1];rfl];exact AA
 refine go ?_;refine Be (Aka n.Ab _ (F2++F3)) fun _ _=>?_;cases g2:Cp n.Ab
 ·rw [show At n=false by unfold At;rw [g1,g2];rfl];exact AA
 refine go ?_;refine Dd rfl rfl (fun m0=>?_) (fun m0=>?_)
 ·rw [show At n=false by
   have:Lx n=false:=by
    cases hl:Lx n
    ·rfl
    ·obtain ⟨q1,q2,q3,q4⟩:=Bn.1 hl;exact absurd EY m0
   unfold At;rw [this];simp]
  exact AA
 refine go ?_;refine Dd rfl rfl (fun m1=>?_) (fun m1=>?_)
 ·rw [show At n=false by
   have:Lx n=false:=by
    cases hl:Lx n
    ·rfl
    ·obtain ⟨q1,q2,q3,q4⟩:=Bn.1 hl;exact absurd EY m1
   unfold At;rw [this];simp]
  exact AA
 refine go ?_;refine Dd rfl rfl (fun m2=>?_) (fun m2=>?_)
 ·rw [show At n=false by
   have:Lx n=false:=by
    cases hl:Lx n
    ·rfl
    ·obtain ⟨q1,q2,q3,q4⟩:=Bn.1 hl;exact absurd EY m2
   unfold At;rw [this];simp]
  exact AA
 refine go ?_;refine Ay rfl (fun m3=>?_) (fun m3=>?_)
 ·rw [show At n=false by
   have:Lx n=false:=by
    cases hl:Lx n
    ·rfl
    ·obtain ⟨q1,q2,q3,q4⟩:=Bn.1 hl;exact absurd EY m3
   unfold At;rw [this];simp]
  exact AA
 have q1:n.Af.length=n.Ap.Ad.length:=EY
 have q2:n.Ac.length=n.Ap.Ad.length:=EY
 have q3:n.down.length=n.Ap.Ad.length:=EY
 have q4:n.up.length=n.Ap.Ad.length:=EY
 have hl:=Bn.2 ⟨q1,q2,q3,q4⟩;refine go ?_;refine Dl [1,2,3] (fun k:Nat=>[(4,aa (k:Nat))]) (fun k=>k<=n.Ap.Ad.length/\∀j,j < k->Tv n j=true) (fun k=>n.Ap.Ad.length - k) 0 ⟨aD _,fun j h=>by omega⟩ fun k hk=>?_;obtain ⟨hk1,hk2⟩:=hk;refine go ?_;refine Ay rfl (fun h1=>?_) (fun h1=>?_)
 ·have hh:k < n.Ap.Ad.length:=EY
  refine go ?_;refine Be (Bc4 n k _ F hl hh (Hl g1)) fun _ _=>?_;cases g:Tv n k
  ·rw [Ag0 hh g];exact AA
  refine go ?_;refine Ce (k+1) ⟨hh,fun j hj=>?_⟩ GC;rcases be (bA.1 hj) with h|rfl
  ·exact hk2 j h
  ·exact g
 ·obtain rfl:k=n.Ap.Ad.length:=EY
  refine go ?_;refine ret () trivial ?_;rw [Uo.2 ⟨g1,g2,hl,hk2⟩];rfl
structure StZ where
 cs:am
 F:aq
 a:aj
 c:Nat
 Fe:aq
def Apr {n:Dx} (hg:At n=true) (hc:n.Ab.Ai < 9999):∀k,k+1<=n.Ap.Ad.length->(Bf n k).2.length<=40000 * k
 | 0,_=>aK _
 | k+1,hk=>by
  have h:=Apr hg hc k EY;obtain ⟨hGN,hT,hSrc⟩:=P6 hg hc k EY;obtain ⟨i1,i2,i3,i4,hrn⟩:=hGN.rn (i:=k+1) (by rw [hT];omega);show ((Bf n k).2++(N1 (Bf n k).1 (k+1)).2).length<=_;rw [aA];have:(N1 (Bf n k).1 (k+1)).2.length<=40000:=by
   unfold N1
   split
   ·rename_i hl;have hgr:=El.1 (hrn.hf EY hl).2.1;obtain ⟨-,hfew⟩:=Aeb hgr;rw [Hf i2];show ((Hv _).map _).length<=_;rw [bf];omega
   ·exact aD _
  omega
def Apl {n:Dx} {s:Js} {r:Dx × ai} (hg:At n=true) (hs:Dq s=true) (hr:Bo n s=some r):r.2.length<=400000:=by
 have hG:=Ax.1 hg;have h8:=Hl hG.t;have hn8:=h8.n1;have hn2:=h8.n0;have hck:=Yy hG.s;have hr0:=hr;unfold Bo at hr
 split at hr
 ·cases hr;exact aD _
 split at hr
 ·split at hr
  ·cases hr
  ·cases hr;have:=Apr hg EY (n.Ap.Ad.length - 1) EY;show (Bf n (n.Ap.Ad.length - 1)).2.length<=_;omega
 unfold C6 at hr
 split at hr
 ·cases hr
 split at hr
 ·cases hr
 split at hr
 ·rename_i h1 h4 hlt h0 hk;cases hr;have hgp:=Lz (s:=s) hg;have hGp:=Ax.1 hgp;have hf:Pj s.node=true:=by
   have:=hs;unfold Dq at this;rw [aC h1,aC h4] at this;simp only [aw] at this;exact this.1.2
  obtain ⟨f1,f2⟩:=Nt.1 hf;have hpt:(Hb n s).Ap=n.Ap:=JZ
  obtain ⟨i1,i2,i3,i4,hrn⟩:=hGp.rn (i:=s.node.toNat) (by rw [hpt];omega);unfold C9
  split
  ·rename_i hl;have hgr:=El.1 (hrn.hf EY hl).2.1;obtain ⟨d0,d1⟩:=Ac9 (i:=s.node.toNat);have hp:Br (Nw (U1 n s))=true:=Np (Mx (s:=s) hg).1 (Pl EY);have:=(Vi hgr hp d0 d1).2;rw [Hf i2];show ((Is _ _).map _).length<=_;rw [bf];omega
  ·exact aD _
 split at hr
 ·cases hr;exact aD _
 ·cases hr;exact aD _
end Go.Proofs.YtmppejmafbfhlaaGreatDoor
