/- Part 9 of the proof: 23 texts, one behind the other. -/
import Derived.MapKept
import Derived.WideMake
import Derived.Test.YtkblpelckhegbaaGreatDoorM8
open _root_.Go.Proofs.Tryz
set_option maxRecDepth 100000
set_option maxHeartbeats 8000000
set_option linter.all false
set_option linter.unusedVariables false
set_option linter.unusedSimpArgs false
namespace Go.Proofs.YtkblpelckhegbaaGreatDoor
theorem AI{p:Prop}(h:p:=by refine dk ?_;refine dN 8 ?_;refine Qa (Zv ⟨p.Ae,x.Ai+3⟩) Jp fun a8 c8 F8=>?_;refine dk ?_;refine dN 13 ?_;refine Pm (ys:=x.holds.drop (Hf x.Aa.Ap x.holds p.Ae)) Jp Lj (h63:=by simp;omega) (hby:=by simp;omega) fun a9 c9 F9=>?_;refine dk ?_;refine dt 14 ?_;refine dN 15 ?_;refine oS ?_;refine dk ?_;refine dd ?_;refine go ?_;rw [hAdd];refine Bt (⟨a9,c9,F9⟩:Bdo) trivial):p:=h
theorem AJ{p:Prop}(h:p:=by refine Ce (k+1) hk (by show xs.length - (k+1) < xs.length - k;omega)):p:=h
theorem AQ{p:Prop}(h:p:=by rw [Sa,hK];refine go ?_;refine ret G trivial ?_;rw [Kb];rfl):p:=h
theorem AU{p:Prop}(h:p:=by refine Ce (k+1,_) hk (by show xs.length - (k+1) < xs.length - k;omega)):p:=h
theorem BL{p:Prop}(h:p:=by refine Ce (k+1,F6) hk (by show xs.length - (k+1) < xs.length - k;omega)):p:=h
theorem BO{p:Prop}(h:p:=by rw [e1];refine go ?_;refine Ax rfl (fun h=>absurd h (by omega)) (fun _=>?_);refine go ?_;rw [show n - xs.length - ((Hk wf xs k:Nat):Int) - (wf xs[k]:Int)=n - xs.length - ((Hk wf xs (k+1):Nat):Int) by omega];refine Ce (k+1) ⟨hk,by omega⟩ (by show xs.length - (k+1) < xs.length - k;omega)):p:=h
theorem BP{p:Prop}(h:p:=by refine dk ?_;refine dN 7 ?_;refine oC ?_;refine Cb (Ad9 R (N5 (k+1)) _ Gi hgr (by omega) (by omega) (by have:=hgr.k1;omega)) fun s _=>?_;refine dk ?_;refine Ds 8 9 10 11 ?_;refine dN 13 ?_;refine oS ?_;refine dk ?_;refine Ed 14 15 ?_;refine dd ?_;refine Bt (⟨_,s⟩:Nat × TkR) trivial):p:=h
theorem BT{p:Prop}(h:p:=by refine dk ?_;refine dN 8 ?_;refine oC ?_;refine Cb (Ad8 n.Ac[i] p (N5 i) _ Gi hgr hp d0 d1_) fun s _=>?_;refine dk ?_;refine Ed 9 10 ?_;refine dt 11 ?_;refine dN 13 ?_;refine oS ?_;refine dk ?_;refine dt 14 ?_;refine dd ?_;refine Bt (⟨_,s⟩:Nat × NwS) trivial):p:=h
theorem BX{p:Prop}(h:p:=by refine dk ?_;refine dN 6 ?_;refine oS ?_;refine dk ?_;refine dd ?_;refine go ?_;refine Bt (⟨_,z.a,z.c,z.a2,z.c2,z.F⟩:RjS) trivial):p:=h
theorem CM{p:Prop}(h:p:=by refine dk ?_;refine dt 6 ?_;refine dd ?_;refine go ?_;refine Ll (xs:=[Te x.Aa]) (Dh _ (by show (⟨#[]⟩:ByteArray).size≤maxLen;decide)) ?_ (by simp);refine ret ⟨s.a,s.c,s.a2,s.c2,s.F,_,_,_⟩ trivial rfl):p:=h
theorem CT{p:Prop}(h:p:=by refine dk ?_;refine dN 11 ?_;refine oC ?_;refine Cb (hW _ F8) fun s _=>?_;refine dk ?_;refine dt 12 ?_;refine dN 14 ?_;refine oS ?_;refine dk ?_;refine dd ?_;refine Bt (⟨_,b1,d1,G1,s⟩:OwN) trivial):p:=h
theorem FF{p:Prop}(h:p:=by refine dN 13 ?_;refine oS ?_;refine dk ?_;refine dt 14 ?_;refine dd ?_;refine Bt (⟨_,b3,d3,Fe,s.a,s.c,s.G⟩:JE) trivial):p:=h
theorem HA{p:Prop}(h:p:=by unfold Kn at hl1;omega):p:=h
theorem HJ{p:Prop}(h:p:=by show x.1.An.Ad.length - (j+1) < x.1.An.Ad.length - j;omega):p:=h
theorem IP{p:Prop}(h:p:=by rw [List.length_replicate];exact hl2):p:=h
theorem JH{p:Prop}(h:p:=by simp [MapKept.IsKey]):p:=h
theorem KC{p:Prop}(h:p:=by simpa using ev.symm):p:=h
theorem KH{p:Prop}(h:p:=by simpa using e9):p:=h
theorem KJ{p:Prop}(h:p:=by unfold Y4 at h0;omega):p:=h
end Go.Proofs.YtkblpelckhegbaaGreatDoor
namespace Go.Proofs.YtkblpelckhegbaaGreatDoor
open Go.RowKit
def Vg {α:Type} (z:α) (l:List α) (k:Nat):List α:=l.take k++List.replicate (l.length - k) z
theorem Ace {α:Type} (z:α) {l:List α} {k:Nat} (h:k≤l.length):(Vg z l k).length=l.length:=by unfold Vg;simp;omega
theorem Am3 {α:Type} (z:α) (l:List α):List.replicate l.length z=Vg z l 0:=by unfold Vg;simp
theorem Acd {α:Type} (z:α) (l:List α):Vg z l l.length=l:=by unfold Vg;simp
theorem Acf {α:Type} (z:α) {l:List α} {k:Nat} (h:k < l.length):(Vg z l k).set k l[k]=Vg z l (k+1):=by
 unfold Vg;have e:List.replicate (l.length - k) z=z::List.replicate (l.length - (k+1)) z:=HT
 have hl:(l.take k).length=k:=GA
 exact EG
theorem An2 {c:Cx} {fr:Fr} {H:List Pc} {Φ:Gl} {α:Type} {E:Br α} {t g:Nat} {cs:List Value} {xs:List α} {S:List Pc} (hfl:∀w,C1 E w cs xs []) (h:T c fr (.ow E t (.slice (some ⟨g,0,none⟩) xs.length xs.length) xs [g]::S) Φ) (hl:xs.length≤1048576) (hp:Co H (.row g t 0 [] cs []) S:=by exact De):T c fr H Φ:=.mk fun a w s g'=>by
 exact BQ
theorem Sc {α:Type} {O:Br α} {t:TypeId} {P:Program} {f:FuncId} {args:List Value} {xs:List α} {A:List Pc} (h:Fn P f args A [] (fun (_:Value × List Nat)=>True) (fun z=>z.1) (fun z=>[.ow O t z.1 xs z.2])) (hA:A.all (fun p=>!p.mu)=true) {w:World} (hH:Om A w):Calls P f args.toArray w (No O t xs w):=by
 refine (h.made w hH (fun _=>rfl) hA).mono ?_;rintro e w' ⟨z, -,he,hh,hn,hF,hB⟩;obtain ⟨h1,h2⟩:=hh (.ow O t z.1 xs z.2) FK;exact ⟨z.1,z.2,he,h2,h1,fun b hb=>hF b KW,hB⟩
theorem Bjq {α:Type} {f:α→Nat} {xs:List α} {N:Nat} (h:Kn f xs≤N) (k:Nat) (hk:k < xs.length):f xs[k]≤N:=by
 have:=Ql f xs k hk;have:=Xu f xs (k+1);omega
section
variable {c:Cx} {fr:Fr} {H:List Pc} {Φ:Gl}
theorem Aul {α:Type} {E:Br α} {a:Option Addr} {n cp:Nat} {xs:List α} {F:List Nat} (i:Nat) (hi:i < xs.length) (h:∀(b o:Nat) (cs:List Value) (G:List Nat),a=some ⟨b,o,none⟩→cs.length=E.sz→T c fr (.cel b (o+i * E.sz) cs::.isv E (.agg cs.toArray) xs[i] G::H) Φ) (hm:.sl E (.slice a n cp) xs F∈H:=by exact A9):T c fr H Φ:=.mk fun ac w s g=>by
 obtain ⟨b,o,cs,G,ha,hrep,hG,hb,hne,hr⟩:=Y9 (s.get hm) i hi;have t1:=s.ro (p:=.isv E (.agg cs.toArray) xs[i] G) hm rfl rfl ⟨cs,rfl,hrep⟩ HG;exact (h b o cs G ha (E.len hrep)).h ac w (t1.ro (List.mem_cons_of_mem _ hm) rfl rfl ⟨hne,hr⟩ HD) g
theorem Bg2 {α:Type} {E:Br α} {t:TypeId} {z:α} {xs:List α} {g:Nat} {F:List Nat} {k:List It} {x:Code} {rest:List Pc} {cst:Fr} (ks:List Nat) (d:Nat)
  (round:∀i G,i≤xs.length→T c ([(d,.int .i64 (i:Nat))]++cst) ([.ow E t (.slice (some ⟨g,0,none⟩) xs.length xs.length) (Vg z xs i) G]++rest) (.code (.lp (LpN c (fun s:Nat × List Nat=>[(d,.int .i64 (s.1:Nat))]++cst) (fun s=>[.ow E t (.slice (some ⟨g,0,none⟩) xs.length xs.length) (Vg z xs s.1) s.2]++rest) (fun s=>s.1≤xs.length) (fun s=>xs.length - s.1) (xs.length - i))::k) x))
  (hp:Io H [.ow E t (.slice (some ⟨g,0,none⟩) xs.length xs.length) (Vg z xs 0) F] rest:=by exact Abo) (hk:Kf fr ks cst:=by repeat (first|exact Kf.nil|apply Kf.cons GG)) (hf:Mb fr [(d,.int .i64 ((0:Nat):Int))]:=by exact frE):T c fr H (.code k (Code.loop x)) :=
 Cj ks (fun s:Nat × List Nat=>[(d,.int .i64 (s.1:Nat))]) (fun s=>[.ow E t (.slice (some ⟨g,0,none⟩) xs.length xs.length) (Vg z xs s.1) s.2]) (fun s=>s.1≤xs.length) (fun s=>xs.length - s.1) (0,F) (Nat.zero_le _) (fun s hs=>round s.1 s.2 hs) hk hf hp
end
theorem Ahc {p:Prop} (h:p:=by
 refine enter hfn rfl hnt fun w0=>?_;refine Xq (xs:=xs) ?_;rintro a c rfl h1 h2;refine go ?_;apply wO;refine Axw xs.length rfl rfl rfl (by exact Aid _ _) FJ FJ fun g=>?_;refine An2 (fun w=>C1.rep0 (hrep w) _) ?_ IP;rw [List.length_replicate,Am3];refine go ?_;refine Bg2 (xs:=xs) [0,3] 4 fun k G hz0=>?_;have hfl:=Ace z0 hz0;refine go ?_;refine Ax rfl (fun h3=>?_) (fun h3=>?_)
 ·have hk:k < xs.length:=FJ
  refine Aul (xs:=xs) k hk ?_;rintro b o cs G1 rfl hcl;refine go ?_;apply wO;apply oc;rfl;exact Adj rfl FO (hcl▸Cut.whole cs);refine go ?_;refine cv (fun w st=>hto _ xs[k] G1 w (st.get (p:=.isv _ _ _ _) FO) (Bjq hl1 k hk)) fun y K=>?_;refine Ajf hone (x:=xs[k]) (F:=K) ?_;rintro cs2 rfl hl3 ho2;refine W5 (xs:=Vg z0 xs k) k ?_ rfl FJ;rintro _ g2 A cs3 B k1 k2 H1 Hi H2 e2 - hc hH;cases e2;refine Ajf hone (x:=(Vg z0 xs k)[k]) (F:=Hi) ?_;rintro cs4 e4 hl4 -;obtain rfl:cs3=cs4:=by simpa using e4
  refine go ?_;apply wO;refine Axx rfl rfl rfl (by first|exact AggC.s|exact OneC.s) hl3 (by exact Aki) (Put.all FJ) ho2 ?_;refine Ta xs[k] hH rfl fun F6=>?_;rw [Acf _ hk];refine go ?_;exact BL
 ·rw [show k=xs.length by omega,Acd];refine go ?_;refine ret (_,_) trivial rfl):p:=h
theorem Arg (v:Value) (xs:List Int) (F:List Nat) (w:World) (h:Sl Bb w v xs F) (hl1:Kn (fun _=>0) xs≤1048576):Calls prog 98 #[v] w (No Bb 3 xs w):=by
 have hl2:xs.length≤1048576:=HA
 refine Sc (A:=[.sl Bb v xs F]) ?_ rfl (En ⟨FM,h⟩);clear h w;refine enter func98 rfl ntmps98 fun w0=>?_;refine Xq (E:=Bb) (xs:=xs) ?_;rintro a c rfl h1 h2;refine go ?_;apply wO;refine Axw xs.length (cs:=(List.replicate xs.length ([.int .i64 0]:List Value)).flatten) rfl rfl rfl (Aid _ _) FJ FJ fun g=>?_;refine An2 (E:=Bb) (xs:=List.replicate xs.length 0) (fun w=>C1.rep0 (E:=Bb) (w:=w) (zs:=[.int .i64 0]) (z:=0) ⟨rfl,rfl⟩ _) ?_ IP;rw [List.length_replicate,Am3];refine go ?_
 refine Cj [0,3] (fun z:Nat × List Nat=>[(4,.int .i64 (z.1:Nat))]) (fun z=>[.ow Bb 3 (.slice (some ⟨g,0,none⟩) xs.length xs.length) (Vg 0 xs z.1) z.2]) (fun z=>z.1≤xs.length) (fun z=>xs.length - z.1) (0,_) (Nat.zero_le _) fun z hz0=>?_;obtain ⟨k,G⟩:=z;dsimp only at hz0 ⊢;have hfl:=Ace 0 hz0;refine go ?_;refine Ax rfl (fun h3=>?_) (fun h3=>?_)
 ·have hk:k < xs.length:=FJ
  refine I5 (xs:=xs) k ?_;rintro hi b o e;rw [e];refine P5 (xs:=Vg 0 xs k) (m:=1) D0 k ?_ FP rfl FJ;rintro _ g2 A cs B e1 e2 hc hH;cases e1;obtain ⟨rfl, -⟩:=hc w0;refine go ?_;refine Pd xs[k] hH (fun w=>⟨rfl,rfl⟩) ?_;rw [Acf _ hk];refine go ?_;exact AU
 ·rw [show k=xs.length by omega,Acd];refine go ?_;exact BE
theorem Arj (v:Value) (xs:List ByteArray) (F:List Nat) (w:World) (h:Sl A8 w v xs F) (hl1:Kn ByteArray.size xs≤1048576):Calls prog 175 #[v] w (No A8 9 xs w):=by
 have hl2:xs.length≤1048576:=HA
 refine Sc (A:=[.sl A8 v xs F]) ?_ rfl (En ⟨FM,h⟩);clear h w;refine enter func175 rfl ntmps175 fun w0=>?_;refine Xq (E:=A8) (xs:=xs) ?_;rintro a c rfl h1 h2;refine go ?_;apply wO;refine Axw xs.length (cs:=(List.replicate xs.length ([.string ⟨#[]⟩]:List Value)).flatten) rfl rfl rfl (Aid _ _) FJ FJ fun g=>?_;refine An2 (E:=A8) (xs:=List.replicate xs.length (⟨#[]⟩:ByteArray)) (fun w=>C1.rep0 (E:=A8) (w:=w) (zs:=[.string ⟨#[]⟩]) (z:=(⟨#[]⟩:ByteArray)) ⟨rfl,Nat.zero_le _,rfl⟩ _) ?_ IP;rw [List.length_replicate,Am3];refine go ?_
 refine Cj [0,3] (fun z:Nat × List Nat=>[(4,.int .i64 (z.1:Nat))]) (fun z=>[.ow A8 9 (.slice (some ⟨g,0,none⟩) xs.length xs.length) (Vg (⟨#[]⟩:ByteArray) xs z.1) z.2]) (fun z=>z.1≤xs.length) (fun z=>xs.length - z.1) (0,_) (Nat.zero_le _) fun z hz0=>?_;obtain ⟨k,G⟩:=z;dsimp only at hz0 ⊢;have hfl:=Ace (⟨#[]⟩:ByteArray) hz0;refine go ?_;refine Ax rfl (fun h3=>?_) (fun h3=>?_)
 ·have hk:k < xs.length:=FJ
  have hw:xs[k].size≤1048576:=by have:=Ql ByteArray.size xs k hk;have:=Xu ByteArray.size xs (k+1);omega
  refine Nq (xs:=xs) k ?_;rintro hi b o e sz;rw [e];refine P5 (xs:=Vg (⟨#[]⟩:ByteArray) xs k) (m:=1) Hj k ?_ FP rfl FJ;rintro _ g2 A cs B e1 e2 hc hH;cases e1;obtain ⟨rfl, -⟩:=hc w0;refine go ?_;refine Pd xs[k] hH (fun w=>⟨rfl,sz,rfl⟩) ?_;rw [Acf _ hk];refine go ?_;exact AU
 ·rw [show k=xs.length by omega,Acd];refine go ?_;exact BE
theorem Ayt (v:Value) (xs:List Hz) (F:List Nat) (w:World) (h:Sl Bn w v xs F) (hl1:Kn (fun _=>0) xs≤1048576):Calls prog 100 #[v] w (No Bn 215 xs w):=by
 have hl2:xs.length≤1048576:=HA
 refine Sc (A:=[.sl Bn v xs F]) ?_ rfl (En ⟨FM,h⟩);clear h w;have hfn:=func100;have hnt:=ntmps100;have hto:=fun v x F w h (_:0≤1048576)=>Bcz v x F w h;have hone:Yf Bn:=Jp;obtain ⟨z0,hz0⟩:∃z:Hz,z=((⟨0,0⟩:Hz):Hz):=⟨_,rfl⟩;have hrep:∀w,Bn.Ky w [.int .i64 0,.int .i64 0] z0 []:=fun w=>hz0▸⟨rfl,rfl⟩;exact Ahc
theorem Ayu (v:Value) (xs:List Gh) (F:List Nat) (w:World) (h:Sl B9 w v xs F) (hl1:Kn Rv xs≤1048576):Calls prog 254 #[v] w (No B9 275 xs w):=by
 have hl2:xs.length≤1048576:=HA
 refine Sc (A:=[.sl B9 v xs F]) ?_ rfl (En ⟨FM,h⟩);clear h w;have hfn:=func254;have hnt:=ntmps254;have hto:=Bc0;have hone:Yf B9:=Iy;obtain ⟨z0,hz0⟩:∃z:Gh,z=((⟨false,⟨#[]⟩⟩:Gh):Gh):=⟨_,rfl⟩;have hrep:∀w,B9.Ky w [.bool false,.string ⟨#[]⟩] z0 []:=fun w=>hz0▸⟨rfl,Nat.zero_le _,rfl⟩;exact Ahc
theorem An9 (v:Value) (xs:List Ay) (F:List Nat) (w:World) (h:Sl Av w v xs F) (hl1:Kn (fun _=>0) xs≤1048576):Calls prog 179 #[v] w (No Av 250 xs w):=by
 have hl2:xs.length≤1048576:=HA
 refine Sc (A:=[.sl Av v xs F]) ?_ rfl (En ⟨FM,h⟩);clear h w;have hfn:=func179;have hnt:=ntmps179;have hto:=fun v x F w h (_:0≤1048576)=>Ari v x F w h;have hone:Yf Av:=C4;obtain ⟨z0,hz0⟩:∃z:Ay,z=((⟨0,0,0,0⟩:Ay):Ay):=⟨_,rfl⟩;have hrep:∀w,Av.Ky w [.int .i64 0,.int .i64 0,.int .i64 0,.int .i64 0] z0 []:=fun w=>hz0▸⟨rfl,rfl⟩;exact Ahc
theorem Arh (v:Value) (xs:List Ar) (F:List Nat) (w:World) (h:Sl Ak w v xs F) (hl1:Kn Ej xs≤1048576):Calls prog 103 #[v] w (No Ak 223 xs w):=by
 have hl2:xs.length≤1048576:=HA
 refine Sc (A:=[.sl Ak v xs F]) ?_ rfl (En ⟨FM,h⟩);clear h w;have hfn:=func103;have hnt:=ntmps103;have hto:=At6;have hone:Yf Ak:=Hq;obtain ⟨z0,hz0⟩:∃z:Ar,z=((⟨0,0,0,0,⟨#[]⟩⟩:Ar):Ar):=⟨_,rfl⟩;have hrep:∀w,Ak.Ky w [.int .i64 0,.int .i64 0,.int .i64 0,.int .i64 0,.string ⟨#[]⟩] z0 []:=fun w=>hz0▸⟨rfl,Nat.zero_le _,rfl⟩;exact Ahc
theorem Bc1 (v:Value) (x:Qo) (F:List Nat) (w:World) (h:Jy Po w v x F) (hl:Oe x≤1048576):Calls prog 44 #[v] w (Wt Ae5 x w):=by
 unfold Oe at hl;refine Sd (A:=[.isv Po v x F]) ?_ rfl (En h);clear h w;refine enter func44 rfl ntmps44 fun w0=>?_;refine N2 ?_;rintro a1 c1 F1 rfl -;refine go ?_;intros;refine cn (fun w st=>Arg _ x.Ad F1 w (st.get (p:=.sl _ _ _ _) FO).2 FJ) fun b1 d1 G1=>?_;refine go ?_;refine Aa3 x ?_;exact BE
theorem Ajm (v:Value) (x:Aw) (F:List Nat) (w:World) (h:Jy Bv w v x F) (hl:Jw x≤1048576):Calls prog 99 #[v] w (Wt Kw x w):=by
 unfold Jw at hl;refine Sd (A:=[.isv Bv v x F]) ?_ rfl (En h);clear h w;refine enter func99 rfl ntmps99 fun w0=>?_;refine Et ?_;rintro a1 c1 F1 rfl -;refine go ?_;intros;refine cn (fun w st=>Arj _ x.Ao F1 w (st.get (p:=.sl _ _ _ _) FO).2 FJ) fun b1 d1 G1=>?_;refine go ?_;refine Rg x ?_;exact BE
theorem At7 (v:Value) (x:Ck) (F:List Nat) (w:World) (h:Jy Do w v x F) (hl:Ko x≤1048576):Calls prog 45 #[v] w (Wt Tf x w):=by
 unfold Ko at hl;refine Sd (A:=[.isv Do v x F]) ?_ rfl (En h);clear h w;refine enter func45 rfl ntmps45 fun w0=>?_;refine Ht ?_;rintro a1 c1 F1 a2 c2 F2 rfl - -;refine Cv x.Aa (a1:=a1) ?_;refine go ?_;intros;refine cv (fun w st=>Ajm _ x.Aa (F1) w (st.get (p:=.isv _ _ _ _) FO) FJ) fun y K=>?_;refine Hy (v:=y) (x:=x.Aa) (F:=K) ?_;rintro b1 d1 G1 e1 -;rw [e1];refine go ?_;refine cn (fun w st=>Ayt _ x.holds F2 w (st.get (p:=.sl _ _ _ _) FO).2 FJ) fun b2 d2 G2=>?_;refine go ?_;refine Tk x ?_;exact BE
theorem Ays (v:Value) (x:Gs) (F:List Nat) (w:World) (h:Jy Dt w v x F) (hl:M5 x≤1048576):Calls prog 253 #[v] w (Wt Dy x w):=by
 unfold M5 at hl;refine Sd (A:=[.isv Dt v x F]) ?_ rfl (En h);clear h w;refine enter func253 rfl ntmps253 fun w0=>?_;refine T5 ?_;rintro a1 c1 F1 rfl -;refine go ?_;intros;refine cn (fun w st=>Arg _ x.Bj F1 w (st.get (p:=.sl _ _ _ _) FO).2 FJ) fun b1 d1 G1=>?_;refine go ?_;refine Nh x ?_;exact BE
theorem At5 (v:Value) (xs:List Gs) (F:List Nat) (w:World) (h:Sl Dt w v xs F) (hl1:Kn M5 xs≤1048576):Calls prog 177 #[v] w (No Dy 212 xs w):=by
 have hl2:xs.length≤1048576:=HA
 refine Sc (A:=[.sl Dt v xs F]) ?_ rfl (En ⟨FM,h⟩);clear h w;have hfn:=func177;have hnt:=ntmps177;have hto:=Ays;have hone:Yf Dy:=Rn;obtain ⟨z0,hz0⟩:∃z:Gs,z=((⟨0,[],0⟩:Gs):Gs):=⟨_,rfl⟩;have hrep:∀w,Dy.Ky w [.int .i64 0,.slice none 0 0,.int .i64 0] z0 []:=fun w=>hz0▸⟨_,rfl,.inl ⟨rfl,rfl,rfl⟩⟩;exact Ahc
theorem Arf (v:Value) (x:Bf) (F:List Nat) (w:World) (h:Jy Bk w v x F) (hl:E9 x≤1048576):Calls prog 101 #[v] w (Wt Ca x w):=by
 unfold E9 at hl;refine Sd (A:=[.isv Bk v x F]) ?_ rfl (En h);clear h w;refine enter func101 rfl ntmps101 fun w0=>?_;refine Ga ?_;rintro a1 c1 F1 rfl -;refine go ?_;intros;refine cn (fun w st=>At5 _ x.Ah F1 w (st.get (p:=.sl _ _ _ _) FO).2 FJ) fun b1 d1 G1=>?_;refine go ?_;refine Fc x ?_;exact BE
theorem An7 (v:Value) (xs:List Bf) (F:List Nat) (w:World) (h:Sl Bk w v xs F) (hl1:Kn E9 xs≤1048576):Calls prog 46 #[v] w (No Ca 133 xs w):=by
 have hl2:xs.length≤1048576:=HA
 refine Sc (A:=[.sl Bk v xs F]) ?_ rfl (En ⟨FM,h⟩);clear h w;have hfn:=func46;have hnt:=ntmps46;have hto:=Arf;have hone:Yf Ca:=Q1;obtain ⟨z0,hz0⟩:∃z:Bf,z=((⟨0,[]⟩:Bf):Bf):=⟨_,rfl⟩;have hrep:∀w,Ca.Ky w [.int .i64 0,.slice none 0 0] z0 []:=fun w=>hz0▸⟨_,rfl,.inl ⟨rfl,rfl,rfl⟩⟩;exact Ahc
theorem Add (v:Value) (x:Aj) (F:List Nat) (w:World) (h:Jy Bh w v x F) (hl:In x≤1048576):Calls prog 178 #[v] w (Wt M6 x w):=by
 unfold In at hl;refine Sd (A:=[.isv Bh v x F]) ?_ rfl (En h);clear h w;refine enter func178 rfl ntmps178 fun w0=>?_;refine Cd ?_;rintro a1 c1 F1 rfl -;refine go ?_;intros;refine cn (fun w st=>Ayu _ x.Am F1 w (st.get (p:=.sl _ _ _ _) FO).2 FJ) fun b1 d1 G1=>?_;refine go ?_;refine Z7 x ?_;exact BE
theorem An8 (v:Value) (x:Az) (F:List Nat) (w:World) (h:Jy Bi w v x F) (hl:Gg x≤1048576):Calls prog 102 #[v] w (Wt By x w):=by
 unfold Gg at hl;refine Sd (A:=[.isv Bi v x F]) ?_ rfl (En h);clear h w;refine enter func102 rfl ntmps102 fun w0=>?_;refine Es ?_;rintro a1 c1 F1 a2 c2 F2 rfl - -;refine B4 x.Aa (a1:=a1) ?_;refine go ?_;intros;refine cv (fun w st=>Add _ x.Aa (F1) w (st.get (p:=.isv _ _ _ _) FO) FJ) fun y K=>?_;refine Abn (v:=y) (x:=x.Aa) (F:=K) ?_;rintro b1 d1 G1 e1 -;rw [e1];refine go ?_;refine cn (fun w st=>An9 _ x.Al F2 w (st.get (p:=.sl _ _ _ _) FO).2 FJ) fun b2 d2 G2=>?_;refine go ?_;refine I6 x ?_;exact BE
theorem Akn (v:Value) (xs:List Az) (F:List Nat) (w:World) (h:Sl Bi w v xs F) (hl1:Kn Gg xs≤1048576):Calls prog 47 #[v] w (No By 140 xs w):=by
 have hl2:xs.length≤1048576:=HA
 refine Sc (A:=[.sl Bi v xs F]) ?_ rfl (En ⟨FM,h⟩);clear h w;have hfn:=func47;have hnt:=ntmps47;have hto:=An8;have hone:Yf By:=Pr;obtain ⟨z0,hz0⟩:∃z:Az,z=((⟨false,0,(⟨0,[]⟩:Aj),[]⟩:Az):Az):=⟨_,rfl⟩;have hrep:∀w,By.Ky w [.bool false,.int .i64 0,.int .i64 0,.slice none 0 0,.slice none 0 0] z0 []:=fun w=>hz0▸⟨_,_,[],[],rfl,.inl ⟨rfl,rfl,rfl⟩,.inl ⟨rfl,rfl,rfl⟩,rfl⟩;exact Ahc
theorem Adc (v:Value) (xs:List (List Ar)) (F:List Nat) (w:World) (h:Sl (Mr Ak FM) w v xs F) (hl1:Kn (Kn Ej) xs≤1048576):Calls prog 48 #[v] w (No (Kx Ak 223) 142 xs w):=by
 have hl2:xs.length≤1048576:=HA
 refine Sc (A:=[.sl (Mr Ak FM) v xs F]) ?_ rfl (En ⟨FM,h⟩);clear h w;refine enter func48 rfl ntmps48 fun w0=>?_;refine Xq (E:=(Mr Ak FM)) (xs:=xs) ?_;rintro a c rfl h1 h2;refine go ?_;apply wO;refine Axw xs.length (cs:=(List.replicate xs.length ([.slice none 0 0]:List Value)).flatten) rfl rfl rfl (Aid _ _) FJ FJ fun g=>?_;refine An2 (E:=(Kx Ak 223)) (xs:=List.replicate xs.length ([]:List Ar)) (fun w=>C1.rep0 (E:=(Kx Ak 223)) (w:=w) (zs:=[.slice none 0 0]) (z:=([]:List Ar)) ⟨_,rfl,.inl ⟨rfl,rfl,rfl⟩⟩ _) ?_ IP
 rw [List.length_replicate,Am3];refine go ?_;refine Cj [0,3] (fun z:Nat × List Nat=>[(4,.int .i64 (z.1:Nat))]) (fun z=>[.ow (Kx Ak 223) 142 (.slice (some ⟨g,0,none⟩) xs.length xs.length) (Vg ([]:List Ar) xs z.1) z.2]) (fun z=>z.1≤xs.length) (fun z=>xs.length - z.1) (0,_) (Nat.zero_le _) fun z hz0=>?_;obtain ⟨k,G⟩:=z;dsimp only at hz0 ⊢;have hfl:=Ace ([]:List Ar) hz0;refine go ?_;refine Ax rfl (fun h3=>?_) (fun h3=>?_)
 ·have hk:k < xs.length:=FJ
  have hw:Kn Ej xs[k]≤1048576:=by have:=Ql ((Kn Ej)) xs k hk;have:=Xu ((Kn Ej)) xs (k+1);omega
  refine Np (E:=Ak) (hz:=FM) (xs:=xs) k ?_;rintro hi b o a1 c1 F1 e l1;rw [e];refine go ?_;refine cn (fun w st=>Arh _ xs[k] F1 w (st.get (p:=.sl _ _ _ _) FO).2 hw) fun b1 d1 G1=>?_;refine W5 (xs:=Vg ([]:List Ar) xs k) (m:=1) k ?_ rfl FJ;rintro _ g2 A cs B k1 k2 H1 Hi H2 e2 - hc hH;cases e2;refine U7 ?_;rintro a5 c5 ev l5;obtain rfl:=Uv ev;refine go ?_;refine J0 xs[k] ?_;refine Ta _ hH rfl fun F6=>?_;rw [Acf _ hk];refine go ?_;exact BL
 ·rw [show k=xs.length by omega,Acd];refine go ?_;exact BE
theorem Bfz (v:Value) (x:Du) (F:List Nat) (w:World) (h:Jy Ny w v x F) (hl:Zj x≤1048576):Calls prog 18 #[v] w (Wt Aaw x w):=by
 unfold Zj at hl;refine Sd (A:=[.isv Ny v x F]) ?_ rfl (En h);clear h w;refine enter func18 rfl ntmps18 fun w0=>?_;refine Hm ?_;rintro a1 c1 F1 a2 c2 F2 a3 c3 F3 a4 c4 F4 a5 c5 F5 a6 c6 F6 a7 c7 F7 rfl - - - - - - -;refine Iu x.An (a1:=a1) ?_;refine Gt x.Ab (a1:=a2) (a2:=a3) ?_;refine go ?_;intros;refine cv (fun w st=>Bc1 _ x.An (F1) w (st.get (p:=.isv _ _ _ _) FO) FJ) fun y K=>?_;refine Aem (v:=y) (x:=x.An) (F:=K) ?_;rintro b1 d1 G1 e1 -;rw [e1];refine go ?_;refine cv (fun w st=>At7 _ x.Ab (F2++F3) w (st.get (p:=.isv _ _ _ _) FO) FJ) fun y K=>?_
 refine Qk (v:=y) (x:=x.Ab) (F:=K) ?_;rintro b2 d2 G2 b3 d3 G3 e1 - -;rw [e1];refine go ?_;refine cn (fun w st=>An7 _ x.Af F4 w (st.get (p:=.sl _ _ _ _) FO).2 FJ) fun b4 d4 G4=>?_;refine go ?_;refine cn (fun w st=>Akn _ x.Ac F5 w (st.get (p:=.sl _ _ _ _) FO).2 FJ) fun b5 d5 G5=>?_;refine go ?_;refine cn (fun w st=>Adc _ x.down F6 w (st.get (p:=.sl _ _ _ _) FO).2 FJ) fun b6 d6 G6=>?_;refine go ?_;refine cn (fun w st=>Adc _ x.up F7 w (st.get (p:=.sl _ _ _ _) FO).2 FJ) fun b7 d7 G7=>?_;refine go ?_;refine Qc x ?_
 exact BE
theorem Fh {P:Program} {f:FuncId} {args:List Value} {A:List Pc} {v:Value} (h:Fn P f args A [] (fun (_:Unit)=>True) (fun _=>v) (fun _=>[])) (hA:A.all (fun p=>!p.mu)=true) {w:World} (hH:Om A w):Calls P f args.toArray w (RB v w):=h.val w hH hA
theorem Ahb {p:Prop} (h:p:=by
 refine enter hfn rfl hnt fun w0=>?_;refine Xq (v:=va) (xs:=xs) (F:=Fa) ?_;rintro a c rfl h1 h2;refine Xq (v:=vb) (xs:=xs) (F:=Fb) ?_;rintro a' c' rfl h1' h2';refine go ?_;refine Ax rfl (fun h=>absurd rfl h) (fun _=>?_);refine go ?_;refine D8 [0,1] (fun k:Nat=>[(5,.int .i64 (k:Nat))]) (fun k=>k≤xs.length) (fun k=>xs.length - k) 0 (Nat.zero_le _) fun k hk0=>?_;refine go ?_;refine Ax rfl (fun h3=>?_) (fun h3=>?_)
 ·have hk:k < xs.length:=FJ
  refine Aul (a:=a) (F:=Fa) (xs:=xs) k hk ?_;rintro b o cs G1 ea hcl;refine Aul (a:=a') (F:=Fb) (xs:=xs) k hk ?_;rintro b' o' cs' G2 eb hcl';subst ea eb;refine go ?_;refine Ahg [] ?_;refine Ed 0 1 ?_;refine dt 2 ?_;refine dt 3 ?_ (hy:=by exact Adj rfl FO (hcl▸Cut.whole cs));refine Ed 4 5 ?_;refine dt 6 ?_;refine dt 7 ?_ (hy:=by exact Adj rfl FO (hcl'▸Cut.whole cs'));refine dN 8 ?_;refine oC ?_;refine cb (fun w st=>heq _ _ xs[k] G1 G2 w (st.get (p:=.isv _ _ _ _) FO) (st.get (p:=.isv _ _ _ _) FO)) ?_;refine dk ?_;refine dt 9 ?_;refine dd ?_
  refine go ?_;exact AJ
 ·refine go ?_;refine ret () trivial rfl):p:=h
theorem Av8 (va vb:Value) (xs:List Hz) (Fa Fb:List Nat) (w:World) (ha:Sl Bn w va xs Fa) (hb:Sl Bn w vb xs Fb):Calls prog 130 #[va,vb] w (RB (.bool true) w):=by
 refine Fh (A:=[.sl Bn va xs Fa,.sl Bn vb xs Fb]) ?_ rfl (N0 ⟨FM,ha⟩ ⟨FM,hb⟩);clear ha hb w;have hfn:=func130;have hnt:=ntmps130;have heq:=Az5;exact Ahb
theorem Av9 (va vb:Value) (xs:List Gh) (Fa Fb:List Nat) (w:World) (ha:Sl B9 w va xs Fa) (hb:Sl B9 w vb xs Fb):Calls prog 299 #[va,vb] w (RB (.bool true) w):=by
 refine Fh (A:=[.sl B9 va xs Fa,.sl B9 vb xs Fb]) ?_ rfl (N0 ⟨FM,ha⟩ ⟨FM,hb⟩);clear ha hb w;have hfn:=func299;have hnt:=ntmps299;have heq:=Az6;exact Ahb
theorem Am2 (va vb:Value) (xs:List Ay) (Fa Fb:List Nat) (w:World) (ha:Sl Av w va xs Fa) (hb:Sl Av w vb xs Fb):Calls prog 228 #[va,vb] w (RB (.bool true) w):=by
 refine Fh (A:=[.sl Av va xs Fa,.sl Av vb xs Fb]) ?_ rfl (N0 ⟨FM,ha⟩ ⟨FM,hb⟩);clear ha hb w;have hfn:=func228;have hnt:=ntmps228;have heq:=Ao7;exact Ahb
theorem Ao6 (va vb:Value) (xs:List Ar) (Fa Fb:List Nat) (w:World) (ha:Sl Ak w va xs Fa) (hb:Sl Ak w vb xs Fb):Calls prog 133 #[va,vb] w (RB (.bool true) w):=by
 refine Fh (A:=[.sl Ak va xs Fa,.sl Ak vb xs Fb]) ?_ rfl (N0 ⟨FM,ha⟩ ⟨FM,hb⟩);clear ha hb w;have hfn:=func133;have hnt:=ntmps133;have heq:=Ash;exact Ahb
theorem Az7 (va vb:Value) (x:Qo) (Fa Fb:List Nat) (w:World) (ha:Jy Po w va x Fa) (hb:Jy Po w vb x Fb):Calls prog 55 #[va,vb] w (RB (.bool true) w):=by
 refine Fh (A:=[.isv Po va x Fa,.isv Po vb x Fb]) ?_ rfl (N0 ha hb);clear ha hb w;refine enter func55 rfl ntmps55 fun w0=>?_;refine N2 (v:=va) (x:=x) (F:=Fa) ?_;rintro a1 c1 F1 rfl -;refine N2 (v:=vb) (x:=x) (F:=Fb) ?_;rintro b1 d1 G1 rfl -;refine go ?_;intros;refine cb (fun w st=>Ao5 _ _ x.Ad F1 G1 w (st.get (p:=.sl _ _ _ _) FO).2 (st.get (p:=.sl _ _ _ _) FO).2) ?_;exact AA
theorem Ahp (va vb:Value) (x:Aw) (Fa Fb:List Nat) (w:World) (ha:Jy Bv w va x Fa) (hb:Jy Bv w vb x Fb):Calls prog 129 #[va,vb] w (RB (.bool true) w):=by
 refine Fh (A:=[.isv Bv va x Fa,.isv Bv vb x Fb]) ?_ rfl (N0 ha hb);clear ha hb w;refine enter func129 rfl ntmps129 fun w0=>?_;refine Et (v:=va) (x:=x) (F:=Fa) ?_;rintro a1 c1 F1 rfl -;refine Et (v:=vb) (x:=x) (F:=Fb) ?_;rintro b1 d1 G1 rfl -;refine go ?_;intros;refine Ax rfl (fun h=>absurd rfl h) (fun _=>?_);refine go ?_;refine Ax rfl (fun h=>absurd rfl h) (fun _=>?_);refine go ?_;refine cb (fun w st=>Ao8 _ _ x.Ao F1 G1 w (st.get (p:=.sl _ _ _ _) FO).2 (st.get (p:=.sl _ _ _ _) FO).2) ?_;exact AA
theorem Asi (va vb:Value) (x:Ck) (Fa Fb:List Nat) (w:World) (ha:Jy Do w va x Fa) (hb:Jy Do w vb x Fb):Calls prog 56 #[va,vb] w (RB (.bool true) w):=by
 refine Fh (A:=[.isv Do va x Fa,.isv Do vb x Fb]) ?_ rfl (N0 ha hb);clear ha hb w;refine enter func56 rfl ntmps56 fun w0=>?_;refine Ht (v:=va) (x:=x) (F:=Fa) ?_;rintro a1 c1 F1 a2 c2 F2 rfl - -;refine Ht (v:=vb) (x:=x) (F:=Fb) ?_;rintro b1 d1 G1 b2 d2 G2 rfl - -;refine Cv x.Aa (a1:=a1) (F1:=F1) ?_;refine Cv x.Aa (a1:=b1) (F1:=G1) ?_;refine go ?_;intros;refine cb (fun w st=>Ahp _ _ x.Aa _ _ w (st.get (p:=.isv _ _ _ _) FO) (st.get (p:=.isv _ _ _ _) FO)) ?_;refine go ?_;refine Ax rfl (fun h=>absurd rfl h) (fun _=>?_);refine go ?_
 refine Ax rfl (fun h=>absurd rfl h) (fun _=>?_);refine go ?_;refine cb (fun w st=>Av8 _ _ x.holds F2 G2 w (st.get (p:=.sl _ _ _ _) FO).2 (st.get (p:=.sl _ _ _ _) FO).2) ?_;exact AA
theorem Av7 (va vb:Value) (x:Gs) (Fa Fb:List Nat) (w:World) (ha:Jy Dt w va x Fa) (hb:Jy Dt w vb x Fb):Calls prog 298 #[va,vb] w (RB (.bool true) w):=by
 refine Fh (A:=[.isv Dt va x Fa,.isv Dt vb x Fb]) ?_ rfl (N0 ha hb);clear ha hb w;refine enter func298 rfl ntmps298 fun w0=>?_;refine T5 (v:=va) (x:=x) (F:=Fa) ?_;rintro a1 c1 F1 rfl -;refine T5 (v:=vb) (x:=x) (F:=Fb) ?_;rintro b1 d1 G1 rfl -;refine go ?_;intros;refine Ax rfl (fun h=>absurd rfl h) (fun _=>?_);refine go ?_;refine cb (fun w st=>Ao5 _ _ x.Bj F1 G1 w (st.get (p:=.sl _ _ _ _) FO).2 (st.get (p:=.sl _ _ _ _) FO).2) ?_;refine go ?_;refine Ax rfl (fun h=>absurd rfl h) (fun _=>?_);exact AA
theorem Asg (va vb:Value) (xs:List Gs) (Fa Fb:List Nat) (w:World) (ha:Sl Dt w va xs Fa) (hb:Sl Dt w vb xs Fb):Calls prog 226 #[va,vb] w (RB (.bool true) w):=by
 refine Fh (A:=[.sl Dt va xs Fa,.sl Dt vb xs Fb]) ?_ rfl (N0 ⟨FM,ha⟩ ⟨FM,hb⟩);clear ha hb w;have hfn:=func226;have hnt:=ntmps226;have heq:=Av7;exact Ahb
theorem Ao4 (va vb:Value) (x:Bf) (Fa Fb:List Nat) (w:World) (ha:Jy Bk w va x Fa) (hb:Jy Bk w vb x Fb):Calls prog 131 #[va,vb] w (RB (.bool true) w):=by
 refine Fh (A:=[.isv Bk va x Fa,.isv Bk vb x Fb]) ?_ rfl (N0 ha hb);clear ha hb w;refine enter func131 rfl ntmps131 fun w0=>?_;refine Ga (v:=va) (x:=x) (F:=Fa) ?_;rintro a1 c1 F1 rfl -;refine Ga (v:=vb) (x:=x) (F:=Fb) ?_;rintro b1 d1 G1 rfl -;refine go ?_;intros;refine Ax rfl (fun h=>absurd rfl h) (fun _=>?_);refine go ?_;refine cb (fun w st=>Asg _ _ x.Ah F1 G1 w (st.get (p:=.sl _ _ _ _) FO).2 (st.get (p:=.sl _ _ _ _) FO).2) ?_;exact AA
theorem Am0 (va vb:Value) (xs:List Bf) (Fa Fb:List Nat) (w:World) (ha:Sl Bk w va xs Fa) (hb:Sl Bk w vb xs Fb):Calls prog 57 #[va,vb] w (RB (.bool true) w):=by
 refine Fh (A:=[.sl Bk va xs Fa,.sl Bk vb xs Fb]) ?_ rfl (N0 ⟨FM,ha⟩ ⟨FM,hb⟩);clear ha hb w;have hfn:=func57;have hnt:=ntmps57;have heq:=Ao4;exact Ahb
theorem Ab9 (va vb:Value) (x:Aj) (Fa Fb:List Nat) (w:World) (ha:Jy Bh w va x Fa) (hb:Jy Bh w vb x Fb):Calls prog 227 #[va,vb] w (RB (.bool true) w):=by
 refine Fh (A:=[.isv Bh va x Fa,.isv Bh vb x Fb]) ?_ rfl (N0 ha hb);clear ha hb w;refine enter func227 rfl ntmps227 fun w0=>?_;refine Cd (v:=va) (x:=x) (F:=Fa) ?_;rintro a1 c1 F1 rfl -;refine Cd (v:=vb) (x:=x) (F:=Fb) ?_;rintro b1 d1 G1 rfl -;refine go ?_;intros;refine Ax rfl (fun h=>absurd rfl h) (fun _=>?_);refine go ?_;refine cb (fun w st=>Av9 _ _ x.Am F1 G1 w (st.get (p:=.sl _ _ _ _) FO).2 (st.get (p:=.sl _ _ _ _) FO).2) ?_;exact AA
theorem Am1 (va vb:Value) (x:Az) (Fa Fb:List Nat) (w:World) (ha:Jy Bi w va x Fa) (hb:Jy Bi w vb x Fb):Calls prog 132 #[va,vb] w (RB (.bool true) w):=by
 refine Fh (A:=[.isv Bi va x Fa,.isv Bi vb x Fb]) ?_ rfl (N0 ha hb);clear ha hb w;refine enter func132 rfl ntmps132 fun w0=>?_;refine Es (v:=va) (x:=x) (F:=Fa) ?_;rintro a1 c1 F1 a2 c2 F2 rfl - -;refine Es (v:=vb) (x:=x) (F:=Fb) ?_;rintro b1 d1 G1 b2 d2 G2 rfl - -;refine B4 x.Aa (a1:=a1) (F1:=F1) ?_;refine B4 x.Aa (a1:=b1) (F1:=G1) ?_;refine go ?_;intros;refine Ax rfl (fun h=>absurd rfl h) (fun _=>?_);refine go ?_;refine Ax rfl (fun h=>absurd rfl h) (fun _=>?_);refine go ?_
 refine cb (fun w st=>Ab9 _ _ x.Aa _ _ w (st.get (p:=.isv _ _ _ _) FO) (st.get (p:=.isv _ _ _ _) FO)) ?_;refine go ?_;refine cb (fun w st=>Am2 _ _ x.Al F2 G2 w (st.get (p:=.sl _ _ _ _) FO).2 (st.get (p:=.sl _ _ _ _) FO).2) ?_;exact AA
theorem Aj4 (va vb:Value) (xs:List Az) (Fa Fb:List Nat) (w:World) (ha:Sl Bi w va xs Fa) (hb:Sl Bi w vb xs Fb):Calls prog 58 #[va,vb] w (RB (.bool true) w):=by
 refine Fh (A:=[.sl Bi va xs Fa,.sl Bi vb xs Fb]) ?_ rfl (N0 ⟨FM,ha⟩ ⟨FM,hb⟩);clear ha hb w;have hfn:=func58;have hnt:=ntmps58;have heq:=Am1;exact Ahb
theorem Ab8 (va vb:Value) (xs:List (List Ar)) (Fa Fb:List Nat) (w:World) (ha:Sl (Mr Ak FM) w va xs Fa) (hb:Sl (Mr Ak FM) w vb xs Fb):Calls prog 59 #[va,vb] w (RB (.bool true) w):=by
 refine Fh (A:=[.sl (Mr Ak FM) va xs Fa,.sl (Mr Ak FM) vb xs Fb]) ?_ rfl (N0 ⟨FM,ha⟩ ⟨FM,hb⟩);clear ha hb w;refine enter func59 rfl ntmps59 fun w0=>?_;refine Xq (v:=va) (xs:=xs) (F:=Fa) ?_;rintro a c rfl h1 h2;refine Xq (v:=vb) (xs:=xs) (F:=Fb) ?_;rintro a' c' rfl h1' h2';refine go ?_;refine Ax rfl (fun h=>absurd rfl h) (fun _=>?_);refine go ?_;refine D8 [0,1] (fun k:Nat=>[(5,.int .i64 (k:Nat))]) (fun k=>k≤xs.length) (fun k=>xs.length - k) 0 (Nat.zero_le _) fun k hk0=>?_;refine go ?_;refine Ax rfl (fun h3=>?_) (fun h3=>?_)
 ·have hk:k < xs.length:=FJ
  refine Np (E:=Ak) (hz:=FM) (a:=a) (F:=Fa) (xs:=xs) k ?_;rintro hi b o a1 c1 F1 ea l1;refine Np (E:=Ak) (hz:=FM) (a:=a') (F:=Fb) (xs:=xs) k ?_;rintro hi' b' o' b1 d1 G1 eb l1';subst ea eb;refine go ?_;refine Ahg [] ?_;refine Ds 0 1 2 3 ?_;refine Ds 4 5 6 7 ?_;refine dN 8 ?_;refine oC ?_;refine cb (fun w st=>Ao6 _ _ xs[k] F1 G1 w (st.get (p:=.sl _ _ _ _) FO).2 (st.get (p:=.sl _ _ _ _) FO).2) ?_;refine dk ?_;refine dt 9 ?_;refine dd ?_;refine go ?_;exact AJ
 ·exact AA
theorem Beb (va vb:Value) (x:Du) (Fa Fb:List Nat) (w:World) (ha:Jy Ny w va x Fa) (hb:Jy Ny w vb x Fb):Calls prog 23 #[va,vb] w (RB (.bool true) w):=by
 refine Fh (A:=[.isv Ny va x Fa,.isv Ny vb x Fb]) ?_ rfl (N0 ha hb);clear ha hb w;refine enter func23 rfl ntmps23 fun w0=>?_;refine Hm (v:=va) (x:=x) (F:=Fa) ?_;rintro a1 c1 F1 a2 c2 F2 a3 c3 F3 a4 c4 F4 a5 c5 F5 a6 c6 F6 a7 c7 F7 rfl - - - - - - -;refine Hm (v:=vb) (x:=x) (F:=Fb) ?_;rintro b1 d1 G1 b2 d2 G2 b3 d3 G3 b4 d4 G4 b5 d5 G5 b6 d6 G6 b7 d7 G7 rfl - - - - - - -;refine Iu x.An (a1:=a1) (F1:=F1) ?_;refine Gt x.Ab (a1:=a2) (F1:=F2) (a2:=a3) (F2:=F3) ?_;refine Iu x.An (a1:=b1) (F1:=G1) ?_;refine Gt x.Ab (a1:=b2) (F1:=G2) (a2:=b3) (F2:=G3) ?_;refine go ?_;intros
 refine cb (fun w st=>Az7 _ _ x.An _ _ w (st.get (p:=.isv _ _ _ _) FO) (st.get (p:=.isv _ _ _ _) FO)) ?_;refine go ?_;refine cb (fun w st=>Asi _ _ x.Ab _ _ w (st.get (p:=.isv _ _ _ _) FO) (st.get (p:=.isv _ _ _ _) FO)) ?_;refine go ?_;refine cb (fun w st=>Am0 _ _ x.Af F4 G4 w (st.get (p:=.sl _ _ _ _) FO).2 (st.get (p:=.sl _ _ _ _) FO).2) ?_;refine go ?_;refine cb (fun w st=>Aj4 _ _ x.Ac F5 G5 w (st.get (p:=.sl _ _ _ _) FO).2 (st.get (p:=.sl _ _ _ _) FO).2) ?_;refine go ?_
 refine cb (fun w st=>Ab8 _ _ x.down F6 G6 w (st.get (p:=.sl _ _ _ _) FO).2 (st.get (p:=.sl _ _ _ _) FO).2) ?_;refine go ?_;refine cb (fun w st=>Ab8 _ _ x.up F7 G7 w (st.get (p:=.sl _ _ _ _) FO).2 (st.get (p:=.sl _ _ _ _) FO).2) ?_;exact AA
theorem Aox {p:Prop} (h:p:=by
 refine enter hfn rfl hnt fun w0=>?_;refine Xq (xs:=xs) ?_;rintro a c rfl hc1 hc2;refine go ?_;refine Ax rfl (fun h2=>?_) (fun h2=>?_)
 ·refine go ?_;refine ret () trivial ?_;rw [Lk (by have:=Xu wf xs 0;omega)];rfl
 refine go ?_;rw [show n - (xs.length:Int)=n - xs.length - ((Hk wf xs 0:Nat):Int) by rw [Qm];omega];refine D8 [0] (fun k:Nat=>[(1,.int .i64 (n - xs.length - ((Hk wf xs k:Nat):Int))),(5,.int .i64 (k:Nat))]) (fun k=>k≤xs.length∧((Hk wf xs k:Nat):Int)+xs.length≤n) (fun k=>xs.length - k) 0 ⟨Nat.zero_le _,by rw [Qm];omega⟩ fun k hk0=>?_;obtain ⟨hk0,hle⟩:=hk0;refine go ?_;refine Ax rfl (fun h3=>?_) (fun h3=>?_)
 ·have hk:k < xs.length:=FJ
  have hps:=Ql wf xs k hk;have hpl:=Xu wf xs (k+1);refine Aul (xs:=xs) k hk ?_;rintro b o cs G1 rfl hcl;refine go ?_;apply wO;apply oc;rfl;exact Adj rfl FO (hcl▸Cut.whole cs);refine go ?_;refine cb (fun w st=>hsz _ xs[k] G1 (n - xs.length - ((Hk wf xs k:Nat):Int)) w (st.get (p:=.isv _ _ _ _) FO) FJ FJ) ?_;rcases Nf (n - xs.length - ((Hk wf xs k:Nat):Int)) (wf xs[k]) with ⟨e1,l1⟩|⟨e1,l1⟩
  ·rw [e1];refine go ?_;refine ret () trivial ?_;rw [Lk FJ];rfl
  ·exact BO
 ·obtain rfl:k=xs.length:=FJ
  refine go ?_;refine ret () trivial ?_;rw [P2 (by rw [Ae3];omega),Ae3,show n - (xs.length:Int) - ((Hk wf xs xs.length:Nat):Int)=n - ((xs.length+Hk wf xs xs.length:Nat):Int) by omega];rfl):p:=h
theorem Ayo (v:Value) (xs:List Gh) (F:List Nat) (n:Int) (w:World) (h:Sl B9 w v xs F) (h0:0≤n) (h1:n≤1048576):Calls prog 234 #[v,.int .i64 n] w (RB (.int .i64 (Ze n (Kn Rv xs))) w):=by
 refine Fh (A:=[.sl B9 v xs F]) ?_ rfl (En ⟨FM,h⟩);clear h w;have hfn:=func234;have hnt:=ntmps234;have hsz:=Bck;obtain ⟨wf,hwf⟩:∃f,f=Rv:=⟨_,rfl⟩;rw [←hwf] at hsz ⊢;exact Aox
theorem Aq9 (v:Value) (xs:List Ar) (F:List Nat) (n:Int) (w:World) (h:Sl Ak w v xs F) (h0:0≤n) (h1:n≤1048576):Calls prog 75 #[v,.int .i64 n] w (RB (.int .i64 (Ze n (Kn Ej xs))) w):=by
 refine Fh (A:=[.sl Ak v xs F]) ?_ rfl (En ⟨FM,h⟩);clear h w;have hfn:=func75;have hnt:=ntmps75;have hsz:=Aty;obtain ⟨wf,hwf⟩:∃f,f=Ej:=⟨_,rfl⟩;rw [←hwf] at hsz ⊢;exact Aox
theorem Bcl (v:Value) (x:Qo) (F:List Nat) (n:Int) (w:World) (h:Jy Po w v x F) (h0:0≤n) (h1:n≤1048576):Calls prog 27 #[v,.int .i64 n] w (RB (.int .i64 (Ze n (Oe x))) w):=by
 refine Fh (A:=[.isv Po v x F]) ?_ rfl (En h);clear h w;unfold Oe;refine enter func27 rfl ntmps27 fun w0=>?_;refine N2 ?_;rintro a1 c1 F1 rfl -;refine go ?_;intros;refine cb (fun w st=>Aq8 _ x.Ad F1 (n) w (st.get (p:=.sl _ _ _ _) FO).2 FJ FJ) ?_;rcases Nf (n) (Kn (fun _=>0) x.Ad) with ⟨e1,l1⟩|⟨e1,l1⟩
 ·rw [e1];refine go ?_;refine ret () trivial ?_
  first|rfl|(rw [Lk FJ];rfl)
 rw [e1];clear e1;refine go ?_;refine Ax rfl (fun h=>absurd h FJ) (fun _=>?_);refine go ?_;refine ret () trivial ?_
 first|rfl|(rw [P2 FJ];exact congrArg (Value.int .i64) FJ)
theorem Aje (v:Value) (x:Aw) (F:List Nat) (n:Int) (w:World) (h:Jy Bv w v x F) (h0:0≤n) (h1:n≤1048576):Calls prog 71 #[v,.int .i64 n] w (RB (.int .i64 (Ze n (Jw x))) w):=by
 refine Fh (A:=[.isv Bv v x F]) ?_ rfl (En h);clear h w;unfold Jw;refine enter func71 rfl ntmps71 fun w0=>?_;refine Et ?_;rintro a1 c1 F1 rfl -;refine go ?_;intros;refine cb (fun w st=>Ara _ x.Ao F1 (n) w (st.get (p:=.sl _ _ _ _) FO).2 FJ FJ) ?_;rcases Nf (n) (Kn ByteArray.size x.Ao) with ⟨e1,l1⟩|⟨e1,l1⟩
 ·rw [e1];refine go ?_;refine ret () trivial ?_
  first|rfl|(rw [Lk FJ];rfl)
 rw [e1];clear e1;refine go ?_;refine Ax rfl (fun h=>absurd h FJ) (fun _=>?_);refine go ?_;refine ret () trivial ?_
 first|rfl|(rw [P2 FJ];exact congrArg (Value.int .i64) FJ)
theorem Atz (v:Value) (x:Ck) (F:List Nat) (n:Int) (w:World) (h:Jy Do w v x F) (h0:0≤n) (h1:n≤1048576):Calls prog 28 #[v,.int .i64 n] w (RB (.int .i64 (Ze n (Ko x))) w):=by
 refine Fh (A:=[.isv Do v x F]) ?_ rfl (En h);clear h w;unfold Ko;refine enter func28 rfl ntmps28 fun w0=>?_;refine Ht ?_;rintro a1 c1 F1 a2 c2 F2 rfl - -;refine Cv x.Aa (a1:=a1) (F1:=F1) ?_;refine go ?_;intros;refine cb (fun w st=>Aje _ x.Aa (F1) (n) w (st.get (p:=.isv _ _ _ _) FO) FJ FJ) ?_;rcases Nf (n) (Jw x.Aa) with ⟨e1,l1⟩|⟨e1,l1⟩
 ·rw [e1];refine go ?_;refine ret () trivial ?_
  first|rfl|(rw [Lk FJ];rfl)
 rw [e1];clear e1;refine go ?_;refine Ax rfl (fun h=>absurd h FJ) (fun _=>?_);refine go ?_;refine cb (fun w st=>Ayn _ x.holds F2 (n - ((Jw x.Aa:Nat):Int)) w (st.get (p:=.sl _ _ _ _) FO).2 FJ FJ) ?_;rcases Nf (n - ((Jw x.Aa:Nat):Int)) (Kn (fun _=>0) x.holds) with ⟨e1,l1⟩|⟨e1,l1⟩
 ·rw [e1];refine go ?_;refine ret () trivial ?_
  first|rfl|(rw [Lk FJ];rfl)
 rw [e1];clear e1;refine go ?_;refine Ax rfl (fun h=>absurd h FJ) (fun _=>?_);refine go ?_;refine ret () trivial ?_
 first|rfl|(rw [P2 FJ];exact congrArg (Value.int .i64) FJ)
theorem Aym (v:Value) (x:Gs) (F:List Nat) (n:Int) (w:World) (h:Jy Dt w v x F) (h0:0≤n) (h1:n≤1048576):Calls prog 233 #[v,.int .i64 n] w (RB (.int .i64 (Ze n (M5 x))) w):=by
 refine Fh (A:=[.isv Dt v x F]) ?_ rfl (En h);clear h w;unfold M5;refine enter func233 rfl ntmps233 fun w0=>?_;refine T5 ?_;rintro a1 c1 F1 rfl -;refine go ?_;intros;refine cb (fun w st=>Aq8 _ x.Bj F1 (n) w (st.get (p:=.sl _ _ _ _) FO).2 FJ FJ) ?_;rcases Nf (n) (Kn (fun _=>0) x.Bj) with ⟨e1,l1⟩|⟨e1,l1⟩
 ·rw [e1];refine go ?_;refine ret () trivial ?_
  first|rfl|(rw [Lk FJ];rfl)
 rw [e1];clear e1;refine go ?_;refine Ax rfl (fun h=>absurd h FJ) (fun _=>?_);refine go ?_;refine ret () trivial ?_
 first|rfl|(rw [P2 FJ];exact congrArg (Value.int .i64) FJ)
theorem Atx (v:Value) (xs:List Gs) (F:List Nat) (n:Int) (w:World) (h:Sl Dt w v xs F) (h0:0≤n) (h1:n≤1048576):Calls prog 149 #[v,.int .i64 n] w (RB (.int .i64 (Ze n (Kn M5 xs))) w):=by
 refine Fh (A:=[.sl Dt v xs F]) ?_ rfl (En ⟨FM,h⟩);clear h w;have hfn:=func149;have hnt:=ntmps149;have hsz:=Aym;obtain ⟨wf,hwf⟩:∃f,f=M5:=⟨_,rfl⟩;rw [←hwf] at hsz ⊢;exact Aox
theorem Aq7 (v:Value) (x:Bf) (F:List Nat) (n:Int) (w:World) (h:Jy Bk w v x F) (h0:0≤n) (h1:n≤1048576):Calls prog 73 #[v,.int .i64 n] w (RB (.int .i64 (Ze n (E9 x))) w):=by
 refine Fh (A:=[.isv Bk v x F]) ?_ rfl (En h);clear h w;unfold E9;refine enter func73 rfl ntmps73 fun w0=>?_;refine Ga ?_;rintro a1 c1 F1 rfl -;refine go ?_;intros;refine cb (fun w st=>Atx _ x.Ah F1 (n) w (st.get (p:=.sl _ _ _ _) FO).2 FJ FJ) ?_;rcases Nf (n) (Kn M5 x.Ah) with ⟨e1,l1⟩|⟨e1,l1⟩
 ·rw [e1];refine go ?_;refine ret () trivial ?_
  first|rfl|(rw [Lk FJ];rfl)
 rw [e1];clear e1;refine go ?_;refine Ax rfl (fun h=>absurd h FJ) (fun _=>?_);refine go ?_;refine ret () trivial ?_
 first|rfl|(rw [P2 FJ];exact congrArg (Value.int .i64) FJ)
theorem Anv (v:Value) (xs:List Bf) (F:List Nat) (n:Int) (w:World) (h:Sl Bk w v xs F) (h0:0≤n) (h1:n≤1048576):Calls prog 29 #[v,.int .i64 n] w (RB (.int .i64 (Ze n (Kn E9 xs))) w):=by
 refine Fh (A:=[.sl Bk v xs F]) ?_ rfl (En ⟨FM,h⟩);clear h w;have hfn:=func29;have hnt:=ntmps29;have hsz:=Aq7;obtain ⟨wf,hwf⟩:∃f,f=E9:=⟨_,rfl⟩;rw [←hwf] at hsz ⊢;exact Aox
theorem Ac9 (v:Value) (x:Aj) (F:List Nat) (n:Int) (w:World) (h:Jy Bh w v x F) (h0:0≤n) (h1:n≤1048576):Calls prog 150 #[v,.int .i64 n] w (RB (.int .i64 (Ze n (In x))) w):=by
 refine Fh (A:=[.isv Bh v x F]) ?_ rfl (En h);clear h w;unfold In;refine enter func150 rfl ntmps150 fun w0=>?_;refine Cd ?_;rintro a1 c1 F1 rfl -;refine go ?_;intros;refine cb (fun w st=>Ayo _ x.Am F1 (n) w (st.get (p:=.sl _ _ _ _) FO).2 FJ FJ) ?_;rcases Nf (n) (Kn Rv x.Am) with ⟨e1,l1⟩|⟨e1,l1⟩
 ·rw [e1];refine go ?_;refine ret () trivial ?_
  first|rfl|(rw [Lk FJ];rfl)
 rw [e1];clear e1;refine go ?_;refine Ax rfl (fun h=>absurd h FJ) (fun _=>?_);refine go ?_;refine ret () trivial ?_
 first|rfl|(rw [P2 FJ];exact congrArg (Value.int .i64) FJ)
theorem Anw (v:Value) (x:Az) (F:List Nat) (n:Int) (w:World) (h:Jy Bi w v x F) (h0:0≤n) (h1:n≤1048576):Calls prog 74 #[v,.int .i64 n] w (RB (.int .i64 (Ze n (Gg x))) w):=by
 refine Fh (A:=[.isv Bi v x F]) ?_ rfl (En h);clear h w;unfold Gg;refine enter func74 rfl ntmps74 fun w0=>?_;refine Es ?_;rintro a1 c1 F1 a2 c2 F2 rfl - -;refine B4 x.Aa (a1:=a1) (F1:=F1) ?_;refine go ?_;intros;refine cb (fun w st=>Ac9 _ x.Aa (F1) (n) w (st.get (p:=.isv _ _ _ _) FO) FJ FJ) ?_;rcases Nf (n) (In x.Aa) with ⟨e1,l1⟩|⟨e1,l1⟩
 ·rw [e1];refine go ?_;refine ret () trivial ?_
  first|rfl|(rw [Lk FJ];rfl)
 rw [e1];clear e1;refine go ?_;refine Ax rfl (fun h=>absurd h FJ) (fun _=>?_);refine go ?_;refine cb (fun w st=>Anx _ x.Al F2 (n - ((In x.Aa:Nat):Int)) w (st.get (p:=.sl _ _ _ _) FO).2 FJ FJ) ?_;rcases Nf (n - ((In x.Aa:Nat):Int)) (Kn (fun _=>0) x.Al) with ⟨e1,l1⟩|⟨e1,l1⟩
 ·rw [e1];refine go ?_;refine ret () trivial ?_
  first|rfl|(rw [Lk FJ];rfl)
 rw [e1];clear e1;refine go ?_;refine Ax rfl (fun h=>absurd h FJ) (fun _=>?_);refine go ?_;refine ret () trivial ?_
 first|rfl|(rw [P2 FJ];exact congrArg (Value.int .i64) FJ)
theorem Akm (v:Value) (xs:List Az) (F:List Nat) (n:Int) (w:World) (h:Sl Bi w v xs F) (h0:0≤n) (h1:n≤1048576):Calls prog 30 #[v,.int .i64 n] w (RB (.int .i64 (Ze n (Kn Gg xs))) w):=by
 refine Fh (A:=[.sl Bi v xs F]) ?_ rfl (En ⟨FM,h⟩);clear h w;have hfn:=func30;have hnt:=ntmps30;have hsz:=Anw;obtain ⟨wf,hwf⟩:∃f,f=Gg:=⟨_,rfl⟩;rw [←hwf] at hsz ⊢;exact Aox
theorem Ac8 (v:Value) (xs:List (List Ar)) (F:List Nat) (n:Int) (w:World) (h:Sl (Mr Ak FM) w v xs F) (h0:0≤n) (h1:n≤1048576):Calls prog 31 #[v,.int .i64 n] w (RB (.int .i64 (Ze n (Kn (Kn Ej) xs))) w):=by
 refine Fh (A:=[.sl (Mr Ak FM) v xs F]) ?_ rfl (En ⟨FM,h⟩);clear h w;have hfn:=func31;have hnt:=ntmps31;obtain ⟨wf,hwf⟩:∃f,f=(Kn Ej):=⟨_,rfl⟩;rw [←hwf];refine enter hfn rfl hnt fun w0=>?_;refine Xq (xs:=xs) ?_;rintro a c rfl hc1 hc2;refine go ?_;refine Ax rfl (fun h2=>?_) (fun h2=>?_)
 ·refine go ?_;refine ret () trivial ?_;rw [Lk (by have:=Xu wf xs 0;omega)];rfl
 refine go ?_;rw [show n - (xs.length:Int)=n - xs.length - ((Hk wf xs 0:Nat):Int) by rw [Qm];omega];refine D8 [0] (fun k:Nat=>[(1,.int .i64 (n - xs.length - ((Hk wf xs k:Nat):Int))),(5,.int .i64 (k:Nat))]) (fun k=>k≤xs.length∧((Hk wf xs k:Nat):Int)+xs.length≤n) (fun k=>xs.length - k) 0 ⟨Nat.zero_le _,by rw [Qm];omega⟩ fun k hk0=>?_;obtain ⟨hk0,hle⟩:=hk0;refine go ?_;refine Ax rfl (fun h3=>?_) (fun h3=>?_)
 ·have hk:k < xs.length:=FJ
  have hps:=Ql wf xs k hk;have hpl:=Xu wf xs (k+1);refine Np (E:=Ak) (hz:=FM) (xs:=xs) k ?_;rintro hi b o a1 c1 F1 rfl l1;refine go ?_;refine cb (fun w st=>Aq9 _ xs[k] F1 (n - xs.length - ((Hk wf xs k:Nat):Int)) w (st.get (p:=.sl _ _ _ _) FO).2 FJ FJ) ?_;rw [←hwf];rcases Nf (n - xs.length - ((Hk wf xs k:Nat):Int)) (wf xs[k]) with ⟨e1,l1⟩|⟨e1,l1⟩
  ·rw [e1];refine go ?_;refine ret () trivial ?_;rw [Lk FJ];rfl
  ·exact BO
 ·obtain rfl:k=xs.length:=FJ
  refine go ?_;refine ret () trivial ?_;rw [P2 (by rw [Ae3];omega),Ae3,show n - (xs.length:Int) - ((Hk wf xs xs.length:Nat):Int)=n - ((xs.length+Hk wf xs xs.length:Nat):Int) by omega];rfl
theorem Bfr (v:Value) (x:Du) (F:List Nat) (n:Int) (w:World) (h:Jy Ny w v x F) (h0:0≤n) (h1:n≤1048576):Calls prog 11 #[v,.int .i64 n] w (RB (.int .i64 (Ze n (Zj x))) w):=by
 refine Fh (A:=[.isv Ny v x F]) ?_ rfl (En h);clear h w;unfold Zj;refine enter func11 rfl ntmps11 fun w0=>?_;refine Hm ?_;rintro a1 c1 F1 a2 c2 F2 a3 c3 F3 a4 c4 F4 a5 c5 F5 a6 c6 F6 a7 c7 F7 rfl - - - - - - -;refine Iu x.An (a1:=a1) (F1:=F1) ?_;refine Gt x.Ab (a1:=a2) (F1:=F2) (a2:=a3) (F2:=F3) ?_;refine go ?_;intros;refine cb (fun w st=>Bcl _ x.An (F1) (n) w (st.get (p:=.isv _ _ _ _) FO) FJ FJ) ?_;rcases Nf (n) (Oe x.An) with ⟨e1,l1⟩|⟨e1,l1⟩
 ·rw [e1];refine go ?_;refine ret () trivial ?_
  first|rfl|(rw [Lk FJ];rfl)
 rw [e1];clear e1;refine go ?_;refine Ax rfl (fun h=>absurd h FJ) (fun _=>?_);refine go ?_;refine cb (fun w st=>Atz _ x.Ab (F2++F3) (n - ((Oe x.An:Nat):Int)) w (st.get (p:=.isv _ _ _ _) FO) FJ FJ) ?_;rcases Nf (n - ((Oe x.An:Nat):Int)) (Ko x.Ab) with ⟨e1,l1⟩|⟨e1,l1⟩
 ·rw [e1];refine go ?_;refine ret () trivial ?_
  first|rfl|(rw [Lk FJ];rfl)
 rw [e1];clear e1;refine go ?_;refine Ax rfl (fun h=>absurd h FJ) (fun _=>?_);refine go ?_;refine cb (fun w st=>Anv _ x.Af F4 (n - ((Oe x.An:Nat):Int) - ((Ko x.Ab:Nat):Int)) w (st.get (p:=.sl _ _ _ _) FO).2 FJ FJ) ?_;rcases Nf (n - ((Oe x.An:Nat):Int) - ((Ko x.Ab:Nat):Int)) (Kn E9 x.Af) with ⟨e1,l1⟩|⟨e1,l1⟩
 ·rw [e1];refine go ?_;refine ret () trivial ?_
  first|rfl|(rw [Lk FJ];rfl)
 rw [e1];clear e1;refine go ?_;refine Ax rfl (fun h=>absurd h FJ) (fun _=>?_);refine go ?_;refine cb (fun w st=>Akm _ x.Ac F5 (n - ((Oe x.An:Nat):Int) - ((Ko x.Ab:Nat):Int) - ((Kn E9 x.Af:Nat):Int)) w (st.get (p:=.sl _ _ _ _) FO).2 FJ FJ) ?_;rcases Nf (n - ((Oe x.An:Nat):Int) - ((Ko x.Ab:Nat):Int) - ((Kn E9 x.Af:Nat):Int)) (Kn Gg x.Ac) with ⟨e1,l1⟩|⟨e1,l1⟩
 ·rw [e1];refine go ?_;refine ret () trivial ?_
  first|rfl|(rw [Lk FJ];rfl)
 rw [e1];clear e1;refine go ?_;refine Ax rfl (fun h=>absurd h FJ) (fun _=>?_);refine go ?_;refine cb (fun w st=>Ac8 _ x.down F6 (n - ((Oe x.An:Nat):Int) - ((Ko x.Ab:Nat):Int) - ((Kn E9 x.Af:Nat):Int) - ((Kn Gg x.Ac:Nat):Int)) w (st.get (p:=.sl _ _ _ _) FO).2 FJ FJ) ?_;rcases Nf (n - ((Oe x.An:Nat):Int) - ((Ko x.Ab:Nat):Int) - ((Kn E9 x.Af:Nat):Int) - ((Kn Gg x.Ac:Nat):Int)) (Kn (Kn Ej) x.down) with ⟨e1,l1⟩|⟨e1,l1⟩
 ·rw [e1];refine go ?_;refine ret () trivial ?_
  first|rfl|(rw [Lk FJ];rfl)
 rw [e1];clear e1;refine go ?_;refine Ax rfl (fun h=>absurd h FJ) (fun _=>?_);refine go ?_;refine cb (fun w st=>Ac8 _ x.up F7 (n - ((Oe x.An:Nat):Int) - ((Ko x.Ab:Nat):Int) - ((Kn E9 x.Af:Nat):Int) - ((Kn Gg x.Ac:Nat):Int) - ((Kn (Kn Ej) x.down:Nat):Int)) w (st.get (p:=.sl _ _ _ _) FO).2 FJ FJ) ?_;rcases Nf (n - ((Oe x.An:Nat):Int) - ((Ko x.Ab:Nat):Int) - ((Kn E9 x.Af:Nat):Int) - ((Kn Gg x.Ac:Nat):Int) - ((Kn (Kn Ej) x.down:Nat):Int)) (Kn (Kn Ej) x.up) with ⟨e1,l1⟩|⟨e1,l1⟩
 ·rw [e1];refine go ?_;refine ret () trivial ?_
  first|rfl|(rw [Lk FJ];rfl)
 rw [e1];clear e1;refine go ?_;refine Ax rfl (fun h=>absurd h FJ) (fun _=>?_);refine go ?_;refine ret () trivial ?_
 first|rfl|(rw [P2 FJ];exact congrArg (Value.int .i64) FJ)
theorem Sa {α:Type} {ys xs:List α} (h:ys.length=xs.length:=by exact Bz ..):ys.take xs.length++xs.drop xs.length=ys:=by rw [List.take_of_length_le FJ,List.drop_length,List.append_nil]
theorem Bhd {α:Type} {O:Br α} {t:TypeId} {P:Program} {f:FuncId} {v:Value} {xs:List α} {F:List Nat} {A:List Pc} {args:List Value} {σ:Type} {C:σ→Prop} {r:σ→Value} {N:σ→List Pc} (h:∀a c,v=.slice a xs.length c→xs.length≤maxLen→Fn P f args A [.ow O t v xs F] C r N):Fn P f args A [.ow O t v xs F] C r N:=fun w hH hS=>by
 obtain ⟨-,ho⟩:=hH (.ow O t v xs F) FK;obtain ⟨a,c,e⟩:=ho.slice;exact h a c e ho.len w hH hS
structure MkF {α:Type} (mk:Int→α→α) (cn:α→Nat) (k0:Int) (xs:List α) (i:Nat) (K:Int):Prop where
 hi:i < xs.length
 st:((Cy mk cn k0 xs).take i++xs.drop i).set i (mk K xs[i])=(Cy mk cn k0 xs).take (i+1)++xs.drop (i+1)
 nx:K+((cn xs[i]:Nat):Int)=k0+((Hk cn xs (i+1):Nat):Int)
 up:K+((cn xs[i]:Nat):Int)≤k0+((B8 cn xs:Nat):Int)
 lo:k0≤K
 ml:((Cy mk cn k0 xs).take i++xs.drop i).length=xs.length
theorem R7 {α:Type} {O:Br α} {t:TypeId} {P:Program} {f:FuncId} {v:Value} {xs:List α} {F:List Nat} {mk:Int→α→α} {cn:α→Nat} {k0:Int}
  (h:∀a c q,q=k0+((Hk cn xs 0:Nat):Int)→xs.length≤maxLen→Fn P f [.slice a xs.length c,.int .i64 q] [] [.ow O t (.slice a xs.length c) xs F] (fun (_:List Nat)=>True) (fun _=>.int .i64 (k0+B8 cn xs)) (fun G=>[.ow O t (.slice a xs.length c) (Cy mk cn k0 xs) G])):Fn P f [v,.int .i64 k0] [] [.ow O t v xs F] (fun (_:List Nat)=>True) (fun _=>.int .i64 (k0+B8 cn xs)) (fun G=>[.ow O t v (Cy mk cn k0 xs) G]) :=
 Bhd fun a c e hln=>by subst e;exact h a c k0 (by rw [Qm];omega) hln
theorem Vf {c:Cx} {fr:Fr} {H:List Pc} {α:Type} {O:Br α} {t:TypeId} {v:Value} {mk:Int→α→α} {cn:α→Nat} {k0:Int} {xs:List α} {F:List Nat} {k:List It} {x:Code} {rest:List Pc} {cst:Fr} (ks:List Nat) (d1 d2:Nat)
  (round:∀i G K,i≤xs.length→K=k0+((Hk cn xs i:Nat):Int)→(i < xs.length→MkF mk cn k0 xs i K)→T c ([(d1,.int .i64 K),(d2,.int .i64 (i:Nat))]++cst) ([.ow O t v ((Cy mk cn k0 xs).take i++xs.drop i) G]++rest) (.code (.lp (LpN c (fun s:Nat × List Nat=>[(d1,.int .i64 (k0+((Hk cn xs s.1:Nat):Int))),(d2,.int .i64 (s.1:Nat))]++cst) (fun s=>[.ow O t v ((Cy mk cn k0 xs).take s.1++xs.drop s.1) s.2]++rest) (fun s=>s.1≤xs.length) (fun s=>xs.length - s.1) (xs.length - i))::k) x))
  (hp:Io H [.ow O t v ((Cy mk cn k0 xs).take 0++xs.drop 0) F] rest:=by exact Abo) (hk:Kf fr ks cst:=by repeat (first|exact Kf.nil|apply Kf.cons GG)) (hf:Mb fr [(d1,.int .i64 (k0+((Hk cn xs 0:Nat):Int))),(d2,.int .i64 ((0:Nat):Int))]:=by exact frE):T c fr H (.code k (Code.loop x)) :=
 Cj ks (fun s:Nat × List Nat=>[(d1,.int .i64 (k0+((Hk cn xs s.1:Nat):Int))),(d2,.int .i64 (s.1:Nat))]) (fun s=>[.ow O t v ((Cy mk cn k0 xs).take s.1++xs.drop s.1) s.2]) (fun s=>s.1≤xs.length) (fun s=>xs.length - s.1) (0,F) (Nat.zero_le _) (fun s hs=>round s.1 s.2 _ hs rfl fun hi=>by
  have h1:=Ql cn xs s.1 hi;have h2:=Aun cn xs (s.1+1);exact ⟨hi,Aig mk cn xs k0 s.1 hi,FJ,FJ,FJ,by simp [Bz];omega⟩) hk hf hp
theorem Ap5 (v:Value) (xs:List Hz) (F:List Nat) (k0:Int) (h0:0≤k0) (h1:k0+B8 Hl xs≤1099511627776):Fn prog 136 [v,.int .i64 k0] [] [.ow Bn 215 v xs F] (fun (_:List Nat)=>True) (fun _=>.int .i64 (k0+B8 Hl xs)) (fun G=>[.ow Bn 215 v (Cy Vi Hl k0 xs) G]):=R7 fun a c q hq hln=>by
 unfold maxLen at hln;refine enter func136 rfl ntmps136 fun w0=>?_;refine go ?_;rw [hq];refine Vf (mk:=Vi) (cn:=Hl) (k0:=k0) (xs:=xs) [0] 1 5 fun k G K hz hK hf=>?_;refine go ?_;refine Ax rfl (fun h3=>?_) (fun h3=>?_)
 ·obtain ⟨hk,hst,hnx,hup,hlo,hml⟩:=hf FJ;have hc1:Hl xs[k]=1+1:=rfl;refine P5 (xs:=((Cy Vi Hl k0 xs).take k++xs.drop k)) (m:=2) Lj k ?_ FP rfl FJ;rintro _ g2 A cs B rfl e2 hc hH;rw [Sb _ _ _ (Bz ..) hk] at hc;obtain ⟨rfl, -⟩:=hc w0;refine go ?_;refine Pd (Vi K xs[k]) hH (fun w=>⟨rfl,rfl⟩) ?_;rw [hst,show K+1+1=k0+((Hk Hl xs (k+1):Nat):Int) by omega];exact AU
 ·obtain rfl:k=xs.length:=FJ
  exact AQ
theorem Aih (v:Value) (xs:List Ay) (F:List Nat) (k0:Int) (h0:0≤k0) (h1:k0+B8 C9 xs≤1099511627776):Fn prog 139 [v,.int .i64 k0] [] [.ow Av 250 v xs F] (fun (_:List Nat)=>True) (fun _=>.int .i64 (k0+B8 C9 xs)) (fun G=>[.ow Av 250 v (Cy M9 C9 k0 xs) G]):=R7 fun a c q hq hln=>by
 unfold maxLen at hln;refine enter func139 rfl ntmps139 fun w0=>?_;refine go ?_;rw [hq];refine Vf (mk:=M9) (cn:=C9) (k0:=k0) (xs:=xs) [0] 1 5 fun k G K hz hK hf=>?_;refine go ?_;refine Ax rfl (fun h3=>?_) (fun h3=>?_)
 ·obtain ⟨hk,hst,hnx,hup,hlo,hml⟩:=hf FJ;have hc1:C9 xs[k]=1+1+1+1:=rfl;refine P5 (xs:=((Cy M9 C9 k0 xs).take k++xs.drop k)) (m:=4) Dp k ?_ FP rfl FJ;rintro _ g2 A cs B rfl e2 hc hH;rw [Sb _ _ _ (Bz ..) hk] at hc;obtain ⟨rfl, -⟩:=hc w0;refine go ?_;refine Pd (M9 K xs[k]) hH (fun w=>⟨rfl,rfl⟩) ?_;rw [hst,show K+1+1+1+1=k0+((Hk C9 xs (k+1):Nat):Int) by omega];exact AU
 ·obtain rfl:k=xs.length:=FJ
  exact AQ
theorem Akb (v:Value) (xs:List Ar) (F:List Nat) (k0:Int) (h0:0≤k0) (h1:k0+B8 Bd xs≤1099511627776):Fn prog 140 [v,.int .i64 k0] [] [.ow Ak 223 v xs F] (fun (_:List Nat)=>True) (fun _=>.int .i64 (k0+B8 Bd xs)) (fun G=>[.ow Ak 223 v (Cy Ia Bd k0 xs) G]):=R7 fun a c q hq hln=>by
 unfold maxLen at hln;refine enter func140 rfl ntmps140 fun w0=>?_;refine go ?_;rw [hq];refine Vf (mk:=Ia) (cn:=Bd) (k0:=k0) (xs:=xs) [0] 1 5 fun k G K hz hK hf=>?_;refine go ?_;refine Ax rfl (fun h3=>?_) (fun h3=>?_)
 ·obtain ⟨hk,hst,hnx,hup,hlo,hml⟩:=hf FJ;have hc1:Bd xs[k]=1+1+1+1+1:=rfl;refine P5 (xs:=((Cy Ia Bd k0 xs).take k++xs.drop k)) (m:=5) I8 k ?_ FP rfl FJ;rintro _ g2 A cs B rfl e2 hc hH;rw [Sb _ _ _ (Bz ..) hk] at hc;obtain ⟨rfl, -⟩:=hc w0;refine go ?_;refine cb (fun w st=>Rl (K+1+1+1+1) w FJ FJ) ?_;refine go ?_;refine Pd (Ia K xs[k]) hH (fun w=>⟨rfl,Aej _,rfl⟩) ?_;rw [hst,show K+1+1+1+1+1=k0+((Hk Bd xs (k+1):Nat):Int) by omega];exact AU
 ·obtain rfl:k=xs.length:=FJ
  exact AQ
theorem Ap6 (v:Value) (xs:List Gh) (F:List Nat) (k0:Int) (h0:0≤k0) (h1:k0+B8 E5 xs≤1099511627776):Fn prog 138 [v,.int .i64 k0] [] [.ow B9 275 v xs F] (fun (_:List Nat)=>True) (fun _=>.int .i64 (k0+B8 E5 xs)) (fun G=>[.ow B9 275 v (Cy Ul E5 k0 xs) G]):=R7 fun a c q hq hln=>by
 unfold maxLen at hln;refine enter func138 rfl ntmps138 fun w0=>?_;refine go ?_;rw [hq];refine Vf (mk:=Ul) (cn:=E5) (k0:=k0) (xs:=xs) [0] 1 5 fun k G K hz hK hf=>?_;refine go ?_;refine Ax rfl (fun h3=>?_) (fun h3=>?_)
 ·obtain ⟨hk,hst,hnx,hup,hlo,hml⟩:=hf FJ;have hc1:E5 xs[k]=1+1:=rfl;refine P5 (xs:=((Cy Ul E5 k0 xs).take k++xs.drop k)) (m:=2) Id k ?_ FP rfl FJ;rintro _ g2 A cs B rfl e2 hc hH;rw [Sb _ _ _ (Bz ..) hk] at hc;obtain ⟨rfl, -⟩:=hc w0;refine go ?_;refine cb (fun w st=>Rl (K+1) w FJ FJ) ?_;refine go ?_;refine Pd (Ul K xs[k]) hH (fun w=>⟨rfl,Aej _,rfl⟩) ?_;rw [hst,show K+1+1=k0+((Hk E5 xs (k+1):Nat):Int) by omega];exact AU
 ·obtain rfl:k=xs.length:=FJ
  exact AQ
theorem Aif (v:Value) (xs:List Int) (F:List Nat) (k0:Int) (h0:0≤k0) (h1:k0+B8 El xs≤1099511627776):Fn prog 134 [v,.int .i64 k0] [] [.ow Bb 3 v xs F] (fun (_:List Nat)=>True) (fun _=>.int .i64 (k0+B8 El xs)) (fun G=>[.ow Bb 3 v (Cy mkI El k0 xs) G]):=R7 fun a c q hq hln=>by
 unfold maxLen at hln;refine enter func134 rfl ntmps134 fun w0=>?_;refine go ?_;rw [hq];refine Vf (mk:=mkI) (cn:=El) (k0:=k0) (xs:=xs) [0] 1 5 fun k G K hz hK hf=>?_;refine go ?_;refine Ax rfl (fun h3=>?_) (fun h3=>?_)
 ·obtain ⟨hk,hst,hnx,hup,hlo,hml⟩:=hf FJ;have hc1:El xs[k]=1:=rfl;refine P5 (xs:=((Cy mkI El k0 xs).take k++xs.drop k)) (m:=1) D0 k ?_ FP rfl FJ;rintro _ g2 A cs B rfl e2 hc hH;rw [Sb _ _ _ (Bz ..) hk] at hc;obtain ⟨rfl, -⟩:=hc w0;refine go ?_;refine Pd (mkI K xs[k]) hH (fun w=>⟨rfl,rfl⟩) ?_;rw [hst,show K+1=k0+((Hk El xs (k+1):Nat):Int) by omega];exact AU
 ·obtain rfl:k=xs.length:=FJ
  exact AQ
theorem Akc (v:Value) (xs:List ByteArray) (F:List Nat) (k0:Int) (h0:0≤k0) (h1:k0+B8 Oo xs≤1099511627776):Fn prog 230 [v,.int .i64 k0] [] [.ow A8 9 v xs F] (fun (_:List Nat)=>True) (fun _=>.int .i64 (k0+B8 Oo xs)) (fun G=>[.ow A8 9 v (Cy mkS Oo k0 xs) G]):=R7 fun a c q hq hln=>by
 unfold maxLen at hln;refine enter func230 rfl ntmps230 fun w0=>?_;refine go ?_;rw [hq];refine Vf (mk:=mkS) (cn:=Oo) (k0:=k0) (xs:=xs) [0] 1 5 fun k G K hz hK hf=>?_;refine go ?_;refine Ax rfl (fun h3=>?_) (fun h3=>?_)
 ·obtain ⟨hk,hst,hnx,hup,hlo,hml⟩:=hf FJ;have hc1:Oo xs[k]=1:=rfl;refine P5 (xs:=((Cy mkS Oo k0 xs).take k++xs.drop k)) (m:=1) Hj k ?_ FP rfl FJ;rintro _ g2 A cs B rfl e2 hc hH;rw [Sb _ _ _ (Bz ..) hk] at hc;obtain ⟨rfl, -⟩:=hc w0;refine go ?_;refine cb (fun w st=>Rl (K) w FJ FJ) ?_;refine go ?_;refine Pd (mkS K xs[k]) hH (fun w=>⟨rfl,Aej _,rfl⟩) ?_;rw [hst,show K+1=k0+((Hk Oo xs (k+1):Nat):Int) by omega];exact AU
 ·obtain rfl:k=xs.length:=FJ
  exact AQ
theorem Anf (v:Value) (xs:List Gs) (F:List Nat) (k0:Int) (h0:0≤k0) (h1:k0+B8 Er xs≤1099511627776):Fn prog 137 [v,.int .i64 k0] [] [.ow Dy 212 v xs F] (fun (_:List Nat)=>True) (fun _=>.int .i64 (k0+B8 Er xs)) (fun G=>[.ow Dy 212 v (Cy P0 Er k0 xs) G]):=R7 fun a c q hq hln=>by
 unfold maxLen at hln;refine enter func137 rfl ntmps137 fun w0=>?_;refine go ?_;rw [hq];refine Vf (mk:=P0) (cn:=Er) (k0:=k0) (xs:=xs) [0] 1 5 fun k G K hz hK hf=>?_;refine go ?_;refine Ax rfl (fun h3=>?_) (fun h3=>?_)
 ·obtain ⟨hk,hst,hnx,hup,hlo,hml⟩:=hf FJ;have hc1:Er xs[k]=1+B8 El xs[k].Bj+1:=rfl;refine W5 (xs:=((Cy P0 Er k0 xs).take k++xs.drop k)) (m:=3) k ?_ rfl FJ;rintro _ g2 A cs B k1 k2 H1 Hi H2 rfl - hc hH;rw [Sb _ _ _ (Bz ..) hk];refine Xh (x:=xs[k]) ?_;rintro a1 c1 F1 ev -;obtain rfl:=Uv ev;clear ev;refine go ?_;refine Cb (Aif _ xs[k].Bj _ (K+1) FJ FJ) fun M1 _=>?_;refine go ?_;rw [←Bz mkI El xs[k].Bj (K+1)];refine Nh (P0 K xs[k]) ?_;refine Ta (P0 K xs[k]) hH rfl fun F6=>?_;rw [hst,show K+1+((B8 El xs[k].Bj:Nat):Int)+1=k0+((Hk Er xs (k+1):Nat):Int) by omega]
  exact BL
 ·obtain rfl:k=xs.length:=FJ
  exact AQ
theorem Aie (v:Value) (xs:List Bf) (F:List Nat) (k0:Int) (h0:0≤k0) (h1:k0+B8 Cg xs≤1099511627776):Fn prog 62 [v,.int .i64 k0] [] [.ow Ca 133 v xs F] (fun (_:List Nat)=>True) (fun _=>.int .i64 (k0+B8 Cg xs)) (fun G=>[.ow Ca 133 v (Cy M8 Cg k0 xs) G]):=R7 fun a c q hq hln=>by
 unfold maxLen at hln;refine enter func62 rfl ntmps62 fun w0=>?_;refine go ?_;rw [hq];refine Vf (mk:=M8) (cn:=Cg) (k0:=k0) (xs:=xs) [0] 1 5 fun k G K hz hK hf=>?_;refine go ?_;refine Ax rfl (fun h3=>?_) (fun h3=>?_)
 ·obtain ⟨hk,hst,hnx,hup,hlo,hml⟩:=hf FJ;have hc1:Cg xs[k]=1+B8 Er xs[k].Ah:=rfl;refine W5 (xs:=((Cy M8 Cg k0 xs).take k++xs.drop k)) (m:=2) k ?_ rfl FJ;rintro _ g2 A cs B k1 k2 H1 Hi H2 rfl - hc hH;rw [Sb _ _ _ (Bz ..) hk];refine H4 (x:=xs[k]) ?_;rintro a1 c1 F1 ev -;obtain rfl:=Uv ev;clear ev;refine go ?_;refine Cb (Anf _ xs[k].Ah _ (K+1) FJ FJ) fun M1 _=>?_;refine go ?_;rw [←Bz P0 Er xs[k].Ah (K+1)];refine Fc (M8 K xs[k]) ?_;refine Ta (M8 K xs[k]) hH rfl fun F6=>?_;rw [hst,show K+1+((B8 Er xs[k].Ah:Nat):Int)=k0+((Hk Cg xs (k+1):Nat):Int) by omega]
  exact BL
 ·obtain rfl:k=xs.length:=FJ
  exact AQ
theorem Age (v:Value) (xs:List Az) (F:List Nat) (k0:Int) (h0:0≤k0) (h1:k0+B8 Cf xs≤1099511627776):Fn prog 63 [v,.int .i64 k0] [] [.ow By 140 v xs F] (fun (_:List Nat)=>True) (fun _=>.int .i64 (k0+B8 Cf xs)) (fun G=>[.ow By 140 v (Cy Lf Cf k0 xs) G]):=R7 fun a c q hq hln=>by
 unfold maxLen at hln;refine enter func63 rfl ntmps63 fun w0=>?_;refine go ?_;rw [hq];refine Vf (mk:=Lf) (cn:=Cf) (k0:=k0) (xs:=xs) [0] 1 5 fun k G K hz hK hf=>?_;refine go ?_;refine Ax rfl (fun h3=>?_) (fun h3=>?_)
 ·obtain ⟨hk,hst,hnx,hup,hlo,hml⟩:=hf FJ;have hc1:Cf xs[k]=1+1+1+B8 E5 xs[k].Aa.Am+B8 C9 xs[k].Al:=rfl;refine W5 (xs:=((Cy Lf Cf k0 xs).take k++xs.drop k)) (m:=5) k ?_ rfl FJ;rintro _ g2 A cs B k1 k2 H1 Hi H2 rfl - hc hH;rw [Sb _ _ _ (Bz ..) hk];refine Ij (x:=xs[k]) ?_;rintro a1 c1 F1 a2 c2 F2 ev - -;obtain rfl:=Uv ev;clear ev;refine go ?_;refine Cb (Ap6 _ xs[k].Aa.Am _ (K+1+1+1) FJ FJ) fun M1 _=>?_;refine go ?_;refine Cb (Aih _ xs[k].Al _ (K+1+1+1+((B8 E5 xs[k].Aa.Am:Nat):Int)) FJ FJ) fun M2 _=>?_;refine go ?_
  rw [←Bz Ul E5 xs[k].Aa.Am (K+1+1+1)];rw [←Bz M9 C9 xs[k].Al (K+1+1+1+((B8 E5 xs[k].Aa.Am:Nat):Int))];refine I6 (Lf K xs[k]) ?_;refine Ta (Lf K xs[k]) hH rfl fun F6=>?_;rw [hst,show K+1+1+1+((B8 E5 xs[k].Aa.Am:Nat):Int)+((B8 C9 xs[k].Al:Nat):Int)=k0+((Hk Cf xs (k+1):Nat):Int) by omega];exact BL
 ·obtain rfl:k=xs.length:=FJ
  exact AQ
theorem Yz (v:Value) (xs:List (List Ar)) (F:List Nat) (k0:Int) (h0:0≤k0) (h1:k0+B8 (B8 Bd) xs≤1099511627776):Fn prog 64 [v,.int .i64 k0] [] [.ow (Kx Ak 223) 142 v xs F] (fun (_:List Nat)=>True) (fun _=>.int .i64 (k0+B8 (B8 Bd) xs)) (fun G=>[.ow (Kx Ak 223) 142 v (Cy (Cy Ia Bd) (B8 Bd) k0 xs) G]):=R7 fun a c q hq hln=>by
 unfold maxLen at hln;refine enter func64 rfl ntmps64 fun w0=>?_;refine go ?_;rw [hq];refine Vf (mk:=(Cy Ia Bd)) (cn:=(B8 Bd)) (k0:=k0) (xs:=xs) [0] 1 5 fun k G K hz hK hf=>?_;refine go ?_;refine Ax rfl (fun h3=>?_) (fun h3=>?_)
 ·obtain ⟨hk,hst,hnx,hup,hlo,hml⟩:=hf FJ;have hc1:(B8 Bd) xs[k]=B8 Bd xs[k]:=rfl;refine W5 (xs:=((Cy (Cy Ia Bd) (B8 Bd) k0 xs).take k++xs.drop k)) (m:=1) k ?_ rfl FJ;rintro _ g2 A cs B k1 k2 H1 Hi H2 rfl - hc hH;rw [Sb _ _ _ (Bz ..) hk];refine U7 ?_;rintro a1 c1 ev l1;obtain rfl:=Uv ev;clear ev;refine go ?_;refine Cb (Akb _ xs[k] _ (K) FJ FJ) fun M1 _=>?_;refine go ?_;rw [←Bz Ia Bd xs[k] K];refine J0 (Cy Ia Bd K xs[k]) ?_;refine Ta (Cy Ia Bd K xs[k]) hH rfl fun F6=>?_;rw [hst,show K+((B8 Bd xs[k]:Nat):Int)=k0+((Hk (B8 Bd) xs (k+1):Nat):Int) by omega]
  exact BL
 ·obtain rfl:k=xs.length:=FJ
  exact AQ
theorem As6 (v:Value) (x:Qo) (F:List Nat) (k:Int) (h0:0≤k) (h1:k+I2 x≤1099511627776):Fn prog 60 [v,.int .i64 k] [] [.own Ae5 v x F] (fun (_:List Nat)=>True) (fun _=>.int .i64 (k+I2 x)) (fun G=>[.own Ae5 v (Abk k x) G]):=by
 unfold I2 at h1 ⊢;refine enter func60 rfl ntmps60 fun w0=>?_;refine Aem ?_;rintro a1 c1 F1 rfl l1;refine go ?_;intros;refine Cb (Aif _ x.Ad _ k FJ FJ) fun M1 _=>?_;refine go ?_;rw [←Bz mkI El x.Ad k];refine Aa3 (Abk k x) ?_;refine ret _ trivial rfl
theorem Aeg (v:Value) (x:Aw) (F:List Nat) (k:Int) (h0:0≤k) (h1:k+E6 x≤1099511627776):Fn prog 135 [v,.int .i64 k] [] [.own Kw v x F] (fun (_:List Nat)=>True) (fun _=>.int .i64 (k+E6 x)) (fun G=>[.own Kw v (Nt k x) G]):=by
 unfold E6 at h1 ⊢;refine enter func135 rfl ntmps135 fun w0=>?_;refine Hy ?_;rintro a1 c1 F1 rfl l1;refine go ?_;intros;refine Cb (Akc _ x.Ao _ k FJ FJ) fun M1 _=>?_;refine go ?_;rw [←Bz mkS Oo x.Ao k];refine Rg (Nt k x) ?_;refine ret _ trivial rfl
theorem Ang (v:Value) (x:Ck) (F:List Nat) (k:Int) (h0:0≤k) (h1:k+Gk x≤1099511627776):Fn prog 61 [v,.int .i64 k] [] [.own Tf v x F] (fun (_:List Nat)=>True) (fun _=>.int .i64 (k+Gk x)) (fun G=>[.own Tf v (Q0 k x) G]):=by
 unfold Gk at h1 ⊢;refine enter func61 rfl ntmps61 fun w0=>?_;refine Qk ?_;rintro a1 c1 F1 a2 c2 F2 rfl l1 l2;refine Rg x.Aa ?_;refine go ?_;intros;refine Cb (Aeg _ x.Aa _ k FJ FJ) fun M1 _=>?_;refine go ?_;refine Cb (Ap5 _ x.holds _ (k+E6 x.Aa) FJ FJ) fun M2 _=>?_;refine go ?_;refine Hy (x:=Nt k x.Aa) ?_;rintro b1 d1 G1 e1 -;simp at e1;obtain ⟨-, -,rfl, -,rfl⟩:=e1;rw [show x.Aa.Ao.length=(Q0 k x).Aa.Ao.length from (Bz ..).symm,show x.holds.length=(Q0 k x).holds.length from (Bz ..).symm];refine Tk (Q0 k x) ?_
 rw [show k+((E6 x.Aa:Nat):Int)+((B8 Hl x.holds:Nat):Int)=k+((E6 x.Aa+B8 Hl x.holds:Nat):Int) by omega];refine ret _ trivial rfl
theorem Axq (v:Value) (x:Du) (F:List Nat) (k:Int) (p0:0≤k) (p1:k+Vy x≤1099511627776):Fn prog 25 [v,.int .i64 k] [] [.own Aaw v x F] (fun (_:List Nat)=>True) (fun _=>.int .i64 (k+Vy x)) (fun G=>[.own Aaw v (U5 k x) G]):=by
 have hcv:(Vy x:Int)=I2 x.An+Gk x.Ab+(B8 Cg) x.Af+(B8 Cf) x.Ac+(B8 (B8 Bd)) x.down+(B8 (B8 Bd)) x.up:=by unfold Vy;push_cast;rfl
 refine enter func25 rfl ntmps25 fun w0=>?_;refine Um ?_;rintro a1 c1 F1 a2 c2 F2 a3 c3 F3 a4 c4 F4 a5 c5 F5 a6 c6 F6 a7 c7 F7 rfl l1 l2 l3 l4 l5 l6 l7;refine Aa3 x.An ?_;refine Tk x.Ab ?_;refine go ?_;intros;refine Cb (As6 _ x.An _ (k) FJ FJ) fun _ _=>?_;refine go ?_;refine Cb (Ang _ x.Ab _ (k+I2 x.An) FJ FJ) fun _ _=>?_;refine go ?_;refine Cb (Aie _ x.Af _ (k+I2 x.An+Gk x.Ab) FJ FJ) fun _ _=>?_;refine go ?_;refine Cb (Age _ x.Ac _ (k+I2 x.An+Gk x.Ab+(B8 Cg) x.Af) FJ FJ) fun _ _=>?_;refine go ?_
 refine Cb (Yz _ x.down _ (k+I2 x.An+Gk x.Ab+(B8 Cg) x.Af+(B8 Cf) x.Ac) FJ FJ) fun _ _=>?_;refine go ?_;refine Cb (Yz _ x.up _ (k+I2 x.An+Gk x.Ab+(B8 Cg) x.Af+(B8 Cf) x.Ac+(B8 (B8 Bd)) x.down) FJ FJ) fun _ _=>?_;refine go ?_;have h1:x.An.Ad.length=(U5 k x).An.Ad.length:=(Bz ..).symm;have h2:x.Ab.Aa.Ao.length=(U5 k x).Ab.Aa.Ao.length:=(Bz ..).symm;have h3:x.Ab.holds.length=(U5 k x).Ab.holds.length:=(Bz ..).symm;have h4:x.Af.length=(U5 k x).Af.length:=(Bz ..).symm;have h5:x.Ac.length=(U5 k x).Ac.length:=(Bz ..).symm
 have h6:x.down.length=(U5 k x).down.length:=(Bz ..).symm;have h7:x.up.length=(U5 k x).up.length:=(Bz ..).symm;rw [h1,h2,h3,h4,h5,h6,h7];refine Aem (x:=Abk k x.An) ?_;rintro b1 d1 G1 e1 -;simp at e1;obtain ⟨rfl, -,rfl⟩:=e1;refine Qk (x:=Q0 (k+I2 x.An) x.Ab) ?_;rintro b2 d2 G2 b3 d3 G3 e2 - -;simp at e2;obtain ⟨-, -,⟨rfl, -,rfl⟩, -, -,rfl, -,rfl⟩:=e2;refine Qc (U5 k x) (a6:=a6) (a7:=a7) ?_;rw [show k+I2 x.An+Gk x.Ab+(B8 Cg) x.Af+(B8 Cf) x.Ac+(B8 (B8 Bd)) x.down+(B8 (B8 Bd)) x.up=k+Vy x by omega];refine ret _ trivial rfl
theorem Aak (v:Value) (x:Cs) (F:List Nat) (k:Int) (p0:0≤k) (p1:k+Ja x≤1099511627776):Fn prog 9 [v,.int .i64 k] [] [.own Md v x F] (fun (_:List Nat)=>True) (fun _=>.int .i64 (k+Ja x)) (fun G=>[.own Md v (Ma k x) G]):=by
 have hcv:(Ja x:Int)=Vy x.Bl:=by unfold Ja;rfl
 refine enter func9 rfl ntmps9 fun w0=>?_;refine Ank ?_;rintro a1 c1 F1 a2 c2 F2 a3 c3 F3 a4 c4 F4 a5 c5 F5 a6 c6 F6 a7 c7 F7 rfl s1 s2 l1 l2 l3 l4 l5 l6 l7;refine Qc x.Bl (a6:=a6) (a7:=a7) ?_;refine go ?_;intros;refine Cb (Axq _ x.Bl _ k p0 FJ) fun G _=>?_;refine go ?_;have h1:x.Bl.An.Ad.length=(Ma k x).Bl.An.Ad.length:=(Bz ..).symm;have h2:x.Bl.Ab.Aa.Ao.length=(Ma k x).Bl.Ab.Aa.Ao.length:=(Bz ..).symm;have h3:x.Bl.Ab.holds.length=(Ma k x).Bl.Ab.holds.length:=(Bz ..).symm;have h4:x.Bl.Af.length=(Ma k x).Bl.Af.length:=(Bz ..).symm
 have h5:x.Bl.Ac.length=(Ma k x).Bl.Ac.length:=(Bz ..).symm;have h6:x.Bl.down.length=(Ma k x).Bl.down.length:=(Bz ..).symm;have h7:x.Bl.up.length=(Ma k x).Bl.up.length:=(Bz ..).symm;rw [h1,h2,h3,h4,h5,h6,h7];refine Um (x:=U5 k x.Bl) ?_;rintro b1 d1 G1 b2 d2 G2 b3 d3 G3 b4 d4 G4 b5 d5 G5 b6 d6 G6 b7 d7 G7 e1 - - - - - - -;simp at e1;obtain ⟨⟨rfl, -,rfl⟩, -, -,⟨rfl, -,rfl⟩, -, -,⟨rfl, -,rfl⟩,⟨rfl, -,rfl⟩,⟨rfl, -,rfl⟩,⟨rfl, -,rfl⟩,rfl, -,rfl⟩:=e1;refine Ry (Ma k x) s1 s2 (a6:=a6) (a7:=a7) ?_;rw [←hcv];refine ret _ trivial rfl
end Go.Proofs.YtkblpelckhegbaaGreatDoor
namespace Go.Proofs.YtkblpelckhegbaaGreatDoor

open Go.RowKit
end Go.Proofs.YtkblpelckhegbaaGreatDoor
namespace Go.Proofs.YtkblpelckhegbaaGreatDoor
open Go.RowKit
theorem Asj {c:Cs} {line:ByteArray} (h:Vh line=true∧¬c.Lq.count=60):Vn c line=(⟨Ic c.Bl line,Tc c.Lq line (Tl (Q6 c.Bl line))⟩,Tl (Q6 c.Bl line)):=by
 unfold Vn;rw [if_pos h.1,if_neg h.2]
end Go.Proofs.YtkblpelckhegbaaGreatDoor
namespace Go.Proofs.YtkblpelckhegbaaGreatDoor
open Go.RowKit
open Go.RowKit
theorem Ape {α:Type} {E:Br α} {w:World}:∀{ys:List (List Value)} {xs:List α} {G:List Nat},C1 E w ys.flatten xs G→(∀y∈ys,y.length=E.sz)→∀i (h1:i < ys.length) (h2:i < xs.length),∃Gi,E.Ky w ys[i] xs[i] Gi∧∀b∈Gi,b∈G
 | [],_,_,_,_,i,h1,_=>by simp at h1
 | y::r,[],_,_,_,i,_,h2=>by simp at h2
 | y::r,x::s,G,h,hm,i,h1,h2=>by
  obtain ⟨c1,c2,F1,F2,e,rfl,hr,hs⟩:=h;rw [List.flatten_cons] at e;obtain ⟨e1,e2⟩:=List.append_inj e (by rw [hm y FK,E.len hr]);subst e1 e2;cases i with
  | zero=>exact ⟨F1,hr,fun b hb=>by simp [hb]⟩
  | succ j =>
   obtain ⟨Gi,g1,g2⟩:=Ape hs (fun z hz=>hm z JR) j IS IH;exact ⟨Gi,g1,fun b hb=>by simp [g2 b hb]⟩
theorem Alb {α:Type} {E:Br α} {w:World} {cs:List Value} {x:α} {G2:List Nat} (hx:E.Ky w cs x G2):∀{ys:List (List Value)} {xs:List α} {G:List Nat},C1 E w ys.flatten xs G→(∀y∈ys,y.length=E.sz)→ys.length=xs.length→∀i,∃G',C1 E w (ys.set i cs).flatten (xs.set i x) G'∧∀b∈G',b∈G∨b∈G2
 | [],[],G,h,_,_,i=>⟨G,h,fun b hb=>.inl hb⟩
 | [],y::r,_,_,_,hl,_=>by simp at hl
 | y::r,[],_,_,_,hl,_=>by simp at hl
 | y::r,x1::s,G,h,hm,hl,i=>by
  obtain ⟨c1,c2,F1,F2,e,rfl,hr,hs⟩:=h;rw [List.flatten_cons] at e;obtain ⟨e1,e2⟩:=List.append_inj e (by rw [hm y FK,E.len hr]);subst e1 e2;cases i with
  | zero=>exact ⟨G2++F2,⟨cs,r.flatten,G2,F2,FK,rfl,hx,hs⟩,fun b hb=>by rcases List.mem_append.1 hb with hb|hb;exact .inr hb;exact .inl FY⟩
  | succ j =>
   obtain ⟨G',g1,g2⟩:=Alb hx hs (fun z hz=>hm z JR) HP j;refine ⟨F1++G',⟨y,(r.set j cs).flatten,F1,G',FK,rfl,hr,g1⟩,fun b hb=>?_⟩;rcases List.mem_append.1 hb with hb|hb
   ·exact .inl FY
   ·rcases g2 b hb with h|h
    ·exact .inl JS
    ·exact .inr h
section
variable {c:Cx} {fr:Fr} {H:List Pc} {Φ:Gl}
theorem Gf {m:Nat} {t:TypeId} {a:Option Addr} {n cp:Nat} {ys:List (List Value)} {F:List Nat} (h:(∀y∈ys,y.length=m)→ys.length=n→T c fr H Φ) (hp:.ow (EC m) t (.slice a n cp) ys F∈H:=by exact A9):T c fr H Φ:=.mk fun ac w s g=>by
 obtain ⟨hnd,ho⟩:=s.get hp;have key:(∀y∈ys,y.length=m)∧ys.length=n:=by
  rcases ho with ⟨e,rfl, -⟩|⟨b,cap,cs,rest,G,e,h2,h3,h4,h5,h6, -⟩
  ·cases e;exact ⟨FK,rfl⟩
  ·cases e;exact ⟨(Amz h6).2.2,rfl⟩
 exact (h key.1 key.2).h ac w s g
theorem Bh3 {α:Type} {E:Br α} {k:Nat} {v:Value} {xs:List α} {G:List Nat} (h:xs.length=k→T c fr H Φ) (hp:.isv (EA E k) v xs G∈H:=by exact A9):T c fr H Φ:=.mk fun ac w s g=>by
 obtain ⟨cs,e,hl,hf⟩:=s.get hp;exact (h hl).h ac w s g
theorem Ai4 {α:Type} {E:Br α} {k:Nat} {ys:List (List Value)} {xs:List α} {G:List Nat} (i:Nat) (hm:∀y∈ys,y.length=E.sz) (hl:ys.length=xs.length) (h1:i < ys.length) (h:∀(h1:i < ys.length) (h2:i < xs.length) Gi,T c fr (.isv E (.agg ys[i].toArray) xs[i] Gi::H) Φ) (hp:.isv (EA E k) (.agg ys.flatten.toArray) xs G∈H:=by exact A9):T c fr H Φ:=.mk fun ac w s g=>by
 obtain ⟨cs,e, -,hf⟩:=s.get hp;obtain rfl:ys.flatten=cs:=JB
 obtain ⟨Gi,g1,g2⟩:=Ape hf hm i h1 FJ;exact (h h1 FJ Gi).h ac w (s.ro hp rfl rfl ⟨_,rfl,g1⟩ g2) g
theorem Ai5 {α:Type} {E:Br α} {k:Nat} {ys:List (List Value)} {xs:List α} {G:List Nat} (i:Nat) (hm:∀y∈ys,y.length=E.sz) (hl:ys.length=xs.length) (h1:i < ys.length) (h:∀(h1:i < ys.length) (h2:i < xs.length) v Gi,v=.agg ys[i].toArray→T c fr (.isv E v xs[i] Gi::H) Φ) (hp:.isv (EA E k) (.agg ys.flatten.toArray) xs G∈H:=by exact A9):T c fr H Φ:=Ai4 i hm hl h1 (fun h1 h2 Gi=>h h1 h2 _ Gi rfl) hp
theorem Ur {α:Type} {E:Br α} {k:Nat} {ys:List (List Value)} {xs:List α} {G G2:List Nat} {v:Value} {cs:List Value} {x:α} (i:Nat) (hv:v=.agg cs.toArray) (hm:∀y∈ys,y.length=E.sz) (hl:ys.length=xs.length) (h:∀G',T c fr (.isv (EA E k) (.agg (ys.set i cs).flatten.toArray) (xs.set i x) G'::H) Φ) (hp:.isv (EA E k) (.agg ys.flatten.toArray) xs G∈H:=by exact A9) (hp2:.isv E v x G2∈H:=by exact A9):T c fr H Φ:=.mk fun ac w s g=>by
 subst hv;obtain ⟨c1,e,hk,hf⟩:=s.get hp;obtain rfl:ys.flatten=c1:=JB
 obtain ⟨c2,e2,hx⟩:=s.get hp2;obtain rfl:cs=c2:=by simpa using e2
 obtain ⟨G',g1,g2⟩:=Alb hx hf hm hl i;refine (h G').h ac w (s.add (N:=[.isv (EA E k) (.agg (ys.set i cs).flatten.toArray) (xs.set i x) G']) (Below.refl _ _) (by intro p hq;rw [List.mem_singleton] at hq;subst hq;exact ⟨_,rfl,by simpa using hk,g1⟩) ⟨FK,trivial⟩ ?_) g;intro p hq z hb;rw [List.mem_singleton] at hq;subst hq;rcases g2 z hb with hb|hb
 ·exact .inr ⟨rfl,_,hp,rfl,hb⟩
 ·exact .inr ⟨rfl,_,hp2,rfl,hb⟩
theorem Ad5 {α:Type} {E:Br α} {hz:0 < E.sz} {v:Value} {x:List α} {G:List Nat} (h:∀a1 c1,v=.agg #[.slice a1 x.length c1]→x.length≤maxLen→T c fr (.sl E (.slice a1 x.length c1) x G::H) Φ) (hp:.isv (Mr E hz) v x G∈H:=by exact A9):T c fr H Φ:=.mk fun ac w s g=>by
 obtain ⟨cs,rfl,v1,rfl,h1⟩:=s.get hp;obtain ⟨a1,c1,rfl⟩:=h1.slice;exact (h a1 c1 rfl h1.len).h ac w (s.ro hp rfl rfl ⟨hz,h1⟩ fun b hb=>hb) g
theorem Aeu {α:Type} {E:Br α} {v:Value} {x:List α} {G:List Nat} (hz:0 < E.sz) (h:T c fr (.isv (Mr E hz) (.agg #[v]) x G::H) Φ) (hp:.sl E v x G∈H:=by exact A9):T c fr H Φ:=.mk fun ac w s g=>by
 obtain ⟨-,h1⟩:=s.get hp;exact h.h ac w (s.ro hp rfl rfl ⟨[v],rfl,v,rfl,h1⟩ fun b hb=>hb) g
end
end Go.Proofs.YtkblpelckhegbaaGreatDoor
namespace Go.Proofs.YtkblpelckhegbaaGreatDoor
open Go.RowKit
theorem Axc (s:Kq) (hss:s.data.size≤maxLen):FV 90 [.agg #[.int .i64 s.Cp,.int .i64 s.node,.string s.data]] [] (.bool (Ex s)):=by
 refine enter func90 rfl ntmps90 fun w0=>?_;refine go ?_;intros;refine Ax rfl (fun h1=>?_) (fun h1=>?_)
 ·rw [show Ex s=(decide (s.node=0) && R5 s.data) by unfold Ex;rw [if_pos h1]];refine go ?_;refine Dx rfl rfl (fun h2=>?_) (fun h2=>?_)
  ·refine go ?_;refine ce (fun w st=>So s.data 8 _ hss) ?_;exact DE
  ·exact DA
 refine go ?_;refine Ax rfl (fun h4=>?_) (fun h4=>?_)
 ·rw [show Ex s=(decide (s.node=0) && decide (s.data=⟨#[]⟩)) by unfold Ex;rw [if_neg h1,if_pos h4]];refine go ?_;refine Dx rfl rfl (fun h2=>?_) (fun h2=>?_)
  ·exact DE
  ·exact DA
 rw [show Ex s=(Gj 1 s.Cp 6 && Gj 1 s.node 7 && decide (s.data=⟨#[]⟩)) by unfold Ex;rw [if_neg h1,if_neg h4];rfl];refine go ?_;refine ce (fun w st=>Ku s.Cp 1 6 _) ?_;cases g1:Gj 1 s.Cp 6
 ·refine go ?_;refine ret () trivial ?_;rfl
 refine go ?_;refine ce (fun w st=>Ku s.node 1 7 _) ?_;cases g2:Gj 1 s.node 7
 ·refine go ?_;refine ret () trivial ?_;rfl
 refine go ?_;refine ret () trivial ?_;rfl
theorem Ax3 {q ps:List Ar} {k:Nat} (h:6≤(H5 q (ps.take k)).length):H5 q (ps.take k)=H5 q ps:=by
 unfold H5 at *;rw [List.length_append,List.length_take,List.length_take] at h;rw [List.take_take]
 congr 1
 by_cases h6:6≤q.length
 ·rw [show min (6 - q.length) k=6 - q.length by omega]
 ·by_cases hk:6 - q.length≤k
  ·rw [show min (6 - q.length) k=6 - q.length by omega]
  ·rw [show min (6 - q.length) k=k by omega,List.take_of_length_le FJ,List.take_of_length_le FJ]
theorem Ax4 {q ps:List Ar} {k:Nat} (hk:k < ps.length) (h:(H5 q (ps.take k)).length < 6):H5 q (ps.take (k+1))=H5 q (ps.take k)++[ps[k]]:=by
 rw [List.take_succ_eq_append_getElem hk,Al3];unfold Wk;rw [if_pos h]
theorem Ah7 (q ps:List Ar) (a:Option Addr) (c:Nat) (F:List Nat) (a2:Option Addr) (c2:Nat) (F2:List Nat) (hq:q.length≤1000000):Fn prog 243 [.slice a q.length c,.slice a2 ps.length c2] [.sl Ak (.slice a q.length c) q F,.sl Ak (.slice a2 ps.length c2) ps F2] [] (fun (_:KA)=>True) (fun z=>.slice z.a (H5 q ps).length z.c) (fun z=>[.ow Ak 223 (.slice z.a (H5 q ps).length z.c) (H5 q ps) z.F]):=by
 refine enter func243 rfl ntmps243 fun w0=>?_;refine Xq (E:=Ak) (xs:=ps) ?_;rintro _ _ e0 hn1 hn2;refine Anz (E:=Ak) (xs:=ps) (fun p:Ar=>p.data.size≤maxLen) (fun w cs x F h=>by obtain ⟨_,h,_⟩:=h;exact h) ?_;intro hz;cases e0;refine go ?_;intros;refine Dc Ak ?_;refine go ?_;apply wO;refine Pm Hq I8 fun a3 c3 F3=>?_;rw [List.nil_append];refine go ?_;have e0:H5 q (ps.take 0)=q:=by unfold H5;simp
 refine Cj [1,4] (fun z:KA=>[(5,.slice z.a (H5 q (ps.take z.k)).length z.c),(6,.int .i64 (z.k:Nat))]) (fun z=>[.ow Ak 223 (.slice z.a (H5 q (ps.take z.k)).length z.c) (H5 q (ps.take z.k)) z.F]) (fun z=>z.k≤ps.length) (fun z=>ps.length - z.k) ⟨0,a3,c3,F3⟩ (Nat.zero_le _) (fun z hz0=>?_) (hf:=by dsimp only;rw [e0];exact frE) (hH:=by dsimp only;rw [e0];exact Abo);have hql:(H5 q (ps.take z.k)).length≤q.length+ps.length:=by unfold H5;rw [List.length_append,List.length_take,List.length_take];omega
 have hnn:ps.length≤9223372036854775807:=FJ
 refine go ?_;refine Dx rfl rfl (fun h1=>?_) (fun h1=>?_)
 ·have hk:z.k < ps.length:=FJ
  refine go ?_;refine Ax rfl (fun h2=>?_) (fun h2=>?_)
  ·have h6:(H5 q (ps.take z.k)).length < 6:=FJ
   have hpz:=hz _ (List.getElem_mem hk);refine Qq (xs:=ps) z.k ?_;rintro hi3 b3 o3 e3 s3;rw [e3];refine go ?_;intros;apply wO;refine Qa (ys:=[ps[z.k]]) (Dh ps[z.k] hpz) Hq fun a7 c7 F7=>?_;rw [←Ax4 hk h6];refine go ?_;refine Ce ⟨z.k+1,a7,c7,F7⟩ hk (by show ps.length - (z.k+1) < ps.length - z.k;omega)
  ·rw [Ax3 FJ];exact CL
 ·rw [show ps.take z.k=ps from List.take_of_length_le FJ];exact CL
theorem Bbp {q ps:List Ar} (h:q.length≤6):(H5 q ps).length≤6:=by unfold H5;rw [List.length_append,List.length_take];omega
theorem Be0 {d:List (List Ar)} {i:Nat} {ps:List Ar} (h:∀q∈d,q.length≤6):∀q∈d.modify i (fun q=>H5 q ps),q.length≤6:=fun q hq=>by
 by_cases hi:i < d.length
 ·rw [Ip hi] at hq;rcases List.mem_or_eq_of_mem_set hq with h'|rfl
  ·exact h q h'
  ·exact Bbp (h _ (List.getElem_mem hi))
 ·rw [Abj hi] at hq;exact h q hq
theorem Ajb {ps:List Ar}:∀{nodes:List Int} {d:List (List Ar)},(∀q∈d,q.length≤6)→∀q∈Dq d nodes ps,q.length≤6
 | [],_,h=>h
 | x::r,d,h=>by
  show ∀q∈Dq (d.modify x.toNat fun q=>H5 q ps) r ps,q.length≤6;exact Ajb (Be0 h)
structure ShZ where
 k:Nat
 ys:List (List Value)
 F:List Nat
 G:List Nat
theorem Ox (d:List (List Ar)) (nodes:List Int) (ps:List Ar) (a1 a2 a3 a4 a5 a7:Option Addr) (l1 c1 l2 c2 l3 c3 l4 c4 l5 c5 l7 c7:Nat) (w1 w2 w3 w4:Int) (a:Option Addr) (n c:Nat) (ys:List (List Value)) (F G:List Nat) (an:Option Addr) (cn:Nat) (Fn_:List Nat) (ap:Option Addr) (cp:Nat) (Fp:List Nat) (hx:∀x∈nodes,0≤x∧x.toNat < d.length) (hd:∀q∈d,q.length≤6) :
  Fn prog 166 [.agg #[.slice a1 l1 c1,.int .i64 w1,.int .i64 w2,.slice a2 l2 c2,.int .i64 w3,.int .i64 w4,.slice a3 l3 c3,.slice a4 l4 c4,.slice a5 l5 c5,.slice a n c,.slice a7 l7 c7],.slice an nodes.length cn,.slice ap ps.length cp] [.sl Bb (.slice an nodes.length cn) nodes Fn_,.sl Ak (.slice ap ps.length cp) ps Fp,.isv (EA (Mr Ak FM) n) (.agg (ys).flatten.toArray) d G] [.ow (EC 1) 142 (.slice a n c) ys F] (fun (_:ShZ)=>True) (fun _=>.tuple #[]) (fun z=>[.ow (EC 1) 142 (.slice a n c) z.ys z.F,.isv (EA (Mr Ak FM) n) (.agg (z.ys).flatten.toArray) (Dq d nodes ps) z.G]):=by
 refine enter func166 rfl ntmps166 fun w0=>?_;refine Xq (E:=Bb) (xs:=nodes) ?_;rintro _ _ e0 hn1 hn2;cases e0;refine Bh3 (xs:=d) fun hdn=>?_;refine go ?_;intros;refine Cj [1,2,3] (fun z:ShZ=>[(6,.int .i64 (z.k:Nat))]) (fun z=>[.ow (EC 1) 142 (.slice a n c) z.ys z.F,.isv (EA (Mr Ak FM) n) (.agg (z.ys).flatten.toArray) (Dq d (nodes.take z.k) ps) z.G]) (fun z=>z.k≤nodes.length) (fun z=>nodes.length - z.k) ⟨0,ys,F,G⟩ (Nat.zero_le _) fun z hz0=>?_;have hsl:=Abs ps (nodes.take z.k) d;have hd6:=Ajb (ps:=ps) (nodes:=nodes.take z.k) hd;refine go ?_;refine Ax rfl (fun h1=>?_) (fun h1=>?_)
 ·have hk:z.k < nodes.length:=FJ
  obtain ⟨x0,x1⟩:=hx _ (List.getElem_mem hk);obtain ⟨i,hi⟩:∃i:Nat,nodes[z.k]=((i:Nat):Int):=⟨nodes[z.k].toNat,FJ⟩;have hil:i < (Dq d (nodes.take z.k) ps).length:=FJ
  have hst:=Afz (d:=d) (ps:=ps) hk;rw [show nodes[z.k].toNat=i by omega] at hst;unfold Ss at hst;rw [Ip hil] at hst;have h6:=hd6 _ (List.getElem_mem hil);refine I5 (xs:=nodes) z.k ?_;rintro hi2 b o e1;rw [e1,hi];refine Gf (ys:=z.ys) fun hm hl=>?_;refine Ai4 (ys:=z.ys) (xs:=Dq d (nodes.take z.k) ps) i hm FJ FJ fun h2 h3 Gi=>?_;refine Ad5 (x:=(Dq d (nodes.take z.k) ps)[i]) fun a9 c9 e9 l9=>?_;refine P5 (E:=EC 1) (xs:=z.ys) (m:=1) (Mn 1) i ?_ FP rfl h2;rintro _ g A cs B rfl k2 k3 hH;obtain ⟨k4, -, -⟩:=k3 w0
  have e8:z.ys[i]=[.slice a9 (Dq d (nodes.take z.k) ps)[i].length c9]:=KH
  rw [e8] at k4;subst k4;dsimp only [List.append];refine go ?_;refine As [0,3,5] [17] ?_;refine Ds 0 1 2 3 ?_;refine Ds 4 5 6 7 ?_;refine Ds 8 9 10 11 ?_;refine Ed 12 13 ?_;refine dt 14 ?_;refine dN 15 ?_;refine oC ?_;refine Cb (Ah7 (Dq d (nodes.take z.k) ps)[i] ps a9 c9 _ ap cp Fp FJ) fun u _=>?_;refine dk ?_;refine dt 16 ?_;refine dN 17 ?_;refine oS ?_;refine Tx ?_;refine dd ?_;refine Pd (E:=EC 1) (xs:=z.ys) [.slice u.a (H5 (Dq d (nodes.take z.k) ps)[i] ps).length u.c] hH (fun w=>⟨rfl,⟨rfl,GV⟩,rfl⟩) ?_
  refine A4 (E:=Ak) (xs:=H5 (Dq d (nodes.take z.k) ps)[i] ps) fun Fq=>?_;refine Aeu (E:=Ak) (x:=H5 (Dq d (nodes.take z.k) ps)[i] ps) FM ?_;refine Ur (E:=Mr Ak FM) (ys:=z.ys) (xs:=Dq d (nodes.take z.k) ps) (x:=H5 (Dq d (nodes.take z.k) ps)[i] ps) i rfl hm FJ fun G'=>?_;rw [←hst];refine go ?_;refine Ce ⟨z.k+1,z.ys.set i [.slice u.a (H5 (Dq d (nodes.take z.k) ps)[i] ps).length u.c],[g],G'⟩ hk (by show nodes.length - (z.k+1) < nodes.length - z.k;omega)
 ·rw [show nodes.take z.k=nodes from List.take_of_length_le FJ];refine go ?_;refine Xp ?_;refine ret z trivial rfl
theorem Apv {l:List Int} (hg:Vq l) (i:Nat):Rs 1 7 (I3 l ((i:Nat):Int))=true:=by
 refine Al4 ?_ fun z hz=>?_
 ·unfold I3 Kt;rw [List.pairwise_map];exact (List.Pairwise.filter _ List.pairwise_lt_range).imp fun h=>by omega
 ·have:=Mh hg hz;have:=hg.n1;omega
structure ShA where
 ys:List (List Value)
 F:List Nat
 G:List Nat
structure SZ where
 e:ShA
 r:ShA
 d:ShA
 u:ShA
structure JE where
 g:Nat
 b:Option Addr
 d:Nat
 F:List Nat
 a:Option Addr
 c:Nat
 G:List Nat
theorem Anc (n:Du) (i:Nat) (p:Ar) (a1:Option Addr) (c1:Nat) (a4:Option Addr) (c4:Nat) (a5:Option Addr) (c5:Nat) (a6:Option Addr) (c6:Nat) (a7:Option Addr) (c7:Nat) (a2 a3:Option Addr) (l2 c2 l3 c3:Nat) (w1 w2 w3 w4:Int) (F1:List Nat) (z:SZ) (FT:List Nat) (hl:Mj n=true) (hi:i < n.An.Ad.length) (hi0:0 < i) (h8:Vq n.An.Ad) (hr:Eu n.An.Ad (i:Nat)=true→Bx (Q5 n i)=true) (he:Eu n.An.Ad (i:Nat)=false→Ba (Qt n i)=true) (hp:Bw p=true) (hps:p.data.size≤maxLen) (hd:∀q∈n.down,q.length≤6) :
  Fn prog 169 [.agg #[.slice a1 n.An.Ad.length c1,.int .i64 w1,.int .i64 w2,.slice a2 l2 c2,.int .i64 w3,.int .i64 w4,.slice a3 l3 c3,.slice a4 n.An.Ad.length c4,.slice a5 n.An.Ad.length c5,.slice a6 n.An.Ad.length c6,.slice a7 n.An.Ad.length c7],.int .i64 (i:Nat),.agg #[.int .i64 (p).Cp,.int .i64 (p).Ae,.int .i64 (p).Ap,.int .i64 (p).Fv,.string (p).data]] [Hp FT,.sl Bb (.slice a1 n.An.Ad.length c1) n.An.Ad F1,.isv (EA Bk n.An.Ad.length) (.agg z.e.ys.flatten.toArray) n.Af z.e.G,.isv (EA Bi n.An.Ad.length) (.agg z.r.ys.flatten.toArray) n.Ac z.r.G,.isv (EA (Mr Ak FM) n.An.Ad.length) (.agg z.d.ys.flatten.toArray) n.down z.d.G,.isv (EA (Mr Ak FM) n.An.Ad.length) (.agg z.u.ys.flatten.toArray) n.up z.u.G] [.ow (EC 2) 133 (.slice a4 n.An.Ad.length c4) z.e.ys z.e.F,.ow (EC 5) 140 (.slice a5 n.An.Ad.length c5) z.r.ys z.r.F,.ow (EC 1) 142 (.slice a6 n.An.Ad.length c6) z.d.ys z.d.F,.ow (EC 1) 142 (.slice a7 n.An.Ad.length c7) z.u.ys z.u.F] (fun (_:SZ × KA)=>True) (fun y=>.slice y.2.a (C7 n i p).2.length y.2.c) (fun y=>[.ow (EC 2) 133 (.slice a4 n.An.Ad.length c4) y.1.e.ys y.1.e.F,.ow (EC 5) 140 (.slice a5 n.An.Ad.length c5) y.1.r.ys y.1.r.F,.ow (EC 1) 142 (.slice a6 n.An.Ad.length c6) y.1.d.ys y.1.d.F,.ow (EC 1) 142 (.slice a7 n.An.Ad.length c7) y.1.u.ys y.1.u.F,.isv (EA Bk n.An.Ad.length) (.agg y.1.e.ys.flatten.toArray) (C7 n i p).1.Af y.1.e.G,.isv (EA Bi n.An.Ad.length) (.agg y.1.r.ys.flatten.toArray) (C7 n i p).1.Ac y.1.r.G,.isv (EA (Mr Ak FM) n.An.Ad.length) (.agg y.1.d.ys.flatten.toArray) (C7 n i p).1.down y.1.d.G,.isv (EA (Mr Ak FM) n.An.Ad.length) (.agg y.1.u.ys.flatten.toArray) (C7 n i p).1.up y.1.u.G,.ow A8 9 (.slice y.2.a (C7 n i p).2.length y.2.c) (C7 n i p).2 y.2.F]):=by
 obtain ⟨q1,q2,q3,q4⟩:=Bm.1 hl;have hn8:=h8.n1;obtain ⟨d0,d1_⟩:=Adw (i:=i);refine enter func169 rfl ntmps169 fun w0=>?_;refine Iu n.An ?_;refine go ?_;intros;refine Cb (Pa n.An ((i:Nat):Int) _ F1 h8 FJ) fun _ _=>?_;cases hlf:Eu n.An.Ad (i:Nat)
 rotate_left
 ·have hir:i < n.Ac.length:=FJ
  have hgr:=Eb.1 (Hv hir▸hr hlf);have hev:=(V3 (d:=N5 i) hgr hp d0 d1_).2;rw [show C7 n i p=(⟨n.An,n.Ab,n.Af,n.Ac.set i (Dm n.Ac[i] p (N5 i)),n.down,n.up⟩,Vk i (Iv n.Ac[i] p)) by unfold C7;rw [if_pos hlf,Hv hir]];refine go ?_;refine Gf (ys:=z.r.ys) fun hm hlr=>?_;refine Ai5 (E:=Bi) (ys:=z.r.ys) (xs:=n.Ac) i hm FJ FJ fun h2 h3 v Gi ev=>?_;refine Es (v:=v) (x:=n.Ac[i]) ?_;rintro b1 d1 G1 b2 d2 G2 rfl l1 l2
  have e8:z.r.ys[i]=[.bool (n.Ac[i]).Be,.int .i64 (n.Ac[i]).Ai,.int .i64 (n.Ac[i]).Aa.next,.slice b1 (n.Ac[i]).Aa.Am.length d1,.slice b2 (n.Ac[i]).Al.length d2]:=KC
  refine P5 (E:=EC 5) (xs:=z.r.ys) (m:=5) (Mn 5) i ?_ FP rfl h2;rintro _ g A cs B rfl k2 k3 hH;obtain ⟨k4, -, -⟩:=k3 w0;rw [e8] at k4;subst k4;dsimp only [List.append];refine go ?_
  refine E4 [1,3,5,6] [0,1,2,3,4,5,6,7,8,9,10,11,12,13,14,15] (fun w:Nat × NwS=>[(7,Iq w.1 0 0),(8,.slice w.2.ae (Iv n.Ac[i] p).length w.2.ce)]) (fun w=>[.row w.1 140 0 [] [.bool (Dm n.Ac[i] p (N5 i)).Be,.int .i64 (Dm n.Ac[i] p (N5 i)).Ai,.int .i64 (Dm n.Ac[i] p (N5 i)).Aa.next,.slice w.2.a1 (Dm n.Ac[i] p (N5 i)).Aa.Am.length w.2.c1,.slice w.2.a2 (Dm n.Ac[i] p (N5 i)).Al.length w.2.c2] [],.isv Bi (.agg #[.bool (Dm n.Ac[i] p (N5 i)).Be,.int .i64 (Dm n.Ac[i] p (N5 i)).Ai,.int .i64 (Dm n.Ac[i] p (N5 i)).Aa.next,.slice w.2.a1 (Dm n.Ac[i] p (N5 i)).Aa.Am.length w.2.c1,.slice w.2.a2 (Dm n.Ac[i] p (N5 i)).Al.length w.2.c2]) (Dm n.Ac[i] p (N5 i)) w.2.F1,.ow A8 9 (.slice w.2.ae (Iv n.Ac[i] p).length w.2.ce) (Iv n.Ac[i] p) w.2.Fe]) (fun _=>True) ?_ fun w _=>?_
  ·skip
   refine As [0,4,5] [] ?_;refine Ds 0 1 2 3 ?_;refine Ed 4 5 ?_;refine dt 6 ?_;refine dM 7 12 ?_ ?_
   ·refine oC ?_;refine Cb (Xa i FJ) fun _ _=>?_;refine dk ?_;refine dM 8 12 ?_ ?_
    ·refine oC ?_;refine Cb (Ad8 n.Ac[i] p (N5 i) _ Gi hgr hp d0 d1_) fun s _=>?_;refine dk ?_;refine Ed 9 10 ?_;refine dt 11 ?_;refine dN 12 ?_;apply Cr;rfl;intro _;refine dk ?_;refine dN 13 ?_;refine oS ?_;refine dk ?_;refine dt 14 ?_;refine dd ?_;refine Bt (⟨_,s⟩:Nat × NwS) trivial
    ·apply Cr;rfl;intro _;exact BT
   ·apply Cr;rfl;intro _;refine dk ?_;refine dN 7 ?_;refine oC ?_;refine Cb (Xa i FJ) fun _ _=>?_;exact BT
  obtain ⟨gr,s⟩:=w;dsimp only;refine O3 ?_;intros;refine Pd (E:=EC 5) (xs:=z.r.ys) [.bool (Dm n.Ac[i] p (N5 i)).Be,.int .i64 (Dm n.Ac[i] p (N5 i)).Ai,.int .i64 (Dm n.Ac[i] p (N5 i)).Aa.next,.slice s.a1 (Dm n.Ac[i] p (N5 i)).Aa.Am.length s.c1,.slice s.a2 (Dm n.Ac[i] p (N5 i)).Al.length s.c2] hH (fun w=>⟨rfl,⟨rfl,GV⟩,rfl⟩) ?_;refine Ur (E:=Bi) (ys:=z.r.ys) (xs:=n.Ac) (x:=Dm n.Ac[i] p (N5 i)) i rfl hm FJ fun G'=>?_;refine A4 (E:=A8) (xs:=Iv n.Ac[i] p) fun Fq=>?_;refine go ?_;refine Cb (Alp i (Iv n.Ac[i] p) _ _ Fq FT FJ FJ (Ahx hgr hp)) fun u _=>?_
  refine go ?_;refine ret (⟨z.e,⟨z.r.ys.set i [.bool (Dm n.Ac[i] p (N5 i)).Be,.int .i64 (Dm n.Ac[i] p (N5 i)).Ai,.int .i64 (Dm n.Ac[i] p (N5 i)).Aa.next,.slice s.a1 (Dm n.Ac[i] p (N5 i)).Aa.Am.length s.c1,.slice s.a2 (Dm n.Ac[i] p (N5 i)).Al.length s.c2],[g],G'⟩,z.d,z.u⟩,u) trivial rfl
 ·have hir:i < n.Af.length:=FJ
  have hge:Ba n.Af[i]=true:=J3 hir▸he hlf;have hel:=(Hg.1 hge).2.1;have hkl:=Wc n.An.Ad ((i:Nat):Int);have hkx:∀x∈I3 n.An.Ad ((i:Nat):Int),0≤x∧x.toNat < n.down.length:=fun x hx=>by have:=Mh h8 hx;omega
  have hri:=Apv h8 i;refine go ?_;refine Cb (Qx n.An ((i:Nat):Int) _ F1 (T3 h8.z FJ) ⟨FJ,FJ⟩) fun u _=>?_;refine A4 (E:=Bb) (xs:=I3 n.An.Ad ((i:Nat):Int)) fun Fk=>?_;refine go ?_;refine Ax rfl (fun hk=>?_) (fun hk=>?_)
  ·rw [show C7 n i p=(⟨n.An,n.Ab,n.Af.set i (Q2 n.Af[i] p.Ae),n.Ac,Dq n.down (V1 n.Af[i] p.Ae (I3 n.An.Ad ((i:Nat):Int))) [p],n.up⟩,[]) by unfold C7 Agc Aaj;rw [if_neg KM,if_pos hk,if_pos hk,J3 hir]];rw [←Aut hge hri];refine go ?_;refine Gf (ys:=z.e.ys) fun hm hlr=>?_;refine Ai5 (E:=Bk) (ys:=z.e.ys) (xs:=n.Af) i hm FJ FJ fun h2 h3 v Gi ev=>?_;refine Ga (v:=v) (x:=n.Af[i]) ?_;rintro b1 d1 G1 rfl l1;have e8:z.e.ys[i]=[.int .i64 n.Af[i].Ai,.slice b1 n.Af[i].Ah.length d1]:=KC
   refine P5 (E:=EC 2) (xs:=z.e.ys) (m:=2) (Mn 2) i ?_ FP rfl h2;rintro _ g A cs B rfl k2 k3 hH;obtain ⟨k4, -, -⟩:=k3 w0;rw [e8] at k4;subst k4;dsimp only [List.append];refine go ?_
   refine E4 [1,3,5,6,9] [0,1,2,3,4,5,6,7,8,9,10,11,12,13,14,15] (fun w:JE=>[(10,Iq w.g 0 0),(11,.slice w.a (Acb n.Af[i] p.Ae (I3 n.An.Ad ((i:Nat):Int))).length w.c)]) (fun w=>[.row w.g 133 0 [] [.int .i64 (Q2 n.Af[i] p.Ae).Ai,.slice w.b (Q2 n.Af[i] p.Ae).Ah.length w.d] [],.isv Bk (.agg #[.int .i64 (Q2 n.Af[i] p.Ae).Ai,.slice w.b (Q2 n.Af[i] p.Ae).Ah.length w.d]) (Q2 n.Af[i] p.Ae) w.F,.ow Bb 3 (.slice w.a (Acb n.Af[i] p.Ae (I3 n.An.Ad ((i:Nat):Int))).length w.c) (Acb n.Af[i] p.Ae (I3 n.An.Ad ((i:Nat):Int))) w.G]) (fun _=>True) ?_ fun w _=>?_
   ·skip
    refine As [0,4,5] [] ?_;refine Ds 0 1 2 3 ?_;refine Ds 4 5 6 7 ?_;refine dM 8 12 ?_ ?_
    ·refine oC ?_;refine Cb (Afj n.Af[i] p.Ae (I3 n.An.Ad ((i:Nat):Int)) _ Gi u.a u.c Fk FJ (fun x hx=>by have:=Qf hge hx;omega) FJ) fun s _=>?_;refine H4 ?_;rintro b3 d3 G3 es l3;rw [es];refine Fc (Q2 n.Af[i] p.Ae) ?_;refine Ada Mq fun Fe=>?_;refine dk ?_;refine Ed 9 10 ?_;refine dt 11 ?_;refine dN 12 ?_;apply Cr;rfl;intro _;refine dk ?_;exact FF
    ·apply Cr;rfl;intro _;refine dk ?_;refine dN 8 ?_;refine oC ?_;refine Cb (Afj n.Af[i] p.Ae (I3 n.An.Ad ((i:Nat):Int)) _ Gi u.a u.c Fk FJ (fun x hx=>by have:=Qf hge hx;omega) FJ) fun s _=>?_;refine H4 ?_;rintro b3 d3 G3 es l3;rw [es];refine Fc (Q2 n.Af[i] p.Ae) ?_;refine Ada Mq fun Fe=>?_;refine dk ?_;refine Ed 9 10 ?_;refine dt 11 ?_;exact FF
   refine O3 ?_;intros;refine Pd (E:=EC 2) (xs:=z.e.ys) [.int .i64 (Q2 n.Af[i] p.Ae).Ai,.slice w.b (Q2 n.Af[i] p.Ae).Ah.length w.d] hH (fun _=>⟨rfl,⟨rfl,GV⟩,rfl⟩) ?_;refine Ur (E:=Bk) (ys:=z.e.ys) (xs:=n.Af) (x:=Q2 n.Af[i] p.Ae) i rfl hm FJ fun G'=>?_;refine A4 (E:=Bb) (xs:=Acb n.Af[i] p.Ae (I3 n.An.Ad ((i:Nat):Int))) fun Fk2=>?_;refine Ll (E:=Ak) (xs:=[p]) (Dh p hps) ?_ FK;refine A4 (E:=Ak) (xs:=[p]) fun Fp=>?_;refine go ?_
   refine Cb (Ox n.down (Acb n.Af[i] p.Ae (I3 n.An.Ad ((i:Nat):Int))) [p] _ _ _ _ _ _ _ _ _ _ _ _ _ _ _ _ _ _ _ _ _ _ _ _ _ z.d.ys z.d.F z.d.G _ _ Fk2 _ _ Fp (by rw [Aut hge hri];exact fun x hx=>hkx x (Aca x hx)) hd) fun y _=>?_;refine go ?_;intros;refine Dc A8 ?_;refine go ?_;refine ret (⟨⟨z.e.ys.set i [.int .i64 (Q2 n.Af[i] p.Ae).Ai,.slice w.b (Q2 n.Af[i] p.Ae).Ah.length w.d],[g],G'⟩,z.r,⟨y.ys,y.F,y.G⟩,z.u⟩,⟨0,_,_,_⟩) trivial rfl
  ·rw [show C7 n i p=(⟨n.An,n.Ab,n.Af,n.Ac,Dq n.down (I3 n.An.Ad ((i:Nat):Int)) [p],n.up⟩,[]) by unfold C7 Agc Aaj;rw [if_neg KM,if_neg hk,if_neg hk]];refine O3 ?_;intros;refine Ll (E:=Ak) (xs:=[p]) (Dh p hps) ?_ FK;refine A4 (E:=Ak) (xs:=[p]) fun Fp=>?_;refine go ?_;refine Cb (Ox n.down (I3 n.An.Ad ((i:Nat):Int)) [p] _ _ _ _ _ _ _ _ _ _ _ _ _ _ _ _ _ _ _ _ _ _ _ _ _ z.d.ys z.d.F z.d.G _ _ Fk _ _ Fp hkx hd) fun w _=>?_;refine go ?_;intros;refine Dc A8 ?_;refine go ?_;refine ret (⟨z.e,z.r,⟨w.ys,w.F,w.G⟩,z.u⟩,⟨0,_,_,_⟩) trivial rfl
structure RjS where
 g:Nat
 a:Option Addr
 c:Nat
 a2:Option Addr
 c2:Nat
 F:List Nat
structure Bdo where
 a:Option Addr
 c:Nat
 F:List Nat
theorem Aw2 (x:Ck) (n:Int) (v:Value) (F:List Nat) (t0:0≤x.Aa.Ap) (t1:x.Aa.Ap≤65535) (hm:x.holds.length≤1000) (hn:Ajq x.holds) (n0:-1≤n) (n1:n≤65536) :
  FV 312 [v,.int .i64 n] [.isv Do v x F] (.tuple #[.int .i64 (Hf x.Aa.Ap x.holds n:Nat),.bool (Pl x.Aa.Ap x.holds n)]):=by
 refine enter func312 rfl ntmps312 fun w0=>?_;refine Ht ?_;rintro a1 c1 F1 a2 c2 F2 rfl l1 l2;refine go ?_;intros;refine D8 [1,2,4,5] (fun k:Nat=>[(6,.int .i64 (k:Nat))]) (fun k=>k≤x.holds.length∧∀j (_:j < k) (h:j < x.holds.length),gp x.Aa.Ap x.holds[j].Ae < gp x.Aa.Ap n) (fun k=>x.holds.length - k) 0 ⟨Nat.zero_le _,fun j h=>by omega⟩ fun k hk=>?_;obtain ⟨hk1,hk2⟩:=hk;by_cases hlt:k < x.holds.length
 ·obtain ⟨m0,m1⟩:=hn x.holds[k] (List.getElem_mem hlt);refine Ww (xs:=x.holds) k ?_;rintro hi b o e;rw [e];refine go ?_;refine As [0,1] [] ?_;refine Ds 0 1 2 3 ?_;refine dt 4 ?_;rw [decide_eq_true (show (k:Int) < x.holds.length by omega)];refine dt 5 ?_;refine Dr 6 ?_;refine Dr 7 ?_;refine Dr 8 ?_;refine Dr 9 ?_;refine Dr 10 ?_;refine Dr 11 ?_;refine Dr 12 ?_;refine Dr 13 ?_;refine Dr 14 ?_;refine Dr 16 ?_;refine Dr 17 ?_;refine Dr 18 ?_;refine Dr 19 ?_;refine d1g 15 ?_;apply On.h;refine oC ?_;refine ce (fun w s=>Ju _ _ _ FJ FJ) ?_;refine dk ?_;refine d1g 20 ?_;apply On.h
  refine oC ?_;refine ce (fun w s=>Ju _ _ _ FJ FJ) ?_;refine dk ?_;refine Dr 21 ?_;refine dt 22 ?_;refine dd ?_;refine go ?_;refine Ax rfl (fun h=>?_) (fun h=>?_)
  ·refine go ?_;refine Ce (k+1) ⟨hlt,fun j hj hh=>?_⟩ FJ;rcases Nat.lt_or_eq_of_le (Nat.lt_succ_iff.1 hj) with h2|rfl
   ·exact hk2 j h2 hh
   ·exact h
  ·have hh:Hf x.Aa.Ap x.holds n=k:=Zf hk1 (fun j hj h=>decide_eq_true (hk2 j hj h)) (fun _=>decide_eq_false h);have ht:Pl x.Aa.Ap x.holds n=decide (x.holds[k].Ae=n):=by unfold Pl;rw [hh,List.getElem?_eq_getElem hlt]
   rw [ht,hh];refine go ?_;refine As [0,1] [] ?_;refine Ds 0 1 2 3 ?_;refine Ed 4 5 ?_;rw [decide_eq_true (show (k:Int) < x.holds.length by omega)];refine dt 6 ?_;refine Dr 7 ?_;refine Dr 8 ?_;refine Dr 9 ?_;refine Dr 10 ?_;refine Dr 11 ?_;refine Dr 12 ?_;refine Dr 13 ?_;refine Dr 14 ?_;refine Ed 15 16 ?_;refine dt 17 ?_;exact CR
 ·have hh:Hf x.Aa.Ap x.holds n=k:=Zf hk1 (fun j hj h=>decide_eq_true (hk2 j hj h)) (fun h=>absurd h hlt);have ht:Pl x.Aa.Ap x.holds n=false:=by unfold Pl;rw [hh,List.getElem?_eq_none FJ]
  rw [ht,hh];refine go ?_;refine As [0] [] ?_;refine Ds 0 1 2 3 ?_;refine dt 4 ?_;rw [decide_eq_false (show ¬(k:Int) < x.holds.length by omega)];refine dt 5 ?_;refine ds 6 ?_;refine ds 7 ?_;refine ds 8 ?_;refine ds 9 ?_;refine ds 10 ?_;refine ds 11 ?_;refine ds 12 ?_;refine ds 13 ?_;refine ds 14 ?_;refine ds 15 ?_;refine ds 16 ?_;refine ds 17 ?_;refine ds 18 ?_;refine ds 19 ?_;refine ds 20 ?_;refine ds 21 ?_;refine dt 22 ?_;refine dd ?_;refine go ?_;refine As [0] [] ?_;refine Ds 0 1 2 3 ?_;refine Ed 4 5 ?_;rw [decide_eq_false (show ¬(k:Int) < x.holds.length by omega)];refine dt 6 ?_
  refine ds 7 ?_;refine ds 8 ?_;refine ds 9 ?_;refine ds 10 ?_;refine ds 11 ?_;refine ds 12 ?_;refine ds 13 ?_;refine ds 14 ?_;refine Ed 15 16 ?_;refine dt 17 ?_;exact CR
theorem Aka (x:Ck) (p:Ar) (v:Value) (F:List Nat) (t0:0≤x.Aa.Ap) (t1:x.Aa.Ap≤65535) (hl:x.Aa.Ao.length≤6) (k0:0≤x.Ai) (k1:x.Ai≤99999) (hm:x.holds.length≤900) (hn:Ajq x.holds) (n0:-1≤p.Ae) (n1:p.Ae≤65536) (hps:p.data.size≤maxLen) (hans:(Dz x.Aa p).1.data.size≤maxLen) :
  Fn prog 251 [v,.agg #[.int .i64 p.Cp,.int .i64 p.Ae,.int .i64 p.Ap,.int .i64 p.Fv,.string p.data]] [.isv Do v x F] [] (fun (_:TiS)=>True) (fun s=>.tuple #[.agg #[.int .i64 (Pu x p.Ae).Aa.Ap,.int .i64 (Pu x p.Ae).Aa.size,.slice s.a (Pu x p.Ae).Aa.Ao.length s.c,.int .i64 (Pu x p.Ae).Ai,.int .i64 (Pu x p.Ae).quiet,.slice s.a2 (Pu x p.Ae).holds.length s.c2],.slice s.ae (Ol x p).length s.ce])
   (fun s=>[.isv Do (.agg #[.int .i64 (Pu x p.Ae).Aa.Ap,.int .i64 (Pu x p.Ae).Aa.size,.slice s.a (Pu x p.Ae).Aa.Ao.length s.c,.int .i64 (Pu x p.Ae).Ai,.int .i64 (Pu x p.Ae).quiet,.slice s.a2 (Pu x p.Ae).holds.length s.c2]) (Pu x p.Ae) s.F,.ow Ak 223 (.slice s.ae (Ol x p).length s.ce) (Ol x p) s.Fe]):=by
 refine enter func251 rfl ntmps251 fun w0=>?_;refine Ht ?_;rintro a1 c1 F1 a2 c2 F2 rfl l1 l2;refine Cv x.Aa (a1:=a1) ?_;generalize F1=F3;refine go ?_;intros
 refine E4 [2,3,4,5] [0,1,2,3,4,5,6] (fun s:RjS=>[(6,Iq s.g 0 0)]) (fun s=>[.row s.g 45 0 [] [.int .i64 x.Aa.Ap,.int .i64 x.Aa.size,.slice s.a x.Aa.Ao.length s.c,.int .i64 x.Ai,.int .i64 x.quiet,.slice s.a2 (J8 x.Aa x.Ai x.holds).length s.c2] [],.isv Do (.agg #[.int .i64 x.Aa.Ap,.int .i64 x.Aa.size,.slice s.a x.Aa.Ao.length s.c,.int .i64 x.Ai,.int .i64 x.quiet,.slice s.a2 (J8 x.Aa x.Ai x.holds).length s.c2]) (Zi x x.Aa) s.F]) (fun _=>True) ?_ fun s _=>?_
 ·refine O3 ?_;intros;refine As [1,2] [] ?_;refine Ed 0 1 ?_;refine dt 2 ?_;refine dM 3 5 ?_ ?_
  ·refine oC ?_;refine Cb (T4 x.Aa _ F3 t0 t1 FJ) fun y _=>?_;refine Hy ?_;rintro a5 c5 F5 e5 l5;rw [e5];refine A4 (xs:=x.Aa.Ao) fun F8=>?_;refine Cv x.Aa (a1:=a5) ?_;refine dk ?_;refine dM 4 5 ?_ ?_
   ·refine oC ?_;refine Cb (Ug x x.Aa _ _ F _ t0 t1 FJ hn) fun z _=>?_;refine dk ?_;refine dN 5 ?_;apply Cr;rfl;intro _;exact BX
   ·apply Cr;rfl;intro _;refine dk ?_;refine dN 4 ?_;refine oC ?_;refine Cb (Ug x x.Aa _ _ F _ t0 t1 FJ hn) fun z _=>?_;exact BX
  ·apply Cr;rfl;intro _;refine dk ?_;refine dN 3 ?_;refine oC ?_;refine Cb (T4 x.Aa _ F3 t0 t1 FJ) fun y _=>?_;refine Hy ?_;rintro a5 c5 F5 e5 l5;rw [e5];refine A4 (xs:=x.Aa.Ao) fun F8=>?_;refine Cv x.Aa (a1:=a5) ?_;refine dk ?_;refine dN 4 ?_;refine oC ?_;refine Cb (Ug x x.Aa _ _ F _ t0 t1 FJ hn) fun z _=>?_;exact BX
 refine go ?_;refine cb (fun w st=>(Zs x.Aa p.Ae _ F3 t0 t1 n0 n1).val w (En (st.get (p:=.isv _ _ _ _) FK))) ?_;cases hb:Jh x.Aa p.Ae
 ·have e1:Pu x p.Ae=Zi x x.Aa:=by unfold Pu;rw [hb];rfl
  have e2:Ol x p=[Te x.Aa]:=by unfold Ol;rw [hb];rfl
  rw [e1,e2];refine go ?_;refine As [0,4] [] ?_;refine Ed 0 1 ?_;refine dt 2 ?_;refine dN 3 ?_;refine oC ?_;refine Cb (Abf x.Aa.Ap x.Aa.size _ x.Aa.Ao.length _ t0 t1 FJ) fun _ _=>?_;refine dk ?_;refine dM 4 5 ?_ ?_
  ·apply Lx;rfl;rfl;rfl;rfl;exact Lr;exact La;intro _;refine dk ?_;refine dN 5 ?_;refine oS ?_;exact CM
  ·refine oS ?_;refine dk ?_;refine dN 4 ?_;apply Lx;rfl;rfl;rfl;rfl;exact Lr;exact La;intro _;exact CM
 refine go ?_;refine As [3,4] [] ?_;refine Ds 0 1 2 3 ?_;refine Ed 4 5 ?_;refine dt 6 ?_;refine dN 7 ?_;refine oC ?_;refine cb (fun w _=>Ui _ _ _ _ _ w t0 t1 FJ) ?_;refine dk ?_;refine dt 8 ?_;refine dN 9 ?_;apply Lx;rfl;rfl;rfl;rfl;exact Lr;exact La;intro _;refine dk ?_;refine dt 10 ?_;refine dd ?_;refine O3 ?_;intros;refine Ll (xs:=[Ab4 x.Aa p.Ae]) (Dh _ ID) ?_ FK;refine go ?_;refine Cb (Aw2 x p.Ae _ F t0 t1 FJ hn n0 n1) fun _ _=>?_;cases ht:Pl x.Aa.Ap x.holds p.Ae
 ·have e1:Pu x p.Ae=⟨x.Aa,x.Ai,x.quiet,(O6 x.holds (Hf x.Aa.Ap x.holds p.Ae) ⟨p.Ae,x.Ai+3⟩)⟩:=by unfold Pu;rw [hb,ht];rfl
  have e2:Ol x p=[Ab4 x.Aa p.Ae]++[(Dz x.Aa p).1]:=by unfold Ol;rw [hb,ht];rfl
  rw [e1,e2];have hkk:=Zp x.Aa.Ap x.holds p.Ae;refine Xq (E:=Bn) (xs:=x.holds) ?_;rintro _ _ e8 q1 q2;cases e8;refine go ?_;refine cb (fun w st=>(Ai7 x.Aa p _ F3 hps).val w (En (st.get (p:=.isv _ _ _ _) FK))) ?_;refine go ?_;intros;refine Avk (E:=Bn) (xs:=x.holds) (Hf x.Aa.Ap x.holds p.Ae) (fun FT=>?_) hkk;obtain ⟨T1,hT1⟩:∃T1,T1=x.holds.take (Hf x.Aa.Ap x.holds p.Ae):=⟨_,rfl⟩;have hT1l:T1.length=Hf x.Aa.Ap x.holds p.Ae:=by rw [hT1,List.length_take];omega
  rw [←hT1];have hAdd:T1++[⟨p.Ae,x.Ai+3⟩]++x.holds.drop (Hf x.Aa.Ap x.holds p.Ae)=(O6 x.holds (Hf x.Aa.Ap x.holds p.Ae) ⟨p.Ae,x.Ai+3⟩):=by rw [hT1];unfold O6;simp
  refine E4 [4,5,6,7,10] [0,1,2,3,5,6,7,8,9,10,11,12] (fun _:Bdo=>[]) (fun z=>[.row s.g 45 0 [] [.int .i64 x.Aa.Ap,.int .i64 x.Aa.size,.slice s.a x.Aa.Ao.length s.c,.int .i64 x.Ai,.int .i64 x.quiet,.slice z.a (O6 x.holds (Hf x.Aa.Ap x.holds p.Ae) ⟨p.Ae,x.Ai+3⟩).length z.c] [],.ow Bn 215 (.slice z.a (O6 x.holds (Hf x.Aa.Ap x.holds p.Ae) ⟨p.Ae,x.Ai+3⟩).length z.c) (O6 x.holds (Hf x.Aa.Ap x.holds p.Ae) ⟨p.Ae,x.Ai+3⟩) z.F]) (fun _=>True) ?_ fun z _=>?_
  ·refine O3 ?_;intros;refine As [1,8] [] ?_;refine Ed 1 2 ?_;refine dt 3 ?_;refine dt 4 ?_ (hy:=P9 (i:=T1.length) rfl rfl (by rw [hT1l]) FJ FJ);refine Ds 6 9 10 11 ?_;refine Asd 12 (Hf x.Aa.Ap x.holds p.Ae) (fun a6 c6 F6=>?_);refine dM 0 7 ?_ ?_
   ·apply Mx;rfl;intro _;refine Dc Bn ?_;refine dk ?_;refine dM 5 7 ?_ ?_
    ·refine Pm (ys:=T1) Jp Lj fun a7 c7 F7=>?_;rw [List.nil_append];refine dk ?_;refine dN 7 ?_;apply Lx;rfl;rfl;rfl;rfl;exact Lr;exact La;intro _;exact AI
    ·apply Lx;rfl;rfl;rfl;rfl;exact Lr;exact La;intro _;refine dk ?_;refine dN 5 ?_;refine Pm (ys:=T1) Jp Lj fun a7 c7 F7=>?_;rw [List.nil_append];exact AI
   ·apply Lx;rfl;rfl;rfl;rfl;exact Lr;exact La;intro _;refine dk ?_;refine dN 0 ?_;apply Mx;rfl;intro _;refine Dc Bn ?_;refine dk ?_;refine dN 5 ?_;refine Pm (ys:=T1) Jp Lj fun a7 c7 F7=>?_;rw [List.nil_append];exact AI
  refine Ht (x:=Zi x x.Aa) ?_;rintro b1 d1 G1 b2 d2 G2 e5 m1 m2;simp only [Value.agg.injEq,Array.mk.injEq,List.cons.injEq,Value.slice.injEq,Value.int.injEq,true_and,and_true] at e5;obtain ⟨-, -,⟨rfl, -,rfl⟩, -⟩:=e5;refine A4 (E:=Bn) fun F9=>?_;refine Gt ⟨x.Aa,x.Ai,x.quiet,(O6 x.holds (Hf x.Aa.Ap x.holds p.Ae) ⟨p.Ae,x.Ai+3⟩)⟩ (a1:=s.a) ?_;refine go ?_;refine As [4,7] [] ?_;refine Ed 0 1 ?_;refine dt 2 ?_;refine dN 3 ?_;apply Lx;rfl;rfl;rfl;rfl;exact Lr;exact La;intro _;refine dk ?_;refine dN 4 ?_;refine Qa (Dh (Dz x.Aa p).1 hans) Hq fun a9 c9 F9=>?_;refine dk ?_;refine dN 5 ?_;refine oS ?_
  refine dk ?_;refine dt 6 ?_;refine dd ?_;refine go ?_;refine ret ⟨s.a,s.c,z.a,z.c,_,a9,c9,F9⟩ trivial rfl
 ·have e1:Pu x p.Ae=Zi x x.Aa:=by unfold Pu;rw [hb,ht];rfl
  have e2:Ol x p=[Ab4 x.Aa p.Ae]:=by unfold Ol;rw [hb,ht];rfl
  rw [e1,e2];refine go ?_;refine ret ⟨s.a,s.c,s.a2,s.c2,s.F,_,_,_⟩ trivial rfl
theorem Ana (x:Ck) (p:Ar) (v:Value) (F:List Nat) (hg:C3 x=true) (n0:0≤p.Ae) (n1:p.Ae≤65535) (hps:p.data.size≤maxLen) :
  Fn prog 251 [v,.agg #[.int .i64 p.Cp,.int .i64 p.Ae,.int .i64 p.Ap,.int .i64 p.Fv,.string p.data]] [.isv Do v x F] [] (fun (_:TiS)=>True) (fun s=>.tuple #[.agg #[.int .i64 (Nc x p.Ae).Aa.Ap,.int .i64 (Nc x p.Ae).Aa.size,.slice s.a (Nc x p.Ae).Aa.Ao.length s.c,.int .i64 (Nc x p.Ae).Ai,.int .i64 (Nc x p.Ae).quiet,.slice s.a2 (Nc x p.Ae).holds.length s.c2],.slice s.ae (Ol x p).length s.ce])
   (fun s=>[.isv Do (.agg #[.int .i64 (Nc x p.Ae).Aa.Ap,.int .i64 (Nc x p.Ae).Aa.size,.slice s.a (Nc x p.Ae).Aa.Ao.length s.c,.int .i64 (Nc x p.Ae).Ai,.int .i64 (Nc x p.Ae).quiet,.slice s.a2 (Nc x p.Ae).holds.length s.c2]) (Nc x p.Ae) s.F,.ow Ak 223 (.slice s.ae (Ol x p).length s.ce) (Ol x p) s.Fe]):=by
 obtain ⟨gw,hl,t0,t1,k0,k1,hm,hn,hu,hb⟩:=Lc hg;have h:=Aka x p v F t0 t1 hl k0 FJ FJ (Agy hn) FJ FJ hps (Ag7 gw);rw [Bby hg] at h;exact h
structure JU where
 g:Nat
 b:Option Addr
 d:Nat
 F:List Nat
theorem Bet (n:Du) (i:Nat) (p:Ar) (a1:Option Addr) (c1:Nat) (a4:Option Addr) (c4:Nat) (a5:Option Addr) (c5:Nat) (a6:Option Addr) (c6:Nat) (a7:Option Addr) (c7:Nat) (a2 a3:Option Addr) (c2 c3:Nat) (F1 FS:List Nat) (z:SZ) (hl:Mj n=true) (h0:i≠0) (hi:i < n.An.Ad.length) (h8:Vq n.An.Ad) (hsrc:C3 n.Ab=true) (he:∀k,k≠0→k < n.An.Ad.length→Eu n.An.Ad (k:Nat)=false→Ba (Qt n k)=true) (hp:Bw p=true) (hps:p.data.size≤maxLen) (hd:∀q∈n.down,q.length≤6) (hu:∀q∈n.up,q.length≤6) :
  Fn prog 170 [.agg #[.slice a1 n.An.Ad.length c1,.int .i64 n.Ab.Aa.Ap,.int .i64 n.Ab.Aa.size,.slice a2 n.Ab.Aa.Ao.length c2,.int .i64 n.Ab.Ai,.int .i64 n.Ab.quiet,.slice a3 n.Ab.holds.length c3,.slice a4 n.An.Ad.length c4,.slice a5 n.An.Ad.length c5,.slice a6 n.An.Ad.length c6,.slice a7 n.An.Ad.length c7],.int .i64 (i:Nat),.agg #[.int .i64 (p).Cp,.int .i64 (p).Ae,.int .i64 (p).Ap,.int .i64 (p).Fv,.string (p).data]] [.sl Bb (.slice a1 n.An.Ad.length c1) n.An.Ad F1,.isv Do (.agg #[.int .i64 n.Ab.Aa.Ap,.int .i64 n.Ab.Aa.size,.slice a2 n.Ab.Aa.Ao.length c2,.int .i64 n.Ab.Ai,.int .i64 n.Ab.quiet,.slice a3 n.Ab.holds.length c3]) n.Ab FS,.isv (EA Bk n.An.Ad.length) (.agg z.e.ys.flatten.toArray) n.Af z.e.G,.isv (EA Bi n.An.Ad.length) (.agg z.r.ys.flatten.toArray) n.Ac z.r.G,.isv (EA (Mr Ak FM) n.An.Ad.length) (.agg z.d.ys.flatten.toArray) n.down z.d.G,.isv (EA (Mr Ak FM) n.An.Ad.length) (.agg z.u.ys.flatten.toArray) n.up z.u.G] [.ow (EC 2) 133 (.slice a4 n.An.Ad.length c4) z.e.ys z.e.F,.ow (EC 5) 140 (.slice a5 n.An.Ad.length c5) z.r.ys z.r.F,.ow (EC 1) 142 (.slice a6 n.An.Ad.length c6) z.d.ys z.d.F,.ow (EC 1) 142 (.slice a7 n.An.Ad.length c7) z.u.ys z.u.F] (fun (_:SZ × Ams)=>True) (fun y=>.agg #[.int .i64 ((Rf n i p).Ab).Aa.Ap,.int .i64 ((Rf n i p).Ab).Aa.size,.slice y.2.a ((Rf n i p).Ab).Aa.Ao.length y.2.c,.int .i64 ((Rf n i p).Ab).Ai,.int .i64 ((Rf n i p).Ab).quiet,.slice y.2.a2 ((Rf n i p).Ab).holds.length y.2.c2]) (fun y=>[.ow (EC 2) 133 (.slice a4 n.An.Ad.length c4) y.1.e.ys y.1.e.F,.ow (EC 5) 140 (.slice a5 n.An.Ad.length c5) y.1.r.ys y.1.r.F,.ow (EC 1) 142 (.slice a6 n.An.Ad.length c6) y.1.d.ys y.1.d.F,.ow (EC 1) 142 (.slice a7 n.An.Ad.length c7) y.1.u.ys y.1.u.F,.isv (EA Bk n.An.Ad.length) (.agg y.1.e.ys.flatten.toArray) (Rf n i p).Af y.1.e.G,.isv (EA Bi n.An.Ad.length) (.agg y.1.r.ys.flatten.toArray) (Rf n i p).Ac y.1.r.G,.isv (EA (Mr Ak FM) n.An.Ad.length) (.agg y.1.d.ys.flatten.toArray) (Rf n i p).down y.1.d.G,.isv (EA (Mr Ak FM) n.An.Ad.length) (.agg y.1.u.ys.flatten.toArray) (Rf n i p).up y.1.u.G,.isv Do (.agg #[.int .i64 ((Rf n i p).Ab).Aa.Ap,.int .i64 ((Rf n i p).Ab).Aa.size,.slice y.2.a ((Rf n i p).Ab).Aa.Ao.length y.2.c,.int .i64 ((Rf n i p).Ab).Ai,.int .i64 ((Rf n i p).Ab).quiet,.slice y.2.a2 ((Rf n i p).Ab).holds.length y.2.c2]) (Rf n i p).Ab y.2.F]):=by
 obtain ⟨q1,q2,q3,q4⟩:=Bm.1 hl;have hn8:=h8.n1;obtain ⟨n0,n1⟩:=Lb hp;have hone:∀x∈[((i:Nat):Int)],0≤x∧x.toNat < n.down.length:=fun x hx=>by
  rw [List.mem_singleton] at hx;subst hx;omega
 obtain ⟨k,hk⟩:∃k,Aaa n i=k:=⟨_,rfl⟩;obtain ⟨e1,e2,e3⟩:=Au8 h8 hi h0 hk;refine enter func170 rfl ntmps170 fun w0=>?_;refine I5 (xs:=n.An.Ad) i ?_;rintro hi2 b o e4;rw [e4,e1];refine go ?_;intros;refine Ax rfl (fun h5=>?_) (fun h5=>?_)
 ·obtain rfl:k=0:=FJ
  rw [show Rf n i p=⟨n.An,Nc n.Ab p.Ae,n.Af,n.Ac,Dq n.down [((i:Nat):Int)] (Ol n.Ab p),n.up⟩ by unfold Rf;rw [if_pos hk]];refine go ?_;refine Cb (Ana n.Ab p _ FS hsrc n0 n1 hps) fun u _=>?_;refine O3 ?_;intros;refine Ll (E:=Bb) (xs:=[((i:Nat):Int)]) (Rd _) ?_ FK;refine A4 (E:=Bb) (xs:=[((i:Nat):Int)]) fun Fo=>?_;refine A4 (E:=Ak) (xs:=Ol n.Ab p) fun Fq=>?_;refine go ?_;refine Cb (Ox n.down [((i:Nat):Int)] (Ol n.Ab p) _ _ _ _ _ _ _ _ _ _ _ _ _ _ _ _ _ _ _ _ _ _ _ _ _ z.d.ys z.d.F z.d.G _ _ Fo _ _ Fq hone hd) fun y _=>?_;refine go ?_
  refine ret (⟨⟨z.e,z.r,⟨y.ys,y.F,y.G⟩,z.u⟩,⟨u.a,u.c,u.a2,u.c2,u.F⟩⟩:SZ × Ams) trivial rfl
 have h6:k≠0:=FJ
 have hkl:k < n.Af.length:=FJ
 have hku:k < n.up.length:=FJ
 have hge:Ba n.Af[k]=true:=J3 hkl▸he k h6 FJ e3;have hel:=(Hg.1 hge).2.1;obtain ⟨hc0,hc1⟩:=O8.1 (Hg.1 hge).1;rw [show Rf n i p=⟨n.An,n.Ab,n.Af.set k (Pk n.Af[k] p.Ae ((i:Nat):Int)),n.Ac,Dq n.down [((i:Nat):Int)] [Aa4 p],if Adz n.Af[k] p.Ae then n.up.modify k fun q=>H5 q [p] else n.up⟩ by unfold Rf;rw [if_neg FJ,hk,J3 hkl]];refine go ?_;refine Gf (ys:=z.e.ys) fun hm hlr=>?_;refine Ai5 (E:=Bk) (ys:=z.e.ys) (xs:=n.Af) k hm FJ FJ fun h2 h3 v Gi ev=>?_;refine Ga (v:=v) (x:=n.Af[k]) ?_;rintro b1 d1 G1 rfl l1
 have e8:z.e.ys[k]=[.int .i64 n.Af[k].Ai,.slice b1 n.Af[k].Ah.length d1]:=KC
 refine P5 (E:=EC 2) (xs:=z.e.ys) (m:=2) (Mn 2) k ?_ FP rfl h2;rintro _ g A cs B rfl k2 k3 hH;obtain ⟨k4, -, -⟩:=k3 w0;rw [e8] at k4;subst k4;dsimp only [List.append];refine go ?_
 refine E4 [1,3,5,6,7] [0,1,2,3,4,5,6,7,8,9,10,11,12,13,14,15] (fun w:JU=>[(10,Iq w.g 0 0),(11,.bool (Adz n.Af[k] p.Ae))]) (fun w=>[.row w.g 133 0 [] [.int .i64 (Pk n.Af[k] p.Ae ((i:Nat):Int)).Ai,.slice w.b (Pk n.Af[k] p.Ae ((i:Nat):Int)).Ah.length w.d] [],.isv Bk (.agg #[.int .i64 (Pk n.Af[k] p.Ae ((i:Nat):Int)).Ai,.slice w.b (Pk n.Af[k] p.Ae ((i:Nat):Int)).Ah.length w.d]) (Pk n.Af[k] p.Ae ((i:Nat):Int)) w.F]) (fun _=>True) ?_ fun w _=>?_
 ·skip
  refine As [0,4,5] [] ?_;refine Ds 0 1 2 3 ?_;refine Ds 4 5 6 7 ?_;refine dM 8 12 ?_ ?_
  ·refine oC ?_;refine Cb (Acn n.Af[k] p.Ae ((i:Nat):Int) _ Gi FJ (fun x hx=>by have:=Qf hge hx;omega) FJ FJ) fun s _=>?_;refine H4 ?_;rintro b3 d3 G3 es l3;rw [es];refine Fc (Pk n.Af[k] p.Ae ((i:Nat):Int)) ?_;refine Ada Mq fun Fe=>?_;refine dk ?_;refine Ed 9 10 ?_;refine dt 11 ?_;refine dN 12 ?_;apply Cr;rfl;intro _;refine dk ?_;refine dN 13 ?_;refine oS ?_;refine dk ?_;refine dt 14 ?_;refine dd ?_;refine Bt (⟨_,b3,d3,Fe⟩:JU) trivial
  ·apply Cr;rfl;intro _;refine dk ?_;refine dN 8 ?_;refine oC ?_;refine Cb (Acn n.Af[k] p.Ae ((i:Nat):Int) _ Gi FJ (fun x hx=>by have:=Qf hge hx;omega) FJ FJ) fun s _=>?_;refine H4 ?_;rintro b3 d3 G3 es l3;rw [es];refine Fc (Pk n.Af[k] p.Ae ((i:Nat):Int)) ?_;refine Ada Mq fun Fe=>?_;refine dk ?_;refine Ed 9 10 ?_;refine dt 11 ?_;refine dN 13 ?_;refine oS ?_;refine dk ?_;refine dt 14 ?_;refine dd ?_;refine Bt (⟨_,b3,d3,Fe⟩:JU) trivial
 refine O3 ?_;intros;refine Pd (E:=EC 2) (xs:=z.e.ys) [.int .i64 (Pk n.Af[k] p.Ae ((i:Nat):Int)).Ai,.slice w.b (Pk n.Af[k] p.Ae ((i:Nat):Int)).Ah.length w.d] hH (fun _=>⟨rfl,⟨rfl,GV⟩,rfl⟩) ?_;refine Ur (E:=Bk) (ys:=z.e.ys) (xs:=n.Af) (x:=Pk n.Af[k] p.Ae ((i:Nat):Int)) k rfl hm FJ fun G'=>?_;refine Ll (E:=Bb) (xs:=[((i:Nat):Int)]) (Rd _) ?_ FK;refine A4 (E:=Bb) (xs:=[((i:Nat):Int)]) fun Fo=>?_;refine Ll (E:=Ak) (xs:=[Aa4 p]) (Dh (Aa4 p) (Nat.zero_le _)) ?_ FK;refine A4 (E:=Ak) (xs:=[Aa4 p]) fun Fp=>?_;refine go ?_
 refine Cb (Ox n.down [((i:Nat):Int)] [Aa4 p] _ _ _ _ _ _ _ _ _ _ _ _ _ _ _ _ _ _ _ _ _ _ _ _ _ z.d.ys z.d.F z.d.G _ _ Fo _ _ Fp hone hd) fun y _=>?_;cases hf:Adz n.Af[k] p.Ae
 ·rw [if_neg FM];refine go ?_;refine ret (⟨⟨⟨z.e.ys.set k [.int .i64 (Pk n.Af[k] p.Ae ((i:Nat):Int)).Ai,.slice w.b (Pk n.Af[k] p.Ae ((i:Nat):Int)).Ah.length w.d],[g],G'⟩,z.r,⟨y.ys,y.F,y.G⟩,z.u⟩,⟨a2,c2,a3,c3,FS⟩⟩:SZ × Ams) trivial rfl
 ·rw [if_pos rfl,Ip hku];have hu6:=hu _ (List.getElem_mem hku);refine go ?_;refine Gf (ys:=z.u.ys) fun hmu hlu=>?_;refine Ai4 (ys:=z.u.ys) (xs:=n.up) k hmu FJ FJ fun h9 _ Gu=>?_;refine Ad5 (x:=n.up[k]) fun a9 c9 e9 l9=>?_;have e10:z.u.ys[k]=[.slice a9 n.up[k].length c9]:=KH
  refine P5 (E:=EC 1) (xs:=z.u.ys) (m:=1) (Mn 1) k ?_ FP rfl h9;rintro _ gu Au cs Bu rfl j2 j3 hHu;obtain ⟨j4, -, -⟩:=j3 w0;rw [e10] at j4;subst j4;refine go ?_;refine As [0,14,15] [12] ?_;refine Ds 0 1 2 3 ?_;refine Ds 4 5 6 7 ?_;refine dt 8 ?_;refine dN 9 ?_;apply Lx;rfl;rfl;rfl;rfl;exact Lr;exact La;intro _;refine Ll (E:=Ak) (xs:=[p]) (Dh p hps) ?_ FK;refine A4 (E:=Ak) (xs:=[p]) fun Fp2=>?_;refine dk ?_;refine dN 10 ?_;refine oC ?_;refine Cb (Ah7 n.up[k] [p] a9 c9 _ _ _ Fp2 FJ) fun r _=>?_;refine dk ?_;refine dt 11 ?_
  refine dN 12 ?_;refine oS ?_;refine Tx ?_;refine dd ?_;refine Pd (E:=EC 1) (xs:=z.u.ys) [.slice r.a (H5 n.up[k] [p]).length r.c] hHu (fun w=>⟨rfl,⟨rfl,GV⟩,rfl⟩) ?_;refine A4 (E:=Ak) (xs:=H5 n.up[k] [p]) fun Fu=>?_;refine Aeu (E:=Ak) (x:=H5 n.up[k] [p]) FM ?_;refine Ur (E:=Mr Ak FM) (ys:=z.u.ys) (xs:=n.up) (x:=H5 n.up[k] [p]) k rfl hmu FJ fun Gv=>?_;refine go ?_
  refine ret (⟨⟨⟨z.e.ys.set k [.int .i64 (Pk n.Af[k] p.Ae ((i:Nat):Int)).Ai,.slice w.b (Pk n.Af[k] p.Ae ((i:Nat):Int)).Ah.length w.d],[g],G'⟩,z.r,⟨y.ys,y.F,y.G⟩,⟨z.u.ys.set k [.slice r.a (H5 n.up[k] [p]).length r.c],[gu],Gv⟩⟩,⟨a2,c2,a3,c3,FS⟩⟩:SZ × Ams) trivial rfl
structure TkZ where
 k:Nat
 z:SZ
 a:Option Addr
 c:Nat
 F:List Nat
theorem Axd (n:Du) (a1:Option Addr) (c1:Nat) (a4:Option Addr) (c4:Nat) (a5:Option Addr) (c5:Nat) (a6:Option Addr) (c6:Nat) (a7:Option Addr) (c7:Nat) (a2 a3:Option Addr) (c2 c3:Nat) (F1 FS FT:List Nat) (z:SZ) (hg:At n=true) (hc:n.Ab.Ai < 9999) :
  Fn prog 168 [.agg #[.slice a1 n.An.Ad.length c1,.int .i64 n.Ab.Aa.Ap,.int .i64 n.Ab.Aa.size,.slice a2 n.Ab.Aa.Ao.length c2,.int .i64 n.Ab.Ai,.int .i64 n.Ab.quiet,.slice a3 n.Ab.holds.length c3,.slice a4 n.An.Ad.length c4,.slice a5 n.An.Ad.length c5,.slice a6 n.An.Ad.length c6,.slice a7 n.An.Ad.length c7]] [Hp FT,.sl Bb (.slice a1 n.An.Ad.length c1) n.An.Ad F1,.isv Do (.agg #[.int .i64 n.Ab.Aa.Ap,.int .i64 n.Ab.Aa.size,.slice a2 n.Ab.Aa.Ao.length c2,.int .i64 n.Ab.Ai,.int .i64 n.Ab.quiet,.slice a3 n.Ab.holds.length c3]) n.Ab FS,.isv (EA Bk n.An.Ad.length) (.agg z.e.ys.flatten.toArray) n.Af z.e.G,.isv (EA Bi n.An.Ad.length) (.agg z.r.ys.flatten.toArray) n.Ac z.r.G,.isv (EA (Mr Ak FM) n.An.Ad.length) (.agg z.d.ys.flatten.toArray) n.down z.d.G,.isv (EA (Mr Ak FM) n.An.Ad.length) (.agg z.u.ys.flatten.toArray) n.up z.u.G] [.ow (EC 2) 133 (.slice a4 n.An.Ad.length c4) z.e.ys z.e.F,.ow (EC 5) 140 (.slice a5 n.An.Ad.length c5) z.r.ys z.r.F,.ow (EC 1) 142 (.slice a6 n.An.Ad.length c6) z.d.ys z.d.F,.ow (EC 1) 142 (.slice a7 n.An.Ad.length c7) z.u.ys z.u.F] (fun (_:SZ × TiS × KA)=>True) (fun y=>.tuple #[.agg #[.int .i64 ((Hc n).1.Ab).Aa.Ap,.int .i64 ((Hc n).1.Ab).Aa.size,.slice y.2.1.a ((Hc n).1.Ab).Aa.Ao.length y.2.1.c,.int .i64 ((Hc n).1.Ab).Ai,.int .i64 ((Hc n).1.Ab).quiet,.slice y.2.1.a2 ((Hc n).1.Ab).holds.length y.2.1.c2],.slice y.2.2.a (Hc n).2.length y.2.2.c]) (fun y=>[.ow (EC 2) 133 (.slice a4 n.An.Ad.length c4) y.1.e.ys y.1.e.F,.ow (EC 5) 140 (.slice a5 n.An.Ad.length c5) y.1.r.ys y.1.r.F,.ow (EC 1) 142 (.slice a6 n.An.Ad.length c6) y.1.d.ys y.1.d.F,.ow (EC 1) 142 (.slice a7 n.An.Ad.length c7) y.1.u.ys y.1.u.F,.isv (EA Bk n.An.Ad.length) (.agg y.1.e.ys.flatten.toArray) (Hc n).1.Af y.1.e.G,.isv (EA Bi n.An.Ad.length) (.agg y.1.r.ys.flatten.toArray) (Hc n).1.Ac y.1.r.G,.isv (EA (Mr Ak FM) n.An.Ad.length) (.agg y.1.d.ys.flatten.toArray) (Hc n).1.down y.1.d.G,.isv (EA (Mr Ak FM) n.An.Ad.length) (.agg y.1.u.ys.flatten.toArray) (Hc n).1.up y.1.u.G,.isv Do (.agg #[.int .i64 ((Hc n).1.Ab).Aa.Ap,.int .i64 ((Hc n).1.Ab).Aa.size,.slice y.2.1.a ((Hc n).1.Ab).Aa.Ao.length y.2.1.c,.int .i64 ((Hc n).1.Ab).Ai,.int .i64 ((Hc n).1.Ab).quiet,.slice y.2.1.a2 ((Hc n).1.Ab).holds.length y.2.1.c2]) (Hc n).1.Ab y.2.1.F,.ow A8 9 (.slice y.2.2.a (Hc n).2.length y.2.2.c) (Hc n).2 y.2.2.F]):=by
 have hG:=A1.1 hg;have h8:=H9 hG.t;have hn8:=h8.n1;have hn2:=h8.n0;obtain ⟨q1,q2,q3,q4⟩:=Bm.1 hG.l;have hkl:=Wc n.An.Ad 0;have hkx:∀x∈I3 n.An.Ad 0,0≤x∧x.toNat < n.down.length:=fun x hx=>by have:=Mh (i:=0) h8 hx;omega
 have hd:∀q∈n.down,q.length≤6:=fun q hq=>(Db ((Ii hg).2.2.1 q hq)).1;refine enter func168 rfl ntmps168 fun w0=>?_;refine Iu n.An ?_;refine go ?_;intros;refine Cb (Aw4 n.Ab _ FS hG.s) fun u _=>?_;refine A4 (E:=Ak) (xs:=Oj n.Ab.Aa n.Ab.quiet) fun Fp=>?_;refine go ?_;intros;refine As [4] [] ?_;refine Ds 0 1 2 4 ?_;refine dN 3 ?_;refine oC ?_;refine Cb (Qx n.An 0 _ F1 (T3 h8.z (Int.le_refl _)) ⟨FJ,FJ⟩) fun v _=>?_;refine A4 (E:=Bb) (xs:=I3 n.An.Ad 0) fun Fk=>?_;refine dk ?_;refine dN 5 ?_;refine oC ?_
 refine Cb (Ox n.down (I3 n.An.Ad 0) (Oj n.Ab.Aa n.Ab.quiet) _ _ _ _ _ _ _ _ _ _ _ _ _ _ _ _ _ _ _ _ _ _ _ _ _ z.d.ys z.d.F z.d.G _ _ Fk _ _ Fp hkx hd) fun y _=>?_;refine dk ?_;refine dd ?_;rw [show Dq n.down (I3 n.An.Ad 0) (Oj n.Ab.Aa n.Ab.quiet)=(Bg n 0).1.down from rfl];refine go ?_;intros;refine Dc A8 ?_;refine go ?_
 refine Cj [1,2,3,4] (fun s:TkZ=>[(6,.slice s.a (Bg n s.k).2.length s.c),(7,.int .i64 ((s.k+1:Nat):Int))]) (fun s=>[.ow (EC 2) 133 (.slice a4 n.An.Ad.length c4) s.z.e.ys s.z.e.F,.ow (EC 5) 140 (.slice a5 n.An.Ad.length c5) s.z.r.ys s.z.r.F,.ow (EC 1) 142 (.slice a6 n.An.Ad.length c6) s.z.d.ys s.z.d.F,.ow (EC 1) 142 (.slice a7 n.An.Ad.length c7) s.z.u.ys s.z.u.F,.isv (EA Bk n.An.Ad.length) (.agg s.z.e.ys.flatten.toArray) (Bg n s.k).1.Af s.z.e.G,.isv (EA Bi n.An.Ad.length) (.agg s.z.r.ys.flatten.toArray) (Bg n s.k).1.Ac s.z.r.G,.isv (EA (Mr Ak FM) n.An.Ad.length) (.agg s.z.d.ys.flatten.toArray) (Bg n s.k).1.down s.z.d.G,.isv (EA (Mr Ak FM) n.An.Ad.length) (.agg s.z.u.ys.flatten.toArray) (Bg n s.k).1.up s.z.u.G,.ow A8 9 (.slice s.a (Bg n s.k).2.length s.c) (Bg n s.k).2 s.F]) (fun s=>s.k+1≤n.An.Ad.length∧(Bg n s.k).2.length≤40000 * s.k) (fun s=>n.An.Ad.length - s.k) ⟨0,⟨z.e,z.r,⟨y.ys,y.F,y.G⟩,z.u⟩,_,_,_⟩ ⟨by show 0+1≤_;omega,Nat.le_refl _⟩ fun s hs0=>?_
 obtain ⟨k,⟨⟨ye,Fe,Ge⟩,⟨yr,Fr,Gr⟩,⟨yd,Fd,Gd⟩,⟨yu,Fu,Gu⟩⟩,ea,ec,eF⟩:=s;obtain ⟨hk,hel⟩:=hs0;dsimp only at hk hel ⊢;obtain ⟨hGN,hT,hSrc⟩:=Qn hg hc k FJ;obtain ⟨r1,r2,r3,r4⟩:=Bm.1 hGN.l;rw [hT] at r1 r2 r3 r4;refine go ?_;refine Ax rfl (fun h1=>?_) (fun h1=>?_)
 ·have hj:k+1 < n.An.Ad.length:=FJ
  obtain ⟨i1,i2,i3,i4,hrn⟩:=hGN.rn (i:=k+1) (by rw [hT];exact hj);rw [hT] at hrn;obtain ⟨d0,d1_⟩:=Adw (i:=k+1);refine go ?_;refine Cb (Pa n.An ((k+1:Nat):Int) _ F1 h8 FJ) fun _ _=>?_;cases hlf:Eu n.An.Ad ((k+1:Nat):Int)
  ·obtain ⟨hge,hck, -⟩:=hrn.hn FJ hlf;obtain ⟨hgc,hel5, -⟩:=Hg.1 hge;have hnx:Bg n (k+1)=(⟨n.An,N4 n.Ab,(Bg n k).1.Af.set (k+1) (Gb (Bg n k).1.Af[k+1]),(Bg n k).1.Ac,(Bg n k).1.down,(Bg n k).1.up⟩,(Bg n k).2++[]):=by
    exact FH
   rw [List.append_nil] at hnx;refine go ?_;refine Gf (ys:=ye) fun hm hlr=>?_;refine Ai5 (E:=Bk) (ys:=ye) (xs:=(Bg n k).1.Af) (k+1) hm FJ FJ fun h2 h3 v Gi ev=>?_;generalize hE:(Bg n k).1.Af[k+1]=E at *;refine Ga (v:=v) (x:=E) ?_;rintro b1 d1 G1 rfl l1;have e8:ye[k+1]=[.int .i64 E.Ai,.slice b1 E.Ah.length d1]:=KC
   refine P5 (E:=EC 2) (xs:=ye) (m:=2) (Mn 2) (k+1) ?_ FP rfl h2;rintro _ g A cs B rfl k2 k3 hH;obtain ⟨k4, -, -⟩:=k3 w0;rw [e8] at k4;subst k4;dsimp only [List.append];refine go ?_;refine As [0,16] [10] ?_;refine Ds 0 1 2 3 ?_;refine Ds 4 5 6 7 ?_;refine dN 8 ?_;refine oC ?_;refine cr (fun w st=>Axb _ E Gi w (st.get (p:=.isv _ _ _ _) FO) hgc FJ (fun x hx=>by have:=Qf hge hx;omega)) fun v3 FU=>?_;refine Ga (v:=v3) ?_;rintro b3 d3 G3 rfl l3;refine dk ?_;refine dt 9 ?_;refine dN 10 ?_;refine oS ?_;refine Tx ?_;refine dd ?_
   refine Pd (E:=EC 2) (xs:=ye) [.int .i64 (Gb E).Ai,.slice b3 (Gb E).Ah.length d3] hH (fun _=>⟨rfl,⟨rfl,GV⟩,rfl⟩) ?_;refine Ur (E:=Bk) (ys:=ye) (xs:=(Bg n k).1.Af) (x:=Gb E) (k+1) rfl hm FJ fun G'=>?_;refine go ?_;refine Ce ⟨k+1,⟨⟨ye.set (k+1) [.int .i64 (Gb E).Ai,.slice b3 (Gb E).Ah.length d3],[g],G'⟩,⟨yr,Fr,Gr⟩,⟨yd,Fd,Gd⟩,⟨yu,Fu,Gu⟩⟩,ea,ec,eF⟩ ⟨KG,by rw [hnx];dsimp only;omega⟩ GS GZ GY
  ·obtain ⟨-,hgr0,hck⟩:=hrn.hf FJ hlf;have hgr:=Eb.1 hgr0;obtain ⟨hsm,hfew⟩:=Aey hgr;have hnx:Bg n (k+1)=(⟨n.An,N4 n.Ab,(Bg n k).1.Af,(Bg n k).1.Ac.set (k+1) (Cw (Bg n k).1.Ac[k+1] (N5 (k+1))),(Bg n k).1.down,(Bg n k).1.up.set (k+1) (H5 (Bg n k).1.up[k+1] (Fj (Bg n k).1.Ac[k+1]))⟩,(Bg n k).2++Vk (k+1) (H8 (Bg n k).1.Ac[k+1])):=by
    show ((Oi (Bg n k).1 (k+1)).1,(Bg n k).2++(Oi (Bg n k).1 (k+1)).2)=_;unfold Oi;rw [hT,hlf,if_pos rfl,Hv i2,hSrc,Ip i4]
   have htl:(Vk (k+1) (H8 (Bg n k).1.Ac[k+1])).length=(H8 (Bg n k).1.Ac[k+1]).length:=List.length_map ..;have hu6:=(Db hrn.hu).1;generalize hR:(Bg n k).1.Ac[k+1]=R at *;generalize hQ:(Bg n k).1.up[k+1]=Q at *;refine go ?_;refine Gf (ys:=yr) fun hm hlr=>?_;refine Ai5 (E:=Bi) (ys:=yr) (xs:=(Bg n k).1.Ac) (k+1) hm FJ FJ fun h2 h3 v Gi ev=>?_;rw [hR];refine Es (v:=v) (x:=R) ?_;rintro b1 d1 G1 b2 d2 G2 rfl l1 l2;have e8:yr[k+1]=[.bool (R).Be,.int .i64 (R).Ai,.int .i64 (R).Aa.next,.slice b1 (R).Aa.Am.length d1,.slice b2 (R).Al.length d2]:=KC
   refine P5 (E:=EC 5) (xs:=yr) (m:=5) (Mn 5) (k+1) ?_ FP rfl h2;rintro _ g A cs B rfl k2 k3 hH;obtain ⟨k4, -, -⟩:=k3 w0;rw [e8] at k4;subst k4;dsimp only [List.append];refine go ?_
   refine E4 [1,2,3,4,6,7] [0,1,2,3,4,5,6,7,8,9,10,11,12,13,14,15,16,17,18,19,20,21,22] (fun w:Nat × TkR=>[(8,Iq w.1 0 0),(9,.slice w.2.a3 (Fj R).length w.2.c3),(10,.slice w.2.a4 (H8 R).length w.2.c4)]) (fun w=>[.row w.1 140 0 [] [.bool (Cw R (N5 (k+1))).Be,.int .i64 (Cw R (N5 (k+1))).Ai,.int .i64 (Cw R (N5 (k+1))).Aa.next,.slice w.2.a1 (Cw R (N5 (k+1))).Aa.Am.length w.2.c1,.slice w.2.a2 (Cw R (N5 (k+1))).Al.length w.2.c2] [],.isv Bi (.agg #[.bool (Cw R (N5 (k+1))).Be,.int .i64 (Cw R (N5 (k+1))).Ai,.int .i64 (Cw R (N5 (k+1))).Aa.next,.slice w.2.a1 (Cw R (N5 (k+1))).Aa.Am.length w.2.c1,.slice w.2.a2 (Cw R (N5 (k+1))).Al.length w.2.c2]) (Cw R (N5 (k+1))) w.2.F1,.ow Ak 223 (.slice w.2.a3 (Fj R).length w.2.c3) (Fj R) w.2.F3,.ow A8 9 (.slice w.2.a4 (H8 R).length w.2.c4) (H8 R) w.2.F4]) (fun _=>True) ?_ fun w _=>?_
   ·skip
    refine As [0,17] [] ?_;refine Ds 0 1 2 3 ?_;refine Ed 4 5 ?_;refine dM 6 12 ?_ ?_
    ·refine oC ?_;refine Cb (Xa (k+1) FJ) fun _ _=>?_;refine dk ?_;refine dM 7 12 ?_ ?_
     ·refine oC ?_;refine Cb (Ad9 R (N5 (k+1)) _ Gi hgr FJ FJ (by have:=hgr.k1;omega)) fun s _=>?_;refine dk ?_;refine Ds 8 9 10 11 ?_;refine dN 12 ?_;apply Cr;rfl;intro _;refine dk ?_;refine dN 13 ?_;refine oS ?_;refine dk ?_;refine Ed 14 15 ?_;refine dd ?_;refine Bt (⟨_,s⟩:Nat × TkR) trivial
     ·apply Cr;rfl;intro _;exact BP
    ·apply Cr;rfl;intro _;refine dk ?_;refine dN 6 ?_;refine oC ?_;refine Cb (Xa (k+1) FJ) fun _ _=>?_;exact BP
   obtain ⟨gr,s⟩:=w;dsimp only;refine O3 ?_;intros;refine Pd (E:=EC 5) (xs:=yr) [.bool (Cw R (N5 (k+1))).Be,.int .i64 (Cw R (N5 (k+1))).Ai,.int .i64 (Cw R (N5 (k+1))).Aa.next,.slice s.a1 (Cw R (N5 (k+1))).Aa.Am.length s.c1,.slice s.a2 (Cw R (N5 (k+1))).Al.length s.c2] hH (fun _=>⟨rfl,⟨rfl,GV⟩,rfl⟩) ?_;refine Ur (E:=Bi) (ys:=yr) (xs:=(Bg n k).1.Ac) (x:=Cw R (N5 (k+1))) (k+1) rfl hm FJ fun G'=>?_;refine A4 (E:=Ak) (xs:=Fj R) fun Fp9=>?_;refine Gf (ys:=yu) fun hmu hlu=>?_;refine Ai4 (ys:=yu) (xs:=(Bg n k).1.up) (k+1) hmu FJ FJ fun h9 _ Gq=>?_;rw [hQ]
   refine Ad5 (x:=Q) fun a9 c9 e9 l9=>?_;have e10:yu[k+1]=[.slice a9 Q.length c9]:=KH
   refine P5 (E:=EC 1) (xs:=yu) (m:=1) (Mn 1) (k+1) ?_ FP rfl h9;rintro _ gu Au cs Bu rfl j2 j3 hHu;obtain ⟨j4, -, -⟩:=j3 w0;rw [e10] at j4;subst j4;refine go ?_;refine As [0,24] [11] ?_;refine Ds 0 1 2 3 ?_;refine Ds 4 5 6 7 ?_;refine dt 8 ?_;refine dN 9 ?_;refine oC ?_;refine Cb (Ah7 Q (Fj R) a9 c9 _ _ _ Fp9 FJ) fun r _=>?_;refine dk ?_;refine dt 10 ?_;refine dN 11 ?_;refine oS ?_;refine Tx ?_;refine dd ?_;refine Pd (E:=EC 1) (xs:=yu) [.slice r.a (H5 Q (Fj R)).length r.c] hHu (fun _=>⟨rfl,⟨rfl,GV⟩,rfl⟩) ?_
   refine A4 (E:=Ak) (xs:=H5 Q (Fj R)) fun Fu=>?_;refine Aeu (E:=Ak) (x:=H5 Q (Fj R)) FM ?_;refine Ur (E:=Mr Ak FM) (ys:=yu) (xs:=(Bg n k).1.up) (x:=H5 Q (Fj R)) (k+1) rfl hmu FJ fun Gv=>?_;refine A4 (E:=A8) (xs:=H8 R) fun F7=>?_;refine go ?_;refine Cb (Alp (k+1) (H8 R) _ _ F7 FT FJ FJ hsm) fun u9 _=>?_;refine A4 (E:=A8) (xs:=Vk (k+1) (H8 R)) fun F8=>?_;apply wO;refine Pm (E:=A8) (xs:=(Bg n k).2) (ys:=Vk (k+1) (H8 R)) Eh Hj fun ax cx Fx=>?_;refine go ?_
   refine Ce ⟨k+1,⟨⟨ye,Fe,Ge⟩,⟨yr.set (k+1) [.bool (Cw R (N5 (k+1))).Be,.int .i64 (Cw R (N5 (k+1))).Ai,.int .i64 (Cw R (N5 (k+1))).Aa.next,.slice s.a1 (Cw R (N5 (k+1))).Aa.Am.length s.c1,.slice s.a2 (Cw R (N5 (k+1))).Al.length s.c2],[g],G'⟩,⟨yd,Fd,Gd⟩,⟨yu.set (k+1) [.slice r.a (H5 Q (Fj R)).length r.c],[gu],Gv⟩⟩,ax,cx,Fx⟩ ⟨KG,by rw [hnx];dsimp only;rw [List.length_append,htl];omega⟩ GS GZ GY
 ·have hke:n.An.Ad.length - 1=k:=FJ
  rw [show Hc n=Bg n k by unfold Hc;rw [hke],hSrc];refine go ?_;refine ret (⟨⟨⟨ye,Fe,Ge⟩,⟨yr,Fr,Gr⟩,⟨yd,Fd,Gd⟩,⟨yu,Fu,Gu⟩⟩,u,⟨0,ea,ec,eF⟩⟩:SZ × TiS × KA) trivial rfl
structure OwN where
 g:Nat
 a1:Option Addr
 c1:Nat
 F1:List Nat
 s:Ams
structure OwK where
 k:Nat
 a4:Option Addr
 c4:Nat
 F4:List Nat
 a5:Option Addr
 c5:Nat
 F5:List Nat
 a6:Option Addr
 c6:Nat
 F6:List Nat
 a7:Option Addr
 c7:Nat
 F7:List Nat
theorem Wg:Yf (Kx Ak 223):=fun h u hu=>by
 obtain ⟨v,rfl,h⟩:=h;obtain rfl:=List.mem_singleton.1 hu;rcases h with ⟨rfl, -, -⟩|⟨b,cap,cs,rest,G,rfl, -⟩ <;> rfl
theorem At9 {x:Ck} (hg:C3 x=true):Art x x.Aa=x:=by
 obtain ⟨gw,hl,t0,t1,k0,k1,hm,hn,hu,hb⟩:=Lc hg;unfold Art;rw [←Yu hu,Abc hg]
theorem Apw (n:Du) (v:Value) (F:List Nat) (hg:At n=true):Fn prog 162 [v] [.isv Ny v n F] [] (fun (_:OwN × OwK)=>True) (fun z=>.agg #[.slice z.1.a1 n.An.Ad.length z.1.c1,.int .i64 (n.Ab).Aa.Ap,.int .i64 (n.Ab).Aa.size,.slice z.1.s.a (n.Ab).Aa.Ao.length z.1.s.c,.int .i64 (n.Ab).Ai,.int .i64 (n.Ab).quiet,.slice z.1.s.a2 (n.Ab).holds.length z.1.s.c2,.slice z.2.a4 (n.Af).length z.2.c4,.slice z.2.a5 (n.Ac).length z.2.c5,.slice z.2.a6 (n.down).length z.2.c6,.slice z.2.a7 (n.up).length z.2.c7]) (fun z=>[.ow Bb 3 (.slice z.1.a1 n.An.Ad.length z.1.c1) n.An.Ad z.1.F1,.isv Do (.agg #[.int .i64 (n.Ab).Aa.Ap,.int .i64 (n.Ab).Aa.size,.slice z.1.s.a (n.Ab).Aa.Ao.length z.1.s.c,.int .i64 (n.Ab).Ai,.int .i64 (n.Ab).quiet,.slice z.1.s.a2 (n.Ab).holds.length z.1.s.c2]) n.Ab z.1.s.F,.ow Ca 133 (.slice z.2.a4 (n.Af).length z.2.c4) (n.Af) z.2.F4,.ow By 140 (.slice z.2.a5 (n.Ac).length z.2.c5) (n.Ac) z.2.F5,.ow (Kx Ak 223) 142 (.slice z.2.a6 (n.down).length z.2.c6) (n.down) z.2.F6,.ow (Kx Ak 223) 142 (.slice z.2.a7 (n.up).length z.2.c7) (n.up) z.2.F7]):=by
 have hG:=A1.1 hg;have h8:=(H9 hG.t).n1;have hS:=Lc hG.s;have hSl:=hS.l;have hSm:=hS.m;obtain ⟨q1,q2,q3,q4⟩:=Bm.1 hG.l;obtain ⟨g1,g2,g3,g4⟩:=Ii hg;refine enter func162 rfl ntmps162 fun w0=>?_;refine Hm ?_;rintro a1 c1 F1 a2 c2 F2 a3 c3 F3 a4 c4 F4 a5 c5 F5 a6 c6 F6 a7 c7 F7 rfl l1 l2 l3 l4 l5 l6 l7;refine Gt n.Ab ?_;refine Cv n.Ab.Aa (a1:=a2) ?_;have hW:=fun vw Fw=>Aw5 n.Ab n.Ab.Aa (.agg #[.int .i64 n.Ab.Aa.Ap,.int .i64 n.Ab.Aa.size,.slice a2 n.Ab.Aa.Ao.length c2,.int .i64 n.Ab.Ai,.int .i64 n.Ab.quiet,.slice a3 n.Ab.holds.length c3]) vw (F2++F3) Fw hS.t0 hS.t1 FJ hS.n hS.u
 rw [At9 hG.s,show Ou n.Ab.Aa n.Ab.holds=n.Ab.holds by rw [←Yu hS.u,Abc hG.s]] at hW;refine go ?_;intros
 refine E4 [1,2] [0,1,2,3,4,5,6,7,8,9,10,11] (fun w:OwN=>[(3,Iq w.g 0 0)]) (fun w=>[.row w.g 50 0 [] [.slice w.a1 n.An.Ad.length w.c1,.int .i64 (n.Ab).Aa.Ap,.int .i64 (n.Ab).Aa.size,.slice w.s.a (n.Ab).Aa.Ao.length w.s.c,.int .i64 (n.Ab).Ai,.int .i64 (n.Ab).quiet,.slice w.s.a2 (n.Ab).holds.length w.s.c2,.slice none 0 0,.slice none 0 0,.slice none 0 0,.slice none 0 0] [],.ow Bb 3 (.slice w.a1 n.An.Ad.length w.c1) n.An.Ad w.F1,.isv Do (.agg #[.int .i64 (n.Ab).Aa.Ap,.int .i64 (n.Ab).Aa.size,.slice w.s.a (n.Ab).Aa.Ao.length w.s.c,.int .i64 (n.Ab).Ai,.int .i64 (n.Ab).quiet,.slice w.s.a2 (n.Ab).holds.length w.s.c2]) n.Ab w.s.F]) (fun _=>True) ?_ fun w _=>?_
 ·skip
  refine As [1] [] ?_;refine Ds 0 1 2 5 ?_;refine Ds 6 7 8 9 ?_;refine dM 3 13 ?_ ?_
  ·refine oC ?_;refine cn (fun w st=>Aco _ n.An.Ad F1 w (st.get (p:=.sl _ _ _ _) FO).2 FJ) fun b1 d1 G1=>?_;refine dk ?_;refine dt 4 ?_;refine dM 10 13 ?_ ?_
   ·refine oC ?_;refine Cb (T4 n.Ab.Aa _ F2 hS.t0 hS.t1 FJ) fun y _=>?_;refine Hy ?_;rintro a9 c9 F9 e9 l9;rw [e9];refine A4 (xs:=n.Ab.Aa.Ao) fun F8=>?_;refine Cv n.Ab.Aa (a1:=a9) ?_;refine dk ?_;refine dM 11 13 ?_ ?_
    ·refine oC ?_;refine Cb (hW _ F8) fun s _=>?_;refine dk ?_;refine dt 12 ?_;refine dN 13 ?_;apply Cr;rfl;intro _;refine dk ?_;refine dN 14 ?_;refine oS ?_;refine dk ?_;refine dd ?_;refine Bt (⟨_,b1,d1,G1,s⟩:OwN) trivial
    ·apply Cr;rfl;intro _;exact CT
   ·apply Cr;rfl;intro _;refine dk ?_;refine dN 10 ?_;refine oC ?_;refine Cb (T4 n.Ab.Aa _ F2 hS.t0 hS.t1 FJ) fun y _=>?_;refine Hy ?_;rintro a9 c9 F9 e9 l9;rw [e9];refine A4 (xs:=n.Ab.Aa.Ao) fun F8=>?_;refine Cv n.Ab.Aa (a1:=a9) ?_;exact CT
  ·apply Cr;rfl;intro _;refine dk ?_;refine dN 3 ?_;refine oC ?_;refine cn (fun w st=>Aco _ n.An.Ad F1 w (st.get (p:=.sl _ _ _ _) FO).2 FJ) fun b1 d1 G1=>?_;refine dk ?_;refine dt 4 ?_;refine dN 10 ?_;refine oC ?_;refine Cb (T4 n.Ab.Aa _ F2 hS.t0 hS.t1 FJ) fun y _=>?_;refine Hy ?_;rintro a9 c9 F9 e9 l9;rw [e9];refine A4 (xs:=n.Ab.Aa.Ao) fun F8=>?_;refine Cv n.Ab.Aa (a1:=a9) ?_;refine dk ?_;refine dN 11 ?_;refine oC ?_;refine Cb (hW _ F8) fun s _=>?_;refine dk ?_;refine dt 12 ?_;refine dN 14 ?_;refine oS ?_;refine dk ?_;refine dd ?_
   refine Bt (⟨_,b1,d1,G1,s⟩:OwN) trivial
 refine Dj Ca 133 ?_;refine Dj By 140 ?_;refine Dj (Kx Ak 223) 142 ?_;refine Dj (Kx Ak 223) 142 ?_;refine go ?_
 refine Cj [1,2,3] (fun y:OwK=>[(4,.int .i64 (y.k:Nat))]) (fun y=>[.row w.g 50 0 [] [.slice w.a1 n.An.Ad.length w.c1,.int .i64 (n.Ab).Aa.Ap,.int .i64 (n.Ab).Aa.size,.slice w.s.a (n.Ab).Aa.Ao.length w.s.c,.int .i64 (n.Ab).Ai,.int .i64 (n.Ab).quiet,.slice w.s.a2 (n.Ab).holds.length w.s.c2,.slice y.a4 (n.Af.take y.k).length y.c4,.slice y.a5 (n.Ac.take y.k).length y.c5,.slice y.a6 (n.down.take y.k).length y.c6,.slice y.a7 (n.up.take y.k).length y.c7] [],.ow Ca 133 (.slice y.a4 (n.Af.take y.k).length y.c4) (n.Af.take y.k) y.F4,.ow By 140 (.slice y.a5 (n.Ac.take y.k).length y.c5) (n.Ac.take y.k) y.F5,.ow (Kx Ak 223) 142 (.slice y.a6 (n.down.take y.k).length y.c6) (n.down.take y.k) y.F6,.ow (Kx Ak 223) 142 (.slice y.a7 (n.up.take y.k).length y.c7) (n.up.take y.k) y.F7]) (fun y=>y.k≤n.Af.length) (fun y=>n.Af.length - y.k) ⟨0,none,0,[],none,0,[],none,0,[],none,0,[]⟩ (Nat.zero_le _) fun y hy=>?_
 refine go ?_;refine Ax rfl (fun h1=>?_) (fun h1=>?_)
 ·have hk:y.k < n.Af.length:=FJ
  have hk5:y.k < n.Ac.length:=FJ
  have hk6:y.k < n.down.length:=FJ
  have hk7:y.k < n.up.length:=FJ
  have t4:(n.Af.take y.k).length≤8:=GA
  have t5:(n.Ac.take y.k).length≤8:=GA
  have t6:(n.down.take y.k).length≤8:=GA
  have t7:(n.up.take y.k).length≤8:=GA
  have hge:=g1 _ (List.getElem_mem hk);have hel:=(Hg.1 hge).2.1;have hgr:=Eb.1 (g2 _ (List.getElem_mem hk5));have hrs:=(Kh hgr.w).1;have hrq:=(Dg.1 hgr.q).2.1;have hd6:=(Db (g3 _ (List.getElem_mem hk6))).1;have hu6:=(Db (g4 _ (List.getElem_mem hk7))).1;refine Qb (xs:=n.Af) y.k ?_;rintro hi4 b4 o4 a8 c8 F8 e4 l8;rw [e4];refine Nr n.Af[y.k] ?_;dsimp only [List.append];refine go ?_;refine As [1,3,11] [11] ?_;refine Ds 0 1 2 3 ?_;refine Ed 4 5 ?_;refine dt 6 ?_;refine dN 7 ?_;refine oC ?_
  refine cv (fun w2 st=>Yv _ n.Af[y.k] F8 w2 (st.get (p:=.isv _ _ _ _) FO) FJ (fun x hx=>by have:=Qf hge hx;omega)) fun v9 F9=>?_;refine H4 (x:=n.Af[y.k]) ?_;rintro a9 c9 F10 rfl l9;refine Fc n.Af[y.k] ?_;refine dk ?_;refine dN 8 ?_;apply Lx;rfl;rfl;rfl;rfl;exact Lr;exact La;intro _;refine dk ?_;refine dN 9 ?_;refine Ads Q1 n.Af[y.k] rfl fun x4 d4 G4=>?_;refine dk ?_;refine dt 10 ?_;refine dN 11 ?_;refine oS ?_;refine Tx ?_;refine dd ?_;rw [←List.take_succ_eq_append_getElem hk];refine Kg (xs:=n.Ac) y.k ?_;rintro hi5 b5 o5 a11 c11 F11 a12 c12 F12 e5 l11 l12;rw [e5]
  refine Ev n.Ac[y.k] ?_;dsimp only [List.append];refine go ?_;refine As [1,8,15] [11] ?_;refine Ds 0 1 2 3 ?_;refine Ed 4 5 ?_;refine dt 6 ?_;refine dN 7 ?_;refine oC ?_;refine Cb (Uh n.Ac[y.k] _ _ FJ FJ) fun s9 _=>?_;refine Ij (x:=n.Ac[y.k]) ?_;rintro a9 c9 G9 a10 c10 G10 e9 l9 l10;rw [e9];refine I6 n.Ac[y.k] ?_;refine dk ?_;refine dN 8 ?_;apply Lx;rfl;rfl;rfl;rfl;exact Lr;exact La;intro _;refine dk ?_;refine dN 9 ?_;refine Ads Pr n.Ac[y.k] rfl fun x5 d5 G5=>?_;refine dk ?_;refine dt 10 ?_;refine dN 11 ?_;refine oS ?_;refine Tx ?_;refine dd ?_
  rw [←List.take_succ_eq_append_getElem hk5];refine Np (E:=Ak) (hz:=FM) (xs:=n.down) y.k ?_;rintro hi6 b6 o6 a13 c13 F13 e6 l13;rw [e6];refine go ?_;refine As [0,11,17] [12] ?_;refine Ds 0 1 3 4 ?_;refine Ed 5 6 ?_;refine dt 7 ?_;refine dN 2 ?_;apply Mx;rfl;intro _;refine Dc Ak ?_;refine dk ?_;refine dN 8 ?_;refine Pm Hq I8 fun a9 c9 F9=>?_;rw [List.nil_append];refine J0 n.down[y.k] ?_;refine dk ?_;refine dN 9 ?_;apply Lx;rfl;rfl;rfl;rfl;exact Lr;exact La;intro _;refine dk ?_;refine dN 10 ?_;refine Ads (Wg) n.down[y.k] rfl fun x6 d6 G6=>?_;refine dk ?_;refine dt 11 ?_;refine dN 12 ?_
  refine oS ?_;refine Tx ?_;refine dd ?_;rw [←List.take_succ_eq_append_getElem hk6];refine Np (E:=Ak) (hz:=FM) (xs:=n.up) y.k ?_;rintro hi7 b7 o7 a14 c14 F14 e7 l14;rw [e7];refine go ?_;refine As [0,14,19] [12] ?_;refine Ds 0 1 3 4 ?_;refine Ed 5 6 ?_;refine dt 7 ?_;refine dN 2 ?_;apply Mx;rfl;intro _;refine Dc Ak ?_;refine dk ?_;refine dN 8 ?_;refine Pm Hq I8 fun a9 c9 F9=>?_;rw [List.nil_append];refine J0 n.up[y.k] ?_;refine dk ?_;refine dN 9 ?_;apply Lx;rfl;rfl;rfl;rfl;exact Lr;exact La;intro _;refine dk ?_;refine dN 10 ?_;refine Ads (Wg) n.up[y.k] rfl fun x7 d7 G7=>?_;refine dk ?_
  refine dt 11 ?_;refine dN 12 ?_;refine oS ?_;refine Tx ?_;refine dd ?_;rw [←List.take_succ_eq_append_getElem hk7];refine go ?_;refine Ce ⟨y.k+1,x4,d4,G4,x5,d5,G5,x6,d6,G6,x7,d7,G7⟩ hk (by show n.Af.length - (y.k+1) < n.Af.length - y.k;omega)
 ·rw [show n.Af.take y.k=n.Af from List.take_of_length_le FJ,show n.Ac.take y.k=n.Ac from List.take_of_length_le FJ,show n.down.take y.k=n.down from List.take_of_length_le FJ,show n.up.take y.k=n.up from List.take_of_length_le FJ];refine go ?_;refine ret (⟨w,y⟩:OwN × OwK) trivial rfl
theorem Ba6 (t:Qo) (v:Value) (F:List Nat) (hl:t.Ad.length≤1000000):Fn prog 293 [v] [.isv Po v t F] [] (fun (_:KiS)=>True) (fun z=>.slice z.a (lvs t.Ad).length z.c) (fun z=>[.ow Bb 3 (.slice z.a (lvs t.Ad).length z.c) (lvs t.Ad) z.F]):=by
 refine enter func293 rfl ntmps293 fun w0=>?_;refine N2 ?_;rintro a1 c1 F1 rfl l1;refine Dj Bb 3 ?_;refine go ?_;intros;refine Cj [1,2,7] (fun z:KiS=>[(3,.slice z.a (Rc t.Ad z.k).length z.c),(8,.int .i64 (z.k:Nat))]) (fun z=>[.ow Bb 3 (.slice z.a (Rc t.Ad z.k).length z.c) (Rc t.Ad z.k) z.F]) (fun z=>z.k≤t.Ad.length) (fun z=>t.Ad.length - z.k) ⟨0,_,_,_⟩ (Nat.zero_le _) fun z hz=>?_;have hkl:=Alw t.Ad z.k;refine go ?_;refine Ax rfl (fun h1=>?_) (fun h1=>?_)
 ·have hh:z.k < t.Ad.length:=FJ
  refine go ?_;refine Cb (Yr t z.k _ F) fun _ _=>?_;cases g:Eu t.Ad (z.k:Nat)
  ·rw [←Ba9 g];exact EB
  ·refine O3 ?_;intros;apply wO;refine Qa (Rd _) Dd fun a9 c9 F9=>?_;refine go ?_;rw [←Axp g];exact EZ
 ·have hk:z.k=t.Ad.length:=FJ
  rw [show Rc t.Ad z.k=lvs t.Ad by unfold lvs;rw [hk]];exact CL
end Go.Proofs.YtkblpelckhegbaaGreatDoor
namespace Go.Proofs.YtkblpelckhegbaaGreatDoor

open Go.RowKit
end Go.Proofs.YtkblpelckhegbaaGreatDoor
namespace Go.Proofs.YtkblpelckhegbaaGreatDoor
open Go.RowKit
theorem Apq {E:List ByteArray} {sep:ByteArray} {m:Nat} (hs:sep.size≤2) (hm:m≤100) (hl:E.length≤900000000000) (he:∀e∈E,e.size≤m) (k:Nat):(Lib.join ((E.take k).map (·.data.toList)) sep.data.toList).length≤100000000000000:=by
 have h:=Apr (sep:=sep.data.toList) (m:=m) (xs:=(E.take k).map (·.data.toList)) fun x hx=>by
  obtain ⟨e,he2,rfl⟩:=List.mem_map.1 hx;rw [C0];exact he e (List.mem_of_mem_take he2)
 rw [List.length_map,List.length_take,C0] at h;have h2:(sep.size+m) * min k E.length≤102 * 900000000000:=Nat.mul_le_mul FJ FJ;omega
theorem W4 (E:List ByteArray) (a:Option Addr) (c:Nat) (F:List Nat) (hl:E.length≤900000000000) (he:∀e∈E,e.size≤100):FV 121 [.slice a E.length c] [.sl A8 (.slice a E.length c) E F] (.string (Ym E)):=by
 refine enter func121 rfl ntmps121 fun w0=>?_;refine go ?_;refine Ax rfl (fun h=>?_) (fun h=>?_)
 ·have e:E=[]:=List.length_eq_zero_iff.1 FJ;subst e;exact AA
 ·have hf:=Apq (sep:=⟨#[44,32]⟩) FM FM hl he E.length;rw [List.take_length] at hf;refine go ?_;refine cb (fun w st=>Bas E ⟨#[44,32]⟩ a c F w (st.get (p:=.sl A8 (.slice a E.length c) E F) FK) FJ FJ hf) ?_;refine go ?_;refine ret () trivial ?_;unfold Ym jnW;rw [if_neg (fun e=>h (by rw [e];rfl))];rfl
theorem Aam (l:List Int) (a:Option Addr) (c:Nat) (F FT:List Nat) (hf:∀f∈l,0≤f∧f≤99999) (h7:l.length≤1000):FV 219 [.slice a l.length c] [.sl Bb (.slice a l.length c) l F,Hp FT] (.string (Wf l)):=by
 refine enter func219 rfl ntmps219 fun w0=>?_;refine go ?_;refine Ax rfl (fun h=>?_) (fun h=>?_)
 ·have e:l=[]:=List.length_eq_zero_iff.1 FJ;subst e;exact AA
 ·refine go ?_;refine Cb (Beo l a c F FT (fun f hh=>⟨(hf f hh).1,by have:=hf f hh;show f.natAbs < 100000;omega⟩) FJ h7) fun _ _=>?_;refine go ?_;refine ret () trivial ?_;unfold Wf;rw [if_neg (fun e=>h (by rw [e];rfl))];rfl
def jnK (sep:ByteArray) (E:List ByteArray) (k:Nat):ByteArray:=bz (Lib.join ((E.take k).map (·.data.toList)) sep.data.toList)
theorem Baq {sep:ByteArray} {E:List ByteArray} {k:Nat} (h0:0 < k) (h:k < E.length):jnK sep E (k+1)=jnK sep E k++sep++E[k]:=by
 unfold jnK;rw [List.take_succ_eq_append_getElem h,List.map_append,List.map_cons,List.map_nil,Awv _ _ _ HZ];rw [←Yi (_++E[k]),Is,Is,Kr,List.append_assoc]
theorem Bem {sep:ByteArray} {E:List ByteArray} (h:0 < E.length):jnK sep E 1=E[0]:=by
 unfold jnK;cases E with
 | nil=>cases h
 | cons x r =>
  rw [List.take_succ_cons,List.take_zero,List.map_cons,List.map_nil,Lib.join_cons];simp [Lib.joinTail,Yi]
theorem Aed (E:List ByteArray) (sep:ByteArray) (a:Option Addr) (c:Nat) (F:List Nat) (hs:sep.size≤2) (hl:E.length≤900000000000) (he:∀e∈E,e.size≤100):FV 85 [.slice a E.length c,.string sep] [.sl A8 (.slice a E.length c) E F] (.string (jnW sep.data.toList E)):=by
 refine enter func85 rfl ntmps85 fun w0=>?_;refine go ?_;refine Ax rfl (fun h=>?_) (fun h=>?_)
 ·have e:E=[]:=List.length_eq_zero_iff.1 FJ;subst e;exact AA
 refine Nq (xs:=E) 0 ?_;rintro hi0 b0 o0 rfl s0;refine go ?_;rw [show E[0]=jnK sep E 1 from (Bem hi0).symm];refine D8 [0,1,4] (fun k:Nat=>[(5,.string (jnK sep E k)),(6,.int .i64 (k:Nat))]) (fun k=>1≤k∧k≤E.length) (fun k=>E.length - k) 1 ⟨Nat.le_refl _,FJ⟩ fun k hk=>?_;obtain ⟨hk1,hk2⟩:=hk;have hz:=Apq (k:=k) hs FM hl he;have hz2:(jnK sep E k).size≤100000000000000:=by unfold jnK;rw [Ka];exact hz
 refine go ?_;refine Ax rfl (fun h3=>?_) (fun h3=>?_)
 ·have hk3:k < E.length:=FJ
  have h8:=he _ (List.getElem_mem hk3);have hq:(jnK sep E k++sep).size=_:=ByteArray.size_append;refine Nq (xs:=E) k ?_;rintro hi b o e1 s1;cases e1;refine go ?_;rw [show jnK sep E k++sep++E[k]=jnK sep E (k+1) from (Baq hk1 hk3).symm];refine go ?_;rw [show ((k:Nat):Int)+1=((k+1:Nat):Int) by omega];refine Ce (k+1) ⟨FJ,hk3⟩ FJ
 ·have hk3:k=E.length:=FJ
  subst hk3;refine go ?_;refine ret () trivial ?_;unfold jnW jnK;rw [if_neg (fun e=>h (by rw [e];rfl)),List.take_length];rfl
theorem Bje (l:List Int):jnW [32] (l.map itB)=Wf l:=by
 unfold jnW Wf jn;by_cases h:l=[]
 ·subst h;rfl
 ·rw [if_neg h,if_neg GE,Ah3]
structure LiS where
 k:Nat
 a:Option Addr
 c:Nat
 F:List Nat
theorem Alt (l:List Int) (a:Option Addr) (c:Nat) (F:List Nat) (hf:∀f∈l,0≤f∧f≤99999) (h7:l.length≤1000):FV 96 [.slice a l.length c] [.sl Bb (.slice a l.length c) l F] (.string (Wf l)):=by
 refine enter func96 rfl ntmps96 fun w0=>?_;refine go ?_;intros;refine Dc A8 ?_;refine go ?_;refine Cj [0,2] (fun z:LiS=>[(3,.slice z.a ((l.map itB).take z.k).length z.c),(4,.int .i64 (z.k:Nat))]) (fun z=>[.ow A8 9 (.slice z.a ((l.map itB).take z.k).length z.c) ((l.map itB).take z.k) z.F]) (fun z=>z.k≤l.length) (fun z=>l.length - z.k) ⟨0,_,_,_⟩ (Nat.zero_le _) fun z hz=>?_;obtain ⟨k,a1,c1,F1⟩:=z;dsimp only at hz ⊢;have hml:(l.map itB).length=l.length:=List.length_map ..;refine go ?_;refine Ax rfl (fun h3=>?_) (fun h3=>?_)
 ·have hk3:k < l.length:=FJ
  have h8:=hf _ (List.getElem_mem hk3);have htl:((l.map itB).take k).length=k:=GA
  refine I5 (xs:=l) k ?_;rintro hi b o e1;rw [e1];refine go ?_;refine cb (fun w st=>Ael l[k] (by have:=h8.1;omega) FJ w) ?_;refine go ?_;intros;apply wO;refine Qa (E:=A8) (xs:=(l.map itB).take k) (Aqt (s:=bz (Lib.itoa l[k])) (by rw [Ka,Qw h8.1];have:=Em 5 l[k].natAbs (by show _ < 1000000;omega);unfold maxLen;omega)) Eh fun a9 c9 F9=>?_;rw [show (l.map itB).take k++[bz (Lib.itoa l[k])]=(l.map itB).take (k+1) by rw [List.take_succ_eq_append_getElem FJ,List.getElem_map];rfl];refine go ?_;rw [show ((k:Nat):Int)+1=((k+1:Nat):Int) by omega]
  refine Ce ⟨k+1,a9,c9,F9⟩ hk3 HK
 ·have hk3:k=l.length:=FJ
  subst hk3;rw [show (l.map itB).take l.length=l.map itB by rw [←hml];exact List.take_length];refine A4 (E:=A8) (xs:=l.map itB) fun F8=>?_;refine go ?_;refine cf (Aed (l.map itB) ⟨#[32]⟩ a1 c1 F8 FM FJ (fun e hh=>by
   obtain ⟨f,hf2,rfl⟩:=List.mem_map.1 hh;have h9:=hf f hf2;unfold itB;rw [Ka,Qw h9.1];have:=Em 5 f.natAbs (by show _ < 1000000;omega);omega)) fun _ _=>?_
  refine O1 ?_;refine go ?_;refine ret () trivial ?_;rw [←Bje l];rfl
def Aa8:List (ByteArray × Int)→Nat→List MapEntry
 | [],_=>[]
 | (s,n)::r,i=>{ key:=.string s,val:=.int .i64 n,born:=i }::Aa8 r (i+1)
theorem Ak6 (s:ByteArray) (n:Int):∀(es:List (ByteArray × Int)) (i:Nat),Aa8 (es++[(s,n)]) i=Aa8 es i++[{ key:=.string s,val:=.int .i64 n,born:=i+es.length }]
 | [],i=>rfl
 | (t,m)::r,i=>by
  show _::Aa8 (r++[(s,n)]) (i+1)=_::(Aa8 r (i+1)++_);rw [Ak6 s n r (i+1),List.length_cons,show i+1+r.length=i+(r.length+1) by omega]
def Bj5:Br (Nat × List (ByteArray × Int)) where
 sz:=0
 Ky w cs x F:=cs=[]∧F=[x.1]∧w.heap[x.1]?=some (.map (Aa8 x.2 0).toArray x.2.length)
 len h:=LB
 lt h:=by
  obtain ⟨-,rfl,h⟩:=h;intro b hb;rw [List.mem_singleton] at hb;subst hb;exact (Array.getElem?_eq_some_iff.1 h).1
 frame h hF:=by
  obtain ⟨h1,rfl,h⟩:=h;exact ⟨h1,rfl,by rw [hF _ FK];exact h⟩
def MpP (b:Nat) (es:List (ByteArray × Int)):Pc:=.own Bj5 (.agg #[]) (b,es) [b]
theorem MpP.at_ {b:Nat} {es:List (ByteArray × Int)} {w:World} (h:(MpP b es).P w):w.heap[b]?=some (.map (Aa8 es 0).toArray es.length):=by
 obtain ⟨-,cs, -,h⟩:=h;exact h.2.2
theorem MpP.mk {b:Nat} {es:List (ByteArray × Int)} {w:World} (h:w.heap[b]?=some (.map (Aa8 es 0).toArray es.length)):(MpP b es).P w:=⟨FK,[],rfl,rfl,rfl,h⟩
def X9:List (ByteArray × Int)→ByteArray→Option Int
 | [],_=>none
 | (k,n)::r,s=>if s=k then some n else X9 r s
theorem Bh2 {s k:ByteArray} (h:s=k):Instr.sameNow .string (.string s) (.string k)=some true:=by
 obtain ⟨r,hr,hi⟩:=MapKept.sameNow_of_keys (d:=.string) (a:=.string s) (b:=.string k) JH JH;rw [hr,hi.2 (by rw [h])]
theorem Bb9 {s k:ByteArray} (h:¬s=k):Instr.sameNow .string (.string s) (.string k)=some false:=by
 obtain ⟨r,hr,hi⟩:=MapKept.sameNow_of_keys (d:=.string) (a:=.string s) (b:=.string k) JH JH;rw [hr];cases r
 ·rfl
 ·have:=hi.1 rfl;simp at this;exact absurd this h
theorem Adx {s:ByteArray}:∀{es:List (ByteArray × Int)} (j i:Nat),X9 es s=none→Instr.findNow .string (.string s) (Aa8 es j) i=some none
 | [],_,_,_=>rfl
 | (k,n)::r,j,i,h=>by
  unfold X9 at h
  split at h
  ·cases h
  ·rename_i hk;unfold Aa8 Instr.findNow;rw [Bb9 hk];exact Adx (j+1) (i+1) h
theorem Ak9 {s:ByteArray} {n:Int}:∀{es:List (ByteArray × Int)} (j i:Nat),X9 es s=some n→∃m,Instr.findNow .string (.string s) (Aa8 es j) i=some (some (m,.int .i64 n))
 | [],_,_,h=>by cases h
 | (k,v)::r,j,i,h=>by
  unfold X9 at h
  split at h
  ·rename_i hk;cases h;refine ⟨i,?_⟩;unfold Aa8 Instr.findNow;rw [Bh2 hk]
  ·rename_i hk;obtain ⟨m,hm⟩:=Ak9 (j+1) (i+1) h;refine ⟨m,?_⟩;unfold Aa8 Instr.findNow;rw [Bb9 hk];exact hm
class MapC (P:Program) (t:TypeId) (kt et:outParam TypeId):Prop where
 u:P.underlying t=some (.map kt et)
 k:P.underlying kt=some .string
 z:(P.info? et).map (·.zero)=some (some (.int .i64 0))
theorem Bat {P:Program} {t kt et:TypeId} [hM:MapC P t kt et] (e:Bool) (s:ByteArray) (w:World):(Instr.checkKey e 10000 kt (.string s)).run P w=.ok () w:=MapKept.run_checkKey (k:=.string s) hM.k JH e 9999
section
variable {c:Cx} {fr:Fr} {H:List Pc} {Φ:Gl} {ty:TypeId} {d:Nat} {x y z:Operand}
theorem Bkg {t:TypeId} (hd:Nat.blt d c.n=true) (h:∀b,T c ((d,.map (some b))::fr) (MpP b []::H) Φ):On c fr H (some d) (.makeMap t none) ty Φ:=⟨fun pos Ci gd=>Qe fun Q a w s g=>by
 have e:(execOp a.eval ⟨some d,.makeMap t none,ty,pos,Ci,gd⟩).run c.P w=.ok (.value (.map (some w.heap.size))) (w.alloc (.map #[] 0)):=by
  simp [execOp,run_makeMap_plain]
 rw [e];refine (h _).h _ _ (s.add (N:=[MpP w.heap.size []]) (Yh _ _) (fun p hp=>?_) ⟨FK,trivial⟩ fun p hp b hb=>?_) (g.put hd)
 ·rw [List.mem_singleton] at hp;subst hp;exact MpP.mk (MapKept.heap_alloc w _).1
 ·rw [List.mem_singleton] at hp;subst hp;simp [MpP,Pc.F] at hb;subst hb;exact .inl (Nat.le_refl _)⟩
theorem Au6 {t kt et:TypeId} [hM:MapC c.P t kt et] {b:Nat} {es:List (ByteArray × Int)} {s:ByteArray} {n:Int} {S:List Pc} (hx:ev fr x=some (.map (some b))) (hy:ev fr y=some (.string s)) (hz:ev fr z=some (.int .i64 n)) (hr:Rpl H (MpP b es) (MpP b (es++[(s,n)])) S) (hn:X9 es s=none) (h:T c fr S Φ):On c fr H none (.insert t x y z) ty Φ:=⟨fun pos Ci gd=>Qe fun Q a w st g=>by
 have hP:(MpP b es).P w:=by obtain ⟨R,h1,_⟩:=hr.picks;exact st.on _ h1.mem
 have hb:=MpP.at_ hP;have hf:=Adx 0 0 hn;have hk:=fun e=>Bat (P:=c.P) (t:=t) e s w;have e:(execOp a.eval ⟨none,.insert t x y z,ty,pos,Ci,gd⟩).run c.P w=.ok .skip { w with heap:=w.heap.setIfInBounds b (.map ((Aa8 es 0).toArray.push { key:=.string s,val:=.int .i64 n,born:=es.length }) (es.length+1)) }:=by
  simp [execOp,g.ev hx,g.ev hy,g.ev hz,Instr.mapUpdate,run_underlying hM.u,MapKept.run_getObj_map hb,hk,MapKept.run_findKey hM.k hf,MapKept.run_setObj_map _ hb,Result.andThen]
 rw [e];obtain ⟨h1,h2⟩:=MapKept.heap_set (o':=.map ((Aa8 es 0).toArray.push { key:=.string s,val:=.int .i64 n,born:=es.length }) (es.length+1)) hb;refine h.h _ _ (st.rpl hr rfl (fun b hb=>.inl hb) ⟨rfl,rfl,rfl,FK,fun k hk hn=>?_⟩ (MpP.mk ?_)) g
 ·exact h2 k (fun e=>hn (by rw [e];simp [MpP,Pc.F]))
 ·rw [h1,Ak6,List.length_append,List.push_toArray,Nat.zero_add];rfl⟩
theorem Bj1 {P:Program} {n:Nat} {t kt et:TypeId} [hM:MapC P t kt et] {b:Nat} {es:List (ByteArray × Int)} {s:ByteArray} (hx:ev fr x=some (.map (some b))) (hy:ev fr y=some (.string s)) (hm:MpP b es∈H) :
  Yd P n fr H (.lookup t x y true) ty (.tuple #[.int .i64 ((X9 es s).getD 0),.bool (X9 es s).isSome]):=.mk fun a w d pos Ci gd hA hH=>by
 have hb:=MpP.at_ (hH _ hm:(MpP b es).P w);obtain ⟨i,hi,hz⟩:=Option.map_eq_some_iff.1 hM.z;have hk:=fun e=>Bat (P:=P) (t:=t) e s w;have e:(Instr.lookup t (.map (some b)) (.string s) true).run P w=.ok (.tuple #[.int .i64 ((X9 es s).getD 0),.bool (X9 es s).isSome]) w:=by
  cases hg:X9 es s with
  | none=>simp [Instr.lookup,run_underlying hM.u,MapKept.run_getObj_map hb,hk,MapKept.run_findKey hM.k (Adx 0 0 hg),zeroValue,typeInfo,hi,hz,Result.andThen]
  | some v =>
   obtain ⟨m,hm⟩:=Ak9 0 0 hg;simp [Instr.lookup,run_underlying hM.u,MapKept.run_getObj_map hb,hk,MapKept.run_findKey hM.k hm,Result.andThen]
 simp [execOp,hA.ev hx,hA.ev hy,e]
end
theorem Dw {s:ByteArray} {l:Bs}:s=bz l↔s.data.toList=l:=⟨fun h=>by rw [h,Kr],fun h=>by rw [←h,Yi]⟩
theorem Ti {ws:List ByteArray} {i:Nat} (h:i < ws.length):atW (ws.map fun t=>t.data.toList) i=(ws[i]).data.toList:=by
 unfold atW;rw [Qu (by rw [List.length_map];exact h),List.getElem_map]
def Am8:List (ByteArray × Int):=[(⟨#[100,111,119,110]⟩,2),(⟨#[117,112]⟩,5),(⟨#[108,111,115,101]⟩,3),(⟨#[99,117,116]⟩,6)]
theorem Asu (s:ByteArray):(X9 Am8 s).getD 0=Rb s.data.toList∧(X9 Am8 s).isSome=decide (Rb s.data.toList≠0):=by
 unfold Am8 X9 X9 X9 X9 X9 Rb;have e1:(s=⟨#[100,111,119,110]⟩)=(s.data.toList=Aro):=propext (Dw (l:=Aro));have e2:(s=⟨#[117,112]⟩)=(s.data.toList=wUp):=propext (Dw (l:=wUp));have e3:(s=⟨#[108,111,115,101]⟩)=(s.data.toList=Arp):=propext (Dw (l:=Arp));have e4:(s=⟨#[99,117,116]⟩)=(s.data.toList=Bdd):=propext (Dw (l:=Bdd));by_cases h1:s.data.toList=Aro
 ·rw [if_pos (by rw [e1];exact h1),if_pos h1];exact EE
 rw [if_neg (by rw [e1];exact h1),if_neg h1];by_cases h2:s.data.toList=wUp
 ·rw [if_pos (by rw [e2];exact h2),if_pos h2];exact EE
 rw [if_neg (by rw [e2];exact h2),if_neg h2];by_cases h3:s.data.toList=Arp
 ·rw [if_pos (by rw [e3];exact h3),if_pos h3];exact EE
 rw [if_neg (by rw [e3];exact h3),if_neg h3];by_cases h4:s.data.toList=Bdd
 ·rw [if_pos (by rw [e4];exact h4),if_pos h4];exact EE
 rw [if_neg (by rw [e4];exact h4),if_neg h4];exact EE
def wsL (ws:List ByteArray):List Bs:=ws.map fun t=>t.data.toList
theorem Aq2 {ws:List ByteArray} (h0:0 < ws.length) (h:ws[0]=⟨#[115,101,110,100]⟩) (hn:ws.length=1):Jf (wsL ws)=some ⟨1,0,⟨#[]⟩⟩:=by
 unfold Jf wsL;rw [Ti h0,List.length_map,if_pos ⟨Dw.1 h,hn⟩]
theorem Af0 {ws:List ByteArray} (h1:1 < ws.length) (h:(ws[0]'FJ)=⟨#[115,101,110,100]⟩) (hn:ws.length=2) (he:¬ws[1]=⟨#[]⟩):Jf (wsL ws)=some ⟨1,0,ws[1]⟩:=by
 unfold Jf wsL;rw [Ti FJ,Ti h1,List.length_map,if_neg FJ,if_pos ⟨Dw.1 h,hn,fun e=>he (Dw.2 e)⟩,Yi]
theorem Atu {ws:List ByteArray} (h0:0 < ws.length) (h:ws[0]=⟨#[116,105,99,107]⟩) (hn:ws.length=1):Jf (wsL ws)=some ⟨4,0,⟨#[]⟩⟩:=by
 have h2:=(Dw (l:=Amj)).1 h;unfold Jf wsL;rw [Ti h0,List.length_map,if_neg (by rw [h2];exact fun e=>absurd e.1 FM),if_neg FJ,if_pos ⟨h2,hn⟩]
theorem Zd {ws:List ByteArray} (hn:¬ws.length=2) (h1:∀h0:0 < ws.length,ws.length=1→¬ws[0]=⟨#[115,101,110,100]⟩∧¬ws[0]=⟨#[116,105,99,107]⟩) (h0:0 < ws.length):Jf (wsL ws)=none:=by
 unfold Jf wsL;rw [Ti h0,List.length_map,if_neg (fun e=>(h1 h0 e.2).1 (Dw.2 e.1)),if_neg (fun e=>hn e.2.1),if_neg (fun e=>(h1 h0 e.2).2 (Dw.2 e.1)),if_pos hn]
theorem Amc {ws:List ByteArray} (h1:1 < ws.length) (hn:ws.length=2) (h:¬((ws[0]'FJ)=⟨#[115,101,110,100]⟩∧¬ws[1]=⟨#[]⟩)) :
  Jf (wsL ws)=if Rb (ws[0]'FJ).data.toList≠0∧(C5 ws[1]).2=true then some ⟨Rb (ws[0]'FJ).data.toList,(C5 ws[1]).1,⟨#[]⟩⟩ else none:=by
 unfold Jf wsL;rw [Ti FJ,Ti h1,List.length_map,Yi,if_neg FJ,if_neg (fun e=>h ⟨Dw.2 e.1,fun e2=>e.2.2 (Dw.1 e2)⟩),if_neg FJ,if_neg FJ]
instance:MapC prog 262 9 3:=⟨FL,FL,FL⟩
theorem Bci (ws:List ByteArray) (h0:0 < ws.length) (a:Option Addr) (c:Nat) (F FT:List Nat) (hz:∀w∈ws,w.size≤1000000):Fn prog 118 [.slice a ws.length c] [.sl A8 (.slice a ws.length c) ws F,Hp FT] [] (fun (u:Kq × Bool)=>u.1.data.size≤maxLen∧Jf (wsL ws)=if u.2 then some u.1 else none) (fun u=>.tuple #[.agg #[.int .i64 u.1.Cp,.int .i64 u.1.node,.string u.1.data],.bool u.2]) (fun _=>[]):=by
 have hz0:(⟨#[]⟩:ByteArray).size≤maxLen:=Nat.zero_le _;refine enter func118 rfl ntmps118 fun w0=>?_;refine Nq (xs:=ws) 0 ?_;rintro hi0 b0 o0 rfl s0
 repeat (first|(apply wO;apply oc;rfl;exact ydE)|(apply wO;apply Cr;rfl;intro _)|apply Akx|apply X6|apply Abl|apply Q7)
 refine E4 [0,2,3] [0,1,2,3] (fun _:Unit=>[]) (fun _=>[]) (fun _=>ws.length=2∧∀h1:1 < ws.length,¬(ws[0]=⟨#[115,101,110,100]⟩∧¬ws[1]=⟨#[]⟩)) ?_ fun _ hj=>?_
 ·by_cases h1:ws[0]=⟨#[115,101,110,100]⟩
  ·refine go ?_;rw [show decide (ws[0]=⟨#[115,101,110,100]⟩)=true from decide_eq_true h1];by_cases hn:ws.length=1
   ·refine go ?_;rw [show decide ((ws.length:Int)=1)=true from decide_eq_true FJ];refine go ?_;refine ret (⟨⟨1,0,⟨#[]⟩⟩,true⟩:Kq × Bool) ⟨hz0,Aq2 hi0 h1 hn⟩ rfl
   refine go ?_;rw [show decide ((ws.length:Int)=1)=false from decide_eq_false FJ];refine go ?_;rw [show decide (ws[0]=⟨#[115,101,110,100]⟩)=true from decide_eq_true h1];by_cases hn2:ws.length=2
   rotate_left
   ·refine go ?_;rw [show decide ((ws.length:Int)=2)=false from decide_eq_false FJ];refine go ?_;rw [show decide (ws[0]=⟨#[116,105,99,107]⟩)=false from decide_eq_false (by rw [h1];decide)];refine go ?_;refine Ax rfl (fun h9=>?_) (fun h9=>?_)
    rotate_left
    ·exact absurd h9 FJ
    refine go ?_;refine ret (⟨⟨0,0,⟨#[]⟩⟩,false⟩:Kq × Bool) ⟨hz0,Zd hn2 (fun _ e=>absurd e hn) hi0⟩ rfl
   refine Nq (xs:=ws) 1 ?_;rintro hi1 b1 o1 e1 s1;cases e1;refine go ?_;rw [show decide ((ws.length:Int)=2)=true from decide_eq_true FJ];refine go ?_;by_cases he:ws[1]=⟨#[]⟩
   ·rw [show decide (¬ws[1]=⟨#[]⟩)=false from decide_eq_false (fun h=>h he)];refine go ?_;rw [show decide (ws[0]=⟨#[116,105,99,107]⟩)=false from decide_eq_false (by rw [h1];decide)];refine go ?_;refine Ax rfl (fun h9=>?_) (fun h9=>?_)
    ·exact absurd h9 FJ
    refine go ?_;refine Bt () ⟨hn2,fun _ h=>h.2 he⟩
   ·rw [show decide (¬ws[1]=⟨#[]⟩)=true from decide_eq_true he];refine go ?_;refine ret (⟨⟨1,0,ws[1]⟩,true⟩:Kq × Bool) ⟨s1,Af0 hi1 h1 hn2 he⟩ rfl
  ·refine go ?_;rw [show decide (ws[0]=⟨#[115,101,110,100]⟩)=false from decide_eq_false h1];refine go ?_;rw [show decide (ws[0]=⟨#[115,101,110,100]⟩)=false from decide_eq_false h1];refine go ?_;by_cases h2:ws[0]=⟨#[116,105,99,107]⟩
   ·rw [show decide (ws[0]=⟨#[116,105,99,107]⟩)=true from decide_eq_true h2];refine go ?_;by_cases hn:ws.length=1
    ·rw [show decide ((ws.length:Int)=1)=true from decide_eq_true FJ];refine go ?_;refine ret (⟨⟨4,0,⟨#[]⟩⟩,true⟩:Kq × Bool) ⟨hz0,Atu hi0 h2 hn⟩ rfl
    rw [show decide ((ws.length:Int)=1)=false from decide_eq_false FJ];refine go ?_;refine Ax rfl (fun h9=>?_) (fun h9=>?_)
    ·refine go ?_;refine ret (⟨⟨0,0,⟨#[]⟩⟩,false⟩:Kq × Bool) ⟨hz0,Zd FJ (fun _ e=>⟨h1,fun e2=>by first|omega|exact h2 e2⟩) hi0⟩ rfl
    refine go ?_;refine Bt () ⟨FJ,fun _ h=>h1 h.1⟩
   ·rw [show decide (ws[0]=⟨#[116,105,99,107]⟩)=false from decide_eq_false h2];refine go ?_;refine Ax rfl (fun h9=>?_) (fun h9=>?_)
    ·refine go ?_;refine ret (⟨⟨0,0,⟨#[]⟩⟩,false⟩:Kq × Bool) ⟨hz0,Zd FJ (fun _ e=>⟨h1,fun e2=>by first|omega|exact h2 e2⟩) hi0⟩ rfl
    refine go ?_;refine Bt () ⟨FJ,fun _ h=>h1 h.1⟩
 obtain ⟨hn2,hns⟩:=hj;have hi1:1 < ws.length:=FJ
 have hsw:=Amc hi1 hn2 (hns hi1);have hz1:=hz _ (List.getElem_mem hi1);refine Nq (xs:=ws) 1 ?_;rintro - b1 o1 e1 s1;cases e1;refine go ?_;apply wO;refine Bkg rfl fun mb=>?_;apply wO;refine Au6 (s:=⟨#[100,111,119,110]⟩) rfl rfl rfl Aki rfl ?_;apply wO;refine Au6 (s:=⟨#[117,112]⟩) rfl rfl rfl Aki rfl ?_;apply wO;refine Au6 (s:=⟨#[108,111,115,101]⟩) rfl rfl rfl Aki rfl ?_;apply wO;refine Au6 (s:=⟨#[99,117,116]⟩) rfl rfl rfl Aki rfl ?_;refine go ?_;apply wO;apply oc;rfl;exact Bj1 (es:=Am8) rfl rfl A9;obtain ⟨g1,g2⟩:=Asu ws[0];rw [g1,g2];refine go ?_
 refine cb (fun w st=>(Ag3 ws[1] FT FJ).val w (En (st.get (p:=Hp FT) FK))) ?_;by_cases hk:Rb (ws[0]).data.toList≠0
 ·rw [show decide (Rb (ws[0]).data.toList≠0)=true from decide_eq_true hk];refine go ?_;refine ret (⟨⟨Rb (ws[0]).data.toList,(C5 ws[1]).1,⟨#[]⟩⟩,(C5 ws[1]).2⟩:Kq × Bool) ⟨hz0,?_⟩ rfl;rw [hsw];cases (C5 ws[1]).2
  ·rw [if_neg (fun e=>by cases e.2)];rfl
  ·rw [if_pos ⟨hk,rfl⟩];rfl
 ·rw [show decide (Rb (ws[0]).data.toList≠0)=false from decide_eq_false hk];refine go ?_;refine ret (⟨⟨Rb (ws[0]).data.toList,(C5 ws[1]).1,⟨#[]⟩⟩,false⟩:Kq × Bool) ⟨hz0,?_⟩ rfl;rw [hsw,if_neg (fun e=>hk e.1)];rfl
theorem Qh {n:Du} (h:At n=true):2≤n.An.Ad.length∧n.An.Ad.length≤8∧n.down.length≤8∧n.up.length=n.down.length∧n.Af.length=n.An.Ad.length∧n.down.length=n.An.Ad.length:=by
 have hG:=A1.1 h;have h1:=(H9 hG.t).n0;have h2:=(H9 hG.t).n1;obtain ⟨q1,q2,q3,q4⟩:=Bm.1 hG.l;exact ⟨h1,h2,FJ,FJ,FJ,FJ⟩
structure DrS where
 x:NE
 z:NV
 a:Option Addr
 c:Nat
 F:List Nat
structure DrK where
 k:Nat
 z:NV
 a:Option Addr
 c:Nat
 F:List Nat
theorem rdQ {w:World} {t:TypeId} {a:Option Addr} {n c:Nat} {l:List (List Ar)} {F:List Nat} (h:(Pc.ow (Kx Ak 223) t (.slice a n c) l F).P w):∃F',(Pc.sl (Mr Ak FM) (.slice a n c) l F').P w:=by
 obtain ⟨F', -,hs⟩:=h.2.sl (Q3 (Ng.refl Ak) FM _);exact ⟨F',FM,hs⟩
theorem Wl (l:List (List Ar)) (a:Option Addr) (c:Nat) (F:List Nat) (hl:l.length≤8) (hq:∀q∈l,q.length≤6):FV 215 [.slice a l.length c] [.sl (Mr Ak FM) (.slice a l.length c) l F] (.int .i64 ((qd l:Nat):Int)):=by
 refine enter func215 rfl ntmps215 fun w0=>?_;refine go ?_;refine D8 [6,7] (fun k:Nat=>[(3,.int .i64 ((qd (l.take k):Nat):Int)),(8,.int .i64 (k:Nat))]) (fun k=>k≤l.length) (fun k=>l.length - k) 0 (Nat.zero_le _) fun k hk=>?_;have h6:=Pb hq k;refine go ?_;refine Ax rfl (fun h1=>?_) (fun h1=>?_)
 ·have hh:k < l.length:=FJ
  have h7:=hq l[k] (List.getElem_mem hh);refine Np (E:=Ak) (hz:=FM) (xs:=l) k ?_;rintro hi6 b6 o6 a11 c11 F11 rfl l11;refine go ?_;rw [show ((qd (l.take k):Nat):Int)+(l[k].length:Int)=((qd (l.take (k+1)):Nat):Int) by rw [Anm hh];omega];refine Ce (k+1) hh HK
 ·obtain rfl:k=l.length:=FJ
  refine go ?_;refine ret () trivial ?_;rw [List.take_length];rfl
theorem Ayk {n:Du} {s:Kq} (hg:At n=true) (hs:Ex s=true):n.An.Ad.length=(Ih n (Bo n s)).An.Ad.length∧n.Af.length=(Ih n (Bo n s)).Af.length∧n.Ac.length=(Ih n (Bo n s)).Ac.length∧n.down.length=(Ih n (Bo n s)).down.length∧n.up.length=(Ih n (Bo n s)).up.length:=by
 cases e:Bo n s with
 | none=>exact ⟨rfl,rfl,rfl,rfl,rfl⟩
 | some r=>exact Bex hg (N8 hg hs e) (T7 e)
theorem Anu (n:Du) (s:Kq) (g:Nat) (a1:Option Addr) (c1:Nat) (F1:List Nat) (a2:Option Addr) (c2:Nat) (F2:List Nat) (a3:Option Addr) (c3:Nat) (F3:List Nat) (a4:Option Addr) (c4:Nat) (F4:List Nat) (a5:Option Addr) (c5:Nat) (F5:List Nat) (a6:Option Addr) (c6:Nat) (F6:List Nat) (a7:Option Addr) (c7:Nat) (F7:List Nat) (FT:List Nat) (hg:At n=true) (hs:Ex s=true) (hss:s.data.size≤maxLen) :
  Fn prog 120 [Iq g 0 0,.agg #[.int .i64 (s).Cp,.int .i64 (s).node,.string (s).data]] [Hp FT] [.row g 50 0 [] [.slice a1 n.An.Ad.length c1,.int .i64 n.Ab.Aa.Ap,.int .i64 n.Ab.Aa.size,.slice a2 n.Ab.Aa.Ao.length c2,.int .i64 n.Ab.Ai,.int .i64 n.Ab.quiet,.slice a3 n.Ab.holds.length c3,.slice a4 n.Af.length c4,.slice a5 n.Ac.length c5,.slice a6 n.down.length c6,.slice a7 n.up.length c7] [],.ow Bb 3 (.slice a1 n.An.Ad.length c1) n.An.Ad F1,.ow A8 9 (.slice a2 n.Ab.Aa.Ao.length c2) n.Ab.Aa.Ao F2,.ow Bn 215 (.slice a3 n.Ab.holds.length c3) n.Ab.holds F3,.ow Ca 133 (.slice a4 n.Af.length c4) n.Af F4,.ow By 140 (.slice a5 n.Ac.length c5) n.Ac F5,.ow (Kx Ak 223) 142 (.slice a6 n.down.length c6) n.down F6,.ow (Kx Ak 223) 142 (.slice a7 n.up.length c7) n.up F7] (fun (_:NV × KA)=>True) (fun z=>.tuple #[.slice z.2.a (Wi (Bo n s)).length z.2.c,.bool (Bo n s).isSome]) (fun z=>[.row g 50 0 [] [.slice z.1.a1 (Ih n (Bo n s)).An.Ad.length z.1.c1,.int .i64 (Ih n (Bo n s)).Ab.Aa.Ap,.int .i64 (Ih n (Bo n s)).Ab.Aa.size,.slice z.1.a2 (Ih n (Bo n s)).Ab.Aa.Ao.length z.1.c2,.int .i64 (Ih n (Bo n s)).Ab.Ai,.int .i64 (Ih n (Bo n s)).Ab.quiet,.slice z.1.a3 (Ih n (Bo n s)).Ab.holds.length z.1.c3,.slice z.1.a4 (Ih n (Bo n s)).Af.length z.1.c4,.slice z.1.a5 (Ih n (Bo n s)).Ac.length z.1.c5,.slice z.1.a6 (Ih n (Bo n s)).down.length z.1.c6,.slice z.1.a7 (Ih n (Bo n s)).up.length z.1.c7] [],.ow Bb 3 (.slice z.1.a1 (Ih n (Bo n s)).An.Ad.length z.1.c1) (Ih n (Bo n s)).An.Ad z.1.F1,.ow A8 9 (.slice z.1.a2 (Ih n (Bo n s)).Ab.Aa.Ao.length z.1.c2) (Ih n (Bo n s)).Ab.Aa.Ao z.1.F2,.ow Bn 215 (.slice z.1.a3 (Ih n (Bo n s)).Ab.holds.length z.1.c3) (Ih n (Bo n s)).Ab.holds z.1.F3,.ow Ca 133 (.slice z.1.a4 (Ih n (Bo n s)).Af.length z.1.c4) (Ih n (Bo n s)).Af z.1.F4,.ow By 140 (.slice z.1.a5 (Ih n (Bo n s)).Ac.length z.1.c5) (Ih n (Bo n s)).Ac z.1.F5,.ow (Kx Ak 223) 142 (.slice z.1.a6 (Ih n (Bo n s)).down.length z.1.c6) (Ih n (Bo n s)).down z.1.F6,.ow (Kx Ak 223) 142 (.slice z.1.a7 (Ih n (Bo n s)).up.length z.1.c7) (Ih n (Bo n s)).up z.1.F7,.ow A8 9 (.slice z.2.a (Wi (Bo n s)).length z.2.c) (Wi (Bo n s)) z.2.F]):=by
 obtain ⟨k1,k2,k3,k4,k5⟩:=Ayk hg hs;have h:=Bh5 n s g a1 c1 F1 a2 c2 F2 a3 c3 F3 a4 c4 F4 a5 c5 F5 a6 c6 F6 a7 c7 F7 FT hg hs hss;rw [←k1,←k2,←k3,←k4,←k5];exact h
theorem Azf (n:Du) (g:Nat) (a1:Option Addr) (c1:Nat) (F1:List Nat) (a2:Option Addr) (c2:Nat) (F2:List Nat) (a3:Option Addr) (c3:Nat) (F3:List Nat) (a4:Option Addr) (c4:Nat) (F4:List Nat) (a5:Option Addr) (c5:Nat) (F5:List Nat) (a6:Option Addr) (c6:Nat) (F6:List Nat) (a7:Option Addr) (c7:Nat) (F7:List Nat) (FT:List Nat) (hg:At n=true) :
  Fn prog 122 [Iq g 0 0] [Hp FT] [.row g 50 0 [] [.slice a1 n.An.Ad.length c1,.int .i64 n.Ab.Aa.Ap,.int .i64 n.Ab.Aa.size,.slice a2 n.Ab.Aa.Ao.length c2,.int .i64 n.Ab.Ai,.int .i64 n.Ab.quiet,.slice a3 n.Ab.holds.length c3,.slice a4 n.Af.length c4,.slice a5 n.Ac.length c5,.slice a6 n.down.length c6,.slice a7 n.up.length c7] [],.ow Bb 3 (.slice a1 n.An.Ad.length c1) n.An.Ad F1,.ow A8 9 (.slice a2 n.Ab.Aa.Ao.length c2) n.Ab.Aa.Ao F2,.ow Bn 215 (.slice a3 n.Ab.holds.length c3) n.Ab.holds F3,.ow Ca 133 (.slice a4 n.Af.length c4) n.Af F4,.ow By 140 (.slice a5 n.Ac.length c5) n.Ac F5,.ow (Kx Ak 223) 142 (.slice a6 n.down.length c6) n.down F6,.ow (Kx Ak 223) 142 (.slice a7 n.up.length c7) n.up F7] (fun (_:NV × KA)=>True) (fun z=>.slice z.2.a (Ri n).2.length z.2.c) (fun z=>[.row g 50 0 [] [.slice z.1.a1 (Ri n).1.An.Ad.length z.1.c1,.int .i64 (Ri n).1.Ab.Aa.Ap,.int .i64 (Ri n).1.Ab.Aa.size,.slice z.1.a2 (Ri n).1.Ab.Aa.Ao.length z.1.c2,.int .i64 (Ri n).1.Ab.Ai,.int .i64 (Ri n).1.Ab.quiet,.slice z.1.a3 (Ri n).1.Ab.holds.length z.1.c3,.slice z.1.a4 (Ri n).1.Af.length z.1.c4,.slice z.1.a5 (Ri n).1.Ac.length z.1.c5,.slice z.1.a6 (Ri n).1.down.length z.1.c6,.slice z.1.a7 (Ri n).1.up.length z.1.c7] [],.ow Bb 3 (.slice z.1.a1 (Ri n).1.An.Ad.length z.1.c1) (Ri n).1.An.Ad z.1.F1,.ow A8 9 (.slice z.1.a2 (Ri n).1.Ab.Aa.Ao.length z.1.c2) (Ri n).1.Ab.Aa.Ao z.1.F2,.ow Bn 215 (.slice z.1.a3 (Ri n).1.Ab.holds.length z.1.c3) (Ri n).1.Ab.holds z.1.F3,.ow Ca 133 (.slice z.1.a4 (Ri n).1.Af.length z.1.c4) (Ri n).1.Af z.1.F4,.ow By 140 (.slice z.1.a5 (Ri n).1.Ac.length z.1.c5) (Ri n).1.Ac z.1.F5,.ow (Kx Ak 223) 142 (.slice z.1.a6 (Ri n).1.down.length z.1.c6) (Ri n).1.down z.1.F6,.ow (Kx Ak 223) 142 (.slice z.1.a7 (Ri n).1.up.length z.1.c7) (Ri n).1.up z.1.F7,.ow A8 9 (.slice z.2.a (Ri n).2.length z.2.c) (Ri n).2 z.2.F]):=by
 have hwn:=Bdg hg;refine enter func122 rfl ntmps122 fun w0=>?_;refine Dj A8 9 ?_;refine go ?_
 refine Cj [0] (fun s:DrS=>[(3,.slice s.a s.x.2.length s.c)]) (fun s=>[.row g 50 0 [] [.slice s.z.a1 s.x.1.An.Ad.length s.z.c1,.int .i64 s.x.1.Ab.Aa.Ap,.int .i64 s.x.1.Ab.Aa.size,.slice s.z.a2 s.x.1.Ab.Aa.Ao.length s.z.c2,.int .i64 s.x.1.Ab.Ai,.int .i64 s.x.1.Ab.quiet,.slice s.z.a3 s.x.1.Ab.holds.length s.z.c3,.slice s.z.a4 s.x.1.Af.length s.z.c4,.slice s.z.a5 s.x.1.Ac.length s.z.c5,.slice s.z.a6 s.x.1.down.length s.z.c6,.slice s.z.a7 s.x.1.up.length s.z.c7] [],.ow Bb 3 (.slice s.z.a1 s.x.1.An.Ad.length s.z.c1) s.x.1.An.Ad s.z.F1,.ow A8 9 (.slice s.z.a2 s.x.1.Ab.Aa.Ao.length s.z.c2) s.x.1.Ab.Aa.Ao s.z.F2,.ow Bn 215 (.slice s.z.a3 s.x.1.Ab.holds.length s.z.c3) s.x.1.Ab.holds s.z.F3,.ow Ca 133 (.slice s.z.a4 s.x.1.Af.length s.z.c4) s.x.1.Af s.z.F4,.ow By 140 (.slice s.z.a5 s.x.1.Ac.length s.z.c5) s.x.1.Ac s.z.F5,.ow (Kx Ak 223) 142 (.slice s.z.a6 s.x.1.down.length s.z.c6) s.x.1.down s.z.F6,.ow (Kx Ak 223) 142 (.slice s.z.a7 s.x.1.up.length s.z.c7) s.x.1.up s.z.F7,.ow A8 9 (.slice s.a s.x.2.length s.c) s.x.2 s.F]) (fun s=>Ws (n,[]) s.x∧drE s.x=Ri n) (fun s=>wN s.x.1) ⟨(n,[]),⟨a1,c1,F1,a2,c2,F2,a3,c3,F3,a4,c4,F4,a5,c5,F5,a6,c6,F6,a7,c7,F7⟩,none,0,[]⟩ ⟨.refl hg,rfl⟩ fun s hs0=>?_
 obtain ⟨x,⟨x1,w1,K1,x2,w2,K2,x3,w3,K3,x4,w4,K4,x5,w5,K5,x6,w6,K6,x7,w7,K7⟩,ea,ec,eF⟩:=s;obtain ⟨fx,hR⟩:=hs0;dsimp only at fx hR ⊢;have hG:=A1.1 fx.g;have h8:=H9 hG.t;have hn8:=h8.n1;have hn2:=h8.n0;obtain ⟨q1,q2,q3,q4⟩:=Bm.1 hG.l;obtain ⟨-, -,hd6,hu6⟩:=Ii fx.g;have hd6:∀q∈x.1.down,q.length≤6:=fun q hq=>(Db (hd6 q hq)).1;have hu6:∀q∈x.1.up,q.length≤6:=fun q hq=>(Db (hu6 q hq)).1;have hb1:=Pb hd6 x.1.down.length;have hb2:=Pb hu6 x.1.up.length;rw [List.take_length] at hb1 hb2;have hev:=fx.e;simp only [List.length_nil] at hev;refine go ?_;refine As [0] [] ?_;refine Ds 0 1 2 3 ?_
 refine Ds 5 6 7 8 ?_;refine dN 4 ?_;refine oC ?_;refine cfr (fun w st=>by obtain ⟨Fq,hq⟩:=rdQ (st.get (p:=.ow (Kx Ak 223) 142 (.slice x6 x.1.down.length w6) x.1.down K6) FO);exact ⟨_,En hq,rfl,Wl _ _ _ Fq FJ GI⟩) (fun _ _=>?_);refine O1 ?_;refine dk ?_;refine dN 9 ?_;refine oC ?_;refine cfr (fun w st=>by obtain ⟨Fq,hq⟩:=rdQ (st.get (p:=.ow (Kx Ak 223) 142 (.slice x7 x.1.up.length w7) x.1.up K7) FO);exact ⟨_,En hq,rfl,Wl _ _ _ Fq FJ GI⟩) (fun _ _=>?_);refine O1 ?_;refine dk ?_;refine Ed 10 11 ?_;refine dd ?_;refine go ?_
 refine Ax rfl (fun h1=>?_) (fun h1=>?_)
 ·have hq0:¬Y4 x.1=0:=by unfold Y4;omega
  obtain ⟨fR,hw⟩:=Nk fx.g;have hw:=hw hq0;refine go ?_
  refine Cj [0,24] (fun y:DrK=>[(3,.slice y.a (Ey x y.k).2.length y.c),(25,.int .i64 (y.k:Nat))]) (fun y=>[.row g 50 0 [] [.slice y.z.a1 (Ey x y.k).1.An.Ad.length y.z.c1,.int .i64 (Ey x y.k).1.Ab.Aa.Ap,.int .i64 (Ey x y.k).1.Ab.Aa.size,.slice y.z.a2 (Ey x y.k).1.Ab.Aa.Ao.length y.z.c2,.int .i64 (Ey x y.k).1.Ab.Ai,.int .i64 (Ey x y.k).1.Ab.quiet,.slice y.z.a3 (Ey x y.k).1.Ab.holds.length y.z.c3,.slice y.z.a4 (Ey x y.k).1.Af.length y.z.c4,.slice y.z.a5 (Ey x y.k).1.Ac.length y.z.c5,.slice y.z.a6 (Ey x y.k).1.down.length y.z.c6,.slice y.z.a7 (Ey x y.k).1.up.length y.z.c7] [],.ow Bb 3 (.slice y.z.a1 (Ey x y.k).1.An.Ad.length y.z.c1) (Ey x y.k).1.An.Ad y.z.F1,.ow A8 9 (.slice y.z.a2 (Ey x y.k).1.Ab.Aa.Ao.length y.z.c2) (Ey x y.k).1.Ab.Aa.Ao y.z.F2,.ow Bn 215 (.slice y.z.a3 (Ey x y.k).1.Ab.holds.length y.z.c3) (Ey x y.k).1.Ab.holds y.z.F3,.ow Ca 133 (.slice y.z.a4 (Ey x y.k).1.Af.length y.z.c4) (Ey x y.k).1.Af y.z.F4,.ow By 140 (.slice y.z.a5 (Ey x y.k).1.Ac.length y.z.c5) (Ey x y.k).1.Ac y.z.F5,.ow (Kx Ak 223) 142 (.slice y.z.a6 (Ey x y.k).1.down.length y.z.c6) (Ey x y.k).1.down y.z.F6,.ow (Kx Ak 223) 142 (.slice y.z.a7 (Ey x y.k).1.up.length y.z.c7) (Ey x y.k).1.up y.z.F7,.ow A8 9 (.slice y.a (Ey x y.k).2.length y.c) (Ey x y.k).2 y.F]) (fun y=>y.k≤x.1.An.Ad.length) (fun y=>x.1.An.Ad.length - y.k) ⟨0,⟨x1,w1,K1,x2,w2,K2,x3,w3,K3,x4,w4,K4,x5,w5,K5,x6,w6,K6,x7,w7,K7⟩,ea,ec,eF⟩ (Nat.zero_le _) fun y hy0=>?_
  obtain ⟨j,⟨x1,w1,K1,x2,w2,K2,x3,w3,K3,x4,w4,K4,x5,w5,K5,x6,w6,K6,x7,w7,K7⟩,ya,yc,yF⟩:=y;dsimp only at hy0 ⊢;have fJ:=Afx fx.g j hy0;have fX:=fx.trans fJ;generalize hX:Ey x j=X at fJ fX ⊢;refine go ?_;refine Ax rfl (fun h2=>?_) (fun h2=>?_)
  ·have hj:j < x.1.An.Ad.length:=FJ
   have hXt:X.1.An.Ad.length=x.1.An.Ad.length:=by rw [fJ.t]
   have hG:=A1.1 fX.g;obtain ⟨q1,q2,q3,q4⟩:=Bm.1 hG.l;have hjd:j < X.1.down.length:=FJ
   have hsd:=Zz (n:=X.1) (i:=j) FJ;rw [Qu hjd] at hsd;have hz1:=Acr fX.g;have hev2:=fX.e;simp only [List.length_nil] at hev2;refine go ?_;refine W5 (xs:=X.1.down) (m:=1) j ?_ rfl FJ;rintro _ g6 A6 cs6 B6 p6 q6 G6 Gi6 H6 e6 - hc6 hH6;rw [e6];refine U7 ?_;rintro a6 c6 ev6 l6;obtain rfl:=Uv ev6;refine go ?_;refine Ax rfl (fun h4=>?_) (fun h4=>?_)
   ·have j1:1≤j:=by
     rcases Nat.eq_zero_or_pos j with rfl|h
     ·have:=hz1.1;rw [Qu hjd] at this;omega
     ·exact h
    have ok:=Be6 j1 FJ;refine J0 X.1.down[j] ?_;refine Ta _ hH6 rfl fun J6=>?_;rw [List.set_getElem_self];refine go ?_;refine Cb (Anu X.1 (Jg j) g x1 w1 K1 x2 w2 K2 x3 w3 K3 x4 w4 K4 x5 w5 K5 _ w6 J6 x7 w7 K7 FT fX.g ok (Nat.zero_le _)) fun z _=>?_;have hfe:=fX.trans (Bh7 fX.g (i:=j) FJ);have hfe2:=hfe.e;have htl:(Nx X (Jg j)).2.length=X.2.length+(Wi (Bo X.1 (Jg j))).length:=List.length_append;simp only [List.length_nil] at hfe2;refine A4 (E:=A8) (xs:=Wi (Bo X.1 (Jg j))) fun F8=>?_;refine go ?_;apply wO;refine Pm (E:=A8) (xs:=X.2) (ys:=Wi (Bo X.1 (Jg j))) Eh Hj fun a9 c9 F9=>?_
    generalize hX1:Nx X (Jg j)=X1 at hfe hfe2 htl;rw [show X.2++Wi (Bo X.1 (Jg j))=X1.2 by rw [←hX1];rfl,show Ih X.1 (Bo X.1 (Jg j))=X1.1 by rw [←hX1];rfl];have fX1:Ws X X1:=by rw [←hX1];exact Bh7 fX.g (by rw [hXt];exact hj)
    have hG1:=A1.1 fX1.g;obtain ⟨r1,r2,r3,r4⟩:=Bm.1 hG1.l;have hX1t:X1.1.An.Ad.length=x.1.An.Ad.length:=by rw [fX1.t];exact hXt
    have hju:j < X1.1.up.length:=FJ
    have hsu:=Xn (n:=X1.1) (i:=j) FJ;rw [Qu hju] at hsu;have hz0:=Acr fX1.g;refine go ?_;refine W5 (xs:=X1.1.up) (m:=1) j ?_ rfl FJ;rintro _ g7 A7 cs7 B7 p7 q7 G7 Gi7 H7 e7 - hc7 hH7;rw [e7];refine U7 ?_;rintro a7 c7 ev7 l7;obtain rfl:=Uv ev7;refine go ?_;refine Ax rfl (fun h3=>?_) (fun h3=>?_)
    ·have j1:1≤j:=by
      rcases Nat.eq_zero_or_pos j with rfl|h
      ·have:=hz0.2;rw [Qu hju] at this;omega
      ·exact h
     have ok:=Bbl j1 FJ;have hnx:Ey x (j+1)=(Ih X1.1 (Bo X1.1 (Mz j)),X1.2):=by
      show Nx (Nx (Ey x j) (Jg j)) (Mz j)=_;rw [hX,hX1];exact Prod.ext rfl (Bh8 fX1.g (i:=j) FJ).2
     refine J0 X1.1.up[j] ?_;refine Ta _ hH7 rfl fun J7=>?_;rw [List.set_getElem_self];refine go ?_;refine Cb (Anu X1.1 (Mz j) g z.1.a1 z.1.c1 z.1.F1 z.1.a2 z.1.c2 z.1.F2 z.1.a3 z.1.c3 z.1.F3 z.1.a4 z.1.c4 z.1.F4 z.1.a5 z.1.c5 z.1.F5 z.1.a6 z.1.c6 z.1.F6 _ z.1.c7 J7 FT fX1.g ok (Nat.zero_le _)) fun y _=>?_;refine go ?_
     refine Ce ⟨j+1,⟨y.1.a1,y.1.c1,y.1.F1,y.1.a2,y.1.c2,y.1.F2,y.1.a3,y.1.c3,y.1.F3,y.1.a4,y.1.c4,y.1.F4,y.1.a5,y.1.c5,y.1.F5,y.1.a6,y.1.c6,y.1.F6,y.1.a7,y.1.c7,y.1.F7⟩,a9,c9,F9⟩ (by show j+1≤_;omega) HJ GZ GY
    ·have hnx:Ey x (j+1)=X1:=by
      show Nx (Nx (Ey x j) (Jg j)) (Mz j)=_;rw [hX,hX1];exact Kc (by rw [hsu,if_pos FJ])
     refine J0 X1.1.up[j] ?_;refine Ta _ hH7 rfl fun J7=>?_;rw [List.set_getElem_self];refine go ?_;refine Ce ⟨j+1,⟨z.1.a1,z.1.c1,z.1.F1,z.1.a2,z.1.c2,z.1.F2,z.1.a3,z.1.c3,z.1.F3,z.1.a4,z.1.c4,z.1.F4,z.1.a5,z.1.c5,z.1.F5,z.1.a6,z.1.c6,z.1.F6,_,z.1.c7,J7⟩,a9,c9,F9⟩ (by show j+1≤_;omega) HJ GZ GY
   ·have htn:Nx X (Jg j)=X:=Kc (by rw [hsd,if_pos FJ]);refine J0 X.1.down[j] ?_;refine Ta _ hH6 rfl fun J6=>?_;rw [List.set_getElem_self];obtain ⟨X1,hX1⟩:∃X1,Nx X (Jg j)=X1:=⟨_,rfl⟩;have hXX:X1=X:=by rw [←hX1,htn]
    subst hXX;have fX1:Ws X1 X1:=.refl fX.g;have hG1:=A1.1 fX1.g;obtain ⟨r1,r2,r3,r4⟩:=Bm.1 hG1.l;have hX1t:X1.1.An.Ad.length=x.1.An.Ad.length:=by rw [fX1.t];exact hXt
    have hju:j < X1.1.up.length:=FJ
    have hsu:=Xn (n:=X1.1) (i:=j) FJ;rw [Qu hju] at hsu;have hz0:=Acr fX1.g;refine go ?_;refine W5 (xs:=X1.1.up) (m:=1) j ?_ rfl FJ;rintro _ g7 A7 cs7 B7 p7 q7 G7 Gi7 H7 e7 - hc7 hH7;rw [e7];refine U7 ?_;rintro a7 c7 ev7 l7;obtain rfl:=Uv ev7;refine go ?_;refine Ax rfl (fun h3=>?_) (fun h3=>?_)
    ·have j1:1≤j:=by
      rcases Nat.eq_zero_or_pos j with rfl|h
      ·have:=hz0.2;rw [Qu hju] at this;omega
      ·exact h
     have ok:=Bbl j1 FJ;have hnx:Ey x (j+1)=(Ih X1.1 (Bo X1.1 (Mz j)),X1.2):=by
      show Nx (Nx (Ey x j) (Jg j)) (Mz j)=_;rw [hX,hX1];exact Prod.ext rfl (Bh8 fX1.g (i:=j) FJ).2
     refine J0 X1.1.up[j] ?_;refine Ta _ hH7 rfl fun J7=>?_;rw [List.set_getElem_self];refine go ?_;refine Cb (Anu X1.1 (Mz j) g x1 w1 K1 x2 w2 K2 x3 w3 K3 x4 w4 K4 x5 w5 K5 _ w6 J6 _ w7 J7 FT fX1.g ok (Nat.zero_le _)) fun y _=>?_;refine go ?_;refine Ce ⟨j+1,⟨y.1.a1,y.1.c1,y.1.F1,y.1.a2,y.1.c2,y.1.F2,y.1.a3,y.1.c3,y.1.F3,y.1.a4,y.1.c4,y.1.F4,y.1.a5,y.1.c5,y.1.F5,y.1.a6,y.1.c6,y.1.F6,y.1.a7,y.1.c7,y.1.F7⟩,ya,yc,yF⟩ (by show j+1≤_;omega) HJ GZ GY
    ·have hnx:Ey x (j+1)=X1:=by
      show Nx (Nx (Ey x j) (Jg j)) (Mz j)=_;rw [hX,hX1];exact Kc (by rw [hsu,if_pos FJ])
     refine J0 X1.1.up[j] ?_;refine Ta _ hH7 rfl fun J7=>?_;rw [List.set_getElem_self];refine go ?_;refine Ce ⟨j+1,⟨x1,w1,K1,x2,w2,K2,x3,w3,K3,x4,w4,K4,x5,w5,K5,_,w6,J6,_,w7,J7⟩,ya,yc,yF⟩ (by show j+1≤_;omega) HJ GZ GY
  ·obtain rfl:j=x.1.An.Ad.length:=FJ
   have hX:=hX;rw [Atn fx.g] at hX;refine go ?_;refine Ce ⟨X,⟨x1,w1,K1,x2,w2,K2,x3,w3,K3,x4,w4,K4,x5,w5,K5,x6,w6,K6,x7,w7,K7⟩,ya,yc,yF⟩ ⟨fX,by rw [←hR,Ahj fx.g hq0,hX]⟩ (by show wN X.1 < wN x.1;rw [←hX];exact hw)
 ·have hq0:Y4 x.1=0:=by unfold Y4;omega
  rw [Ab6 hq0] at hR;rw [hR];exact FB
theorem Akk (n:Du) (v:Value) (F:List Nat):FV 88 [v] [.isv Ny v n F] (.tuple #[.int .i64 (Rq n).1,.int .i64 (Rq n).2.1,.bool (Rq n).2.2]):=by
 refine enter func88 rfl ntmps88 fun w0=>?_;refine Hm ?_;rintro a1 c1 F1 a2 c2 F2 a3 c3 F3 a4 c4 F4 a5 c5 F5 a6 c6 F6 a7 c7 F7 rfl l1 l2 l3 l4 l5 l6 l7;refine go ?_;intros;refine Cb (Aeb n _ F) fun _ _=>?_;cases g:At n
 ·refine go ?_;refine ret () trivial ?_;unfold Rq;rw [g];rfl
 obtain ⟨-, -,e3,e4⟩:=Ii g;obtain ⟨q2,q8,qn,qu,qe,qt⟩:=Qh g;refine go ?_;refine D8 [1,2,3,4] (fun k:Nat=>[(5,.int .i64 ((qd (n.down.take k):Nat):Int)),(6,.int .i64 ((qd (n.up.take k):Nat):Int)),(7,.int .i64 (k:Nat))]) (fun k=>k≤n.down.length) (fun k=>n.down.length - k) 0 (Nat.zero_le _) fun k hk=>?_;have b1:=Pb (fun q hq=>(Db (e3 q hq)).1) k;have b2:=Pb (fun q hq=>(Db (e4 q hq)).1) k;refine go ?_;refine Ax rfl (fun h3=>?_) (fun h3=>?_)
 ·have hk3:k < n.down.length:=FJ
  have hk4:k < n.up.length:=FJ
  have b3:=(Db (e3 _ (List.getElem_mem hk3))).1;have b4:=(Db (e4 _ (List.getElem_mem hk4))).1;have s3:=Anm hk3;have s4:=Anm hk4;refine Np (E:=Ak) (hz:=FM) (xs:=n.down) k ?_;rintro hi1 g1 o1 a8 c8 F8 ea l8;refine Np (E:=Ak) (hz:=FM) (xs:=n.up) k ?_;rintro hi2 g2 o2 a9 c9 F9 eb l9;rw [ea,eb];refine go ?_;rw [show ((qd (n.down.take k):Nat):Int)+(n.down[k].length:Int)=((qd (n.down.take (k+1)):Nat):Int) by omega,show ((qd (n.up.take k):Nat):Int)+(n.up[k].length:Int)=((qd (n.up.take (k+1)):Nat):Int) by omega];exact ED
 ·have hk3:k=n.down.length:=FJ
  subst hk3;rw [List.take_length,show n.up.take n.down.length=n.up by rw [←qu,List.take_length]];refine go ?_;refine ret () trivial ?_;unfold Rq;rw [g];rfl
theorem Ar0 (n:Du) (v:Value) (F:List Nat):FV 217 [v] [.isv Ny v n F] (.tuple #[.bool (Gw n).1,.bool (Gw n).2]):=by
 refine enter func217 rfl ntmps217 fun w0=>?_;refine Hm ?_;rintro a1 c1 F1 a2 c2 F2 a3 c3 F3 a4 c4 F4 a5 c5 F5 a6 c6 F6 a7 c7 F7 rfl l1 l2 l3 l4 l5 l6 l7;refine go ?_;intros;refine Cb (Abz n _ F) fun _ _=>?_;cases g:At n
 ·refine go ?_;refine ret () trivial ?_;unfold Gw;rw [g];rfl
 obtain ⟨-, -,e3,e4⟩:=Ii g;obtain ⟨q2,q8,qn,qu,qe,qt⟩:=Qh g;have hG:=A1.1 g;obtain ⟨-,qr, -, -⟩:=Bm.1 hG.l;have hS:=Lc hG.s;have hW:=Ec.1 (Fs.1 hG.s).1;have hS1:=hS.l;have hb1:=Pb (fun q hq=>(Db (e3 q hq)).1) n.down.length;have hb2:=Pb (fun q hq=>(Db (e4 q hq)).1) n.up.length;rw [List.take_length] at hb1 hb2;refine O3 ?_;intros;refine Iu n.An (a1:=a1) ?_;refine go ?_;refine Cb (Ba6 n.An _ _ FJ) fun z _=>?_;refine A4 (E:=Bb) (xs:=lvs n.An.Ad) fun Fl=>?_;have hlv:=Alw n.An.Ad n.An.Ad.length;rw [show Rc n.An.Ad n.An.Ad.length=lvs n.An.Ad from rfl] at hlv;refine go ?_
 refine D8 [1,2,3,12,13] (fun k:Nat=>[(14,.int .i64 (k:Nat))]) (fun k=>k≤(lvs n.An.Ad).length∧∀x∈(lvs n.An.Ad).take k,Ad1 n x.toNat=true) (fun k=>(lvs n.An.Ad).length - k) 0 ⟨Nat.zero_le _,FK⟩ fun k hk=>?_;obtain ⟨hk,hal⟩:=hk;refine go ?_;refine Ax rfl (fun h3=>?_) (fun h3=>?_)
 ·have hk3:k < (lvs n.An.Ad).length:=FJ
  obtain ⟨i,hi8,hie,hlf⟩:=Bhl hk3;have h5:i < n.Ac.length:=FJ
  refine I5 (xs:=lvs n.An.Ad) k ?_;rintro hi b o e;rw [e,hie];refine Kg (xs:=n.Ac) i ?_;rintro h5b b5 o5 a9 c9 F9 a10 c10 F10 e5 l9 l10;rw [e5];refine Ev n.Ac[i] ?_;cases hs:Agg n.Ac[i]
  ·refine O3 ?_;intros;refine As [0,8] [] ?_;refine dt 0 ?_;refine dN 1 ?_;refine oC ?_;refine Cb (Aff n.Ac[i] _ _) fun _ _=>?_;rw [hs];refine dk ?_;refine Ed 2 3 ?_;refine ds 4 ?_;refine ds 5 ?_;refine ds 6 ?_;refine ds 7 ?_;refine ds 8 ?_;refine ds 9 ?_;refine ds 10 ?_;refine ds 11 ?_;refine dt 12 ?_;refine dd ?_;refine go ?_;refine ret () trivial ?_;unfold Gw;rw [g];rw [if_pos rfl,Ajd hi8 hlf (by unfold Ad1;rw [Hv h5,hs];rfl)];rfl
  ·refine O3 ?_;intros;refine As [0,8] [] ?_;refine dt 0 ?_;refine dN 1 ?_;refine oC ?_;refine Cb (Aff n.Ac[i] _ _) fun _ _=>?_;rw [hs];refine dk ?_;refine Ed 2 3 ?_;refine Dr 4 ?_;refine Dr 5 ?_;refine Dr 6 ?_;refine Dr 7 ?_;refine Dr 8 ?_;refine Dr 9 ?_;refine d1g 10 ?_;apply On.h;refine oC ?_;refine cb (fun w s=>I4 n.Ab.Aa.Ap n.Ab.Aa.size _ n.Ab.Aa.Ao.length _ w hW.1.1 hW.1.2 FJ) ?_;refine dk ?_;refine Dr 11 ?_;refine dt 12 ?_;refine dd ?_;refine go ?_;refine Ax rfl (fun h6=>?_) (fun h6=>?_)
   ·refine go ?_;refine ret () trivial ?_;unfold Gw;rw [g];rw [if_pos rfl,Ajd hi8 hlf (by unfold Ad1;rw [Hv h5,hs,decide_eq_false h6];rfl)];rfl
   ·refine go ?_;rw [show ((k:Nat):Int)+1=((k+1:Nat):Int) by omega];refine Ce (k+1) ⟨hk3,fun x hx=>?_⟩ FJ;rw [List.take_succ_eq_append_getElem hk3] at hx;rcases List.mem_append.1 hx with hx|hx
    ·exact hal x hx
    ·rw [List.mem_singleton.1 hx,hie];show Ad1 n i=true;unfold Ad1;rw [Hv h5,hs,decide_eq_true (Decidable.not_not.1 h6)];rfl
 ·refine O3 ?_;intros;refine As [2] [] ?_;refine Ds 0 1 3 4 ?_;refine dN 2 ?_;refine oC ?_;refine Cb (Wl n.down _ _ _ FJ fun q hq=>(Db (e3 q hq)).1) fun _ _=>?_;refine dk ?_;refine dN 5 ?_;refine oC ?_;refine Cb (Wl n.up _ _ _ FJ fun q hq=>(Db (e4 q hq)).1) fun _ _=>?_;refine dk ?_;refine Ds 6 7 8 9 ?_;refine dd ?_;have hst:Aad n=decide (((qd n.down:Nat):Int)+((qd n.up:Nat):Int)=0):=by
   by_cases h0:Y4 n=0
   ·rw [Aq5 h0 fun j hj hl=>hal ((j:Nat):Int) (by rw [List.take_of_length_le FJ];exact Bba hj hl)];exact (decide_eq_true KJ).symm
   ·rw [Bcj h0];exact (decide_eq_false KJ).symm
  rw [←hst];refine go ?_;refine ret () trivial ?_;unfold Gw;rw [g];rfl
end Go.Proofs.YtkblpelckhegbaaGreatDoor
