/- Part 9 of the proof: 23 texts, one behind the other. -/
import Derived.MapKept
import Derived.WideMake
import Derived.Test.YtcmighgaiacgoaaGreatDoorM8
open _root_.Go.Proofs.Tryz
set_option maxRecDepth 100000
set_option maxHeartbeats 8000000
set_option linter.all false
set_option linter.unusedVariables false
set_option linter.unusedSimpArgs false
namespace Go.Proofs.YtcmighgaiacgoaaGreatDoor
theorem AI{p:Prop}(h:p:=by refine dk ?_;refine dN 8 ?_;refine Ps (Zn ⟨p.Ae,x.Ai+3⟩) Jj fun a8 c8 F8=>?_;refine dk ?_;refine dN 13 ?_;refine Pf (ys:=x.holds.drop (Gt x.Aa.Ap x.holds p.Ae)) Jj Lc (h63:=by simp;omega) (hby:=by simp;omega) fun a9 c9 F9=>?_;refine dk ?_;refine dt 14 ?_;refine dN 15 ?_;refine oS ?_;refine dk ?_;refine dd ?_;refine go ?_;rw [hAdd];refine Br (⟨a9,c9,F9⟩:Bdn) trivial):p:=h
theorem AP{p:Prop}(h:p:=by rw [Rv,hK];refine go ?_;refine ret G trivial ?_;rw [Rr];rfl):p:=h
theorem AS{p:Prop}(h:p:=by refine Cg (k+1,_) hk (by show xs.length - (k+1) < xs.length - k;omega)):p:=h
theorem BJ{p:Prop}(h:p:=by refine Cg (k+1,F6) hk (by show xs.length - (k+1) < xs.length - k;omega)):p:=h
theorem BM{p:Prop}(h:p:=by rw [e1];refine go ?_;refine A1 rfl (fun h=>absurd h (by omega)) (fun _=>?_);refine go ?_;rw [show n - xs.length - ((I1 wf xs k:Nat):Int) - (wf xs[k]:Int)=n - xs.length - ((I1 wf xs (k+1):Nat):Int) by omega];refine Cg (k+1) ⟨hk,by omega⟩ (by show xs.length - (k+1) < xs.length - k;omega)):p:=h
theorem BN{p:Prop}(h:p:=by refine dk ?_;refine dN 7 ?_;refine oC ?_;refine Ca (Ady R (Ns (k+1)) _ Gi hgr (by omega) (by omega) (by have:=hgr.k1;omega)) fun s _=>?_;refine dk ?_;refine Dq 8 9 10 11 ?_;refine dN 13 ?_;refine oS ?_;refine dk ?_;refine Ec 14 15 ?_;refine dd ?_;refine Br (⟨_,s⟩:Nat × TkR) trivial):p:=h
theorem BR{p:Prop}(h:p:=by refine dk ?_;refine dN 8 ?_;refine oC ?_;refine Ca (Adx n.Ac[i] p (Ns i) _ Gi hgr hp d0 d1_) fun s _=>?_;refine dk ?_;refine Ec 9 10 ?_;refine dt 11 ?_;refine dN 13 ?_;refine oS ?_;refine dk ?_;refine dt 14 ?_;refine dd ?_;refine Br (⟨_,s⟩:Nat × NwS) trivial):p:=h
theorem BV{p:Prop}(h:p:=by refine dk ?_;refine dN 6 ?_;refine oS ?_;refine dk ?_;refine dd ?_;refine go ?_;refine Br (⟨_,z.a,z.c,z.a2,z.c2,z.F⟩:RjS) trivial):p:=h
theorem CK{p:Prop}(h:p:=by refine dk ?_;refine dt 6 ?_;refine dd ?_;refine go ?_;refine Le (xs:=[S0 x.Aa]) (Dc _ (by show (⟨#[]⟩:ByteArray).size≤maxLen;decide)) ?_ (by simp);refine ret ⟨s.a,s.c,s.a2,s.c2,s.F,_,_,_⟩ trivial rfl):p:=h
theorem CR{p:Prop}(h:p:=by refine dk ?_;refine dN 11 ?_;refine oC ?_;refine Ca (hW _ F8) fun s _=>?_;refine dk ?_;refine dt 12 ?_;refine dN 14 ?_;refine oS ?_;refine dk ?_;refine dd ?_;refine Br (⟨_,b1,d1,G1,s⟩:OwN) trivial):p:=h
theorem FD{p:Prop}(h:p:=by refine dN 13 ?_;refine oS ?_;refine dk ?_;refine dt 14 ?_;refine dd ?_;refine Br (⟨_,b3,d3,Fe,s.a,s.c,s.G⟩:JE) trivial):p:=h
theorem GY{p:Prop}(h:p:=by unfold Ke at hl1;omega):p:=h
theorem HI{p:Prop}(h:p:=by show x.1.Ao.Ad.length - (j+1) < x.1.Ao.Ad.length - j;omega):p:=h
theorem IN{p:Prop}(h:p:=by rw [List.length_replicate];exact hl2):p:=h
theorem JH{p:Prop}(h:p:=by simp [MapKept.IsKey]):p:=h
theorem KC{p:Prop}(h:p:=by simpa using ev.symm):p:=h
theorem KH{p:Prop}(h:p:=by simpa using e9):p:=h
theorem KJ{p:Prop}(h:p:=by unfold Yv at h0;omega):p:=h
end Go.Proofs.YtcmighgaiacgoaaGreatDoor
namespace Go.Proofs.YtcmighgaiacgoaaGreatDoor
open Go.RowKit
def U8 {α:Type} (z:α) (l:List α) (k:Nat):List α:=l.take k++List.replicate (l.length - k) z
theorem Ab6 {α:Type} (z:α) {l:List α} {k:Nat} (h:k≤l.length):(U8 z l k).length=l.length:=by unfold U8;simp;omega
theorem Am2 {α:Type} (z:α) (l:List α):List.replicate l.length z=U8 z l 0:=by unfold U8;simp
theorem Ab5 {α:Type} (z:α) (l:List α):U8 z l l.length=l:=by unfold U8;simp
theorem Ab7 {α:Type} (z:α) {l:List α} {k:Nat} (h:k < l.length):(U8 z l k).set k l[k]=U8 z l (k+1):=by
 unfold U8;have e:List.replicate (l.length - k) z=z::List.replicate (l.length - (k+1)) z:=HU
 have hl:(l.take k).length=k:=FY
 exact EF
theorem An4 {c:Cx} {fr:Fr} {H:List Pc} {Φ:Gl} {α:Type} {E:Bn α} {t g:Nat} {cs:List Value} {xs:List α} {S:List Pc} (hfl:∀w,Cy E w cs xs []) (h:T c fr (.ow E t (.slice (some ⟨g,0,none⟩) xs.length xs.length) xs [g]::S) Φ) (hl:xs.length≤1048576) (hp:Cn H (.row g t 0 [] cs []) S:=by exact Da):T c fr H Φ:=.mk fun a w s g'=>by
 exact BO
theorem Rx {α:Type} {O:Bn α} {t:TypeId} {P:Program} {f:FuncId} {args:List Value} {xs:List α} {A:List Pc} (h:Fn P f args A [] (fun (_:Value × List Nat)=>True) (fun z=>z.1) (fun z=>[.ow O t z.1 xs z.2])) (hA:A.all (fun p=>!p.mu)=true) {w:World} (hH:Od A w):Calls P f args.toArray w (Nd O t xs w):=by
 refine (h.made w hH (fun _=>rfl) hA).mono ?_;rintro e w' ⟨z, -,he,hh,hn,hF,hB⟩;obtain ⟨h1,h2⟩:=hh (.ow O t z.1 xs z.2) FI;exact ⟨z.1,z.2,he,h2,h1,fun b hb=>hF b KX,hB⟩
theorem Bjq {α:Type} {f:α→Nat} {xs:List α} {N:Nat} (h:Ke f xs≤N) (k:Nat) (hk:k < xs.length):f xs[k]≤N:=by
 have:=Rg f xs k hk;have:=Xm f xs (k+1);omega
section
variable {c:Cx} {fr:Fr} {H:List Pc} {Φ:Gl}
theorem Aul {α:Type} {E:Bn α} {a:Option Addr} {n cp:Nat} {xs:List α} {F:List Nat} (i:Nat) (hi:i < xs.length) (h:∀(b o:Nat) (cs:List Value) (G:List Nat),a=some ⟨b,o,none⟩→cs.length=E.sz→T c fr (.cel b (o+i * E.sz) cs::.isv E (.agg cs.toArray) xs[i] G::H) Φ) (hm:.sl E (.slice a n cp) xs F∈H:=by exact A9):T c fr H Φ:=.mk fun ac w s g=>by
 obtain ⟨b,o,cs,G,ha,hrep,hG,hb,hne,hr⟩:=Yz (s.get hm) i hi;have t1:=s.ro (p:=.isv E (.agg cs.toArray) xs[i] G) hm rfl rfl ⟨cs,rfl,hrep⟩ HF;exact (h b o cs G ha (E.len hrep)).h ac w (t1.ro (List.mem_cons_of_mem _ hm) rfl rfl ⟨hne,hr⟩ HC) g
theorem Bg2 {α:Type} {E:Bn α} {t:TypeId} {z:α} {xs:List α} {g:Nat} {F:List Nat} {k:List It} {x:Code} {rest:List Pc} {cst:Fr} (ks:List Nat) (d:Nat)
  (round:∀i G,i≤xs.length→T c ([(d,.int .i64 (i:Nat))]++cst) ([.ow E t (.slice (some ⟨g,0,none⟩) xs.length xs.length) (U8 z xs i) G]++rest) (.code (.lp (LpN c (fun s:Nat × List Nat=>[(d,.int .i64 (s.1:Nat))]++cst) (fun s=>[.ow E t (.slice (some ⟨g,0,none⟩) xs.length xs.length) (U8 z xs s.1) s.2]++rest) (fun s=>s.1≤xs.length) (fun s=>xs.length - s.1) (xs.length - i))::k) x))
  (hp:Ih H [.ow E t (.slice (some ⟨g,0,none⟩) xs.length xs.length) (U8 z xs 0) F] rest:=by exact Abg) (hk:Kf fr ks cst:=by repeat (first|exact Kf.nil|apply Kf.cons GE)) (hf:Mm fr [(d,.int .i64 ((0:Nat):Int))]:=by exact frE):T c fr H (.code k (Code.loop x)) :=
 Cd ks (fun s:Nat × List Nat=>[(d,.int .i64 (s.1:Nat))]) (fun s=>[.ow E t (.slice (some ⟨g,0,none⟩) xs.length xs.length) (U8 z xs s.1) s.2]) (fun s=>s.1≤xs.length) (fun s=>xs.length - s.1) (0,F) (Nat.zero_le _) (fun s hs=>round s.1 s.2 hs) hk hf hp
end
theorem Ag7 {p:Prop} (h:p:=by
 refine enter hfn rfl hnt fun w0=>?_;refine Xi (xs:=xs) ?_;rintro a c rfl h1 h2;refine go ?_;apply wO;refine Axx xs.length rfl rfl rfl (by exact Ah6 _ _) FH FH fun g=>?_;refine An4 (fun w=>Cy.rep0 (hrep w) _) ?_ IN;rw [List.length_replicate,Am2];refine go ?_;refine Bg2 (xs:=xs) [0,3] 4 fun k G hz0=>?_;have hfl:=Ab6 z0 hz0;refine go ?_;refine A1 rfl (fun h3=>?_) (fun h3=>?_)
 ·have hk:k < xs.length:=FH
  refine Aul (xs:=xs) k hk ?_;rintro b o cs G1 rfl hcl;refine go ?_;apply wO;apply oc;rfl;exact Ada rfl FL (hcl▸Cut.whole cs);refine go ?_;refine cv (fun w st=>hto _ xs[k] G1 w (st.get (p:=.isv _ _ _ _) FL) (Bjq hl1 k hk)) fun y K=>?_;refine Aty hone (x:=xs[k]) (F:=K) ?_;rintro cs2 rfl hl3 ho2;refine Wu (xs:=U8 z0 xs k) k ?_ rfl FH;rintro _ g2 A cs3 B k1 k2 H1 Hi H2 e2 - hc hH;cases e2;refine Aty hone (x:=(U8 z0 xs k)[k]) (F:=Hi) ?_;rintro cs4 e4 hl4 -;obtain rfl:cs3=cs4:=by simpa using e4
  refine go ?_;apply wO;refine Axy rfl rfl rfl (by first|exact AggC.s|exact OneC.s) hl3 (by exact Akd) (Put.all FH) ho2 ?_;refine Sw xs[k] hH rfl fun F6=>?_;rw [Ab7 _ hk];refine go ?_;exact BJ
 ·rw [show k=xs.length by omega,Ab5];refine go ?_;refine ret (_,_) trivial rfl):p:=h
theorem Arj (v:Value) (xs:List Int) (F:List Nat) (w:World) (h:Sl Bb w v xs F) (hl1:Ke (fun _=>0) xs≤1048576):Calls prog 80 #[v] w (Nd Bb 3 xs w):=by
 have hl2:xs.length≤1048576:=GY
 refine Rx (A:=[.sl Bb v xs F]) ?_ rfl (El ⟨FK,h⟩);clear h w;refine enter func80 rfl ntmps80 fun w0=>?_;refine Xi (E:=Bb) (xs:=xs) ?_;rintro a c rfl h1 h2;refine go ?_;apply wO;refine Axx xs.length (cs:=(List.replicate xs.length ([.int .i64 0]:List Value)).flatten) rfl rfl rfl (Ah6 _ _) FH FH fun g=>?_;refine An4 (E:=Bb) (xs:=List.replicate xs.length 0) (fun w=>Cy.rep0 (E:=Bb) (w:=w) (zs:=[.int .i64 0]) (z:=0) ⟨rfl,rfl⟩ _) ?_ IN;rw [List.length_replicate,Am2];refine go ?_
 refine Cd [0,3] (fun z:Nat × List Nat=>[(4,.int .i64 (z.1:Nat))]) (fun z=>[.ow Bb 3 (.slice (some ⟨g,0,none⟩) xs.length xs.length) (U8 0 xs z.1) z.2]) (fun z=>z.1≤xs.length) (fun z=>xs.length - z.1) (0,_) (Nat.zero_le _) fun z hz0=>?_;obtain ⟨k,G⟩:=z;dsimp only at hz0 ⊢;have hfl:=Ab6 0 hz0;refine go ?_;refine A1 rfl (fun h3=>?_) (fun h3=>?_)
 ·have hk:k < xs.length:=FH
  refine I6 (xs:=xs) k ?_;rintro hi b o e;rw [e];refine Pv (xs:=U8 0 xs k) (m:=1) D5 k ?_ FM rfl FH;rintro _ g2 A cs B e1 e2 hc hH;cases e1;obtain ⟨rfl, -⟩:=hc w0;refine go ?_;refine O5 xs[k] hH (fun w=>⟨rfl,rfl⟩) ?_;rw [Ab7 _ hk];refine go ?_;exact AS
 ·rw [show k=xs.length by omega,Ab5];refine go ?_;exact AX
theorem Arm (v:Value) (xs:List ByteArray) (F:List Nat) (w:World) (h:Sl A8 w v xs F) (hl1:Ke ByteArray.size xs≤1048576):Calls prog 157 #[v] w (Nd A8 9 xs w):=by
 have hl2:xs.length≤1048576:=GY
 refine Rx (A:=[.sl A8 v xs F]) ?_ rfl (El ⟨FK,h⟩);clear h w;refine enter func157 rfl ntmps157 fun w0=>?_;refine Xi (E:=A8) (xs:=xs) ?_;rintro a c rfl h1 h2;refine go ?_;apply wO;refine Axx xs.length (cs:=(List.replicate xs.length ([.string ⟨#[]⟩]:List Value)).flatten) rfl rfl rfl (Ah6 _ _) FH FH fun g=>?_;refine An4 (E:=A8) (xs:=List.replicate xs.length (⟨#[]⟩:ByteArray)) (fun w=>Cy.rep0 (E:=A8) (w:=w) (zs:=[.string ⟨#[]⟩]) (z:=(⟨#[]⟩:ByteArray)) ⟨rfl,Nat.zero_le _,rfl⟩ _) ?_ IN;rw [List.length_replicate,Am2];refine go ?_
 refine Cd [0,3] (fun z:Nat × List Nat=>[(4,.int .i64 (z.1:Nat))]) (fun z=>[.ow A8 9 (.slice (some ⟨g,0,none⟩) xs.length xs.length) (U8 (⟨#[]⟩:ByteArray) xs z.1) z.2]) (fun z=>z.1≤xs.length) (fun z=>xs.length - z.1) (0,_) (Nat.zero_le _) fun z hz0=>?_;obtain ⟨k,G⟩:=z;dsimp only at hz0 ⊢;have hfl:=Ab6 (⟨#[]⟩:ByteArray) hz0;refine go ?_;refine A1 rfl (fun h3=>?_) (fun h3=>?_)
 ·have hk:k < xs.length:=FH
  have hw:xs[k].size≤1048576:=by have:=Rg ByteArray.size xs k hk;have:=Xm ByteArray.size xs (k+1);omega
  refine Mx (xs:=xs) k ?_;rintro hi b o e sz;rw [e];refine Pv (xs:=U8 (⟨#[]⟩:ByteArray) xs k) (m:=1) Gz k ?_ FM rfl FH;rintro _ g2 A cs B e1 e2 hc hH;cases e1;obtain ⟨rfl, -⟩:=hc w0;refine go ?_;refine O5 xs[k] hH (fun w=>⟨rfl,sz,rfl⟩) ?_;rw [Ab7 _ hk];refine go ?_;exact AS
 ·rw [show k=xs.length by omega,Ab5];refine go ?_;exact AX
theorem Ayu (v:Value) (xs:List Hx) (F:List Nat) (w:World) (h:Sl Bm w v xs F) (hl1:Ke (fun _=>0) xs≤1048576):Calls prog 82 #[v] w (Nd Bm 203 xs w):=by
 have hl2:xs.length≤1048576:=GY
 refine Rx (A:=[.sl Bm v xs F]) ?_ rfl (El ⟨FK,h⟩);clear h w;have hfn:=func82;have hnt:=ntmps82;have hto:=fun v x F w h (_:0≤1048576)=>Bcz v x F w h;have hone:X6 Bm:=Jj;obtain ⟨z0,hz0⟩:∃z:Hx,z=((⟨0,0⟩:Hx):Hx):=⟨_,rfl⟩;have hrep:∀w,Bm.Kn w [.int .i64 0,.int .i64 0] z0 []:=fun w=>hz0▸⟨rfl,rfl⟩;exact Ag7
theorem Ayv (v:Value) (xs:List Gb) (F:List Nat) (w:World) (h:Sl Bz w v xs F) (hl1:Ke Ro xs≤1048576):Calls prog 234 #[v] w (Nd Bz 272 xs w):=by
 have hl2:xs.length≤1048576:=GY
 refine Rx (A:=[.sl Bz v xs F]) ?_ rfl (El ⟨FK,h⟩);clear h w;have hfn:=func234;have hnt:=ntmps234;have hto:=Bc0;have hone:X6 Bz:=Iq;obtain ⟨z0,hz0⟩:∃z:Gb,z=((⟨false,⟨#[]⟩⟩:Gb):Gb):=⟨_,rfl⟩;have hrep:∀w,Bz.Kn w [.bool false,.string ⟨#[]⟩] z0 []:=fun w=>hz0▸⟨rfl,Nat.zero_le _,rfl⟩;exact Ag7
theorem Aob (v:Value) (xs:List Ax) (F:List Nat) (w:World) (h:Sl Av w v xs F) (hl1:Ke (fun _=>0) xs≤1048576):Calls prog 161 #[v] w (Nd Av 257 xs w):=by
 have hl2:xs.length≤1048576:=GY
 refine Rx (A:=[.sl Av v xs F]) ?_ rfl (El ⟨FK,h⟩);clear h w;have hfn:=func161;have hnt:=ntmps161;have hto:=fun v x F w h (_:0≤1048576)=>Arl v x F w h;have hone:X6 Av:=C0;obtain ⟨z0,hz0⟩:∃z:Ax,z=((⟨0,0,0,0⟩:Ax):Ax):=⟨_,rfl⟩;have hrep:∀w,Av.Kn w [.int .i64 0,.int .i64 0,.int .i64 0,.int .i64 0] z0 []:=fun w=>hz0▸⟨rfl,rfl⟩;exact Ag7
theorem Ark (v:Value) (xs:List Ar) (F:List Nat) (w:World) (h:Sl Ak w v xs F) (hl1:Ke Eg xs≤1048576):Calls prog 85 #[v] w (Nd Ak 233 xs w):=by
 have hl2:xs.length≤1048576:=GY
 refine Rx (A:=[.sl Ak v xs F]) ?_ rfl (El ⟨FK,h⟩);clear h w;have hfn:=func85;have hnt:=ntmps85;have hto:=At5;have hone:X6 Ak:=Hg;obtain ⟨z0,hz0⟩:∃z:Ar,z=((⟨0,0,0,0,⟨#[]⟩⟩:Ar):Ar):=⟨_,rfl⟩;have hrep:∀w,Ak.Kn w [.int .i64 0,.int .i64 0,.int .i64 0,.int .i64 0,.string ⟨#[]⟩] z0 []:=fun w=>hz0▸⟨rfl,Nat.zero_le _,rfl⟩;exact Ag7
theorem Bc1 (v:Value) (x:Qe) (F:List Nat) (w:World) (h:Jz P0 w v x F) (hl:N4 x≤1048576):Calls prog 39 #[v] w (Wm Aex x w):=by
 unfold N4 at hl;refine Ry (A:=[.isv P0 v x F]) ?_ rfl (El h);clear h w;refine enter func39 rfl ntmps39 fun w0=>?_;refine Om ?_;rintro a1 c1 F1 rfl -;refine go ?_;intros;refine cn (fun w st=>Arj _ x.Ad F1 w (st.get (p:=.sl _ _ _ _) FL).2 FH) fun b1 d1 G1=>?_;refine go ?_;refine Aaw x ?_;exact AX
theorem Ajh (v:Value) (x:Aw) (F:List Nat) (w:World) (h:Jz Bw w v x F) (hl:Jr x≤1048576):Calls prog 81 #[v] w (Wm Km x w):=by
 unfold Jr at hl;refine Ry (A:=[.isv Bw v x F]) ?_ rfl (El h);clear h w;refine enter func81 rfl ntmps81 fun w0=>?_;refine Ez ?_;rintro a1 c1 F1 rfl -;refine go ?_;intros;refine cn (fun w st=>Arm _ x.An F1 w (st.get (p:=.sl _ _ _ _) FL).2 FH) fun b1 d1 G1=>?_;refine go ?_;refine Q7 x ?_;exact AX
theorem At6 (v:Value) (x:Cj) (F:List Nat) (w:World) (h:Jz Dp w v x F) (hl:Kg x≤1048576):Calls prog 40 #[v] w (Wm S8 x w):=by
 unfold Kg at hl;refine Ry (A:=[.isv Dp v x F]) ?_ rfl (El h);clear h w;refine enter func40 rfl ntmps40 fun w0=>?_;refine H3 ?_;rintro a1 c1 F1 a2 c2 F2 rfl - -;refine C3 x.Aa (a1:=a1) ?_;refine go ?_;intros;refine cv (fun w st=>Ajh _ x.Aa (F1) w (st.get (p:=.isv _ _ _ _) FL) FH) fun y K=>?_;refine Hl (v:=y) (x:=x.Aa) (F:=K) ?_;rintro b1 d1 G1 e1 -;rw [e1];refine go ?_;refine cn (fun w st=>Ayu _ x.holds F2 w (st.get (p:=.sl _ _ _ _) FL).2 FH) fun b2 d2 G2=>?_;refine go ?_;refine Td x ?_;exact AX
theorem Ayt (v:Value) (x:Gj) (F:List Nat) (w:World) (h:Jz Ds w v x F) (hl:Mv x≤1048576):Calls prog 233 #[v] w (Wm Dz x w):=by
 unfold Mv at hl;refine Ry (A:=[.isv Ds v x F]) ?_ rfl (El h);clear h w;refine enter func233 rfl ntmps233 fun w0=>?_;refine T0 ?_;rintro a1 c1 F1 rfl -;refine go ?_;intros;refine cn (fun w st=>Arj _ x.Bj F1 w (st.get (p:=.sl _ _ _ _) FL).2 FH) fun b1 d1 G1=>?_;refine go ?_;refine M6 x ?_;exact AX
theorem At4 (v:Value) (xs:List Gj) (F:List Nat) (w:World) (h:Sl Ds w v xs F) (hl1:Ke Mv xs≤1048576):Calls prog 159 #[v] w (Nd Dz 253 xs w):=by
 have hl2:xs.length≤1048576:=GY
 refine Rx (A:=[.sl Ds v xs F]) ?_ rfl (El ⟨FK,h⟩);clear h w;have hfn:=func159;have hnt:=ntmps159;have hto:=Ayt;have hone:X6 Dz:=Re;obtain ⟨z0,hz0⟩:∃z:Gj,z=((⟨0,[],0⟩:Gj):Gj):=⟨_,rfl⟩;have hrep:∀w,Dz.Kn w [.int .i64 0,.slice none 0 0,.int .i64 0] z0 []:=fun w=>hz0▸⟨_,rfl,.inl ⟨rfl,rfl,rfl⟩⟩;exact Ag7
theorem Ari (v:Value) (x:Bf) (F:List Nat) (w:World) (h:Jz Bk w v x F) (hl:E5 x≤1048576):Calls prog 83 #[v] w (Wm B4 x w):=by
 unfold E5 at hl;refine Ry (A:=[.isv Bk v x F]) ?_ rfl (El h);clear h w;refine enter func83 rfl ntmps83 fun w0=>?_;refine Fh ?_;rintro a1 c1 F1 rfl -;refine go ?_;intros;refine cn (fun w st=>At4 _ x.Ah F1 w (st.get (p:=.sl _ _ _ _) FL).2 FH) fun b1 d1 G1=>?_;refine go ?_;refine E6 x ?_;exact AX
theorem An9 (v:Value) (xs:List Bf) (F:List Nat) (w:World) (h:Sl Bk w v xs F) (hl1:Ke E5 xs≤1048576):Calls prog 41 #[v] w (Nd B4 149 xs w):=by
 have hl2:xs.length≤1048576:=GY
 refine Rx (A:=[.sl Bk v xs F]) ?_ rfl (El ⟨FK,h⟩);clear h w;have hfn:=func41;have hnt:=ntmps41;have hto:=Ari;have hone:X6 B4:=Qq;obtain ⟨z0,hz0⟩:∃z:Bf,z=((⟨0,[]⟩:Bf):Bf):=⟨_,rfl⟩;have hrep:∀w,B4.Kn w [.int .i64 0,.slice none 0 0] z0 []:=fun w=>hz0▸⟨_,rfl,.inl ⟨rfl,rfl,rfl⟩⟩;exact Ag7
theorem Ac4 (v:Value) (x:Aj) (F:List Nat) (w:World) (h:Jz Bg w v x F) (hl:Ig x≤1048576):Calls prog 160 #[v] w (Wm Mw x w):=by
 unfold Ig at hl;refine Ry (A:=[.isv Bg v x F]) ?_ rfl (El h);clear h w;refine enter func160 rfl ntmps160 fun w0=>?_;refine B9 ?_;rintro a1 c1 F1 rfl -;refine go ?_;intros;refine cn (fun w st=>Ayv _ x.Al F1 w (st.get (p:=.sl _ _ _ _) FL).2 FH) fun b1 d1 G1=>?_;refine go ?_;refine Zy x ?_;exact AX
theorem Aoa (v:Value) (x:Ay) (F:List Nat) (w:World) (h:Jz Bi w v x F) (hl:Fv x≤1048576):Calls prog 84 #[v] w (Wm Bx x w):=by
 unfold Fv at hl;refine Ry (A:=[.isv Bi v x F]) ?_ rfl (El h);clear h w;refine enter func84 rfl ntmps84 fun w0=>?_;refine En ?_;rintro a1 c1 F1 a2 c2 F2 rfl - -;refine By x.Aa (a1:=a1) ?_;refine go ?_;intros;refine cv (fun w st=>Ac4 _ x.Aa (F1) w (st.get (p:=.isv _ _ _ _) FL) FH) fun y K=>?_;refine Abf (v:=y) (x:=x.Aa) (F:=K) ?_;rintro b1 d1 G1 e1 -;rw [e1];refine go ?_;refine cn (fun w st=>Aob _ x.Am F2 w (st.get (p:=.sl _ _ _ _) FL).2 FH) fun b2 d2 G2=>?_;refine go ?_;refine Iz x ?_;exact AX
theorem Aki (v:Value) (xs:List Ay) (F:List Nat) (w:World) (h:Sl Bi w v xs F) (hl1:Ke Fv xs≤1048576):Calls prog 42 #[v] w (Nd Bx 156 xs w):=by
 have hl2:xs.length≤1048576:=GY
 refine Rx (A:=[.sl Bi v xs F]) ?_ rfl (El ⟨FK,h⟩);clear h w;have hfn:=func42;have hnt:=ntmps42;have hto:=Aoa;have hone:X6 Bx:=Pj;obtain ⟨z0,hz0⟩:∃z:Ay,z=((⟨false,0,(⟨0,[]⟩:Aj),[]⟩:Ay):Ay):=⟨_,rfl⟩;have hrep:∀w,Bx.Kn w [.bool false,.int .i64 0,.int .i64 0,.slice none 0 0,.slice none 0 0] z0 []:=fun w=>hz0▸⟨_,_,[],[],rfl,.inl ⟨rfl,rfl,rfl⟩,.inl ⟨rfl,rfl,rfl⟩,rfl⟩;exact Ag7
theorem Ac3 (v:Value) (xs:List (List Ar)) (F:List Nat) (w:World) (h:Sl (Ml Ak FK) w v xs F) (hl1:Ke (Ke Eg) xs≤1048576):Calls prog 43 #[v] w (Nd (Ko Ak 233) 158 xs w):=by
 have hl2:xs.length≤1048576:=GY
 refine Rx (A:=[.sl (Ml Ak FK) v xs F]) ?_ rfl (El ⟨FK,h⟩);clear h w;refine enter func43 rfl ntmps43 fun w0=>?_;refine Xi (E:=(Ml Ak FK)) (xs:=xs) ?_;rintro a c rfl h1 h2;refine go ?_;apply wO;refine Axx xs.length (cs:=(List.replicate xs.length ([.slice none 0 0]:List Value)).flatten) rfl rfl rfl (Ah6 _ _) FH FH fun g=>?_;refine An4 (E:=(Ko Ak 233)) (xs:=List.replicate xs.length ([]:List Ar)) (fun w=>Cy.rep0 (E:=(Ko Ak 233)) (w:=w) (zs:=[.slice none 0 0]) (z:=([]:List Ar)) ⟨_,rfl,.inl ⟨rfl,rfl,rfl⟩⟩ _) ?_ IN
 rw [List.length_replicate,Am2];refine go ?_;refine Cd [0,3] (fun z:Nat × List Nat=>[(4,.int .i64 (z.1:Nat))]) (fun z=>[.ow (Ko Ak 233) 158 (.slice (some ⟨g,0,none⟩) xs.length xs.length) (U8 ([]:List Ar) xs z.1) z.2]) (fun z=>z.1≤xs.length) (fun z=>xs.length - z.1) (0,_) (Nat.zero_le _) fun z hz0=>?_;obtain ⟨k,G⟩:=z;dsimp only at hz0 ⊢;have hfl:=Ab6 ([]:List Ar) hz0;refine go ?_;refine A1 rfl (fun h3=>?_) (fun h3=>?_)
 ·have hk:k < xs.length:=FH
  have hw:Ke Eg xs[k]≤1048576:=by have:=Rg ((Ke Eg)) xs k hk;have:=Xm ((Ke Eg)) xs (k+1);omega
  refine Nz (E:=Ak) (hz:=FK) (xs:=xs) k ?_;rintro hi b o a1 c1 F1 e l1;rw [e];refine go ?_;refine cn (fun w st=>Ark _ xs[k] F1 w (st.get (p:=.sl _ _ _ _) FL).2 hw) fun b1 d1 G1=>?_;refine Wu (xs:=U8 ([]:List Ar) xs k) (m:=1) k ?_ rfl FH;rintro _ g2 A cs B k1 k2 H1 Hi H2 e2 - hc hH;cases e2;refine U0 ?_;rintro a5 c5 ev l5;obtain rfl:=Uq ev;refine go ?_;refine Jt xs[k] ?_;refine Sw _ hH rfl fun F6=>?_;rw [Ab7 _ hk];refine go ?_;exact BJ
 ·rw [show k=xs.length by omega,Ab5];refine go ?_;exact AX
theorem Bfx (v:Value) (x:Dv) (F:List Nat) (w:World) (h:Jz Ny w v x F) (hl:Y9 x≤1048576):Calls prog 18 #[v] w (Wm Zx x w):=by
 unfold Y9 at hl;refine Ry (A:=[.isv Ny v x F]) ?_ rfl (El h);clear h w;refine enter func18 rfl ntmps18 fun w0=>?_;refine Ho ?_;rintro a1 c1 F1 a2 c2 F2 a3 c3 F3 a4 c4 F4 a5 c5 F5 a6 c6 F6 a7 c7 F7 rfl - - - - - - -;refine I3 x.Ao (a1:=a1) ?_;refine Hf x.Ab (a1:=a2) (a2:=a3) ?_;refine go ?_;intros;refine cv (fun w st=>Bc1 _ x.Ao (F1) w (st.get (p:=.isv _ _ _ _) FL) FH) fun y K=>?_;refine Aee (v:=y) (x:=x.Ao) (F:=K) ?_;rintro b1 d1 G1 e1 -;rw [e1];refine go ?_;refine cv (fun w st=>At6 _ x.Ab (F2++F3) w (st.get (p:=.isv _ _ _ _) FL) FH) fun y K=>?_
 refine Qb (v:=y) (x:=x.Ab) (F:=K) ?_;rintro b2 d2 G2 b3 d3 G3 e1 - -;rw [e1];refine go ?_;refine cn (fun w st=>An9 _ x.Af F4 w (st.get (p:=.sl _ _ _ _) FL).2 FH) fun b4 d4 G4=>?_;refine go ?_;refine cn (fun w st=>Aki _ x.Ac F5 w (st.get (p:=.sl _ _ _ _) FL).2 FH) fun b5 d5 G5=>?_;refine go ?_;refine cn (fun w st=>Ac3 _ x.down F6 w (st.get (p:=.sl _ _ _ _) FL).2 FH) fun b6 d6 G6=>?_;refine go ?_;refine cn (fun w st=>Ac3 _ x.up F7 w (st.get (p:=.sl _ _ _ _) FL).2 FH) fun b7 d7 G7=>?_;refine go ?_;refine P2 x ?_
 exact AX
theorem E7 {P:Program} {f:FuncId} {args:List Value} {A:List Pc} {v:Value} (h:Fn P f args A [] (fun (_:Unit)=>True) (fun _=>v) (fun _=>[])) (hA:A.all (fun p=>!p.mu)=true) {w:World} (hH:Od A w):Calls P f args.toArray w (RB v w):=h.val w hH hA
theorem Ag6 {p:Prop} (h:p:=by
 refine enter hfn rfl hnt fun w0=>?_;refine Xi (v:=va) (xs:=xs) (F:=Fa) ?_;rintro a c rfl h1 h2;refine Xi (v:=vb) (xs:=xs) (F:=Fb) ?_;rintro a' c' rfl h1' h2';refine go ?_;refine A1 rfl (fun h=>absurd rfl h) (fun _=>?_);refine go ?_;refine Eh [0,1] (fun k:Nat=>[(5,.int .i64 (k:Nat))]) (fun k=>k≤xs.length) (fun k=>xs.length - k) 0 (Nat.zero_le _) fun k hk0=>?_;refine go ?_;refine A1 rfl (fun h3=>?_) (fun h3=>?_)
 ·have hk:k < xs.length:=FH
  refine Aul (a:=a) (F:=Fa) (xs:=xs) k hk ?_;rintro b o cs G1 ea hcl;refine Aul (a:=a') (F:=Fb) (xs:=xs) k hk ?_;rintro b' o' cs' G2 eb hcl';subst ea eb;refine go ?_;refine Ahc [] ?_;refine Ec 0 1 ?_;refine dt 2 ?_;refine dt 3 ?_ (hy:=by exact Ada rfl FL (hcl▸Cut.whole cs));refine Ec 4 5 ?_;refine dt 6 ?_;refine dt 7 ?_ (hy:=by exact Ada rfl FL (hcl'▸Cut.whole cs'));refine dN 8 ?_;refine oC ?_;refine cb (fun w st=>heq _ _ xs[k] G1 G2 w (st.get (p:=.isv _ _ _ _) FL) (st.get (p:=.isv _ _ _ _) FL)) ?_;refine dk ?_;refine dt 9 ?_;refine dd ?_
  refine go ?_;refine Cg (k+1) hk (by show xs.length - (k+1) < xs.length - k;omega)
 ·refine go ?_;refine ret () trivial rfl):p:=h
theorem Av9 (va vb:Value) (xs:List Hx) (Fa Fb:List Nat) (w:World) (ha:Sl Bm w va xs Fa) (hb:Sl Bm w vb xs Fb):Calls prog 114 #[va,vb] w (RB (.bool true) w):=by
 refine E7 (A:=[.sl Bm va xs Fa,.sl Bm vb xs Fb]) ?_ rfl (Nn ⟨FK,ha⟩ ⟨FK,hb⟩);clear ha hb w;have hfn:=func114;have hnt:=ntmps114;have heq:=Az5;exact Ag6
theorem Awa (va vb:Value) (xs:List Gb) (Fa Fb:List Nat) (w:World) (ha:Sl Bz w va xs Fa) (hb:Sl Bz w vb xs Fb):Calls prog 281 #[va,vb] w (RB (.bool true) w):=by
 refine E7 (A:=[.sl Bz va xs Fa,.sl Bz vb xs Fb]) ?_ rfl (Nn ⟨FK,ha⟩ ⟨FK,hb⟩);clear ha hb w;have hfn:=func281;have hnt:=ntmps281;have heq:=Az6;exact Ag6
theorem Am1 (va vb:Value) (xs:List Ax) (Fa Fb:List Nat) (w:World) (ha:Sl Av w va xs Fa) (hb:Sl Av w vb xs Fb):Calls prog 211 #[va,vb] w (RB (.bool true) w):=by
 refine E7 (A:=[.sl Av va xs Fa,.sl Av vb xs Fb]) ?_ rfl (Nn ⟨FK,ha⟩ ⟨FK,hb⟩);clear ha hb w;have hfn:=func211;have hnt:=ntmps211;have heq:=Apb;exact Ag6
theorem Apa (va vb:Value) (xs:List Ar) (Fa Fb:List Nat) (w:World) (ha:Sl Ak w va xs Fa) (hb:Sl Ak w vb xs Fb):Calls prog 117 #[va,vb] w (RB (.bool true) w):=by
 refine E7 (A:=[.sl Ak va xs Fa,.sl Ak vb xs Fb]) ?_ rfl (Nn ⟨FK,ha⟩ ⟨FK,hb⟩);clear ha hb w;have hfn:=func117;have hnt:=ntmps117;have heq:=Asj;exact Ag6
theorem Az7 (va vb:Value) (x:Qe) (Fa Fb:List Nat) (w:World) (ha:Jz P0 w va x Fa) (hb:Jz P0 w vb x Fb):Calls prog 51 #[va,vb] w (RB (.bool true) w):=by
 refine E7 (A:=[.isv P0 va x Fa,.isv P0 vb x Fb]) ?_ rfl (Nn ha hb);clear ha hb w;refine enter func51 rfl ntmps51 fun w0=>?_;refine Om (v:=va) (x:=x) (F:=Fa) ?_;rintro a1 c1 F1 rfl -;refine Om (v:=vb) (x:=x) (F:=Fb) ?_;rintro b1 d1 G1 rfl -;refine go ?_;intros;refine cb (fun w st=>Ao9 _ _ x.Ad F1 G1 w (st.get (p:=.sl _ _ _ _) FL).2 (st.get (p:=.sl _ _ _ _) FL).2) ?_;exact AA
theorem Ahl (va vb:Value) (x:Aw) (Fa Fb:List Nat) (w:World) (ha:Jz Bw w va x Fa) (hb:Jz Bw w vb x Fb):Calls prog 113 #[va,vb] w (RB (.bool true) w):=by
 refine E7 (A:=[.isv Bw va x Fa,.isv Bw vb x Fb]) ?_ rfl (Nn ha hb);clear ha hb w;refine enter func113 rfl ntmps113 fun w0=>?_;refine Ez (v:=va) (x:=x) (F:=Fa) ?_;rintro a1 c1 F1 rfl -;refine Ez (v:=vb) (x:=x) (F:=Fb) ?_;rintro b1 d1 G1 rfl -;refine go ?_;intros;refine A1 rfl (fun h=>absurd rfl h) (fun _=>?_);refine go ?_;refine A1 rfl (fun h=>absurd rfl h) (fun _=>?_);refine go ?_;refine cb (fun w st=>Uv _ _ x.An F1 G1 w (st.get (p:=.sl _ _ _ _) FL).2 (st.get (p:=.sl _ _ _ _) FL).2) ?_;exact AA
theorem Ask (va vb:Value) (x:Cj) (Fa Fb:List Nat) (w:World) (ha:Jz Dp w va x Fa) (hb:Jz Dp w vb x Fb):Calls prog 52 #[va,vb] w (RB (.bool true) w):=by
 refine E7 (A:=[.isv Dp va x Fa,.isv Dp vb x Fb]) ?_ rfl (Nn ha hb);clear ha hb w;refine enter func52 rfl ntmps52 fun w0=>?_;refine H3 (v:=va) (x:=x) (F:=Fa) ?_;rintro a1 c1 F1 a2 c2 F2 rfl - -;refine H3 (v:=vb) (x:=x) (F:=Fb) ?_;rintro b1 d1 G1 b2 d2 G2 rfl - -;refine C3 x.Aa (a1:=a1) (F1:=F1) ?_;refine C3 x.Aa (a1:=b1) (F1:=G1) ?_;refine go ?_;intros;refine cb (fun w st=>Ahl _ _ x.Aa _ _ w (st.get (p:=.isv _ _ _ _) FL) (st.get (p:=.isv _ _ _ _) FL)) ?_;refine go ?_;refine A1 rfl (fun h=>absurd rfl h) (fun _=>?_);refine go ?_
 refine A1 rfl (fun h=>absurd rfl h) (fun _=>?_);refine go ?_;refine cb (fun w st=>Av9 _ _ x.holds F2 G2 w (st.get (p:=.sl _ _ _ _) FL).2 (st.get (p:=.sl _ _ _ _) FL).2) ?_;exact AA
theorem Av8 (va vb:Value) (x:Gj) (Fa Fb:List Nat) (w:World) (ha:Jz Ds w va x Fa) (hb:Jz Ds w vb x Fb):Calls prog 280 #[va,vb] w (RB (.bool true) w):=by
 refine E7 (A:=[.isv Ds va x Fa,.isv Ds vb x Fb]) ?_ rfl (Nn ha hb);clear ha hb w;refine enter func280 rfl ntmps280 fun w0=>?_;refine T0 (v:=va) (x:=x) (F:=Fa) ?_;rintro a1 c1 F1 rfl -;refine T0 (v:=vb) (x:=x) (F:=Fb) ?_;rintro b1 d1 G1 rfl -;refine go ?_;intros;refine A1 rfl (fun h=>absurd rfl h) (fun _=>?_);refine go ?_;refine cb (fun w st=>Ao9 _ _ x.Bj F1 G1 w (st.get (p:=.sl _ _ _ _) FL).2 (st.get (p:=.sl _ _ _ _) FL).2) ?_;refine go ?_;refine A1 rfl (fun h=>absurd rfl h) (fun _=>?_);exact AA
theorem Asi (va vb:Value) (xs:List Gj) (Fa Fb:List Nat) (w:World) (ha:Sl Ds w va xs Fa) (hb:Sl Ds w vb xs Fb):Calls prog 209 #[va,vb] w (RB (.bool true) w):=by
 refine E7 (A:=[.sl Ds va xs Fa,.sl Ds vb xs Fb]) ?_ rfl (Nn ⟨FK,ha⟩ ⟨FK,hb⟩);clear ha hb w;have hfn:=func209;have hnt:=ntmps209;have heq:=Av8;exact Ag6
theorem Ao8 (va vb:Value) (x:Bf) (Fa Fb:List Nat) (w:World) (ha:Jz Bk w va x Fa) (hb:Jz Bk w vb x Fb):Calls prog 115 #[va,vb] w (RB (.bool true) w):=by
 refine E7 (A:=[.isv Bk va x Fa,.isv Bk vb x Fb]) ?_ rfl (Nn ha hb);clear ha hb w;refine enter func115 rfl ntmps115 fun w0=>?_;refine Fh (v:=va) (x:=x) (F:=Fa) ?_;rintro a1 c1 F1 rfl -;refine Fh (v:=vb) (x:=x) (F:=Fb) ?_;rintro b1 d1 G1 rfl -;refine go ?_;intros;refine A1 rfl (fun h=>absurd rfl h) (fun _=>?_);refine go ?_;refine cb (fun w st=>Asi _ _ x.Ah F1 G1 w (st.get (p:=.sl _ _ _ _) FL).2 (st.get (p:=.sl _ _ _ _) FL).2) ?_;exact AA
theorem Amz (va vb:Value) (xs:List Bf) (Fa Fb:List Nat) (w:World) (ha:Sl Bk w va xs Fa) (hb:Sl Bk w vb xs Fb):Calls prog 53 #[va,vb] w (RB (.bool true) w):=by
 refine E7 (A:=[.sl Bk va xs Fa,.sl Bk vb xs Fb]) ?_ rfl (Nn ⟨FK,ha⟩ ⟨FK,hb⟩);clear ha hb w;have hfn:=func53;have hnt:=ntmps53;have heq:=Ao8;exact Ag6
theorem Ab1 (va vb:Value) (x:Aj) (Fa Fb:List Nat) (w:World) (ha:Jz Bg w va x Fa) (hb:Jz Bg w vb x Fb):Calls prog 210 #[va,vb] w (RB (.bool true) w):=by
 refine E7 (A:=[.isv Bg va x Fa,.isv Bg vb x Fb]) ?_ rfl (Nn ha hb);clear ha hb w;refine enter func210 rfl ntmps210 fun w0=>?_;refine B9 (v:=va) (x:=x) (F:=Fa) ?_;rintro a1 c1 F1 rfl -;refine B9 (v:=vb) (x:=x) (F:=Fb) ?_;rintro b1 d1 G1 rfl -;refine go ?_;intros;refine A1 rfl (fun h=>absurd rfl h) (fun _=>?_);refine go ?_;refine cb (fun w st=>Awa _ _ x.Al F1 G1 w (st.get (p:=.sl _ _ _ _) FL).2 (st.get (p:=.sl _ _ _ _) FL).2) ?_;exact AA
theorem Am0 (va vb:Value) (x:Ay) (Fa Fb:List Nat) (w:World) (ha:Jz Bi w va x Fa) (hb:Jz Bi w vb x Fb):Calls prog 116 #[va,vb] w (RB (.bool true) w):=by
 refine E7 (A:=[.isv Bi va x Fa,.isv Bi vb x Fb]) ?_ rfl (Nn ha hb);clear ha hb w;refine enter func116 rfl ntmps116 fun w0=>?_;refine En (v:=va) (x:=x) (F:=Fa) ?_;rintro a1 c1 F1 a2 c2 F2 rfl - -;refine En (v:=vb) (x:=x) (F:=Fb) ?_;rintro b1 d1 G1 b2 d2 G2 rfl - -;refine By x.Aa (a1:=a1) (F1:=F1) ?_;refine By x.Aa (a1:=b1) (F1:=G1) ?_;refine go ?_;intros;refine A1 rfl (fun h=>absurd rfl h) (fun _=>?_);refine go ?_;refine A1 rfl (fun h=>absurd rfl h) (fun _=>?_);refine go ?_
 refine cb (fun w st=>Ab1 _ _ x.Aa _ _ w (st.get (p:=.isv _ _ _ _) FL) (st.get (p:=.isv _ _ _ _) FL)) ?_;refine go ?_;refine cb (fun w st=>Am1 _ _ x.Am F2 G2 w (st.get (p:=.sl _ _ _ _) FL).2 (st.get (p:=.sl _ _ _ _) FL).2) ?_;exact AA
theorem Ajz (va vb:Value) (xs:List Ay) (Fa Fb:List Nat) (w:World) (ha:Sl Bi w va xs Fa) (hb:Sl Bi w vb xs Fb):Calls prog 54 #[va,vb] w (RB (.bool true) w):=by
 refine E7 (A:=[.sl Bi va xs Fa,.sl Bi vb xs Fb]) ?_ rfl (Nn ⟨FK,ha⟩ ⟨FK,hb⟩);clear ha hb w;have hfn:=func54;have hnt:=ntmps54;have heq:=Am0;exact Ag6
theorem Ab0 (va vb:Value) (xs:List (List Ar)) (Fa Fb:List Nat) (w:World) (ha:Sl (Ml Ak FK) w va xs Fa) (hb:Sl (Ml Ak FK) w vb xs Fb):Calls prog 55 #[va,vb] w (RB (.bool true) w):=by
 refine E7 (A:=[.sl (Ml Ak FK) va xs Fa,.sl (Ml Ak FK) vb xs Fb]) ?_ rfl (Nn ⟨FK,ha⟩ ⟨FK,hb⟩);clear ha hb w;refine enter func55 rfl ntmps55 fun w0=>?_;refine Xi (v:=va) (xs:=xs) (F:=Fa) ?_;rintro a c rfl h1 h2;refine Xi (v:=vb) (xs:=xs) (F:=Fb) ?_;rintro a' c' rfl h1' h2';refine go ?_;refine A1 rfl (fun h=>absurd rfl h) (fun _=>?_);refine go ?_;refine Eh [0,1] (fun k:Nat=>[(5,.int .i64 (k:Nat))]) (fun k=>k≤xs.length) (fun k=>xs.length - k) 0 (Nat.zero_le _) fun k hk0=>?_;refine go ?_;refine A1 rfl (fun h3=>?_) (fun h3=>?_)
 ·have hk:k < xs.length:=FH
  refine Nz (E:=Ak) (hz:=FK) (a:=a) (F:=Fa) (xs:=xs) k ?_;rintro hi b o a1 c1 F1 ea l1;refine Nz (E:=Ak) (hz:=FK) (a:=a') (F:=Fb) (xs:=xs) k ?_;rintro hi' b' o' b1 d1 G1 eb l1';subst ea eb;refine go ?_;refine Ahc [] ?_;refine Dq 0 1 2 3 ?_;refine Dq 4 5 6 7 ?_;refine dN 8 ?_;refine oC ?_;refine cb (fun w st=>Apa _ _ xs[k] F1 G1 w (st.get (p:=.sl _ _ _ _) FL).2 (st.get (p:=.sl _ _ _ _) FL).2) ?_;refine dk ?_;refine dt 9 ?_;refine dd ?_;refine go ?_;refine Cg (k+1) hk (by show xs.length - (k+1) < xs.length - k;omega)
 ·exact AA
theorem Beb (va vb:Value) (x:Dv) (Fa Fb:List Nat) (w:World) (ha:Jz Ny w va x Fa) (hb:Jz Ny w vb x Fb):Calls prog 24 #[va,vb] w (RB (.bool true) w):=by
 refine E7 (A:=[.isv Ny va x Fa,.isv Ny vb x Fb]) ?_ rfl (Nn ha hb);clear ha hb w;refine enter func24 rfl ntmps24 fun w0=>?_;refine Ho (v:=va) (x:=x) (F:=Fa) ?_;rintro a1 c1 F1 a2 c2 F2 a3 c3 F3 a4 c4 F4 a5 c5 F5 a6 c6 F6 a7 c7 F7 rfl - - - - - - -;refine Ho (v:=vb) (x:=x) (F:=Fb) ?_;rintro b1 d1 G1 b2 d2 G2 b3 d3 G3 b4 d4 G4 b5 d5 G5 b6 d6 G6 b7 d7 G7 rfl - - - - - - -;refine I3 x.Ao (a1:=a1) (F1:=F1) ?_;refine Hf x.Ab (a1:=a2) (F1:=F2) (a2:=a3) (F2:=F3) ?_;refine I3 x.Ao (a1:=b1) (F1:=G1) ?_;refine Hf x.Ab (a1:=b2) (F1:=G2) (a2:=b3) (F2:=G3) ?_;refine go ?_;intros
 refine cb (fun w st=>Az7 _ _ x.Ao _ _ w (st.get (p:=.isv _ _ _ _) FL) (st.get (p:=.isv _ _ _ _) FL)) ?_;refine go ?_;refine cb (fun w st=>Ask _ _ x.Ab _ _ w (st.get (p:=.isv _ _ _ _) FL) (st.get (p:=.isv _ _ _ _) FL)) ?_;refine go ?_;refine cb (fun w st=>Amz _ _ x.Af F4 G4 w (st.get (p:=.sl _ _ _ _) FL).2 (st.get (p:=.sl _ _ _ _) FL).2) ?_;refine go ?_;refine cb (fun w st=>Ajz _ _ x.Ac F5 G5 w (st.get (p:=.sl _ _ _ _) FL).2 (st.get (p:=.sl _ _ _ _) FL).2) ?_;refine go ?_
 refine cb (fun w st=>Ab0 _ _ x.down F6 G6 w (st.get (p:=.sl _ _ _ _) FL).2 (st.get (p:=.sl _ _ _ _) FL).2) ?_;refine go ?_;refine cb (fun w st=>Ab0 _ _ x.up F7 G7 w (st.get (p:=.sl _ _ _ _) FL).2 (st.get (p:=.sl _ _ _ _) FL).2) ?_;exact AA
theorem Ao0 {p:Prop} (h:p:=by
 refine enter hfn rfl hnt fun w0=>?_;refine Xi (xs:=xs) ?_;rintro a c rfl hc1 hc2;refine go ?_;refine A1 rfl (fun h2=>?_) (fun h2=>?_)
 ·refine go ?_;refine ret () trivial ?_;rw [Ld (by have:=Xm wf xs 0;omega)];rfl
 refine go ?_;rw [show n - (xs.length:Int)=n - xs.length - ((I1 wf xs 0:Nat):Int) by rw [Rh];omega];refine Eh [0] (fun k:Nat=>[(1,.int .i64 (n - xs.length - ((I1 wf xs k:Nat):Int))),(5,.int .i64 (k:Nat))]) (fun k=>k≤xs.length∧((I1 wf xs k:Nat):Int)+xs.length≤n) (fun k=>xs.length - k) 0 ⟨Nat.zero_le _,by rw [Rh];omega⟩ fun k hk0=>?_;obtain ⟨hk0,hle⟩:=hk0;refine go ?_;refine A1 rfl (fun h3=>?_) (fun h3=>?_)
 ·have hk:k < xs.length:=FH
  have hps:=Rg wf xs k hk;have hpl:=Xm wf xs (k+1);refine Aul (xs:=xs) k hk ?_;rintro b o cs G1 rfl hcl;refine go ?_;apply wO;apply oc;rfl;exact Ada rfl FL (hcl▸Cut.whole cs);refine go ?_;refine cb (fun w st=>hsz _ xs[k] G1 (n - xs.length - ((I1 wf xs k:Nat):Int)) w (st.get (p:=.isv _ _ _ _) FL) FH FH) ?_;rcases M5 (n - xs.length - ((I1 wf xs k:Nat):Int)) (wf xs[k]) with ⟨e1,l1⟩|⟨e1,l1⟩
  ·rw [e1];refine go ?_;refine ret () trivial ?_;rw [Ld FH];rfl
  ·exact BM
 ·obtain rfl:k=xs.length:=FH
  refine go ?_;refine ret () trivial ?_;rw [Pt (by rw [Aev];omega),Aev,show n - (xs.length:Int) - ((I1 wf xs xs.length:Nat):Int)=n - ((xs.length+I1 wf xs xs.length:Nat):Int) by omega];rfl):p:=h
theorem Ayp (v:Value) (xs:List Gb) (F:List Nat) (n:Int) (w:World) (h:Sl Bz w v xs F) (h0:0≤n) (h1:n≤1048576):Calls prog 214 #[v,.int .i64 n] w (RB (.int .i64 (Y4 n (Ke Ro xs))) w):=by
 refine E7 (A:=[.sl Bz v xs F]) ?_ rfl (El ⟨FK,h⟩);clear h w;have hfn:=func214;have hnt:=ntmps214;have hsz:=Bcl;obtain ⟨wf,hwf⟩:∃f,f=Ro:=⟨_,rfl⟩;rw [←hwf] at hsz ⊢;exact Ao0
theorem Arc (v:Value) (xs:List Ar) (F:List Nat) (n:Int) (w:World) (h:Sl Ak w v xs F) (h0:0≤n) (h1:n≤1048576):Calls prog 66 #[v,.int .i64 n] w (RB (.int .i64 (Y4 n (Ke Eg xs))) w):=by
 refine E7 (A:=[.sl Ak v xs F]) ?_ rfl (El ⟨FK,h⟩);clear h w;have hfn:=func66;have hnt:=ntmps66;have hsz:=Atw;obtain ⟨wf,hwf⟩:∃f,f=Eg:=⟨_,rfl⟩;rw [←hwf] at hsz ⊢;exact Ao0
theorem Bcm (v:Value) (x:Qe) (F:List Nat) (n:Int) (w:World) (h:Jz P0 w v x F) (h0:0≤n) (h1:n≤1048576):Calls prog 28 #[v,.int .i64 n] w (RB (.int .i64 (Y4 n (N4 x))) w):=by
 refine E7 (A:=[.isv P0 v x F]) ?_ rfl (El h);clear h w;unfold N4;refine enter func28 rfl ntmps28 fun w0=>?_;refine Om ?_;rintro a1 c1 F1 rfl -;refine go ?_;intros;refine cb (fun w st=>Arb _ x.Ad F1 (n) w (st.get (p:=.sl _ _ _ _) FL).2 FH FH) ?_;rcases M5 (n) (Ke (fun _=>0) x.Ad) with ⟨e1,l1⟩|⟨e1,l1⟩
 ·rw [e1];refine go ?_;refine ret () trivial ?_
  first|rfl|(rw [Ld FH];rfl)
 rw [e1];clear e1;refine go ?_;refine A1 rfl (fun h=>absurd h FH) (fun _=>?_);refine go ?_;refine ret () trivial ?_
 first|rfl|(rw [Pt FH];exact congrArg (Value.int .i64) FH)
theorem Aja (v:Value) (x:Aw) (F:List Nat) (n:Int) (w:World) (h:Jz Bw w v x F) (h0:0≤n) (h1:n≤1048576):Calls prog 62 #[v,.int .i64 n] w (RB (.int .i64 (Y4 n (Jr x))) w):=by
 refine E7 (A:=[.isv Bw v x F]) ?_ rfl (El h);clear h w;unfold Jr;refine enter func62 rfl ntmps62 fun w0=>?_;refine Ez ?_;rintro a1 c1 F1 rfl -;refine go ?_;intros;refine cb (fun w st=>Ard _ x.An F1 (n) w (st.get (p:=.sl _ _ _ _) FL).2 FH FH) ?_;rcases M5 (n) (Ke ByteArray.size x.An) with ⟨e1,l1⟩|⟨e1,l1⟩
 ·rw [e1];refine go ?_;refine ret () trivial ?_
  first|rfl|(rw [Ld FH];rfl)
 rw [e1];clear e1;refine go ?_;refine A1 rfl (fun h=>absurd h FH) (fun _=>?_);refine go ?_;refine ret () trivial ?_
 first|rfl|(rw [Pt FH];exact congrArg (Value.int .i64) FH)
theorem Atx (v:Value) (x:Cj) (F:List Nat) (n:Int) (w:World) (h:Jz Dp w v x F) (h0:0≤n) (h1:n≤1048576):Calls prog 29 #[v,.int .i64 n] w (RB (.int .i64 (Y4 n (Kg x))) w):=by
 refine E7 (A:=[.isv Dp v x F]) ?_ rfl (El h);clear h w;unfold Kg;refine enter func29 rfl ntmps29 fun w0=>?_;refine H3 ?_;rintro a1 c1 F1 a2 c2 F2 rfl - -;refine C3 x.Aa (a1:=a1) (F1:=F1) ?_;refine go ?_;intros;refine cb (fun w st=>Aja _ x.Aa (F1) (n) w (st.get (p:=.isv _ _ _ _) FL) FH FH) ?_;rcases M5 (n) (Jr x.Aa) with ⟨e1,l1⟩|⟨e1,l1⟩
 ·rw [e1];refine go ?_;refine ret () trivial ?_
  first|rfl|(rw [Ld FH];rfl)
 rw [e1];clear e1;refine go ?_;refine A1 rfl (fun h=>absurd h FH) (fun _=>?_);refine go ?_;refine cb (fun w st=>Ayo _ x.holds F2 (n - ((Jr x.Aa:Nat):Int)) w (st.get (p:=.sl _ _ _ _) FL).2 FH FH) ?_;rcases M5 (n - ((Jr x.Aa:Nat):Int)) (Ke (fun _=>0) x.holds) with ⟨e1,l1⟩|⟨e1,l1⟩
 ·rw [e1];refine go ?_;refine ret () trivial ?_
  first|rfl|(rw [Ld FH];rfl)
 rw [e1];clear e1;refine go ?_;refine A1 rfl (fun h=>absurd h FH) (fun _=>?_);refine go ?_;refine ret () trivial ?_
 first|rfl|(rw [Pt FH];exact congrArg (Value.int .i64) FH)
theorem Ayn (v:Value) (x:Gj) (F:List Nat) (n:Int) (w:World) (h:Jz Ds w v x F) (h0:0≤n) (h1:n≤1048576):Calls prog 213 #[v,.int .i64 n] w (RB (.int .i64 (Y4 n (Mv x))) w):=by
 refine E7 (A:=[.isv Ds v x F]) ?_ rfl (El h);clear h w;unfold Mv;refine enter func213 rfl ntmps213 fun w0=>?_;refine T0 ?_;rintro a1 c1 F1 rfl -;refine go ?_;intros;refine cb (fun w st=>Arb _ x.Bj F1 (n) w (st.get (p:=.sl _ _ _ _) FL).2 FH FH) ?_;rcases M5 (n) (Ke (fun _=>0) x.Bj) with ⟨e1,l1⟩|⟨e1,l1⟩
 ·rw [e1];refine go ?_;refine ret () trivial ?_
  first|rfl|(rw [Ld FH];rfl)
 rw [e1];clear e1;refine go ?_;refine A1 rfl (fun h=>absurd h FH) (fun _=>?_);refine go ?_;refine ret () trivial ?_
 first|rfl|(rw [Pt FH];exact congrArg (Value.int .i64) FH)
theorem Atv (v:Value) (xs:List Gj) (F:List Nat) (n:Int) (w:World) (h:Sl Ds w v xs F) (h0:0≤n) (h1:n≤1048576):Calls prog 126 #[v,.int .i64 n] w (RB (.int .i64 (Y4 n (Ke Mv xs))) w):=by
 refine E7 (A:=[.sl Ds v xs F]) ?_ rfl (El ⟨FK,h⟩);clear h w;have hfn:=func126;have hnt:=ntmps126;have hsz:=Ayn;obtain ⟨wf,hwf⟩:∃f,f=Mv:=⟨_,rfl⟩;rw [←hwf] at hsz ⊢;exact Ao0
theorem Ara (v:Value) (x:Bf) (F:List Nat) (n:Int) (w:World) (h:Jz Bk w v x F) (h0:0≤n) (h1:n≤1048576):Calls prog 64 #[v,.int .i64 n] w (RB (.int .i64 (Y4 n (E5 x))) w):=by
 refine E7 (A:=[.isv Bk v x F]) ?_ rfl (El h);clear h w;unfold E5;refine enter func64 rfl ntmps64 fun w0=>?_;refine Fh ?_;rintro a1 c1 F1 rfl -;refine go ?_;intros;refine cb (fun w st=>Atv _ x.Ah F1 (n) w (st.get (p:=.sl _ _ _ _) FL).2 FH FH) ?_;rcases M5 (n) (Ke Mv x.Ah) with ⟨e1,l1⟩|⟨e1,l1⟩
 ·rw [e1];refine go ?_;refine ret () trivial ?_
  first|rfl|(rw [Ld FH];rfl)
 rw [e1];clear e1;refine go ?_;refine A1 rfl (fun h=>absurd h FH) (fun _=>?_);refine go ?_;refine ret () trivial ?_
 first|rfl|(rw [Pt FH];exact congrArg (Value.int .i64) FH)
theorem Anx (v:Value) (xs:List Bf) (F:List Nat) (n:Int) (w:World) (h:Sl Bk w v xs F) (h0:0≤n) (h1:n≤1048576):Calls prog 30 #[v,.int .i64 n] w (RB (.int .i64 (Y4 n (Ke E5 xs))) w):=by
 refine E7 (A:=[.sl Bk v xs F]) ?_ rfl (El ⟨FK,h⟩);clear h w;have hfn:=func30;have hnt:=ntmps30;have hsz:=Ara;obtain ⟨wf,hwf⟩:∃f,f=E5:=⟨_,rfl⟩;rw [←hwf] at hsz ⊢;exact Ao0
theorem Acz (v:Value) (x:Aj) (F:List Nat) (n:Int) (w:World) (h:Jz Bg w v x F) (h0:0≤n) (h1:n≤1048576):Calls prog 127 #[v,.int .i64 n] w (RB (.int .i64 (Y4 n (Ig x))) w):=by
 refine E7 (A:=[.isv Bg v x F]) ?_ rfl (El h);clear h w;unfold Ig;refine enter func127 rfl ntmps127 fun w0=>?_;refine B9 ?_;rintro a1 c1 F1 rfl -;refine go ?_;intros;refine cb (fun w st=>Ayp _ x.Al F1 (n) w (st.get (p:=.sl _ _ _ _) FL).2 FH FH) ?_;rcases M5 (n) (Ke Ro x.Al) with ⟨e1,l1⟩|⟨e1,l1⟩
 ·rw [e1];refine go ?_;refine ret () trivial ?_
  first|rfl|(rw [Ld FH];rfl)
 rw [e1];clear e1;refine go ?_;refine A1 rfl (fun h=>absurd h FH) (fun _=>?_);refine go ?_;refine ret () trivial ?_
 first|rfl|(rw [Pt FH];exact congrArg (Value.int .i64) FH)
theorem Anz (v:Value) (x:Ay) (F:List Nat) (n:Int) (w:World) (h:Jz Bi w v x F) (h0:0≤n) (h1:n≤1048576):Calls prog 65 #[v,.int .i64 n] w (RB (.int .i64 (Y4 n (Fv x))) w):=by
 refine E7 (A:=[.isv Bi v x F]) ?_ rfl (El h);clear h w;unfold Fv;refine enter func65 rfl ntmps65 fun w0=>?_;refine En ?_;rintro a1 c1 F1 a2 c2 F2 rfl - -;refine By x.Aa (a1:=a1) (F1:=F1) ?_;refine go ?_;intros;refine cb (fun w st=>Acz _ x.Aa (F1) (n) w (st.get (p:=.isv _ _ _ _) FL) FH FH) ?_;rcases M5 (n) (Ig x.Aa) with ⟨e1,l1⟩|⟨e1,l1⟩
 ·rw [e1];refine go ?_;refine ret () trivial ?_
  first|rfl|(rw [Ld FH];rfl)
 rw [e1];clear e1;refine go ?_;refine A1 rfl (fun h=>absurd h FH) (fun _=>?_);refine go ?_;refine cb (fun w st=>An0 _ x.Am F2 (n - ((Ig x.Aa:Nat):Int)) w (st.get (p:=.sl _ _ _ _) FL).2 FH FH) ?_;rcases M5 (n - ((Ig x.Aa:Nat):Int)) (Ke (fun _=>0) x.Am) with ⟨e1,l1⟩|⟨e1,l1⟩
 ·rw [e1];refine go ?_;refine ret () trivial ?_
  first|rfl|(rw [Ld FH];rfl)
 rw [e1];clear e1;refine go ?_;refine A1 rfl (fun h=>absurd h FH) (fun _=>?_);refine go ?_;refine ret () trivial ?_
 first|rfl|(rw [Pt FH];exact congrArg (Value.int .i64) FH)
theorem Akh (v:Value) (xs:List Ay) (F:List Nat) (n:Int) (w:World) (h:Sl Bi w v xs F) (h0:0≤n) (h1:n≤1048576):Calls prog 31 #[v,.int .i64 n] w (RB (.int .i64 (Y4 n (Ke Fv xs))) w):=by
 refine E7 (A:=[.sl Bi v xs F]) ?_ rfl (El ⟨FK,h⟩);clear h w;have hfn:=func31;have hnt:=ntmps31;have hsz:=Anz;obtain ⟨wf,hwf⟩:∃f,f=Fv:=⟨_,rfl⟩;rw [←hwf] at hsz ⊢;exact Ao0
theorem Acy (v:Value) (xs:List (List Ar)) (F:List Nat) (n:Int) (w:World) (h:Sl (Ml Ak FK) w v xs F) (h0:0≤n) (h1:n≤1048576):Calls prog 32 #[v,.int .i64 n] w (RB (.int .i64 (Y4 n (Ke (Ke Eg) xs))) w):=by
 refine E7 (A:=[.sl (Ml Ak FK) v xs F]) ?_ rfl (El ⟨FK,h⟩);clear h w;have hfn:=func32;have hnt:=ntmps32;obtain ⟨wf,hwf⟩:∃f,f=(Ke Eg):=⟨_,rfl⟩;rw [←hwf];refine enter hfn rfl hnt fun w0=>?_;refine Xi (xs:=xs) ?_;rintro a c rfl hc1 hc2;refine go ?_;refine A1 rfl (fun h2=>?_) (fun h2=>?_)
 ·refine go ?_;refine ret () trivial ?_;rw [Ld (by have:=Xm wf xs 0;omega)];rfl
 refine go ?_;rw [show n - (xs.length:Int)=n - xs.length - ((I1 wf xs 0:Nat):Int) by rw [Rh];omega];refine Eh [0] (fun k:Nat=>[(1,.int .i64 (n - xs.length - ((I1 wf xs k:Nat):Int))),(5,.int .i64 (k:Nat))]) (fun k=>k≤xs.length∧((I1 wf xs k:Nat):Int)+xs.length≤n) (fun k=>xs.length - k) 0 ⟨Nat.zero_le _,by rw [Rh];omega⟩ fun k hk0=>?_;obtain ⟨hk0,hle⟩:=hk0;refine go ?_;refine A1 rfl (fun h3=>?_) (fun h3=>?_)
 ·have hk:k < xs.length:=FH
  have hps:=Rg wf xs k hk;have hpl:=Xm wf xs (k+1);refine Nz (E:=Ak) (hz:=FK) (xs:=xs) k ?_;rintro hi b o a1 c1 F1 rfl l1;refine go ?_;refine cb (fun w st=>Arc _ xs[k] F1 (n - xs.length - ((I1 wf xs k:Nat):Int)) w (st.get (p:=.sl _ _ _ _) FL).2 FH FH) ?_;rw [←hwf];rcases M5 (n - xs.length - ((I1 wf xs k:Nat):Int)) (wf xs[k]) with ⟨e1,l1⟩|⟨e1,l1⟩
  ·rw [e1];refine go ?_;refine ret () trivial ?_;rw [Ld FH];rfl
  ·exact BM
 ·obtain rfl:k=xs.length:=FH
  refine go ?_;refine ret () trivial ?_;rw [Pt (by rw [Aev];omega),Aev,show n - (xs.length:Int) - ((I1 wf xs xs.length:Nat):Int)=n - ((xs.length+I1 wf xs xs.length:Nat):Int) by omega];rfl
theorem Bfp (v:Value) (x:Dv) (F:List Nat) (n:Int) (w:World) (h:Jz Ny w v x F) (h0:0≤n) (h1:n≤1048576):Calls prog 13 #[v,.int .i64 n] w (RB (.int .i64 (Y4 n (Y9 x))) w):=by
 refine E7 (A:=[.isv Ny v x F]) ?_ rfl (El h);clear h w;unfold Y9;refine enter func13 rfl ntmps13 fun w0=>?_;refine Ho ?_;rintro a1 c1 F1 a2 c2 F2 a3 c3 F3 a4 c4 F4 a5 c5 F5 a6 c6 F6 a7 c7 F7 rfl - - - - - - -;refine I3 x.Ao (a1:=a1) (F1:=F1) ?_;refine Hf x.Ab (a1:=a2) (F1:=F2) (a2:=a3) (F2:=F3) ?_;refine go ?_;intros;refine cb (fun w st=>Bcm _ x.Ao (F1) (n) w (st.get (p:=.isv _ _ _ _) FL) FH FH) ?_;rcases M5 (n) (N4 x.Ao) with ⟨e1,l1⟩|⟨e1,l1⟩
 ·rw [e1];refine go ?_;refine ret () trivial ?_
  first|rfl|(rw [Ld FH];rfl)
 rw [e1];clear e1;refine go ?_;refine A1 rfl (fun h=>absurd h FH) (fun _=>?_);refine go ?_;refine cb (fun w st=>Atx _ x.Ab (F2++F3) (n - ((N4 x.Ao:Nat):Int)) w (st.get (p:=.isv _ _ _ _) FL) FH FH) ?_;rcases M5 (n - ((N4 x.Ao:Nat):Int)) (Kg x.Ab) with ⟨e1,l1⟩|⟨e1,l1⟩
 ·rw [e1];refine go ?_;refine ret () trivial ?_
  first|rfl|(rw [Ld FH];rfl)
 rw [e1];clear e1;refine go ?_;refine A1 rfl (fun h=>absurd h FH) (fun _=>?_);refine go ?_;refine cb (fun w st=>Anx _ x.Af F4 (n - ((N4 x.Ao:Nat):Int) - ((Kg x.Ab:Nat):Int)) w (st.get (p:=.sl _ _ _ _) FL).2 FH FH) ?_;rcases M5 (n - ((N4 x.Ao:Nat):Int) - ((Kg x.Ab:Nat):Int)) (Ke E5 x.Af) with ⟨e1,l1⟩|⟨e1,l1⟩
 ·rw [e1];refine go ?_;refine ret () trivial ?_
  first|rfl|(rw [Ld FH];rfl)
 rw [e1];clear e1;refine go ?_;refine A1 rfl (fun h=>absurd h FH) (fun _=>?_);refine go ?_;refine cb (fun w st=>Akh _ x.Ac F5 (n - ((N4 x.Ao:Nat):Int) - ((Kg x.Ab:Nat):Int) - ((Ke E5 x.Af:Nat):Int)) w (st.get (p:=.sl _ _ _ _) FL).2 FH FH) ?_;rcases M5 (n - ((N4 x.Ao:Nat):Int) - ((Kg x.Ab:Nat):Int) - ((Ke E5 x.Af:Nat):Int)) (Ke Fv x.Ac) with ⟨e1,l1⟩|⟨e1,l1⟩
 ·rw [e1];refine go ?_;refine ret () trivial ?_
  first|rfl|(rw [Ld FH];rfl)
 rw [e1];clear e1;refine go ?_;refine A1 rfl (fun h=>absurd h FH) (fun _=>?_);refine go ?_;refine cb (fun w st=>Acy _ x.down F6 (n - ((N4 x.Ao:Nat):Int) - ((Kg x.Ab:Nat):Int) - ((Ke E5 x.Af:Nat):Int) - ((Ke Fv x.Ac:Nat):Int)) w (st.get (p:=.sl _ _ _ _) FL).2 FH FH) ?_;rcases M5 (n - ((N4 x.Ao:Nat):Int) - ((Kg x.Ab:Nat):Int) - ((Ke E5 x.Af:Nat):Int) - ((Ke Fv x.Ac:Nat):Int)) (Ke (Ke Eg) x.down) with ⟨e1,l1⟩|⟨e1,l1⟩
 ·rw [e1];refine go ?_;refine ret () trivial ?_
  first|rfl|(rw [Ld FH];rfl)
 rw [e1];clear e1;refine go ?_;refine A1 rfl (fun h=>absurd h FH) (fun _=>?_);refine go ?_;refine cb (fun w st=>Acy _ x.up F7 (n - ((N4 x.Ao:Nat):Int) - ((Kg x.Ab:Nat):Int) - ((Ke E5 x.Af:Nat):Int) - ((Ke Fv x.Ac:Nat):Int) - ((Ke (Ke Eg) x.down:Nat):Int)) w (st.get (p:=.sl _ _ _ _) FL).2 FH FH) ?_;rcases M5 (n - ((N4 x.Ao:Nat):Int) - ((Kg x.Ab:Nat):Int) - ((Ke E5 x.Af:Nat):Int) - ((Ke Fv x.Ac:Nat):Int) - ((Ke (Ke Eg) x.down:Nat):Int)) (Ke (Ke Eg) x.up) with ⟨e1,l1⟩|⟨e1,l1⟩
 ·rw [e1];refine go ?_;refine ret () trivial ?_
  first|rfl|(rw [Ld FH];rfl)
 rw [e1];clear e1;refine go ?_;refine A1 rfl (fun h=>absurd h FH) (fun _=>?_);refine go ?_;refine ret () trivial ?_
 first|rfl|(rw [Pt FH];exact congrArg (Value.int .i64) FH)
theorem Rv {α:Type} {ys xs:List α} (h:ys.length=xs.length:=by exact Cb ..):ys.take xs.length++xs.drop xs.length=ys:=by rw [List.take_of_length_le FH,List.drop_length,List.append_nil]
theorem Bhd {α:Type} {O:Bn α} {t:TypeId} {P:Program} {f:FuncId} {v:Value} {xs:List α} {F:List Nat} {A:List Pc} {args:List Value} {σ:Type} {C:σ→Prop} {r:σ→Value} {N:σ→List Pc} (h:∀a c,v=.slice a xs.length c→xs.length≤maxLen→Fn P f args A [.ow O t v xs F] C r N):Fn P f args A [.ow O t v xs F] C r N:=fun w hH hS=>by
 obtain ⟨-,ho⟩:=hH (.ow O t v xs F) FI;obtain ⟨a,c,e⟩:=ho.slice;exact h a c e ho.len w hH hS
structure MkF {α:Type} (mk:Int→α→α) (cn:α→Nat) (k0:Int) (xs:List α) (i:Nat) (K:Int):Prop where
 hi:i < xs.length
 st:((Ed mk cn k0 xs).take i++xs.drop i).set i (mk K xs[i])=(Ed mk cn k0 xs).take (i+1)++xs.drop (i+1)
 nx:K+((cn xs[i]:Nat):Int)=k0+((I1 cn xs (i+1):Nat):Int)
 up:K+((cn xs[i]:Nat):Int)≤k0+((Dj cn xs:Nat):Int)
 lo:k0≤K
 ml:((Ed mk cn k0 xs).take i++xs.drop i).length=xs.length
theorem Ru {α:Type} {O:Bn α} {t:TypeId} {P:Program} {f:FuncId} {v:Value} {xs:List α} {F:List Nat} {mk:Int→α→α} {cn:α→Nat} {k0:Int}
  (h:∀a c q,q=k0+((I1 cn xs 0:Nat):Int)→xs.length≤maxLen→Fn P f [.slice a xs.length c,.int .i64 q] [] [.ow O t (.slice a xs.length c) xs F] (fun (_:List Nat)=>True) (fun _=>.int .i64 (k0+Dj cn xs)) (fun G=>[.ow O t (.slice a xs.length c) (Ed mk cn k0 xs) G])):Fn P f [v,.int .i64 k0] [] [.ow O t v xs F] (fun (_:List Nat)=>True) (fun _=>.int .i64 (k0+Dj cn xs)) (fun G=>[.ow O t v (Ed mk cn k0 xs) G]) :=
 Bhd fun a c e hln=>by subst e;exact h a c k0 (by rw [Rh];omega) hln
theorem U7 {c:Cx} {fr:Fr} {H:List Pc} {α:Type} {O:Bn α} {t:TypeId} {v:Value} {mk:Int→α→α} {cn:α→Nat} {k0:Int} {xs:List α} {F:List Nat} {k:List It} {x:Code} {rest:List Pc} {cst:Fr} (ks:List Nat) (d1 d2:Nat)
  (round:∀i G K,i≤xs.length→K=k0+((I1 cn xs i:Nat):Int)→(i < xs.length→MkF mk cn k0 xs i K)→T c ([(d1,.int .i64 K),(d2,.int .i64 (i:Nat))]++cst) ([.ow O t v ((Ed mk cn k0 xs).take i++xs.drop i) G]++rest) (.code (.lp (LpN c (fun s:Nat × List Nat=>[(d1,.int .i64 (k0+((I1 cn xs s.1:Nat):Int))),(d2,.int .i64 (s.1:Nat))]++cst) (fun s=>[.ow O t v ((Ed mk cn k0 xs).take s.1++xs.drop s.1) s.2]++rest) (fun s=>s.1≤xs.length) (fun s=>xs.length - s.1) (xs.length - i))::k) x))
  (hp:Ih H [.ow O t v ((Ed mk cn k0 xs).take 0++xs.drop 0) F] rest:=by exact Abg) (hk:Kf fr ks cst:=by repeat (first|exact Kf.nil|apply Kf.cons GE)) (hf:Mm fr [(d1,.int .i64 (k0+((I1 cn xs 0:Nat):Int))),(d2,.int .i64 ((0:Nat):Int))]:=by exact frE):T c fr H (.code k (Code.loop x)) :=
 Cd ks (fun s:Nat × List Nat=>[(d1,.int .i64 (k0+((I1 cn xs s.1:Nat):Int))),(d2,.int .i64 (s.1:Nat))]) (fun s=>[.ow O t v ((Ed mk cn k0 xs).take s.1++xs.drop s.1) s.2]) (fun s=>s.1≤xs.length) (fun s=>xs.length - s.1) (0,F) (Nat.zero_le _) (fun s hs=>round s.1 s.2 _ hs rfl fun hi=>by
  have h1:=Rg cn xs s.1 hi;have h2:=Bd7 cn xs (s.1+1);exact ⟨hi,Ah9 mk cn xs k0 s.1 hi,FH,FH,FH,by simp [Cb];omega⟩) hk hf hp
theorem Ap9 (v:Value) (xs:List Hx) (F:List Nat) (k0:Int) (h0:0≤k0) (h1:k0+Dj N6 xs≤1099511627776):Fn prog 120 [v,.int .i64 k0] [] [.ow Bm 203 v xs F] (fun (_:List Nat)=>True) (fun _=>.int .i64 (k0+Dj N6 xs)) (fun G=>[.ow Bm 203 v (Ed Aib N6 k0 xs) G]):=Ru fun a c q hq hln=>by
 unfold maxLen at hln;refine enter func120 rfl ntmps120 fun w0=>?_;refine go ?_;rw [hq];refine U7 (mk:=Aib) (cn:=N6) (k0:=k0) (xs:=xs) [0] 1 5 fun k G K hz hK hf=>?_;refine go ?_;refine A1 rfl (fun h3=>?_) (fun h3=>?_)
 ·obtain ⟨hk,hst,hnx,hup,hlo,hml⟩:=hf FH;have hc1:N6 xs[k]=1+1:=rfl;refine Pv (xs:=((Ed Aib N6 k0 xs).take k++xs.drop k)) (m:=2) Lc k ?_ FM rfl FH;rintro _ g2 A cs B rfl e2 hc hH;rw [Rw _ _ _ (Cb ..) hk] at hc;obtain ⟨rfl, -⟩:=hc w0;refine go ?_;refine O5 (Aib K xs[k]) hH (fun w=>⟨rfl,rfl⟩) ?_;rw [hst,show K+1+1=k0+((I1 N6 xs (k+1):Nat):Int) by omega];exact AS
 ·obtain rfl:k=xs.length:=FH
  exact AP
theorem Aia (v:Value) (xs:List Ax) (F:List Nat) (k0:Int) (h0:0≤k0) (h1:k0+Dj Ij xs≤1099511627776):Fn prog 123 [v,.int .i64 k0] [] [.ow Av 257 v xs F] (fun (_:List Nat)=>True) (fun _=>.int .i64 (k0+Dj Ij xs)) (fun G=>[.ow Av 257 v (Ed Tz Ij k0 xs) G]):=Ru fun a c q hq hln=>by
 unfold maxLen at hln;refine enter func123 rfl ntmps123 fun w0=>?_;refine go ?_;rw [hq];refine U7 (mk:=Tz) (cn:=Ij) (k0:=k0) (xs:=xs) [0] 1 5 fun k G K hz hK hf=>?_;refine go ?_;refine A1 rfl (fun h3=>?_) (fun h3=>?_)
 ·obtain ⟨hk,hst,hnx,hup,hlo,hml⟩:=hf FH;have hc1:Ij xs[k]=1+1+1+1:=rfl;refine Pv (xs:=((Ed Tz Ij k0 xs).take k++xs.drop k)) (m:=4) Dl k ?_ FM rfl FH;rintro _ g2 A cs B rfl e2 hc hH;rw [Rw _ _ _ (Cb ..) hk] at hc;obtain ⟨rfl, -⟩:=hc w0;refine go ?_;refine O5 (Tz K xs[k]) hH (fun w=>⟨rfl,rfl⟩) ?_;rw [hst,show K+1+1+1+1=k0+((I1 Ij xs (k+1):Nat):Int) by omega];exact AS
 ·obtain rfl:k=xs.length:=FH
  exact AP
theorem Aj5 (v:Value) (xs:List Ar) (F:List Nat) (k0:Int) (h0:0≤k0) (h1:k0+Dj Cm xs≤1099511627776):Fn prog 124 [v,.int .i64 k0] [] [.ow Ak 233 v xs F] (fun (_:List Nat)=>True) (fun _=>.int .i64 (k0+Dj Cm xs)) (fun G=>[.ow Ak 233 v (Ed No Cm k0 xs) G]):=Ru fun a c q hq hln=>by
 unfold maxLen at hln;refine enter func124 rfl ntmps124 fun w0=>?_;refine go ?_;rw [hq];refine U7 (mk:=No) (cn:=Cm) (k0:=k0) (xs:=xs) [0] 1 5 fun k G K hz hK hf=>?_;refine go ?_;refine A1 rfl (fun h3=>?_) (fun h3=>?_)
 ·obtain ⟨hk,hst,hnx,hup,hlo,hml⟩:=hf FH;have hc1:Cm xs[k]=1+1+1+1+1:=rfl;refine Pv (xs:=((Ed No Cm k0 xs).take k++xs.drop k)) (m:=5) I2 k ?_ FM rfl FH;rintro _ g2 A cs B rfl e2 hc hH;rw [Rw _ _ _ (Cb ..) hk] at hc;obtain ⟨rfl, -⟩:=hc w0;refine go ?_;refine cb (fun w st=>Uh (K+1+1+1+1) w FH FH) ?_;refine go ?_;refine O5 (No K xs[k]) hH (fun w=>⟨rfl,Zl _,rfl⟩) ?_;rw [hst,show K+1+1+1+1+1=k0+((I1 Cm xs (k+1):Nat):Int) by omega];exact AS
 ·obtain rfl:k=xs.length:=FH
  exact AP
theorem Aqa (v:Value) (xs:List Gb) (F:List Nat) (k0:Int) (h0:0≤k0) (h1:k0+Dj Li xs≤1099511627776):Fn prog 122 [v,.int .i64 k0] [] [.ow Bz 272 v xs F] (fun (_:List Nat)=>True) (fun _=>.int .i64 (k0+Dj Li xs)) (fun G=>[.ow Bz 272 v (Ed Aeb Li k0 xs) G]):=Ru fun a c q hq hln=>by
 unfold maxLen at hln;refine enter func122 rfl ntmps122 fun w0=>?_;refine go ?_;rw [hq];refine U7 (mk:=Aeb) (cn:=Li) (k0:=k0) (xs:=xs) [0] 1 5 fun k G K hz hK hf=>?_;refine go ?_;refine A1 rfl (fun h3=>?_) (fun h3=>?_)
 ·obtain ⟨hk,hst,hnx,hup,hlo,hml⟩:=hf FH;have hc1:Li xs[k]=1+1:=rfl;refine Pv (xs:=((Ed Aeb Li k0 xs).take k++xs.drop k)) (m:=2) H5 k ?_ FM rfl FH;rintro _ g2 A cs B rfl e2 hc hH;rw [Rw _ _ _ (Cb ..) hk] at hc;obtain ⟨rfl, -⟩:=hc w0;refine go ?_;refine cb (fun w st=>Uh (K+1) w FH FH) ?_;refine go ?_;refine O5 (Aeb K xs[k]) hH (fun w=>⟨rfl,Zl _,rfl⟩) ?_;rw [hst,show K+1+1=k0+((I1 Li xs (k+1):Nat):Int) by omega];exact AS
 ·obtain rfl:k=xs.length:=FH
  exact AP
theorem Ah8 (v:Value) (xs:List Int) (F:List Nat) (k0:Int) (h0:0≤k0) (h1:k0+Dj Hz xs≤1099511627776):Fn prog 118 [v,.int .i64 k0] [] [.ow Bb 3 v xs F] (fun (_:List Nat)=>True) (fun _=>.int .i64 (k0+Dj Hz xs)) (fun G=>[.ow Bb 3 v (Ed mkI Hz k0 xs) G]):=Ru fun a c q hq hln=>by
 unfold maxLen at hln;refine enter func118 rfl ntmps118 fun w0=>?_;refine go ?_;rw [hq];refine U7 (mk:=mkI) (cn:=Hz) (k0:=k0) (xs:=xs) [0] 1 5 fun k G K hz hK hf=>?_;refine go ?_;refine A1 rfl (fun h3=>?_) (fun h3=>?_)
 ·obtain ⟨hk,hst,hnx,hup,hlo,hml⟩:=hf FH;have hc1:Hz xs[k]=1:=rfl;refine Pv (xs:=((Ed mkI Hz k0 xs).take k++xs.drop k)) (m:=1) D5 k ?_ FM rfl FH;rintro _ g2 A cs B rfl e2 hc hH;rw [Rw _ _ _ (Cb ..) hk] at hc;obtain ⟨rfl, -⟩:=hc w0;refine go ?_;refine O5 (mkI K xs[k]) hH (fun w=>⟨rfl,rfl⟩) ?_;rw [hst,show K+1=k0+((I1 Hz xs (k+1):Nat):Int) by omega];exact AS
 ·obtain rfl:k=xs.length:=FH
  exact AP
theorem Aj7 (v:Value) (xs:List ByteArray) (F:List Nat) (k0:Int) (h0:0≤k0) (h1:k0+Dj Nh xs≤1099511627776):Fn prog 11 [v,.int .i64 k0] [] [.ow A8 9 v xs F] (fun (_:List Nat)=>True) (fun _=>.int .i64 (k0+Dj Nh xs)) (fun G=>[.ow A8 9 v (Ed mkS Nh k0 xs) G]):=Ru fun a c q hq hln=>by
 unfold maxLen at hln;refine enter func11 rfl ntmps11 fun w0=>?_;refine go ?_;rw [hq];refine U7 (mk:=mkS) (cn:=Nh) (k0:=k0) (xs:=xs) [0] 1 5 fun k G K hz hK hf=>?_;refine go ?_;refine A1 rfl (fun h3=>?_) (fun h3=>?_)
 ·obtain ⟨hk,hst,hnx,hup,hlo,hml⟩:=hf FH;have hc1:Nh xs[k]=1:=rfl;refine Pv (xs:=((Ed mkS Nh k0 xs).take k++xs.drop k)) (m:=1) Gz k ?_ FM rfl FH;rintro _ g2 A cs B rfl e2 hc hH;rw [Rw _ _ _ (Cb ..) hk] at hc;obtain ⟨rfl, -⟩:=hc w0;refine go ?_;refine cb (fun w st=>Uh (K) w FH FH) ?_;refine go ?_;refine O5 (mkS K xs[k]) hH (fun w=>⟨rfl,Zl _,rfl⟩) ?_;rw [hst,show K+1=k0+((I1 Nh xs (k+1):Nat):Int) by omega];exact AS
 ·obtain rfl:k=xs.length:=FH
  exact AP
theorem Anc (v:Value) (xs:List Gj) (F:List Nat) (k0:Int) (h0:0≤k0) (h1:k0+Dj Ks xs≤1099511627776):Fn prog 121 [v,.int .i64 k0] [] [.ow Dz 253 v xs F] (fun (_:List Nat)=>True) (fun _=>.int .i64 (k0+Dj Ks xs)) (fun G=>[.ow Dz 253 v (Ed W8 Ks k0 xs) G]):=Ru fun a c q hq hln=>by
 unfold maxLen at hln;refine enter func121 rfl ntmps121 fun w0=>?_;refine go ?_;rw [hq];refine U7 (mk:=W8) (cn:=Ks) (k0:=k0) (xs:=xs) [0] 1 5 fun k G K hz hK hf=>?_;refine go ?_;refine A1 rfl (fun h3=>?_) (fun h3=>?_)
 ·obtain ⟨hk,hst,hnx,hup,hlo,hml⟩:=hf FH;have hc1:Ks xs[k]=1+Dj Hz xs[k].Bj+1:=rfl;refine Wu (xs:=((Ed W8 Ks k0 xs).take k++xs.drop k)) (m:=3) k ?_ rfl FH;rintro _ g2 A cs B k1 k2 H1 Hi H2 rfl - hc hH;rw [Rw _ _ _ (Cb ..) hk];refine Xa (x:=xs[k]) ?_;rintro a1 c1 F1 ev -;obtain rfl:=Uq ev;clear ev;refine go ?_;refine Ca (Ah8 _ xs[k].Bj _ (K+1) FH FH) fun M1 _=>?_;refine go ?_;rw [←Cb mkI Hz xs[k].Bj (K+1)];refine M6 (W8 K xs[k]) ?_;refine Sw (W8 K xs[k]) hH rfl fun F6=>?_;rw [hst,show K+1+((Dj Hz xs[k].Bj:Nat):Int)+1=k0+((I1 Ks xs (k+1):Nat):Int) by omega]
  exact BJ
 ·obtain rfl:k=xs.length:=FH
  exact AP
theorem Ah7 (v:Value) (xs:List Bf) (F:List Nat) (k0:Int) (h0:0≤k0) (h1:k0+Dj Ey xs≤1099511627776):Fn prog 58 [v,.int .i64 k0] [] [.ow B4 149 v xs F] (fun (_:List Nat)=>True) (fun _=>.int .i64 (k0+Dj Ey xs)) (fun G=>[.ow B4 149 v (Ed Ty Ey k0 xs) G]):=Ru fun a c q hq hln=>by
 unfold maxLen at hln;refine enter func58 rfl ntmps58 fun w0=>?_;refine go ?_;rw [hq];refine U7 (mk:=Ty) (cn:=Ey) (k0:=k0) (xs:=xs) [0] 1 5 fun k G K hz hK hf=>?_;refine go ?_;refine A1 rfl (fun h3=>?_) (fun h3=>?_)
 ·obtain ⟨hk,hst,hnx,hup,hlo,hml⟩:=hf FH;have hc1:Ey xs[k]=1+Dj Ks xs[k].Ah:=rfl;refine Wu (xs:=((Ed Ty Ey k0 xs).take k++xs.drop k)) (m:=2) k ?_ rfl FH;rintro _ g2 A cs B k1 k2 H1 Hi H2 rfl - hc hH;rw [Rw _ _ _ (Cb ..) hk];refine Hp (x:=xs[k]) ?_;rintro a1 c1 F1 ev -;obtain rfl:=Uq ev;clear ev;refine go ?_;refine Ca (Anc _ xs[k].Ah _ (K+1) FH FH) fun M1 _=>?_;refine go ?_;rw [←Cb W8 Ks xs[k].Ah (K+1)];refine E6 (Ty K xs[k]) ?_;refine Sw (Ty K xs[k]) hH rfl fun F6=>?_;rw [hst,show K+1+((Dj Ks xs[k].Ah:Nat):Int)=k0+((I1 Ey xs (k+1):Nat):Int) by omega]
  exact BJ
 ·obtain rfl:k=xs.length:=FH
  exact AP
theorem Af7 (v:Value) (xs:List Ay) (F:List Nat) (k0:Int) (h0:0≤k0) (h1:k0+Dj Ev xs≤1099511627776):Fn prog 59 [v,.int .i64 k0] [] [.ow Bx 156 v xs F] (fun (_:List Nat)=>True) (fun _=>.int .i64 (k0+Dj Ev xs)) (fun G=>[.ow Bx 156 v (Ed Rc Ev k0 xs) G]):=Ru fun a c q hq hln=>by
 unfold maxLen at hln;refine enter func59 rfl ntmps59 fun w0=>?_;refine go ?_;rw [hq];refine U7 (mk:=Rc) (cn:=Ev) (k0:=k0) (xs:=xs) [0] 1 5 fun k G K hz hK hf=>?_;refine go ?_;refine A1 rfl (fun h3=>?_) (fun h3=>?_)
 ·obtain ⟨hk,hst,hnx,hup,hlo,hml⟩:=hf FH;have hc1:Ev xs[k]=1+1+1+Dj Li xs[k].Aa.Al+Dj Ij xs[k].Am:=rfl;refine Wu (xs:=((Ed Rc Ev k0 xs).take k++xs.drop k)) (m:=5) k ?_ rfl FH;rintro _ g2 A cs B k1 k2 H1 Hi H2 rfl - hc hH;rw [Rw _ _ _ (Cb ..) hk];refine Ic (x:=xs[k]) ?_;rintro a1 c1 F1 a2 c2 F2 ev - -;obtain rfl:=Uq ev;clear ev;refine go ?_;refine Ca (Aqa _ xs[k].Aa.Al _ (K+1+1+1) FH FH) fun M1 _=>?_;refine go ?_;refine Ca (Aia _ xs[k].Am _ (K+1+1+1+((Dj Li xs[k].Aa.Al:Nat):Int)) FH FH) fun M2 _=>?_;refine go ?_
  rw [←Cb Aeb Li xs[k].Aa.Al (K+1+1+1)];rw [←Cb Tz Ij xs[k].Am (K+1+1+1+((Dj Li xs[k].Aa.Al:Nat):Int))];refine Iz (Rc K xs[k]) ?_;refine Sw (Rc K xs[k]) hH rfl fun F6=>?_;rw [hst,show K+1+1+1+((Dj Li xs[k].Aa.Al:Nat):Int)+((Dj Ij xs[k].Am:Nat):Int)=k0+((I1 Ev xs (k+1):Nat):Int) by omega];exact BJ
 ·obtain rfl:k=xs.length:=FH
  exact AP
theorem Yp (v:Value) (xs:List (List Ar)) (F:List Nat) (k0:Int) (h0:0≤k0) (h1:k0+Dj (Dj Cm) xs≤1099511627776):Fn prog 60 [v,.int .i64 k0] [] [.ow (Ko Ak 233) 158 v xs F] (fun (_:List Nat)=>True) (fun _=>.int .i64 (k0+Dj (Dj Cm) xs)) (fun G=>[.ow (Ko Ak 233) 158 v (Ed (Ed No Cm) (Dj Cm) k0 xs) G]):=Ru fun a c q hq hln=>by
 unfold maxLen at hln;refine enter func60 rfl ntmps60 fun w0=>?_;refine go ?_;rw [hq];refine U7 (mk:=(Ed No Cm)) (cn:=(Dj Cm)) (k0:=k0) (xs:=xs) [0] 1 5 fun k G K hz hK hf=>?_;refine go ?_;refine A1 rfl (fun h3=>?_) (fun h3=>?_)
 ·obtain ⟨hk,hst,hnx,hup,hlo,hml⟩:=hf FH;have hc1:(Dj Cm) xs[k]=Dj Cm xs[k]:=rfl;refine Wu (xs:=((Ed (Ed No Cm) (Dj Cm) k0 xs).take k++xs.drop k)) (m:=1) k ?_ rfl FH;rintro _ g2 A cs B k1 k2 H1 Hi H2 rfl - hc hH;rw [Rw _ _ _ (Cb ..) hk];refine U0 ?_;rintro a1 c1 ev l1;obtain rfl:=Uq ev;clear ev;refine go ?_;refine Ca (Aj5 _ xs[k] _ (K) FH FH) fun M1 _=>?_;refine go ?_;rw [←Cb No Cm xs[k] K];refine Jt (Ed No Cm K xs[k]) ?_;refine Sw (Ed No Cm K xs[k]) hH rfl fun F6=>?_;rw [hst,show K+((Dj Cm xs[k]:Nat):Int)=k0+((I1 (Dj Cm) xs (k+1):Nat):Int) by omega]
  exact BJ
 ·obtain rfl:k=xs.length:=FH
  exact AP
theorem As5 (v:Value) (x:Qe) (F:List Nat) (k:Int) (h0:0≤k) (h1:k+N0 x≤1099511627776):Fn prog 56 [v,.int .i64 k] [] [.own Aex v x F] (fun (_:List Nat)=>True) (fun _=>.int .i64 (k+N0 x)) (fun G=>[.own Aex v (Ang k x) G]):=by
 unfold N0 at h1 ⊢;refine enter func56 rfl ntmps56 fun w0=>?_;refine Aee ?_;rintro a1 c1 F1 rfl l1;refine go ?_;intros;refine Ca (Ah8 _ x.Ad _ k FH FH) fun M1 _=>?_;refine go ?_;rw [←Cb mkI Hz x.Ad k];refine Aaw (Ang k x) ?_;refine ret _ trivial rfl
theorem Ad8 (v:Value) (x:Aw) (F:List Nat) (k:Int) (h0:0≤k) (h1:k+Ki x≤1099511627776):Fn prog 119 [v,.int .i64 k] [] [.own Km v x F] (fun (_:List Nat)=>True) (fun _=>.int .i64 (k+Ki x)) (fun G=>[.own Km v (Ti k x) G]):=by
 unfold Ki at h1 ⊢;refine enter func119 rfl ntmps119 fun w0=>?_;refine Hl ?_;rintro a1 c1 F1 rfl l1;refine go ?_;intros;refine Ca (Aj7 _ x.An _ k FH FH) fun M1 _=>?_;refine go ?_;rw [←Cb mkS Nh x.An k];refine Q7 (Ti k x) ?_;refine ret _ trivial rfl
theorem Ane (v:Value) (x:Cj) (F:List Nat) (k:Int) (h0:0≤k) (h1:k+Kt x≤1099511627776):Fn prog 57 [v,.int .i64 k] [] [.own S8 v x F] (fun (_:List Nat)=>True) (fun _=>.int .i64 (k+Kt x)) (fun G=>[.own S8 v (V2 k x) G]):=by
 unfold Kt at h1 ⊢;refine enter func57 rfl ntmps57 fun w0=>?_;refine Qb ?_;rintro a1 c1 F1 a2 c2 F2 rfl l1 l2;refine Q7 x.Aa ?_;refine go ?_;intros;refine Ca (Ad8 _ x.Aa _ k FH FH) fun M1 _=>?_;refine go ?_;refine Ca (Ap9 _ x.holds _ (k+Ki x.Aa) FH FH) fun M2 _=>?_;refine go ?_;refine Hl (x:=Ti k x.Aa) ?_;rintro b1 d1 G1 e1 -;simp at e1;obtain ⟨-, -,rfl, -,rfl⟩:=e1;rw [show x.Aa.An.length=(V2 k x).Aa.An.length from (Cb ..).symm,show x.holds.length=(V2 k x).holds.length from (Cb ..).symm];refine Td (V2 k x) ?_
 rw [show k+((Ki x.Aa:Nat):Int)+((Dj N6 x.holds:Nat):Int)=k+((Ki x.Aa+Dj N6 x.holds:Nat):Int) by omega];refine ret _ trivial rfl
theorem Axr (v:Value) (x:Dv) (F:List Nat) (k:Int) (p0:0≤k) (p1:k+Ae1 x≤1099511627776):Fn prog 26 [v,.int .i64 k] [] [.own Zx v x F] (fun (_:List Nat)=>True) (fun _=>.int .i64 (k+Ae1 x)) (fun G=>[.own Zx v (Yq k x) G]):=by
 have hcv:(Ae1 x:Int)=N0 x.Ao+Kt x.Ab+(Dj Ey) x.Af+(Dj Ev) x.Ac+(Dj (Dj Cm)) x.down+(Dj (Dj Cm)) x.up:=by unfold Ae1;push_cast;rfl
 refine enter func26 rfl ntmps26 fun w0=>?_;refine Ys ?_;rintro a1 c1 F1 a2 c2 F2 a3 c3 F3 a4 c4 F4 a5 c5 F5 a6 c6 F6 a7 c7 F7 rfl l1 l2 l3 l4 l5 l6 l7;refine Aaw x.Ao ?_;refine Td x.Ab ?_;refine go ?_;intros;refine Ca (As5 _ x.Ao _ (k) FH FH) fun _ _=>?_;refine go ?_;refine Ca (Ane _ x.Ab _ (k+N0 x.Ao) FH FH) fun _ _=>?_;refine go ?_;refine Ca (Ah7 _ x.Af _ (k+N0 x.Ao+Kt x.Ab) FH FH) fun _ _=>?_;refine go ?_;refine Ca (Af7 _ x.Ac _ (k+N0 x.Ao+Kt x.Ab+(Dj Ey) x.Af) FH FH) fun _ _=>?_;refine go ?_
 refine Ca (Yp _ x.down _ (k+N0 x.Ao+Kt x.Ab+(Dj Ey) x.Af+(Dj Ev) x.Ac) FH FH) fun _ _=>?_;refine go ?_;refine Ca (Yp _ x.up _ (k+N0 x.Ao+Kt x.Ab+(Dj Ey) x.Af+(Dj Ev) x.Ac+(Dj (Dj Cm)) x.down) FH FH) fun _ _=>?_;refine go ?_;have h1:x.Ao.Ad.length=(Yq k x).Ao.Ad.length:=(Cb ..).symm;have h2:x.Ab.Aa.An.length=(Yq k x).Ab.Aa.An.length:=(Cb ..).symm;have h3:x.Ab.holds.length=(Yq k x).Ab.holds.length:=(Cb ..).symm;have h4:x.Af.length=(Yq k x).Af.length:=(Cb ..).symm;have h5:x.Ac.length=(Yq k x).Ac.length:=(Cb ..).symm
 have h6:x.down.length=(Yq k x).down.length:=(Cb ..).symm;have h7:x.up.length=(Yq k x).up.length:=(Cb ..).symm;rw [h1,h2,h3,h4,h5,h6,h7];refine Aee (x:=Ang k x.Ao) ?_;rintro b1 d1 G1 e1 -;simp at e1;obtain ⟨rfl, -,rfl⟩:=e1;refine Qb (x:=V2 (k+N0 x.Ao) x.Ab) ?_;rintro b2 d2 G2 b3 d3 G3 e2 - -;simp at e2;obtain ⟨-, -,⟨rfl, -,rfl⟩, -, -,rfl, -,rfl⟩:=e2;refine P2 (Yq k x) (a6:=a6) (a7:=a7) ?_;rw [show k+N0 x.Ao+Kt x.Ab+(Dj Ey) x.Af+(Dj Ev) x.Ac+(Dj (Dj Cm)) x.down+(Dj (Dj Cm)) x.up=k+Ae1 x by omega];refine ret _ trivial rfl
theorem Aj4 (v:Value) (x:Cc) (F:List Nat) (k:Int) (p0:0≤k) (p1:k+Tt x≤1099511627776):Fn prog 10 [v,.int .i64 k] [] [.own Oe v x F] (fun (_:List Nat)=>True) (fun _=>.int .i64 (k+Tt x)) (fun G=>[.own Oe v (O2 k x) G]):=by
 have hcv:(Tt x:Int)=Ae1 x.Bh:=by unfold Tt;rfl
 refine enter func10 rfl ntmps10 fun w0=>?_;refine Anl ?_;rintro a1 c1 F1 a2 c2 F2 a3 c3 F3 a4 c4 F4 a5 c5 F5 a6 c6 F6 a7 c7 F7 rfl s1 s2 l1 l2 l3 l4 l5 l6 l7;refine P2 x.Bh (a6:=a6) (a7:=a7) ?_;refine go ?_;intros;refine Ca (Axr _ x.Bh _ k p0 FH) fun G _=>?_;refine go ?_;have h1:x.Bh.Ao.Ad.length=(O2 k x).Bh.Ao.Ad.length:=(Cb ..).symm;have h2:x.Bh.Ab.Aa.An.length=(O2 k x).Bh.Ab.Aa.An.length:=(Cb ..).symm;have h3:x.Bh.Ab.holds.length=(O2 k x).Bh.Ab.holds.length:=(Cb ..).symm;have h4:x.Bh.Af.length=(O2 k x).Bh.Af.length:=(Cb ..).symm
 have h5:x.Bh.Ac.length=(O2 k x).Bh.Ac.length:=(Cb ..).symm;have h6:x.Bh.down.length=(O2 k x).Bh.down.length:=(Cb ..).symm;have h7:x.Bh.up.length=(O2 k x).Bh.up.length:=(Cb ..).symm;rw [h1,h2,h3,h4,h5,h6,h7];refine Ys (x:=Yq k x.Bh) ?_;rintro b1 d1 G1 b2 d2 G2 b3 d3 G3 b4 d4 G4 b5 d5 G5 b6 d6 G6 b7 d7 G7 e1 - - - - - - -;simp at e1;obtain ⟨⟨rfl, -,rfl⟩, -, -,⟨rfl, -,rfl⟩, -, -,⟨rfl, -,rfl⟩,⟨rfl, -,rfl⟩,⟨rfl, -,rfl⟩,⟨rfl, -,rfl⟩,rfl, -,rfl⟩:=e1;refine Aab (O2 k x) s1 s2 (a6:=a6) (a7:=a7) ?_;rw [←hcv];refine ret _ trivial rfl
end Go.Proofs.YtcmighgaiacgoaaGreatDoor
namespace Go.Proofs.YtcmighgaiacgoaaGreatDoor

open Go.RowKit
end Go.Proofs.YtcmighgaiacgoaaGreatDoor
namespace Go.Proofs.YtcmighgaiacgoaaGreatDoor
open Go.RowKit
def Qn (t:ByteArray):List ByteArray:=(Dm 10 t.data.toList).map bz
def Ch:Cc→List ByteArray→Cc × List ByteArray
 | c,[]=>(c,[])
 | c,l::r=>((Ch (P5 c l).1 r).1,(P5 c l).2::(Ch (P5 c l).1 r).2)
def Aqh (c:Cc) (t:ByteArray):Bool:=Ha c && decide ((Qn t).length≤30) && decide (t.size≤4000)
def Ht (c:Cc) (t:ByteArray):List ByteArray × Bool:=if Aqh c t then ((Ch c (Qn t)).2,true) else ([],false)
theorem Zd:∀(ls:List ByteArray) (c:Cc),(Ch c ls).2.length=ls.length
 | [],_=>rfl
 | l::r,c=>by show (_::(Ch (P5 c l).1 r).2).length=_;rw [List.length_cons,List.length_cons,Zd r]
theorem Aa2:∀(ls:List ByteArray) {c:Cc},Ha c=true→Ha (Ch c ls).1=true
 | [],_,h=>h
 | l::r,c,h=>Aa2 r (Apc h)
theorem Ahn:∀(ls:List ByteArray) (c:Cc) (l:ByteArray),Ch c (ls++[l])=((P5 (Ch c ls).1 l).1,(Ch c ls).2++[(P5 (Ch c ls).1 l).2])
 | [],_,_=>rfl
 | x::r,c,l=>by
  show ((Ch (P5 c x).1 (r++[l])).1,(P5 c x).2::(Ch (P5 c x).1 (r++[l])).2)=_;rw [Ahn r];rfl
theorem Asl {c:Cc} {line:ByteArray} (h:U9 line=true∧¬c.J0.count=60):P5 c line=(⟨H4 c.Bh line,Sy c.J0 line (Te (Qw c.Bh line))⟩,Te (Qw c.Bh line)):=by
 unfold P5;rw [if_pos h.1,if_neg h.2]
end Go.Proofs.YtcmighgaiacgoaaGreatDoor
namespace Go.Proofs.YtcmighgaiacgoaaGreatDoor
open Go.RowKit
open Go.RowKit
theorem Apj {α:Type} {E:Bn α} {w:World}:∀{ys:List (List Value)} {xs:List α} {G:List Nat},Cy E w ys.flatten xs G→(∀y∈ys,y.length=E.sz)→∀i (h1:i < ys.length) (h2:i < xs.length),∃Gi,E.Kn w ys[i] xs[i] Gi∧∀b∈Gi,b∈G
 | [],_,_,_,_,i,h1,_=>by simp at h1
 | y::r,[],_,_,_,i,_,h2=>by simp at h2
 | y::r,x::s,G,h,hm,i,h1,h2=>by
  obtain ⟨c1,c2,F1,F2,e,rfl,hr,hs⟩:=h;rw [List.flatten_cons] at e;obtain ⟨e1,e2⟩:=List.append_inj e (by rw [hm y FI,E.len hr]);subst e1 e2;cases i with
  | zero=>exact ⟨F1,hr,fun b hb=>by simp [hb]⟩
  | succ j =>
   obtain ⟨Gi,g1,g2⟩:=Apj hs (fun z hz=>hm z JR) j IS IH;exact ⟨Gi,g1,fun b hb=>by simp [g2 b hb]⟩
theorem Ak6 {α:Type} {E:Bn α} {w:World} {cs:List Value} {x:α} {G2:List Nat} (hx:E.Kn w cs x G2):∀{ys:List (List Value)} {xs:List α} {G:List Nat},Cy E w ys.flatten xs G→(∀y∈ys,y.length=E.sz)→ys.length=xs.length→∀i,∃G',Cy E w (ys.set i cs).flatten (xs.set i x) G'∧∀b∈G',b∈G∨b∈G2
 | [],[],G,h,_,_,i=>⟨G,h,fun b hb=>.inl hb⟩
 | [],y::r,_,_,_,hl,_=>by simp at hl
 | y::r,[],_,_,_,hl,_=>by simp at hl
 | y::r,x1::s,G,h,hm,hl,i=>by
  obtain ⟨c1,c2,F1,F2,e,rfl,hr,hs⟩:=h;rw [List.flatten_cons] at e;obtain ⟨e1,e2⟩:=List.append_inj e (by rw [hm y FI,E.len hr]);subst e1 e2;cases i with
  | zero=>exact ⟨G2++F2,⟨cs,r.flatten,G2,F2,FI,rfl,hx,hs⟩,fun b hb=>by rcases List.mem_append.1 hb with hb|hb;exact .inr hb;exact .inl FR⟩
  | succ j =>
   obtain ⟨G',g1,g2⟩:=Ak6 hx hs (fun z hz=>hm z JR) HQ j;refine ⟨F1++G',⟨y,(r.set j cs).flatten,F1,G',FI,rfl,hr,g1⟩,fun b hb=>?_⟩;rcases List.mem_append.1 hb with hb|hb
   ·exact .inl FR
   ·rcases g2 b hb with h|h
    ·exact .inl JS
    ·exact .inr h
section
variable {c:Cx} {fr:Fr} {H:List Pc} {Φ:Gl}
theorem Fs {m:Nat} {t:TypeId} {a:Option Addr} {n cp:Nat} {ys:List (List Value)} {F:List Nat} (h:(∀y∈ys,y.length=m)→ys.length=n→T c fr H Φ) (hp:.ow (EC m) t (.slice a n cp) ys F∈H:=by exact A9):T c fr H Φ:=.mk fun ac w s g=>by
 obtain ⟨hnd,ho⟩:=s.get hp;have key:(∀y∈ys,y.length=m)∧ys.length=n:=by
  rcases ho with ⟨e,rfl, -⟩|⟨b,cap,cs,rest,G,e,h2,h3,h4,h5,h6, -⟩
  ·cases e;exact ⟨FI,rfl⟩
  ·cases e;exact ⟨(Amy h6).2.2,rfl⟩
 exact (h key.1 key.2).h ac w s g
theorem Bh3 {α:Type} {E:Bn α} {k:Nat} {v:Value} {xs:List α} {G:List Nat} (h:xs.length=k→T c fr H Φ) (hp:.isv (EA E k) v xs G∈H:=by exact A9):T c fr H Φ:=.mk fun ac w s g=>by
 obtain ⟨cs,e,hl,hf⟩:=s.get hp;exact (h hl).h ac w s g
theorem Ai0 {α:Type} {E:Bn α} {k:Nat} {ys:List (List Value)} {xs:List α} {G:List Nat} (i:Nat) (hm:∀y∈ys,y.length=E.sz) (hl:ys.length=xs.length) (h1:i < ys.length) (h:∀(h1:i < ys.length) (h2:i < xs.length) Gi,T c fr (.isv E (.agg ys[i].toArray) xs[i] Gi::H) Φ) (hp:.isv (EA E k) (.agg ys.flatten.toArray) xs G∈H:=by exact A9):T c fr H Φ:=.mk fun ac w s g=>by
 obtain ⟨cs,e, -,hf⟩:=s.get hp;obtain rfl:ys.flatten=cs:=by simpa using e
 obtain ⟨Gi,g1,g2⟩:=Apj hf hm i h1 FH;exact (h h1 FH Gi).h ac w (s.ro hp rfl rfl ⟨_,rfl,g1⟩ g2) g
theorem Ai1 {α:Type} {E:Bn α} {k:Nat} {ys:List (List Value)} {xs:List α} {G:List Nat} (i:Nat) (hm:∀y∈ys,y.length=E.sz) (hl:ys.length=xs.length) (h1:i < ys.length) (h:∀(h1:i < ys.length) (h2:i < xs.length) v Gi,v=.agg ys[i].toArray→T c fr (.isv E v xs[i] Gi::H) Φ) (hp:.isv (EA E k) (.agg ys.flatten.toArray) xs G∈H:=by exact A9):T c fr H Φ:=Ai0 i hm hl h1 (fun h1 h2 Gi=>h h1 h2 _ Gi rfl) hp
theorem Um {α:Type} {E:Bn α} {k:Nat} {ys:List (List Value)} {xs:List α} {G G2:List Nat} {v:Value} {cs:List Value} {x:α} (i:Nat) (hv:v=.agg cs.toArray) (hm:∀y∈ys,y.length=E.sz) (hl:ys.length=xs.length) (h:∀G',T c fr (.isv (EA E k) (.agg (ys.set i cs).flatten.toArray) (xs.set i x) G'::H) Φ) (hp:.isv (EA E k) (.agg ys.flatten.toArray) xs G∈H:=by exact A9) (hp2:.isv E v x G2∈H:=by exact A9):T c fr H Φ:=.mk fun ac w s g=>by
 subst hv;obtain ⟨c1,e,hk,hf⟩:=s.get hp;obtain rfl:ys.flatten=c1:=by simpa using e
 obtain ⟨c2,e2,hx⟩:=s.get hp2;obtain rfl:cs=c2:=by simpa using e2
 obtain ⟨G',g1,g2⟩:=Ak6 hx hf hm hl i;refine (h G').h ac w (s.add (N:=[.isv (EA E k) (.agg (ys.set i cs).flatten.toArray) (xs.set i x) G']) (Below.refl _ _) (by intro p hq;rw [List.mem_singleton] at hq;subst hq;exact ⟨_,rfl,by simpa using hk,g1⟩) ⟨FI,trivial⟩ ?_) g;intro p hq z hb;rw [List.mem_singleton] at hq;subst hq;rcases g2 z hb with hb|hb
 ·exact .inr ⟨rfl,_,hp,rfl,hb⟩
 ·exact .inr ⟨rfl,_,hp2,rfl,hb⟩
theorem Adu {α:Type} {E:Bn α} {hz:0 < E.sz} {v:Value} {x:List α} {G:List Nat} (h:∀a1 c1,v=.agg #[.slice a1 x.length c1]→x.length≤maxLen→T c fr (.sl E (.slice a1 x.length c1) x G::H) Φ) (hp:.isv (Ml E hz) v x G∈H:=by exact A9):T c fr H Φ:=.mk fun ac w s g=>by
 obtain ⟨cs,rfl,v1,rfl,h1⟩:=s.get hp;obtain ⟨a1,c1,rfl⟩:=h1.slice;exact (h a1 c1 rfl h1.len).h ac w (s.ro hp rfl rfl ⟨hz,h1⟩ fun b hb=>hb) g
theorem Aem {α:Type} {E:Bn α} {v:Value} {x:List α} {G:List Nat} (hz:0 < E.sz) (h:T c fr (.isv (Ml E hz) (.agg #[v]) x G::H) Φ) (hp:.sl E v x G∈H:=by exact A9):T c fr H Φ:=.mk fun ac w s g=>by
 obtain ⟨-,h1⟩:=s.get hp;exact h.h ac w (s.ro hp rfl rfl ⟨[v],rfl,v,rfl,h1⟩ fun b hb=>hb) g
end
end Go.Proofs.YtcmighgaiacgoaaGreatDoor
namespace Go.Proofs.YtcmighgaiacgoaaGreatDoor
open Go.RowKit
theorem Axd (s:Kh) (hss:s.data.size≤maxLen):FV 150 [.agg #[.int .i64 s.Cp,.int .i64 s.node,.string s.data]] [] (.bool (Es s)):=by
 refine enter func150 rfl ntmps150 fun w0=>?_;refine go ?_;intros;refine A1 rfl (fun h1=>?_) (fun h1=>?_)
 ·rw [show Es s=(decide (s.node=0) && Rs s.data) by unfold Es;rw [if_pos h1]];refine go ?_;refine Dy rfl rfl (fun h2=>?_) (fun h2=>?_)
  ·refine go ?_;refine ce (fun w st=>Sg s.data 8 _ hss) ?_;exact DC
  ·exact CY
 refine go ?_;refine A1 rfl (fun h4=>?_) (fun h4=>?_)
 ·rw [show Es s=(decide (s.node=0) && decide (s.data=⟨#[]⟩)) by unfold Es;rw [if_neg h1,if_pos h4]];refine go ?_;refine Dy rfl rfl (fun h2=>?_) (fun h2=>?_)
  ·exact DC
  ·exact CY
 rw [show Es s=(Ga 1 s.Cp 6 && Ga 1 s.node 7 && decide (s.data=⟨#[]⟩)) by unfold Es;rw [if_neg h1,if_neg h4];rfl];refine go ?_;refine ce (fun w st=>Kk s.Cp 1 6 _) ?_;cases g1:Ga 1 s.Cp 6
 ·refine go ?_;refine ret () trivial ?_;rfl
 refine go ?_;refine ce (fun w st=>Kk s.node 1 7 _) ?_;cases g2:Ga 1 s.node 7
 ·refine go ?_;refine ret () trivial ?_;rfl
 refine go ?_;refine ret () trivial ?_;rfl
theorem Ax4 {q ps:List Ar} {k:Nat} (h:6≤(Hq q (ps.take k)).length):Hq q (ps.take k)=Hq q ps:=by
 unfold Hq at *;rw [List.length_append,List.length_take,List.length_take] at h;rw [List.take_take]
 congr 1
 by_cases h6:6≤q.length
 ·rw [show min (6 - q.length) k=6 - q.length by omega]
 ·by_cases hk:6 - q.length≤k
  ·rw [show min (6 - q.length) k=6 - q.length by omega]
  ·rw [show min (6 - q.length) k=k by omega,List.take_of_length_le FH,List.take_of_length_le FH]
theorem Ax5 {q ps:List Ar} {k:Nat} (hk:k < ps.length) (h:(Hq q (ps.take k)).length < 6):Hq q (ps.take (k+1))=Hq q (ps.take k)++[ps[k]]:=by
 rw [List.take_succ_eq_append_getElem hk,Alz];unfold Wc;rw [if_pos h]
theorem Ah0 (q ps:List Ar) (a:Option Addr) (c:Nat) (F:List Nat) (a2:Option Addr) (c2:Nat) (F2:List Nat) (hq:q.length≤1000000):Fn prog 289 [.slice a q.length c,.slice a2 ps.length c2] [.sl Ak (.slice a q.length c) q F,.sl Ak (.slice a2 ps.length c2) ps F2] [] (fun (_:KA)=>True) (fun z=>.slice z.a (Hq q ps).length z.c) (fun z=>[.ow Ak 233 (.slice z.a (Hq q ps).length z.c) (Hq q ps) z.F]):=by
 refine enter func289 rfl ntmps289 fun w0=>?_;refine Xi (E:=Ak) (xs:=ps) ?_;rintro _ _ e0 hn1 hn2;refine An1 (E:=Ak) (xs:=ps) (fun p:Ar=>p.data.size≤maxLen) (fun w cs x F h=>by obtain ⟨_,h,_⟩:=h;exact h) ?_;intro hz;cases e0;refine go ?_;intros;refine C7 Ak ?_;refine go ?_;apply wO;refine Pf Hg I2 fun a3 c3 F3=>?_;rw [List.nil_append];refine go ?_;have e0:Hq q (ps.take 0)=q:=by unfold Hq;simp
 refine Cd [1,4] (fun z:KA=>[(5,.slice z.a (Hq q (ps.take z.k)).length z.c),(6,.int .i64 (z.k:Nat))]) (fun z=>[.ow Ak 233 (.slice z.a (Hq q (ps.take z.k)).length z.c) (Hq q (ps.take z.k)) z.F]) (fun z=>z.k≤ps.length) (fun z=>ps.length - z.k) ⟨0,a3,c3,F3⟩ (Nat.zero_le _) (fun z hz0=>?_) (hf:=by dsimp only;rw [e0];exact frE) (hH:=by dsimp only;rw [e0];exact Abg);have hql:(Hq q (ps.take z.k)).length≤q.length+ps.length:=by unfold Hq;rw [List.length_append,List.length_take,List.length_take];omega
 have hnn:ps.length≤9223372036854775807:=FH
 refine go ?_;refine Dy rfl rfl (fun h1=>?_) (fun h1=>?_)
 ·have hk:z.k < ps.length:=FH
  refine go ?_;refine A1 rfl (fun h2=>?_) (fun h2=>?_)
  ·have h6:(Hq q (ps.take z.k)).length < 6:=FH
   have hpz:=hz _ (List.getElem_mem hk);refine Sa (xs:=ps) z.k ?_;rintro hi3 b3 o3 e3 s3;rw [e3];refine go ?_;intros;apply wO;refine Ps (ys:=[ps[z.k]]) (Dc ps[z.k] hpz) Hg fun a7 c7 F7=>?_;rw [←Ax5 hk h6];refine go ?_;refine Cg ⟨z.k+1,a7,c7,F7⟩ hk (by show ps.length - (z.k+1) < ps.length - z.k;omega)
  ·rw [Ax4 FH];exact CJ
 ·rw [show ps.take z.k=ps from List.take_of_length_le FH];exact CJ
theorem Bbq {q ps:List Ar} (h:q.length≤6):(Hq q ps).length≤6:=by unfold Hq;rw [List.length_append,List.length_take];omega
theorem Bez {d:List (List Ar)} {i:Nat} {ps:List Ar} (h:∀q∈d,q.length≤6):∀q∈d.modify i (fun q=>Hq q ps),q.length≤6:=fun q hq=>by
 by_cases hi:i < d.length
 ·rw [Ik hi] at hq;rcases List.mem_or_eq_of_mem_set hq with h'|rfl
  ·exact h q h'
  ·exact Bbq (h _ (List.getElem_mem hi))
 ·rw [Abc hi] at hq;exact h q hq
theorem Ai6 {ps:List Ar}:∀{nodes:List Int} {d:List (List Ar)},(∀q∈d,q.length≤6)→∀q∈Dn d nodes ps,q.length≤6
 | [],_,h=>h
 | x::r,d,h=>by
  show ∀q∈Dn (d.modify x.toNat fun q=>Hq q ps) r ps,q.length≤6;exact Ai6 (Bez h)
structure ShZ where
 k:Nat
 ys:List (List Value)
 F:List Nat
 G:List Nat
theorem Ok (d:List (List Ar)) (nodes:List Int) (ps:List Ar) (a1 a2 a3 a4 a5 a7:Option Addr) (l1 c1 l2 c2 l3 c3 l4 c4 l5 c5 l7 c7:Nat) (w1 w2 w3 w4:Int) (a:Option Addr) (n c:Nat) (ys:List (List Value)) (F G:List Nat) (an:Option Addr) (cn:Nat) (Fn_:List Nat) (ap:Option Addr) (cp:Nat) (Fp:List Nat) (hx:∀x∈nodes,0≤x∧x.toNat < d.length) (hd:∀q∈d,q.length≤6) :
  Fn prog 225 [.agg #[.slice a1 l1 c1,.int .i64 w1,.int .i64 w2,.slice a2 l2 c2,.int .i64 w3,.int .i64 w4,.slice a3 l3 c3,.slice a4 l4 c4,.slice a5 l5 c5,.slice a n c,.slice a7 l7 c7],.slice an nodes.length cn,.slice ap ps.length cp] [.sl Bb (.slice an nodes.length cn) nodes Fn_,.sl Ak (.slice ap ps.length cp) ps Fp,.isv (EA (Ml Ak FK) n) (.agg (ys).flatten.toArray) d G] [.ow (EC 1) 158 (.slice a n c) ys F] (fun (_:ShZ)=>True) (fun _=>.tuple #[]) (fun z=>[.ow (EC 1) 158 (.slice a n c) z.ys z.F,.isv (EA (Ml Ak FK) n) (.agg (z.ys).flatten.toArray) (Dn d nodes ps) z.G]):=by
 refine enter func225 rfl ntmps225 fun w0=>?_;refine Xi (E:=Bb) (xs:=nodes) ?_;rintro _ _ e0 hn1 hn2;cases e0;refine Bh3 (xs:=d) fun hdn=>?_;refine go ?_;intros;refine Cd [1,2,3] (fun z:ShZ=>[(6,.int .i64 (z.k:Nat))]) (fun z=>[.ow (EC 1) 158 (.slice a n c) z.ys z.F,.isv (EA (Ml Ak FK) n) (.agg (z.ys).flatten.toArray) (Dn d (nodes.take z.k) ps) z.G]) (fun z=>z.k≤nodes.length) (fun z=>nodes.length - z.k) ⟨0,ys,F,G⟩ (Nat.zero_le _) fun z hz0=>?_;have hsl:=Abk ps (nodes.take z.k) d;have hd6:=Ai6 (ps:=ps) (nodes:=nodes.take z.k) hd;refine go ?_;refine A1 rfl (fun h1=>?_) (fun h1=>?_)
 ·have hk:z.k < nodes.length:=FH
  obtain ⟨x0,x1⟩:=hx _ (List.getElem_mem hk);obtain ⟨i,hi⟩:∃i:Nat,nodes[z.k]=((i:Nat):Int):=⟨nodes[z.k].toNat,FH⟩;have hil:i < (Dn d (nodes.take z.k) ps).length:=FH
  have hst:=Afr (d:=d) (ps:=ps) hk;rw [show nodes[z.k].toNat=i by omega] at hst;unfold Sk at hst;rw [Ik hil] at hst;have h6:=hd6 _ (List.getElem_mem hil);refine I6 (xs:=nodes) z.k ?_;rintro hi2 b o e1;rw [e1,hi];refine Fs (ys:=z.ys) fun hm hl=>?_;refine Ai0 (ys:=z.ys) (xs:=Dn d (nodes.take z.k) ps) i hm FH FH fun h2 h3 Gi=>?_;refine Adu (x:=(Dn d (nodes.take z.k) ps)[i]) fun a9 c9 e9 l9=>?_;refine Pv (E:=EC 1) (xs:=z.ys) (m:=1) (Me 1) i ?_ FM rfl h2;rintro _ g A cs B rfl k2 k3 hH;obtain ⟨k4, -, -⟩:=k3 w0
  have e8:z.ys[i]=[.slice a9 (Dn d (nodes.take z.k) ps)[i].length c9]:=KH
  rw [e8] at k4;subst k4;dsimp only [List.append];refine go ?_;refine As [0,3,5] [17] ?_;refine Dq 0 1 2 3 ?_;refine Dq 4 5 6 7 ?_;refine Dq 8 9 10 11 ?_;refine Ec 12 13 ?_;refine dt 14 ?_;refine dN 15 ?_;refine oC ?_;refine Ca (Ah0 (Dn d (nodes.take z.k) ps)[i] ps a9 c9 _ ap cp Fp FH) fun u _=>?_;refine dk ?_;refine dt 16 ?_;refine dN 17 ?_;refine oS ?_;refine Tf ?_;refine dd ?_;refine O5 (E:=EC 1) (xs:=z.ys) [.slice u.a (Hq (Dn d (nodes.take z.k) ps)[i] ps).length u.c] hH (fun w=>⟨rfl,⟨rfl,GT⟩,rfl⟩) ?_
  refine A4 (E:=Ak) (xs:=Hq (Dn d (nodes.take z.k) ps)[i] ps) fun Fq=>?_;refine Aem (E:=Ak) (x:=Hq (Dn d (nodes.take z.k) ps)[i] ps) FK ?_;refine Um (E:=Ml Ak FK) (ys:=z.ys) (xs:=Dn d (nodes.take z.k) ps) (x:=Hq (Dn d (nodes.take z.k) ps)[i] ps) i rfl hm FH fun G'=>?_;rw [←hst];refine go ?_;refine Cg ⟨z.k+1,z.ys.set i [.slice u.a (Hq (Dn d (nodes.take z.k) ps)[i] ps).length u.c],[g],G'⟩ hk (by show nodes.length - (z.k+1) < nodes.length - z.k;omega)
 ·rw [show nodes.take z.k=nodes from List.take_of_length_le FH];refine go ?_;refine Xh ?_;refine ret z trivial rfl
theorem Apz {l:List Int} (hg:Vg l) (i:Nat):Rl 1 7 (Iw l ((i:Nat):Int))=true:=by
 refine Al0 ?_ fun z hz=>?_
 ·unfold Iw Kj;rw [List.pairwise_map];exact (List.Pairwise.filter _ List.pairwise_lt_range).imp fun h=>by omega
 ·have:=L0 hg hz;have:=hg.n1;omega
structure ShA where
 ys:List (List Value)
 F:List Nat
 G:List Nat
structure SZ where
 e:ShA
 r:ShA
 d:ShA
 u:ShA
structure JE where
 g:Nat
 b:Option Addr
 d:Nat
 F:List Nat
 a:Option Addr
 c:Nat
 G:List Nat
theorem Ana (n:Dv) (i:Nat) (p:Ar) (a1:Option Addr) (c1:Nat) (a4:Option Addr) (c4:Nat) (a5:Option Addr) (c5:Nat) (a6:Option Addr) (c6:Nat) (a7:Option Addr) (c7:Nat) (a2 a3:Option Addr) (l2 c2 l3 c3:Nat) (w1 w2 w3 w4:Int) (F1:List Nat) (z:SZ) (FT:List Nat) (hl:L9 n=true) (hi:i < n.Ao.Ad.length) (hi0:0 < i) (h8:Vg n.Ao.Ad) (hr:Eo n.Ao.Ad (i:Nat)=true→Bv (Qv n i)=true) (he:Eo n.Ao.Ad (i:Nat)=false→Ba (Qi n i)=true) (hp:Bt p=true) (hps:p.data.size≤maxLen) (hd:∀q∈n.down,q.length≤6) :
  Fn prog 227 [.agg #[.slice a1 n.Ao.Ad.length c1,.int .i64 w1,.int .i64 w2,.slice a2 l2 c2,.int .i64 w3,.int .i64 w4,.slice a3 l3 c3,.slice a4 n.Ao.Ad.length c4,.slice a5 n.Ao.Ad.length c5,.slice a6 n.Ao.Ad.length c6,.slice a7 n.Ao.Ad.length c7],.int .i64 (i:Nat),.agg #[.int .i64 (p).Cp,.int .i64 (p).Ae,.int .i64 (p).Ap,.int .i64 (p).Fg,.string (p).data]] [Gs FT,.sl Bb (.slice a1 n.Ao.Ad.length c1) n.Ao.Ad F1,.isv (EA Bk n.Ao.Ad.length) (.agg z.e.ys.flatten.toArray) n.Af z.e.G,.isv (EA Bi n.Ao.Ad.length) (.agg z.r.ys.flatten.toArray) n.Ac z.r.G,.isv (EA (Ml Ak FK) n.Ao.Ad.length) (.agg z.d.ys.flatten.toArray) n.down z.d.G,.isv (EA (Ml Ak FK) n.Ao.Ad.length) (.agg z.u.ys.flatten.toArray) n.up z.u.G] [.ow (EC 2) 149 (.slice a4 n.Ao.Ad.length c4) z.e.ys z.e.F,.ow (EC 5) 156 (.slice a5 n.Ao.Ad.length c5) z.r.ys z.r.F,.ow (EC 1) 158 (.slice a6 n.Ao.Ad.length c6) z.d.ys z.d.F,.ow (EC 1) 158 (.slice a7 n.Ao.Ad.length c7) z.u.ys z.u.F] (fun (_:SZ × KA)=>True) (fun y=>.slice y.2.a (C4 n i p).2.length y.2.c) (fun y=>[.ow (EC 2) 149 (.slice a4 n.Ao.Ad.length c4) y.1.e.ys y.1.e.F,.ow (EC 5) 156 (.slice a5 n.Ao.Ad.length c5) y.1.r.ys y.1.r.F,.ow (EC 1) 158 (.slice a6 n.Ao.Ad.length c6) y.1.d.ys y.1.d.F,.ow (EC 1) 158 (.slice a7 n.Ao.Ad.length c7) y.1.u.ys y.1.u.F,.isv (EA Bk n.Ao.Ad.length) (.agg y.1.e.ys.flatten.toArray) (C4 n i p).1.Af y.1.e.G,.isv (EA Bi n.Ao.Ad.length) (.agg y.1.r.ys.flatten.toArray) (C4 n i p).1.Ac y.1.r.G,.isv (EA (Ml Ak FK) n.Ao.Ad.length) (.agg y.1.d.ys.flatten.toArray) (C4 n i p).1.down y.1.d.G,.isv (EA (Ml Ak FK) n.Ao.Ad.length) (.agg y.1.u.ys.flatten.toArray) (C4 n i p).1.up y.1.u.G,.ow A8 9 (.slice y.2.a (C4 n i p).2.length y.2.c) (C4 n i p).2 y.2.F]):=by
 obtain ⟨q1,q2,q3,q4⟩:=Bl.1 hl;have hn8:=h8.n1;obtain ⟨d0,d1_⟩:=Adm (i:=i);refine enter func227 rfl ntmps227 fun w0=>?_;refine I3 n.Ao ?_;refine go ?_;intros;refine Ca (O1 n.Ao ((i:Nat):Int) _ F1 h8 FH) fun _ _=>?_;cases hlf:Eo n.Ao.Ad (i:Nat)
 rotate_left
 ·have hir:i < n.Ac.length:=FH
  have hgr:=Ek.1 (Hh hir▸hr hlf);have hev:=(Vs (d:=Ns i) hgr hp d0 d1_).2;rw [show C4 n i p=(⟨n.Ao,n.Ab,n.Af,n.Ac.set i (Di n.Ac[i] p (Ns i)),n.down,n.up⟩,Vc i (Io n.Ac[i] p)) by unfold C4;rw [if_pos hlf,Hh hir]];refine go ?_;refine Fs (ys:=z.r.ys) fun hm hlr=>?_;refine Ai1 (E:=Bi) (ys:=z.r.ys) (xs:=n.Ac) i hm FH FH fun h2 h3 v Gi ev=>?_;refine En (v:=v) (x:=n.Ac[i]) ?_;rintro b1 d1 G1 b2 d2 G2 rfl l1 l2
  have e8:z.r.ys[i]=[.bool (n.Ac[i]).Bd,.int .i64 (n.Ac[i]).Ai,.int .i64 (n.Ac[i]).Aa.next,.slice b1 (n.Ac[i]).Aa.Al.length d1,.slice b2 (n.Ac[i]).Am.length d2]:=KC
  refine Pv (E:=EC 5) (xs:=z.r.ys) (m:=5) (Me 5) i ?_ FM rfl h2;rintro _ g A cs B rfl k2 k3 hH;obtain ⟨k4, -, -⟩:=k3 w0;rw [e8] at k4;subst k4;dsimp only [List.append];refine go ?_
  refine Ew [1,3,5,6] [0,1,2,3,4,5,6,7,8,9,10,11,12,13,14,15] (fun w:Nat × NwS=>[(7,Il w.1 0 0),(8,.slice w.2.ae (Io n.Ac[i] p).length w.2.ce)]) (fun w=>[.row w.1 156 0 [] [.bool (Di n.Ac[i] p (Ns i)).Bd,.int .i64 (Di n.Ac[i] p (Ns i)).Ai,.int .i64 (Di n.Ac[i] p (Ns i)).Aa.next,.slice w.2.a1 (Di n.Ac[i] p (Ns i)).Aa.Al.length w.2.c1,.slice w.2.a2 (Di n.Ac[i] p (Ns i)).Am.length w.2.c2] [],.isv Bi (.agg #[.bool (Di n.Ac[i] p (Ns i)).Bd,.int .i64 (Di n.Ac[i] p (Ns i)).Ai,.int .i64 (Di n.Ac[i] p (Ns i)).Aa.next,.slice w.2.a1 (Di n.Ac[i] p (Ns i)).Aa.Al.length w.2.c1,.slice w.2.a2 (Di n.Ac[i] p (Ns i)).Am.length w.2.c2]) (Di n.Ac[i] p (Ns i)) w.2.F1,.ow A8 9 (.slice w.2.ae (Io n.Ac[i] p).length w.2.ce) (Io n.Ac[i] p) w.2.Fe]) (fun _=>True) ?_ fun w _=>?_
  ·skip
   refine As [0,4,5] [] ?_;refine Dq 0 1 2 3 ?_;refine Ec 4 5 ?_;refine dt 6 ?_;refine dM 7 12 ?_ ?_
   ·refine oC ?_;refine Ca (Wz i FH) fun _ _=>?_;refine dk ?_;refine dM 8 12 ?_ ?_
    ·refine oC ?_;refine Ca (Adx n.Ac[i] p (Ns i) _ Gi hgr hp d0 d1_) fun s _=>?_;refine dk ?_;refine Ec 9 10 ?_;refine dt 11 ?_;refine dN 12 ?_;apply Cr;rfl;intro _;refine dk ?_;refine dN 13 ?_;refine oS ?_;refine dk ?_;refine dt 14 ?_;refine dd ?_;refine Br (⟨_,s⟩:Nat × NwS) trivial
    ·apply Cr;rfl;intro _;exact BR
   ·apply Cr;rfl;intro _;refine dk ?_;refine dN 7 ?_;refine oC ?_;refine Ca (Wz i FH) fun _ _=>?_;exact BR
  obtain ⟨gr,s⟩:=w;dsimp only;refine Og ?_;intros;refine O5 (E:=EC 5) (xs:=z.r.ys) [.bool (Di n.Ac[i] p (Ns i)).Bd,.int .i64 (Di n.Ac[i] p (Ns i)).Ai,.int .i64 (Di n.Ac[i] p (Ns i)).Aa.next,.slice s.a1 (Di n.Ac[i] p (Ns i)).Aa.Al.length s.c1,.slice s.a2 (Di n.Ac[i] p (Ns i)).Am.length s.c2] hH (fun w=>⟨rfl,⟨rfl,GT⟩,rfl⟩) ?_;refine Um (E:=Bi) (ys:=z.r.ys) (xs:=n.Ac) (x:=Di n.Ac[i] p (Ns i)) i rfl hm FH fun G'=>?_;refine A4 (E:=A8) (xs:=Io n.Ac[i] p) fun Fq=>?_;refine go ?_;refine Ca (Alk i (Io n.Ac[i] p) _ _ Fq FT FH FH (Aht hgr hp)) fun u _=>?_
  refine go ?_;refine ret (⟨z.e,⟨z.r.ys.set i [.bool (Di n.Ac[i] p (Ns i)).Bd,.int .i64 (Di n.Ac[i] p (Ns i)).Ai,.int .i64 (Di n.Ac[i] p (Ns i)).Aa.next,.slice s.a1 (Di n.Ac[i] p (Ns i)).Aa.Al.length s.c1,.slice s.a2 (Di n.Ac[i] p (Ns i)).Am.length s.c2],[g],G'⟩,z.d,z.u⟩,u) trivial rfl
 ·have hir:i < n.Af.length:=FH
  have hge:Ba n.Af[i]=true:=Ju hir▸he hlf;have hel:=(Hm.1 hge).2.1;have hkl:=Vx n.Ao.Ad ((i:Nat):Int);have hkx:∀x∈Iw n.Ao.Ad ((i:Nat):Int),0≤x∧x.toNat < n.down.length:=fun x hx=>by have:=L0 h8 hx;omega
  have hri:=Apz h8 i;refine go ?_;refine Ca (Qm n.Ao ((i:Nat):Int) _ F1 (Tw h8.z FH) ⟨FH,FH⟩) fun u _=>?_;refine A4 (E:=Bb) (xs:=Iw n.Ao.Ad ((i:Nat):Int)) fun Fk=>?_;refine go ?_;refine A1 rfl (fun hk=>?_) (fun hk=>?_)
  ·rw [show C4 n i p=(⟨n.Ao,n.Ab,n.Af.set i (Qr n.Af[i] p.Ae),n.Ac,Dn n.down (Vp n.Af[i] p.Ae (Iw n.Ao.Ad ((i:Nat):Int))) [p],n.up⟩,[]) by unfold C4 Af4 Aaf;rw [if_neg KN,if_pos hk,if_pos hk,Ju hir]];rw [←Aus hge hri];refine go ?_;refine Fs (ys:=z.e.ys) fun hm hlr=>?_;refine Ai1 (E:=Bk) (ys:=z.e.ys) (xs:=n.Af) i hm FH FH fun h2 h3 v Gi ev=>?_;refine Fh (v:=v) (x:=n.Af[i]) ?_;rintro b1 d1 G1 rfl l1;have e8:z.e.ys[i]=[.int .i64 n.Af[i].Ai,.slice b1 n.Af[i].Ah.length d1]:=KC
   refine Pv (E:=EC 2) (xs:=z.e.ys) (m:=2) (Me 2) i ?_ FM rfl h2;rintro _ g A cs B rfl k2 k3 hH;obtain ⟨k4, -, -⟩:=k3 w0;rw [e8] at k4;subst k4;dsimp only [List.append];refine go ?_
   refine Ew [1,3,5,6,9] [0,1,2,3,4,5,6,7,8,9,10,11,12,13,14,15] (fun w:JE=>[(10,Il w.g 0 0),(11,.slice w.a (Ab3 n.Af[i] p.Ae (Iw n.Ao.Ad ((i:Nat):Int))).length w.c)]) (fun w=>[.row w.g 149 0 [] [.int .i64 (Qr n.Af[i] p.Ae).Ai,.slice w.b (Qr n.Af[i] p.Ae).Ah.length w.d] [],.isv Bk (.agg #[.int .i64 (Qr n.Af[i] p.Ae).Ai,.slice w.b (Qr n.Af[i] p.Ae).Ah.length w.d]) (Qr n.Af[i] p.Ae) w.F,.ow Bb 3 (.slice w.a (Ab3 n.Af[i] p.Ae (Iw n.Ao.Ad ((i:Nat):Int))).length w.c) (Ab3 n.Af[i] p.Ae (Iw n.Ao.Ad ((i:Nat):Int))) w.G]) (fun _=>True) ?_ fun w _=>?_
   ·skip
    refine As [0,4,5] [] ?_;refine Dq 0 1 2 3 ?_;refine Dq 4 5 6 7 ?_;refine dM 8 12 ?_ ?_
    ·refine oC ?_;refine Ca (Afc n.Af[i] p.Ae (Iw n.Ao.Ad ((i:Nat):Int)) _ Gi u.a u.c Fk FH (fun x hx=>by have:=P6 hge hx;omega) FH) fun s _=>?_;refine Hp ?_;rintro b3 d3 G3 es l3;rw [es];refine E6 (Qr n.Af[i] p.Ae) ?_;refine Ac0 Mh fun Fe=>?_;refine dk ?_;refine Ec 9 10 ?_;refine dt 11 ?_;refine dN 12 ?_;apply Cr;rfl;intro _;refine dk ?_;exact FD
    ·apply Cr;rfl;intro _;refine dk ?_;refine dN 8 ?_;refine oC ?_;refine Ca (Afc n.Af[i] p.Ae (Iw n.Ao.Ad ((i:Nat):Int)) _ Gi u.a u.c Fk FH (fun x hx=>by have:=P6 hge hx;omega) FH) fun s _=>?_;refine Hp ?_;rintro b3 d3 G3 es l3;rw [es];refine E6 (Qr n.Af[i] p.Ae) ?_;refine Ac0 Mh fun Fe=>?_;refine dk ?_;refine Ec 9 10 ?_;refine dt 11 ?_;exact FD
   refine Og ?_;intros;refine O5 (E:=EC 2) (xs:=z.e.ys) [.int .i64 (Qr n.Af[i] p.Ae).Ai,.slice w.b (Qr n.Af[i] p.Ae).Ah.length w.d] hH (fun _=>⟨rfl,⟨rfl,GT⟩,rfl⟩) ?_;refine Um (E:=Bk) (ys:=z.e.ys) (xs:=n.Af) (x:=Qr n.Af[i] p.Ae) i rfl hm FH fun G'=>?_;refine A4 (E:=Bb) (xs:=Ab3 n.Af[i] p.Ae (Iw n.Ao.Ad ((i:Nat):Int))) fun Fk2=>?_;refine Le (E:=Ak) (xs:=[p]) (Dc p hps) ?_ FI;refine A4 (E:=Ak) (xs:=[p]) fun Fp=>?_;refine go ?_
   refine Ca (Ok n.down (Ab3 n.Af[i] p.Ae (Iw n.Ao.Ad ((i:Nat):Int))) [p] _ _ _ _ _ _ _ _ _ _ _ _ _ _ _ _ _ _ _ _ _ _ _ _ _ z.d.ys z.d.F z.d.G _ _ Fk2 _ _ Fp (by rw [Aus hge hri];exact fun x hx=>hkx x (Ab2 x hx)) hd) fun y _=>?_;refine go ?_;intros;refine C7 A8 ?_;refine go ?_;refine ret (⟨⟨z.e.ys.set i [.int .i64 (Qr n.Af[i] p.Ae).Ai,.slice w.b (Qr n.Af[i] p.Ae).Ah.length w.d],[g],G'⟩,z.r,⟨y.ys,y.F,y.G⟩,z.u⟩,⟨0,_,_,_⟩) trivial rfl
  ·rw [show C4 n i p=(⟨n.Ao,n.Ab,n.Af,n.Ac,Dn n.down (Iw n.Ao.Ad ((i:Nat):Int)) [p],n.up⟩,[]) by unfold C4 Af4 Aaf;rw [if_neg KN,if_neg hk,if_neg hk]];refine Og ?_;intros;refine Le (E:=Ak) (xs:=[p]) (Dc p hps) ?_ FI;refine A4 (E:=Ak) (xs:=[p]) fun Fp=>?_;refine go ?_;refine Ca (Ok n.down (Iw n.Ao.Ad ((i:Nat):Int)) [p] _ _ _ _ _ _ _ _ _ _ _ _ _ _ _ _ _ _ _ _ _ _ _ _ _ z.d.ys z.d.F z.d.G _ _ Fk _ _ Fp hkx hd) fun w _=>?_;refine go ?_;intros;refine C7 A8 ?_;refine go ?_;refine ret (⟨z.e,z.r,⟨w.ys,w.F,w.G⟩,z.u⟩,⟨0,_,_,_⟩) trivial rfl
structure RjS where
 g:Nat
 a:Option Addr
 c:Nat
 a2:Option Addr
 c2:Nat
 F:List Nat
structure Bdn where
 a:Option Addr
 c:Nat
 F:List Nat
theorem Aw3 (x:Cj) (n:Int) (v:Value) (F:List Nat) (t0:0≤x.Aa.Ap) (t1:x.Aa.Ap≤65535) (hm:x.holds.length≤1000) (hn:Ajl x.holds) (n0:-1≤n) (n1:n≤65536) :
  FV 349 [v,.int .i64 n] [.isv Dp v x F] (.tuple #[.int .i64 (Gt x.Aa.Ap x.holds n:Nat),.bool (Pe x.Aa.Ap x.holds n)]):=by
 refine enter func349 rfl ntmps349 fun w0=>?_;refine H3 ?_;rintro a1 c1 F1 a2 c2 F2 rfl l1 l2;refine go ?_;intros;refine Eh [1,2,4,5] (fun k:Nat=>[(6,.int .i64 (k:Nat))]) (fun k=>k≤x.holds.length∧∀j (_:j < k) (h:j < x.holds.length),gp x.Aa.Ap x.holds[j].Ae < gp x.Aa.Ap n) (fun k=>x.holds.length - k) 0 ⟨Nat.zero_le _,fun j h=>by omega⟩ fun k hk=>?_;obtain ⟨hk1,hk2⟩:=hk;by_cases hlt:k < x.holds.length
 ·obtain ⟨m0,m1⟩:=hn x.holds[k] (List.getElem_mem hlt);refine X8 (xs:=x.holds) k ?_;rintro hi b o e;rw [e];refine go ?_;refine As [0,1] [] ?_;refine Dq 0 1 2 3 ?_;refine dt 4 ?_;rw [decide_eq_true (show (k:Int) < x.holds.length by omega)];refine dt 5 ?_;refine Do 6 ?_;refine Do 7 ?_;refine Do 8 ?_;refine Do 9 ?_;refine Do 10 ?_;refine Do 11 ?_;refine Do 12 ?_;refine Do 13 ?_;refine Do 14 ?_;refine Do 16 ?_;refine Do 17 ?_;refine Do 18 ?_;refine Do 19 ?_;refine d1g 15 ?_;apply On.h;refine oC ?_;refine ce (fun w s=>Jq _ _ _ FH FH) ?_;refine dk ?_;refine d1g 20 ?_;apply On.h
  refine oC ?_;refine ce (fun w s=>Jq _ _ _ FH FH) ?_;refine dk ?_;refine Do 21 ?_;refine dt 22 ?_;refine dd ?_;refine go ?_;refine A1 rfl (fun h=>?_) (fun h=>?_)
  ·refine go ?_;refine Cg (k+1) ⟨hlt,fun j hj hh=>?_⟩ FH;rcases Nat.lt_or_eq_of_le (Nat.lt_succ_iff.1 hj) with h2|rfl
   ·exact hk2 j h2 hh
   ·exact h
  ·have hh:Gt x.Aa.Ap x.holds n=k:=Y5 hk1 (fun j hj h=>decide_eq_true (hk2 j hj h)) (fun _=>decide_eq_false h);have ht:Pe x.Aa.Ap x.holds n=decide (x.holds[k].Ae=n):=by unfold Pe;rw [hh,List.getElem?_eq_getElem hlt]
   rw [ht,hh];refine go ?_;refine As [0,1] [] ?_;refine Dq 0 1 2 3 ?_;refine Ec 4 5 ?_;rw [decide_eq_true (show (k:Int) < x.holds.length by omega)];refine dt 6 ?_;refine Do 7 ?_;refine Do 8 ?_;refine Do 9 ?_;refine Do 10 ?_;refine Do 11 ?_;refine Do 12 ?_;refine Do 13 ?_;refine Do 14 ?_;refine Ec 15 16 ?_;refine dt 17 ?_;exact CP
 ·have hh:Gt x.Aa.Ap x.holds n=k:=Y5 hk1 (fun j hj h=>decide_eq_true (hk2 j hj h)) (fun h=>absurd h hlt);have ht:Pe x.Aa.Ap x.holds n=false:=by unfold Pe;rw [hh,List.getElem?_eq_none FH]
  rw [ht,hh];refine go ?_;refine As [0] [] ?_;refine Dq 0 1 2 3 ?_;refine dt 4 ?_;rw [decide_eq_false (show ¬(k:Int) < x.holds.length by omega)];refine dt 5 ?_;refine ds 6 ?_;refine ds 7 ?_;refine ds 8 ?_;refine ds 9 ?_;refine ds 10 ?_;refine ds 11 ?_;refine ds 12 ?_;refine ds 13 ?_;refine ds 14 ?_;refine ds 15 ?_;refine ds 16 ?_;refine ds 17 ?_;refine ds 18 ?_;refine ds 19 ?_;refine ds 20 ?_;refine ds 21 ?_;refine dt 22 ?_;refine dd ?_;refine go ?_;refine As [0] [] ?_;refine Dq 0 1 2 3 ?_;refine Ec 4 5 ?_;rw [decide_eq_false (show ¬(k:Int) < x.holds.length by omega)];refine dt 6 ?_
  refine ds 7 ?_;refine ds 8 ?_;refine ds 9 ?_;refine ds 10 ?_;refine ds 11 ?_;refine ds 12 ?_;refine ds 13 ?_;refine ds 14 ?_;refine Ec 15 16 ?_;refine dt 17 ?_;exact CP
theorem Aj2 (x:Cj) (p:Ar) (v:Value) (F:List Nat) (t0:0≤x.Aa.Ap) (t1:x.Aa.Ap≤65535) (hl:x.Aa.An.length≤6) (k0:0≤x.Ai) (k1:x.Ai≤99999) (hm:x.holds.length≤900) (hn:Ajl x.holds) (n0:-1≤p.Ae) (n1:p.Ae≤65536) (hps:p.data.size≤maxLen) (hans:(D0 x.Aa p).1.data.size≤maxLen) :
  Fn prog 297 [v,.agg #[.int .i64 p.Cp,.int .i64 p.Ae,.int .i64 p.Ap,.int .i64 p.Fg,.string p.data]] [.isv Dp v x F] [] (fun (_:TiS)=>True) (fun s=>.tuple #[.agg #[.int .i64 (Pm x p.Ae).Aa.Ap,.int .i64 (Pm x p.Ae).Aa.size,.slice s.a (Pm x p.Ae).Aa.An.length s.c,.int .i64 (Pm x p.Ae).Ai,.int .i64 (Pm x p.Ae).quiet,.slice s.a2 (Pm x p.Ae).holds.length s.c2],.slice s.ae (Oc x p).length s.ce])
   (fun s=>[.isv Dp (.agg #[.int .i64 (Pm x p.Ae).Aa.Ap,.int .i64 (Pm x p.Ae).Aa.size,.slice s.a (Pm x p.Ae).Aa.An.length s.c,.int .i64 (Pm x p.Ae).Ai,.int .i64 (Pm x p.Ae).quiet,.slice s.a2 (Pm x p.Ae).holds.length s.c2]) (Pm x p.Ae) s.F,.ow Ak 233 (.slice s.ae (Oc x p).length s.ce) (Oc x p) s.Fe]):=by
 refine enter func297 rfl ntmps297 fun w0=>?_;refine H3 ?_;rintro a1 c1 F1 a2 c2 F2 rfl l1 l2;refine C3 x.Aa (a1:=a1) ?_;generalize F1=F3;refine go ?_;intros
 refine Ew [2,3,4,5] [0,1,2,3,4,5,6] (fun s:RjS=>[(6,Il s.g 0 0)]) (fun s=>[.row s.g 47 0 [] [.int .i64 x.Aa.Ap,.int .i64 x.Aa.size,.slice s.a x.Aa.An.length s.c,.int .i64 x.Ai,.int .i64 x.quiet,.slice s.a2 (Jw x.Aa x.Ai x.holds).length s.c2] [],.isv Dp (.agg #[.int .i64 x.Aa.Ap,.int .i64 x.Aa.size,.slice s.a x.Aa.An.length s.c,.int .i64 x.Ai,.int .i64 x.quiet,.slice s.a2 (Jw x.Aa x.Ai x.holds).length s.c2]) (Y8 x x.Aa) s.F]) (fun _=>True) ?_ fun s _=>?_
 ·refine Og ?_;intros;refine As [1,2] [] ?_;refine Ec 0 1 ?_;refine dt 2 ?_;refine dM 3 5 ?_ ?_
  ·refine oC ?_;refine Ca (Tx x.Aa _ F3 t0 t1 FH) fun y _=>?_;refine Hl ?_;rintro a5 c5 F5 e5 l5;rw [e5];refine A4 (xs:=x.Aa.An) fun F8=>?_;refine C3 x.Aa (a1:=a5) ?_;refine dk ?_;refine dM 4 5 ?_ ?_
   ·refine oC ?_;refine Ca (Uc x x.Aa _ _ F _ t0 t1 FH hn) fun z _=>?_;refine dk ?_;refine dN 5 ?_;apply Cr;rfl;intro _;exact BV
   ·apply Cr;rfl;intro _;refine dk ?_;refine dN 4 ?_;refine oC ?_;refine Ca (Uc x x.Aa _ _ F _ t0 t1 FH hn) fun z _=>?_;exact BV
  ·apply Cr;rfl;intro _;refine dk ?_;refine dN 3 ?_;refine oC ?_;refine Ca (Tx x.Aa _ F3 t0 t1 FH) fun y _=>?_;refine Hl ?_;rintro a5 c5 F5 e5 l5;rw [e5];refine A4 (xs:=x.Aa.An) fun F8=>?_;refine C3 x.Aa (a1:=a5) ?_;refine dk ?_;refine dN 4 ?_;refine oC ?_;refine Ca (Uc x x.Aa _ _ F _ t0 t1 FH hn) fun z _=>?_;exact BV
 refine go ?_;refine cb (fun w st=>(Zj x.Aa p.Ae _ F3 t0 t1 n0 n1).val w (El (st.get (p:=.isv _ _ _ _) FI))) ?_;cases hb:Jb x.Aa p.Ae
 ·have e1:Pm x p.Ae=Y8 x x.Aa:=by unfold Pm;rw [hb];rfl
  have e2:Oc x p=[S0 x.Aa]:=by unfold Oc;rw [hb];rfl
  rw [e1,e2];refine go ?_;refine As [0,4] [] ?_;refine Ec 0 1 ?_;refine dt 2 ?_;refine dN 3 ?_;refine oC ?_;refine Ca (Aa9 x.Aa.Ap x.Aa.size _ x.Aa.An.length _ t0 t1 FH) fun _ _=>?_;refine dk ?_;refine dM 4 5 ?_ ?_
  ·apply Lr;rfl;rfl;rfl;rfl;exact Ll;exact Kv;intro _;refine dk ?_;refine dN 5 ?_;refine oS ?_;exact CK
  ·refine oS ?_;refine dk ?_;refine dN 4 ?_;apply Lr;rfl;rfl;rfl;rfl;exact Ll;exact Kv;intro _;exact CK
 refine go ?_;refine As [3,4] [] ?_;refine Dq 0 1 2 3 ?_;refine Ec 4 5 ?_;refine dt 6 ?_;refine dN 7 ?_;refine oC ?_;refine cb (fun w _=>Ue _ _ _ _ _ w t0 t1 FH) ?_;refine dk ?_;refine dt 8 ?_;refine dN 9 ?_;apply Lr;rfl;rfl;rfl;rfl;exact Ll;exact Kv;intro _;refine dk ?_;refine dt 10 ?_;refine dd ?_;refine Og ?_;intros;refine Le (xs:=[Abx x.Aa p.Ae]) (Dc _ ID) ?_ FI;refine go ?_;refine Ca (Aw3 x p.Ae _ F t0 t1 FH hn n0 n1) fun _ _=>?_;cases ht:Pe x.Aa.Ap x.holds p.Ae
 ·have e1:Pm x p.Ae=⟨x.Aa,x.Ai,x.quiet,(Ox x.holds (Gt x.Aa.Ap x.holds p.Ae) ⟨p.Ae,x.Ai+3⟩)⟩:=by unfold Pm;rw [hb,ht];rfl
  have e2:Oc x p=[Abx x.Aa p.Ae]++[(D0 x.Aa p).1]:=by unfold Oc;rw [hb,ht];rfl
  rw [e1,e2];have hkk:=Zg x.Aa.Ap x.holds p.Ae;refine Xi (E:=Bm) (xs:=x.holds) ?_;rintro _ _ e8 q1 q2;cases e8;refine go ?_;refine cb (fun w st=>(Ai3 x.Aa p _ F3 hps).val w (El (st.get (p:=.isv _ _ _ _) FI))) ?_;refine go ?_;intros;refine Avk (E:=Bm) (xs:=x.holds) (Gt x.Aa.Ap x.holds p.Ae) (fun FT=>?_) hkk;obtain ⟨T1,hT1⟩:∃T1,T1=x.holds.take (Gt x.Aa.Ap x.holds p.Ae):=⟨_,rfl⟩;have hT1l:T1.length=Gt x.Aa.Ap x.holds p.Ae:=by rw [hT1,List.length_take];omega
  rw [←hT1];have hAdd:T1++[⟨p.Ae,x.Ai+3⟩]++x.holds.drop (Gt x.Aa.Ap x.holds p.Ae)=(Ox x.holds (Gt x.Aa.Ap x.holds p.Ae) ⟨p.Ae,x.Ai+3⟩):=by rw [hT1];unfold Ox;simp
  refine Ew [4,5,6,7,10] [0,1,2,3,5,6,7,8,9,10,11,12] (fun _:Bdn=>[]) (fun z=>[.row s.g 47 0 [] [.int .i64 x.Aa.Ap,.int .i64 x.Aa.size,.slice s.a x.Aa.An.length s.c,.int .i64 x.Ai,.int .i64 x.quiet,.slice z.a (Ox x.holds (Gt x.Aa.Ap x.holds p.Ae) ⟨p.Ae,x.Ai+3⟩).length z.c] [],.ow Bm 203 (.slice z.a (Ox x.holds (Gt x.Aa.Ap x.holds p.Ae) ⟨p.Ae,x.Ai+3⟩).length z.c) (Ox x.holds (Gt x.Aa.Ap x.holds p.Ae) ⟨p.Ae,x.Ai+3⟩) z.F]) (fun _=>True) ?_ fun z _=>?_
  ·refine Og ?_;intros;refine As [1,8] [] ?_;refine Ec 1 2 ?_;refine dt 3 ?_;refine dt 4 ?_ (hy:=Pz (i:=T1.length) rfl rfl (by rw [hT1l]) FH FH);refine Dq 6 9 10 11 ?_;refine Asf 12 (Gt x.Aa.Ap x.holds p.Ae) (fun a6 c6 F6=>?_);refine dM 0 7 ?_ ?_
   ·apply Mp;rfl;intro _;refine C7 Bm ?_;refine dk ?_;refine dM 5 7 ?_ ?_
    ·refine Pf (ys:=T1) Jj Lc fun a7 c7 F7=>?_;rw [List.nil_append];refine dk ?_;refine dN 7 ?_;apply Lr;rfl;rfl;rfl;rfl;exact Ll;exact Kv;intro _;exact AI
    ·apply Lr;rfl;rfl;rfl;rfl;exact Ll;exact Kv;intro _;refine dk ?_;refine dN 5 ?_;refine Pf (ys:=T1) Jj Lc fun a7 c7 F7=>?_;rw [List.nil_append];exact AI
   ·apply Lr;rfl;rfl;rfl;rfl;exact Ll;exact Kv;intro _;refine dk ?_;refine dN 0 ?_;apply Mp;rfl;intro _;refine C7 Bm ?_;refine dk ?_;refine dN 5 ?_;refine Pf (ys:=T1) Jj Lc fun a7 c7 F7=>?_;rw [List.nil_append];exact AI
  refine H3 (x:=Y8 x x.Aa) ?_;rintro b1 d1 G1 b2 d2 G2 e5 m1 m2;simp only [Value.agg.injEq,Array.mk.injEq,List.cons.injEq,Value.slice.injEq,Value.int.injEq,true_and,and_true] at e5;obtain ⟨-, -,⟨rfl, -,rfl⟩, -⟩:=e5;refine A4 (E:=Bm) fun F9=>?_;refine Hf ⟨x.Aa,x.Ai,x.quiet,(Ox x.holds (Gt x.Aa.Ap x.holds p.Ae) ⟨p.Ae,x.Ai+3⟩)⟩ (a1:=s.a) ?_;refine go ?_;refine As [4,7] [] ?_;refine Ec 0 1 ?_;refine dt 2 ?_;refine dN 3 ?_;apply Lr;rfl;rfl;rfl;rfl;exact Ll;exact Kv;intro _;refine dk ?_;refine dN 4 ?_;refine Ps (Dc (D0 x.Aa p).1 hans) Hg fun a9 c9 F9=>?_;refine dk ?_;refine dN 5 ?_;refine oS ?_
  refine dk ?_;refine dt 6 ?_;refine dd ?_;refine go ?_;refine ret ⟨s.a,s.c,z.a,z.c,_,a9,c9,F9⟩ trivial rfl
 ·have e1:Pm x p.Ae=Y8 x x.Aa:=by unfold Pm;rw [hb,ht];rfl
  have e2:Oc x p=[Abx x.Aa p.Ae]:=by unfold Oc;rw [hb,ht];rfl
  rw [e1,e2];refine go ?_;refine ret ⟨s.a,s.c,s.a2,s.c2,s.F,_,_,_⟩ trivial rfl
theorem Am8 (x:Cj) (p:Ar) (v:Value) (F:List Nat) (hg:Cz x=true) (n0:0≤p.Ae) (n1:p.Ae≤65535) (hps:p.data.size≤maxLen) :
  Fn prog 297 [v,.agg #[.int .i64 p.Cp,.int .i64 p.Ae,.int .i64 p.Ap,.int .i64 p.Fg,.string p.data]] [.isv Dp v x F] [] (fun (_:TiS)=>True) (fun s=>.tuple #[.agg #[.int .i64 (M3 x p.Ae).Aa.Ap,.int .i64 (M3 x p.Ae).Aa.size,.slice s.a (M3 x p.Ae).Aa.An.length s.c,.int .i64 (M3 x p.Ae).Ai,.int .i64 (M3 x p.Ae).quiet,.slice s.a2 (M3 x p.Ae).holds.length s.c2],.slice s.ae (Oc x p).length s.ce])
   (fun s=>[.isv Dp (.agg #[.int .i64 (M3 x p.Ae).Aa.Ap,.int .i64 (M3 x p.Ae).Aa.size,.slice s.a (M3 x p.Ae).Aa.An.length s.c,.int .i64 (M3 x p.Ae).Ai,.int .i64 (M3 x p.Ae).quiet,.slice s.a2 (M3 x p.Ae).holds.length s.c2]) (M3 x p.Ae) s.F,.ow Ak 233 (.slice s.ae (Oc x p).length s.ce) (Oc x p) s.Fe]):=by
 obtain ⟨gw,hl,t0,t1,k0,k1,hm,hn,hu,hb⟩:=Lx hg;have h:=Aj2 x p v F t0 t1 hl k0 FH FH (Agt hn) FH FH hps (Ag2 gw);rw [Bbz hg] at h;exact h
structure JU where
 g:Nat
 b:Option Addr
 d:Nat
 F:List Nat
theorem Bes (n:Dv) (i:Nat) (p:Ar) (a1:Option Addr) (c1:Nat) (a4:Option Addr) (c4:Nat) (a5:Option Addr) (c5:Nat) (a6:Option Addr) (c6:Nat) (a7:Option Addr) (c7:Nat) (a2 a3:Option Addr) (c2 c3:Nat) (F1 FS:List Nat) (z:SZ) (hl:L9 n=true) (h0:i≠0) (hi:i < n.Ao.Ad.length) (h8:Vg n.Ao.Ad) (hsrc:Cz n.Ab=true) (he:∀k,k≠0→k < n.Ao.Ad.length→Eo n.Ao.Ad (k:Nat)=false→Ba (Qi n k)=true) (hp:Bt p=true) (hps:p.data.size≤maxLen) (hd:∀q∈n.down,q.length≤6) (hu:∀q∈n.up,q.length≤6) :
  Fn prog 228 [.agg #[.slice a1 n.Ao.Ad.length c1,.int .i64 n.Ab.Aa.Ap,.int .i64 n.Ab.Aa.size,.slice a2 n.Ab.Aa.An.length c2,.int .i64 n.Ab.Ai,.int .i64 n.Ab.quiet,.slice a3 n.Ab.holds.length c3,.slice a4 n.Ao.Ad.length c4,.slice a5 n.Ao.Ad.length c5,.slice a6 n.Ao.Ad.length c6,.slice a7 n.Ao.Ad.length c7],.int .i64 (i:Nat),.agg #[.int .i64 (p).Cp,.int .i64 (p).Ae,.int .i64 (p).Ap,.int .i64 (p).Fg,.string (p).data]] [.sl Bb (.slice a1 n.Ao.Ad.length c1) n.Ao.Ad F1,.isv Dp (.agg #[.int .i64 n.Ab.Aa.Ap,.int .i64 n.Ab.Aa.size,.slice a2 n.Ab.Aa.An.length c2,.int .i64 n.Ab.Ai,.int .i64 n.Ab.quiet,.slice a3 n.Ab.holds.length c3]) n.Ab FS,.isv (EA Bk n.Ao.Ad.length) (.agg z.e.ys.flatten.toArray) n.Af z.e.G,.isv (EA Bi n.Ao.Ad.length) (.agg z.r.ys.flatten.toArray) n.Ac z.r.G,.isv (EA (Ml Ak FK) n.Ao.Ad.length) (.agg z.d.ys.flatten.toArray) n.down z.d.G,.isv (EA (Ml Ak FK) n.Ao.Ad.length) (.agg z.u.ys.flatten.toArray) n.up z.u.G] [.ow (EC 2) 149 (.slice a4 n.Ao.Ad.length c4) z.e.ys z.e.F,.ow (EC 5) 156 (.slice a5 n.Ao.Ad.length c5) z.r.ys z.r.F,.ow (EC 1) 158 (.slice a6 n.Ao.Ad.length c6) z.d.ys z.d.F,.ow (EC 1) 158 (.slice a7 n.Ao.Ad.length c7) z.u.ys z.u.F] (fun (_:SZ × Amp)=>True) (fun y=>.agg #[.int .i64 ((Q5 n i p).Ab).Aa.Ap,.int .i64 ((Q5 n i p).Ab).Aa.size,.slice y.2.a ((Q5 n i p).Ab).Aa.An.length y.2.c,.int .i64 ((Q5 n i p).Ab).Ai,.int .i64 ((Q5 n i p).Ab).quiet,.slice y.2.a2 ((Q5 n i p).Ab).holds.length y.2.c2]) (fun y=>[.ow (EC 2) 149 (.slice a4 n.Ao.Ad.length c4) y.1.e.ys y.1.e.F,.ow (EC 5) 156 (.slice a5 n.Ao.Ad.length c5) y.1.r.ys y.1.r.F,.ow (EC 1) 158 (.slice a6 n.Ao.Ad.length c6) y.1.d.ys y.1.d.F,.ow (EC 1) 158 (.slice a7 n.Ao.Ad.length c7) y.1.u.ys y.1.u.F,.isv (EA Bk n.Ao.Ad.length) (.agg y.1.e.ys.flatten.toArray) (Q5 n i p).Af y.1.e.G,.isv (EA Bi n.Ao.Ad.length) (.agg y.1.r.ys.flatten.toArray) (Q5 n i p).Ac y.1.r.G,.isv (EA (Ml Ak FK) n.Ao.Ad.length) (.agg y.1.d.ys.flatten.toArray) (Q5 n i p).down y.1.d.G,.isv (EA (Ml Ak FK) n.Ao.Ad.length) (.agg y.1.u.ys.flatten.toArray) (Q5 n i p).up y.1.u.G,.isv Dp (.agg #[.int .i64 ((Q5 n i p).Ab).Aa.Ap,.int .i64 ((Q5 n i p).Ab).Aa.size,.slice y.2.a ((Q5 n i p).Ab).Aa.An.length y.2.c,.int .i64 ((Q5 n i p).Ab).Ai,.int .i64 ((Q5 n i p).Ab).quiet,.slice y.2.a2 ((Q5 n i p).Ab).holds.length y.2.c2]) (Q5 n i p).Ab y.2.F]):=by
 obtain ⟨q1,q2,q3,q4⟩:=Bl.1 hl;have hn8:=h8.n1;obtain ⟨n0,n1⟩:=Kw hp;have hone:∀x∈[((i:Nat):Int)],0≤x∧x.toNat < n.down.length:=fun x hx=>by
  rw [List.mem_singleton] at hx;subst hx;omega
 obtain ⟨k,hk⟩:∃k,Z4 n i=k:=⟨_,rfl⟩;obtain ⟨e1,e2,e3⟩:=Au7 h8 hi h0 hk;refine enter func228 rfl ntmps228 fun w0=>?_;refine I6 (xs:=n.Ao.Ad) i ?_;rintro hi2 b o e4;rw [e4,e1];refine go ?_;intros;refine A1 rfl (fun h5=>?_) (fun h5=>?_)
 ·obtain rfl:k=0:=FH
  rw [show Q5 n i p=⟨n.Ao,M3 n.Ab p.Ae,n.Af,n.Ac,Dn n.down [((i:Nat):Int)] (Oc n.Ab p),n.up⟩ by unfold Q5;rw [if_pos hk]];refine go ?_;refine Ca (Am8 n.Ab p _ FS hsrc n0 n1 hps) fun u _=>?_;refine Og ?_;intros;refine Le (E:=Bb) (xs:=[((i:Nat):Int)]) (Q3 _) ?_ FI;refine A4 (E:=Bb) (xs:=[((i:Nat):Int)]) fun Fo=>?_;refine A4 (E:=Ak) (xs:=Oc n.Ab p) fun Fq=>?_;refine go ?_;refine Ca (Ok n.down [((i:Nat):Int)] (Oc n.Ab p) _ _ _ _ _ _ _ _ _ _ _ _ _ _ _ _ _ _ _ _ _ _ _ _ _ z.d.ys z.d.F z.d.G _ _ Fo _ _ Fq hone hd) fun y _=>?_;refine go ?_
  refine ret (⟨⟨z.e,z.r,⟨y.ys,y.F,y.G⟩,z.u⟩,⟨u.a,u.c,u.a2,u.c2,u.F⟩⟩:SZ × Amp) trivial rfl
 have h6:k≠0:=FH
 have hkl:k < n.Af.length:=FH
 have hku:k < n.up.length:=FH
 have hge:Ba n.Af[k]=true:=Ju hkl▸he k h6 FH e3;have hel:=(Hm.1 hge).2.1;obtain ⟨hc0,hc1⟩:=Oz.1 (Hm.1 hge).1;rw [show Q5 n i p=⟨n.Ao,n.Ab,n.Af.set k (Pd n.Af[k] p.Ae ((i:Nat):Int)),n.Ac,Dn n.down [((i:Nat):Int)] [Aax p],if Adp n.Af[k] p.Ae then n.up.modify k fun q=>Hq q [p] else n.up⟩ by unfold Q5;rw [if_neg FH,hk,Ju hkl]];refine go ?_;refine Fs (ys:=z.e.ys) fun hm hlr=>?_;refine Ai1 (E:=Bk) (ys:=z.e.ys) (xs:=n.Af) k hm FH FH fun h2 h3 v Gi ev=>?_;refine Fh (v:=v) (x:=n.Af[k]) ?_;rintro b1 d1 G1 rfl l1
 have e8:z.e.ys[k]=[.int .i64 n.Af[k].Ai,.slice b1 n.Af[k].Ah.length d1]:=KC
 refine Pv (E:=EC 2) (xs:=z.e.ys) (m:=2) (Me 2) k ?_ FM rfl h2;rintro _ g A cs B rfl k2 k3 hH;obtain ⟨k4, -, -⟩:=k3 w0;rw [e8] at k4;subst k4;dsimp only [List.append];refine go ?_
 refine Ew [1,3,5,6,7] [0,1,2,3,4,5,6,7,8,9,10,11,12,13,14,15] (fun w:JU=>[(10,Il w.g 0 0),(11,.bool (Adp n.Af[k] p.Ae))]) (fun w=>[.row w.g 149 0 [] [.int .i64 (Pd n.Af[k] p.Ae ((i:Nat):Int)).Ai,.slice w.b (Pd n.Af[k] p.Ae ((i:Nat):Int)).Ah.length w.d] [],.isv Bk (.agg #[.int .i64 (Pd n.Af[k] p.Ae ((i:Nat):Int)).Ai,.slice w.b (Pd n.Af[k] p.Ae ((i:Nat):Int)).Ah.length w.d]) (Pd n.Af[k] p.Ae ((i:Nat):Int)) w.F]) (fun _=>True) ?_ fun w _=>?_
 ·skip
  refine As [0,4,5] [] ?_;refine Dq 0 1 2 3 ?_;refine Dq 4 5 6 7 ?_;refine dM 8 12 ?_ ?_
  ·refine oC ?_;refine Ca (Ace n.Af[k] p.Ae ((i:Nat):Int) _ Gi FH (fun x hx=>by have:=P6 hge hx;omega) FH FH) fun s _=>?_;refine Hp ?_;rintro b3 d3 G3 es l3;rw [es];refine E6 (Pd n.Af[k] p.Ae ((i:Nat):Int)) ?_;refine Ac0 Mh fun Fe=>?_;refine dk ?_;refine Ec 9 10 ?_;refine dt 11 ?_;refine dN 12 ?_;apply Cr;rfl;intro _;refine dk ?_;refine dN 13 ?_;refine oS ?_;refine dk ?_;refine dt 14 ?_;refine dd ?_;refine Br (⟨_,b3,d3,Fe⟩:JU) trivial
  ·apply Cr;rfl;intro _;refine dk ?_;refine dN 8 ?_;refine oC ?_;refine Ca (Ace n.Af[k] p.Ae ((i:Nat):Int) _ Gi FH (fun x hx=>by have:=P6 hge hx;omega) FH FH) fun s _=>?_;refine Hp ?_;rintro b3 d3 G3 es l3;rw [es];refine E6 (Pd n.Af[k] p.Ae ((i:Nat):Int)) ?_;refine Ac0 Mh fun Fe=>?_;refine dk ?_;refine Ec 9 10 ?_;refine dt 11 ?_;refine dN 13 ?_;refine oS ?_;refine dk ?_;refine dt 14 ?_;refine dd ?_;refine Br (⟨_,b3,d3,Fe⟩:JU) trivial
 refine Og ?_;intros;refine O5 (E:=EC 2) (xs:=z.e.ys) [.int .i64 (Pd n.Af[k] p.Ae ((i:Nat):Int)).Ai,.slice w.b (Pd n.Af[k] p.Ae ((i:Nat):Int)).Ah.length w.d] hH (fun _=>⟨rfl,⟨rfl,GT⟩,rfl⟩) ?_;refine Um (E:=Bk) (ys:=z.e.ys) (xs:=n.Af) (x:=Pd n.Af[k] p.Ae ((i:Nat):Int)) k rfl hm FH fun G'=>?_;refine Le (E:=Bb) (xs:=[((i:Nat):Int)]) (Q3 _) ?_ FI;refine A4 (E:=Bb) (xs:=[((i:Nat):Int)]) fun Fo=>?_;refine Le (E:=Ak) (xs:=[Aax p]) (Dc (Aax p) (Nat.zero_le _)) ?_ FI;refine A4 (E:=Ak) (xs:=[Aax p]) fun Fp=>?_;refine go ?_
 refine Ca (Ok n.down [((i:Nat):Int)] [Aax p] _ _ _ _ _ _ _ _ _ _ _ _ _ _ _ _ _ _ _ _ _ _ _ _ _ z.d.ys z.d.F z.d.G _ _ Fo _ _ Fp hone hd) fun y _=>?_;cases hf:Adp n.Af[k] p.Ae
 ·rw [if_neg FK];refine go ?_;refine ret (⟨⟨⟨z.e.ys.set k [.int .i64 (Pd n.Af[k] p.Ae ((i:Nat):Int)).Ai,.slice w.b (Pd n.Af[k] p.Ae ((i:Nat):Int)).Ah.length w.d],[g],G'⟩,z.r,⟨y.ys,y.F,y.G⟩,z.u⟩,⟨a2,c2,a3,c3,FS⟩⟩:SZ × Amp) trivial rfl
 ·rw [if_pos rfl,Ik hku];have hu6:=hu _ (List.getElem_mem hku);refine go ?_;refine Fs (ys:=z.u.ys) fun hmu hlu=>?_;refine Ai0 (ys:=z.u.ys) (xs:=n.up) k hmu FH FH fun h9 _ Gu=>?_;refine Adu (x:=n.up[k]) fun a9 c9 e9 l9=>?_;have e10:z.u.ys[k]=[.slice a9 n.up[k].length c9]:=KH
  refine Pv (E:=EC 1) (xs:=z.u.ys) (m:=1) (Me 1) k ?_ FM rfl h9;rintro _ gu Au cs Bu rfl j2 j3 hHu;obtain ⟨j4, -, -⟩:=j3 w0;rw [e10] at j4;subst j4;refine go ?_;refine As [0,14,15] [12] ?_;refine Dq 0 1 2 3 ?_;refine Dq 4 5 6 7 ?_;refine dt 8 ?_;refine dN 9 ?_;apply Lr;rfl;rfl;rfl;rfl;exact Ll;exact Kv;intro _;refine Le (E:=Ak) (xs:=[p]) (Dc p hps) ?_ FI;refine A4 (E:=Ak) (xs:=[p]) fun Fp2=>?_;refine dk ?_;refine dN 10 ?_;refine oC ?_;refine Ca (Ah0 n.up[k] [p] a9 c9 _ _ _ Fp2 FH) fun r _=>?_;refine dk ?_;refine dt 11 ?_
  refine dN 12 ?_;refine oS ?_;refine Tf ?_;refine dd ?_;refine O5 (E:=EC 1) (xs:=z.u.ys) [.slice r.a (Hq n.up[k] [p]).length r.c] hHu (fun w=>⟨rfl,⟨rfl,GT⟩,rfl⟩) ?_;refine A4 (E:=Ak) (xs:=Hq n.up[k] [p]) fun Fu=>?_;refine Aem (E:=Ak) (x:=Hq n.up[k] [p]) FK ?_;refine Um (E:=Ml Ak FK) (ys:=z.u.ys) (xs:=n.up) (x:=Hq n.up[k] [p]) k rfl hmu FH fun Gv=>?_;refine go ?_
  refine ret (⟨⟨⟨z.e.ys.set k [.int .i64 (Pd n.Af[k] p.Ae ((i:Nat):Int)).Ai,.slice w.b (Pd n.Af[k] p.Ae ((i:Nat):Int)).Ah.length w.d],[g],G'⟩,z.r,⟨y.ys,y.F,y.G⟩,⟨z.u.ys.set k [.slice r.a (Hq n.up[k] [p]).length r.c],[gu],Gv⟩⟩,⟨a2,c2,a3,c3,FS⟩⟩:SZ × Amp) trivial rfl
structure TkZ where
 k:Nat
 z:SZ
 a:Option Addr
 c:Nat
 F:List Nat
theorem Axe (n:Dv) (a1:Option Addr) (c1:Nat) (a4:Option Addr) (c4:Nat) (a5:Option Addr) (c5:Nat) (a6:Option Addr) (c6:Nat) (a7:Option Addr) (c7:Nat) (a2 a3:Option Addr) (c2 c3:Nat) (F1 FS FT:List Nat) (z:SZ) (hg:At n=true) (hc:n.Ab.Ai < 9999) :
  Fn prog 226 [.agg #[.slice a1 n.Ao.Ad.length c1,.int .i64 n.Ab.Aa.Ap,.int .i64 n.Ab.Aa.size,.slice a2 n.Ab.Aa.An.length c2,.int .i64 n.Ab.Ai,.int .i64 n.Ab.quiet,.slice a3 n.Ab.holds.length c3,.slice a4 n.Ao.Ad.length c4,.slice a5 n.Ao.Ad.length c5,.slice a6 n.Ao.Ad.length c6,.slice a7 n.Ao.Ad.length c7]] [Gs FT,.sl Bb (.slice a1 n.Ao.Ad.length c1) n.Ao.Ad F1,.isv Dp (.agg #[.int .i64 n.Ab.Aa.Ap,.int .i64 n.Ab.Aa.size,.slice a2 n.Ab.Aa.An.length c2,.int .i64 n.Ab.Ai,.int .i64 n.Ab.quiet,.slice a3 n.Ab.holds.length c3]) n.Ab FS,.isv (EA Bk n.Ao.Ad.length) (.agg z.e.ys.flatten.toArray) n.Af z.e.G,.isv (EA Bi n.Ao.Ad.length) (.agg z.r.ys.flatten.toArray) n.Ac z.r.G,.isv (EA (Ml Ak FK) n.Ao.Ad.length) (.agg z.d.ys.flatten.toArray) n.down z.d.G,.isv (EA (Ml Ak FK) n.Ao.Ad.length) (.agg z.u.ys.flatten.toArray) n.up z.u.G] [.ow (EC 2) 149 (.slice a4 n.Ao.Ad.length c4) z.e.ys z.e.F,.ow (EC 5) 156 (.slice a5 n.Ao.Ad.length c5) z.r.ys z.r.F,.ow (EC 1) 158 (.slice a6 n.Ao.Ad.length c6) z.d.ys z.d.F,.ow (EC 1) 158 (.slice a7 n.Ao.Ad.length c7) z.u.ys z.u.F] (fun (_:SZ × TiS × KA)=>True) (fun y=>.tuple #[.agg #[.int .i64 ((Gp n).1.Ab).Aa.Ap,.int .i64 ((Gp n).1.Ab).Aa.size,.slice y.2.1.a ((Gp n).1.Ab).Aa.An.length y.2.1.c,.int .i64 ((Gp n).1.Ab).Ai,.int .i64 ((Gp n).1.Ab).quiet,.slice y.2.1.a2 ((Gp n).1.Ab).holds.length y.2.1.c2],.slice y.2.2.a (Gp n).2.length y.2.2.c]) (fun y=>[.ow (EC 2) 149 (.slice a4 n.Ao.Ad.length c4) y.1.e.ys y.1.e.F,.ow (EC 5) 156 (.slice a5 n.Ao.Ad.length c5) y.1.r.ys y.1.r.F,.ow (EC 1) 158 (.slice a6 n.Ao.Ad.length c6) y.1.d.ys y.1.d.F,.ow (EC 1) 158 (.slice a7 n.Ao.Ad.length c7) y.1.u.ys y.1.u.F,.isv (EA Bk n.Ao.Ad.length) (.agg y.1.e.ys.flatten.toArray) (Gp n).1.Af y.1.e.G,.isv (EA Bi n.Ao.Ad.length) (.agg y.1.r.ys.flatten.toArray) (Gp n).1.Ac y.1.r.G,.isv (EA (Ml Ak FK) n.Ao.Ad.length) (.agg y.1.d.ys.flatten.toArray) (Gp n).1.down y.1.d.G,.isv (EA (Ml Ak FK) n.Ao.Ad.length) (.agg y.1.u.ys.flatten.toArray) (Gp n).1.up y.1.u.G,.isv Dp (.agg #[.int .i64 ((Gp n).1.Ab).Aa.Ap,.int .i64 ((Gp n).1.Ab).Aa.size,.slice y.2.1.a ((Gp n).1.Ab).Aa.An.length y.2.1.c,.int .i64 ((Gp n).1.Ab).Ai,.int .i64 ((Gp n).1.Ab).quiet,.slice y.2.1.a2 ((Gp n).1.Ab).holds.length y.2.1.c2]) (Gp n).1.Ab y.2.1.F,.ow A8 9 (.slice y.2.2.a (Gp n).2.length y.2.2.c) (Gp n).2 y.2.2.F]):=by
 have hG:=Az.1 hg;have h8:=H8 hG.t;have hn8:=h8.n1;have hn2:=h8.n0;obtain ⟨q1,q2,q3,q4⟩:=Bl.1 hG.l;have hkl:=Vx n.Ao.Ad 0;have hkx:∀x∈Iw n.Ao.Ad 0,0≤x∧x.toNat < n.down.length:=fun x hx=>by have:=L0 (i:=0) h8 hx;omega
 have hd:∀q∈n.down,q.length≤6:=fun q hq=>(C9 ((In hg).2.2.1 q hq)).1;refine enter func226 rfl ntmps226 fun w0=>?_;refine I3 n.Ao ?_;refine go ?_;intros;refine Ca (Aw5 n.Ab _ FS hG.s) fun u _=>?_;refine A4 (E:=Ak) (xs:=Oa n.Ab.Aa n.Ab.quiet) fun Fp=>?_;refine go ?_;intros;refine As [4] [] ?_;refine Dq 0 1 2 4 ?_;refine dN 3 ?_;refine oC ?_;refine Ca (Qm n.Ao 0 _ F1 (Tw h8.z (Int.le_refl _)) ⟨FH,FH⟩) fun v _=>?_;refine A4 (E:=Bb) (xs:=Iw n.Ao.Ad 0) fun Fk=>?_;refine dk ?_;refine dN 5 ?_;refine oC ?_
 refine Ca (Ok n.down (Iw n.Ao.Ad 0) (Oa n.Ab.Aa n.Ab.quiet) _ _ _ _ _ _ _ _ _ _ _ _ _ _ _ _ _ _ _ _ _ _ _ _ _ z.d.ys z.d.F z.d.G _ _ Fk _ _ Fp hkx hd) fun y _=>?_;refine dk ?_;refine dd ?_;rw [show Dn n.down (Iw n.Ao.Ad 0) (Oa n.Ab.Aa n.Ab.quiet)=(Be n 0).1.down from rfl];refine go ?_;intros;refine C7 A8 ?_;refine go ?_
 refine Cd [1,2,3,4] (fun s:TkZ=>[(6,.slice s.a (Be n s.k).2.length s.c),(7,.int .i64 ((s.k+1:Nat):Int))]) (fun s=>[.ow (EC 2) 149 (.slice a4 n.Ao.Ad.length c4) s.z.e.ys s.z.e.F,.ow (EC 5) 156 (.slice a5 n.Ao.Ad.length c5) s.z.r.ys s.z.r.F,.ow (EC 1) 158 (.slice a6 n.Ao.Ad.length c6) s.z.d.ys s.z.d.F,.ow (EC 1) 158 (.slice a7 n.Ao.Ad.length c7) s.z.u.ys s.z.u.F,.isv (EA Bk n.Ao.Ad.length) (.agg s.z.e.ys.flatten.toArray) (Be n s.k).1.Af s.z.e.G,.isv (EA Bi n.Ao.Ad.length) (.agg s.z.r.ys.flatten.toArray) (Be n s.k).1.Ac s.z.r.G,.isv (EA (Ml Ak FK) n.Ao.Ad.length) (.agg s.z.d.ys.flatten.toArray) (Be n s.k).1.down s.z.d.G,.isv (EA (Ml Ak FK) n.Ao.Ad.length) (.agg s.z.u.ys.flatten.toArray) (Be n s.k).1.up s.z.u.G,.ow A8 9 (.slice s.a (Be n s.k).2.length s.c) (Be n s.k).2 s.F]) (fun s=>s.k+1≤n.Ao.Ad.length∧(Be n s.k).2.length≤40000 * s.k) (fun s=>n.Ao.Ad.length - s.k) ⟨0,⟨z.e,z.r,⟨y.ys,y.F,y.G⟩,z.u⟩,_,_,_⟩ ⟨by show 0+1≤_;omega,Nat.le_refl _⟩ fun s hs0=>?_
 obtain ⟨k,⟨⟨ye,Fe,Ge⟩,⟨yr,Fr,Gr⟩,⟨yd,Fd,Gd⟩,⟨yu,Fu,Gu⟩⟩,ea,ec,eF⟩:=s;obtain ⟨hk,hel⟩:=hs0;dsimp only at hk hel ⊢;obtain ⟨hGN,hT,hSrc⟩:=Qc hg hc k FH;obtain ⟨r1,r2,r3,r4⟩:=Bl.1 hGN.l;rw [hT] at r1 r2 r3 r4;refine go ?_;refine A1 rfl (fun h1=>?_) (fun h1=>?_)
 ·have hj:k+1 < n.Ao.Ad.length:=FH
  obtain ⟨i1,i2,i3,i4,hrn⟩:=hGN.rn (i:=k+1) (by rw [hT];exact hj);rw [hT] at hrn;obtain ⟨d0,d1_⟩:=Adm (i:=k+1);refine go ?_;refine Ca (O1 n.Ao ((k+1:Nat):Int) _ F1 h8 FH) fun _ _=>?_;cases hlf:Eo n.Ao.Ad ((k+1:Nat):Int)
  ·obtain ⟨hge,hck, -⟩:=hrn.hn FH hlf;obtain ⟨hgc,hel5, -⟩:=Hm.1 hge;have hnx:Be n (k+1)=(⟨n.Ao,Nr n.Ab,(Be n k).1.Af.set (k+1) (Fj (Be n k).1.Af[k+1]),(Be n k).1.Ac,(Be n k).1.down,(Be n k).1.up⟩,(Be n k).2++[]):=by
    exact FF
   rw [List.append_nil] at hnx;refine go ?_;refine Fs (ys:=ye) fun hm hlr=>?_;refine Ai1 (E:=Bk) (ys:=ye) (xs:=(Be n k).1.Af) (k+1) hm FH FH fun h2 h3 v Gi ev=>?_;generalize hE:(Be n k).1.Af[k+1]=E at *;refine Fh (v:=v) (x:=E) ?_;rintro b1 d1 G1 rfl l1;have e8:ye[k+1]=[.int .i64 E.Ai,.slice b1 E.Ah.length d1]:=KC
   refine Pv (E:=EC 2) (xs:=ye) (m:=2) (Me 2) (k+1) ?_ FM rfl h2;rintro _ g A cs B rfl k2 k3 hH;obtain ⟨k4, -, -⟩:=k3 w0;rw [e8] at k4;subst k4;dsimp only [List.append];refine go ?_;refine As [0,16] [10] ?_;refine Dq 0 1 2 3 ?_;refine Dq 4 5 6 7 ?_;refine dN 8 ?_;refine oC ?_;refine cr (fun w st=>Axc _ E Gi w (st.get (p:=.isv _ _ _ _) FL) hgc FH (fun x hx=>by have:=P6 hge hx;omega)) fun v3 FU=>?_;refine Fh (v:=v3) ?_;rintro b3 d3 G3 rfl l3;refine dk ?_;refine dt 9 ?_;refine dN 10 ?_;refine oS ?_;refine Tf ?_;refine dd ?_
   refine O5 (E:=EC 2) (xs:=ye) [.int .i64 (Fj E).Ai,.slice b3 (Fj E).Ah.length d3] hH (fun _=>⟨rfl,⟨rfl,GT⟩,rfl⟩) ?_;refine Um (E:=Bk) (ys:=ye) (xs:=(Be n k).1.Af) (x:=Fj E) (k+1) rfl hm FH fun G'=>?_;refine go ?_;refine Cg ⟨k+1,⟨⟨ye.set (k+1) [.int .i64 (Fj E).Ai,.slice b3 (Fj E).Ah.length d3],[g],G'⟩,⟨yr,Fr,Gr⟩,⟨yd,Fd,Gd⟩,⟨yu,Fu,Gu⟩⟩,ea,ec,eF⟩ ⟨KG,by rw [hnx];dsimp only;omega⟩ GR GX GW
  ·obtain ⟨-,hgr0,hck⟩:=hrn.hf FH hlf;have hgr:=Ek.1 hgr0;obtain ⟨hsm,hfew⟩:=Aeq hgr;have hnx:Be n (k+1)=(⟨n.Ao,Nr n.Ab,(Be n k).1.Af,(Be n k).1.Ac.set (k+1) (Cv (Be n k).1.Ac[k+1] (Ns (k+1))),(Be n k).1.down,(Be n k).1.up.set (k+1) (Hq (Be n k).1.up[k+1] (E8 (Be n k).1.Ac[k+1]))⟩,(Be n k).2++Vc (k+1) (Hw (Be n k).1.Ac[k+1])):=by
    show ((N9 (Be n k).1 (k+1)).1,(Be n k).2++(N9 (Be n k).1 (k+1)).2)=_;unfold N9;rw [hT,hlf,if_pos rfl,Hh i2,hSrc,Ik i4]
   have htl:(Vc (k+1) (Hw (Be n k).1.Ac[k+1])).length=(Hw (Be n k).1.Ac[k+1]).length:=List.length_map ..;have hu6:=(C9 hrn.hu).1;generalize hR:(Be n k).1.Ac[k+1]=R at *;generalize hQ:(Be n k).1.up[k+1]=Q at *;refine go ?_;refine Fs (ys:=yr) fun hm hlr=>?_;refine Ai1 (E:=Bi) (ys:=yr) (xs:=(Be n k).1.Ac) (k+1) hm FH FH fun h2 h3 v Gi ev=>?_;rw [hR];refine En (v:=v) (x:=R) ?_;rintro b1 d1 G1 b2 d2 G2 rfl l1 l2;have e8:yr[k+1]=[.bool (R).Bd,.int .i64 (R).Ai,.int .i64 (R).Aa.next,.slice b1 (R).Aa.Al.length d1,.slice b2 (R).Am.length d2]:=KC
   refine Pv (E:=EC 5) (xs:=yr) (m:=5) (Me 5) (k+1) ?_ FM rfl h2;rintro _ g A cs B rfl k2 k3 hH;obtain ⟨k4, -, -⟩:=k3 w0;rw [e8] at k4;subst k4;dsimp only [List.append];refine go ?_
   refine Ew [1,2,3,4,6,7] [0,1,2,3,4,5,6,7,8,9,10,11,12,13,14,15,16,17,18,19,20,21,22] (fun w:Nat × TkR=>[(8,Il w.1 0 0),(9,.slice w.2.a3 (E8 R).length w.2.c3),(10,.slice w.2.a4 (Hw R).length w.2.c4)]) (fun w=>[.row w.1 156 0 [] [.bool (Cv R (Ns (k+1))).Bd,.int .i64 (Cv R (Ns (k+1))).Ai,.int .i64 (Cv R (Ns (k+1))).Aa.next,.slice w.2.a1 (Cv R (Ns (k+1))).Aa.Al.length w.2.c1,.slice w.2.a2 (Cv R (Ns (k+1))).Am.length w.2.c2] [],.isv Bi (.agg #[.bool (Cv R (Ns (k+1))).Bd,.int .i64 (Cv R (Ns (k+1))).Ai,.int .i64 (Cv R (Ns (k+1))).Aa.next,.slice w.2.a1 (Cv R (Ns (k+1))).Aa.Al.length w.2.c1,.slice w.2.a2 (Cv R (Ns (k+1))).Am.length w.2.c2]) (Cv R (Ns (k+1))) w.2.F1,.ow Ak 233 (.slice w.2.a3 (E8 R).length w.2.c3) (E8 R) w.2.F3,.ow A8 9 (.slice w.2.a4 (Hw R).length w.2.c4) (Hw R) w.2.F4]) (fun _=>True) ?_ fun w _=>?_
   ·skip
    refine As [0,17] [] ?_;refine Dq 0 1 2 3 ?_;refine Ec 4 5 ?_;refine dM 6 12 ?_ ?_
    ·refine oC ?_;refine Ca (Wz (k+1) FH) fun _ _=>?_;refine dk ?_;refine dM 7 12 ?_ ?_
     ·refine oC ?_;refine Ca (Ady R (Ns (k+1)) _ Gi hgr FH FH (by have:=hgr.k1;omega)) fun s _=>?_;refine dk ?_;refine Dq 8 9 10 11 ?_;refine dN 12 ?_;apply Cr;rfl;intro _;refine dk ?_;refine dN 13 ?_;refine oS ?_;refine dk ?_;refine Ec 14 15 ?_;refine dd ?_;refine Br (⟨_,s⟩:Nat × TkR) trivial
     ·apply Cr;rfl;intro _;exact BN
    ·apply Cr;rfl;intro _;refine dk ?_;refine dN 6 ?_;refine oC ?_;refine Ca (Wz (k+1) FH) fun _ _=>?_;exact BN
   obtain ⟨gr,s⟩:=w;dsimp only;refine Og ?_;intros;refine O5 (E:=EC 5) (xs:=yr) [.bool (Cv R (Ns (k+1))).Bd,.int .i64 (Cv R (Ns (k+1))).Ai,.int .i64 (Cv R (Ns (k+1))).Aa.next,.slice s.a1 (Cv R (Ns (k+1))).Aa.Al.length s.c1,.slice s.a2 (Cv R (Ns (k+1))).Am.length s.c2] hH (fun _=>⟨rfl,⟨rfl,GT⟩,rfl⟩) ?_;refine Um (E:=Bi) (ys:=yr) (xs:=(Be n k).1.Ac) (x:=Cv R (Ns (k+1))) (k+1) rfl hm FH fun G'=>?_;refine A4 (E:=Ak) (xs:=E8 R) fun Fp9=>?_;refine Fs (ys:=yu) fun hmu hlu=>?_;refine Ai0 (ys:=yu) (xs:=(Be n k).1.up) (k+1) hmu FH FH fun h9 _ Gq=>?_;rw [hQ]
   refine Adu (x:=Q) fun a9 c9 e9 l9=>?_;have e10:yu[k+1]=[.slice a9 Q.length c9]:=KH
   refine Pv (E:=EC 1) (xs:=yu) (m:=1) (Me 1) (k+1) ?_ FM rfl h9;rintro _ gu Au cs Bu rfl j2 j3 hHu;obtain ⟨j4, -, -⟩:=j3 w0;rw [e10] at j4;subst j4;refine go ?_;refine As [0,24] [11] ?_;refine Dq 0 1 2 3 ?_;refine Dq 4 5 6 7 ?_;refine dt 8 ?_;refine dN 9 ?_;refine oC ?_;refine Ca (Ah0 Q (E8 R) a9 c9 _ _ _ Fp9 FH) fun r _=>?_;refine dk ?_;refine dt 10 ?_;refine dN 11 ?_;refine oS ?_;refine Tf ?_;refine dd ?_;refine O5 (E:=EC 1) (xs:=yu) [.slice r.a (Hq Q (E8 R)).length r.c] hHu (fun _=>⟨rfl,⟨rfl,GT⟩,rfl⟩) ?_
   refine A4 (E:=Ak) (xs:=Hq Q (E8 R)) fun Fu=>?_;refine Aem (E:=Ak) (x:=Hq Q (E8 R)) FK ?_;refine Um (E:=Ml Ak FK) (ys:=yu) (xs:=(Be n k).1.up) (x:=Hq Q (E8 R)) (k+1) rfl hmu FH fun Gv=>?_;refine A4 (E:=A8) (xs:=Hw R) fun F7=>?_;refine go ?_;refine Ca (Alk (k+1) (Hw R) _ _ F7 FT FH FH hsm) fun u9 _=>?_;refine A4 (E:=A8) (xs:=Vc (k+1) (Hw R)) fun F8=>?_;apply wO;refine Pf (E:=A8) (xs:=(Be n k).2) (ys:=Vc (k+1) (Hw R)) Dx Gz fun ax cx Fx=>?_;refine go ?_
   refine Cg ⟨k+1,⟨⟨ye,Fe,Ge⟩,⟨yr.set (k+1) [.bool (Cv R (Ns (k+1))).Bd,.int .i64 (Cv R (Ns (k+1))).Ai,.int .i64 (Cv R (Ns (k+1))).Aa.next,.slice s.a1 (Cv R (Ns (k+1))).Aa.Al.length s.c1,.slice s.a2 (Cv R (Ns (k+1))).Am.length s.c2],[g],G'⟩,⟨yd,Fd,Gd⟩,⟨yu.set (k+1) [.slice r.a (Hq Q (E8 R)).length r.c],[gu],Gv⟩⟩,ax,cx,Fx⟩ ⟨KG,by rw [hnx];dsimp only;rw [List.length_append,htl];omega⟩ GR GX GW
 ·have hke:n.Ao.Ad.length - 1=k:=FH
  rw [show Gp n=Be n k by unfold Gp;rw [hke],hSrc];refine go ?_;refine ret (⟨⟨⟨ye,Fe,Ge⟩,⟨yr,Fr,Gr⟩,⟨yd,Fd,Gd⟩,⟨yu,Fu,Gu⟩⟩,u,⟨0,ea,ec,eF⟩⟩:SZ × TiS × KA) trivial rfl
structure OwN where
 g:Nat
 a1:Option Addr
 c1:Nat
 F1:List Nat
 s:Amp
structure OwK where
 k:Nat
 a4:Option Addr
 c4:Nat
 F4:List Nat
 a5:Option Addr
 c5:Nat
 F5:List Nat
 a6:Option Addr
 c6:Nat
 F6:List Nat
 a7:Option Addr
 c7:Nat
 F7:List Nat
theorem V8:X6 (Ko Ak 233):=fun h u hu=>by
 obtain ⟨v,rfl,h⟩:=h;obtain rfl:=List.mem_singleton.1 hu;rcases h with ⟨rfl, -, -⟩|⟨b,cap,cs,rest,G,rfl, -⟩ <;> rfl
theorem At8 {x:Cj} (hg:Cz x=true):Arw x x.Aa=x:=by
 obtain ⟨gw,hl,t0,t1,k0,k1,hm,hn,hu,hb⟩:=Lx hg;unfold Arw;rw [←Yl hu,Aa6 hg]
theorem Ap0 (n:Dv) (v:Value) (F:List Nat) (hg:At n=true):Fn prog 222 [v] [.isv Ny v n F] [] (fun (_:OwN × OwK)=>True) (fun z=>.agg #[.slice z.1.a1 n.Ao.Ad.length z.1.c1,.int .i64 (n.Ab).Aa.Ap,.int .i64 (n.Ab).Aa.size,.slice z.1.s.a (n.Ab).Aa.An.length z.1.s.c,.int .i64 (n.Ab).Ai,.int .i64 (n.Ab).quiet,.slice z.1.s.a2 (n.Ab).holds.length z.1.s.c2,.slice z.2.a4 (n.Af).length z.2.c4,.slice z.2.a5 (n.Ac).length z.2.c5,.slice z.2.a6 (n.down).length z.2.c6,.slice z.2.a7 (n.up).length z.2.c7]) (fun z=>[.ow Bb 3 (.slice z.1.a1 n.Ao.Ad.length z.1.c1) n.Ao.Ad z.1.F1,.isv Dp (.agg #[.int .i64 (n.Ab).Aa.Ap,.int .i64 (n.Ab).Aa.size,.slice z.1.s.a (n.Ab).Aa.An.length z.1.s.c,.int .i64 (n.Ab).Ai,.int .i64 (n.Ab).quiet,.slice z.1.s.a2 (n.Ab).holds.length z.1.s.c2]) n.Ab z.1.s.F,.ow B4 149 (.slice z.2.a4 (n.Af).length z.2.c4) (n.Af) z.2.F4,.ow Bx 156 (.slice z.2.a5 (n.Ac).length z.2.c5) (n.Ac) z.2.F5,.ow (Ko Ak 233) 158 (.slice z.2.a6 (n.down).length z.2.c6) (n.down) z.2.F6,.ow (Ko Ak 233) 158 (.slice z.2.a7 (n.up).length z.2.c7) (n.up) z.2.F7]):=by
 have hG:=Az.1 hg;have h8:=(H8 hG.t).n1;have hS:=Lx hG.s;have hSl:=hS.l;have hSm:=hS.m;obtain ⟨q1,q2,q3,q4⟩:=Bl.1 hG.l;obtain ⟨g1,g2,g3,g4⟩:=In hg;refine enter func222 rfl ntmps222 fun w0=>?_;refine Ho ?_;rintro a1 c1 F1 a2 c2 F2 a3 c3 F3 a4 c4 F4 a5 c5 F5 a6 c6 F6 a7 c7 F7 rfl l1 l2 l3 l4 l5 l6 l7;refine Hf n.Ab ?_;refine C3 n.Ab.Aa (a1:=a2) ?_;have hW:=fun vw Fw=>Aw6 n.Ab n.Ab.Aa (.agg #[.int .i64 n.Ab.Aa.Ap,.int .i64 n.Ab.Aa.size,.slice a2 n.Ab.Aa.An.length c2,.int .i64 n.Ab.Ai,.int .i64 n.Ab.quiet,.slice a3 n.Ab.holds.length c3]) vw (F2++F3) Fw hS.t0 hS.t1 FH hS.n hS.u
 rw [At8 hG.s,show Oi n.Ab.Aa n.Ab.holds=n.Ab.holds by rw [←Yl hS.u,Aa6 hG.s]] at hW;refine go ?_;intros
 refine Ew [1,2] [0,1,2,3,4,5,6,7,8,9,10,11] (fun w:OwN=>[(3,Il w.g 0 0)]) (fun w=>[.row w.g 52 0 [] [.slice w.a1 n.Ao.Ad.length w.c1,.int .i64 (n.Ab).Aa.Ap,.int .i64 (n.Ab).Aa.size,.slice w.s.a (n.Ab).Aa.An.length w.s.c,.int .i64 (n.Ab).Ai,.int .i64 (n.Ab).quiet,.slice w.s.a2 (n.Ab).holds.length w.s.c2,.slice none 0 0,.slice none 0 0,.slice none 0 0,.slice none 0 0] [],.ow Bb 3 (.slice w.a1 n.Ao.Ad.length w.c1) n.Ao.Ad w.F1,.isv Dp (.agg #[.int .i64 (n.Ab).Aa.Ap,.int .i64 (n.Ab).Aa.size,.slice w.s.a (n.Ab).Aa.An.length w.s.c,.int .i64 (n.Ab).Ai,.int .i64 (n.Ab).quiet,.slice w.s.a2 (n.Ab).holds.length w.s.c2]) n.Ab w.s.F]) (fun _=>True) ?_ fun w _=>?_
 ·skip
  refine As [1] [] ?_;refine Dq 0 1 2 5 ?_;refine Dq 6 7 8 9 ?_;refine dM 3 13 ?_ ?_
  ·refine oC ?_;refine cn (fun w st=>Acf _ n.Ao.Ad F1 w (st.get (p:=.sl _ _ _ _) FL).2 FH) fun b1 d1 G1=>?_;refine dk ?_;refine dt 4 ?_;refine dM 10 13 ?_ ?_
   ·refine oC ?_;refine Ca (Tx n.Ab.Aa _ F2 hS.t0 hS.t1 FH) fun y _=>?_;refine Hl ?_;rintro a9 c9 F9 e9 l9;rw [e9];refine A4 (xs:=n.Ab.Aa.An) fun F8=>?_;refine C3 n.Ab.Aa (a1:=a9) ?_;refine dk ?_;refine dM 11 13 ?_ ?_
    ·refine oC ?_;refine Ca (hW _ F8) fun s _=>?_;refine dk ?_;refine dt 12 ?_;refine dN 13 ?_;apply Cr;rfl;intro _;refine dk ?_;refine dN 14 ?_;refine oS ?_;refine dk ?_;refine dd ?_;refine Br (⟨_,b1,d1,G1,s⟩:OwN) trivial
    ·apply Cr;rfl;intro _;exact CR
   ·apply Cr;rfl;intro _;refine dk ?_;refine dN 10 ?_;refine oC ?_;refine Ca (Tx n.Ab.Aa _ F2 hS.t0 hS.t1 FH) fun y _=>?_;refine Hl ?_;rintro a9 c9 F9 e9 l9;rw [e9];refine A4 (xs:=n.Ab.Aa.An) fun F8=>?_;refine C3 n.Ab.Aa (a1:=a9) ?_;exact CR
  ·apply Cr;rfl;intro _;refine dk ?_;refine dN 3 ?_;refine oC ?_;refine cn (fun w st=>Acf _ n.Ao.Ad F1 w (st.get (p:=.sl _ _ _ _) FL).2 FH) fun b1 d1 G1=>?_;refine dk ?_;refine dt 4 ?_;refine dN 10 ?_;refine oC ?_;refine Ca (Tx n.Ab.Aa _ F2 hS.t0 hS.t1 FH) fun y _=>?_;refine Hl ?_;rintro a9 c9 F9 e9 l9;rw [e9];refine A4 (xs:=n.Ab.Aa.An) fun F8=>?_;refine C3 n.Ab.Aa (a1:=a9) ?_;refine dk ?_;refine dN 11 ?_;refine oC ?_;refine Ca (hW _ F8) fun s _=>?_;refine dk ?_;refine dt 12 ?_;refine dN 14 ?_;refine oS ?_;refine dk ?_;refine dd ?_
   refine Br (⟨_,b1,d1,G1,s⟩:OwN) trivial
 refine Db B4 149 ?_;refine Db Bx 156 ?_;refine Db (Ko Ak 233) 158 ?_;refine Db (Ko Ak 233) 158 ?_;refine go ?_
 refine Cd [1,2,3] (fun y:OwK=>[(4,.int .i64 (y.k:Nat))]) (fun y=>[.row w.g 52 0 [] [.slice w.a1 n.Ao.Ad.length w.c1,.int .i64 (n.Ab).Aa.Ap,.int .i64 (n.Ab).Aa.size,.slice w.s.a (n.Ab).Aa.An.length w.s.c,.int .i64 (n.Ab).Ai,.int .i64 (n.Ab).quiet,.slice w.s.a2 (n.Ab).holds.length w.s.c2,.slice y.a4 (n.Af.take y.k).length y.c4,.slice y.a5 (n.Ac.take y.k).length y.c5,.slice y.a6 (n.down.take y.k).length y.c6,.slice y.a7 (n.up.take y.k).length y.c7] [],.ow B4 149 (.slice y.a4 (n.Af.take y.k).length y.c4) (n.Af.take y.k) y.F4,.ow Bx 156 (.slice y.a5 (n.Ac.take y.k).length y.c5) (n.Ac.take y.k) y.F5,.ow (Ko Ak 233) 158 (.slice y.a6 (n.down.take y.k).length y.c6) (n.down.take y.k) y.F6,.ow (Ko Ak 233) 158 (.slice y.a7 (n.up.take y.k).length y.c7) (n.up.take y.k) y.F7]) (fun y=>y.k≤n.Af.length) (fun y=>n.Af.length - y.k) ⟨0,none,0,[],none,0,[],none,0,[],none,0,[]⟩ (Nat.zero_le _) fun y hy=>?_
 refine go ?_;refine A1 rfl (fun h1=>?_) (fun h1=>?_)
 ·have hk:y.k < n.Af.length:=FH
  have hk5:y.k < n.Ac.length:=FH
  have hk6:y.k < n.down.length:=FH
  have hk7:y.k < n.up.length:=FH
  have t4:(n.Af.take y.k).length≤8:=FY
  have t5:(n.Ac.take y.k).length≤8:=FY
  have t6:(n.down.take y.k).length≤8:=FY
  have t7:(n.up.take y.k).length≤8:=FY
  have hge:=g1 _ (List.getElem_mem hk);have hel:=(Hm.1 hge).2.1;have hgr:=Ek.1 (g2 _ (List.getElem_mem hk5));have hrs:=(Kx hgr.w).1;have hrq:=(De.1 hgr.q).2.1;have hd6:=(C9 (g3 _ (List.getElem_mem hk6))).1;have hu6:=(C9 (g4 _ (List.getElem_mem hk7))).1;refine Q6 (xs:=n.Af) y.k ?_;rintro hi4 b4 o4 a8 c8 F8 e4 l8;rw [e4];refine Nf n.Af[y.k] ?_;dsimp only [List.append];refine go ?_;refine As [1,3,11] [11] ?_;refine Dq 0 1 2 3 ?_;refine Ec 4 5 ?_;refine dt 6 ?_;refine dN 7 ?_;refine oC ?_
  refine cv (fun w2 st=>Ym _ n.Af[y.k] F8 w2 (st.get (p:=.isv _ _ _ _) FL) FH (fun x hx=>by have:=P6 hge hx;omega)) fun v9 F9=>?_;refine Hp (x:=n.Af[y.k]) ?_;rintro a9 c9 F10 rfl l9;refine E6 n.Af[y.k] ?_;refine dk ?_;refine dN 8 ?_;apply Lr;rfl;rfl;rfl;rfl;exact Ll;exact Kv;intro _;refine dk ?_;refine dN 9 ?_;refine Adi Qq n.Af[y.k] rfl fun x4 d4 G4=>?_;refine dk ?_;refine dt 10 ?_;refine dN 11 ?_;refine oS ?_;refine Tf ?_;refine dd ?_;rw [←List.take_succ_eq_append_getElem hk];refine Kr (xs:=n.Ac) y.k ?_;rintro hi5 b5 o5 a11 c11 F11 a12 c12 F12 e5 l11 l12;rw [e5]
  refine Ep n.Ac[y.k] ?_;dsimp only [List.append];refine go ?_;refine As [1,8,15] [11] ?_;refine Dq 0 1 2 3 ?_;refine Ec 4 5 ?_;refine dt 6 ?_;refine dN 7 ?_;refine oC ?_;refine Ca (Ud n.Ac[y.k] _ _ FH FH) fun s9 _=>?_;refine Ic (x:=n.Ac[y.k]) ?_;rintro a9 c9 G9 a10 c10 G10 e9 l9 l10;rw [e9];refine Iz n.Ac[y.k] ?_;refine dk ?_;refine dN 8 ?_;apply Lr;rfl;rfl;rfl;rfl;exact Ll;exact Kv;intro _;refine dk ?_;refine dN 9 ?_;refine Adi Pj n.Ac[y.k] rfl fun x5 d5 G5=>?_;refine dk ?_;refine dt 10 ?_;refine dN 11 ?_;refine oS ?_;refine Tf ?_;refine dd ?_
  rw [←List.take_succ_eq_append_getElem hk5];refine Nz (E:=Ak) (hz:=FK) (xs:=n.down) y.k ?_;rintro hi6 b6 o6 a13 c13 F13 e6 l13;rw [e6];refine go ?_;refine As [0,11,17] [12] ?_;refine Dq 0 1 3 4 ?_;refine Ec 5 6 ?_;refine dt 7 ?_;refine dN 2 ?_;apply Mp;rfl;intro _;refine C7 Ak ?_;refine dk ?_;refine dN 8 ?_;refine Pf Hg I2 fun a9 c9 F9=>?_;rw [List.nil_append];refine Jt n.down[y.k] ?_;refine dk ?_;refine dN 9 ?_;apply Lr;rfl;rfl;rfl;rfl;exact Ll;exact Kv;intro _;refine dk ?_;refine dN 10 ?_;refine Adi (V8) n.down[y.k] rfl fun x6 d6 G6=>?_;refine dk ?_;refine dt 11 ?_;refine dN 12 ?_
  refine oS ?_;refine Tf ?_;refine dd ?_;rw [←List.take_succ_eq_append_getElem hk6];refine Nz (E:=Ak) (hz:=FK) (xs:=n.up) y.k ?_;rintro hi7 b7 o7 a14 c14 F14 e7 l14;rw [e7];refine go ?_;refine As [0,14,19] [12] ?_;refine Dq 0 1 3 4 ?_;refine Ec 5 6 ?_;refine dt 7 ?_;refine dN 2 ?_;apply Mp;rfl;intro _;refine C7 Ak ?_;refine dk ?_;refine dN 8 ?_;refine Pf Hg I2 fun a9 c9 F9=>?_;rw [List.nil_append];refine Jt n.up[y.k] ?_;refine dk ?_;refine dN 9 ?_;apply Lr;rfl;rfl;rfl;rfl;exact Ll;exact Kv;intro _;refine dk ?_;refine dN 10 ?_;refine Adi (V8) n.up[y.k] rfl fun x7 d7 G7=>?_;refine dk ?_
  refine dt 11 ?_;refine dN 12 ?_;refine oS ?_;refine Tf ?_;refine dd ?_;rw [←List.take_succ_eq_append_getElem hk7];refine go ?_;refine Cg ⟨y.k+1,x4,d4,G4,x5,d5,G5,x6,d6,G6,x7,d7,G7⟩ hk (by show n.Af.length - (y.k+1) < n.Af.length - y.k;omega)
 ·rw [show n.Af.take y.k=n.Af from List.take_of_length_le FH,show n.Ac.take y.k=n.Ac from List.take_of_length_le FH,show n.down.take y.k=n.down from List.take_of_length_le FH,show n.up.take y.k=n.up from List.take_of_length_le FH];refine go ?_;refine ret (⟨w,y⟩:OwN × OwK) trivial rfl
theorem Ba7 (t:Qe) (v:Value) (F:List Nat) (hl:t.Ad.length≤1000000):Fn prog 275 [v] [.isv P0 v t F] [] (fun (_:KiS)=>True) (fun z=>.slice z.a (lvs t.Ad).length z.c) (fun z=>[.ow Bb 3 (.slice z.a (lvs t.Ad).length z.c) (lvs t.Ad) z.F]):=by
 refine enter func275 rfl ntmps275 fun w0=>?_;refine Om ?_;rintro a1 c1 F1 rfl l1;refine Db Bb 3 ?_;refine go ?_;intros;refine Cd [1,2,7] (fun z:KiS=>[(3,.slice z.a (Q2 t.Ad z.k).length z.c),(8,.int .i64 (z.k:Nat))]) (fun z=>[.ow Bb 3 (.slice z.a (Q2 t.Ad z.k).length z.c) (Q2 t.Ad z.k) z.F]) (fun z=>z.k≤t.Ad.length) (fun z=>t.Ad.length - z.k) ⟨0,_,_,_⟩ (Nat.zero_le _) fun z hz=>?_;have hkl:=Als t.Ad z.k;refine go ?_;refine A1 rfl (fun h1=>?_) (fun h1=>?_)
 ·have hh:z.k < t.Ad.length:=FH
  refine go ?_;refine Ca (Yi t z.k _ F) fun _ _=>?_;cases g:Eo t.Ad (z.k:Nat)
  ·rw [←Bba g];exact DY
  ·refine Og ?_;intros;apply wO;refine Ps (Q3 _) C8 fun a9 c9 F9=>?_;refine go ?_;rw [←Axq g];exact EY
 ·have hk:z.k=t.Ad.length:=FH
  rw [show Q2 t.Ad z.k=lvs t.Ad by unfold lvs;rw [hk]];exact CJ
end Go.Proofs.YtcmighgaiacgoaaGreatDoor
namespace Go.Proofs.YtcmighgaiacgoaaGreatDoor

open Go.RowKit
end Go.Proofs.YtcmighgaiacgoaaGreatDoor
namespace Go.Proofs.YtcmighgaiacgoaaGreatDoor
open Go.RowKit
theorem Apu {E:List ByteArray} {sep:ByteArray} {m:Nat} (hs:sep.size≤2) (hm:m≤100) (hl:E.length≤900000000000) (he:∀e∈E,e.size≤m) (k:Nat):(Lib.join ((E.take k).map (·.data.toList)) sep.data.toList).length≤100000000000000:=by
 have h:=Apv (sep:=sep.data.toList) (m:=m) (xs:=(E.take k).map (·.data.toList)) fun x hx=>by
  obtain ⟨e,he2,rfl⟩:=List.mem_map.1 hx;rw [Ct];exact he e (List.mem_of_mem_take he2)
 rw [List.length_map,List.length_take,Ct] at h;have h2:(sep.size+m) * min k E.length≤102 * 900000000000:=Nat.mul_le_mul FH FH;omega
theorem Wt (E:List ByteArray) (a:Option Addr) (c:Nat) (F:List Nat) (hl:E.length≤900000000000) (he:∀e∈E,e.size≤100):FV 105 [.slice a E.length c] [.sl A8 (.slice a E.length c) E F] (.string (Yf E)):=by
 refine enter func105 rfl ntmps105 fun w0=>?_;refine go ?_;refine A1 rfl (fun h=>?_) (fun h=>?_)
 ·have e:E=[]:=List.length_eq_zero_iff.1 FH;subst e;exact AA
 ·have hf:=Apu (sep:=⟨#[44,32]⟩) FK FK hl he E.length;rw [List.take_length] at hf;refine go ?_;refine cb (fun w st=>Bat E ⟨#[44,32]⟩ a c F w (st.get (p:=.sl A8 (.slice a E.length c) E F) FI) FH FH hf) ?_;refine go ?_;refine ret () trivial ?_;unfold Yf jnW;rw [if_neg (fun e=>h (by rw [e];rfl))];rfl
theorem Aah (l:List Int) (a:Option Addr) (c:Nat) (F FT:List Nat) (hf:∀f∈l,0≤f∧f≤99999) (h7:l.length≤1000):FV 203 [.slice a l.length c] [.sl Bb (.slice a l.length c) l F,Gs FT] (.string (V3 l)):=by
 refine enter func203 rfl ntmps203 fun w0=>?_;refine go ?_;refine A1 rfl (fun h=>?_) (fun h=>?_)
 ·have e:l=[]:=List.length_eq_zero_iff.1 FH;subst e;exact AA
 ·refine go ?_;refine Ca (Ben l a c F FT (fun f hh=>⟨(hf f hh).1,by have:=hf f hh;show f.natAbs < 100000;omega⟩) FH h7) fun _ _=>?_;refine go ?_;refine ret () trivial ?_;unfold V3;rw [if_neg (fun e=>h (by rw [e];rfl))];rfl
def jnK (sep:ByteArray) (E:List ByteArray) (k:Nat):ByteArray:=bz (Lib.join ((E.take k).map (·.data.toList)) sep.data.toList)
theorem Bar {sep:ByteArray} {E:List ByteArray} {k:Nat} (h0:0 < k) (h:k < E.length):jnK sep E (k+1)=jnK sep E k++sep++E[k]:=by
 unfold jnK;rw [List.take_succ_eq_append_getElem h,List.map_append,List.map_cons,List.map_nil,Aww _ _ _ HZ];rw [←Ya (_++E[k]),Im,Im,Jo,List.append_assoc]
theorem Bel {sep:ByteArray} {E:List ByteArray} (h:0 < E.length):jnK sep E 1=E[0]:=by
 unfold jnK;cases E with
 | nil=>cases h
 | cons x r =>
  rw [List.take_succ_cons,List.take_zero,List.map_cons,List.map_nil,Lib.join_cons];simp [Lib.joinTail,Ya]
theorem Ad3 (E:List ByteArray) (sep:ByteArray) (a:Option Addr) (c:Nat) (F:List Nat) (hs:sep.size≤2) (hl:E.length≤900000000000) (he:∀e∈E,e.size≤100):FV 145 [.slice a E.length c,.string sep] [.sl A8 (.slice a E.length c) E F] (.string (jnW sep.data.toList E)):=by
 refine enter func145 rfl ntmps145 fun w0=>?_;refine go ?_;refine A1 rfl (fun h=>?_) (fun h=>?_)
 ·have e:E=[]:=List.length_eq_zero_iff.1 FH;subst e;exact AA
 refine Mx (xs:=E) 0 ?_;rintro hi0 b0 o0 rfl s0;refine go ?_;rw [show E[0]=jnK sep E 1 from (Bel hi0).symm];refine Eh [0,1,4] (fun k:Nat=>[(5,.string (jnK sep E k)),(6,.int .i64 (k:Nat))]) (fun k=>1≤k∧k≤E.length) (fun k=>E.length - k) 1 ⟨Nat.le_refl _,FH⟩ fun k hk=>?_;obtain ⟨hk1,hk2⟩:=hk;have hz:=Apu (k:=k) hs FK hl he;have hz2:(jnK sep E k).size≤100000000000000:=by unfold jnK;rw [Iu];exact hz
 refine go ?_;refine A1 rfl (fun h3=>?_) (fun h3=>?_)
 ·have hk3:k < E.length:=FH
  have h8:=he _ (List.getElem_mem hk3);have hq:(jnK sep E k++sep).size=_:=ByteArray.size_append;refine Mx (xs:=E) k ?_;rintro hi b o e1 s1;cases e1;refine go ?_;rw [show jnK sep E k++sep++E[k]=jnK sep E (k+1) from (Bar hk1 hk3).symm];refine go ?_;rw [show ((k:Nat):Int)+1=((k+1:Nat):Int) by omega];refine Cg (k+1) ⟨FH,hk3⟩ FH
 ·have hk3:k=E.length:=FH
  subst hk3;refine go ?_;refine ret () trivial ?_;unfold jnW jnK;rw [if_neg (fun e=>h (by rw [e];rfl)),List.take_length];rfl
theorem Bje (l:List Int):jnW [32] (l.map itB)=V3 l:=by
 unfold jnW V3 jn;by_cases h:l=[]
 ·subst h;rfl
 ·rw [if_neg h,if_neg GA,Ahw]
structure LiS where
 k:Nat
 a:Option Addr
 c:Nat
 F:List Nat
theorem Alo (l:List Int) (a:Option Addr) (c:Nat) (F:List Nat) (hf:∀f∈l,0≤f∧f≤99999) (h7:l.length≤1000):FV 155 [.slice a l.length c] [.sl Bb (.slice a l.length c) l F] (.string (V3 l)):=by
 refine enter func155 rfl ntmps155 fun w0=>?_;refine go ?_;intros;refine C7 A8 ?_;refine go ?_;refine Cd [0,2] (fun z:LiS=>[(3,.slice z.a ((l.map itB).take z.k).length z.c),(4,.int .i64 (z.k:Nat))]) (fun z=>[.ow A8 9 (.slice z.a ((l.map itB).take z.k).length z.c) ((l.map itB).take z.k) z.F]) (fun z=>z.k≤l.length) (fun z=>l.length - z.k) ⟨0,_,_,_⟩ (Nat.zero_le _) fun z hz=>?_;obtain ⟨k,a1,c1,F1⟩:=z;dsimp only at hz ⊢;have hml:(l.map itB).length=l.length:=List.length_map ..;refine go ?_;refine A1 rfl (fun h3=>?_) (fun h3=>?_)
 ·have hk3:k < l.length:=FH
  have h8:=hf _ (List.getElem_mem hk3);have htl:((l.map itB).take k).length=k:=FY
  refine I6 (xs:=l) k ?_;rintro hi b o e1;rw [e1];refine go ?_;refine cb (fun w st=>Aed l[k] (by have:=h8.1;omega) FH w) ?_;refine go ?_;intros;apply wO;refine Ps (E:=A8) (xs:=(l.map itB).take k) (Air (s:=bz (Lib.itoa l[k])) (by rw [Iu,Ql h8.1];have:=Ej 5 l[k].natAbs (by show _ < 1000000;omega);unfold maxLen;omega)) Dx fun a9 c9 F9=>?_;rw [show (l.map itB).take k++[bz (Lib.itoa l[k])]=(l.map itB).take (k+1) by rw [List.take_succ_eq_append_getElem FH,List.getElem_map];rfl];refine go ?_;rw [show ((k:Nat):Int)+1=((k+1:Nat):Int) by omega]
  refine Cg ⟨k+1,a9,c9,F9⟩ hk3 HJ
 ·have hk3:k=l.length:=FH
  subst hk3;rw [show (l.map itB).take l.length=l.map itB by rw [←hml];exact List.take_length];refine A4 (E:=A8) (xs:=l.map itB) fun F8=>?_;refine go ?_;refine cf (Ad3 (l.map itB) ⟨#[32]⟩ a1 c1 F8 FK FH (fun e hh=>by
   obtain ⟨f,hf2,rfl⟩:=List.mem_map.1 hh;have h9:=hf f hf2;unfold itB;rw [Iu,Ql h9.1];have:=Ej 5 f.natAbs (by show _ < 1000000;omega);omega)) fun _ _=>?_
  refine Ot ?_;refine go ?_;refine ret () trivial ?_;rw [←Bje l];rfl
def Aa1:List (ByteArray × Int)→Nat→List MapEntry
 | [],_=>[]
 | (s,n)::r,i=>{ key:=.string s,val:=.int .i64 n,born:=i }::Aa1 r (i+1)
theorem Ak1 (s:ByteArray) (n:Int):∀(es:List (ByteArray × Int)) (i:Nat),Aa1 (es++[(s,n)]) i=Aa1 es i++[{ key:=.string s,val:=.int .i64 n,born:=i+es.length }]
 | [],i=>rfl
 | (t,m)::r,i=>by
  show _::Aa1 (r++[(s,n)]) (i+1)=_::(Aa1 r (i+1)++_);rw [Ak1 s n r (i+1),List.length_cons,show i+1+r.length=i+(r.length+1) by omega]
def Bj5:Bn (Nat × List (ByteArray × Int)) where
 sz:=0
 Kn w cs x F:=cs=[]∧F=[x.1]∧w.heap[x.1]?=some (.map (Aa1 x.2 0).toArray x.2.length)
 len h:=LC
 lt h:=by
  obtain ⟨-,rfl,h⟩:=h;intro b hb;rw [List.mem_singleton] at hb;subst hb;exact (Array.getElem?_eq_some_iff.1 h).1
 frame h hF:=by
  obtain ⟨h1,rfl,h⟩:=h;exact ⟨h1,rfl,by rw [hF _ FI];exact h⟩
def MpP (b:Nat) (es:List (ByteArray × Int)):Pc:=.own Bj5 (.agg #[]) (b,es) [b]
theorem MpP.at_ {b:Nat} {es:List (ByteArray × Int)} {w:World} (h:(MpP b es).P w):w.heap[b]?=some (.map (Aa1 es 0).toArray es.length):=by
 obtain ⟨-,cs, -,h⟩:=h;exact h.2.2
theorem MpP.mk {b:Nat} {es:List (ByteArray × Int)} {w:World} (h:w.heap[b]?=some (.map (Aa1 es 0).toArray es.length)):(MpP b es).P w:=⟨FI,[],rfl,rfl,rfl,h⟩
def X2:List (ByteArray × Int)→ByteArray→Option Int
 | [],_=>none
 | (k,n)::r,s=>if s=k then some n else X2 r s
theorem Bh2 {s k:ByteArray} (h:s=k):Instr.sameNow .string (.string s) (.string k)=some true:=by
 obtain ⟨r,hr,hi⟩:=MapKept.sameNow_of_keys (d:=.string) (a:=.string s) (b:=.string k) JH JH;rw [hr,hi.2 (by rw [h])]
theorem Bca {s k:ByteArray} (h:¬s=k):Instr.sameNow .string (.string s) (.string k)=some false:=by
 obtain ⟨r,hr,hi⟩:=MapKept.sameNow_of_keys (d:=.string) (a:=.string s) (b:=.string k) JH JH;rw [hr];cases r
 ·rfl
 ·have:=hi.1 rfl;simp at this;exact absurd this h
theorem Adn {s:ByteArray}:∀{es:List (ByteArray × Int)} (j i:Nat),X2 es s=none→Instr.findNow .string (.string s) (Aa1 es j) i=some none
 | [],_,_,_=>rfl
 | (k,n)::r,j,i,h=>by
  unfold X2 at h
  split at h
  ·cases h
  ·rename_i hk;unfold Aa1 Instr.findNow;rw [Bca hk];exact Adn (j+1) (i+1) h
theorem Ak4 {s:ByteArray} {n:Int}:∀{es:List (ByteArray × Int)} (j i:Nat),X2 es s=some n→∃m,Instr.findNow .string (.string s) (Aa1 es j) i=some (some (m,.int .i64 n))
 | [],_,_,h=>by cases h
 | (k,v)::r,j,i,h=>by
  unfold X2 at h
  split at h
  ·rename_i hk;cases h;refine ⟨i,?_⟩;unfold Aa1 Instr.findNow;rw [Bh2 hk]
  ·rename_i hk;obtain ⟨m,hm⟩:=Ak4 (j+1) (i+1) h;refine ⟨m,?_⟩;unfold Aa1 Instr.findNow;rw [Bca hk];exact hm
class MapC (P:Program) (t:TypeId) (kt et:outParam TypeId):Prop where
 u:P.underlying t=some (.map kt et)
 k:P.underlying kt=some .string
 z:(P.info? et).map (·.zero)=some (some (.int .i64 0))
theorem Bau {P:Program} {t kt et:TypeId} [hM:MapC P t kt et] (e:Bool) (s:ByteArray) (w:World):(Instr.checkKey e 10000 kt (.string s)).run P w=.ok () w:=MapKept.run_checkKey (k:=.string s) hM.k JH e 9999
section
variable {c:Cx} {fr:Fr} {H:List Pc} {Φ:Gl} {ty:TypeId} {d:Nat} {x y z:Operand}
theorem Bkg {t:TypeId} (hd:Nat.blt d c.n=true) (h:∀b,T c ((d,.map (some b))::fr) (MpP b []::H) Φ):On c fr H (some d) (.makeMap t none) ty Φ:=⟨fun pos Cf gd=>P4 fun Q a w s g=>by
 have e:(execOp a.eval ⟨some d,.makeMap t none,ty,pos,Cf,gd⟩).run c.P w=.ok (.value (.map (some w.heap.size))) (w.alloc (.map #[] 0)):=by
  simp [execOp,run_makeMap_plain]
 rw [e];refine (h _).h _ _ (s.add (N:=[MpP w.heap.size []]) (X9 _ _) (fun p hp=>?_) ⟨FI,trivial⟩ fun p hp b hb=>?_) (g.put hd)
 ·rw [List.mem_singleton] at hp;subst hp;exact MpP.mk (MapKept.heap_alloc w _).1
 ·rw [List.mem_singleton] at hp;subst hp;simp [MpP,Pc.F] at hb;subst hb;exact .inl (Nat.le_refl _)⟩
theorem Au5 {t kt et:TypeId} [hM:MapC c.P t kt et] {b:Nat} {es:List (ByteArray × Int)} {s:ByteArray} {n:Int} {S:List Pc} (hx:ev fr x=some (.map (some b))) (hy:ev fr y=some (.string s)) (hz:ev fr z=some (.int .i64 n)) (hr:Rpl H (MpP b es) (MpP b (es++[(s,n)])) S) (hn:X2 es s=none) (h:T c fr S Φ):On c fr H none (.insert t x y z) ty Φ:=⟨fun pos Cf gd=>P4 fun Q a w st g=>by
 have hP:(MpP b es).P w:=by obtain ⟨R,h1,_⟩:=hr.picks;exact st.on _ h1.mem
 have hb:=MpP.at_ hP;have hf:=Adn 0 0 hn;have hk:=fun e=>Bau (P:=c.P) (t:=t) e s w;have e:(execOp a.eval ⟨none,.insert t x y z,ty,pos,Cf,gd⟩).run c.P w=.ok .skip { w with heap:=w.heap.setIfInBounds b (.map ((Aa1 es 0).toArray.push { key:=.string s,val:=.int .i64 n,born:=es.length }) (es.length+1)) }:=by
  simp [execOp,g.ev hx,g.ev hy,g.ev hz,Instr.mapUpdate,run_underlying hM.u,MapKept.run_getObj_map hb,hk,MapKept.run_findKey hM.k hf,MapKept.run_setObj_map _ hb,Result.andThen]
 rw [e];obtain ⟨h1,h2⟩:=MapKept.heap_set (o':=.map ((Aa1 es 0).toArray.push { key:=.string s,val:=.int .i64 n,born:=es.length }) (es.length+1)) hb;refine h.h _ _ (st.rpl hr rfl (fun b hb=>.inl hb) ⟨rfl,rfl,rfl,FI,fun k hk hn=>?_⟩ (MpP.mk ?_)) g
 ·exact h2 k (fun e=>hn (by rw [e];simp [MpP,Pc.F]))
 ·rw [h1,Ak1,List.length_append,List.push_toArray,Nat.zero_add];rfl⟩
theorem Bj1 {P:Program} {n:Nat} {t kt et:TypeId} [hM:MapC P t kt et] {b:Nat} {es:List (ByteArray × Int)} {s:ByteArray} (hx:ev fr x=some (.map (some b))) (hy:ev fr y=some (.string s)) (hm:MpP b es∈H) :
  Yd P n fr H (.lookup t x y true) ty (.tuple #[.int .i64 ((X2 es s).getD 0),.bool (X2 es s).isSome]):=.mk fun a w d pos Cf gd hA hH=>by
 have hb:=MpP.at_ (hH _ hm:(MpP b es).P w);obtain ⟨i,hi,hz⟩:=Option.map_eq_some_iff.1 hM.z;have hk:=fun e=>Bau (P:=P) (t:=t) e s w;have e:(Instr.lookup t (.map (some b)) (.string s) true).run P w=.ok (.tuple #[.int .i64 ((X2 es s).getD 0),.bool (X2 es s).isSome]) w:=by
  cases hg:X2 es s with
  | none=>simp [Instr.lookup,run_underlying hM.u,MapKept.run_getObj_map hb,hk,MapKept.run_findKey hM.k (Adn 0 0 hg),zeroValue,typeInfo,hi,hz,Result.andThen]
  | some v =>
   obtain ⟨m,hm⟩:=Ak4 0 0 hg;simp [Instr.lookup,run_underlying hM.u,MapKept.run_getObj_map hb,hk,MapKept.run_findKey hM.k hm,Result.andThen]
 simp [execOp,hA.ev hx,hA.ev hy,e]
end
theorem Dw {s:ByteArray} {l:Bs}:s=bz l↔s.data.toList=l:=⟨fun h=>by rw [h,Jo],fun h=>by rw [←h,Ya]⟩
theorem Tb {ws:List ByteArray} {i:Nat} (h:i < ws.length):atW (ws.map fun t=>t.data.toList) i=(ws[i]).data.toList:=by
 unfold atW;rw [Qj (by rw [List.length_map];exact h),List.getElem_map]
def Am6:List (ByteArray × Int):=[(⟨#[100,111,119,110]⟩,2),(⟨#[117,112]⟩,5),(⟨#[108,111,115,101]⟩,3),(⟨#[99,117,116]⟩,6)]
theorem Ast (s:ByteArray):(X2 Am6 s).getD 0=Q1 s.data.toList∧(X2 Am6 s).isSome=decide (Q1 s.data.toList≠0):=by
 unfold Am6 X2 X2 X2 X2 X2 Q1;have e1:(s=⟨#[100,111,119,110]⟩)=(s.data.toList=Arr):=propext (Dw (l:=Arr));have e2:(s=⟨#[117,112]⟩)=(s.data.toList=wUp):=propext (Dw (l:=wUp));have e3:(s=⟨#[108,111,115,101]⟩)=(s.data.toList=Ars):=propext (Dw (l:=Ars));have e4:(s=⟨#[99,117,116]⟩)=(s.data.toList=Bdd):=propext (Dw (l:=Bdd));by_cases h1:s.data.toList=Arr
 ·rw [if_pos (by rw [e1];exact h1),if_pos h1];exact EB
 rw [if_neg (by rw [e1];exact h1),if_neg h1];by_cases h2:s.data.toList=wUp
 ·rw [if_pos (by rw [e2];exact h2),if_pos h2];exact EB
 rw [if_neg (by rw [e2];exact h2),if_neg h2];by_cases h3:s.data.toList=Ars
 ·rw [if_pos (by rw [e3];exact h3),if_pos h3];exact EB
 rw [if_neg (by rw [e3];exact h3),if_neg h3];by_cases h4:s.data.toList=Bdd
 ·rw [if_pos (by rw [e4];exact h4),if_pos h4];exact EB
 rw [if_neg (by rw [e4];exact h4),if_neg h4];exact EB
def wsL (ws:List ByteArray):List Bs:=ws.map fun t=>t.data.toList
theorem Aq5 {ws:List ByteArray} (h0:0 < ws.length) (h:ws[0]=⟨#[115,101,110,100]⟩) (hn:ws.length=1):I9 (wsL ws)=some ⟨1,0,⟨#[]⟩⟩:=by
 unfold I9 wsL;rw [Tb h0,List.length_map,if_pos ⟨Dw.1 h,hn⟩]
theorem Afs {ws:List ByteArray} (h1:1 < ws.length) (h:(ws[0]'FH)=⟨#[115,101,110,100]⟩) (hn:ws.length=2) (he:¬ws[1]=⟨#[]⟩):I9 (wsL ws)=some ⟨1,0,ws[1]⟩:=by
 unfold I9 wsL;rw [Tb FH,Tb h1,List.length_map,if_neg FH,if_pos ⟨Dw.1 h,hn,fun e=>he (Dw.2 e)⟩,Ya]
theorem Ats {ws:List ByteArray} (h0:0 < ws.length) (h:ws[0]=⟨#[116,105,99,107]⟩) (hn:ws.length=1):I9 (wsL ws)=some ⟨4,0,⟨#[]⟩⟩:=by
 have h2:=(Dw (l:=Amg)).1 h;unfold I9 wsL;rw [Tb h0,List.length_map,if_neg (by rw [h2];exact fun e=>absurd e.1 FK),if_neg FH,if_pos ⟨h2,hn⟩]
theorem Y3 {ws:List ByteArray} (hn:¬ws.length=2) (h1:∀h0:0 < ws.length,ws.length=1→¬ws[0]=⟨#[115,101,110,100]⟩∧¬ws[0]=⟨#[116,105,99,107]⟩) (h0:0 < ws.length):I9 (wsL ws)=none:=by
 unfold I9 wsL;rw [Tb h0,List.length_map,if_neg (fun e=>(h1 h0 e.2).1 (Dw.2 e.1)),if_neg (fun e=>hn e.2.1),if_neg (fun e=>(h1 h0 e.2).2 (Dw.2 e.1)),if_pos hn]
theorem Al9 {ws:List ByteArray} (h1:1 < ws.length) (hn:ws.length=2) (h:¬((ws[0]'FH)=⟨#[115,101,110,100]⟩∧¬ws[1]=⟨#[]⟩)) :
  I9 (wsL ws)=if Q1 (ws[0]'FH).data.toList≠0∧(C1 ws[1]).2=true then some ⟨Q1 (ws[0]'FH).data.toList,(C1 ws[1]).1,⟨#[]⟩⟩ else none:=by
 unfold I9 wsL;rw [Tb FH,Tb h1,List.length_map,Ya,if_neg FH,if_neg (fun e=>h ⟨Dw.2 e.1,fun e2=>e.2.2 (Dw.1 e2)⟩),if_neg FH,if_neg FH]
instance:MapC prog 258 9 3:=⟨FJ,FJ,FJ⟩
theorem Bcj (ws:List ByteArray) (h0:0 < ws.length) (a:Option Addr) (c:Nat) (F FT:List Nat) (hz:∀w∈ws,w.size≤1000000):Fn prog 102 [.slice a ws.length c] [.sl A8 (.slice a ws.length c) ws F,Gs FT] [] (fun (u:Kh × Bool)=>u.1.data.size≤maxLen∧I9 (wsL ws)=if u.2 then some u.1 else none) (fun u=>.tuple #[.agg #[.int .i64 u.1.Cp,.int .i64 u.1.node,.string u.1.data],.bool u.2]) (fun _=>[]):=by
 have hz0:(⟨#[]⟩:ByteArray).size≤maxLen:=Nat.zero_le _;refine enter func102 rfl ntmps102 fun w0=>?_;refine Mx (xs:=ws) 0 ?_;rintro hi0 b0 o0 rfl s0
 repeat (first|(apply wO;apply oc;rfl;exact ydE)|(apply wO;apply Cr;rfl;intro _)|apply Aks|apply Xy|apply Abd|apply Qx)
 refine Ew [0,2,3] [0,1,2,3] (fun _:Unit=>[]) (fun _=>[]) (fun _=>ws.length=2∧∀h1:1 < ws.length,¬(ws[0]=⟨#[115,101,110,100]⟩∧¬ws[1]=⟨#[]⟩)) ?_ fun _ hj=>?_
 ·by_cases h1:ws[0]=⟨#[115,101,110,100]⟩
  ·refine go ?_;rw [show decide (ws[0]=⟨#[115,101,110,100]⟩)=true from decide_eq_true h1];by_cases hn:ws.length=1
   ·refine go ?_;rw [show decide ((ws.length:Int)=1)=true from decide_eq_true FH];refine go ?_;refine ret (⟨⟨1,0,⟨#[]⟩⟩,true⟩:Kh × Bool) ⟨hz0,Aq5 hi0 h1 hn⟩ rfl
   refine go ?_;rw [show decide ((ws.length:Int)=1)=false from decide_eq_false FH];refine go ?_;rw [show decide (ws[0]=⟨#[115,101,110,100]⟩)=true from decide_eq_true h1];by_cases hn2:ws.length=2
   rotate_left
   ·refine go ?_;rw [show decide ((ws.length:Int)=2)=false from decide_eq_false FH];refine go ?_;rw [show decide (ws[0]=⟨#[116,105,99,107]⟩)=false from decide_eq_false (by rw [h1];decide)];refine go ?_;refine A1 rfl (fun h9=>?_) (fun h9=>?_)
    rotate_left
    ·exact absurd h9 FH
    refine go ?_;refine ret (⟨⟨0,0,⟨#[]⟩⟩,false⟩:Kh × Bool) ⟨hz0,Y3 hn2 (fun _ e=>absurd e hn) hi0⟩ rfl
   refine Mx (xs:=ws) 1 ?_;rintro hi1 b1 o1 e1 s1;cases e1;refine go ?_;rw [show decide ((ws.length:Int)=2)=true from decide_eq_true FH];refine go ?_;by_cases he:ws[1]=⟨#[]⟩
   ·rw [show decide (¬ws[1]=⟨#[]⟩)=false from decide_eq_false (fun h=>h he)];refine go ?_;rw [show decide (ws[0]=⟨#[116,105,99,107]⟩)=false from decide_eq_false (by rw [h1];decide)];refine go ?_;refine A1 rfl (fun h9=>?_) (fun h9=>?_)
    ·exact absurd h9 FH
    refine go ?_;refine Br () ⟨hn2,fun _ h=>h.2 he⟩
   ·rw [show decide (¬ws[1]=⟨#[]⟩)=true from decide_eq_true he];refine go ?_;refine ret (⟨⟨1,0,ws[1]⟩,true⟩:Kh × Bool) ⟨s1,Afs hi1 h1 hn2 he⟩ rfl
  ·refine go ?_;rw [show decide (ws[0]=⟨#[115,101,110,100]⟩)=false from decide_eq_false h1];refine go ?_;rw [show decide (ws[0]=⟨#[115,101,110,100]⟩)=false from decide_eq_false h1];refine go ?_;by_cases h2:ws[0]=⟨#[116,105,99,107]⟩
   ·rw [show decide (ws[0]=⟨#[116,105,99,107]⟩)=true from decide_eq_true h2];refine go ?_;by_cases hn:ws.length=1
    ·rw [show decide ((ws.length:Int)=1)=true from decide_eq_true FH];refine go ?_;refine ret (⟨⟨4,0,⟨#[]⟩⟩,true⟩:Kh × Bool) ⟨hz0,Ats hi0 h2 hn⟩ rfl
    rw [show decide ((ws.length:Int)=1)=false from decide_eq_false FH];refine go ?_;refine A1 rfl (fun h9=>?_) (fun h9=>?_)
    ·refine go ?_;refine ret (⟨⟨0,0,⟨#[]⟩⟩,false⟩:Kh × Bool) ⟨hz0,Y3 FH (fun _ e=>⟨h1,fun e2=>by first|omega|exact h2 e2⟩) hi0⟩ rfl
    refine go ?_;refine Br () ⟨FH,fun _ h=>h1 h.1⟩
   ·rw [show decide (ws[0]=⟨#[116,105,99,107]⟩)=false from decide_eq_false h2];refine go ?_;refine A1 rfl (fun h9=>?_) (fun h9=>?_)
    ·refine go ?_;refine ret (⟨⟨0,0,⟨#[]⟩⟩,false⟩:Kh × Bool) ⟨hz0,Y3 FH (fun _ e=>⟨h1,fun e2=>by first|omega|exact h2 e2⟩) hi0⟩ rfl
    refine go ?_;refine Br () ⟨FH,fun _ h=>h1 h.1⟩
 obtain ⟨hn2,hns⟩:=hj;have hi1:1 < ws.length:=FH
 have hsw:=Al9 hi1 hn2 (hns hi1);have hz1:=hz _ (List.getElem_mem hi1);refine Mx (xs:=ws) 1 ?_;rintro - b1 o1 e1 s1;cases e1;refine go ?_;apply wO;refine Bkg rfl fun mb=>?_;apply wO;refine Au5 (s:=⟨#[100,111,119,110]⟩) rfl rfl rfl Akd rfl ?_;apply wO;refine Au5 (s:=⟨#[117,112]⟩) rfl rfl rfl Akd rfl ?_;apply wO;refine Au5 (s:=⟨#[108,111,115,101]⟩) rfl rfl rfl Akd rfl ?_;apply wO;refine Au5 (s:=⟨#[99,117,116]⟩) rfl rfl rfl Akd rfl ?_;refine go ?_;apply wO;apply oc;rfl;exact Bj1 (es:=Am6) rfl rfl A9;obtain ⟨g1,g2⟩:=Ast ws[0];rw [g1,g2];refine go ?_
 refine cb (fun w st=>(Agy ws[1] FT FH).val w (El (st.get (p:=Gs FT) FI))) ?_;by_cases hk:Q1 (ws[0]).data.toList≠0
 ·rw [show decide (Q1 (ws[0]).data.toList≠0)=true from decide_eq_true hk];refine go ?_;refine ret (⟨⟨Q1 (ws[0]).data.toList,(C1 ws[1]).1,⟨#[]⟩⟩,(C1 ws[1]).2⟩:Kh × Bool) ⟨hz0,?_⟩ rfl;rw [hsw];cases (C1 ws[1]).2
  ·rw [if_neg (fun e=>by cases e.2)];rfl
  ·rw [if_pos ⟨hk,rfl⟩];rfl
 ·rw [show decide (Q1 (ws[0]).data.toList≠0)=false from decide_eq_false hk];refine go ?_;refine ret (⟨⟨Q1 (ws[0]).data.toList,(C1 ws[1]).1,⟨#[]⟩⟩,false⟩:Kh × Bool) ⟨hz0,?_⟩ rfl;rw [hsw,if_neg (fun e=>hk e.1)];rfl
theorem P8 {n:Dv} (h:At n=true):2≤n.Ao.Ad.length∧n.Ao.Ad.length≤8∧n.down.length≤8∧n.up.length=n.down.length∧n.Af.length=n.Ao.Ad.length∧n.down.length=n.Ao.Ad.length:=by
 have hG:=Az.1 h;have h1:=(H8 hG.t).n0;have h2:=(H8 hG.t).n1;obtain ⟨q1,q2,q3,q4⟩:=Bl.1 hG.l;exact ⟨h1,h2,FH,FH,FH,FH⟩
structure DrS where
 x:NE
 z:NV
 a:Option Addr
 c:Nat
 F:List Nat
structure DrK where
 k:Nat
 z:NV
 a:Option Addr
 c:Nat
 F:List Nat
theorem rdQ {w:World} {t:TypeId} {a:Option Addr} {n c:Nat} {l:List (List Ar)} {F:List Nat} (h:(Pc.ow (Ko Ak 233) t (.slice a n c) l F).P w):∃F',(Pc.sl (Ml Ak FK) (.slice a n c) l F').P w:=by
 obtain ⟨F', -,hs⟩:=h.2.sl (Qt (Kq.refl Ak) FK _);exact ⟨F',FK,hs⟩
theorem Wd (l:List (List Ar)) (a:Option Addr) (c:Nat) (F:List Nat) (hl:l.length≤8) (hq:∀q∈l,q.length≤6):FV 199 [.slice a l.length c] [.sl (Ml Ak FK) (.slice a l.length c) l F] (.int .i64 ((qd l:Nat):Int)):=by
 refine enter func199 rfl ntmps199 fun w0=>?_;refine go ?_;refine Eh [6,7] (fun k:Nat=>[(3,.int .i64 ((qd (l.take k):Nat):Int)),(8,.int .i64 (k:Nat))]) (fun k=>k≤l.length) (fun k=>l.length - k) 0 (Nat.zero_le _) fun k hk=>?_;have h6:=O3 hq k;refine go ?_;refine A1 rfl (fun h1=>?_) (fun h1=>?_)
 ·have hh:k < l.length:=FH
  have h7:=hq l[k] (List.getElem_mem hh);refine Nz (E:=Ak) (hz:=FK) (xs:=l) k ?_;rintro hi6 b6 o6 a11 c11 F11 rfl l11;refine go ?_;rw [show ((qd (l.take k):Nat):Int)+(l[k].length:Int)=((qd (l.take (k+1)):Nat):Int) by rw [Ann hh];omega];refine Cg (k+1) hh HJ
 ·obtain rfl:k=l.length:=FH
  refine go ?_;refine ret () trivial ?_;rw [List.take_length];rfl
theorem Ayl {n:Dv} {s:Kh} (hg:At n=true) (hs:Es s=true):n.Ao.Ad.length=(Ib n (Bo n s)).Ao.Ad.length∧n.Af.length=(Ib n (Bo n s)).Af.length∧n.Ac.length=(Ib n (Bo n s)).Ac.length∧n.down.length=(Ib n (Bo n s)).down.length∧n.up.length=(Ib n (Bo n s)).up.length:=by
 cases e:Bo n s with
 | none=>exact ⟨rfl,rfl,rfl,rfl,rfl⟩
 | some r=>exact Bew hg (Nv hg hs e) (T4 e)
theorem Anw (n:Dv) (s:Kh) (g:Nat) (a1:Option Addr) (c1:Nat) (F1:List Nat) (a2:Option Addr) (c2:Nat) (F2:List Nat) (a3:Option Addr) (c3:Nat) (F3:List Nat) (a4:Option Addr) (c4:Nat) (F4:List Nat) (a5:Option Addr) (c5:Nat) (F5:List Nat) (a6:Option Addr) (c6:Nat) (F6:List Nat) (a7:Option Addr) (c7:Nat) (F7:List Nat) (FT:List Nat) (hg:At n=true) (hs:Es s=true) (hss:s.data.size≤maxLen) :
  Fn prog 104 [Il g 0 0,.agg #[.int .i64 (s).Cp,.int .i64 (s).node,.string (s).data]] [Gs FT] [.row g 52 0 [] [.slice a1 n.Ao.Ad.length c1,.int .i64 n.Ab.Aa.Ap,.int .i64 n.Ab.Aa.size,.slice a2 n.Ab.Aa.An.length c2,.int .i64 n.Ab.Ai,.int .i64 n.Ab.quiet,.slice a3 n.Ab.holds.length c3,.slice a4 n.Af.length c4,.slice a5 n.Ac.length c5,.slice a6 n.down.length c6,.slice a7 n.up.length c7] [],.ow Bb 3 (.slice a1 n.Ao.Ad.length c1) n.Ao.Ad F1,.ow A8 9 (.slice a2 n.Ab.Aa.An.length c2) n.Ab.Aa.An F2,.ow Bm 203 (.slice a3 n.Ab.holds.length c3) n.Ab.holds F3,.ow B4 149 (.slice a4 n.Af.length c4) n.Af F4,.ow Bx 156 (.slice a5 n.Ac.length c5) n.Ac F5,.ow (Ko Ak 233) 158 (.slice a6 n.down.length c6) n.down F6,.ow (Ko Ak 233) 158 (.slice a7 n.up.length c7) n.up F7] (fun (_:NV × KA)=>True) (fun z=>.tuple #[.slice z.2.a (Wa (Bo n s)).length z.2.c,.bool (Bo n s).isSome]) (fun z=>[.row g 52 0 [] [.slice z.1.a1 (Ib n (Bo n s)).Ao.Ad.length z.1.c1,.int .i64 (Ib n (Bo n s)).Ab.Aa.Ap,.int .i64 (Ib n (Bo n s)).Ab.Aa.size,.slice z.1.a2 (Ib n (Bo n s)).Ab.Aa.An.length z.1.c2,.int .i64 (Ib n (Bo n s)).Ab.Ai,.int .i64 (Ib n (Bo n s)).Ab.quiet,.slice z.1.a3 (Ib n (Bo n s)).Ab.holds.length z.1.c3,.slice z.1.a4 (Ib n (Bo n s)).Af.length z.1.c4,.slice z.1.a5 (Ib n (Bo n s)).Ac.length z.1.c5,.slice z.1.a6 (Ib n (Bo n s)).down.length z.1.c6,.slice z.1.a7 (Ib n (Bo n s)).up.length z.1.c7] [],.ow Bb 3 (.slice z.1.a1 (Ib n (Bo n s)).Ao.Ad.length z.1.c1) (Ib n (Bo n s)).Ao.Ad z.1.F1,.ow A8 9 (.slice z.1.a2 (Ib n (Bo n s)).Ab.Aa.An.length z.1.c2) (Ib n (Bo n s)).Ab.Aa.An z.1.F2,.ow Bm 203 (.slice z.1.a3 (Ib n (Bo n s)).Ab.holds.length z.1.c3) (Ib n (Bo n s)).Ab.holds z.1.F3,.ow B4 149 (.slice z.1.a4 (Ib n (Bo n s)).Af.length z.1.c4) (Ib n (Bo n s)).Af z.1.F4,.ow Bx 156 (.slice z.1.a5 (Ib n (Bo n s)).Ac.length z.1.c5) (Ib n (Bo n s)).Ac z.1.F5,.ow (Ko Ak 233) 158 (.slice z.1.a6 (Ib n (Bo n s)).down.length z.1.c6) (Ib n (Bo n s)).down z.1.F6,.ow (Ko Ak 233) 158 (.slice z.1.a7 (Ib n (Bo n s)).up.length z.1.c7) (Ib n (Bo n s)).up z.1.F7,.ow A8 9 (.slice z.2.a (Wa (Bo n s)).length z.2.c) (Wa (Bo n s)) z.2.F]):=by
 obtain ⟨k1,k2,k3,k4,k5⟩:=Ayl hg hs;have h:=Bh5 n s g a1 c1 F1 a2 c2 F2 a3 c3 F3 a4 c4 F4 a5 c5 F5 a6 c6 F6 a7 c7 F7 FT hg hs hss;rw [←k1,←k2,←k3,←k4,←k5];exact h
theorem Azf (n:Dv) (g:Nat) (a1:Option Addr) (c1:Nat) (F1:List Nat) (a2:Option Addr) (c2:Nat) (F2:List Nat) (a3:Option Addr) (c3:Nat) (F3:List Nat) (a4:Option Addr) (c4:Nat) (F4:List Nat) (a5:Option Addr) (c5:Nat) (F5:List Nat) (a6:Option Addr) (c6:Nat) (F6:List Nat) (a7:Option Addr) (c7:Nat) (F7:List Nat) (FT:List Nat) (hg:At n=true) :
  Fn prog 106 [Il g 0 0] [Gs FT] [.row g 52 0 [] [.slice a1 n.Ao.Ad.length c1,.int .i64 n.Ab.Aa.Ap,.int .i64 n.Ab.Aa.size,.slice a2 n.Ab.Aa.An.length c2,.int .i64 n.Ab.Ai,.int .i64 n.Ab.quiet,.slice a3 n.Ab.holds.length c3,.slice a4 n.Af.length c4,.slice a5 n.Ac.length c5,.slice a6 n.down.length c6,.slice a7 n.up.length c7] [],.ow Bb 3 (.slice a1 n.Ao.Ad.length c1) n.Ao.Ad F1,.ow A8 9 (.slice a2 n.Ab.Aa.An.length c2) n.Ab.Aa.An F2,.ow Bm 203 (.slice a3 n.Ab.holds.length c3) n.Ab.holds F3,.ow B4 149 (.slice a4 n.Af.length c4) n.Af F4,.ow Bx 156 (.slice a5 n.Ac.length c5) n.Ac F5,.ow (Ko Ak 233) 158 (.slice a6 n.down.length c6) n.down F6,.ow (Ko Ak 233) 158 (.slice a7 n.up.length c7) n.up F7] (fun (_:NV × KA)=>True) (fun z=>.slice z.2.a (Q9 n).2.length z.2.c) (fun z=>[.row g 52 0 [] [.slice z.1.a1 (Q9 n).1.Ao.Ad.length z.1.c1,.int .i64 (Q9 n).1.Ab.Aa.Ap,.int .i64 (Q9 n).1.Ab.Aa.size,.slice z.1.a2 (Q9 n).1.Ab.Aa.An.length z.1.c2,.int .i64 (Q9 n).1.Ab.Ai,.int .i64 (Q9 n).1.Ab.quiet,.slice z.1.a3 (Q9 n).1.Ab.holds.length z.1.c3,.slice z.1.a4 (Q9 n).1.Af.length z.1.c4,.slice z.1.a5 (Q9 n).1.Ac.length z.1.c5,.slice z.1.a6 (Q9 n).1.down.length z.1.c6,.slice z.1.a7 (Q9 n).1.up.length z.1.c7] [],.ow Bb 3 (.slice z.1.a1 (Q9 n).1.Ao.Ad.length z.1.c1) (Q9 n).1.Ao.Ad z.1.F1,.ow A8 9 (.slice z.1.a2 (Q9 n).1.Ab.Aa.An.length z.1.c2) (Q9 n).1.Ab.Aa.An z.1.F2,.ow Bm 203 (.slice z.1.a3 (Q9 n).1.Ab.holds.length z.1.c3) (Q9 n).1.Ab.holds z.1.F3,.ow B4 149 (.slice z.1.a4 (Q9 n).1.Af.length z.1.c4) (Q9 n).1.Af z.1.F4,.ow Bx 156 (.slice z.1.a5 (Q9 n).1.Ac.length z.1.c5) (Q9 n).1.Ac z.1.F5,.ow (Ko Ak 233) 158 (.slice z.1.a6 (Q9 n).1.down.length z.1.c6) (Q9 n).1.down z.1.F6,.ow (Ko Ak 233) 158 (.slice z.1.a7 (Q9 n).1.up.length z.1.c7) (Q9 n).1.up z.1.F7,.ow A8 9 (.slice z.2.a (Q9 n).2.length z.2.c) (Q9 n).2 z.2.F]):=by
 have hwn:=Bdf hg;refine enter func106 rfl ntmps106 fun w0=>?_;refine Db A8 9 ?_;refine go ?_
 refine Cd [0] (fun s:DrS=>[(3,.slice s.a s.x.2.length s.c)]) (fun s=>[.row g 52 0 [] [.slice s.z.a1 s.x.1.Ao.Ad.length s.z.c1,.int .i64 s.x.1.Ab.Aa.Ap,.int .i64 s.x.1.Ab.Aa.size,.slice s.z.a2 s.x.1.Ab.Aa.An.length s.z.c2,.int .i64 s.x.1.Ab.Ai,.int .i64 s.x.1.Ab.quiet,.slice s.z.a3 s.x.1.Ab.holds.length s.z.c3,.slice s.z.a4 s.x.1.Af.length s.z.c4,.slice s.z.a5 s.x.1.Ac.length s.z.c5,.slice s.z.a6 s.x.1.down.length s.z.c6,.slice s.z.a7 s.x.1.up.length s.z.c7] [],.ow Bb 3 (.slice s.z.a1 s.x.1.Ao.Ad.length s.z.c1) s.x.1.Ao.Ad s.z.F1,.ow A8 9 (.slice s.z.a2 s.x.1.Ab.Aa.An.length s.z.c2) s.x.1.Ab.Aa.An s.z.F2,.ow Bm 203 (.slice s.z.a3 s.x.1.Ab.holds.length s.z.c3) s.x.1.Ab.holds s.z.F3,.ow B4 149 (.slice s.z.a4 s.x.1.Af.length s.z.c4) s.x.1.Af s.z.F4,.ow Bx 156 (.slice s.z.a5 s.x.1.Ac.length s.z.c5) s.x.1.Ac s.z.F5,.ow (Ko Ak 233) 158 (.slice s.z.a6 s.x.1.down.length s.z.c6) s.x.1.down s.z.F6,.ow (Ko Ak 233) 158 (.slice s.z.a7 s.x.1.up.length s.z.c7) s.x.1.up s.z.F7,.ow A8 9 (.slice s.a s.x.2.length s.c) s.x.2 s.F]) (fun s=>Wl (n,[]) s.x∧drE s.x=Q9 n) (fun s=>wN s.x.1) ⟨(n,[]),⟨a1,c1,F1,a2,c2,F2,a3,c3,F3,a4,c4,F4,a5,c5,F5,a6,c6,F6,a7,c7,F7⟩,none,0,[]⟩ ⟨.refl hg,rfl⟩ fun s hs0=>?_
 obtain ⟨x,⟨x1,w1,K1,x2,w2,K2,x3,w3,K3,x4,w4,K4,x5,w5,K5,x6,w6,K6,x7,w7,K7⟩,ea,ec,eF⟩:=s;obtain ⟨fx,hR⟩:=hs0;dsimp only at fx hR ⊢;have hG:=Az.1 fx.g;have h8:=H8 hG.t;have hn8:=h8.n1;have hn2:=h8.n0;obtain ⟨q1,q2,q3,q4⟩:=Bl.1 hG.l;obtain ⟨-, -,hd6,hu6⟩:=In fx.g;have hd6:∀q∈x.1.down,q.length≤6:=fun q hq=>(C9 (hd6 q hq)).1;have hu6:∀q∈x.1.up,q.length≤6:=fun q hq=>(C9 (hu6 q hq)).1;have hb1:=O3 hd6 x.1.down.length;have hb2:=O3 hu6 x.1.up.length;rw [List.take_length] at hb1 hb2;have hev:=fx.e;simp only [List.length_nil] at hev;refine go ?_;refine As [0] [] ?_;refine Dq 0 1 2 3 ?_
 refine Dq 5 6 7 8 ?_;refine dN 4 ?_;refine oC ?_;refine cfr (fun w st=>by obtain ⟨Fq,hq⟩:=rdQ (st.get (p:=.ow (Ko Ak 233) 158 (.slice x6 x.1.down.length w6) x.1.down K6) FL);exact ⟨_,El hq,rfl,Wd _ _ _ Fq FH GI⟩) (fun _ _=>?_);refine Ot ?_;refine dk ?_;refine dN 9 ?_;refine oC ?_;refine cfr (fun w st=>by obtain ⟨Fq,hq⟩:=rdQ (st.get (p:=.ow (Ko Ak 233) 158 (.slice x7 x.1.up.length w7) x.1.up K7) FL);exact ⟨_,El hq,rfl,Wd _ _ _ Fq FH GI⟩) (fun _ _=>?_);refine Ot ?_;refine dk ?_;refine Ec 10 11 ?_;refine dd ?_;refine go ?_
 refine A1 rfl (fun h1=>?_) (fun h1=>?_)
 ·have hq0:¬Yv x.1=0:=by unfold Yv;omega
  obtain ⟨fR,hw⟩:=M9 fx.g;have hw:=hw hq0;refine go ?_
  refine Cd [0,24] (fun y:DrK=>[(3,.slice y.a (Et x y.k).2.length y.c),(25,.int .i64 (y.k:Nat))]) (fun y=>[.row g 52 0 [] [.slice y.z.a1 (Et x y.k).1.Ao.Ad.length y.z.c1,.int .i64 (Et x y.k).1.Ab.Aa.Ap,.int .i64 (Et x y.k).1.Ab.Aa.size,.slice y.z.a2 (Et x y.k).1.Ab.Aa.An.length y.z.c2,.int .i64 (Et x y.k).1.Ab.Ai,.int .i64 (Et x y.k).1.Ab.quiet,.slice y.z.a3 (Et x y.k).1.Ab.holds.length y.z.c3,.slice y.z.a4 (Et x y.k).1.Af.length y.z.c4,.slice y.z.a5 (Et x y.k).1.Ac.length y.z.c5,.slice y.z.a6 (Et x y.k).1.down.length y.z.c6,.slice y.z.a7 (Et x y.k).1.up.length y.z.c7] [],.ow Bb 3 (.slice y.z.a1 (Et x y.k).1.Ao.Ad.length y.z.c1) (Et x y.k).1.Ao.Ad y.z.F1,.ow A8 9 (.slice y.z.a2 (Et x y.k).1.Ab.Aa.An.length y.z.c2) (Et x y.k).1.Ab.Aa.An y.z.F2,.ow Bm 203 (.slice y.z.a3 (Et x y.k).1.Ab.holds.length y.z.c3) (Et x y.k).1.Ab.holds y.z.F3,.ow B4 149 (.slice y.z.a4 (Et x y.k).1.Af.length y.z.c4) (Et x y.k).1.Af y.z.F4,.ow Bx 156 (.slice y.z.a5 (Et x y.k).1.Ac.length y.z.c5) (Et x y.k).1.Ac y.z.F5,.ow (Ko Ak 233) 158 (.slice y.z.a6 (Et x y.k).1.down.length y.z.c6) (Et x y.k).1.down y.z.F6,.ow (Ko Ak 233) 158 (.slice y.z.a7 (Et x y.k).1.up.length y.z.c7) (Et x y.k).1.up y.z.F7,.ow A8 9 (.slice y.a (Et x y.k).2.length y.c) (Et x y.k).2 y.F]) (fun y=>y.k≤x.1.Ao.Ad.length) (fun y=>x.1.Ao.Ad.length - y.k) ⟨0,⟨x1,w1,K1,x2,w2,K2,x3,w3,K3,x4,w4,K4,x5,w5,K5,x6,w6,K6,x7,w7,K7⟩,ea,ec,eF⟩ (Nat.zero_le _) fun y hy0=>?_
  obtain ⟨j,⟨x1,w1,K1,x2,w2,K2,x3,w3,K3,x4,w4,K4,x5,w5,K5,x6,w6,K6,x7,w7,K7⟩,ya,yc,yF⟩:=y;dsimp only at hy0 ⊢;have fJ:=Afp fx.g j hy0;have fX:=fx.trans fJ;generalize hX:Et x j=X at fJ fX ⊢;refine go ?_;refine A1 rfl (fun h2=>?_) (fun h2=>?_)
  ·have hj:j < x.1.Ao.Ad.length:=FH
   have hXt:X.1.Ao.Ad.length=x.1.Ao.Ad.length:=by rw [fJ.t]
   have hG:=Az.1 fX.g;obtain ⟨q1,q2,q3,q4⟩:=Bl.1 hG.l;have hjd:j < X.1.down.length:=FH
   have hsd:=Zr (n:=X.1) (i:=j) FH;rw [Qj hjd] at hsd;have hz1:=Aci fX.g;have hev2:=fX.e;simp only [List.length_nil] at hev2;refine go ?_;refine Wu (xs:=X.1.down) (m:=1) j ?_ rfl FH;rintro _ g6 A6 cs6 B6 p6 q6 G6 Gi6 H6 e6 - hc6 hH6;rw [e6];refine U0 ?_;rintro a6 c6 ev6 l6;obtain rfl:=Uq ev6;refine go ?_;refine A1 rfl (fun h4=>?_) (fun h4=>?_)
   ·have j1:1≤j:=by
     rcases Nat.eq_zero_or_pos j with rfl|h
     ·have:=hz1.1;rw [Qj hjd] at this;omega
     ·exact h
    have ok:=Be5 j1 FH;refine Jt X.1.down[j] ?_;refine Sw _ hH6 rfl fun J6=>?_;rw [List.set_getElem_self];refine go ?_;refine Ca (Anw X.1 (Ja j) g x1 w1 K1 x2 w2 K2 x3 w3 K3 x4 w4 K4 x5 w5 K5 _ w6 J6 x7 w7 K7 FT fX.g ok (Nat.zero_le _)) fun z _=>?_;have hfe:=fX.trans (Bh8 fX.g (i:=j) FH);have hfe2:=hfe.e;have htl:(Nl X (Ja j)).2.length=X.2.length+(Wa (Bo X.1 (Ja j))).length:=List.length_append;simp only [List.length_nil] at hfe2;refine A4 (E:=A8) (xs:=Wa (Bo X.1 (Ja j))) fun F8=>?_;refine go ?_;apply wO;refine Pf (E:=A8) (xs:=X.2) (ys:=Wa (Bo X.1 (Ja j))) Dx Gz fun a9 c9 F9=>?_
    generalize hX1:Nl X (Ja j)=X1 at hfe hfe2 htl;rw [show X.2++Wa (Bo X.1 (Ja j))=X1.2 by rw [←hX1];rfl,show Ib X.1 (Bo X.1 (Ja j))=X1.1 by rw [←hX1];rfl];have fX1:Wl X X1:=by rw [←hX1];exact Bh8 fX.g (by rw [hXt];exact hj)
    have hG1:=Az.1 fX1.g;obtain ⟨r1,r2,r3,r4⟩:=Bl.1 hG1.l;have hX1t:X1.1.Ao.Ad.length=x.1.Ao.Ad.length:=by rw [fX1.t];exact hXt
    have hju:j < X1.1.up.length:=FH
    have hsu:=Xf (n:=X1.1) (i:=j) FH;rw [Qj hju] at hsu;have hz0:=Aci fX1.g;refine go ?_;refine Wu (xs:=X1.1.up) (m:=1) j ?_ rfl FH;rintro _ g7 A7 cs7 B7 p7 q7 G7 Gi7 H7 e7 - hc7 hH7;rw [e7];refine U0 ?_;rintro a7 c7 ev7 l7;obtain rfl:=Uq ev7;refine go ?_;refine A1 rfl (fun h3=>?_) (fun h3=>?_)
    ·have j1:1≤j:=by
      rcases Nat.eq_zero_or_pos j with rfl|h
      ·have:=hz0.2;rw [Qj hju] at this;omega
      ·exact h
     have ok:=Bbm j1 FH;have hnx:Et x (j+1)=(Ib X1.1 (Bo X1.1 (Mr j)),X1.2):=by
      show Nl (Nl (Et x j) (Ja j)) (Mr j)=_;rw [hX,hX1];exact Prod.ext rfl (Bh9 fX1.g (i:=j) FH).2
     refine Jt X1.1.up[j] ?_;refine Sw _ hH7 rfl fun J7=>?_;rw [List.set_getElem_self];refine go ?_;refine Ca (Anw X1.1 (Mr j) g z.1.a1 z.1.c1 z.1.F1 z.1.a2 z.1.c2 z.1.F2 z.1.a3 z.1.c3 z.1.F3 z.1.a4 z.1.c4 z.1.F4 z.1.a5 z.1.c5 z.1.F5 z.1.a6 z.1.c6 z.1.F6 _ z.1.c7 J7 FT fX1.g ok (Nat.zero_le _)) fun y _=>?_;refine go ?_
     refine Cg ⟨j+1,⟨y.1.a1,y.1.c1,y.1.F1,y.1.a2,y.1.c2,y.1.F2,y.1.a3,y.1.c3,y.1.F3,y.1.a4,y.1.c4,y.1.F4,y.1.a5,y.1.c5,y.1.F5,y.1.a6,y.1.c6,y.1.F6,y.1.a7,y.1.c7,y.1.F7⟩,a9,c9,F9⟩ (by show j+1≤_;omega) HI GX GW
    ·have hnx:Et x (j+1)=X1:=by
      show Nl (Nl (Et x j) (Ja j)) (Mr j)=_;rw [hX,hX1];exact J3 (by rw [hsu,if_pos FH])
     refine Jt X1.1.up[j] ?_;refine Sw _ hH7 rfl fun J7=>?_;rw [List.set_getElem_self];refine go ?_;refine Cg ⟨j+1,⟨z.1.a1,z.1.c1,z.1.F1,z.1.a2,z.1.c2,z.1.F2,z.1.a3,z.1.c3,z.1.F3,z.1.a4,z.1.c4,z.1.F4,z.1.a5,z.1.c5,z.1.F5,z.1.a6,z.1.c6,z.1.F6,_,z.1.c7,J7⟩,a9,c9,F9⟩ (by show j+1≤_;omega) HI GX GW
   ·have htn:Nl X (Ja j)=X:=J3 (by rw [hsd,if_pos FH]);refine Jt X.1.down[j] ?_;refine Sw _ hH6 rfl fun J6=>?_;rw [List.set_getElem_self];obtain ⟨X1,hX1⟩:∃X1,Nl X (Ja j)=X1:=⟨_,rfl⟩;have hXX:X1=X:=by rw [←hX1,htn]
    subst hXX;have fX1:Wl X1 X1:=.refl fX.g;have hG1:=Az.1 fX1.g;obtain ⟨r1,r2,r3,r4⟩:=Bl.1 hG1.l;have hX1t:X1.1.Ao.Ad.length=x.1.Ao.Ad.length:=by rw [fX1.t];exact hXt
    have hju:j < X1.1.up.length:=FH
    have hsu:=Xf (n:=X1.1) (i:=j) FH;rw [Qj hju] at hsu;have hz0:=Aci fX1.g;refine go ?_;refine Wu (xs:=X1.1.up) (m:=1) j ?_ rfl FH;rintro _ g7 A7 cs7 B7 p7 q7 G7 Gi7 H7 e7 - hc7 hH7;rw [e7];refine U0 ?_;rintro a7 c7 ev7 l7;obtain rfl:=Uq ev7;refine go ?_;refine A1 rfl (fun h3=>?_) (fun h3=>?_)
    ·have j1:1≤j:=by
      rcases Nat.eq_zero_or_pos j with rfl|h
      ·have:=hz0.2;rw [Qj hju] at this;omega
      ·exact h
     have ok:=Bbm j1 FH;have hnx:Et x (j+1)=(Ib X1.1 (Bo X1.1 (Mr j)),X1.2):=by
      show Nl (Nl (Et x j) (Ja j)) (Mr j)=_;rw [hX,hX1];exact Prod.ext rfl (Bh9 fX1.g (i:=j) FH).2
     refine Jt X1.1.up[j] ?_;refine Sw _ hH7 rfl fun J7=>?_;rw [List.set_getElem_self];refine go ?_;refine Ca (Anw X1.1 (Mr j) g x1 w1 K1 x2 w2 K2 x3 w3 K3 x4 w4 K4 x5 w5 K5 _ w6 J6 _ w7 J7 FT fX1.g ok (Nat.zero_le _)) fun y _=>?_;refine go ?_;refine Cg ⟨j+1,⟨y.1.a1,y.1.c1,y.1.F1,y.1.a2,y.1.c2,y.1.F2,y.1.a3,y.1.c3,y.1.F3,y.1.a4,y.1.c4,y.1.F4,y.1.a5,y.1.c5,y.1.F5,y.1.a6,y.1.c6,y.1.F6,y.1.a7,y.1.c7,y.1.F7⟩,ya,yc,yF⟩ (by show j+1≤_;omega) HI GX GW
    ·have hnx:Et x (j+1)=X1:=by
      show Nl (Nl (Et x j) (Ja j)) (Mr j)=_;rw [hX,hX1];exact J3 (by rw [hsu,if_pos FH])
     refine Jt X1.1.up[j] ?_;refine Sw _ hH7 rfl fun J7=>?_;rw [List.set_getElem_self];refine go ?_;refine Cg ⟨j+1,⟨x1,w1,K1,x2,w2,K2,x3,w3,K3,x4,w4,K4,x5,w5,K5,_,w6,J6,_,w7,J7⟩,ya,yc,yF⟩ (by show j+1≤_;omega) HI GX GW
  ·obtain rfl:j=x.1.Ao.Ad.length:=FH
   have hX:=hX;rw [Atm fx.g] at hX;refine go ?_;refine Cg ⟨X,⟨x1,w1,K1,x2,w2,K2,x3,w3,K3,x4,w4,K4,x5,w5,K5,x6,w6,K6,x7,w7,K7⟩,ya,yc,yF⟩ ⟨fX,by rw [←hR,Ahf fx.g hq0,hX]⟩ (by show wN X.1 < wN x.1;rw [←hX];exact hw)
 ·have hq0:Yv x.1=0:=by unfold Yv;omega
  rw [Aby hq0] at hR;rw [hR];exact FA
theorem Akf (n:Dv) (v:Value) (F:List Nat):FV 148 [v] [.isv Ny v n F] (.tuple #[.int .i64 (Rj n).1,.int .i64 (Rj n).2.1,.bool (Rj n).2.2]):=by
 refine enter func148 rfl ntmps148 fun w0=>?_;refine Ho ?_;rintro a1 c1 F1 a2 c2 F2 a3 c3 F3 a4 c4 F4 a5 c5 F5 a6 c6 F6 a7 c7 F7 rfl l1 l2 l3 l4 l5 l6 l7;refine go ?_;intros;refine Ca (Ad0 n _ F) fun _ _=>?_;cases g:At n
 ·refine go ?_;refine ret () trivial ?_;unfold Rj;rw [g];rfl
 obtain ⟨-, -,e3,e4⟩:=In g;obtain ⟨q2,q8,qn,qu,qe,qt⟩:=P8 g;refine go ?_;refine Eh [1,2,3,4] (fun k:Nat=>[(5,.int .i64 ((qd (n.down.take k):Nat):Int)),(6,.int .i64 ((qd (n.up.take k):Nat):Int)),(7,.int .i64 (k:Nat))]) (fun k=>k≤n.down.length) (fun k=>n.down.length - k) 0 (Nat.zero_le _) fun k hk=>?_;have b1:=O3 (fun q hq=>(C9 (e3 q hq)).1) k;have b2:=O3 (fun q hq=>(C9 (e4 q hq)).1) k;refine go ?_;refine A1 rfl (fun h3=>?_) (fun h3=>?_)
 ·have hk3:k < n.down.length:=FH
  have hk4:k < n.up.length:=FH
  have b3:=(C9 (e3 _ (List.getElem_mem hk3))).1;have b4:=(C9 (e4 _ (List.getElem_mem hk4))).1;have s3:=Ann hk3;have s4:=Ann hk4;refine Nz (E:=Ak) (hz:=FK) (xs:=n.down) k ?_;rintro hi1 g1 o1 a8 c8 F8 ea l8;refine Nz (E:=Ak) (hz:=FK) (xs:=n.up) k ?_;rintro hi2 g2 o2 a9 c9 F9 eb l9;rw [ea,eb];refine go ?_;rw [show ((qd (n.down.take k):Nat):Int)+(n.down[k].length:Int)=((qd (n.down.take (k+1)):Nat):Int) by omega,show ((qd (n.up.take k):Nat):Int)+(n.up[k].length:Int)=((qd (n.up.take (k+1)):Nat):Int) by omega];exact DZ
 ·have hk3:k=n.down.length:=FH
  subst hk3;rw [List.take_length,show n.up.take n.down.length=n.up by rw [←qu,List.take_length]];refine go ?_;refine ret () trivial ?_;unfold Rj;rw [g];rfl
theorem Ar3 (n:Dv) (v:Value) (F:List Nat):FV 201 [v] [.isv Ny v n F] (.tuple #[.bool (Gh n).1,.bool (Gh n).2]):=by
 refine enter func201 rfl ntmps201 fun w0=>?_;refine Ho ?_;rintro a1 c1 F1 a2 c2 F2 a3 c3 F3 a4 c4 F4 a5 c5 F5 a6 c6 F6 a7 c7 F7 rfl l1 l2 l3 l4 l5 l6 l7;refine go ?_;intros;refine Ca (Abr n _ F) fun _ _=>?_;cases g:At n
 ·refine go ?_;refine ret () trivial ?_;unfold Gh;rw [g];rfl
 obtain ⟨-, -,e3,e4⟩:=In g;obtain ⟨q2,q8,qn,qu,qe,qt⟩:=P8 g;have hG:=Az.1 g;obtain ⟨-,qr, -, -⟩:=Bl.1 hG.l;have hS:=Lx hG.s;have hW:=Ea.1 (Ff.1 hG.s).1;have hS1:=hS.l;have hb1:=O3 (fun q hq=>(C9 (e3 q hq)).1) n.down.length;have hb2:=O3 (fun q hq=>(C9 (e4 q hq)).1) n.up.length;rw [List.take_length] at hb1 hb2;refine Og ?_;intros;refine I3 n.Ao (a1:=a1) ?_;refine go ?_;refine Ca (Ba7 n.Ao _ _ FH) fun z _=>?_;refine A4 (E:=Bb) (xs:=lvs n.Ao.Ad) fun Fl=>?_;have hlv:=Als n.Ao.Ad n.Ao.Ad.length;rw [show Q2 n.Ao.Ad n.Ao.Ad.length=lvs n.Ao.Ad from rfl] at hlv;refine go ?_
 refine Eh [1,2,3,12,13] (fun k:Nat=>[(14,.int .i64 (k:Nat))]) (fun k=>k≤(lvs n.Ao.Ad).length∧∀x∈(lvs n.Ao.Ad).take k,Adr n x.toNat=true) (fun k=>(lvs n.Ao.Ad).length - k) 0 ⟨Nat.zero_le _,FI⟩ fun k hk=>?_;obtain ⟨hk,hal⟩:=hk;refine go ?_;refine A1 rfl (fun h3=>?_) (fun h3=>?_)
 ·have hk3:k < (lvs n.Ao.Ad).length:=FH
  obtain ⟨i,hi8,hie,hlf⟩:=Bhl hk3;have h5:i < n.Ac.length:=FH
  refine I6 (xs:=lvs n.Ao.Ad) k ?_;rintro hi b o e;rw [e,hie];refine Kr (xs:=n.Ac) i ?_;rintro h5b b5 o5 a9 c9 F9 a10 c10 F10 e5 l9 l10;rw [e5];refine Ep n.Ac[i] ?_;cases hs:Agc n.Ac[i]
  ·refine Og ?_;intros;refine As [0,8] [] ?_;refine dt 0 ?_;refine dN 1 ?_;refine oC ?_;refine Ca (Ae8 n.Ac[i] _ _) fun _ _=>?_;rw [hs];refine dk ?_;refine Ec 2 3 ?_;refine ds 4 ?_;refine ds 5 ?_;refine ds 6 ?_;refine ds 7 ?_;refine ds 8 ?_;refine ds 9 ?_;refine ds 10 ?_;refine ds 11 ?_;refine dt 12 ?_;refine dd ?_;refine go ?_;refine ret () trivial ?_;unfold Gh;rw [g];rw [if_pos rfl,Ai8 hi8 hlf (by unfold Adr;rw [Hh h5,hs];rfl)];rfl
  ·refine Og ?_;intros;refine As [0,8] [] ?_;refine dt 0 ?_;refine dN 1 ?_;refine oC ?_;refine Ca (Ae8 n.Ac[i] _ _) fun _ _=>?_;rw [hs];refine dk ?_;refine Ec 2 3 ?_;refine Do 4 ?_;refine Do 5 ?_;refine Do 6 ?_;refine Do 7 ?_;refine Do 8 ?_;refine Do 9 ?_;refine d1g 10 ?_;apply On.h;refine oC ?_;refine cb (fun w s=>Iy n.Ab.Aa.Ap n.Ab.Aa.size _ n.Ab.Aa.An.length _ w hW.1.1 hW.1.2 FH) ?_;refine dk ?_;refine Do 11 ?_;refine dt 12 ?_;refine dd ?_;refine go ?_;refine A1 rfl (fun h6=>?_) (fun h6=>?_)
   ·refine go ?_;refine ret () trivial ?_;unfold Gh;rw [g];rw [if_pos rfl,Ai8 hi8 hlf (by unfold Adr;rw [Hh h5,hs,decide_eq_false h6];rfl)];rfl
   ·refine go ?_;rw [show ((k:Nat):Int)+1=((k+1:Nat):Int) by omega];refine Cg (k+1) ⟨hk3,fun x hx=>?_⟩ FH;rw [List.take_succ_eq_append_getElem hk3] at hx;rcases List.mem_append.1 hx with hx|hx
    ·exact hal x hx
    ·rw [List.mem_singleton.1 hx,hie];show Adr n i=true;unfold Adr;rw [Hh h5,hs,decide_eq_true (Decidable.not_not.1 h6)];rfl
 ·refine Og ?_;intros;refine As [2] [] ?_;refine Dq 0 1 3 4 ?_;refine dN 2 ?_;refine oC ?_;refine Ca (Wd n.down _ _ _ FH fun q hq=>(C9 (e3 q hq)).1) fun _ _=>?_;refine dk ?_;refine dN 5 ?_;refine oC ?_;refine Ca (Wd n.up _ _ _ FH fun q hq=>(C9 (e4 q hq)).1) fun _ _=>?_;refine dk ?_;refine Dq 6 7 8 9 ?_;refine dd ?_;have hst:Z8 n=decide (((qd n.down:Nat):Int)+((qd n.up:Nat):Int)=0):=by
   by_cases h0:Yv n=0
   ·rw [Aq8 h0 fun j hj hl=>hal ((j:Nat):Int) (by rw [List.take_of_length_le FH];exact Bbb hj hl)];exact (decide_eq_true KJ).symm
   ·rw [Bck h0];exact (decide_eq_false KJ).symm
  rw [←hst];refine go ?_;refine ret () trivial ?_;unfold Gh;rw [g];rfl
end Go.Proofs.YtcmighgaiacgoaaGreatDoor
