/- Part 9 of the proof: 37 texts, one behind the other. -/
import Derived.Laws.IdiomStrings
import Derived.Laws.Bits64b
import Derived.Laws.StructEq
import Derived.Test.YtkoldibamfjghaaGreatDoorM8
open _root_.Go.Proofs.Tryz
set_option maxRecDepth 100000
set_option maxHeartbeats 8000000
set_option linter.all false
set_option linter.unusedVariables false
set_option linter.unusedSimpArgs false
namespace Go.Proofs.YtkoldibamfjghaaGreatDoor
theorem AB{p:Prop}(h:p:=by refine Ci Bc (by decide) ?_;refine Ci A8 (by decide) ?_;refine Ci Bw (by decide) ?_;refine Ci Bv (by decide) ?_;refine Ci B8 (by decide) ?_;refine Ci (Oa An (by decide)) (by decide) ?_;refine Ci (Oa An (by decide)) (by decide) ?_;refine Es Sb (a1:=none) (c1:=0) (a2:=none) (c2:=0) (a3:=none) (c3:=0) (a4:=none) (c4:=0) (a5:=none) (c5:=0) (a6:=none) (c6:=0) (a7:=none) (c7:=0) ?_;refine go ?_;intros;refine Cy A8 ?_;refine go ?_;refine ret (⟨_,_,_,_,_⟩:StZ) trivial rfl):p:=h
theorem AH{p:Prop}(h:p:=by rw [show (ys++[([aa 77,ab none 0 0,aa (z.y.Ai+2)]:am)]).length=(z.y.Ah++[(⟨77,[],z.y.Ai+2⟩:Ha)]).length by simp [hyl]];refine Gc ⟨z.y.Ai,z.y.Ah++[⟨77,[],z.y.Ai+2⟩]⟩ ?_;refine ret ⟨⟨z.y.Ai,z.y.Ah++[⟨77,[],z.y.Ai+2⟩]⟩,_,_,_,0,s3⟩ ⟨by show (z.y.Ah++[_]).length<=1000;simp;omega,fun e he=>(aK.1 he).elim (fun h=>by have:=z1.f e h;have:=z1.mm;omega) (fun h=>by rw [aM.1 h];simp),hp.mono (by omega)⟩ rfl):p:=h
theorem AJ{p:Prop}(h:p:=by refine dk ?_;refine dN 8 ?_;refine Nb (U2 ⟨p.Ae,x.Ai+3⟩) Is fun a8 c8 F8=>?_;refine dk ?_;refine dN 13 ?_;refine Ni (ys:=x.holds.drop (Fv x.Aa.Am x.holds p.Ae)) Is Ks (h63:=by simp;omega) (hby:=by simp;omega) fun a9 c9 F9=>?_;refine dk ?_;refine dt 14 ?_;refine dN 15 ?_;refine oS ?_;refine dk ?_;refine dd ?_;refine go ?_;rw [hAdd];refine Bk (⟨a9,c9,F9⟩:Bao) trivial):p:=h
theorem AM{p:Prop}(h:p:=by refine dk ?_;refine dN 3 ?_;refine oC ?_;refine Bf (Zy z.y l.1 _ z.F z1.t0 z1.t1 z1.l6 z1.z0 (by have:=z1.h1;omega) z1.w hl3) fun q _=>?_;refine dk ?_;refine dt 4 ?_;refine Q0 5 ?_;refine Q0 6 ?_;refine dN 7 ?_;refine oS ?_;refine Nm ?_;refine dd ?_;refine go ?_;rw [show ((z.i:Nat):Int) - 1=((z.i - 1:Nat):Int) by omega];refine Ca ⟨Pr z.y l.1,q.a,q.c,q.a2,q.c2,q.F,z.i - 1,l.2⟩ ⟨by rw [show r0 - (z.i - 1)=r0 - z.i+1 by omega];exact Ar3 z1 hl3,by show z.i - 1<=r0;omega,hl2.mono (by show _<=B+20+50 * (r0 - (z.i - 1));omega)⟩ (by show z.i - 1 < z.i;omega)):p:=h
theorem AO{p:Prop}(h:p:=by rw [show (ys++[([aa q.1,ab (some ⟨gf,0,none⟩) 1 1,aa (z.y.Ai+(t.1:Nat))]:am)]).length=(z.y.Ah++[(⟨q.1,[(r.1:Int)],z.y.Ai+(t.1:Nat)⟩:Ha)]).length by simp [hyl]];refine Gc ⟨z.y.Ai,z.y.Ah++[⟨q.1,[(r.1:Int)],z.y.Ai+(t.1:Nat)⟩]⟩ ?_;refine ret ⟨⟨z.y.Ai,z.y.Ah++[⟨q.1,[(r.1:Int)],z.y.Ai+(t.1:Nat)⟩]⟩,_,_,_,0,t.2⟩ ⟨by show (z.y.Ah++[_]).length<=1000;simp;omega,fun e he=>(aK.1 he).elim (fun h=>by have:=z1.f e h;have:=z1.mm;omega) (fun h=>by rw [aM.1 h];simp),ht2.mono (by omega)⟩ rfl):p:=h
theorem BF{p:Prop}(h:p:=by rw [show Bi n s=(Sb,[],false) by unfold Bi;rw [g1,g2,htk0,e1];rfl];exact AB):p:=h
theorem BM{p:Prop}(h:p:=by refine go ?_;refine Bf (Sk _ g F s6 3 h6 (by omega) (by omega) (by omega)) fun l hl=>?_;obtain ⟨hl1,hl2⟩:=hl;refine go ?_;refine ret ⟨⟨1,0,l.1⟩,l.2⟩ ⟨by show (decide ((0:Int)=0) && Pe l.1)=true;rw [Apv (by omega) hl1.2.2];rfl,by show l.1.size<=maxLen;unfold maxLen;omega,hl2.mono (by omega)⟩ rfl):p:=h
theorem BP{p:Prop}(h:p:=by refine go ?_;refine ret ⟨⟨2,((z.n:Nat):Int),⟨#[]⟩⟩,s6⟩ ⟨okq (by decide) z1 z2,by show (0:Nat)<=maxLen;exact aG _,h6.mono (by omega)⟩ rfl):p:=h
theorem BR{p:Prop}(h:p:=by refine dk ?_;refine dN 7 ?_;refine oC ?_;refine Bf (Ack R (M0 (k+1)) _ Gi hgr (by omega) (by omega) (by have:=hgr.k1;omega)) fun s _=>?_;refine dk ?_;refine Df 8 9 10 11 ?_;refine dN 13 ?_;refine oS ?_;refine dk ?_;refine Dh 14 15 ?_;refine dd ?_;refine Bk (⟨_,s⟩:Nat × TkR) trivial):p:=h
theorem BW{p:Prop}(h:p:=by refine dk ?_;refine dN 8 ?_;refine oC ?_;refine Bf (Acj n.Ad[i] p (M0 i) _ Gi hgr hp d0 d1_) fun s _=>?_;refine dk ?_;refine Dh 9 10 ?_;refine dt 11 ?_;refine dN 13 ?_;refine oS ?_;refine dk ?_;refine dt 14 ?_;refine dd ?_;refine Bk (⟨_,s⟩:Nat × NwS) trivial):p:=h
theorem BZ{p:Prop}(h:p:=by refine dk ?_;refine dN 6 ?_;refine oS ?_;refine dk ?_;refine dd ?_;refine go ?_;refine Bk (⟨_,z.a,z.c,z.a2,z.c2,z.F⟩:RjS) trivial):p:=h
theorem CS{p:Prop}(h:p:=by refine dk ?_;refine dt 6 ?_;refine dd ?_;refine go ?_;refine Eh (xs:=[Rm x.Aa]) (Dd _ (by show (⟨#[]⟩:au).size<=maxLen;decide)) ?_ (by simp);refine ret ⟨s.a,s.c,s.a2,s.c2,s.F,_,_,_⟩ trivial rfl):p:=h
theorem CT{p:Prop}(h:p:=by refine dk ?_;refine dN 11 ?_;refine oC ?_;refine Bf (hW _ F8) fun s _=>?_;refine dk ?_;refine dt 12 ?_;refine dN 14 ?_;refine oS ?_;refine dk ?_;refine dd ?_;refine Bk (⟨_,b1,d1,G1,s⟩:OwN) trivial):p:=h
theorem CU{p:Prop}(h:p:=by refine ret (⟨_,FN,_,_,_⟩:StZ) trivial rfl):p:=h
theorem EU{p:Prop}(h:p:=by refine dN 13 ?_;refine oS ?_;refine dk ?_;refine dt 14 ?_;refine dd ?_;refine Bk (⟨_,b3,d3,Fe,s.a,s.c,s.G⟩:JE) trivial):p:=h
theorem EY{p:Prop}(h:p:=by refine go ?_;refine ret ⟨⟨4,0,⟨#[]⟩⟩,s6⟩ ⟨rfl,by show (0:Nat)<=maxLen;exact aG _,h6.mono (by omega)⟩ rfl):p:=h
theorem GO{p:Prop}(h:p:=by show z.i - 1 < z.i;omega):p:=h
theorem HF{p:Prop}(h:p:=by show _<=B+20+50 * (r0 - (z.i - 1));omega):p:=h
theorem IG{p:Prop}(h:p:=by show i < n.Al.Ac.length;omega):p:=h
theorem IJ{p:Prop}(h:p:=by show z.y.Aa.Ak.length<=7;omega):p:=h
theorem JD{p:Prop}(h:p:=by rw [IntKind.wrap_u64];omega):p:=h
theorem JL{p:Prop}(h:p:=by simpa using ev.symm):p:=h
theorem JQ{p:Prop}(h:p:=by simpa using e9):p:=h
theorem KB{p:Prop}(h:p:=by show y.Ai<=30+((m+1:Nat):Int);omega):p:=h
theorem KI{p:Prop}(h:p:=by show z.i - 1<=r0;omega):p:=h
theorem KM{p:Prop}(h:p:=by show z.y.holds.length<=20;omega):p:=h
end Go.Proofs.YtkoldibamfjghaaGreatDoor
namespace Go.Proofs.YtkoldibamfjghaaGreatDoor
open Go.RowKit
section
variable {c:Cx} {fr:Fr} {H:List Pc} {Φ:Gl}
end
end Go.Proofs.YtkoldibamfjghaaGreatDoor
namespace Go.Proofs.YtkoldibamfjghaaGreatDoor

open Go.RowKit
end Go.Proofs.YtkoldibamfjghaaGreatDoor
namespace Go.Proofs.YtkoldibamfjghaaGreatDoor
open Go.RowKit
structure MkF {α:Type} (mk:Int->α->α) (cn:α->Nat) (k0:Int) (xs:List α) (i:Nat) (K:Int):Prop where
 hi:i < xs.length
 st:((Arw mk cn k0 xs).take i++xs.drop i).set i (mk K xs[i])=(Arw mk cn k0 xs).take (i+1)++xs.drop (i+1)
 nx:K+((cn xs[i]:Nat):Int)=k0+((Bht cn xs (i+1):Nat):Int)
 up:K+((cn xs[i]:Nat):Int)<=k0+((Bhl cn xs:Nat):Int)
 lo:k0<=K
 ml:((Arw mk cn k0 xs).take i++xs.drop i).length=xs.length
end Go.Proofs.YtkoldibamfjghaaGreatDoor
namespace Go.Proofs.YtkoldibamfjghaaGreatDoor

open Go.RowKit
end Go.Proofs.YtkoldibamfjghaaGreatDoor
namespace Go.Proofs.YtkoldibamfjghaaGreatDoor
open Go.RowKit
def Bg5:B4:=⟨Sb,⟨⟨#[]⟩,⟨#[]⟩,0⟩⟩
def Ol (t:Pv) (f y:Int):B4 × Bool:=if (Kh t f y).2 then (⟨(Kh t f y).1,⟨⟨#[]⟩,⟨#[]⟩,0⟩⟩,true) else (Bg5,false)
theorem Ac6 (t:Pv) (f y:Int) (v:Value) (F:aq):Fn prog 46 [v,aa f,aa y] [.isv Sq v t F] [] (fun (_:am × aq)=>True) (fun s=>.tuple #[.agg s.1.toArray,.bool (Ol t f y).2]) (fun s=>[.own Aal (.agg s.1.toArray) (Ol t f y).1 s.2]):=by
 refine enter func46 rfl ntmps46 fun w0=>?_;refine Nv ?_;rintro a0 c0 F0 rfl l0;refine Cf Bc 3 ?_;refine Cf A8 9 ?_;refine Cf Bw 191 ?_;refine Cf Ce 122 ?_;refine Cf B9 76 ?_;refine Cf (Ki An 141) 125 ?_;refine Cf (Ki An 141) 125 ?_;refine Y0 Bg5 (aG _) (aG _) ?_;refine go ?_;intros;refine Bf (Abj t f y _ F) fun s _=>?_;unfold Ol;generalize hr:Kh t f y=r;refine Ago (x:=r.1) ?_;rintro a1 c1 F1 a2 c2 F2 a3 c3 F3 a4 c4 F4 a5 c5 F5 a6 c6 F6 a7 c7 F7 e l1 l2 l3 l4 l5 l6 l7;rw [e];refine go ?_;intros;cases hb:r.2
 ·refine go ?_;refine ret ([ab none 0 0,aa 0,aa 0,ab none 0 0,aa 0,aa 0,ab none 0 0,ab none 0 0,ab none 0 0,ab none 0 0,ab none 0 0]++[af ⟨#[]⟩,af ⟨#[]⟩,aa 0],_) trivial rfl
 ·refine go ?_;refine Y0 (⟨r.1,⟨⟨#[]⟩,⟨#[]⟩,0⟩⟩:B4) (aG _) (aG _) (a6:=a6) (a7:=a7) ?_;exact CF
def Kb (t:au):ai:=(Dm 10 t.data.toList).map bz
def Ch:B4->ai->B4 × ai
 | c,[]=>(c,[])
 | c,l::r=>((Ch (Od c l).1 r).1,(Od c l).2::(Ch (Od c l).1 r).2)
def Xh (c:B4) (t:au):Bool:=D7 c && decide ((Kb t).length<=30) && decide (t.size<=4000)
def Dg (c:B4) (t:au):ai × Bool:=if Xh c t then ((Ch c (Kb t)).2,true) else ([],false)
theorem X5:∀(ls:ai) (c:B4),(Ch c ls).2.length=ls.length
 | [],_=>rfl
 | l::r,c=>by show (_::(Ch (Od c l).1 r).2).length=_;rw [aU,aU,X5 r]
theorem Zr:∀(ls:ai) {c:B4},D7 c=true->D7 (Ch c ls).1=true
 | [],_,h=>h
 | l::r,c,h=>Zr r (Afx h)
theorem Afy:∀(ls:ai) (c:B4) (l:au),Ch c (ls++[l])=((Od (Ch c ls).1 l).1,(Ch c ls).2++[(Od (Ch c ls).1 l).2])
 | [],_,_=>rfl
 | x::r,c,l=>by
  show ((Ch (Od c x).1 (r++[l])).1,(Od c x).2::(Ch (Od c x).1 (r++[l])).2)=_;rw [Afy r];rfl
def Aew (l:Log):Bool:=Gt l.Cg.data.toList l.pending.data.toList l.count
theorem Apn {c:B4} {line:au} (h:T3 line=true/\¬c.Il.count=60):Od c line=(⟨Hl c.Bb line,Rl c.Il line (Rs (Py c.Bb line))⟩,Rs (Py c.Bb line)):=by
 unfold Od;rw [aJ h.1,aC h.2]
theorem Aol (s:au) (hs:s.size<=4000):Fn prog 9 [af s,af ⟨#[10]⟩] [] [] (fun (_:aj × Nat × aq)=>True) (fun z=>.tuple #[.slice z.1 (Kb s).length z.2.1,.bool true]) (fun z=>[.ow A8 9 (.slice z.1 (Kb s).length z.2.1) (Kb s) z.2.2]):=by
 refine enter func9 rfl ntmps9 fun w0=>?_;refine go ?_;rw [show decide ((s.size:Int) > 4000)=false from ay EZ];refine go ?_;apply wO;apply oc;rfl;exact Bai rfl rfl FA FA;refine go ?_;refine Bf (Ya s 10 EZ) fun q _=>?_;rw [show (Dm 10 s.data.toList).map bz=Kb s from rfl];refine go ?_;refine ret q trivial rfl
def Jo:Bt Int where
 sz:=1
 L8 _ cs z F:=cs=[.int .u8 z]/\0<=z/\z<=255/\F=[]
 len h:=JN
 lt h:=by simp [h.2.2.2]
 frame h _:=h
def Aag (w:World) (g:Nat) (l:List UInt8):Prop :=
 g < w.heap.size/\∀j (hj:j < l.length),w.cell? ⟨g,j,none⟩=some (.int .u8 (l[j].toNat:Int))/\w.frozen? ⟨g,j,none⟩=false
theorem Aag.set {w g l} (h:Aag w g l) (k:Nat) (b:UInt8) (hk:k < l.length):Aag (w.setCell ⟨g,k,none⟩ (.int .u8 (b.toNat:Int))) g (l.set k b):=by
 refine ⟨JN,fun j hj=>?_⟩;rw [bU] at hj;refine ⟨?_,?_⟩
 ·by_cases e:k=j
  ·subst e;rw [World.cell?_setCell_same _ _ _ (h.2 k hk).1];simp
  ·rw [World.cell?_setCell_other _ _ _ _ (by intro q;cases q;exact e rfl),(h.2 j hj).1];simp [fM,e]
 ·rw [World.frozen?_setCell];exact (h.2 j hj).2
theorem Ape {w:World} {g:Nat} {l:List UInt8} (cap:Nat) (h:Aag w g l):(convert 22 9 (ab (some ⟨g,0,none⟩) l.length cap)).run prog w=.ok (af ⟨l.toArray⟩) w :=
 run_convert_bytes_back w _ _ _ ⟨g,0,none⟩ cap l underlying22 underlying5 underlying9 fun j hj=>by cases j <;> simpa [Addr.add] using (h.2 _ hj).1
section
variable {c:Cx} {fr:Fr} {H:List Pc} {Φ:Gl} {d:Nat} {ty:TypeId} {x:Operand}
theorem Bfa {n:Nat} {g m cap t:Nat} {l:List UInt8} (hx:ev fr x=some (ab (some ⟨g,0,none⟩) m cap)) (hm:Pc.row g t 0 [] (l.map fun u=>Value.int .u8 (u.toNat:Int)) []∈H) (hn:m=l.length):Yd prog n fr H (.convert 22 9 x) ty (af ⟨l.toArray⟩):=.mk fun a w d pos Cc gd hA hH=>by
 obtain ⟨-,hR⟩:=hH _ hm;subst hn;have hB:Aag w g l:=⟨hR.lt,fun j hj=>⟨by have:=hR.cell j;simpa [aD hj] using this,hR.frozen j⟩⟩;simp [execOp,hA.ev hx,Ape cap hB]
end
structure CuF where
 By:ar
 a:aj
 c:Nat
 bs:aq
structure Nl where
 k:Nat
 Hm:Int
structure Hw (B:Nat) (s:Nl):Prop where
 k:s.k<=B
 s0:0<=s.Hm
 s1:s.Hm < 18446744073709551616
theorem Hw.mono {B B':Nat} {s:Nl} (h:Hw B s) (hb:B<=B'):Hw B' s:=⟨bG h.k hb,h.s0,h.s1⟩
section
variable {P:Program} {n:Nat} {fr:Fr} {H:List Pc} {ty t t':TypeId} {x y:Operand} {a b:Int}
theorem Asn [hS:IntC P t .u64] (hx:ev fr x=some (.int .u64 a)) (hy:ev fr y=some (.int .u64 b)):Yd P n fr H (.binOp .mul t x y t') ty (.int .u64 (IntKind.u64.wrap (a * b))):=.mk fun c w d pos Cc gd hA _=>by
 simp [execOp,hA.ev hx,hA.ev hy,eqGuard_mul,binOp_mul,Op.intArith]
theorem Ae8 [hS:IntC P t .u64] (hx:ev fr x=some (.int .u64 a)) (hy:ev fr y=some (.int .u64 b)):Yd P n fr H (.binOp .add t x y t') ty (.int .u64 (IntKind.u64.wrap (a+b))):=.mk fun c w d pos Cc gd hA _=>by
 simp [execOp,hA.ev hx,hA.ev hy,eqGuard_add,binOp_add,Op.intArith]
theorem Bak (hx:ev fr x=some (.int .u64 a)):Yd P n fr H (.binOp .shr t x (.const (.int .u64 40)) t') ty (.int .u64 (a / 1099511627776)):=.mk fun c w d pos Cc gd hA _=>by
 have e:Op.shift .shr .u64 a .u64 40=pure (.int .u64 (a / 1099511627776)):=by rw [shift_shr .u64 .u64 a 40 FA FA];rfl
 have e2:binOp .shr t (.int .u64 a) (.int .u64 40)=Op.shift .shr .u64 a .u64 40:=rfl;have e3:c.eval (.const (.int .u64 40))=.int .u64 40:=rfl;simp only [execOp,hA.ev hx,e3,eqGuard_shr,e2,e,Sem.run_bind,Sem.run_pure,Result.andThen_ok]
theorem Avo (hx:ev fr x=some (.int .u64 a)) (h0:0<=a) (h1:a < 18446744073709551616):Yd P n fr H (.binOp .and t x (.const (.int .u64 255)) t') ty (.int .u64 ((a.toNat &&& 255:Nat):Int)):=.mk fun c w d pos Cc gd hA _=>by
 have e:bits BinOp.and IntKind.u64 a 255=((a.toNat &&& 255:Nat):Int):=by
  rw [<-bits_and_u64_nat _ _ EZ EZ];congr 1;omega
 have e3:c.eval (.const (.int .u64 255))=.int .u64 255:=rfl;have e2:binOp .and t (.int .u64 a) (.int .u64 255)=pure (.int .u64 (bits BinOp.and IntKind.u64 a 255)):=rfl;simp only [execOp,hA.ev hx,e3,eqGuard_and,e2,e,Sem.run_bind,Sem.run_pure,Result.andThen_ok]
end
section
variable {c:Cx} {fr:Fr} {H:List Pc} {Φ:Gl}
theorem Ba4 {a:aj} {n cp:Nat} {xs:ar} {F:aq} (i:Nat) (h:∀(hi:i < xs.length) b o,a=some ⟨b,o,none⟩->0<=xs[i]->xs[i]<=255->T c fr (.cel b (o+i * 1) [.int .u8 xs[i]]::H) Φ) (hm:.sl Jo (ab a n cp) xs F∈H:=by exact Bl) (hi:i < xs.length:=by omega):T c fr H Φ:=.mk fun ac w s g=>by
 obtain ⟨b,o,cs,G,ha,⟨rfl,h0,h1,rfl⟩, -,hb,hne,hr⟩:=Xq (s.get hm) i hi;exact (h hi b o ha h0 h1).h ac w (s.ro hm rfl rfl ⟨hne,hr⟩ GL) g
end
theorem Ax3 (B g:Nat) (F:CuF) (s:Nl) (ok:Hw B s) (hB:B<=1000000000001) :
  Fn prog 53 [Ga g 0 0] [.sl Jo (ab F.a F.By.length F.c) F.By F.bs] [.row g 60 0 [] [ab F.a F.By.length F.c,aa (s.k:Nat),.int .u64 s.Hm] []] (fun (z:Nat × Nl)=>z.1<=255/\Hw (B+1) z.2) (fun z=>aa (z.1:Nat)) (fun z=>[.row g 60 0 [] [ab F.a F.By.length F.c,aa (z.2.k:Nat),.int .u64 z.2.Hm] []]):=by
 obtain ⟨By,a,c,bs⟩:=F;obtain ⟨k,Hm⟩:=s;obtain ⟨hk,h0,h1⟩:=ok;dsimp only at hk h0 h1 ⊢;refine enter func53 rfl ntmps53 fun w0=>?_;refine Abn (E:=Jo) ?_;rintro a2 c2 ee l1 l2;cases ee;by_cases hkl:k < By.length
 ·refine Ba4 (xs:=By) k ?_;rintro hi b o ee z0 z1;cases ee;generalize By[k]=z at *;refine Io ?_;intros;refine Ar [1] [] ?_;refine Df 0 1 2 3 ?_;refine Df 4 5 6 7 ?_;refine Dh 8 9 ?_;refine dd ?_;rw [show decide ((k:Int) < (By.length:Int))=true from av EZ];refine Io ?_;intros;refine Ar [0,1] [] ?_;refine Df 0 1 2 3 ?_;refine Df 4 5 6 7 ?_;refine Df 8 9 10 11 ?_;refine dd ?_;refine go ?_;apply wO;apply oc;rfl;exact Asn rfl rfl;refine go ?_;apply wO;apply oc;rfl;exact Ahs rfl EZ EZ;apply wO;apply oc;rfl;exact Ae8 rfl rfl;apply wO;apply oc;rfl;exact Ae8 rfl rfl
  obtain ⟨sd,hsd,hd0,hd1⟩:∃sd,sd=IntKind.u64.wrap (IntKind.u64.wrap (IntKind.u64.wrap (Hm * 6364136223846793005)+z)+840840)/\0<=sd/\sd < 18446744073709551616:=⟨_,rfl,JD,JD⟩;rw [<-hsd];clear hsd
  repeat (first|apply Og|(apply wO;apply oc;rfl;exact ydE)|(apply wO;apply Ayc;rfl;rfl;rfl;(first|exact AggC.s|exact OneC.s);rfl;exact Ale;exact Ayl;rfl)|apply U5|apply Ys)
  refine Io ?_;intros;refine Ar [1] [] ?_;refine Df 0 1 2 3 ?_;refine Df 4 5 6 7 ?_;refine Dh 8 9 ?_;refine dd ?_;rw [show decide ((k:Int)+1<=(By.length:Int))=true from av EZ];refine go ?_;obtain ⟨zn,rfl⟩:∃n:Nat,z=n:=⟨z.toNat,EZ⟩;refine ret (zn,⟨k+1,sd⟩) ⟨by show zn<=255;omega,by show k+1<=B+1;omega,hd0,hd1⟩ rfl
 ·refine Io ?_;intros;refine Ar [0] [] ?_;refine Df 0 1 2 3 ?_;refine Df 4 5 6 7 ?_;refine Dh 8 9 ?_;refine dd ?_;rw [show decide ((k:Int) < (By.length:Int))=false from ay EZ];refine go ?_;apply wO;apply oc;rfl;exact Asn rfl rfl;refine go ?_;apply wO;apply oc;rfl;exact Ahs rfl EZ EZ;apply wO;apply oc;rfl;exact Ae8 rfl rfl;apply wO;apply oc;rfl;exact Ae8 rfl rfl
  obtain ⟨sd,hsd,hd0,hd1⟩:∃sd,sd=IntKind.u64.wrap (IntKind.u64.wrap (IntKind.u64.wrap (Hm * 6364136223846793005)+0)+840840)/\0<=sd/\sd < 18446744073709551616:=⟨_,rfl,JD,JD⟩;rw [<-hsd];clear hsd
  repeat (first|apply Og|(apply wO;apply oc;rfl;exact ydE)|(apply wO;apply Ayc;rfl;rfl;rfl;(first|exact AggC.s|exact OneC.s);rfl;exact Ale;exact Ayl;rfl)|apply U5|apply Ys)
  refine Io ?_;intros;refine Ar [0] [] ?_;refine Df 0 1 2 3 ?_;refine Df 4 5 6 7 ?_;refine Dh 8 9 ?_;refine dd ?_;rw [show decide ((k:Int)+1<=(By.length:Int))=false from ay EZ];refine go ?_;apply wO;apply oc;rfl;exact Bak rfl;apply wO;apply oc;rfl;exact Avo rfl EZ EZ;have hq:(sd / 1099511627776).toNat &&& 255<=255:=Nat.and_le_right;generalize (sd / 1099511627776).toNat &&& 255=q at *;refine go ?_;refine ret (q,⟨k+1,sd⟩) ⟨hq,by show k+1<=B+1;omega,hd0,hd1⟩ rfl
theorem Eb (B g:Nat) (F:CuF) (n:Int) (s:Nl) (ok:Hw B s) (hB:B<=1000000000000) (hn:n<=1048576) :
  Fn prog 21 [Ga g 0 0,aa n] [.sl Jo (ab F.a F.By.length F.c) F.By F.bs] [.row g 60 0 [] [ab F.a F.By.length F.c,aa (s.k:Nat),.int .u64 s.Hm] []] (fun (z:Nat × Nl)=>(z.1=0\/(z.1:Int) < n)/\Hw (B+2) z.2) (fun z=>aa (z.1:Nat)) (fun z=>[.row g 60 0 [] [ab F.a F.By.length F.c,aa (z.2.k:Nat),.int .u64 z.2.Hm] []]):=by
 refine enter func21 rfl ntmps21 fun w0=>?_;refine go ?_;refine A4 rfl (fun h=>?_) (fun h=>?_)
 ·refine go ?_;refine ret (0,s) ⟨.inl rfl,ok.mono EZ⟩ rfl
 refine go ?_;refine Bf (Ax3 B g F s ok EZ) fun p hp=>?_;obtain ⟨r,s1⟩:=p;obtain ⟨hr,h1⟩:=hp;dsimp only at hr h1 ⊢;refine go ?_;refine A4 rfl (fun h2=>?_) (fun h2=>?_)
 ·refine go ?_;refine Bf (Ax3 _ g F s1 h1 EZ) fun p hp=>?_;obtain ⟨r2,s2⟩:=p;obtain ⟨hr2,h3⟩:=hp;dsimp only at hr2 h3 ⊢;refine go ?_;have e:=Int.emod_lt_of_pos ((r:Int) * 256+r2) (show 0 < n by omega);have e0:=Int.emod_nonneg ((r:Int) * 256+r2) (show n≠0 by omega);obtain ⟨q,hq⟩:∃q:Nat,((r:Int) * 256+r2) % n=q:=⟨(((r:Int) * 256+r2) % n).toNat,EZ⟩;rw [hq] at e ⊢;refine ret (q,s2) ⟨.inr e,h3.mono EZ⟩ rfl
 ·refine go ?_;have e:=Int.emod_lt_of_pos (r:Int) (show 0 < n by omega);obtain ⟨q,hq⟩:∃q:Nat,(r:Int) % n=q:=⟨((r:Int) % n).toNat,by have:=Int.emod_nonneg (r:Int) (show n≠0 by omega);omega⟩;rw [hq] at e ⊢;refine ret (q,s1) ⟨.inr e,h1.mono EZ⟩ rfl
theorem Ad0 (B g:Nat) (F:CuF) (n:Int) (s:Nl) (ok:Hw B s) (hB:B<=1000000000000) (hn:n<=1048576) :
  Fn prog 22 [Ga g 0 0,aa n] [.sl Jo (ab F.a F.By.length F.c) F.By F.bs] [.row g 60 0 [] [ab F.a F.By.length F.c,aa (s.k:Nat),.int .u64 s.Hm] []] (fun (z:Bool × Nl)=>True/\Hw (B+2) z.2) (fun z=>.bool z.1) (fun z=>[.row g 60 0 [] [ab F.a F.By.length F.c,aa (z.2.k:Nat),.int .u64 z.2.Hm] []]):=by
 refine enter func22 rfl ntmps22 fun w0=>?_;refine go ?_;refine Bf (Eb B g F n s ok hB hn) fun p hp=>?_;refine go ?_;refine ret (decide ((p.1:Int)=0),p.2) ⟨trivial,hp.2⟩ rfl
theorem Aem (B g:Nat) (F:CuF) (v:Value) (xs:ai) (G:aq) (s:Nl) (ok:Hw B s) (hB:B<=1000000000000) (h0:0 < xs.length) (h1:xs.length<=1048576) :
  Fn prog 51 [Ga g 0 0,v] [.sl Jo (ab F.a F.By.length F.c) F.By F.bs,.sl A8 v xs G] [.row g 60 0 [] [ab F.a F.By.length F.c,aa (s.k:Nat),.int .u64 s.Hm] []] (fun (z:au × Nl)=>z.1∈xs/\Hw (B+2) z.2) (fun z=>af z.1) (fun z=>[.row g 60 0 [] [ab F.a F.By.length F.c,aa (z.2.k:Nat),.int .u64 z.2.Hm] []]):=by
 refine enter func51 rfl ntmps51 fun w0=>?_;refine Abn (E:=A8) (v:=v) (xs:=xs) ?_;rintro a c rfl l1 l2;refine go ?_;refine Bf (Eb B g F _ s ok hB EZ) fun p hp=>?_;obtain ⟨r,s1⟩:=p;obtain ⟨hr,h2⟩:=hp;dsimp only at hr h2 ⊢;refine Jv (xs:=xs) r ?_;rintro hi b o ee -;cases ee;refine go ?_;refine ret (xs[r],s1) ⟨aB hi,h2⟩ rfl
theorem Rq (B g:Nat) (F:CuF) (v:Value) (xs:ar) (G:aq) (s:Nl) (ok:Hw B s) (hB:B<=1000000000000) (h0:0 < xs.length) (h1:xs.length<=1048576) :
  Fn prog 92 [Ga g 0 0,v] [.sl Jo (ab F.a F.By.length F.c) F.By F.bs,.sl Bc v xs G] [.row g 60 0 [] [ab F.a F.By.length F.c,aa (s.k:Nat),.int .u64 s.Hm] []] (fun (z:Int × Nl)=>z.1∈xs/\Hw (B+2) z.2) (fun z=>aa z.1) (fun z=>[.row g 60 0 [] [ab F.a F.By.length F.c,aa (z.2.k:Nat),.int .u64 z.2.Hm] []]):=by
 refine enter func92 rfl ntmps92 fun w0=>?_;refine Abn (E:=Bc) (v:=v) (xs:=xs) ?_;rintro a c rfl l1 l2;refine go ?_;refine Bf (Eb B g F _ s ok hB EZ) fun p hp=>?_;obtain ⟨r,s1⟩:=p;obtain ⟨hr,h2⟩:=hp;dsimp only at hr h2 ⊢;refine Hy (xs:=xs) r ?_;rintro hi b o ee;cases ee;refine go ?_;refine ret (xs[r],s1) ⟨aB hi,h2⟩ rfl
theorem Fn.weak {P:Program} {f:FuncId} {args:am} {A M:List Pc} {σ:Type} {C C':σ->Prop} {v:σ->Value} {N:σ->List Pc} (h:Fn P f args A M C v N) (hC:∀s,C s->C' s):Fn P f args A M C' v N:=fun w h1 h2=>(h w h1 h2).mono fun _ _ ⟨s,hc,r⟩=>⟨s,hC s hc,r⟩
theorem No (w:World):∀xs:ar,Cz Bc w (xs.map (Value.int .i64)) xs []
 | []=>⟨rfl,rfl⟩
 | x::r=>⟨[.int .i64 x],r.map (Value.int .i64),[],[],rfl,rfl,⟨rfl,rfl⟩,No w r⟩
theorem Qa (w:World):∀xs:ai,(∀x∈xs,x.size<=maxLen)->Cz A8 w (xs.map Value.string) xs []
 | [],_=>⟨rfl,rfl⟩
 | x::r,h=>⟨[.string x],r.map Value.string,[],[],rfl,rfl,⟨rfl,h x FB,rfl⟩,Qa w r fun y hy=>h y KS⟩
theorem Ti (B g:Nat) (F:CuF) (s:Nl) (ok:Hw B s) (hB:B<=900000000000) :
  Fn prog 48 [Ga g 0 0] [.sl Jo (ab F.a F.By.length F.c) F.By F.bs] [.row g 60 0 [] [ab F.a F.By.length F.c,aa (s.k:Nat),.int .u64 s.Hm] []] (fun (z:Int × Nl)=>(0<=z.1/\z.1<=65535)/\Hw (B+4) z.2) (fun z=>aa z.1) (fun z=>[.row g 60 0 [] [ab F.a F.By.length F.c,aa (z.2.k:Nat),.int .u64 z.2.Hm] []]):=by
 refine enter func48 rfl ntmps48 fun w0=>?_;refine Io ?_;intros;refine Eh (xs:=[0,1,100,32767,32768,65535,65530,4660]) (fun w=>No w _) ?_ FA;refine Av (E:=Bc) fun G=>?_;refine go ?_;refine Bf (Rq B g F _ [0,1,100,32767,32768,65535,65530,4660] G s ok EZ FA FA) fun z hz=>?_;obtain ⟨hz1,hz2⟩:=hz;have hz3:0<=z.1/\z.1<=65535:=by simp only [aH,aT,bm] at hz1;omega
 refine go ?_;refine Bf (Eb (B+2) g F 12 z.2 hz2 EZ EZ) fun y hy=>?_;obtain ⟨hy1,hy2⟩:=hy;refine go ?_;refine ce (fun w s=>Ht _ _ _ EZ EZ) ?_;refine go ?_;refine ret (_,y.2) ⟨I7 _ _,hy2⟩ rfl
theorem Va (B g:Nat) (F:CuF) (s:Nl) (ok:Hw B s) (hB:B<=890000000000) :
  Fn prog 97 [Ga g 0 0] [.sl Jo (ab F.a F.By.length F.c) F.By F.bs] [.row g 60 0 [] [ab F.a F.By.length F.c,aa (s.k:Nat),.int .u64 s.Hm] []] (fun (z:Int × Nl)=>(-1<=z.1/\z.1<=65536)/\Hw (B+6) z.2) (fun z=>aa z.1) (fun z=>[.row g 60 0 [] [ab F.a F.By.length F.c,aa (z.2.k:Nat),.int .u64 z.2.Hm] []]):=by
 refine enter func97 rfl ntmps97 fun w0=>?_;refine go ?_;refine Bf (Ad0 B g F 20 s ok EZ EZ) fun q hq=>?_;obtain ⟨b,s1⟩:=q;obtain ⟨-,hq⟩:=hq;cases b
 ·refine go ?_;refine Bf (Ti (B+2) g F s1 hq EZ) fun z hz=>?_;refine go ?_;refine ret z ⟨by have:=hz.1;omega,hz.2⟩ rfl
 ·refine Io ?_;intros;refine Eh (xs:=[-1,65536,65535]) (fun w=>No w _) ?_ FA;refine Av (E:=Bc) fun G=>?_;refine go ?_;refine Bf (Rq (B+2) g F _ [-1,65536,65535] G s1 hq EZ FA FA) fun z hz=>?_;refine go ?_;refine ret z ⟨by have:=hz.1;simp only [aH,aT,bm] at this;omega,hz.2.mono EZ⟩ rfl
theorem Ws (B g:Nat) (F:CuF) (s:Nl) (ok:Hw B s) (hB:B<=890000000000) :
  Fn prog 97 [Ga g 0 0] [.sl Jo (ab F.a F.By.length F.c) F.By F.bs] [.row g 60 0 [] [ab F.a F.By.length F.c,aa (s.k:Nat),.int .u64 s.Hm] []] (fun (z:Int × Nl)=>Hw (B+6) z.2) (fun z=>aa z.1) (fun z=>[.row g 60 0 [] [ab F.a F.By.length F.c,aa (z.2.k:Nat),.int .u64 z.2.Hm] []]):=(Va B g F s ok hB).weak fun _ h=>h.2
structure LeS where
 r:Nat
 t:au
 s:Nl
structure Bg9 (B r0:Nat) (z:LeS):Prop where
 r:z.r<=r0
 s:Hw (B+2+2 * (r0 - z.r)) z.s
 t:z.t.size<=r0 - z.r
 l:T4 z.t.data.toList=true
theorem Sk (B g:Nat) (F:CuF) (s:Nl) (n:Int) (ok:Hw B s) (hB:B<=900000000000) (h0:0<=n) (h8:n<=20) :
  Fn prog 95 [Ga g 0 0,aa n] [.sl Jo (ab F.a F.By.length F.c) F.By F.bs] [.row g 60 0 [] [ab F.a F.By.length F.c,aa (s.k:Nat),.int .u64 s.Hm] []] (fun (z:au × Nl)=>(z.1.size<=20/\(z.1.size:Int)<=n/\T4 z.1.data.toList=true)/\Hw (B+42) z.2) (fun z=>af z.1) (fun z=>[.row g 60 0 [] [ab F.a F.By.length F.c,aa (z.2.k:Nat),.int .u64 z.2.Hm] []]):=by
 refine enter func95 rfl ntmps95 fun w0=>?_;refine go ?_;refine Bf (Eb B g F (n+1) s ok EZ EZ) fun y hy=>?_;obtain ⟨r0,s1⟩:=y;obtain ⟨hy1,hy2⟩:=hy;dsimp only at hy1 hy2 ⊢;have hr0:r0<=20:=EZ
 refine go ?_;refine Bx [0,4] (fun z:LeS=>[(5,af z.t),(6,aa (z.r:Nat))]) (fun z=>[.row g 60 0 [] [ab F.a F.By.length F.c,aa (z.s.k:Nat),.int .u64 z.s.Hm] []]) (Bg9 B r0) (fun z=>z.r) ⟨r0,⟨#[]⟩,s1⟩ ⟨aL _,by simpa using hy2,aG _,rfl⟩ fun z hz=>?_;obtain ⟨z1,z2,z3,z4⟩:=hz;refine go ?_;refine A4 rfl (fun h3=>?_) (fun h3=>?_)
 ·refine Io ?_;intros;refine Eh (xs:=[⟨#[97]⟩,⟨#[98]⟩,⟨#[99]⟩,⟨#[120]⟩,⟨#[122]⟩]) (fun w=>Qa w _ FA) ?_ FA;refine Av (E:=A8) fun G=>?_;refine go ?_;refine Bf (Aem _ g F _ [⟨#[97]⟩,⟨#[98]⟩,⟨#[99]⟩,⟨#[120]⟩,⟨#[122]⟩] G z.s z2 EZ FA FA) fun q hq=>?_;have hq1:q.1.size=1/\T4 q.1.data.toList=true:=by
   have:=hq.1;simp only [aH,aT,bm] at this;rcases this with e|e|e|e|e <;> rw [e] <;> exact ⟨rfl,rfl⟩
  refine go ?_;rw [show ((z.r:Nat):Int) - 1=((z.r - 1:Nat):Int) by omega];refine Ca ⟨z.r - 1,z.t++q.1,q.2⟩ ⟨by show z.r - 1<=r0;omega,hq.2.mono (by show _<=B+2+2 * (r0 - (z.r - 1));omega),by show (z.t++q.1).size<=r0 - (z.r - 1);rw [aE];omega,by show T4 (z.t++q.1).data.toList=true;rw [cF,Array.toList_append];unfold T4 at *;rw [dV,z4,hq1.2];rfl⟩ (by show z.r - 1 < _;omega)
 ·refine go ?_;refine ret (z.t,z.s) ⟨⟨by show z.t.size<=20;omega,by show (z.t.size:Int)<=n;omega,z4⟩,z2.mono EZ⟩ rfl
theorem Azj (B g:Nat) (F:CuF) (s:Nl) (t u:au) (ok:Hw B s) (hB:B<=800000000000) (ht:t.size<=100000) (h1:1<=u.size) (h2:u.size<=1000) :
  Fn prog 37 [Ga g 0 0,af t,af u] [.sl Jo (ab F.a F.By.length F.c) F.By F.bs] [.row g 60 0 [] [ab F.a F.By.length F.c,aa (s.k:Nat),.int .u64 s.Hm] []] (fun (z:au × Nl)=>z.1.size<=t.size+1/\Hw (B+6) z.2) (fun z=>af z.1) (fun z=>[.row g 60 0 [] [ab F.a F.By.length F.c,aa (z.2.k:Nat),.int .u64 z.2.Hm] []]):=by
 refine enter func37 rfl ntmps37 fun w0=>?_;refine go ?_;by_cases e0:t=⟨#[]⟩
 ·rw [av e0];refine go ?_;apply wO;apply oc;rfl;exact Ade rfl rfl EZ EZ;have hx0:(u.extract 0 (1:Int).toNat).size<=1:=JC
  refine go ?_;refine ret (u.extract 0 (1:Int).toNat,s) ⟨HU,ok.mono EZ⟩ rfl
 have e1:0 < t.size:=by
  rcases cy t.size with h0|h0
  ·exact absurd (by apply dz;exact eP h0) e0
  ·exact h0
 rw [ay e0];refine go ?_;refine Bf (Eb B g F (t.size:Int) s ok EZ EZ) fun q1 hq1=>?_;obtain ⟨hi,hq1⟩:=hq1;have hi2:q1.1 < t.size:=EZ
 refine go ?_;refine Bf (Eb (B+2) g F (u.size:Int) q1.2 hq1 EZ EZ) fun q2 hq2=>?_;obtain ⟨hj,hq2⟩:=hq2;have hj2:q2.1 < u.size:=EZ
 refine go ?_;apply wO;apply oc;rfl;exact V8 rfl rfl EZ EZ;have hxs:1<=(u.extract (q2.1:Int).toNat u.size).size:=FF
 refine go ?_;apply wO;apply oc;rfl;exact Ade rfl rfl EZ EZ;have hxl:((u.extract (q2.1:Int).toNat u.size).extract 0 (1:Int).toNat).size<=1:=FF
 generalize (u.extract (q2.1:Int).toNat u.size).extract 0 (1:Int).toNat=x at *;have ha:(t.extract 0 (q1.1:Int).toNat).size<=q1.1:=JC
 have hb:(t.extract (q1.1:Int).toNat t.size).size<=t.size - q1.1:=JC
 have hc:(t.extract ((q1.1:Int)+1).toNat t.size).size<=t.size - (q1.1+1):=JC
 have hax:=aE (a:=t.extract 0 (q1.1:Int).toNat) (b:=x);refine go ?_;refine Bf (Eb (B+2+2) g F 3 q2.2 hq2 EZ EZ) fun q3 hq3=>?_;obtain ⟨hm,hq3⟩:=hq3;refine go ?_;by_cases h3:(q3.1:Int)=0
 ·rw [av h3];refine go ?_;refine Ar [] [] ?_;refine Dh 0 1 ?_;refine dt 2 ?_ (hy:=Ade rfl rfl EZ EZ);refine Df 3 4 5 6 ?_;refine dt 7 ?_ (hy:=V8 rfl rfl EZ EZ);refine Dh 8 9 ?_;refine dd ?_;refine go ?_;refine ret (t.extract 0 (q1.1:Int).toNat++x++t.extract (q1.1:Int).toNat t.size,q3.2) ⟨by simp only [aE];omega,hq3⟩ rfl
 rw [ay h3];refine go ?_;by_cases h4:(q3.1:Int)=1
 ·rw [av h4];refine go ?_;refine Ar [] [] ?_;refine Dh 0 1 ?_;refine dt 2 ?_ (hy:=Ade rfl rfl EZ EZ);refine Df 3 4 5 6 ?_;refine dt 7 ?_;refine dt 8 ?_ (hy:=V8 rfl rfl EZ EZ);refine Dh 9 10 ?_;refine dd ?_;refine go ?_;refine ret (t.extract 0 (q1.1:Int).toNat++x++t.extract ((q1.1:Int)+1).toNat t.size,q3.2) ⟨by simp only [aE];omega,hq3⟩ rfl
 ·rw [ay h4];refine go ?_;refine Ar [] [] ?_;refine Dh 0 1 ?_;refine dt 2 ?_ (hy:=Ade rfl rfl EZ EZ);refine Dh 3 4 ?_;refine dt 5 ?_;refine dt 6 ?_ (hy:=V8 rfl rfl EZ EZ);refine Dh 7 8 ?_;refine dd ?_;refine go ?_;refine ret (t.extract 0 (q1.1:Int).toNat++t.extract ((q1.1:Int)+1).toNat t.size,q3.2) ⟨by simp only [aE];omega,hq3⟩ rfl
theorem Fn.map {P:Program} {f:FuncId} {args:am} {A M:List Pc} {σ τ:Type} {C:σ->Prop} {C':τ->Prop} {v:σ->Value} {v':τ->Value} {N:σ->List Pc} {N':τ->List Pc} (h:Fn P f args A M C v N) (m:σ->τ) (hC:∀s,C s->C' (m s)) (hv:∀s,v s=v' (m s)) (hN:∀s,N s=N' (m s)):Fn P f args A M C' v' N':=fun w hH hs=>by
 refine (h w hH hs).mono ?_;rintro e w' ⟨s,h1,h2,h3,h4,h5,h6⟩;exact ⟨m s,hC s h1,by rw [<-hv];exact h2,by rw [<-hN];exact h3,by rw [<-hN];exact h4,h5,by rw [<-hN];exact h6⟩
theorem Abr {d p:au} {k:Int} (h:Gt d.data.toList p.data.toList k=true):d.size+p.size<=30000:=by
 unfold Gt at h;simp only [aw,aF,Cp] at h;exact h.1
theorem Bej:madeCells (Value.int .u8 0).cells (3 * 1)=([.int .u8 0,.int .u8 0,.int .u8 0]:am).toArray:=by
 apply fG;rw [madeCells,Array.toList_map,Array.toList_range];rfl
theorem Bch {c r:au} (h:Lg.Bp c r=true):c.size<=160/\r.size<=200:=by
 unfold Lg.Bp E8 at h;simp only [aw,aF] at h;omega
theorem Aqt (d p c r:au) (k:Int) (hv:Gt d.data.toList p.data.toList k=true) (hc:c.size<=maxLen) (hr:r.size<=maxLen):Fn prog 36 [.agg #[af d,af p,aa k],.agg #[af c,af r]] [] [] (fun (z:au × Int × Int)=>Gt d.data.toList z.1.data.toList z.2.1=true) (fun z=>.tuple #[.agg #[af d,af z.1,aa z.2.1],aa z.2.2]) (fun _=>[]):=by
 obtain ⟨k0,k60⟩:=Lg.Tz hv;have hz:=Abr hv;cases hg:Lg.Bp c r
 ·refine enter func36 rfl ntmps36 fun w0=>?_;refine go ?_;intros;refine Bf (Xe d p k EZ) fun _ _=>?_;rw [hv];refine go ?_;refine cb (fun w st=>Lg.Si c r w hc hr) ?_;rw [hg];refine go ?_;refine ret (p,k,1) hv rfl
 by_cases hk:k=60
 ·refine enter func36 rfl ntmps36 fun w0=>?_;refine go ?_;intros;refine Bf (Xe d p k EZ) fun _ _=>?_;rw [hv];refine go ?_;refine cb (fun w st=>Lg.Si c r w hc hr) ?_;rw [hg];refine go ?_;refine A4 rfl (fun h3=>?_) (fun h3=>?_)
  ·refine go ?_;refine ret (p,k,2) hv rfl
  ·exact absurd hk h3
 obtain ⟨n,rfl⟩:∃n:Nat,k=n:=⟨k.toNat,EZ⟩;obtain ⟨hs1,hs2⟩:=Bch hg;exact (Aj2 d p c r n hv EZ hg hz hs1 hs2).map (fun _=>(p++Lg.bs (Ke n c.data.toList r.data.toList),(n:Int)+1,0)) (fun _ _=>(Anp (l:=⟨d,p,n⟩) hv hk hg).1) (fun _=>rfl) (fun _=>rfl)
theorem Aqu (d p:au) (k:Int) (hv:Gt d.data.toList p.data.toList k=true):FV 175 [.agg #[af d,af p,aa k]] [] (.tuple #[.agg #[af (d++p),af ⟨#[]⟩,aa k],.bool true]):=by
 have hz:=Abr hv;refine enter func175 rfl ntmps175 fun w0=>?_;refine go ?_;intros;refine Bf (Xe d p k EZ) fun _ _=>?_;rw [hv];exact AA
theorem Anq (B g:Nat) (F:CuF) (s:Nl) (ok:Hw B s) (hB:B<=700000000000) :
  Fn prog 174 [Ga g 0 0] [.sl Jo (ab F.a F.By.length F.c) F.By F.bs] [.row g 60 0 [] [ab F.a F.By.length F.c,aa (s.k:Nat),.int .u64 s.Hm] []] (fun (z:(au × au) × Nl)=>z.1.1.size<=20/\z.1.2.size<=20/\Hw (B+20) z.2) (fun z=>.agg #[af z.1.1,af z.1.2]) (fun z=>[.row g 60 0 [] [ab F.a F.By.length F.c,aa (z.2.k:Nat),.int .u64 z.2.Hm] []]):=by
 refine enter func174 rfl ntmps174 fun w0=>?_;refine Io ?_;intros;refine Eh (xs:=[⟨#[99,111,117,110,116]⟩,⟨#[115,111,114,116,32,109,101,114,103,101]⟩,⟨#[120]⟩,⟨#[115,101,108,101,99,116,32,50]⟩,⟨#[48,32,49]⟩]) (fun w=>Qa w _ FA) ?_ FA;refine Av (E:=A8) fun G2=>?_;refine go ?_;refine Bf (Aem _ g F _ [⟨#[99,111,117,110,116]⟩,⟨#[115,111,114,116,32,109,101,114,103,101]⟩,⟨#[120]⟩,⟨#[115,101,108,101,99,116,32,50]⟩,⟨#[48,32,49]⟩] _ s ok EZ FA FA) fun q hq=>?_;obtain ⟨u1,s1⟩:=q;obtain ⟨hq,h1⟩:=hq;dsimp only at hq h1 ⊢
 have zu1:u1.size<=20:=(by decide:∀y∈([⟨#[99,111,117,110,116]⟩,⟨#[115,111,114,116,32,109,101,114,103,101]⟩,⟨#[120]⟩,⟨#[115,101,108,101,99,116,32,50]⟩,⟨#[48,32,49]⟩]:ai),y.size<=20) u1 hq;clear hq;refine Io ?_;intros;refine Eh (xs:=[⟨#[]⟩,⟨#[51]⟩,⟨#[63]⟩,⟨#[97,64,98]⟩,⟨#[51,32,49,32,50]⟩]) (fun w=>Qa w _ FA) ?_ FA;refine Av (E:=A8) fun G2=>?_;refine go ?_;refine Bf (Aem _ g F _ [⟨#[]⟩,⟨#[51]⟩,⟨#[63]⟩,⟨#[97,64,98]⟩,⟨#[51,32,49,32,50]⟩] _ s1 h1 EZ FA FA) fun q hq=>?_;obtain ⟨u2,s2⟩:=q;obtain ⟨hq,h2⟩:=hq;dsimp only at hq h2 ⊢
 have zu2:u2.size<=20:=(by decide:∀y∈([⟨#[]⟩,⟨#[51]⟩,⟨#[63]⟩,⟨#[97,64,98]⟩,⟨#[51,32,49,32,50]⟩]:ai),y.size<=20) u2 hq;clear hq;refine go ?_;intros;refine Bf (Eb _ g F 24 s2 h2 EZ EZ) fun y hy=>?_;obtain ⟨k3,s3⟩:=y;obtain ⟨rk3,h3⟩:=hy;dsimp only at rk3 h3 ⊢;refine go ?_;refine A4 rfl (fun e0=>?_) (fun e0=>?_)
 ·refine go ?_;apply wO;refine Aqa (cs:=[.int .u8 0,.int .u8 0,.int .u8 0]) 3 rfl rfl rfl Bej FA FA fun g9=>?_;apply wO;apply oc;rfl;exact Bfa (l:=[0,0,0]) (t:=5) rfl FD rfl;refine Io ?_;intros;refine Eh (xs:=[⟨#[]⟩,⟨#[97,64,98]⟩,⟨#[97,35]⟩,⟨#[10]⟩,⟨#[0,0,0]⟩]) (fun w=>Qa w _ FA) ?_ FA;refine Av (E:=A8) fun G2=>?_;refine go ?_;refine Bf (Aem _ g F _ [⟨#[]⟩,⟨#[97,64,98]⟩,⟨#[97,35]⟩,⟨#[10]⟩,⟨#[0,0,0]⟩] _ s3 h3 EZ FA FA) fun q hq=>?_;obtain ⟨u3,s4⟩:=q;obtain ⟨hq,h4⟩:=hq;dsimp only at hq h4 ⊢
  have zu3:u3.size<=20:=(by decide:∀y∈([⟨#[]⟩,⟨#[97,64,98]⟩,⟨#[97,35]⟩,⟨#[10]⟩,⟨#[0,0,0]⟩]:ai),y.size<=20) u3 hq;clear hq;refine go ?_;refine ret ((u3,u2),s4) ⟨zu3,zu2,h4.mono EZ⟩ rfl
 refine go ?_;refine A4 rfl (fun e1=>?_) (fun e1=>?_)
 ·
  refine Io ?_;intros;refine Eh (xs:=[⟨#[35]⟩,⟨#[10]⟩,⟨#[127]⟩]) (fun w=>Qa w _ FA) ?_ FA;refine Av (E:=A8) fun G2=>?_;refine go ?_;refine Bf (Aem _ g F _ [⟨#[35]⟩,⟨#[10]⟩,⟨#[127]⟩] _ s3 h3 EZ FA FA) fun q hq=>?_;obtain ⟨u3,s4⟩:=q;obtain ⟨hq,h4⟩:=hq;dsimp only at hq h4 ⊢;have zu3:u3.size<=20:=(by decide:∀y∈([⟨#[35]⟩,⟨#[10]⟩,⟨#[127]⟩]:ai),y.size<=20) u3 hq;clear hq;refine go ?_;refine ret ((u1,u3),s4) ⟨zu1,zu3,h4.mono EZ⟩ rfl
 ·refine go ?_;refine ret ((u1,u2),s3) ⟨zu1,zu2,h3.mono EZ⟩ rfl
structure LgD where
 l:Log
 i:Nat
 s:Nl
structure Bha (B:Nat) (z:LgD):Prop where
 v:Gt z.l.Cg.data.toList z.l.pending.data.toList z.l.count=true
 i:z.i<=6
 s:Hw (B+20+30 * (6 - z.i)) z.s
theorem Aqy {d p:au} {k:Int} (h:Gt d.data.toList p.data.toList k=true):Gt (d++p).data.toList (⟨#[]⟩:au).data.toList k=true:=by
 rw [Hx];exact (Lg.Abq h).sync.bool
theorem Bgc (B g:Nat) (F:CuF) (s:Nl) (ok:Hw B s) (hB:B<=600000000000) :
  Fn prog 93 [Ga g 0 0] [.sl Jo (ab F.a F.By.length F.c) F.By F.bs] [.row g 60 0 [] [ab F.a F.By.length F.c,aa (s.k:Nat),.int .u64 s.Hm] []] (fun (z:LgD)=>Gt z.l.Cg.data.toList z.l.pending.data.toList z.l.count=true/\Hw (B+300) z.s) (fun z=>.agg #[af z.l.Cg,af z.l.pending,aa z.l.count]) (fun z=>[.row g 60 0 [] [ab F.a F.By.length F.c,aa (z.s.k:Nat),.int .u64 z.s.Hm] []]):=by
 refine enter func93 rfl ntmps93 fun w0=>?_;refine go ?_;intros;rename_i g2 g3;refine Bf (Eb _ g F 7 s ok EZ EZ) fun y hy=>?_;obtain ⟨r0,s1⟩:=y;obtain ⟨rr0,h1⟩:=hy;dsimp only at rr0 h1 ⊢;refine go ?_;refine Bx [0,2,3] (fun z:LgD=>[(4,aa (z.i:Nat))]) (fun z=>[.row g3 39 0 [] [af z.l.Cg,af z.l.pending,aa z.l.count] [],.row g 60 0 [] [ab F.a F.By.length F.c,aa (z.s.k:Nat),.int .u64 z.s.Hm] []]) (Bha B) (fun z=>z.i) ⟨⟨⟨#[]⟩,⟨#[]⟩,0⟩,r0,s1⟩ ⟨by show Gt [] [] 0=true;decide,by show r0<=6;omega,h1.mono (by show _<=B+20+30 * (6 - r0);omega)⟩ fun z hz=>?_
 obtain ⟨z1,z2,z3⟩:=hz;refine go ?_;refine A4 rfl (fun h3=>?_) (fun h3=>?_)
 ·have hi0:0 < z.i:=EZ
  refine Io ?_;intros;refine Ar [0] [4,5,6,7] ?_;refine dtl 0 ?_;refine dtl 1 ?_;refine dN 2 ?_;refine oC ?_;refine Bf (Anq _ g F z.s z3 EZ) fun p hp=>?_;obtain ⟨⟨c,r⟩,s5⟩:=p;obtain ⟨hc5,hr5,h5⟩:=hp;dsimp only at hc5 hr5 h5 ⊢;refine dk ?_;refine dN 3 ?_;refine oC ?_;refine Bf (Aqt z.l.Cg z.l.pending c r z.l.count z1 FH FH) fun p hp=>?_;obtain ⟨p6,k6,e6⟩:=p;dsimp only at hp ⊢;refine dk ?_;refine Q0 4 ?_;refine Q0 5 ?_;refine Q0 6 ?_;refine dN 7 ?_;refine oS ?_;refine Nm ?_;refine dd ?_;refine go ?_
  refine Bf (Ad0 _ g F 4 s5 h5 EZ EZ) fun p hp=>?_;obtain ⟨b,s7⟩:=p;obtain ⟨-,h7⟩:=hp;dsimp only at h7 ⊢;refine go ?_;cases b
  ·refine go ?_;rw [show ((z.i:Nat):Int) - 1=((z.i - 1:Nat):Int) by omega];refine Ca ⟨⟨z.l.Cg,p6,k6⟩,z.i - 1,s7⟩ ⟨hp,by show z.i - 1<=6;omega,h7.mono (by show _<=B+20+30 * (6 - (z.i - 1));omega)⟩ GO
  ·refine go ?_;refine Bf (Aqu z.l.Cg p6 k6 hp) fun _ _=>?_;refine go ?_;rw [show ((z.i:Nat):Int) - 1=((z.i - 1:Nat):Int) by omega];refine Ca ⟨⟨z.l.Cg++p6,⟨#[]⟩,k6⟩,z.i - 1,s7⟩ ⟨Aqy hp,by show z.i - 1<=6;omega,h7.mono (by show _<=B+20+30 * (6 - (z.i - 1));omega)⟩ GO
 refine go ?_;refine ret z ⟨z1,z3.mono EZ⟩ rfl
theorem Awf (B g:Nat) (F:CuF) (s:Nl) (ok:Hw B s) (hB:B<=500000000000) :
  Fn prog 49 [Ga g 0 0] [.sl Jo (ab F.a F.By.length F.c) F.By F.bs] [.row g 60 0 [] [ab F.a F.By.length F.c,aa (s.k:Nat),.int .u64 s.Hm] []] (fun (z:LgD)=>z.l.Cg.size+z.l.pending.size<=70000/\Hw (B+400) z.s) (fun z=>.agg #[af z.l.Cg,af z.l.pending,aa z.l.count]) (fun z=>[.row g 60 0 [] [ab F.a F.By.length F.c,aa (z.s.k:Nat),.int .u64 z.s.Hm] []]):=by
 refine enter func49 rfl ntmps49 fun w0=>?_;refine go ?_;intros;rename_i g2;refine Bf (Bgc _ g F s ok EZ) fun z hz=>?_;obtain ⟨⟨d,p,k⟩,i0,s1⟩:=z;obtain ⟨hv,h1⟩:=hz;dsimp only at hv h1 ⊢;obtain ⟨k0,k60⟩:=Lg.Tz hv;have hz:=Abr hv;refine go ?_;intros;refine Bf (Eb _ g F 24 s1 h1 EZ EZ) fun y hy=>?_;obtain ⟨k1,s2⟩:=y;obtain ⟨rk1,h2⟩:=hy;dsimp only at rk1 h2 ⊢;refine go ?_;refine A4 rfl (fun e0=>?_) (fun e0=>?_)
 ·refine go ?_;refine ret ⟨⟨d,p,k+1⟩,0,s2⟩ ⟨by show d.size+p.size<=_;omega,h2.mono EZ⟩ rfl
 refine go ?_;refine A4 rfl (fun e1=>?_) (fun e1=>?_)
 ·refine go ?_;refine Bf (Azj _ g F s2 p ⟨#[35,64,10,48,49]⟩ h2 EZ EZ FA FA) fun q hq=>?_;obtain ⟨u,s3⟩:=q;obtain ⟨hu,h3⟩:=hq;dsimp only at hu h3 ⊢;refine go ?_;refine ret ⟨⟨d,u,k⟩,0,s3⟩ ⟨by show d.size+u.size<=_;omega,h3.mono EZ⟩ rfl
 refine go ?_;refine A4 rfl (fun e2=>?_) (fun e2=>?_)
 ·refine go ?_;refine ret ⟨⟨d++p,p,k⟩,0,s2⟩ ⟨by show (d++p).size+p.size<=_;rw [aE];omega,h2.mono EZ⟩ rfl
 ·refine go ?_;refine ret ⟨⟨d,p,k⟩,0,s2⟩ ⟨by show d.size+p.size<=_;omega,h2.mono EZ⟩ rfl
structure TrD where
 l:ar
 a:aj
 c:Nat
 F:aq
 i:Nat
 s:Nl
structure Bhk (B:Nat) (z:TrD):Prop where
 g:Lv z.l
 l:z.l.length+z.i<=8
 i:z.i<=6
 s:Hw (B+10+10 * (6 - z.i)) z.s
theorem Aq4 (B g:Nat) (F:CuF) (s:Nl) (ok:Hw B s) (hB:B<=800000000000) :
  Fn prog 47 [Ga g 0 0] [.sl Jo (ab F.a F.By.length F.c) F.By F.bs] [.row g 60 0 [] [ab F.a F.By.length F.c,aa (s.k:Nat),.int .u64 s.Hm] []] (fun (z:TrD)=>Lv z.l/\Hw (B+100) z.s) (fun z=>.agg #[ab z.a z.l.length z.c])
   (fun z=>[.ow Bc 3 (ab z.a z.l.length z.c) z.l z.F,.row g 60 0 [] [ab F.a F.By.length F.c,aa (z.s.k:Nat),.int .u64 z.s.Hm] []]):=by
 refine enter func47 rfl ntmps47 fun w0=>?_;refine Io ?_;intros;refine Eh (xs:=[-1,0]) (fun w=>No w _) ?_ FA;refine go ?_;rename_i g2 g5 g3;refine Bf (Eb _ g F 7 s ok EZ EZ) fun y hy=>?_;obtain ⟨r0,s2⟩:=y;obtain ⟨hr0,h2⟩:=hy;dsimp only at hr0 h2 ⊢;have hr0:r0<=6:=EZ
 refine go ?_;refine Bx [0,2,3] (fun z:TrD=>[(4,aa (z.i:Nat))]) (fun z=>[.row g3 26 0 [] [ab z.a z.l.length z.c] [],.ow Bc 3 (ab z.a z.l.length z.c) z.l z.F,.row g 60 0 [] [ab F.a F.By.length F.c,aa (z.s.k:Nat),.int .u64 z.s.Hm] []]) (Bhk B) (fun z=>z.i) ⟨[-1,0],some ⟨g5,0,none⟩,2,_,r0,s2⟩ ⟨Atk,by show 2+r0<=8;omega,hr0,h2.mono (by show _<=B+10+10 * (6 - r0);omega)⟩ fun z hz=>?_;obtain ⟨z1,z2,z3,z4⟩:=hz;have hn0:=z1.n0;refine go ?_;refine A4 rfl (fun h3=>?_) (fun h3=>?_)
 ·have hi0:0 < z.i:=EZ
  refine Io ?_;intros;refine Ar [0] [10] ?_;refine Df 0 1 2 3 ?_;refine Dh 4 5 ?_;refine dN 6 ?_;refine oC ?_;refine Bf (Eb _ g F z.l.length z.s z4 EZ EZ) fun y hy=>?_;obtain ⟨k5,s5⟩:=y;obtain ⟨r5,h5⟩:=hy;dsimp only at r5 h5 ⊢;have r5:k5 < z.l.length:=EZ
  refine dk ?_;refine dN 7 ?_;apply Iq;rfl;rfl;rfl;rfl;exact Ik;exact Ih;intro _;refine dk ?_;refine dN 8 ?_;refine Nb (N7 _) C6 fun a9 c9 F9=>?_;refine dk ?_;refine dt 9 ?_;refine dN 10 ?_;refine oS ?_;refine Nm ?_;refine dd ?_;refine go ?_;rw [show ((z.i:Nat):Int) - 1=((z.i - 1:Nat):Int) by omega];refine Ca ⟨z.l++[(k5:Int)],a9,c9,F9,z.i - 1,s5⟩ ⟨Aps z1 EZ r5,by show (z.l++[_]).length+(z.i - 1)<=8;simp;omega,by show z.i - 1<=6;omega,h5.mono (by show _<=B+10+10 * (6 - (z.i - 1));omega)⟩ GO
 ·refine go ?_;refine ret z ⟨z1,z4.mono EZ⟩ rfl
theorem Aiz {k n t l:Int} {s:au} (hk:1<=k/\k<=5) (hn:Bz n=true) (ht:Bz t=true) (hl:Bz l=true) (hg:gp t l<=32767) (hs:Pe s=true) (he:s=⟨#[]⟩\/k<=2):Bo ⟨k,n,t,l,s⟩=true:=by
 unfold Bo E8;simp only [aw,bZ,aF];refine ⟨⟨⟨⟨⟨⟨hk,hn⟩,ht⟩,hl⟩,hs⟩,hg⟩,?_⟩;rcases he with h|h
 ·exact .inl (.inl h)
 ·by_cases h1:k=1
  ·exact .inl (.inr h1)
  ·exact .inr EZ
theorem Apv {s:au} (h:(s.size:Int)<=8) (h2:T4 s.data.toList=true):Pe s=true:=by unfold Pe;rw [av h,h2];rfl
theorem Ati {p:As} (h:Bo p=true):0<=p.Am/\p.Am<=65535/\p.data.size<=maxLen:=by
 unfold Bo Pe at h;simp only [aw,aF] at h;obtain ⟨t0,t1⟩:=A9.1 h.1.1.1.1.2;exact ⟨t0,t1,FH⟩
theorem Aus (B g:Nat) (F:CuF) (s:Nl) (ok:Hw B s) (hB:B<=800000000000) :
  Fn prog 171 [Ga g 0 0] [.sl Jo (ab F.a F.By.length F.c) F.By F.bs] [.row g 60 0 [] [ab F.a F.By.length F.c,aa (s.k:Nat),.int .u64 s.Hm] []] (fun (z:As × Nl)=>Bo z.1=true/\Hw (B+60) z.2) (fun s=>.agg #[aa s.1.Cq,aa s.1.Ae,aa s.1.Am,aa s.1.E7,af s.1.data]) (fun s=>[.row g 60 0 [] [ab F.a F.By.length F.c,aa (s.2.k:Nat),.int .u64 s.2.Hm] []]):=by
 refine enter func171 rfl ntmps171 fun w0=>?_;refine go ?_;intros;refine Bf (Ti B g F s ok EZ) fun n hn=>?_;obtain ⟨hn1,hn2⟩:=hn;refine go ?_;refine Bf (Eb (B+4) g F 5 n.2 hn2 EZ EZ) fun y1 hy1=>?_;obtain ⟨hy1,hy2⟩:=hy1;have hr1:y1.1<=4:=EZ
 refine go ?_;refine Bf (Eb _ g F 9 y1.2 hy2 EZ EZ) fun y3 hy3=>?_;obtain ⟨hy3,hy4⟩:=hy3;refine go ?_;refine ce (fun w s=>Ht _ _ _ EZ EZ) ?_;refine go ?_;refine Bf (Eb _ g F 10 y3.2 hy4 EZ EZ) fun y5 hy5=>?_;obtain ⟨hy5,hy6⟩:=hy5;refine go ?_;refine ce (fun w s=>Ht _ _ _ EZ EZ) ?_;refine go ?_;intros;refine A4 rfl (fun h1=>?_) (fun h1=>?_)
 ·refine go ?_;refine Bf (Sk _ g F y5.2 8 hy6 EZ EZ EZ) fun l hl=>?_;obtain ⟨hl1,hl2⟩:=hl;refine go ?_;refine ret (⟨1+(y1.1:Nat),Cc n.1 ((y5.1:Nat) - 1),n.1,Cc n.1 (y3.1:Nat),l.1⟩,l.2) ⟨Aiz ⟨EZ,EZ⟩ (Pf _ _) (A9.2 hn1) (Pf _ _) (by unfold gp Cc;omega) (Apv hl1.2.1 hl1.2.2) (.inr EZ),hl2.mono EZ⟩ rfl
 ·refine go ?_;refine ret (⟨1+(y1.1:Nat),Cc n.1 ((y5.1:Nat) - 1),n.1,Cc n.1 (y3.1:Nat),⟨#[]⟩⟩,y5.2) ⟨Aiz ⟨EZ,EZ⟩ (Pf _ _) (A9.2 hn1) (Pf _ _) (by unfold gp Cc;omega) FA (.inl rfl),hy6.mono EZ⟩ rfl
theorem Ayj (B g:Nat) (F:CuF) (s:Nl) (ok:Hw B s) (hB:B<=800000000000) :
  Fn prog 171 [Ga g 0 0] [.sl Jo (ab F.a F.By.length F.c) F.By F.bs] [.row g 60 0 [] [ab F.a F.By.length F.c,aa (s.k:Nat),.int .u64 s.Hm] []] (fun (z:As × Nl)=>(0<=z.1.Am/\z.1.Am<=65535/\z.1.data.size<=maxLen)/\Hw (B+60) z.2) (fun s=>.agg #[aa s.1.Cq,aa s.1.Ae,aa s.1.Am,aa s.1.E7,af s.1.data]) (fun s=>[.row g 60 0 [] [ab F.a F.By.length F.c,aa (s.2.k:Nat),.int .u64 s.2.Hm] []]):=(Aus B g F s ok hB).weak fun _ h=>⟨Ati h.1,h.2⟩
theorem Ame (B g:Nat) (F:CuF) (s:Nl) (ok:Hw B s) (hB:B<=700000000000) :
  Fn prog 89 [Ga g 0 0] [.sl Jo (ab F.a F.By.length F.c) F.By F.bs] [.row g 60 0 [] [ab F.a F.By.length F.c,aa (s.k:Nat),.int .u64 s.Hm] []] (fun (z:As × Nl)=>z.1.data.size<=maxLen/\Hw (B+100) z.2) (fun s=>.agg #[aa s.1.Cq,aa s.1.Ae,aa s.1.Am,aa s.1.E7,af s.1.data]) (fun s=>[.row g 60 0 [] [ab F.a F.By.length F.c,aa (s.2.k:Nat),.int .u64 s.2.Hm] []]):=by
 refine enter func89 rfl ntmps89 fun w0=>?_;refine go ?_;intros;refine Bf (Ayj B g F s ok EZ) fun z hz=>?_;obtain ⟨⟨t0,t1,hz1⟩,hz2⟩:=hz;refine go ?_;intros;refine Bf (Eb _ g F 24 z.2 hz2 EZ EZ) fun p hp=>?_;obtain ⟨r,s3⟩:=p;obtain ⟨-,hp⟩:=hp;dsimp only at hp ⊢;refine go ?_;refine A4 rfl (fun e0=>?_) (fun e0=>?_)
 ·refine Io ?_;intros;refine Eh (xs:=[0,6,5]) (fun w=>No w _) ?_ FA;refine Av (E:=Bc) fun G=>?_;refine go ?_;refine Bf (Rq _ g F _ [0,6,5] G s3 hp EZ FA FA) fun q hq=>?_;refine go ?_;refine ret (⟨q.1,z.1.Ae,z.1.Am,z.1.E7,z.1.data⟩,q.2) ⟨hz1,hq.2.mono EZ⟩ rfl
 ·refine go ?_;refine A4 rfl (fun e1=>?_) (fun e1=>?_)
  ·refine Io ?_;intros;refine Eh (xs:=[-1,65536,65535]) (fun w=>No w _) ?_ FA;refine Av (E:=Bc) fun G=>?_;refine go ?_;refine Bf (Rq _ g F _ [-1,65536,65535] G s3 hp EZ FA FA) fun q hq=>?_;refine go ?_;refine ret (⟨z.1.Cq,q.1,z.1.Am,z.1.E7,z.1.data⟩,q.2) ⟨hz1,hq.2.mono EZ⟩ rfl
  ·refine go ?_;refine A4 rfl (fun e2=>?_) (fun e2=>?_)
   ·refine Io ?_;intros;refine Ar [1] [7] ?_;refine Dh 0 1 ?_;refine dt 2 ?_;refine dN 3 ?_;apply Iq;rfl;rfl;rfl;rfl;exact Ik;exact Ih;intro _;refine Eh (xs:=[32767,32768]) (fun w=>No w _) ?_ FA;refine Av (E:=Bc) fun G=>?_;refine dk ?_;refine dN 4 ?_;refine oC ?_;refine Bf (Rq _ g F _ [32767,32768] G s3 hp EZ FA FA) fun q hq=>?_;have hq3:0<=q.1/\q.1<=32768:=by have:=hq.1;simp only [aH,aT,bm] at this;omega
    refine dk ?_;refine dN 5 ?_;refine oC ?_;refine ce (fun w s=>Ht _ _ _ EZ EZ) ?_;refine dk ?_;refine dt 6 ?_;refine dN 7 ?_;refine oS ?_;refine Nm ?_;refine dd ?_;refine go ?_;refine ret (⟨z.1.Cq,z.1.Ae,z.1.Am,Cc z.1.Am q.1,z.1.data⟩,q.2) ⟨hz1,hq.2.mono EZ⟩ rfl
   ·refine go ?_;refine A4 rfl (fun e3=>?_) (fun e3=>?_)
    ·refine Io ?_;intros;refine Eh (xs:=[⟨#[97,98,99,100,101,102,103,104]⟩,⟨#[97,98,99,100,101,102,103,104,105]⟩,⟨#[65]⟩,⟨#[97,32,98]⟩,⟨#[97]⟩]) (fun w=>Qa w _ FA) ?_ FA;refine Av (E:=A8) fun G=>?_;refine go ?_;refine Bf (Aem _ g F _ [⟨#[97,98,99,100,101,102,103,104]⟩,⟨#[97,98,99,100,101,102,103,104,105]⟩,⟨#[65]⟩,⟨#[97,32,98]⟩,⟨#[97]⟩] G s3 hp EZ FA FA) fun q hq=>?_;have hq3:q.1.size<=maxLen:=by have:=hq.1;simp only [aH,aT,bm] at this;rcases this with e|e|e|e|e <;> rw [e] <;> decide
     refine go ?_;refine ret (⟨z.1.Cq,z.1.Ae,z.1.Am,z.1.E7,q.1⟩,q.2) ⟨hq3,hq.2.mono EZ⟩ rfl
    ·refine go ?_;refine ret (z.1,s3) ⟨hz1,hp.mono EZ⟩ rfl
theorem Bb0 (a b:Int):FV 94 [aa a,aa b] [] (aa (max a b)):=by
 refine enter func94 rfl ntmps94 fun w0=>?_;refine go ?_;refine A4 rfl (fun h=>?_) (fun h=>?_)
 ·refine go ?_;rw [show max a b=a by omega];exact BC
 ·refine go ?_;rw [show max a b=b by omega];exact BC
theorem okq {k:Int} {i:Nat} (hk:k=2\/k=3\/k=5\/k=6) (h0:1<=i) (h7:i<=7):Dq ⟨k,(i:Int),⟨#[]⟩⟩=true:=by
 have hf:Oi ((i:Nat):Int)=true:=M5.2 EZ;unfold Dq;rcases hk with rfl|rfl|rfl|rfl
 all_goals
  show (E8 1 _ 6 && Oi ((i:Nat):Int) && decide _)=true;rw [hf];rfl
structure StD where
 t:Jf
 s:Nl
structure StW where
 n:Nat
 i:Nat
 s:Nl
structure Bhi (B:Nat) (z:StW):Prop where
 a:1<=z.n
 b:z.n<=7
 i:z.i<=3
 s:Hw (B+10+10 * z.i) z.s
theorem Aln (B g:Nat) (F:CuF) (s:Nl) (n:Du) (v:Value) (Fx:aq) (h2:2<=n.Al.Ac.length) (h8:n.Al.Ac.length<=8) (hd:n.down.length<=8) (hu:n.up.length=n.down.length) (hq:∀q∈n.down++n.up,q.length<=6) (ok:Hw B s) (hB:B<=800000000000) :
  Fn prog 50 [Ga g 0 0,v] [.sl Jo (ab F.a F.By.length F.c) F.By F.bs,.isv Pb v n Fx] [.row g 60 0 [] [ab F.a F.By.length F.c,aa (s.k:Nat),.int .u64 s.Hm] []] (fun (z:StD)=>Dq z.t=true/\z.t.data.size<=maxLen/\Hw (B+200) z.s) (fun z=>.agg #[aa z.t.Cq,aa z.t.node,af z.t.data])
   (fun z=>[.row g 60 0 [] [ab F.a F.By.length F.c,aa (z.s.k:Nat),.int .u64 z.s.Hm] []]):=by
 refine enter func50 rfl ntmps50 fun w0=>?_;refine Fm ?_;rintro a1 c1 F1 a2 c2 F2 a3 c3 F3 a4 c4 F4 a5 c5 F5 a6 c6 F6 a7 c7 F7 rfl l1 l2 l3 l4 l5 l6 l7;refine go ?_;intros;rename_i gb gs;refine Bf (Bb0 1 (n.Al.Ac.length - 1)) fun _ _=>?_;refine go ?_;refine Bf (Eb _ g F (max 1 (n.Al.Ac.length - 1)) s ok EZ EZ) fun y hy=>?_;obtain ⟨r0,s2⟩:=y;obtain ⟨hr0,h2⟩:=hy;dsimp only at hr0 h2 ⊢;have hr0:r0<=6:=EZ
 refine go ?_;rw [show (1:Int)+(r0:Nat)=((1+r0:Nat):Int) by omega];refine Bx [0,3,4] (fun z:StW=>[(5,aa (z.n:Nat)),(6,aa (z.i:Nat))]) (fun z=>[.row g 60 0 [] [ab F.a F.By.length F.c,aa (z.s.k:Nat),.int .u64 z.s.Hm] []]) (Bhi B) (fun z=>3 - z.i) ⟨1+r0,0,s2⟩ ⟨by show 1<=1+r0;omega,by show 1+r0<=7;omega,aG _,h2.mono (by show _<=B+10+10 * 0;omega)⟩ fun z hz=>?_;obtain ⟨z1,z2,z3,z4⟩:=hz
 repeat apply Og
 refine D0 [0,3,4,5,6] [0,1,2,3,4,5,6,7,8,9,10,11] (fun b:Bool=>[(40,.bool b)]) (fun _=>[]) (fun b=>b=true->z.i < 3) ?_ fun b hb=>?_
 ·by_cases k0:z.i < 3
  ·by_cases k1:z.n < n.down.length
   ·refine Oc (E:=An) (hz:=FA) (xs:=n.down) z.n ?_;rintro hi1 b1 o1 a8 c8 F8 e1 l8;refine Oc (E:=An) (hz:=FA) (xs:=n.up) z.n ?_;rintro hi2 b2 o2 a9 c9 F9 e2 l9;rw [e1,e2];have m8:=hq _ (cK _ (aB hi1));have m9:=hq _ (fS _ (aB hi2));refine Io ?_;intros;refine Ar [0,2,6] [] ?_;refine Dh 0 1 ?_;rw [show decide (((z.i:Nat):Int) < 3)=true by exact av EZ];refine dt 2 ?_;refine C5 3 ?_;refine C5 4 ?_;refine C5 5 ?_;refine C5 6 ?_;refine C5 7 ?_
    rw [show decide (((z.n:Nat):Int) < (n.down.length:Int))=true by exact av EZ];refine Dh 8 9 ?_;refine C5 10 ?_;refine C5 11 ?_;refine C5 12 ?_;refine C5 13 ?_;refine C5 14 ?_;refine C5 15 ?_;refine C5 16 ?_;refine C5 17 ?_;refine C5 18 ?_;refine C5 19 ?_;refine C5 20 ?_;refine C5 21 ?_;refine C5 22 ?_;refine C5 23 ?_;refine dt 24 ?_;refine dd ?_;refine Bk _ fun _=>k0
   ·refine Io ?_;intros;refine Ar [2] [] ?_;refine Dh 0 1 ?_;rw [show decide (((z.i:Nat):Int) < 3)=true by exact av EZ];refine dt 2 ?_;refine C5 3 ?_;refine C5 4 ?_;refine C5 5 ?_;refine C5 6 ?_;refine C5 7 ?_;rw [show decide (((z.n:Nat):Int) < (n.down.length:Int))=false by exact ay EZ];refine Dh 8 9 ?_;refine ds 10 ?_;refine ds 11 ?_;refine ds 12 ?_;refine ds 13 ?_;refine ds 14 ?_;refine ds 15 ?_;refine ds 16 ?_;refine ds 17 ?_;refine ds 18 ?_;refine ds 19 ?_;refine ds 20 ?_;refine ds 21 ?_;refine ds 22 ?_;refine ds 23 ?_;refine dt 24 ?_;refine dd ?_
    refine Bk false fun h=>(by cases h)
  ·refine Io ?_;intros;refine Ar [2] [] ?_;refine Dh 0 1 ?_;rw [show decide (((z.i:Nat):Int) < 3)=false by exact ay EZ];refine dt 2 ?_;refine ds 3 ?_;refine ds 4 ?_;refine ds 5 ?_;refine ds 6 ?_;refine ds 7 ?_;refine Dh 8 9 ?_;refine ds 10 ?_;refine ds 11 ?_;refine ds 12 ?_;refine ds 13 ?_;refine ds 14 ?_;refine ds 15 ?_;refine ds 16 ?_;refine ds 17 ?_;refine ds 18 ?_;refine ds 19 ?_;refine ds 20 ?_;refine ds 21 ?_;refine ds 22 ?_;refine ds 23 ?_;refine dt 24 ?_;refine dd ?_;refine Bk false fun h=>(by cases h)
 cases b
 rotate_left
 ·have hb3:=hb rfl;refine go ?_;refine Bf (Eb _ g F (n.Al.Ac.length - 1) z.s z4 EZ EZ) fun y hy=>?_;obtain ⟨k5,s5⟩:=y;obtain ⟨r5,h5⟩:=hy;dsimp only at r5 h5 ⊢;have r5:k5<=6:=EZ
  refine go ?_;rw [show (1:Int)+(k5:Nat)=((1+k5:Nat):Int) by omega];refine Ca ⟨1+k5,z.i+1,s5⟩ ⟨by show 1<=1+k5;omega,by show 1+k5<=7;omega,by show z.i+1<=3;omega,h5.mono (by show _<=B+10+10 * (z.i+1);omega)⟩ (by show 3 - (z.i+1) < 3 - z.i;omega)
 refine go ?_;refine Bf (Eb _ g F 10 z.s z4 EZ EZ) fun y hy=>?_;obtain ⟨r6,s6⟩:=y;obtain ⟨hr6,h6⟩:=hy;dsimp only at hr6 h6 ⊢;have hr6:r6<=9:=EZ
 rcases (show r6=0\/r6=1\/r6=2\/r6=3\/r6=4\/r6=5\/r6=6\/r6=7\/r6=8\/r6=9 by omega) with rfl|rfl|rfl|rfl|rfl|rfl|rfl|rfl|rfl|rfl
 ·exact BM
 ·exact BM
 ·exact BP
 ·exact BP
 ·exact BP
 ·refine go ?_;refine ret ⟨⟨3,((z.n:Nat):Int),⟨#[]⟩⟩,s6⟩ ⟨okq FA z1 z2,HE,h6.mono EZ⟩ rfl
 ·refine go ?_;refine ret ⟨⟨5,((z.n:Nat):Int),⟨#[]⟩⟩,s6⟩ ⟨okq FA z1 z2,HE,h6.mono EZ⟩ rfl
 ·refine go ?_;refine ret ⟨⟨6,((z.n:Nat):Int),⟨#[]⟩⟩,s6⟩ ⟨okq FA z1 z2,HE,h6.mono EZ⟩ rfl
 ·exact EY
 ·exact EY
end Go.Proofs.YtkoldibamfjghaaGreatDoor
namespace Go.Proofs.YtkoldibamfjghaaGreatDoor
open Go.RowKit
open Go.RowKit
theorem Amw {α:Type} {E:Bt α} {w:World}:∀{ys:List (am)} {xs:List α} {G:aq},Cz E w ys.flatten xs G->(∀y∈ys,y.length=E.sz)->∀i (h1:i < ys.length) (h2:i < xs.length),∃Gi,E.L8 w ys[i] xs[i] Gi/\∀b∈Gi,b∈G
 | [],_,_,_,_,i,h1,_=>by simp at h1
 | y::r,[],_,_,_,i,_,h2=>by simp at h2
 | y::r,x::s,G,h,hm,i,h1,h2=>by
  obtain ⟨c1,c2,F1,F2,e,rfl,hr,hs⟩:=h;rw [cm] at e;obtain ⟨e1,e2⟩:=eL e (by rw [hm y FB,E.len hr]);subst e1 e2;cases i with
  | zero=>exact ⟨F1,hr,fun b hb=>by simp [hb]⟩
  | succ j =>
   obtain ⟨Gi,g1,g2⟩:=Amw hs (fun z hz=>hm z IW) j HV HK;exact ⟨Gi,g1,fun b hb=>by simp [g2 b hb]⟩
theorem Aiu {α:Type} {E:Bt α} {w:World} {cs:am} {x:α} {G2:aq} (hx:E.L8 w cs x G2):∀{ys:List (am)} {xs:List α} {G:aq},Cz E w ys.flatten xs G->(∀y∈ys,y.length=E.sz)->ys.length=xs.length->∀i,∃G',Cz E w (ys.set i cs).flatten (xs.set i x) G'/\∀b∈G',b∈G\/b∈G2
 | [],[],G,h,_,_,i=>⟨G,h,fun b hb=>.inl hb⟩
 | [],y::r,_,_,_,hl,_=>by simp at hl
 | y::r,[],_,_,_,hl,_=>by simp at hl
 | y::r,x1::s,G,h,hm,hl,i=>by
  obtain ⟨c1,c2,F1,F2,e,rfl,hr,hs⟩:=h;rw [cm] at e;obtain ⟨e1,e2⟩:=eL e (by rw [hm y FB,E.len hr]);subst e1 e2;cases i with
  | zero=>exact ⟨G2++F2,⟨cs,r.flatten,G2,F2,FB,rfl,hx,hs⟩,fun b hb=>by rcases aK.1 hb with hb|hb;exact .inr hb;exact .inl FG⟩
  | succ j =>
   obtain ⟨G',g1,g2⟩:=Aiu hx hs (fun z hz=>hm z IW) GY j;refine ⟨F1++G',⟨y,(r.set j cs).flatten,F1,G',FB,rfl,hr,g1⟩,fun b hb=>?_⟩;rcases aK.1 hb with hb|hb
   ·exact .inl FG
   ·rcases g2 b hb with h|h
    ·exact .inl JR
    ·exact .inr h
section
variable {c:Cx} {fr:Fr} {H:List Pc} {Φ:Gl}
theorem Fg {m:Nat} {t:TypeId} {a:aj} {n cp:Nat} {ys:List (am)} {F:aq} (h:(∀y∈ys,y.length=m)->ys.length=n->T c fr H Φ) (hp:.ow (EC m) t (ab a n cp) ys F∈H:=by exact Bl):T c fr H Φ:=.mk fun ac w s g=>by
 obtain ⟨hnd,ho⟩:=s.get hp;have key:(∀y∈ys,y.length=m)/\ys.length=n:=by
  rcases ho with ⟨e,rfl, -⟩|⟨b,cap,cs,rest,G,e,h2,h3,h4,h5,h6, -⟩
  ·cases e;exact ⟨FB,rfl⟩
  ·cases e;exact ⟨(Akt h6).2.2,rfl⟩
 exact (h key.1 key.2).h ac w s g
theorem Be2 {α:Type} {E:Bt α} {k:Nat} {v:Value} {xs:List α} {G:aq} (h:xs.length=k->T c fr H Φ) (hp:.isv (EA E k) v xs G∈H:=by exact Bl):T c fr H Φ:=.mk fun ac w s g=>by
 obtain ⟨cs,e,hl,hf⟩:=s.get hp;exact (h hl).h ac w s g
theorem Ag8 {α:Type} {E:Bt α} {k:Nat} {ys:List (am)} {xs:List α} {G:aq} (i:Nat) (hm:∀y∈ys,y.length=E.sz) (hl:ys.length=xs.length) (h1:i < ys.length) (h:∀(h1:i < ys.length) (h2:i < xs.length) Gi,T c fr (.isv E (.agg ys[i].toArray) xs[i] Gi::H) Φ) (hp:.isv (EA E k) (.agg ys.flatten.toArray) xs G∈H:=by exact Bl):T c fr H Φ:=.mk fun ac w s g=>by
 obtain ⟨cs,e, -,hf⟩:=s.get hp;obtain rfl:ys.flatten=cs:=JZ
 obtain ⟨Gi,g1,g2⟩:=Amw hf hm i h1 EZ;exact (h h1 EZ Gi).h ac w (s.ro hp rfl rfl ⟨_,rfl,g1⟩ g2) g
theorem Ag9 {α:Type} {E:Bt α} {k:Nat} {ys:List (am)} {xs:List α} {G:aq} (i:Nat) (hm:∀y∈ys,y.length=E.sz) (hl:ys.length=xs.length) (h1:i < ys.length) (h:∀(h1:i < ys.length) (h2:i < xs.length) v Gi,v=.agg ys[i].toArray->T c fr (.isv E v xs[i] Gi::H) Φ) (hp:.isv (EA E k) (.agg ys.flatten.toArray) xs G∈H:=by exact Bl):T c fr H Φ:=Ag8 i hm hl h1 (fun h1 h2 Gi=>h h1 h2 _ Gi rfl) hp
theorem Qm {α:Type} {E:Bt α} {k:Nat} {ys:List (am)} {xs:List α} {G G2:aq} {v:Value} {cs:am} {x:α} (i:Nat) (hv:v=.agg cs.toArray) (hm:∀y∈ys,y.length=E.sz) (hl:ys.length=xs.length) (h:∀G',T c fr (.isv (EA E k) (.agg (ys.set i cs).flatten.toArray) (xs.set i x) G'::H) Φ) (hp:.isv (EA E k) (.agg ys.flatten.toArray) xs G∈H:=by exact Bl) (hp2:.isv E v x G2∈H:=by exact Bl):T c fr H Φ:=.mk fun ac w s g=>by
 subst hv;obtain ⟨c1,e,hk,hf⟩:=s.get hp;obtain rfl:ys.flatten=c1:=JZ
 obtain ⟨c2,e2,hx⟩:=s.get hp2;obtain rfl:cs=c2:=by simpa using e2
 obtain ⟨G',g1,g2⟩:=Aiu hx hf hm hl i;refine (h G').h ac w (s.add (N:=[.isv (EA E k) (.agg (ys.set i cs).flatten.toArray) (xs.set i x) G']) (Below.refl _ _) (by intro p hq;rw [aM] at hq;subst hq;exact ⟨_,rfl,by simpa using hk,g1⟩) ⟨FB,trivial⟩ ?_) g;intro p hq z hb;rw [aM] at hq;subst hq;rcases g2 z hb with hb|hb
 ·exact .inr ⟨rfl,_,hp,rfl,hb⟩
 ·exact .inr ⟨rfl,_,hp2,rfl,hb⟩
theorem Acg {α:Type} {E:Bt α} {hz:0 < E.sz} {v:Value} {x:List α} {G:aq} (h:∀a1 c1,v=.agg #[ab a1 x.length c1]->x.length<=maxLen->T c fr (.sl E (ab a1 x.length c1) x G::H) Φ) (hp:.isv (Oa E hz) v x G∈H:=by exact Bl):T c fr H Φ:=.mk fun ac w s g=>by
 obtain ⟨cs,rfl,v1,rfl,h1⟩:=s.get hp;obtain ⟨a1,c1,rfl⟩:=h1.slice;exact (h a1 c1 rfl h1.len).h ac w (s.ro hp rfl rfl ⟨hz,h1⟩ fun b hb=>hb) g
theorem Z9 {α:Type} {E:Bt α} {v:Value} {x:List α} {G:aq} (hz:0 < E.sz) (h:T c fr (.isv (Oa E hz) (.agg #[v]) x G::H) Φ) (hp:.sl E v x G∈H:=by exact Bl):T c fr H Φ:=.mk fun ac w s g=>by
 obtain ⟨-,h1⟩:=s.get hp;exact h.h ac w (s.ro hp rfl rfl ⟨[v],rfl,v,rfl,h1⟩ fun b hb=>hb) g
end
end Go.Proofs.YtkoldibamfjghaaGreatDoor
namespace Go.Proofs.YtkoldibamfjghaaGreatDoor
open Go.RowKit
theorem At9 (s:Jf) (hss:s.data.size<=maxLen):FV 136 [.agg #[aa s.Cq,aa s.node,af s.data]] [] (.bool (Dq s)):=by
 refine enter func136 rfl ntmps136 fun w0=>?_;refine go ?_;intros;refine A4 rfl (fun h1=>?_) (fun h1=>?_)
 ·rw [show Dq s=(decide (s.node=0) && Pe s.data) by unfold Dq;rw [aJ h1]];refine go ?_;refine D6 rfl rfl (fun h2=>?_) (fun h2=>?_)
  ·refine go ?_;refine ce (fun w st=>Q3 s.data 8 _ hss) ?_;exact DR
  ·exact DQ
 refine go ?_;refine A4 rfl (fun h4=>?_) (fun h4=>?_)
 ·rw [show Dq s=(decide (s.node=0) && decide (s.data=⟨#[]⟩)) by unfold Dq;rw [aC h1,aJ h4]];refine go ?_;refine D6 rfl rfl (fun h2=>?_) (fun h2=>?_)
  ·exact DR
  ·exact DQ
 rw [show Dq s=(E8 1 s.Cq 6 && E8 1 s.node 7 && decide (s.data=⟨#[]⟩)) by unfold Dq;rw [aC h1,aC h4];rfl];refine go ?_;refine ce (fun w st=>Ka s.Cq 1 6 _) ?_;cases g1:E8 1 s.Cq 6
 ·refine go ?_;refine ret () trivial ?_;rfl
 refine go ?_;refine ce (fun w st=>Ka s.node 1 7 _) ?_;cases g2:E8 1 s.node 7
 ·refine go ?_;refine ret () trivial ?_;rfl
 refine go ?_;refine ret () trivial ?_;rfl
theorem Aux {q ps:List As} {k:Nat} (h:6<=(Hg q (ps.take k)).length):Hg q (ps.take k)=Hg q ps:=by
 unfold Hg at *;rw [aA,aP,aP] at h;rw [List.take_take]
 congr 1
 by_cases h6:6<=q.length
 ·rw [show min (6 - q.length) k=6 - q.length by omega]
 ·by_cases hk:6 - q.length<=k
  ·rw [show min (6 - q.length) k=6 - q.length by omega]
  ·rw [show min (6 - q.length) k=k by omega,aV EZ,aV EZ]
theorem Auy {q ps:List As} {k:Nat} (hk:k < ps.length) (h:(Hg q (ps.take k)).length < 6):Hg q (ps.take (k+1))=Hg q (ps.take k)++[ps[k]]:=by
 rw [aO hk,Ajt];unfold Uz;rw [aJ h]
theorem Agd (q ps:List As) (a:aj) (c:Nat) (F:aq) (a2:aj) (c2:Nat) (F2:aq) (hq:q.length<=1000000):Fn prog 237 [ab a q.length c,ab a2 ps.length c2] [.sl An (ab a q.length c) q F,.sl An (ab a2 ps.length c2) ps F2] [] (fun (_:KA)=>True) (fun z=>.slice z.a (Hg q ps).length z.c) (fun z=>[.ow An 141 (.slice z.a (Hg q ps).length z.c) (Hg q ps) z.F]):=by
 refine enter func237 rfl ntmps237 fun w0=>?_;refine Abn (E:=An) (xs:=ps) ?_;rintro _ _ e0 hn1 hn2;refine Alp (E:=An) (xs:=ps) (fun p:As=>p.data.size<=maxLen) (fun w cs x F h=>by obtain ⟨_,h,_⟩:=h;exact h) ?_;intro hz;cases e0;refine go ?_;intros;refine Cy An ?_;refine go ?_;apply wO;refine Ni Ho Jm fun a3 c3 F3=>?_;rw [aZ];refine go ?_;have e0:Hg q (ps.take 0)=q:=by unfold Hg;simp
 refine Bx [1,4] (fun z:KA=>[(5,.slice z.a (Hg q (ps.take z.k)).length z.c),(6,aa (z.k:Nat))]) (fun z=>[.ow An 141 (.slice z.a (Hg q (ps.take z.k)).length z.c) (Hg q (ps.take z.k)) z.F]) (fun z=>z.k<=ps.length) (fun z=>ps.length - z.k) ⟨0,a3,c3,F3⟩ (aG _) (fun z hz0=>?_) (hf:=by dsimp only;rw [e0];exact frE) (hH:=by dsimp only;rw [e0];exact Agr);have hql:(Hg q (ps.take z.k)).length<=q.length+ps.length:=by unfold Hg;rw [aA,aP,aP];omega
 have hnn:ps.length<=9223372036854775807:=EZ
 refine go ?_;refine D6 rfl rfl (fun h1=>?_) (fun h1=>?_)
 ·have hk:z.k < ps.length:=EZ
  refine go ?_;refine A4 rfl (fun h2=>?_) (fun h2=>?_)
  ·have h6:(Hg q (ps.take z.k)).length < 6:=EZ
   have hpz:=hz _ (aB hk);refine Qw (xs:=ps) z.k ?_;rintro hi3 b3 o3 e3 s3;rw [e3];refine go ?_;intros;apply wO;refine Nb (ys:=[ps[z.k]]) (Dd ps[z.k] hpz) Ho fun a7 c7 F7=>?_;rw [<-Auy hk h6];refine go ?_;refine Ca ⟨z.k+1,a7,c7,F7⟩ hk (by show ps.length - (z.k+1) < ps.length - z.k;omega)
  ·rw [Aux EZ];exact CB
 ·rw [show ps.take z.k=ps from aV EZ];exact CB
theorem Ayp {q ps:List As} (h:q.length<=6):(Hg q ps).length<=6:=by unfold Hg;rw [aA,aP];omega
theorem Bbz {d:List (List As)} {i:Nat} {ps:List As} (h:∀q∈d,q.length<=6):∀q∈d.modify i (fun q=>Hg q ps),q.length<=6:=fun q hq=>by
 by_cases hi:i < d.length
 ·rw [H8 hi] at hq;rcases bE hq with h'|rfl
  ·exact h q h'
  ·exact Ayp (h _ (aB hi))
 ·rw [Z5 hi] at hq;exact h q hq
theorem Ahf {ps:List As}:∀{nodes:ar} {d:List (List As)},(∀q∈d,q.length<=6)->∀q∈Dr d nodes ps,q.length<=6
 | [],_,h=>h
 | x::r,d,h=>by
  show ∀q∈Dr (d.modify x.toNat fun q=>Hg q ps) r ps,q.length<=6;exact Ahf (Bbz h)
structure ShZ where
 k:Nat
 ys:List (am)
 F:aq
 G:aq
theorem Ns (d:List (List As)) (nodes:ar) (ps:List As) (a1 a2 a3 a4 a5 a7:aj) (l1 c1 l2 c2 l3 c3 l4 c4 l5 c5 l7 c7:Nat) (w1 w2 w3 w4:Int) (a:aj) (n c:Nat) (ys:List (am)) (F G:aq) (an:aj) (cn:Nat) (Fn_:aq) (ap:aj) (cp:Nat) (Fp:aq) (hx:∀x∈nodes,0<=x/\x.toNat < d.length) (hd:∀q∈d,q.length<=6) :
  Fn prog 164 [.agg #[ab a1 l1 c1,aa w1,aa w2,ab a2 l2 c2,aa w3,aa w4,ab a3 l3 c3,ab a4 l4 c4,ab a5 l5 c5,ab a n c,ab a7 l7 c7],ab an nodes.length cn,ab ap ps.length cp] [.sl Bc (ab an nodes.length cn) nodes Fn_,.sl An (ab ap ps.length cp) ps Fp,.isv (EA (Oa An FA) n) (.agg (ys).flatten.toArray) d G] [.ow (EC 1) 125 (ab a n c) ys F] (fun (_:ShZ)=>True) (fun _=>.tuple #[]) (fun z=>[.ow (EC 1) 125 (ab a n c) z.ys z.F,.isv (EA (Oa An FA) n) (.agg (z.ys).flatten.toArray) (Dr d nodes ps) z.G]):=by
 refine enter func164 rfl ntmps164 fun w0=>?_;refine Abn (E:=Bc) (xs:=nodes) ?_;rintro _ _ e0 hn1 hn2;cases e0;refine Be2 (xs:=d) fun hdn=>?_;refine go ?_;intros;refine Bx [1,2,3] (fun z:ShZ=>[(6,aa (z.k:Nat))]) (fun z=>[.ow (EC 1) 125 (ab a n c) z.ys z.F,.isv (EA (Oa An FA) n) (.agg (z.ys).flatten.toArray) (Dr d (nodes.take z.k) ps) z.G]) (fun z=>z.k<=nodes.length) (fun z=>nodes.length - z.k) ⟨0,ys,F,G⟩ (aG _) fun z hz0=>?_;have hsl:=Aac ps (nodes.take z.k) d;have hd6:=Ahf (ps:=ps) (nodes:=nodes.take z.k) hd;refine go ?_;refine A4 rfl (fun h1=>?_) (fun h1=>?_)
 ·have hk:z.k < nodes.length:=EZ
  obtain ⟨x0,x1⟩:=hx _ (aB hk);obtain ⟨i,hi⟩:∃i:Nat,nodes[z.k]=((i:Nat):Int):=⟨nodes[z.k].toNat,EZ⟩;have hil:i < (Dr d (nodes.take z.k) ps).length:=EZ
  have hst:=Ad8 (d:=d) (ps:=ps) hk;rw [show nodes[z.k].toNat=i by omega] at hst;unfold Q7 at hst;rw [H8 hil] at hst;have h6:=hd6 _ (aB hil);refine Hy (xs:=nodes) z.k ?_;rintro hi2 b o e1;rw [e1,hi];refine Fg (ys:=z.ys) fun hm hl=>?_;refine Ag8 (ys:=z.ys) (xs:=Dr d (nodes.take z.k) ps) i hm EZ EZ fun h2 h3 Gi=>?_;refine Acg (x:=(Dr d (nodes.take z.k) ps)[i]) fun a9 c9 e9 l9=>?_;refine Rf (E:=EC 1) (xs:=z.ys) (m:=1) (H5 1) i ?_ FE rfl h2;rintro _ g A cs B rfl k2 k3 hH;obtain ⟨k4, -, -⟩:=k3 w0
  have e8:z.ys[i]=[.slice a9 (Dr d (nodes.take z.k) ps)[i].length c9]:=JQ
  rw [e8] at k4;subst k4;dsimp only [List.append];refine go ?_;refine Ar [0,3,5] [17] ?_;refine Df 0 1 2 3 ?_;refine Df 4 5 6 7 ?_;refine Df 8 9 10 11 ?_;refine Dh 12 13 ?_;refine dt 14 ?_;refine dN 15 ?_;refine oC ?_;refine Bf (Agd (Dr d (nodes.take z.k) ps)[i] ps a9 c9 _ ap cp Fp EZ) fun u _=>?_;refine dk ?_;refine dt 16 ?_;refine dN 17 ?_;refine oS ?_;refine Nm ?_;refine dd ?_;refine Pz (E:=EC 1) (xs:=z.ys) [.slice u.a (Hg (Dr d (nodes.take z.k) ps)[i] ps).length u.c] hH (fun w=>⟨rfl,⟨rfl,FO⟩,rfl⟩) ?_
  refine Av (E:=An) (xs:=Hg (Dr d (nodes.take z.k) ps)[i] ps) fun Fq=>?_;refine Z9 (E:=An) (x:=Hg (Dr d (nodes.take z.k) ps)[i] ps) FA ?_;refine Qm (E:=Oa An FA) (ys:=z.ys) (xs:=Dr d (nodes.take z.k) ps) (x:=Hg (Dr d (nodes.take z.k) ps)[i] ps) i rfl hm EZ fun G'=>?_;rw [<-hst];refine go ?_;refine Ca ⟨z.k+1,z.ys.set i [.slice u.a (Hg (Dr d (nodes.take z.k) ps)[i] ps).length u.c],[g],G'⟩ hk (by show nodes.length - (z.k+1) < nodes.length - z.k;omega)
 ·rw [show nodes.take z.k=nodes from aV EZ];refine go ?_;refine Vz ?_;refine ret z trivial rfl
theorem Anf {l:ar} (hg:Lv l) (i:Nat):Qk 1 7 (Ij l ((i:Nat):Int))=true:=by
 refine Aju ?_ fun z hz=>?_
 ·unfold Ij J9;rw [List.pairwise_map];exact (List.Pairwise.filter _ List.pairwise_lt_range).imp fun h=>by omega
 ·have:=Lh hg hz;have:=hg.n1;omega
structure ShA where
 ys:List (am)
 F:aq
 G:aq
structure SZ where
 e:ShA
 r:ShA
 d:ShA
 u:ShA
structure JE where
 g:Nat
 b:aj
 d:Nat
 F:aq
 a:aj
 c:Nat
 G:aq
theorem Ak2 (n:Du) (i:Nat) (p:As) (a1:aj) (c1:Nat) (a4:aj) (c4:Nat) (a5:aj) (c5:Nat) (a6:aj) (c6:Nat) (a7:aj) (c7:Nat) (a2 a3:aj) (l2 c2 l3 c3:Nat) (w1 w2 w3 w4:Int) (F1:aq) (z:SZ) (FT:aq) (hl:Lj n=true) (hi:i < n.Al.Ac.length) (hi0:0 < i) (h8:Lv n.Al.Ac) (hr:D5 n.Al.Ac (i:Nat)=true->Bp (Px n i)=true) (he:D5 n.Al.Ac (i:Nat)=false->Ba (Pk n i)=true) (hp:Bo p=true) (hps:p.data.size<=maxLen) (hd:∀q∈n.down,q.length<=6) :
  Fn prog 166 [.agg #[ab a1 n.Al.Ac.length c1,aa w1,aa w2,ab a2 l2 c2,aa w3,aa w4,ab a3 l3 c3,ab a4 n.Al.Ac.length c4,ab a5 n.Al.Ac.length c5,ab a6 n.Al.Ac.length c6,ab a7 n.Al.Ac.length c7],aa (i:Nat),.agg #[aa (p).Cq,aa (p).Ae,aa (p).Am,aa (p).E7,af (p).data]] [E4 FT,.sl Bc (ab a1 n.Al.Ac.length c1) n.Al.Ac F1,.isv (EA Bv n.Al.Ac.length) (.agg z.e.ys.flatten.toArray) n.Af z.e.G,.isv (EA B8 n.Al.Ac.length) (.agg z.r.ys.flatten.toArray) n.Ad z.r.G,.isv (EA (Oa An FA) n.Al.Ac.length) (.agg z.d.ys.flatten.toArray) n.down z.d.G,.isv (EA (Oa An FA) n.Al.Ac.length) (.agg z.u.ys.flatten.toArray) n.up z.u.G] [.ow (EC 2) 122 (ab a4 n.Al.Ac.length c4) z.e.ys z.e.F,.ow (EC 5) 76 (ab a5 n.Al.Ac.length c5) z.r.ys z.r.F,.ow (EC 1) 125 (ab a6 n.Al.Ac.length c6) z.d.ys z.d.F,.ow (EC 1) 125 (ab a7 n.Al.Ac.length c7) z.u.ys z.u.F] (fun (_:SZ × KA)=>True) (fun y=>.slice y.2.a (C8 n i p).2.length y.2.c) (fun y=>[.ow (EC 2) 122 (ab a4 n.Al.Ac.length c4) y.1.e.ys y.1.e.F,.ow (EC 5) 76 (ab a5 n.Al.Ac.length c5) y.1.r.ys y.1.r.F,.ow (EC 1) 125 (ab a6 n.Al.Ac.length c6) y.1.d.ys y.1.d.F,.ow (EC 1) 125 (ab a7 n.Al.Ac.length c7) y.1.u.ys y.1.u.F,.isv (EA Bv n.Al.Ac.length) (.agg y.1.e.ys.flatten.toArray) (C8 n i p).1.Af y.1.e.G,.isv (EA B8 n.Al.Ac.length) (.agg y.1.r.ys.flatten.toArray) (C8 n i p).1.Ad y.1.r.G,.isv (EA (Oa An FA) n.Al.Ac.length) (.agg y.1.d.ys.flatten.toArray) (C8 n i p).1.down y.1.d.G,.isv (EA (Oa An FA) n.Al.Ac.length) (.agg y.1.u.ys.flatten.toArray) (C8 n i p).1.up y.1.u.G,.ow A8 9 (.slice y.2.a (C8 n i p).2.length y.2.c) (C8 n i p).2 y.2.F]):=by
 obtain ⟨q1,q2,q3,q4⟩:=Bg.1 hl;have hn8:=h8.n1;obtain ⟨d0,d1_⟩:=Ab7 (i:=i);refine enter func166 rfl ntmps166 fun w0=>?_;refine Ir n.Al ?_;refine go ?_;intros;refine Bf (N1 n.Al ((i:Nat):Int) _ F1 h8 EZ) fun _ _=>?_;cases hlf:D5 n.Al.Ac (i:Nat)
 rotate_left
 ·have hir:i < n.Ad.length:=EZ
  have hgr:=Ej.1 (Gp hir▸hr hlf);have hev:=(Ul (d:=M0 i) hgr hp d0 d1_).2;rw [show C8 n i p=(⟨n.Al,n.Ab,n.Af,n.Ad.set i (Dl n.Ad[i] p (M0 i)),n.down,n.up⟩,T6 i (Id n.Ad[i] p)) by unfold C8;rw [aJ hlf,Gp hir]];refine go ?_;refine Fg (ys:=z.r.ys) fun hm hlr=>?_;refine Ag9 (E:=B8) (ys:=z.r.ys) (xs:=n.Ad) i hm EZ EZ fun h2 h3 v Gi ev=>?_;refine Hf (v:=v) (x:=n.Ad[i]) ?_;rintro b1 d1 G1 b2 d2 G2 rfl l1 l2
  have e8:z.r.ys[i]=[.bool (n.Ad[i]).Be,aa (n.Ad[i]).Ai,aa (n.Ad[i]).Aa.next,.slice b1 (n.Ad[i]).Aa.Ap.length d1,.slice b2 (n.Ad[i]).Ao.length d2]:=JL
  refine Rf (E:=EC 5) (xs:=z.r.ys) (m:=5) (H5 5) i ?_ FE rfl h2;rintro _ g A cs B rfl k2 k3 hH;obtain ⟨k4, -, -⟩:=k3 w0;rw [e8] at k4;subst k4;dsimp only [List.append];refine go ?_
  refine D0 [1,3,5,6] [0,1,2,3,4,5,6,7,8,9,10,11,12,13,14,15] (fun w:Nat × NwS=>[(7,Ga w.1 0 0),(8,.slice w.2.ae (Id n.Ad[i] p).length w.2.ce)]) (fun w=>[.row w.1 76 0 [] [.bool (Dl n.Ad[i] p (M0 i)).Be,aa (Dl n.Ad[i] p (M0 i)).Ai,aa (Dl n.Ad[i] p (M0 i)).Aa.next,.slice w.2.a1 (Dl n.Ad[i] p (M0 i)).Aa.Ap.length w.2.c1,.slice w.2.a2 (Dl n.Ad[i] p (M0 i)).Ao.length w.2.c2] [],.isv B8 (.agg #[.bool (Dl n.Ad[i] p (M0 i)).Be,aa (Dl n.Ad[i] p (M0 i)).Ai,aa (Dl n.Ad[i] p (M0 i)).Aa.next,.slice w.2.a1 (Dl n.Ad[i] p (M0 i)).Aa.Ap.length w.2.c1,.slice w.2.a2 (Dl n.Ad[i] p (M0 i)).Ao.length w.2.c2]) (Dl n.Ad[i] p (M0 i)) w.2.F1,.ow A8 9 (.slice w.2.ae (Id n.Ad[i] p).length w.2.ce) (Id n.Ad[i] p) w.2.Fe]) (fun _=>True) ?_ fun w _=>?_
  ·skip
   refine Ar [0,4,5] [] ?_;refine Df 0 1 2 3 ?_;refine Dh 4 5 ?_;refine dt 6 ?_;refine dM 7 12 ?_ ?_
   ·refine oC ?_;refine Bf (Vk i EZ) fun _ _=>?_;refine dk ?_;refine dM 8 12 ?_ ?_
    ·refine oC ?_;refine Bf (Acj n.Ad[i] p (M0 i) _ Gi hgr hp d0 d1_) fun s _=>?_;refine dk ?_;refine Dh 9 10 ?_;refine dt 11 ?_;refine dN 12 ?_;apply Cm;rfl;intro _;refine dk ?_;refine dN 13 ?_;refine oS ?_;refine dk ?_;refine dt 14 ?_;refine dd ?_;refine Bk (⟨_,s⟩:Nat × NwS) trivial
    ·apply Cm;rfl;intro _;exact BW
   ·apply Cm;rfl;intro _;refine dk ?_;refine dN 7 ?_;refine oC ?_;refine Bf (Vk i EZ) fun _ _=>?_;exact BW
  obtain ⟨gr,s⟩:=w;dsimp only;refine Io ?_;intros;refine Pz (E:=EC 5) (xs:=z.r.ys) [.bool (Dl n.Ad[i] p (M0 i)).Be,aa (Dl n.Ad[i] p (M0 i)).Ai,aa (Dl n.Ad[i] p (M0 i)).Aa.next,.slice s.a1 (Dl n.Ad[i] p (M0 i)).Aa.Ap.length s.c1,.slice s.a2 (Dl n.Ad[i] p (M0 i)).Ao.length s.c2] hH (fun w=>⟨rfl,⟨rfl,FO⟩,rfl⟩) ?_;refine Qm (E:=B8) (ys:=z.r.ys) (xs:=n.Ad) (x:=Dl n.Ad[i] p (M0 i)) i rfl hm EZ fun G'=>?_;refine Av (E:=A8) (xs:=Id n.Ad[i] p) fun Fq=>?_;refine go ?_;refine Bf (Aje i (Id n.Ad[i] p) _ _ Fq FT EZ EZ (Af5 hgr hp)) fun u _=>?_
  refine go ?_;refine ret (⟨z.e,⟨z.r.ys.set i [.bool (Dl n.Ad[i] p (M0 i)).Be,aa (Dl n.Ad[i] p (M0 i)).Ai,aa (Dl n.Ad[i] p (M0 i)).Aa.next,.slice s.a1 (Dl n.Ad[i] p (M0 i)).Aa.Ap.length s.c1,.slice s.a2 (Dl n.Ad[i] p (M0 i)).Ao.length s.c2],[g],G'⟩,z.d,z.u⟩,u) trivial rfl
 ·have hir:i < n.Af.length:=EZ
  have hge:Ba n.Af[i]=true:=Jq hir▸he hlf;have hel:=(Hb.1 hge).2.1;have hkl:=Ur n.Al.Ac ((i:Nat):Int);have hkx:∀x∈Ij n.Al.Ac ((i:Nat):Int),0<=x/\x.toNat < n.down.length:=fun x hx=>by have:=Lh h8 hx;omega
  have hri:=Anf h8 i;refine go ?_;refine Bf (N2 n.Al ((i:Nat):Int) _ F1 (Qb h8.z EZ) ⟨EZ,EZ⟩) fun u _=>?_;refine Av (E:=Bc) (xs:=Ij n.Al.Ac ((i:Nat):Int)) fun Fk=>?_;refine go ?_;refine A4 rfl (fun hk=>?_) (fun hk=>?_)
  ·rw [show C8 n i p=(⟨n.Al,n.Ab,n.Af.set i (Pq n.Af[i] p.Ae),n.Ad,Dr n.down (Uj n.Af[i] p.Ae (Ij n.Al.Ac ((i:Nat):Int))) [p],n.up⟩,[]) by unfold C8 Aek Y3;rw [aC JV,aJ hk,aJ hk,Jq hir]];rw [<-Arn hge hri];refine go ?_;refine Fg (ys:=z.e.ys) fun hm hlr=>?_;refine Ag9 (E:=Bv) (ys:=z.e.ys) (xs:=n.Af) i hm EZ EZ fun h2 h3 v Gi ev=>?_;refine Ew (v:=v) (x:=n.Af[i]) ?_;rintro b1 d1 G1 rfl l1;have e8:z.e.ys[i]=[aa n.Af[i].Ai,.slice b1 n.Af[i].Ah.length d1]:=JL
   refine Rf (E:=EC 2) (xs:=z.e.ys) (m:=2) (H5 2) i ?_ FE rfl h2;rintro _ g A cs B rfl k2 k3 hH;obtain ⟨k4, -, -⟩:=k3 w0;rw [e8] at k4;subst k4;dsimp only [List.append];refine go ?_
   refine D0 [1,3,5,6,9] [0,1,2,3,4,5,6,7,8,9,10,11,12,13,14,15] (fun w:JE=>[(10,Ga w.g 0 0),(11,.slice w.a (Aav n.Af[i] p.Ae (Ij n.Al.Ac ((i:Nat):Int))).length w.c)]) (fun w=>[.row w.g 122 0 [] [aa (Pq n.Af[i] p.Ae).Ai,.slice w.b (Pq n.Af[i] p.Ae).Ah.length w.d] [],.isv Bv (.agg #[aa (Pq n.Af[i] p.Ae).Ai,.slice w.b (Pq n.Af[i] p.Ae).Ah.length w.d]) (Pq n.Af[i] p.Ae) w.F,.ow Bc 3 (.slice w.a (Aav n.Af[i] p.Ae (Ij n.Al.Ac ((i:Nat):Int))).length w.c) (Aav n.Af[i] p.Ae (Ij n.Al.Ac ((i:Nat):Int))) w.G]) (fun _=>True) ?_ fun w _=>?_
   ·skip
    refine Ar [0,4,5] [] ?_;refine Df 0 1 2 3 ?_;refine Df 4 5 6 7 ?_;refine dM 8 12 ?_ ?_
    ·refine oC ?_;refine Bf (Adu n.Af[i] p.Ae (Ij n.Al.Ac ((i:Nat):Int)) _ Gi u.a u.c Fk EZ (fun x hx=>by have:=O5 hge hx;omega) EZ) fun s _=>?_;refine H2 ?_;rintro b3 d3 G3 es l3;rw [es];refine Gw (Pq n.Af[i] p.Ae) ?_;refine Tx Kc fun Fe=>?_;refine dk ?_;refine Dh 9 10 ?_;refine dt 11 ?_;refine dN 12 ?_;apply Cm;rfl;intro _;refine dk ?_;exact EU
    ·apply Cm;rfl;intro _;refine dk ?_;refine dN 8 ?_;refine oC ?_;refine Bf (Adu n.Af[i] p.Ae (Ij n.Al.Ac ((i:Nat):Int)) _ Gi u.a u.c Fk EZ (fun x hx=>by have:=O5 hge hx;omega) EZ) fun s _=>?_;refine H2 ?_;rintro b3 d3 G3 es l3;rw [es];refine Gw (Pq n.Af[i] p.Ae) ?_;refine Tx Kc fun Fe=>?_;refine dk ?_;refine Dh 9 10 ?_;refine dt 11 ?_;exact EU
   refine Io ?_;intros;refine Pz (E:=EC 2) (xs:=z.e.ys) [aa (Pq n.Af[i] p.Ae).Ai,.slice w.b (Pq n.Af[i] p.Ae).Ah.length w.d] hH (fun _=>⟨rfl,⟨rfl,FO⟩,rfl⟩) ?_;refine Qm (E:=Bv) (ys:=z.e.ys) (xs:=n.Af) (x:=Pq n.Af[i] p.Ae) i rfl hm EZ fun G'=>?_;refine Av (E:=Bc) (xs:=Aav n.Af[i] p.Ae (Ij n.Al.Ac ((i:Nat):Int))) fun Fk2=>?_;refine Eh (E:=An) (xs:=[p]) (Dd p hps) ?_ FB;refine Av (E:=An) (xs:=[p]) fun Fp=>?_;refine go ?_
   refine Bf (Ns n.down (Aav n.Af[i] p.Ae (Ij n.Al.Ac ((i:Nat):Int))) [p] _ _ _ _ _ _ _ _ _ _ _ _ _ _ _ _ _ _ _ _ _ _ _ _ _ z.d.ys z.d.F z.d.G _ _ Fk2 _ _ Fp (by rw [Arn hge hri];exact fun x hx=>hkx x (Aau x hx)) hd) fun y _=>?_;refine go ?_;intros;refine Cy A8 ?_;refine go ?_;refine ret (⟨⟨z.e.ys.set i [aa (Pq n.Af[i] p.Ae).Ai,.slice w.b (Pq n.Af[i] p.Ae).Ah.length w.d],[g],G'⟩,z.r,⟨y.ys,y.F,y.G⟩,z.u⟩,⟨0,_,_,_⟩) trivial rfl
  ·rw [show C8 n i p=(⟨n.Al,n.Ab,n.Af,n.Ad,Dr n.down (Ij n.Al.Ac ((i:Nat):Int)) [p],n.up⟩,[]) by unfold C8 Aek Y3;rw [aC JV,aC hk,aC hk]];refine Io ?_;intros;refine Eh (E:=An) (xs:=[p]) (Dd p hps) ?_ FB;refine Av (E:=An) (xs:=[p]) fun Fp=>?_;refine go ?_;refine Bf (Ns n.down (Ij n.Al.Ac ((i:Nat):Int)) [p] _ _ _ _ _ _ _ _ _ _ _ _ _ _ _ _ _ _ _ _ _ _ _ _ _ z.d.ys z.d.F z.d.G _ _ Fk _ _ Fp hkx hd) fun w _=>?_;refine go ?_;intros;refine Cy A8 ?_;refine go ?_;refine ret (⟨z.e,z.r,⟨w.ys,w.F,w.G⟩,z.u⟩,⟨0,_,_,_⟩) trivial rfl
structure RjS where
 g:Nat
 a:aj
 c:Nat
 a2:aj
 c2:Nat
 F:aq
structure Bao where
 a:aj
 c:Nat
 F:aq
theorem At0 (x:Cr) (n:Int) (v:Value) (F:aq) (t0:0<=x.Aa.Am) (t1:x.Aa.Am<=65535) (hm:x.holds.length<=1000) (hn:Za x.holds) (n0:-1<=n) (n1:n<=65536) :
  FV 244 [v,aa n] [.isv Ex v x F] (.tuple #[aa (Fv x.Aa.Am x.holds n:Nat),.bool (Of x.Aa.Am x.holds n)]):=by
 refine enter func244 rfl ntmps244 fun w0=>?_;refine H9 ?_;rintro a1 c1 F1 a2 c2 F2 rfl l1 l2;refine go ?_;intros;refine Em [1,2,4,5] (fun k:Nat=>[(6,aa (k:Nat))]) (fun k=>k<=x.holds.length/\∀j (_:j < k) (h:j < x.holds.length),gp x.Aa.Am x.holds[j].Ae < gp x.Aa.Am n) (fun k=>x.holds.length - k) 0 ⟨aG _,fun j h=>by omega⟩ fun k hk=>?_;obtain ⟨hk1,hk2⟩:=hk;by_cases hlt:k < x.holds.length
 ·obtain ⟨m0,m1⟩:=hn x.holds[k] (aB hlt);refine Wt (xs:=x.holds) k ?_;rintro hi b o e;rw [e];refine go ?_;refine Ar [0,1] [] ?_;refine Df 0 1 2 3 ?_;refine dt 4 ?_;rw [av (show (k:Int) < x.holds.length by omega)];refine dt 5 ?_;refine C5 6 ?_;refine C5 7 ?_;refine C5 8 ?_;refine C5 9 ?_;refine C5 10 ?_;refine C5 11 ?_;refine C5 12 ?_;refine C5 13 ?_;refine C5 14 ?_;refine C5 16 ?_;refine C5 17 ?_;refine C5 18 ?_;refine C5 19 ?_;refine d1g 15 ?_;apply On.h;refine oC ?_;refine ce (fun w s=>Jk _ _ _ EZ EZ) ?_;refine dk ?_;refine d1g 20 ?_;apply On.h
  refine oC ?_;refine ce (fun w s=>Jk _ _ _ EZ EZ) ?_;refine dk ?_;refine C5 21 ?_;refine dt 22 ?_;refine dd ?_;refine go ?_;refine A4 rfl (fun h=>?_) (fun h=>?_)
  ·refine go ?_;refine Ca (k+1) ⟨hlt,fun j hj hh=>?_⟩ EZ;rcases bc (bC.1 hj) with h2|rfl
   ·exact hk2 j h2 hh
   ·exact h
  ·have hh:Fv x.Aa.Am x.holds n=k:=Xu hk1 (fun j hj h=>av (hk2 j hj h)) (fun _=>ay h);have ht:Of x.Aa.Am x.holds n=decide (x.holds[k].Ae=n):=by unfold Of;rw [hh,aD hlt]
   rw [ht,hh];refine go ?_;refine Ar [0,1] [] ?_;refine Df 0 1 2 3 ?_;refine Dh 4 5 ?_;rw [av (show (k:Int) < x.holds.length by omega)];refine dt 6 ?_;refine C5 7 ?_;refine C5 8 ?_;refine C5 9 ?_;refine C5 10 ?_;refine C5 11 ?_;refine C5 12 ?_;refine C5 13 ?_;refine C5 14 ?_;refine Dh 15 16 ?_;refine dt 17 ?_;exact CI
 ·have hh:Fv x.Aa.Am x.holds n=k:=Xu hk1 (fun j hj h=>av (hk2 j hj h)) (fun h=>absurd h hlt);have ht:Of x.Aa.Am x.holds n=false:=by unfold Of;rw [hh,br EZ]
  rw [ht,hh];refine go ?_;refine Ar [0] [] ?_;refine Df 0 1 2 3 ?_;refine dt 4 ?_;rw [ay (show ¬(k:Int) < x.holds.length by omega)];refine dt 5 ?_;refine ds 6 ?_;refine ds 7 ?_;refine ds 8 ?_;refine ds 9 ?_;refine ds 10 ?_;refine ds 11 ?_;refine ds 12 ?_;refine ds 13 ?_;refine ds 14 ?_;refine ds 15 ?_;refine ds 16 ?_;refine ds 17 ?_;refine ds 18 ?_;refine ds 19 ?_;refine ds 20 ?_;refine ds 21 ?_;refine dt 22 ?_;refine dd ?_;refine go ?_;refine Ar [0] [] ?_;refine Df 0 1 2 3 ?_;refine Dh 4 5 ?_;rw [ay (show ¬(k:Int) < x.holds.length by omega)];refine dt 6 ?_
  refine ds 7 ?_;refine ds 8 ?_;refine ds 9 ?_;refine ds 10 ?_;refine ds 11 ?_;refine ds 12 ?_;refine ds 13 ?_;refine ds 14 ?_;refine Dh 15 16 ?_;refine dt 17 ?_;exact CI
theorem Y4 (x:Cr) (p:As) (v:Value) (F:aq) (t0:0<=x.Aa.Am) (t1:x.Aa.Am<=65535) (hl:x.Aa.Ak.length<=6) (k0:0<=x.Ai) (k1:x.Ai<=99999) (hm:x.holds.length<=900) (hn:Za x.holds) (n0:-1<=p.Ae) (n1:p.Ae<=65536) (hps:p.data.size<=maxLen) (hans:(Dp x.Aa p).1.data.size<=maxLen) :
  Fn prog 168 [v,.agg #[aa p.Cq,aa p.Ae,aa p.Am,aa p.E7,af p.data]] [.isv Ex v x F] [] (fun (_:TiS)=>True) (fun s=>.tuple #[.agg #[aa (Nd x p.Ae).Aa.Am,aa (Nd x p.Ae).Aa.size,.slice s.a (Nd x p.Ae).Aa.Ak.length s.c,aa (Nd x p.Ae).Ai,aa (Nd x p.Ae).quiet,.slice s.a2 (Nd x p.Ae).holds.length s.c2],.slice s.ae (Nk x p).length s.ce])
   (fun s=>[.isv Ex (.agg #[aa (Nd x p.Ae).Aa.Am,aa (Nd x p.Ae).Aa.size,.slice s.a (Nd x p.Ae).Aa.Ak.length s.c,aa (Nd x p.Ae).Ai,aa (Nd x p.Ae).quiet,.slice s.a2 (Nd x p.Ae).holds.length s.c2]) (Nd x p.Ae) s.F,.ow An 141 (.slice s.ae (Nk x p).length s.ce) (Nk x p) s.Fe]):=by
 refine enter func168 rfl ntmps168 fun w0=>?_;refine H9 ?_;rintro a1 c1 F1 a2 c2 F2 rfl l1 l2;refine Ct x.Aa (a1:=a1) ?_;generalize F1=F3;refine go ?_;intros
 refine D0 [2,3,4,5] [0,1,2,3,4,5,6] (fun s:RjS=>[(6,Ga s.g 0 0)]) (fun s=>[.row s.g 32 0 [] [aa x.Aa.Am,aa x.Aa.size,ab s.a x.Aa.Ak.length s.c,aa x.Ai,aa x.quiet,.slice s.a2 (Ii x.Aa x.Ai x.holds).length s.c2] [],.isv Ex (.agg #[aa x.Aa.Am,aa x.Aa.size,ab s.a x.Aa.Ak.length s.c,aa x.Ai,aa x.quiet,.slice s.a2 (Ii x.Aa x.Ai x.holds).length s.c2]) (Xz x x.Aa) s.F]) (fun _=>True) ?_ fun s _=>?_
 ·refine Io ?_;intros;refine Ar [1,2] [] ?_;refine Dh 0 1 ?_;refine dt 2 ?_;refine dM 3 5 ?_ ?_
  ·refine oC ?_;refine Bf (Sj x.Aa _ F3 t0 t1 EZ) fun y _=>?_;refine Jw ?_;rintro a5 c5 F5 e5 l5;rw [e5];refine Av (xs:=x.Aa.Ak) fun F8=>?_;refine Ct x.Aa (a1:=a5) ?_;refine dk ?_;refine dM 4 5 ?_ ?_
   ·refine oC ?_;refine Bf (S8 x x.Aa _ _ F _ t0 t1 EZ hn) fun z _=>?_;refine dk ?_;refine dN 5 ?_;apply Cm;rfl;intro _;exact BZ
   ·apply Cm;rfl;intro _;refine dk ?_;refine dN 4 ?_;refine oC ?_;refine Bf (S8 x x.Aa _ _ F _ t0 t1 EZ hn) fun z _=>?_;exact BZ
  ·apply Cm;rfl;intro _;refine dk ?_;refine dN 3 ?_;refine oC ?_;refine Bf (Sj x.Aa _ F3 t0 t1 EZ) fun y _=>?_;refine Jw ?_;rintro a5 c5 F5 e5 l5;rw [e5];refine Av (xs:=x.Aa.Ak) fun F8=>?_;refine Ct x.Aa (a1:=a5) ?_;refine dk ?_;refine dN 4 ?_;refine oC ?_;refine Bf (S8 x x.Aa _ _ F _ t0 t1 EZ hn) fun z _=>?_;exact BZ
 refine go ?_;refine cb (fun w st=>(Yc x.Aa p.Ae _ F3 t0 t1 n0 n1).val w (Iw (st.get (p:=.isv _ _ _ _) FB))) ?_;cases hb:I5 x.Aa p.Ae
 ·have e1:Nd x p.Ae=Xz x x.Aa:=by unfold Nd;rw [hb];rfl
  have e2:Nk x p=[Rm x.Aa]:=by unfold Nk;rw [hb];rfl
  rw [e1,e2];refine go ?_;refine Ar [0,4] [] ?_;refine Dh 0 1 ?_;refine dt 2 ?_;refine dN 3 ?_;refine oC ?_;refine Bf (Zz x.Aa.Am x.Aa.size _ x.Aa.Ak.length _ t0 t1 EZ) fun _ _=>?_;refine dk ?_;refine dM 4 5 ?_ ?_
  ·apply Iq;rfl;rfl;rfl;rfl;exact Ik;exact Ih;intro _;refine dk ?_;refine dN 5 ?_;refine oS ?_;exact CS
  ·refine oS ?_;refine dk ?_;refine dN 4 ?_;apply Iq;rfl;rfl;rfl;rfl;exact Ik;exact Ih;intro _;exact CS
 refine go ?_;refine Ar [3,4] [] ?_;refine Df 0 1 2 3 ?_;refine Dh 4 5 ?_;refine dt 6 ?_;refine dN 7 ?_;refine oC ?_;refine cb (fun w _=>Ta _ _ _ _ _ w t0 t1 EZ) ?_;refine dk ?_;refine dt 8 ?_;refine dN 9 ?_;apply Iq;rfl;rfl;rfl;rfl;exact Ik;exact Ih;intro _;refine dk ?_;refine dt 10 ?_;refine dd ?_;refine Io ?_;intros;refine Eh (xs:=[Aar x.Aa p.Ae]) (Dd _ GZ) ?_ FB;refine go ?_;refine Bf (At0 x p.Ae _ F t0 t1 EZ hn n0 n1) fun _ _=>?_;cases ht:Of x.Aa.Am x.holds p.Ae
 ·have e1:Nd x p.Ae=⟨x.Aa,x.Ai,x.quiet,(Ld x.holds (Fv x.Aa.Am x.holds p.Ae) ⟨p.Ae,x.Ai+3⟩)⟩:=by unfold Nd;rw [hb,ht];rfl
  have e2:Nk x p=[Aar x.Aa p.Ae]++[(Dp x.Aa p).1]:=by unfold Nk;rw [hb,ht];rfl
  rw [e1,e2];have hkk:=X8 x.Aa.Am x.holds p.Ae;refine Abn (E:=Bw) (xs:=x.holds) ?_;rintro _ _ e8 q1 q2;cases e8;refine go ?_;refine cb (fun w st=>(Ahc x.Aa p _ F3 hps).val w (Iw (st.get (p:=.isv _ _ _ _) FB))) ?_;refine go ?_;intros;refine Asi (E:=Bw) (xs:=x.holds) (Fv x.Aa.Am x.holds p.Ae) (fun FT=>?_) hkk;obtain ⟨T1,hT1⟩:∃T1,T1=x.holds.take (Fv x.Aa.Am x.holds p.Ae):=⟨_,rfl⟩;have hT1l:T1.length=Fv x.Aa.Am x.holds p.Ae:=by rw [hT1,aP];omega
  rw [<-hT1];have hAdd:T1++[⟨p.Ae,x.Ai+3⟩]++x.holds.drop (Fv x.Aa.Am x.holds p.Ae)=(Ld x.holds (Fv x.Aa.Am x.holds p.Ae) ⟨p.Ae,x.Ai+3⟩):=by rw [hT1];unfold Ld;simp
  refine D0 [4,5,6,7,10] [0,1,2,3,5,6,7,8,9,10,11,12] (fun _:Bao=>[]) (fun z=>[.row s.g 32 0 [] [aa x.Aa.Am,aa x.Aa.size,ab s.a x.Aa.Ak.length s.c,aa x.Ai,aa x.quiet,.slice z.a (Ld x.holds (Fv x.Aa.Am x.holds p.Ae) ⟨p.Ae,x.Ai+3⟩).length z.c] [],.ow Bw 191 (.slice z.a (Ld x.holds (Fv x.Aa.Am x.holds p.Ae) ⟨p.Ae,x.Ai+3⟩).length z.c) (Ld x.holds (Fv x.Aa.Am x.holds p.Ae) ⟨p.Ae,x.Ai+3⟩) z.F]) (fun _=>True) ?_ fun z _=>?_
  ·refine Io ?_;intros;refine Ar [1,8] [] ?_;refine Dh 1 2 ?_;refine dt 3 ?_;refine dt 4 ?_ (hy:=O0 (i:=T1.length) rfl rfl (by rw [hT1l]) EZ EZ);refine Df 6 9 10 11 ?_;refine Amp 12 (Fv x.Aa.Am x.holds p.Ae) (fun a6 c6 F6=>?_);refine dM 0 7 ?_ ?_
   ·apply Kg;rfl;intro _;refine Cy Bw ?_;refine dk ?_;refine dM 5 7 ?_ ?_
    ·refine Ni (ys:=T1) Is Ks fun a7 c7 F7=>?_;rw [aZ];refine dk ?_;refine dN 7 ?_;apply Iq;rfl;rfl;rfl;rfl;exact Ik;exact Ih;intro _;exact AJ
    ·apply Iq;rfl;rfl;rfl;rfl;exact Ik;exact Ih;intro _;refine dk ?_;refine dN 5 ?_;refine Ni (ys:=T1) Is Ks fun a7 c7 F7=>?_;rw [aZ];exact AJ
   ·apply Iq;rfl;rfl;rfl;rfl;exact Ik;exact Ih;intro _;refine dk ?_;refine dN 0 ?_;apply Kg;rfl;intro _;refine Cy Bw ?_;refine dk ?_;refine dN 5 ?_;refine Ni (ys:=T1) Is Ks fun a7 c7 F7=>?_;rw [aZ];exact AJ
  refine H9 (x:=Xz x x.Aa) ?_;rintro b1 d1 G1 b2 d2 G2 e5 m1 m2;simp only [Value.agg.injEq,Array.mk.injEq,List.cons.injEq,Value.slice.injEq,Value.int.injEq,cQ,cR] at e5;obtain ⟨-, -,⟨rfl, -,rfl⟩, -⟩:=e5;refine Av (E:=Bw) fun F9=>?_;refine Fb ⟨x.Aa,x.Ai,x.quiet,(Ld x.holds (Fv x.Aa.Am x.holds p.Ae) ⟨p.Ae,x.Ai+3⟩)⟩ (a1:=s.a) ?_;refine go ?_;refine Ar [4,7] [] ?_;refine Dh 0 1 ?_;refine dt 2 ?_;refine dN 3 ?_;apply Iq;rfl;rfl;rfl;rfl;exact Ik;exact Ih;intro _;refine dk ?_;refine dN 4 ?_;refine Nb (Dd (Dp x.Aa p).1 hans) Ho fun a9 c9 F9=>?_;refine dk ?_;refine dN 5 ?_;refine oS ?_
  refine dk ?_;refine dt 6 ?_;refine dd ?_;refine go ?_;refine ret ⟨s.a,s.c,z.a,z.c,_,a9,c9,F9⟩ trivial rfl
 ·have e1:Nd x p.Ae=Xz x x.Aa:=by unfold Nd;rw [hb,ht];rfl
  have e2:Nk x p=[Aar x.Aa p.Ae]:=by unfold Nk;rw [hb,ht];rfl
  rw [e1,e2];refine go ?_;refine ret ⟨s.a,s.c,s.a2,s.c2,s.F,_,_,_⟩ trivial rfl
theorem Ak0 (x:Cr) (p:As) (v:Value) (F:aq) (hg:Ck x=true) (n0:0<=p.Ae) (n1:p.Ae<=65535) (hps:p.data.size<=maxLen) :
  Fn prog 168 [v,.agg #[aa p.Cq,aa p.Ae,aa p.Am,aa p.E7,af p.data]] [.isv Ex v x F] [] (fun (_:TiS)=>True) (fun s=>.tuple #[.agg #[aa (Me x p.Ae).Aa.Am,aa (Me x p.Ae).Aa.size,.slice s.a (Me x p.Ae).Aa.Ak.length s.c,aa (Me x p.Ae).Ai,aa (Me x p.Ae).quiet,.slice s.a2 (Me x p.Ae).holds.length s.c2],.slice s.ae (Nk x p).length s.ce])
   (fun s=>[.isv Ex (.agg #[aa (Me x p.Ae).Aa.Am,aa (Me x p.Ae).Aa.size,.slice s.a (Me x p.Ae).Aa.Ak.length s.c,aa (Me x p.Ae).Ai,aa (Me x p.Ae).quiet,.slice s.a2 (Me x p.Ae).holds.length s.c2]) (Me x p.Ae) s.F,.ow An 141 (.slice s.ae (Nk x p).length s.ce) (Nk x p) s.Fe]):=by
 obtain ⟨gw,hl,t0,t1,k0,k1,hm,hn,hu,hb⟩:=J3 hg;have h:=Y4 x p v F t0 t1 hl k0 EZ EZ (Ae7 hn) EZ EZ hps (Afi gw);rw [Ayy hg] at h;exact h
structure JU where
 g:Nat
 b:aj
 d:Nat
 F:aq
theorem Bbr (n:Du) (i:Nat) (p:As) (a1:aj) (c1:Nat) (a4:aj) (c4:Nat) (a5:aj) (c5:Nat) (a6:aj) (c6:Nat) (a7:aj) (c7:Nat) (a2 a3:aj) (c2 c3:Nat) (F1 FS:aq) (z:SZ) (hl:Lj n=true) (h0:i≠0) (hi:i < n.Al.Ac.length) (h8:Lv n.Al.Ac) (hsrc:Ck n.Ab=true) (he:∀k,k≠0->k < n.Al.Ac.length->D5 n.Al.Ac (k:Nat)=false->Ba (Pk n k)=true) (hp:Bo p=true) (hps:p.data.size<=maxLen) (hd:∀q∈n.down,q.length<=6) (hu:∀q∈n.up,q.length<=6) :
  Fn prog 167 [.agg #[ab a1 n.Al.Ac.length c1,aa n.Ab.Aa.Am,aa n.Ab.Aa.size,ab a2 n.Ab.Aa.Ak.length c2,aa n.Ab.Ai,aa n.Ab.quiet,ab a3 n.Ab.holds.length c3,ab a4 n.Al.Ac.length c4,ab a5 n.Al.Ac.length c5,ab a6 n.Al.Ac.length c6,ab a7 n.Al.Ac.length c7],aa (i:Nat),.agg #[aa (p).Cq,aa (p).Ae,aa (p).Am,aa (p).E7,af (p).data]] [.sl Bc (ab a1 n.Al.Ac.length c1) n.Al.Ac F1,.isv Ex (.agg #[aa n.Ab.Aa.Am,aa n.Ab.Aa.size,ab a2 n.Ab.Aa.Ak.length c2,aa n.Ab.Ai,aa n.Ab.quiet,ab a3 n.Ab.holds.length c3]) n.Ab FS,.isv (EA Bv n.Al.Ac.length) (.agg z.e.ys.flatten.toArray) n.Af z.e.G,.isv (EA B8 n.Al.Ac.length) (.agg z.r.ys.flatten.toArray) n.Ad z.r.G,.isv (EA (Oa An FA) n.Al.Ac.length) (.agg z.d.ys.flatten.toArray) n.down z.d.G,.isv (EA (Oa An FA) n.Al.Ac.length) (.agg z.u.ys.flatten.toArray) n.up z.u.G] [.ow (EC 2) 122 (ab a4 n.Al.Ac.length c4) z.e.ys z.e.F,.ow (EC 5) 76 (ab a5 n.Al.Ac.length c5) z.r.ys z.r.F,.ow (EC 1) 125 (ab a6 n.Al.Ac.length c6) z.d.ys z.d.F,.ow (EC 1) 125 (ab a7 n.Al.Ac.length c7) z.u.ys z.u.F] (fun (_:SZ × Akk)=>True) (fun y=>.agg #[aa ((P4 n i p).Ab).Aa.Am,aa ((P4 n i p).Ab).Aa.size,.slice y.2.a ((P4 n i p).Ab).Aa.Ak.length y.2.c,aa ((P4 n i p).Ab).Ai,aa ((P4 n i p).Ab).quiet,.slice y.2.a2 ((P4 n i p).Ab).holds.length y.2.c2]) (fun y=>[.ow (EC 2) 122 (ab a4 n.Al.Ac.length c4) y.1.e.ys y.1.e.F,.ow (EC 5) 76 (ab a5 n.Al.Ac.length c5) y.1.r.ys y.1.r.F,.ow (EC 1) 125 (ab a6 n.Al.Ac.length c6) y.1.d.ys y.1.d.F,.ow (EC 1) 125 (ab a7 n.Al.Ac.length c7) y.1.u.ys y.1.u.F,.isv (EA Bv n.Al.Ac.length) (.agg y.1.e.ys.flatten.toArray) (P4 n i p).Af y.1.e.G,.isv (EA B8 n.Al.Ac.length) (.agg y.1.r.ys.flatten.toArray) (P4 n i p).Ad y.1.r.G,.isv (EA (Oa An FA) n.Al.Ac.length) (.agg y.1.d.ys.flatten.toArray) (P4 n i p).down y.1.d.G,.isv (EA (Oa An FA) n.Al.Ac.length) (.agg y.1.u.ys.flatten.toArray) (P4 n i p).up y.1.u.G,.isv Ex (.agg #[aa ((P4 n i p).Ab).Aa.Am,aa ((P4 n i p).Ab).Aa.size,.slice y.2.a ((P4 n i p).Ab).Aa.Ak.length y.2.c,aa ((P4 n i p).Ab).Ai,aa ((P4 n i p).Ab).quiet,.slice y.2.a2 ((P4 n i p).Ab).holds.length y.2.c2]) (P4 n i p).Ab y.2.F]):=by
 obtain ⟨q1,q2,q3,q4⟩:=Bg.1 hl;have hn8:=h8.n1;obtain ⟨n0,n1⟩:=Kn hp;have hone:∀x∈[((i:Nat):Int)],0<=x/\x.toNat < n.down.length:=fun x hx=>by
  rw [aM] at hx;subst hx;omega
 obtain ⟨k,hk⟩:∃k,Yu n i=k:=⟨_,rfl⟩;obtain ⟨e1,e2,e3⟩:=Ar4 h8 hi h0 hk;refine enter func167 rfl ntmps167 fun w0=>?_;refine Hy (xs:=n.Al.Ac) i ?_;rintro hi2 b o e4;rw [e4,e1];refine go ?_;intros;refine A4 rfl (fun h5=>?_) (fun h5=>?_)
 ·obtain rfl:k=0:=EZ
  rw [show P4 n i p=⟨n.Al,Me n.Ab p.Ae,n.Af,n.Ad,Dr n.down [((i:Nat):Int)] (Nk n.Ab p),n.up⟩ by unfold P4;rw [aJ hk]];refine go ?_;refine Bf (Ak0 n.Ab p _ FS hsrc n0 n1 hps) fun u _=>?_;refine Io ?_;intros;refine Eh (E:=Bc) (xs:=[((i:Nat):Int)]) (N7 _) ?_ FB;refine Av (E:=Bc) (xs:=[((i:Nat):Int)]) fun Fo=>?_;refine Av (E:=An) (xs:=Nk n.Ab p) fun Fq=>?_;refine go ?_;refine Bf (Ns n.down [((i:Nat):Int)] (Nk n.Ab p) _ _ _ _ _ _ _ _ _ _ _ _ _ _ _ _ _ _ _ _ _ _ _ _ _ z.d.ys z.d.F z.d.G _ _ Fo _ _ Fq hone hd) fun y _=>?_;refine go ?_
  refine ret (⟨⟨z.e,z.r,⟨y.ys,y.F,y.G⟩,z.u⟩,⟨u.a,u.c,u.a2,u.c2,u.F⟩⟩:SZ × Akk) trivial rfl
 have h6:k≠0:=EZ
 have hkl:k < n.Af.length:=EZ
 have hku:k < n.up.length:=EZ
 have hge:Ba n.Af[k]=true:=Jq hkl▸he k h6 EZ e3;have hel:=(Hb.1 hge).2.1;obtain ⟨hc0,hc1⟩:=Mb.1 (Hb.1 hge).1;rw [show P4 n i p=⟨n.Al,n.Ab,n.Af.set k (Nj n.Af[k] p.Ae ((i:Nat):Int)),n.Ad,Dr n.down [((i:Nat):Int)] [Zl p],if Acb n.Af[k] p.Ae then n.up.modify k fun q=>Hg q [p] else n.up⟩ by unfold P4;rw [aC EZ,hk,Jq hkl]];refine go ?_;refine Fg (ys:=z.e.ys) fun hm hlr=>?_;refine Ag9 (E:=Bv) (ys:=z.e.ys) (xs:=n.Af) k hm EZ EZ fun h2 h3 v Gi ev=>?_;refine Ew (v:=v) (x:=n.Af[k]) ?_;rintro b1 d1 G1 rfl l1
 have e8:z.e.ys[k]=[aa n.Af[k].Ai,.slice b1 n.Af[k].Ah.length d1]:=JL
 refine Rf (E:=EC 2) (xs:=z.e.ys) (m:=2) (H5 2) k ?_ FE rfl h2;rintro _ g A cs B rfl k2 k3 hH;obtain ⟨k4, -, -⟩:=k3 w0;rw [e8] at k4;subst k4;dsimp only [List.append];refine go ?_
 refine D0 [1,3,5,6,7] [0,1,2,3,4,5,6,7,8,9,10,11,12,13,14,15] (fun w:JU=>[(10,Ga w.g 0 0),(11,.bool (Acb n.Af[k] p.Ae))]) (fun w=>[.row w.g 122 0 [] [aa (Nj n.Af[k] p.Ae ((i:Nat):Int)).Ai,.slice w.b (Nj n.Af[k] p.Ae ((i:Nat):Int)).Ah.length w.d] [],.isv Bv (.agg #[aa (Nj n.Af[k] p.Ae ((i:Nat):Int)).Ai,.slice w.b (Nj n.Af[k] p.Ae ((i:Nat):Int)).Ah.length w.d]) (Nj n.Af[k] p.Ae ((i:Nat):Int)) w.F]) (fun _=>True) ?_ fun w _=>?_
 ·skip
  refine Ar [0,4,5] [] ?_;refine Df 0 1 2 3 ?_;refine Df 4 5 6 7 ?_;refine dM 8 12 ?_ ?_
  ·refine oC ?_;refine Bf (Vj n.Af[k] p.Ae ((i:Nat):Int) _ Gi EZ (fun x hx=>by have:=O5 hge hx;omega) EZ EZ) fun s _=>?_;refine H2 ?_;rintro b3 d3 G3 es l3;rw [es];refine Gw (Nj n.Af[k] p.Ae ((i:Nat):Int)) ?_;refine Tx Kc fun Fe=>?_;refine dk ?_;refine Dh 9 10 ?_;refine dt 11 ?_;refine dN 12 ?_;apply Cm;rfl;intro _;refine dk ?_;refine dN 13 ?_;refine oS ?_;refine dk ?_;refine dt 14 ?_;refine dd ?_;refine Bk (⟨_,b3,d3,Fe⟩:JU) trivial
  ·apply Cm;rfl;intro _;refine dk ?_;refine dN 8 ?_;refine oC ?_;refine Bf (Vj n.Af[k] p.Ae ((i:Nat):Int) _ Gi EZ (fun x hx=>by have:=O5 hge hx;omega) EZ EZ) fun s _=>?_;refine H2 ?_;rintro b3 d3 G3 es l3;rw [es];refine Gw (Nj n.Af[k] p.Ae ((i:Nat):Int)) ?_;refine Tx Kc fun Fe=>?_;refine dk ?_;refine Dh 9 10 ?_;refine dt 11 ?_;refine dN 13 ?_;refine oS ?_;refine dk ?_;refine dt 14 ?_;refine dd ?_;refine Bk (⟨_,b3,d3,Fe⟩:JU) trivial
 refine Io ?_;intros;refine Pz (E:=EC 2) (xs:=z.e.ys) [aa (Nj n.Af[k] p.Ae ((i:Nat):Int)).Ai,.slice w.b (Nj n.Af[k] p.Ae ((i:Nat):Int)).Ah.length w.d] hH (fun _=>⟨rfl,⟨rfl,FO⟩,rfl⟩) ?_;refine Qm (E:=Bv) (ys:=z.e.ys) (xs:=n.Af) (x:=Nj n.Af[k] p.Ae ((i:Nat):Int)) k rfl hm EZ fun G'=>?_;refine Eh (E:=Bc) (xs:=[((i:Nat):Int)]) (N7 _) ?_ FB;refine Av (E:=Bc) (xs:=[((i:Nat):Int)]) fun Fo=>?_;refine Eh (E:=An) (xs:=[Zl p]) (Dd (Zl p) (aG _)) ?_ FB;refine Av (E:=An) (xs:=[Zl p]) fun Fp=>?_;refine go ?_
 refine Bf (Ns n.down [((i:Nat):Int)] [Zl p] _ _ _ _ _ _ _ _ _ _ _ _ _ _ _ _ _ _ _ _ _ _ _ _ _ z.d.ys z.d.F z.d.G _ _ Fo _ _ Fp hone hd) fun y _=>?_;cases hf:Acb n.Af[k] p.Ae
 ·rw [aC FA];refine go ?_;refine ret (⟨⟨⟨z.e.ys.set k [aa (Nj n.Af[k] p.Ae ((i:Nat):Int)).Ai,.slice w.b (Nj n.Af[k] p.Ae ((i:Nat):Int)).Ah.length w.d],[g],G'⟩,z.r,⟨y.ys,y.F,y.G⟩,z.u⟩,⟨a2,c2,a3,c3,FS⟩⟩:SZ × Akk) trivial rfl
 ·rw [aJ rfl,H8 hku];have hu6:=hu _ (aB hku);refine go ?_;refine Fg (ys:=z.u.ys) fun hmu hlu=>?_;refine Ag8 (ys:=z.u.ys) (xs:=n.up) k hmu EZ EZ fun h9 _ Gu=>?_;refine Acg (x:=n.up[k]) fun a9 c9 e9 l9=>?_;have e10:z.u.ys[k]=[.slice a9 n.up[k].length c9]:=JQ
  refine Rf (E:=EC 1) (xs:=z.u.ys) (m:=1) (H5 1) k ?_ FE rfl h9;rintro _ gu Au cs Bu rfl j2 j3 hHu;obtain ⟨j4, -, -⟩:=j3 w0;rw [e10] at j4;subst j4;refine go ?_;refine Ar [0,14,15] [12] ?_;refine Df 0 1 2 3 ?_;refine Df 4 5 6 7 ?_;refine dt 8 ?_;refine dN 9 ?_;apply Iq;rfl;rfl;rfl;rfl;exact Ik;exact Ih;intro _;refine Eh (E:=An) (xs:=[p]) (Dd p hps) ?_ FB;refine Av (E:=An) (xs:=[p]) fun Fp2=>?_;refine dk ?_;refine dN 10 ?_;refine oC ?_;refine Bf (Agd n.up[k] [p] a9 c9 _ _ _ Fp2 EZ) fun r _=>?_;refine dk ?_;refine dt 11 ?_
  refine dN 12 ?_;refine oS ?_;refine Nm ?_;refine dd ?_;refine Pz (E:=EC 1) (xs:=z.u.ys) [.slice r.a (Hg n.up[k] [p]).length r.c] hHu (fun w=>⟨rfl,⟨rfl,FO⟩,rfl⟩) ?_;refine Av (E:=An) (xs:=Hg n.up[k] [p]) fun Fu=>?_;refine Z9 (E:=An) (x:=Hg n.up[k] [p]) FA ?_;refine Qm (E:=Oa An FA) (ys:=z.u.ys) (xs:=n.up) (x:=Hg n.up[k] [p]) k rfl hmu EZ fun Gv=>?_;refine go ?_
  refine ret (⟨⟨⟨z.e.ys.set k [aa (Nj n.Af[k] p.Ae ((i:Nat):Int)).Ai,.slice w.b (Nj n.Af[k] p.Ae ((i:Nat):Int)).Ah.length w.d],[g],G'⟩,z.r,⟨y.ys,y.F,y.G⟩,⟨z.u.ys.set k [.slice r.a (Hg n.up[k] [p]).length r.c],[gu],Gv⟩⟩,⟨a2,c2,a3,c3,FS⟩⟩:SZ × Akk) trivial rfl
structure TkZ where
 k:Nat
 z:SZ
 a:aj
 c:Nat
 F:aq
theorem Aua (n:Du) (a1:aj) (c1:Nat) (a4:aj) (c4:Nat) (a5:aj) (c5:Nat) (a6:aj) (c6:Nat) (a7:aj) (c7:Nat) (a2 a3:aj) (c2 c3:Nat) (F1 FS FT:aq) (z:SZ) (hg:At n=true) (hc:n.Ab.Ai < 9999) :
  Fn prog 165 [.agg #[ab a1 n.Al.Ac.length c1,aa n.Ab.Aa.Am,aa n.Ab.Aa.size,ab a2 n.Ab.Aa.Ak.length c2,aa n.Ab.Ai,aa n.Ab.quiet,ab a3 n.Ab.holds.length c3,ab a4 n.Al.Ac.length c4,ab a5 n.Al.Ac.length c5,ab a6 n.Al.Ac.length c6,ab a7 n.Al.Ac.length c7]] [E4 FT,.sl Bc (ab a1 n.Al.Ac.length c1) n.Al.Ac F1,.isv Ex (.agg #[aa n.Ab.Aa.Am,aa n.Ab.Aa.size,ab a2 n.Ab.Aa.Ak.length c2,aa n.Ab.Ai,aa n.Ab.quiet,ab a3 n.Ab.holds.length c3]) n.Ab FS,.isv (EA Bv n.Al.Ac.length) (.agg z.e.ys.flatten.toArray) n.Af z.e.G,.isv (EA B8 n.Al.Ac.length) (.agg z.r.ys.flatten.toArray) n.Ad z.r.G,.isv (EA (Oa An FA) n.Al.Ac.length) (.agg z.d.ys.flatten.toArray) n.down z.d.G,.isv (EA (Oa An FA) n.Al.Ac.length) (.agg z.u.ys.flatten.toArray) n.up z.u.G] [.ow (EC 2) 122 (ab a4 n.Al.Ac.length c4) z.e.ys z.e.F,.ow (EC 5) 76 (ab a5 n.Al.Ac.length c5) z.r.ys z.r.F,.ow (EC 1) 125 (ab a6 n.Al.Ac.length c6) z.d.ys z.d.F,.ow (EC 1) 125 (ab a7 n.Al.Ac.length c7) z.u.ys z.u.F] (fun (_:SZ × TiS × KA)=>True) (fun y=>.tuple #[.agg #[aa ((Gh n).1.Ab).Aa.Am,aa ((Gh n).1.Ab).Aa.size,.slice y.2.1.a ((Gh n).1.Ab).Aa.Ak.length y.2.1.c,aa ((Gh n).1.Ab).Ai,aa ((Gh n).1.Ab).quiet,.slice y.2.1.a2 ((Gh n).1.Ab).holds.length y.2.1.c2],.slice y.2.2.a (Gh n).2.length y.2.2.c]) (fun y=>[.ow (EC 2) 122 (ab a4 n.Al.Ac.length c4) y.1.e.ys y.1.e.F,.ow (EC 5) 76 (ab a5 n.Al.Ac.length c5) y.1.r.ys y.1.r.F,.ow (EC 1) 125 (ab a6 n.Al.Ac.length c6) y.1.d.ys y.1.d.F,.ow (EC 1) 125 (ab a7 n.Al.Ac.length c7) y.1.u.ys y.1.u.F,.isv (EA Bv n.Al.Ac.length) (.agg y.1.e.ys.flatten.toArray) (Gh n).1.Af y.1.e.G,.isv (EA B8 n.Al.Ac.length) (.agg y.1.r.ys.flatten.toArray) (Gh n).1.Ad y.1.r.G,.isv (EA (Oa An FA) n.Al.Ac.length) (.agg y.1.d.ys.flatten.toArray) (Gh n).1.down y.1.d.G,.isv (EA (Oa An FA) n.Al.Ac.length) (.agg y.1.u.ys.flatten.toArray) (Gh n).1.up y.1.u.G,.isv Ex (.agg #[aa ((Gh n).1.Ab).Aa.Am,aa ((Gh n).1.Ab).Aa.size,.slice y.2.1.a ((Gh n).1.Ab).Aa.Ak.length y.2.1.c,aa ((Gh n).1.Ab).Ai,aa ((Gh n).1.Ab).quiet,.slice y.2.1.a2 ((Gh n).1.Ab).holds.length y.2.1.c2]) (Gh n).1.Ab y.2.1.F,.ow A8 9 (.slice y.2.2.a (Gh n).2.length y.2.2.c) (Gh n).2 y.2.2.F]):=by
 have hG:=Ax.1 hg;have h8:=Gf hG.t;have hn8:=h8.n1;have hn2:=h8.n0;obtain ⟨q1,q2,q3,q4⟩:=Bg.1 hG.l;have hkl:=Ur n.Al.Ac 0;have hkx:∀x∈Ij n.Al.Ac 0,0<=x/\x.toNat < n.down.length:=fun x hx=>by have:=Lh (i:=0) h8 hx;omega
 have hd:∀q∈n.down,q.length<=6:=fun q hq=>(C7 ((Hz hg).2.2.1 q hq)).1;refine enter func165 rfl ntmps165 fun w0=>?_;refine Ir n.Al ?_;refine go ?_;intros;refine Bf (At2 n.Ab _ FS hG.s) fun u _=>?_;refine Av (E:=An) (xs:=Ng n.Ab.Aa n.Ab.quiet) fun Fp=>?_;refine go ?_;intros;refine Ar [4] [] ?_;refine Df 0 1 2 4 ?_;refine dN 3 ?_;refine oC ?_;refine Bf (N2 n.Al 0 _ F1 (Qb h8.z (gD _)) ⟨EZ,EZ⟩) fun v _=>?_;refine Av (E:=Bc) (xs:=Ij n.Al.Ac 0) fun Fk=>?_;refine dk ?_;refine dN 5 ?_;refine oC ?_
 refine Bf (Ns n.down (Ij n.Al.Ac 0) (Ng n.Ab.Aa n.Ab.quiet) _ _ _ _ _ _ _ _ _ _ _ _ _ _ _ _ _ _ _ _ _ _ _ _ _ z.d.ys z.d.F z.d.G _ _ Fk _ _ Fp hkx hd) fun y _=>?_;refine dk ?_;refine dd ?_;rw [show Dr n.down (Ij n.Al.Ac 0) (Ng n.Ab.Aa n.Ab.quiet)=(Bd n 0).1.down from rfl];refine go ?_;intros;refine Cy A8 ?_;refine go ?_
 refine Bx [1,2,3,4] (fun s:TkZ=>[(6,.slice s.a (Bd n s.k).2.length s.c),(7,aa ((s.k+1:Nat):Int))]) (fun s=>[.ow (EC 2) 122 (ab a4 n.Al.Ac.length c4) s.z.e.ys s.z.e.F,.ow (EC 5) 76 (ab a5 n.Al.Ac.length c5) s.z.r.ys s.z.r.F,.ow (EC 1) 125 (ab a6 n.Al.Ac.length c6) s.z.d.ys s.z.d.F,.ow (EC 1) 125 (ab a7 n.Al.Ac.length c7) s.z.u.ys s.z.u.F,.isv (EA Bv n.Al.Ac.length) (.agg s.z.e.ys.flatten.toArray) (Bd n s.k).1.Af s.z.e.G,.isv (EA B8 n.Al.Ac.length) (.agg s.z.r.ys.flatten.toArray) (Bd n s.k).1.Ad s.z.r.G,.isv (EA (Oa An FA) n.Al.Ac.length) (.agg s.z.d.ys.flatten.toArray) (Bd n s.k).1.down s.z.d.G,.isv (EA (Oa An FA) n.Al.Ac.length) (.agg s.z.u.ys.flatten.toArray) (Bd n s.k).1.up s.z.u.G,.ow A8 9 (.slice s.a (Bd n s.k).2.length s.c) (Bd n s.k).2 s.F]) (fun s=>s.k+1<=n.Al.Ac.length/\(Bd n s.k).2.length<=40000 * s.k) (fun s=>n.Al.Ac.length - s.k) ⟨0,⟨z.e,z.r,⟨y.ys,y.F,y.G⟩,z.u⟩,_,_,_⟩ ⟨by show 0+1<=_;omega,aL _⟩ fun s hs0=>?_
 obtain ⟨k,⟨⟨ye,Fe,Ge⟩,⟨yr,Fr,Gr⟩,⟨yd,Fd,Gd⟩,⟨yu,Fu,Gu⟩⟩,ea,ec,eF⟩:=s;obtain ⟨hk,hel⟩:=hs0;dsimp only at hk hel ⊢;obtain ⟨hGN,hT,hSrc⟩:=Pa hg hc k EZ;obtain ⟨r1,r2,r3,r4⟩:=Bg.1 hGN.l;rw [hT] at r1 r2 r3 r4;refine go ?_;refine A4 rfl (fun h1=>?_) (fun h1=>?_)
 ·have hj:k+1 < n.Al.Ac.length:=EZ
  obtain ⟨i1,i2,i3,i4,hrn⟩:=hGN.rn (i:=k+1) (by rw [hT];exact hj);rw [hT] at hrn;obtain ⟨d0,d1_⟩:=Ab7 (i:=k+1);refine go ?_;refine Bf (N1 n.Al ((k+1:Nat):Int) _ F1 h8 EZ) fun _ _=>?_;cases hlf:D5 n.Al.Ac ((k+1:Nat):Int)
  ·obtain ⟨hge,hck, -⟩:=hrn.hn EZ hlf;obtain ⟨hgc,hel5, -⟩:=Hb.1 hge;have hnx:Bd n (k+1)=(⟨n.Al,My n.Ab,(Bd n k).1.Af.set (k+1) (Eo (Bd n k).1.Af[k+1]),(Bd n k).1.Ad,(Bd n k).1.down,(Bd n k).1.up⟩,(Bd n k).2++[]):=by
    show ((Nf (Bd n k).1 (k+1)).1,(Bd n k).2++(Nf (Bd n k).1 (k+1)).2)=_;unfold Nf;rw [hT,hlf,aC FA,Jq i1,hSrc]
   rw [bg] at hnx;refine go ?_;refine Fg (ys:=ye) fun hm hlr=>?_;refine Ag9 (E:=Bv) (ys:=ye) (xs:=(Bd n k).1.Af) (k+1) hm EZ EZ fun h2 h3 v Gi ev=>?_;generalize hE:(Bd n k).1.Af[k+1]=E at *;refine Ew (v:=v) (x:=E) ?_;rintro b1 d1 G1 rfl l1;have e8:ye[k+1]=[aa E.Ai,ab b1 E.Ah.length d1]:=JL
   refine Rf (E:=EC 2) (xs:=ye) (m:=2) (H5 2) (k+1) ?_ FE rfl h2;rintro _ g A cs B rfl k2 k3 hH;obtain ⟨k4, -, -⟩:=k3 w0;rw [e8] at k4;subst k4;dsimp only [List.append];refine go ?_;refine Ar [0,16] [10] ?_;refine Df 0 1 2 3 ?_;refine Df 4 5 6 7 ?_;refine dN 8 ?_;refine oC ?_;refine cr (fun w st=>Ajd _ E Gi w (st.get (p:=.isv _ _ _ _) FD) hgc EZ (fun x hx=>by have:=O5 hge hx;omega)) fun v3 FU=>?_;refine Ew (v:=v3) ?_;rintro b3 d3 G3 rfl l3;refine dk ?_;refine dt 9 ?_;refine dN 10 ?_;refine oS ?_;refine Nm ?_;refine dd ?_
   refine Pz (E:=EC 2) (xs:=ye) [aa (Eo E).Ai,.slice b3 (Eo E).Ah.length d3] hH (fun _=>⟨rfl,⟨rfl,FO⟩,rfl⟩) ?_;refine Qm (E:=Bv) (ys:=ye) (xs:=(Bd n k).1.Af) (x:=Eo E) (k+1) rfl hm EZ fun G'=>?_;refine go ?_;refine Ca ⟨k+1,⟨⟨ye.set (k+1) [aa (Eo E).Ai,.slice b3 (Eo E).Ah.length d3],[g],G'⟩,⟨yr,Fr,Gr⟩,⟨yd,Fd,Gd⟩,⟨yu,Fu,Gu⟩⟩,ea,ec,eF⟩ ⟨JH,by rw [hnx];dsimp only;omega⟩ GC GH GG
  ·obtain ⟨-,hgr0,hck⟩:=hrn.hf EZ hlf;have hgr:=Ej.1 hgr0;obtain ⟨hsm,hfew⟩:=Ac9 hgr;have hnx:Bd n (k+1)=(⟨n.Al,My n.Ab,(Bd n k).1.Af,(Bd n k).1.Ad.set (k+1) (C1 (Bd n k).1.Ad[k+1] (M0 (k+1))),(Bd n k).1.down,(Bd n k).1.up.set (k+1) (Hg (Bd n k).1.up[k+1] (E9 (Bd n k).1.Ad[k+1]))⟩,(Bd n k).2++T6 (k+1) (Hh (Bd n k).1.Ad[k+1])):=by
    show ((Nf (Bd n k).1 (k+1)).1,(Bd n k).2++(Nf (Bd n k).1 (k+1)).2)=_;unfold Nf;rw [hT,hlf,aJ rfl,Gp i2,hSrc,H8 i4]
   have htl:(T6 (k+1) (Hh (Bd n k).1.Ad[k+1])).length=(Hh (Bd n k).1.Ad[k+1]).length:=bf ..;have hu6:=(C7 hrn.hu).1;generalize hR:(Bd n k).1.Ad[k+1]=R at *;generalize hQ:(Bd n k).1.up[k+1]=Q at *;refine go ?_;refine Fg (ys:=yr) fun hm hlr=>?_;refine Ag9 (E:=B8) (ys:=yr) (xs:=(Bd n k).1.Ad) (k+1) hm EZ EZ fun h2 h3 v Gi ev=>?_;rw [hR];refine Hf (v:=v) (x:=R) ?_;rintro b1 d1 G1 b2 d2 G2 rfl l1 l2;have e8:yr[k+1]=[.bool (R).Be,aa (R).Ai,aa (R).Aa.next,.slice b1 (R).Aa.Ap.length d1,.slice b2 (R).Ao.length d2]:=JL
   refine Rf (E:=EC 5) (xs:=yr) (m:=5) (H5 5) (k+1) ?_ FE rfl h2;rintro _ g A cs B rfl k2 k3 hH;obtain ⟨k4, -, -⟩:=k3 w0;rw [e8] at k4;subst k4;dsimp only [List.append];refine go ?_
   refine D0 [1,2,3,4,6,7] [0,1,2,3,4,5,6,7,8,9,10,11,12,13,14,15,16,17,18,19,20,21,22] (fun w:Nat × TkR=>[(8,Ga w.1 0 0),(9,.slice w.2.a3 (E9 R).length w.2.c3),(10,.slice w.2.a4 (Hh R).length w.2.c4)]) (fun w=>[.row w.1 76 0 [] [.bool (C1 R (M0 (k+1))).Be,aa (C1 R (M0 (k+1))).Ai,aa (C1 R (M0 (k+1))).Aa.next,.slice w.2.a1 (C1 R (M0 (k+1))).Aa.Ap.length w.2.c1,.slice w.2.a2 (C1 R (M0 (k+1))).Ao.length w.2.c2] [],.isv B8 (.agg #[.bool (C1 R (M0 (k+1))).Be,aa (C1 R (M0 (k+1))).Ai,aa (C1 R (M0 (k+1))).Aa.next,.slice w.2.a1 (C1 R (M0 (k+1))).Aa.Ap.length w.2.c1,.slice w.2.a2 (C1 R (M0 (k+1))).Ao.length w.2.c2]) (C1 R (M0 (k+1))) w.2.F1,.ow An 141 (.slice w.2.a3 (E9 R).length w.2.c3) (E9 R) w.2.F3,.ow A8 9 (.slice w.2.a4 (Hh R).length w.2.c4) (Hh R) w.2.F4]) (fun _=>True) ?_ fun w _=>?_
   ·skip
    refine Ar [0,17] [] ?_;refine Df 0 1 2 3 ?_;refine Dh 4 5 ?_;refine dM 6 12 ?_ ?_
    ·refine oC ?_;refine Bf (Vk (k+1) EZ) fun _ _=>?_;refine dk ?_;refine dM 7 12 ?_ ?_
     ·refine oC ?_;refine Bf (Ack R (M0 (k+1)) _ Gi hgr EZ EZ (by have:=hgr.k1;omega)) fun s _=>?_;refine dk ?_;refine Df 8 9 10 11 ?_;refine dN 12 ?_;apply Cm;rfl;intro _;refine dk ?_;refine dN 13 ?_;refine oS ?_;refine dk ?_;refine Dh 14 15 ?_;refine dd ?_;refine Bk (⟨_,s⟩:Nat × TkR) trivial
     ·apply Cm;rfl;intro _;exact BR
    ·apply Cm;rfl;intro _;refine dk ?_;refine dN 6 ?_;refine oC ?_;refine Bf (Vk (k+1) EZ) fun _ _=>?_;exact BR
   obtain ⟨gr,s⟩:=w;dsimp only;refine Io ?_;intros;refine Pz (E:=EC 5) (xs:=yr) [.bool (C1 R (M0 (k+1))).Be,aa (C1 R (M0 (k+1))).Ai,aa (C1 R (M0 (k+1))).Aa.next,.slice s.a1 (C1 R (M0 (k+1))).Aa.Ap.length s.c1,.slice s.a2 (C1 R (M0 (k+1))).Ao.length s.c2] hH (fun _=>⟨rfl,⟨rfl,FO⟩,rfl⟩) ?_;refine Qm (E:=B8) (ys:=yr) (xs:=(Bd n k).1.Ad) (x:=C1 R (M0 (k+1))) (k+1) rfl hm EZ fun G'=>?_;refine Av (E:=An) (xs:=E9 R) fun Fp9=>?_;refine Fg (ys:=yu) fun hmu hlu=>?_;refine Ag8 (ys:=yu) (xs:=(Bd n k).1.up) (k+1) hmu EZ EZ fun h9 _ Gq=>?_;rw [hQ]
   refine Acg (x:=Q) fun a9 c9 e9 l9=>?_;have e10:yu[k+1]=[ab a9 Q.length c9]:=JQ
   refine Rf (E:=EC 1) (xs:=yu) (m:=1) (H5 1) (k+1) ?_ FE rfl h9;rintro _ gu Au cs Bu rfl j2 j3 hHu;obtain ⟨j4, -, -⟩:=j3 w0;rw [e10] at j4;subst j4;refine go ?_;refine Ar [0,24] [11] ?_;refine Df 0 1 2 3 ?_;refine Df 4 5 6 7 ?_;refine dt 8 ?_;refine dN 9 ?_;refine oC ?_;refine Bf (Agd Q (E9 R) a9 c9 _ _ _ Fp9 EZ) fun r _=>?_;refine dk ?_;refine dt 10 ?_;refine dN 11 ?_;refine oS ?_;refine Nm ?_;refine dd ?_;refine Pz (E:=EC 1) (xs:=yu) [.slice r.a (Hg Q (E9 R)).length r.c] hHu (fun _=>⟨rfl,⟨rfl,FO⟩,rfl⟩) ?_
   refine Av (E:=An) (xs:=Hg Q (E9 R)) fun Fu=>?_;refine Z9 (E:=An) (x:=Hg Q (E9 R)) FA ?_;refine Qm (E:=Oa An FA) (ys:=yu) (xs:=(Bd n k).1.up) (x:=Hg Q (E9 R)) (k+1) rfl hmu EZ fun Gv=>?_;refine Av (E:=A8) (xs:=Hh R) fun F7=>?_;refine go ?_;refine Bf (Aje (k+1) (Hh R) _ _ F7 FT EZ EZ hsm) fun u9 _=>?_;refine Av (E:=A8) (xs:=T6 (k+1) (Hh R)) fun F8=>?_;apply wO;refine Ni (E:=A8) (xs:=(Bd n k).2) (ys:=T6 (k+1) (Hh R)) Do Hv fun ax cx Fx=>?_;refine go ?_
   refine Ca ⟨k+1,⟨⟨ye,Fe,Ge⟩,⟨yr.set (k+1) [.bool (C1 R (M0 (k+1))).Be,aa (C1 R (M0 (k+1))).Ai,aa (C1 R (M0 (k+1))).Aa.next,.slice s.a1 (C1 R (M0 (k+1))).Aa.Ap.length s.c1,.slice s.a2 (C1 R (M0 (k+1))).Ao.length s.c2],[g],G'⟩,⟨yd,Fd,Gd⟩,⟨yu.set (k+1) [.slice r.a (Hg Q (E9 R)).length r.c],[gu],Gv⟩⟩,ax,cx,Fx⟩ ⟨JH,by rw [hnx];dsimp only;rw [aA,htl];omega⟩ GC GH GG
 ·have hke:n.Al.Ac.length - 1=k:=EZ
  rw [show Gh n=Bd n k by unfold Gh;rw [hke],hSrc];refine go ?_;refine ret (⟨⟨⟨ye,Fe,Ge⟩,⟨yr,Fr,Gr⟩,⟨yd,Fd,Gd⟩,⟨yu,Fu,Gu⟩⟩,u,⟨0,ea,ec,eF⟩⟩:SZ × TiS × KA) trivial rfl
structure OwN where
 g:Nat
 a1:aj
 c1:Nat
 F1:aq
 s:Akk
structure OwK where
 k:Nat
 a4:aj
 c4:Nat
 F4:aq
 a5:aj
 c5:Nat
 F5:aq
 a6:aj
 c6:Nat
 F6:aq
 a7:aj
 c7:Nat
 F7:aq
theorem Uw:One (Ki An 141):=fun h u hu=>by
 obtain ⟨v,rfl,h⟩:=h;obtain rfl:=aM.1 hu;rcases h with ⟨rfl, -, -⟩|⟨b,cap,cs,rest,G,rfl, -⟩ <;> rfl
theorem Aq9 {x:Cr} (hg:Ck x=true):Ao2 x x.Aa=x:=by
 obtain ⟨gw,hl,t0,t1,k0,k1,hm,hn,hu,hb⟩:=J3 hg;unfold Ao2;rw [<-Xc hu,Zv hg]
theorem Ang (n:Du) (v:Value) (F:aq) (hg:At n=true):Fn prog 162 [v] [.isv Pb v n F] [] (fun (_:OwN × OwK)=>True) (fun z=>.agg #[ab z.1.a1 n.Al.Ac.length z.1.c1,aa (n.Ab).Aa.Am,aa (n.Ab).Aa.size,.slice z.1.s.a (n.Ab).Aa.Ak.length z.1.s.c,aa (n.Ab).Ai,aa (n.Ab).quiet,.slice z.1.s.a2 (n.Ab).holds.length z.1.s.c2,.slice z.2.a4 (n.Af).length z.2.c4,.slice z.2.a5 (n.Ad).length z.2.c5,.slice z.2.a6 (n.down).length z.2.c6,.slice z.2.a7 (n.up).length z.2.c7]) (fun z=>[.ow Bc 3 (ab z.1.a1 n.Al.Ac.length z.1.c1) n.Al.Ac z.1.F1,.isv Ex (.agg #[aa (n.Ab).Aa.Am,aa (n.Ab).Aa.size,.slice z.1.s.a (n.Ab).Aa.Ak.length z.1.s.c,aa (n.Ab).Ai,aa (n.Ab).quiet,.slice z.1.s.a2 (n.Ab).holds.length z.1.s.c2]) n.Ab z.1.s.F,.ow Ce 122 (.slice z.2.a4 (n.Af).length z.2.c4) (n.Af) z.2.F4,.ow B9 76 (.slice z.2.a5 (n.Ad).length z.2.c5) (n.Ad) z.2.F5,.ow (Ki An 141) 125 (.slice z.2.a6 (n.down).length z.2.c6) (n.down) z.2.F6,.ow (Ki An 141) 125 (.slice z.2.a7 (n.up).length z.2.c7) (n.up) z.2.F7]):=by
 have hG:=Ax.1 hg;have h8:=(Gf hG.t).n1;have hS:=J3 hG.s;have hSl:=hS.l;have hSm:=hS.m;obtain ⟨q1,q2,q3,q4⟩:=Bg.1 hG.l;obtain ⟨g1,g2,g3,g4⟩:=Hz hg;refine enter func162 rfl ntmps162 fun w0=>?_;refine Fm ?_;rintro a1 c1 F1 a2 c2 F2 a3 c3 F3 a4 c4 F4 a5 c5 F5 a6 c6 F6 a7 c7 F7 rfl l1 l2 l3 l4 l5 l6 l7;refine Fb n.Ab ?_;refine Ct n.Ab.Aa (a1:=a2) ?_;have hW:=fun vw Fw=>At3 n.Ab n.Ab.Aa (.agg #[aa n.Ab.Aa.Am,aa n.Ab.Aa.size,ab a2 n.Ab.Aa.Ak.length c2,aa n.Ab.Ai,aa n.Ab.quiet,ab a3 n.Ab.holds.length c3]) vw (F2++F3) Fw hS.t0 hS.t1 EZ hS.n hS.u
 rw [Aq9 hG.s,show Nq n.Ab.Aa n.Ab.holds=n.Ab.holds by rw [<-Xc hS.u,Zv hG.s]] at hW;refine go ?_;intros
 refine D0 [1,2] [0,1,2,3,4,5,6,7,8,9,10,11] (fun w:OwN=>[(3,Ga w.g 0 0)]) (fun w=>[.row w.g 37 0 [] [ab w.a1 n.Al.Ac.length w.c1,aa (n.Ab).Aa.Am,aa (n.Ab).Aa.size,.slice w.s.a (n.Ab).Aa.Ak.length w.s.c,aa (n.Ab).Ai,aa (n.Ab).quiet,.slice w.s.a2 (n.Ab).holds.length w.s.c2,ab none 0 0,ab none 0 0,ab none 0 0,ab none 0 0] [],.ow Bc 3 (ab w.a1 n.Al.Ac.length w.c1) n.Al.Ac w.F1,.isv Ex (.agg #[aa (n.Ab).Aa.Am,aa (n.Ab).Aa.size,.slice w.s.a (n.Ab).Aa.Ak.length w.s.c,aa (n.Ab).Ai,aa (n.Ab).quiet,.slice w.s.a2 (n.Ab).holds.length w.s.c2]) n.Ab w.s.F]) (fun _=>True) ?_ fun w _=>?_
 ·skip
  refine Ar [1] [] ?_;refine Df 0 1 2 5 ?_;refine Df 6 7 8 9 ?_;refine dM 3 13 ?_ ?_
  ·refine oC ?_;refine cn (fun w st=>X9 _ n.Al.Ac F1 w (st.get (p:=.sl _ _ _ _) FD).2 EZ) fun b1 d1 G1=>?_;refine dk ?_;refine dt 4 ?_;refine dM 10 13 ?_ ?_
   ·refine oC ?_;refine Bf (Sj n.Ab.Aa _ F2 hS.t0 hS.t1 EZ) fun y _=>?_;refine Jw ?_;rintro a9 c9 F9 e9 l9;rw [e9];refine Av (xs:=n.Ab.Aa.Ak) fun F8=>?_;refine Ct n.Ab.Aa (a1:=a9) ?_;refine dk ?_;refine dM 11 13 ?_ ?_
    ·refine oC ?_;refine Bf (hW _ F8) fun s _=>?_;refine dk ?_;refine dt 12 ?_;refine dN 13 ?_;apply Cm;rfl;intro _;refine dk ?_;refine dN 14 ?_;refine oS ?_;refine dk ?_;refine dd ?_;refine Bk (⟨_,b1,d1,G1,s⟩:OwN) trivial
    ·apply Cm;rfl;intro _;exact CT
   ·apply Cm;rfl;intro _;refine dk ?_;refine dN 10 ?_;refine oC ?_;refine Bf (Sj n.Ab.Aa _ F2 hS.t0 hS.t1 EZ) fun y _=>?_;refine Jw ?_;rintro a9 c9 F9 e9 l9;rw [e9];refine Av (xs:=n.Ab.Aa.Ak) fun F8=>?_;refine Ct n.Ab.Aa (a1:=a9) ?_;exact CT
  ·apply Cm;rfl;intro _;refine dk ?_;refine dN 3 ?_;refine oC ?_;refine cn (fun w st=>X9 _ n.Al.Ac F1 w (st.get (p:=.sl _ _ _ _) FD).2 EZ) fun b1 d1 G1=>?_;refine dk ?_;refine dt 4 ?_;refine dN 10 ?_;refine oC ?_;refine Bf (Sj n.Ab.Aa _ F2 hS.t0 hS.t1 EZ) fun y _=>?_;refine Jw ?_;rintro a9 c9 F9 e9 l9;rw [e9];refine Av (xs:=n.Ab.Aa.Ak) fun F8=>?_;refine Ct n.Ab.Aa (a1:=a9) ?_;refine dk ?_;refine dN 11 ?_;refine oC ?_;refine Bf (hW _ F8) fun s _=>?_;refine dk ?_;refine dt 12 ?_;refine dN 14 ?_;refine oS ?_;refine dk ?_;refine dd ?_
   refine Bk (⟨_,b1,d1,G1,s⟩:OwN) trivial
 refine Cf Ce 122 ?_;refine Cf B9 76 ?_;refine Cf (Ki An 141) 125 ?_;refine Cf (Ki An 141) 125 ?_;refine go ?_
 refine Bx [1,2,3] (fun y:OwK=>[(4,aa (y.k:Nat))]) (fun y=>[.row w.g 37 0 [] [ab w.a1 n.Al.Ac.length w.c1,aa (n.Ab).Aa.Am,aa (n.Ab).Aa.size,.slice w.s.a (n.Ab).Aa.Ak.length w.s.c,aa (n.Ab).Ai,aa (n.Ab).quiet,.slice w.s.a2 (n.Ab).holds.length w.s.c2,.slice y.a4 (n.Af.take y.k).length y.c4,.slice y.a5 (n.Ad.take y.k).length y.c5,.slice y.a6 (n.down.take y.k).length y.c6,.slice y.a7 (n.up.take y.k).length y.c7] [],.ow Ce 122 (.slice y.a4 (n.Af.take y.k).length y.c4) (n.Af.take y.k) y.F4,.ow B9 76 (.slice y.a5 (n.Ad.take y.k).length y.c5) (n.Ad.take y.k) y.F5,.ow (Ki An 141) 125 (.slice y.a6 (n.down.take y.k).length y.c6) (n.down.take y.k) y.F6,.ow (Ki An 141) 125 (.slice y.a7 (n.up.take y.k).length y.c7) (n.up.take y.k) y.F7]) (fun y=>y.k<=n.Af.length) (fun y=>n.Af.length - y.k) ⟨0,none,0,[],none,0,[],none,0,[],none,0,[]⟩ (aG _) fun y hy=>?_
 refine go ?_;refine A4 rfl (fun h1=>?_) (fun h1=>?_)
 ·have hk:y.k < n.Af.length:=EZ
  have hk5:y.k < n.Ad.length:=EZ
  have hk6:y.k < n.down.length:=EZ
  have hk7:y.k < n.up.length:=EZ
  have t4:(n.Af.take y.k).length<=8:=GE
  have t5:(n.Ad.take y.k).length<=8:=GE
  have t6:(n.down.take y.k).length<=8:=GE
  have t7:(n.up.take y.k).length<=8:=GE
  have hge:=g1 _ (aB hk);have hel:=(Hb.1 hge).2.1;have hgr:=Ej.1 (g2 _ (aB hk5));have hrs:=(Ko hgr.w).1;have hrq:=(Dj.1 hgr.q).2.1;have hd6:=(C7 (g3 _ (aB hk6))).1;have hu6:=(C7 (g4 _ (aB hk7))).1;refine P6 (xs:=n.Af) y.k ?_;rintro hi4 b4 o4 a8 c8 F8 e4 l8;rw [e4];refine Gc n.Af[y.k] ?_;dsimp only [List.append];refine go ?_;refine Ar [1,3,11] [11] ?_;refine Df 0 1 2 3 ?_;refine Dh 4 5 ?_;refine dt 6 ?_;refine dN 7 ?_;refine oC ?_
  refine cv (fun w2 st=>Xd _ n.Af[y.k] F8 w2 (st.get (p:=.isv _ _ _ _) FD) EZ (fun x hx=>by have:=O5 hge hx;omega)) fun v9 F9=>?_;refine H2 (x:=n.Af[y.k]) ?_;rintro a9 c9 F10 rfl l9;refine Gw n.Af[y.k] ?_;refine dk ?_;refine dN 8 ?_;apply Iq;rfl;rfl;rfl;rfl;exact Ik;exact Ih;intro _;refine dk ?_;refine dN 9 ?_;refine Ab0 Rw n.Af[y.k] rfl fun x4 d4 G4=>?_;refine dk ?_;refine dt 10 ?_;refine dN 11 ?_;refine oS ?_;refine Nm ?_;refine dd ?_;rw [<-aO hk];refine I8 (xs:=n.Ad) y.k ?_;rintro hi5 b5 o5 a11 c11 F11 a12 c12 F12 e5 l11 l12;rw [e5]
  refine Ep n.Ad[y.k] ?_;dsimp only [List.append];refine go ?_;refine Ar [1,8,15] [11] ?_;refine Df 0 1 2 3 ?_;refine Dh 4 5 ?_;refine dt 6 ?_;refine dN 7 ?_;refine oC ?_;refine Bf (S9 n.Ad[y.k] _ _ EZ EZ) fun s9 _=>?_;refine Im (x:=n.Ad[y.k]) ?_;rintro a9 c9 G9 a10 c10 G10 e9 l9 l10;rw [e9];refine Kk n.Ad[y.k] ?_;refine dk ?_;refine dN 8 ?_;apply Iq;rfl;rfl;rfl;rfl;exact Ik;exact Ih;intro _;refine dk ?_;refine dN 9 ?_;refine Ab0 Qr n.Ad[y.k] rfl fun x5 d5 G5=>?_;refine dk ?_;refine dt 10 ?_;refine dN 11 ?_;refine oS ?_;refine Nm ?_;refine dd ?_
  rw [<-aO hk5];refine Oc (E:=An) (hz:=FA) (xs:=n.down) y.k ?_;rintro hi6 b6 o6 a13 c13 F13 e6 l13;rw [e6];refine go ?_;refine Ar [0,11,17] [12] ?_;refine Df 0 1 3 4 ?_;refine Dh 5 6 ?_;refine dt 7 ?_;refine dN 2 ?_;apply Kg;rfl;intro _;refine Cy An ?_;refine dk ?_;refine dN 8 ?_;refine Ni Ho Jm fun a9 c9 F9=>?_;rw [aZ];refine Kl n.down[y.k] ?_;refine dk ?_;refine dN 9 ?_;apply Iq;rfl;rfl;rfl;rfl;exact Ik;exact Ih;intro _;refine dk ?_;refine dN 10 ?_;refine Ab0 (Uw) n.down[y.k] rfl fun x6 d6 G6=>?_;refine dk ?_;refine dt 11 ?_;refine dN 12 ?_
  refine oS ?_;refine Nm ?_;refine dd ?_;rw [<-aO hk6];refine Oc (E:=An) (hz:=FA) (xs:=n.up) y.k ?_;rintro hi7 b7 o7 a14 c14 F14 e7 l14;rw [e7];refine go ?_;refine Ar [0,14,19] [12] ?_;refine Df 0 1 3 4 ?_;refine Dh 5 6 ?_;refine dt 7 ?_;refine dN 2 ?_;apply Kg;rfl;intro _;refine Cy An ?_;refine dk ?_;refine dN 8 ?_;refine Ni Ho Jm fun a9 c9 F9=>?_;rw [aZ];refine Kl n.up[y.k] ?_;refine dk ?_;refine dN 9 ?_;apply Iq;rfl;rfl;rfl;rfl;exact Ik;exact Ih;intro _;refine dk ?_;refine dN 10 ?_;refine Ab0 (Uw) n.up[y.k] rfl fun x7 d7 G7=>?_;refine dk ?_
  refine dt 11 ?_;refine dN 12 ?_;refine oS ?_;refine Nm ?_;refine dd ?_;rw [<-aO hk7];refine go ?_;refine Ca ⟨y.k+1,x4,d4,G4,x5,d5,G5,x6,d6,G6,x7,d7,G7⟩ hk (by show n.Af.length - (y.k+1) < n.Af.length - y.k;omega)
 ·rw [show n.Af.take y.k=n.Af from aV EZ,show n.Ad.take y.k=n.Ad from aV EZ,show n.down.take y.k=n.down from aV EZ,show n.up.take y.k=n.up from aV EZ];refine go ?_;refine ret (⟨w,y⟩:OwN × OwK) trivial rfl
end Go.Proofs.YtkoldibamfjghaaGreatDoor
namespace Go.Proofs.YtkoldibamfjghaaGreatDoor
open Go.RowKit
open Go.RowKit
theorem Aiw {α:Type} {O R:Bt α} (hW:Mq O R) {w:World}:∀{xs:List α} {cs:am} {G:aq},Cz O w cs xs G->∃G',(∀b∈G',b∈G)/\Cz R w cs xs G'
 | [],_,_,h=>⟨[],FB,h.1,rfl⟩
 | x::r,_,_,h=>by
  obtain ⟨c1,c2,F1,F2,rfl,rfl,h1,h2⟩:=h;obtain ⟨G1,s1,r1⟩:=hW.L8 h1;obtain ⟨G2,s2,r2⟩:=Aiw hW h2;exact ⟨G1++G2,fun b hb=>by rcases aK.1 hb with hb|hb;simp [s1 b hb];simp [s2 b hb],c1,c2,G1,G2,rfl,rfl,r1,r2⟩
theorem Lc.skip {x:Pc}:∀{B A:List Pc},Lc A B->Lc (x::A) B
 | _,_,.nil=>.nil
 | _,_,.cons hp hr=>.cons (.there hp) hr.skip
theorem Lc.all:∀A:List Pc,Lc A A
 | []=>.nil
 | _::A=>.cons .here (Lc.all A)
section
variable {c:Cx} {fr:Fr} {H:List Pc} {Φ:Gl}
theorem Ae2 {α:Type} {O R:Bt α} (hW:Mq O R) {cs:am} {xs:List α} {G:aq} {S:List Pc} (h:∀G',T c fr (.isv (EA R xs.length) (.agg cs.toArray) xs G'::S) Φ) (hp:C2 H (.flat O cs xs G) S:=by exact Dt):T c fr H Φ:=.mk fun a w s g=>by
 have s1:=s.pick hp;obtain ⟨-,ho⟩:=s1.on (.flat O cs xs G) FB;obtain ⟨G',hG,hf⟩:=Aiw hW ho;exact (h G').h a w (s1.conv rfl ⟨_,rfl,rfl,hf⟩ hG) g
theorem Zo (m:Du) {l:ar} {N:Nat} (hT:m.Al.Ac=l) (hN:N=l.length) (hl:Lj m=true) {a1 a2 a3 a4 a5 a6 a7:aj} {c1 c2 c3 c4 c5 c6 c7:Nat} {F1 FS F4 G4 F5 G5 F6 G6 F7 G7:aq} {ys4 ys5 ys6 ys7:List (am)} (h4:ys4.length=N) (h5:ys5.length=N) (h6:ys6.length=N) (h7:ys7.length=N)
  (h:∀F,T c fr (.isv Pb (.agg #[ab a1 N c1,aa m.Ab.Aa.Am,aa m.Ab.Aa.size,ab a2 m.Ab.Aa.Ak.length c2,aa m.Ab.Ai,aa m.Ab.quiet,ab a3 m.Ab.holds.length c3,ab a4 N c4,ab a5 N c5,ab a6 N c6,ab a7 N c7]) m F::H) Φ) (p1:.sl Bc (ab a1 N c1) l F1∈H:=by exact Bl) (p2:.isv Ex (.agg #[aa m.Ab.Aa.Am,aa m.Ab.Aa.size,ab a2 m.Ab.Aa.Ak.length c2,aa m.Ab.Ai,aa m.Ab.quiet,ab a3 m.Ab.holds.length c3]) m.Ab FS∈H:=by exact Bl) (p4:.sl (EC 2) (ab a4 N c4) ys4 F4∈H:=by exact Bl) (q4:.isv (EA (Bv) N) (.agg ys4.flatten.toArray) m.Af G4∈H:=by exact Bl) (p5:.sl (EC 5) (ab a5 N c5) ys5 F5∈H:=by exact Bl) (q5:.isv (EA (B8) N) (.agg ys5.flatten.toArray) m.Ad G5∈H:=by exact Bl) (p6:.sl (EC 1) (ab a6 N c6) ys6 F6∈H:=by exact Bl) (q6:.isv (EA (Oa An FA) N) (.agg ys6.flatten.toArray) m.down G6∈H:=by exact Bl) (p7:.sl (EC 1) (ab a7 N c7) ys7 F7∈H:=by exact Bl) (q7:.isv (EA (Oa An FA) N) (.agg ys7.flatten.toArray) m.up G7∈H:=by exact Bl):T c fr H Φ:=by
 obtain ⟨e1,e2,e3,e4⟩:=Bg.1 hl;subst hT hN;refine H9 (hm:=p2) ?_;rintro b2 d2 F2 b3 d3 F3 ev - -;have ev2:=ev;simp only [Value.agg.injEq,Array.mk.injEq,List.cons.injEq,Value.slice.injEq,cQ,cR] at ev2;obtain ⟨⟨rfl,rfl⟩,rfl,rfl⟩:=ev2;refine Ps (E:=Bv) (xs:=m.Af) rfl EZ rfl (fun F8=>?_) (.tail _ (.tail _ p4)) (.tail _ (.tail _ q4));refine Ps (E:=B8) (xs:=m.Ad) rfl EZ rfl (fun F9=>?_) (.tail _ (.tail _ (.tail _ p5))) (.tail _ (.tail _ (.tail _ q5)))
 refine Ps (E:=Oa An FA) (xs:=m.down) rfl EZ rfl (fun F10=>?_) (.tail _ (.tail _ (.tail _ (.tail _ p6)))) (.tail _ (.tail _ (.tail _ (.tail _ q6))));refine Ps (E:=Oa An FA) (xs:=m.up) rfl EZ rfl (fun F11=>?_) (.tail _ (.tail _ (.tail _ (.tail _ (.tail _ p7))))) (.tail _ (.tail _ (.tail _ (.tail _ (.tail _ q7)))))
 refine Es m (a1:=a1) (c1:=c1) (F1:=F1) (a2:=a2) (c2:=c2) (F2:=F2) (a3:=a3) (c3:=c3) (F3:=F3) (a4:=a4) (c4:=c4) (F4:=F8) (a5:=a5) (c5:=c5) (F5:=F9) (a6:=a6) (c6:=c6) (F6:=F10) (a7:=a7) (c7:=c7) (F7:=F11) ?_ (.tail _ (.tail _ (.tail _ (.tail _ (.tail _ (.tail _ p1)))))) (.tail _ (.tail _ (.tail _ (.tail _ (.head _))))) (.tail _ (.tail _ (.tail _ (.tail _ (.tail _ (.head _)))))) (by rw [e1];exact .tail _ (.tail _ (.tail _ (.head _)))) (by rw [e2];exact .tail _ (.tail _ (.head _))) (by rw [e3];exact .tail _ (.head _)) (by rw [e4];exact .head _);rw [e1,e2,e3,e4]
 exact Bgo _ (h _) (.cons .here (Lc.skip (Lc.skip (Lc.skip (Lc.skip (Lc.skip (Lc.skip (Lc.all H))))))))
end
end Go.Proofs.YtkoldibamfjghaaGreatDoor
namespace Go.Proofs.YtkoldibamfjghaaGreatDoor
open Go.RowKit
def Pr (x:Cr) (s:au):Cr:=⟨Di x.Aa s,x.Ai,0,Ii (Di x.Aa s) x.Ai x.holds⟩
theorem Azb {x:Cr} {s:au} (h:∀z∈x.holds,x.Ai+1<=z.Co):Pr x s=Q9 x s:=by unfold Pr Q9;rw [Xc h]
theorem Zy (x:Cr) (s:au) (v:Value) (F:aq) (t0:0<=x.Aa.Am) (t1:x.Aa.Am<=65535) (hl:x.Aa.Ak.length<=6) (z1:1<=x.Aa.size) (hm:x.holds.length<=1000) (hn:Za x.holds) (hs:s.size<=maxLen) :
  Fn prog 163 [v,af s] [.isv Ex v x F] [] (fun (_:Akk)=>True) (fun z=>.tuple #[.agg #[aa (Pr x s).Aa.Am,aa (Pr x s).Aa.size,.slice z.a (Pr x s).Aa.Ak.length z.c,aa (Pr x s).Ai,aa (Pr x s).quiet,.slice z.a2 (Pr x s).holds.length z.c2],.agg #[aa 1,aa (Dw x.Aa s).Ae,aa (Dw x.Aa s).Am,aa (Dw x.Aa s).E7,af s]]) (fun z=>[.isv Ex (.agg #[aa (Pr x s).Aa.Am,aa (Pr x s).Aa.size,.slice z.a (Pr x s).Aa.Ak.length z.c,aa (Pr x s).Ai,aa (Pr x s).quiet,.slice z.a2 (Pr x s).holds.length z.c2]) (Pr x s) z.F]):=by
 have hb:=Ql t0 t1;refine enter func163 rfl ntmps163 fun w0=>?_;refine H9 ?_;rintro a1 c1 F1 a2 c2 F2 rfl l1 l2;refine Ct x.Aa ?_;generalize F1=F3;refine go ?_;intros;refine Bf (Axt x.Aa s _ F3 hl t0 t1 hs z1) fun y _=>?_;refine Gn (x:=Di x.Aa s) ?_;rintro a5 c5 F5 e5 l5;rw [e5];refine go ?_;intros;refine Bf (S8 x (Di x.Aa s) _ _ F y.2 hb.1 hb.2 EZ hn) fun q _=>?_;refine H9 (x:=Xz x (Di x.Aa s)) ?_;rintro a6 c6 F6 a7 c7 F7 e6 l6 l7;rw [e6];refine go ?_;intros;refine Ar [0,4] [] ?_;refine Dh 0 1 ?_;refine dN 2 ?_;refine oS ?_;refine dk ?_;refine dN 3 ?_;refine oS ?_;refine dk ?_
 refine dd ?_;refine Fb (Pr x s) ?_;refine go ?_;exact EF
theorem At1 (x:Cr) (s:au) (v:Value) (F:aq) (hg:Ck x=true) (hs:s.size<=maxLen) :
  Fn prog 163 [v,af s] [.isv Ex v x F] [] (fun (_:Akk)=>True) (fun z=>.tuple #[.agg #[aa (Q9 x s).Aa.Am,aa (Q9 x s).Aa.size,.slice z.a (Q9 x s).Aa.Ak.length z.c,aa (Q9 x s).Ai,aa (Q9 x s).quiet,.slice z.a2 (Q9 x s).holds.length z.c2],.agg #[aa 1,aa (Dw x.Aa s).Ae,aa (Dw x.Aa s).Am,aa (Dw x.Aa s).E7,af s]]) (fun z=>[.isv Ex (.agg #[aa (Q9 x s).Aa.Am,aa (Q9 x s).Aa.size,.slice z.a (Q9 x s).Aa.Ak.length z.c,aa (Q9 x s).Ai,aa (Q9 x s).quiet,.slice z.a2 (Q9 x s).holds.length z.c2]) (Q9 x s) z.F]):=by
 obtain ⟨gw,hl,t0,t1,k0,k1,hm,hn,hu,hb⟩:=J3 hg;obtain ⟨-,⟨z1, -⟩, -⟩:=Ds.1 gw;have h:=Zy x s v F t0 t1 hl z1 EZ (Ae7 hn) hs;rw [Azb hu] at h;exact h
theorem Us (n:Du) (s:Jf) (v:Value) (F FT:aq) (hss:s.data.size<=maxLen) (g1:At n=true) (g2:Dq s=true):Fn prog 87 [v,.agg #[aa s.Cq,aa s.node,af s.data]] [.isv Pb v n F,E4 FT] [] (fun (_:StZ)=>True) (fun z=>.tuple #[.agg z.cs.toArray,.slice z.a (Bi n s).2.1.length z.c,.bool (Bi n s).2.2]) (fun z=>[.isv Pb (.agg z.cs.toArray) (Bi n s).1 z.F,.ow A8 9 (.slice z.a (Bi n s).2.1.length z.c) (Bi n s).2.1 z.Fe]):=by
 have hG:=Ax.1 g1;have h8:=Gf hG.t;have hn8:=h8.n1;have hn2:=h8.n0;obtain ⟨q1,q2,q3,q4⟩:=Bg.1 hG.l;have hkl:=Ur n.Al.Ac 0;have hkx:∀x∈Ij n.Al.Ac 0,0<=x/\x.toNat < n.down.length:=fun x hx=>by have:=Lh (i:=0) h8 hx;omega
 have hd6:∀q∈n.down,q.length<=6:=fun q hq=>(C7 ((Hz g1).2.2.1 q hq)).1;have hck:=Xs hG.s;refine enter func87 rfl ntmps87 fun w0=>?_;refine Fm ?_;rintro a1 c1 F1 a2 c2 F2 a3 c3 F3 a4 c4 F4 a5 c5 F5 a6 c6 F6 a7 c7 F7 rfl l1 l2 l3 l4 l5 l6 l7;refine go ?_;intros;refine Bf (Ang n _ F g1) fun z _=>?_;obtain ⟨w,y⟩:=z;dsimp only;refine Av (E:=Bc) (xs:=n.Al.Ac) fun Ft=>?_;refine Ac8 (E:=Ce) (xs:=n.Af) Rw (m:=2) rfl fun ye Fe Ge he1 he2=>?_;refine Ae2 (R:=Bv) (xs:=n.Af) Kc fun He=>?_;refine Ac8 (E:=B9) (xs:=n.Ad) Qr (m:=5) rfl fun yr Fr Gr hr1 hr2=>?_;refine Ae2 (R:=B8) (xs:=n.Ad) Qt fun Hr=>?_
 refine Ac8 (E:=Ki An 141) (xs:=n.down) Uw (m:=1) rfl fun yd Fd Gd hd1 hd2=>?_;refine Ae2 (R:=Oa An FA) (xs:=n.down) (Pt (Mq.refl An) FA _) fun Hd=>?_;refine Ac8 (E:=Ki An 141) (xs:=n.up) Uw (m:=1) rfl fun yu Fu Gu hu1 hu2=>?_;refine Ae2 (R:=Oa An FA) (xs:=n.up) (Pt (Mq.refl An) FA _) fun Hu=>?_;rw [q1,q2,q3,q4];refine Ir n.Al (a1:=w.a1) ?_;refine go ?_;intros;refine A4 rfl (fun h1=>?_) (fun h1=>?_)
 ·have e1:Bm n s=some (Ag7 n s.data,[]):=by unfold Bm;rw [aJ h1]
  have hgm:=Mh g1 g2 e1;rw [show Bi n s=(Ag7 n s.data,[],true) by unfold Bi;rw [g1,g2,e1];rfl];refine go ?_;refine Bf (At1 n.Ab s.data _ _ hG.s hss) fun u _=>?_;refine go ?_;intros;refine Ar [0,3] [] ?_;refine Df 0 1 2 4 ?_;refine dM 3 5 ?_ ?_
  ·refine oC ?_;refine Bf (N2 n.Al 0 _ Ft (Qb h8.z (gD _)) ⟨EZ,EZ⟩) fun v _=>?_;refine Av (E:=Bc) (xs:=Ij n.Al.Ac 0) fun Fk=>?_;refine dk ?_;refine dN 5 ?_;apply Iq;rfl;rfl;rfl;rfl;exact Ik;exact Ih;intro _;refine Eh (E:=An) (xs:=[Dw n.Ab.Aa s.data]) (Dd (Dw n.Ab.Aa s.data) hss) ?_ FB;refine Av (E:=An) (xs:=[Dw n.Ab.Aa s.data]) fun Fp=>?_;refine dk ?_;refine dN 6 ?_;refine oC ?_;refine Bf (Ns n.down (Ij n.Al.Ac 0) [Dw n.Ab.Aa s.data] _ _ _ _ _ _ _ _ _ _ _ _ _ _ _ _ _ _ _ _ _ _ _ _ _ yd Fd Hd _ _ Fk _ _ Fp hkx hd6) fun x _=>?_;refine dk ?_;refine dd ?_
   refine go ?_;intros;refine Cy A8 ?_;refine go ?_;refine Fg (ys:=ye) fun _ w4=>?_;refine Fg (ys:=yr) fun _ w5=>?_;refine Fg (ys:=x.ys) fun _ w6=>?_;refine Fg (ys:=yu) fun _ w7=>?_;refine Av (E:=EC 2) (xs:=ye) fun _=>?_;refine Av (E:=EC 5) (xs:=yr) fun _=>?_;refine Av (E:=EC 1) (xs:=x.ys) fun _=>?_;refine Av (E:=EC 1) (xs:=yu) fun _=>?_;refine Zo (Ag7 n s.data) (l:=n.Al.Ac) (N:=n.Al.Ac.length) rfl rfl (Ax.1 hgm).l w4 w5 w6 w7 (a1:=w.a1) (c1:=w.c1) (a2:=u.a) (c2:=u.c) (a3:=u.a2) (c3:=u.c2) (a4:=y.a4) (c4:=y.c4) (a5:=y.a5) (c5:=y.c5) (a6:=y.a6) (c6:=y.c6) (a7:=y.a7) (c7:=y.c7) fun FN=>?_
   exact CU
  ·apply Iq;rfl;rfl;rfl;rfl;exact Ik;exact Ih;intro _;refine Eh (E:=An) (xs:=[Dw n.Ab.Aa s.data]) (Dd (Dw n.Ab.Aa s.data) hss) ?_ FB;refine Av (E:=An) (xs:=[Dw n.Ab.Aa s.data]) fun Fp=>?_;refine dk ?_;refine dN 3 ?_;refine oC ?_;refine Bf (N2 n.Al 0 _ Ft (Qb h8.z (gD _)) ⟨EZ,EZ⟩) fun v _=>?_;refine Av (E:=Bc) (xs:=Ij n.Al.Ac 0) fun Fk=>?_;refine dk ?_;refine dN 6 ?_;refine oC ?_;refine Bf (Ns n.down (Ij n.Al.Ac 0) [Dw n.Ab.Aa s.data] _ _ _ _ _ _ _ _ _ _ _ _ _ _ _ _ _ _ _ _ _ _ _ _ _ yd Fd Hd _ _ Fk _ _ Fp hkx hd6) fun x _=>?_;refine dk ?_;refine dd ?_
   refine go ?_;intros;refine Cy A8 ?_;refine go ?_;refine Fg (ys:=ye) fun _ w4=>?_;refine Fg (ys:=yr) fun _ w5=>?_;refine Fg (ys:=x.ys) fun _ w6=>?_;refine Fg (ys:=yu) fun _ w7=>?_;refine Av (E:=EC 2) (xs:=ye) fun _=>?_;refine Av (E:=EC 5) (xs:=yr) fun _=>?_;refine Av (E:=EC 1) (xs:=x.ys) fun _=>?_;refine Av (E:=EC 1) (xs:=yu) fun _=>?_;refine Zo (Ag7 n s.data) (l:=n.Al.Ac) (N:=n.Al.Ac.length) rfl rfl (Ax.1 hgm).l w4 w5 w6 w7 (a1:=w.a1) (c1:=w.c1) (a2:=u.a) (c2:=u.c) (a3:=u.a2) (c3:=u.c2) (a4:=y.a4) (c4:=y.c4) (a5:=y.a5) (c5:=y.c5) (a6:=y.a6) (c6:=y.c6) (a7:=y.a7) (c7:=y.c7) fun FN=>?_
   exact CU
 refine go ?_;refine A4 rfl (fun h4=>?_) (fun h4=>?_)
 ·refine go ?_;refine A4 rfl (fun hc=>?_) (fun hc=>?_)
  ·have e1:Bm n s=none:=by unfold Bm;rw [aC h1,aJ h4,aJ hc]
   rw [show Bi n s=(Sb,[],false) by unfold Bi;rw [g1,g2,e1];rfl];exact AB
  ·have e1:Bm n s=some (Gh n):=by unfold Bm;rw [aC h1,aJ h4,aC hc]
   have hgm:=Mh g1 g2 e1;rw [show Bi n s=((Gh n).1,(Gh n).2,true) by unfold Bi;rw [g1,g2,e1];rfl];refine go ?_;refine Bf (Aua n w.a1 w.c1 y.a4 y.c4 y.a5 y.c5 y.a6 y.c6 y.a7 y.c7 w.s.a w.s.a2 w.s.c w.s.c2 Ft w.s.F FT ⟨⟨ye,Fe,He⟩,⟨yr,Fr,Hr⟩,⟨yd,Fd,Hd⟩,⟨yu,Fu,Hu⟩⟩ g1 EZ) fun x _=>?_;refine go ?_;intros;refine Fg (ys:=x.1.e.ys) fun _ w4=>?_;refine Fg (ys:=x.1.r.ys) fun _ w5=>?_;refine Fg (ys:=x.1.d.ys) fun _ w6=>?_;refine Fg (ys:=x.1.u.ys) fun _ w7=>?_;refine Av (E:=EC 2) (xs:=x.1.e.ys) fun _=>?_;refine Av (E:=EC 5) (xs:=x.1.r.ys) fun _=>?_;refine Av (E:=EC 1) (xs:=x.1.d.ys) fun _=>?_
   refine Av (E:=EC 1) (xs:=x.1.u.ys) fun _=>?_;refine Zo ((Gh n).1) (l:=n.Al.Ac) (N:=n.Al.Ac.length) (congrArg Pv.Ac (So e1)) rfl (Ax.1 hgm).l w4 w5 w6 w7 (a1:=w.a1) (c1:=w.c1) (a2:=x.2.1.a) (c2:=x.2.1.c) (a3:=x.2.1.a2) (c3:=x.2.1.c2) (a4:=y.a4) (c4:=y.c4) (a5:=y.a5) (c5:=y.c5) (a6:=y.a6) (c6:=y.c6) (a7:=y.a7) (c7:=y.c7) fun FN=>?_;exact CU
 have htk0:Bm n s=C4 n s:=by unfold Bm;rw [aC h1,aC h4]
 have hf:Oi s.node=true:=by
  have:=g2;unfold Dq at this;rw [aC h1,aC h4] at this;simp only [aw] at this;exact this.1.2
 obtain ⟨f1,f2⟩:=M5.1 hf;obtain ⟨i,hi⟩:∃i:Nat,s.node=((i:Nat):Int):=⟨s.node.toNat,EZ⟩;have i0:i≠0:=EZ
 rw [hi];by_cases k5:s.Cq=5
 ·have hu:Wo s=true:=by unfold Wo;rw [av k5];rfl
  have hq:∀h:i < n.up.length,T5 n s=n.up[i]:=fun h=>by unfold T5;rw [hu,aJ rfl,hi,ba];exact Pl h []
  have hpo:Gm n s=Oe n i:=II
  refine go ?_;refine D6 rfl rfl (fun g5=>?_) (fun g5=>?_)
  rotate_left
  ·exact absurd k5 g5
  refine go ?_;refine D6 rfl rfl (fun h6=>?_) (fun h6=>?_)
  ·have e1:C4 n s=none:=by unfold C4;rw [aJ EZ]
   exact BF
  have hil:i < n.up.length:=EZ
  have hq:=hq hil;refine Fg (ys:=yu) fun hm hlr=>?_;refine Ag8 (ys:=yu) (xs:=n.up) i hm EZ EZ fun h9 _ Gq=>?_;refine Acg (x:=n.up[i]) fun a9 c9 e9 l9=>?_;have e10:yu[i]=[.slice a9 n.up[i].length c9]:=JQ
  refine Rf (E:=EC 1) (xs:=yu) (m:=1) (H5 1) i ?_ FE rfl h9;rintro _ gq Aq cs Bq ea j2 j3 hHq;rw [ea];obtain ⟨j4, -, -⟩:=j3 w0;rw [e10] at j4;subst j4;refine go ?_;refine A4 rfl (fun h7=>?_) (fun h7=>?_)
  ·have e1:C4 n s=none:=IK
   exact BF
  have h0:0 < n.up[i].length:=EZ
  refine Qw (xs:=n.up[i]) 0 ?_;rintro hi3 b3 o3 e3 s3;rw [e3];refine go ?_;intros;refine Ar [2,17] [10] ?_;refine Df 0 1 2 3 ?_;refine Df 4 5 6 7 ?_;refine dN 8 ?_;refine sld 1 fun a8 c8 F8=>?_;refine dk ?_;refine dt 9 ?_;refine dN 10 ?_;refine oS ?_;refine Nm ?_;refine dd ?_;refine Pz (E:=EC 1) (xs:=yu) [.slice a8 (n.up[i].drop 1).length c8] hHq (fun _=>⟨rfl,⟨rfl,FO⟩,rfl⟩) ?_;refine Z9 (E:=An) (x:=n.up[i].drop 1) FA ?_;refine Qm (E:=Oa An FA) (ys:=yu) (xs:=n.up) (x:=n.up[i].drop 1) i rfl hm EZ fun Gv=>?_
  rw [<-ea,show n.up.set i (n.up[i].drop 1)=(Oe n i).up from (H8 EZ).symm];have hmem:=Ok h0;have hpk:Bo (M8 n.up[i])=true:=M3 (hq▸(Md (s:=s) g1).1) hmem;have hpz:(M8 n.up[i]).data.size<=maxLen:=by
   exact BG
  have hgp:At (Oe n i)=true:=hpo▸Ll g1;have hGp:=Ax.1 hgp;have hPg:=Xl h0;rw [<-hPg];generalize hP:M8 n.up[i]=P at *;have htk:C4 n s=some (P4 (Oe n i) i P,[]):=by
   unfold C4;rw [aC EZ,hq,aC EZ,hpo,hP,hi,ba];rw [aC EZ,aJ k5]
  have hgm:=Mh g1 g2 (htk0.trans htk);rw [show Bi n s=(P4 (Oe n i) i P,[],true) by unfold Bi;rw [g1,g2,htk0,htk];rfl];refine go ?_;refine A4 rfl (fun k2=>?_) (fun k2=>?_)
  ·exact absurd k2 EZ
  refine go ?_;refine A4 rfl (fun m5=>?_) (fun m5=>?_)
  rotate_left
  ·exact absurd k5 m5
  have hdp:∀q∈(Oe n i).down,q.length<=6:=fun q hq=>(C7 ((Hz hgp).2.2.1 q hq)).1;have hup:∀q∈(Oe n i).up,q.length<=6:=fun q hq=>(C7 ((Hz hgp).2.2.2 q hq)).1;refine go ?_;refine Bf (Bbr (Oe n i) i P w.a1 w.c1 y.a4 y.c4 y.a5 y.c5 y.a6 y.c6 y.a7 y.c7 w.s.a w.s.a2 w.s.c w.s.c2 Ft w.s.F ⟨⟨ye,Fe,He⟩,⟨yr,Fr,Hr⟩,⟨yd,Fd,Hd⟩,⟨yu.set i [.slice a8 (n.up[i].drop 1).length c8],[gq],Gv⟩⟩ hGp.l i0 IG (Gf hGp.t) hGp.s (fun k hk hkl hl=>by obtain ⟨x1,x2,x3,x4,r⟩:=hGp.rn (i:=k) hkl;rw [Jq x1];exact (r.hn hk hl).1) hpk hpz hdp hup) fun x _=>?_;refine go ?_;intros;refine Cy A8 ?_
  refine go ?_;refine Fg (ys:=x.1.e.ys) fun _ w4=>?_;refine Fg (ys:=x.1.r.ys) fun _ w5=>?_;refine Fg (ys:=x.1.d.ys) fun _ w6=>?_;refine Fg (ys:=x.1.u.ys) fun _ w7=>?_;refine Av (E:=EC 2) (xs:=x.1.e.ys) fun _=>?_;refine Av (E:=EC 5) (xs:=x.1.r.ys) fun _=>?_;refine Av (E:=EC 1) (xs:=x.1.d.ys) fun _=>?_;refine Av (E:=EC 1) (xs:=x.1.u.ys) fun _=>?_
  refine Zo (P4 (Oe n i) i P) (l:=n.Al.Ac) (N:=n.Al.Ac.length) (congrArg Pv.Ac (So (htk0.trans htk))) rfl (Ax.1 hgm).l w4 w5 w6 w7 (a1:=w.a1) (c1:=w.c1) (a2:=x.2.a) (c2:=x.2.c) (a3:=x.2.a2) (c3:=x.2.c2) (a4:=y.a4) (c4:=y.c4) (a5:=y.a5) (c5:=y.c5) (a6:=y.a6) (c6:=y.c6) (a7:=y.a7) (c7:=y.c7) fun FN=>?_;exact CU
 by_cases k6:s.Cq=6
 ·have hu:Wo s=true:=by unfold Wo;rw [av k6,gB]
  have hq:∀h:i < n.up.length,T5 n s=n.up[i]:=fun h=>by unfold T5;rw [hu,aJ rfl,hi,ba];exact Pl h []
  have hpo:Gm n s=Oe n i:=II
  refine go ?_;refine D6 rfl rfl (fun g5=>?_) (fun g5=>?_)
  ·exact absurd g5 EZ
  refine go ?_;refine A4 rfl (fun g6=>?_) (fun g6=>?_)
  rotate_left
  ·exact absurd k6 g6
  refine go ?_;refine D6 rfl rfl (fun h6=>?_) (fun h6=>?_)
  ·have e1:C4 n s=none:=by unfold C4;rw [aJ EZ]
   exact BF
  have hil:i < n.up.length:=EZ
  have hq:=hq hil;refine Fg (ys:=yu) fun hm hlr=>?_;refine Ag8 (ys:=yu) (xs:=n.up) i hm EZ EZ fun h9 _ Gq=>?_;refine Acg (x:=n.up[i]) fun a9 c9 e9 l9=>?_;have e10:yu[i]=[.slice a9 n.up[i].length c9]:=JQ
  refine Rf (E:=EC 1) (xs:=yu) (m:=1) (H5 1) i ?_ FE rfl h9;rintro _ gq Aq cs Bq ea j2 j3 hHq;rw [ea];obtain ⟨j4, -, -⟩:=j3 w0;rw [e10] at j4;subst j4;refine go ?_;refine A4 rfl (fun h7=>?_) (fun h7=>?_)
  ·have e1:C4 n s=none:=IK
   exact BF
  have h0:0 < n.up[i].length:=EZ
  refine Qw (xs:=n.up[i]) 0 ?_;rintro hi3 b3 o3 e3 s3;rw [e3];refine go ?_;intros;refine Ar [2,17] [10] ?_;refine Df 0 1 2 3 ?_;refine Df 4 5 6 7 ?_;refine dN 8 ?_;refine sld 1 fun a8 c8 F8=>?_;refine dk ?_;refine dt 9 ?_;refine dN 10 ?_;refine oS ?_;refine Nm ?_;refine dd ?_;refine Pz (E:=EC 1) (xs:=yu) [.slice a8 (n.up[i].drop 1).length c8] hHq (fun _=>⟨rfl,⟨rfl,FO⟩,rfl⟩) ?_;refine Z9 (E:=An) (x:=n.up[i].drop 1) FA ?_;refine Qm (E:=Oa An FA) (ys:=yu) (xs:=n.up) (x:=n.up[i].drop 1) i rfl hm EZ fun Gv=>?_
  rw [<-ea,show n.up.set i (n.up[i].drop 1)=(Oe n i).up from (H8 EZ).symm];have hmem:=Ok h0;have hpk:Bo (M8 n.up[i])=true:=M3 (hq▸(Md (s:=s) g1).1) hmem;have hpz:(M8 n.up[i]).data.size<=maxLen:=by
   exact BG
  have hgp:At (Oe n i)=true:=hpo▸Ll g1;have hGp:=Ax.1 hgp;have hPg:=Xl h0;rw [<-hPg];generalize hP:M8 n.up[i]=P at *;have htk:C4 n s=some (Oe n i,[]):=by
   unfold C4;rw [aC EZ,hq,aC EZ,hpo,hP,hi,ba];rw [aC EZ,aC EZ]
  have hgm:=Mh g1 g2 (htk0.trans htk);rw [show Bi n s=(Oe n i,[],true) by unfold Bi;rw [g1,g2,htk0,htk];rfl];refine go ?_;refine A4 rfl (fun k2=>?_) (fun k2=>?_)
  ·exact absurd k2 EZ
  refine go ?_;refine A4 rfl (fun m5=>?_) (fun m5=>?_)
  ·exact absurd m5 EZ
  refine go ?_;intros;refine Cy A8 ?_;refine go ?_;refine Fg (ys:=ye) fun _ w4=>?_;refine Fg (ys:=yr) fun _ w5=>?_;refine Fg (ys:=yd) fun _ w6=>?_;refine Fg (ys:=(yu.set i [.slice a8 (n.up[i].drop 1).length c8])) fun _ w7=>?_;refine Av (E:=EC 2) (xs:=ye) fun _=>?_;refine Av (E:=EC 5) (xs:=yr) fun _=>?_;refine Av (E:=EC 1) (xs:=yd) fun _=>?_;refine Av (E:=EC 1) (xs:=(yu.set i [.slice a8 (n.up[i].drop 1).length c8])) fun _=>?_
  refine Zo (Oe n i) (l:=n.Al.Ac) (N:=n.Al.Ac.length) rfl rfl (Ax.1 hgm).l w4 w5 w6 w7 (a1:=w.a1) (c1:=w.c1) (a2:=w.s.a) (c2:=w.s.c) (a3:=w.s.a2) (c3:=w.s.c2) (a4:=y.a4) (c4:=y.c4) (a5:=y.a5) (c5:=y.c5) (a6:=y.a6) (c6:=y.c6) (a7:=y.a7) (c7:=y.c7) fun FN=>?_;exact CU
 have hu:Wo s=false:=by unfold Wo;rw [ay k5,ay k6];rfl
 have hq:∀h:i < n.down.length,T5 n s=n.down[i]:=fun h=>by unfold T5;rw [hu,aC FA,hi,ba];exact Pl h []
 have hpo:Gm n s=Qg n i:=by unfold Gm;rw [hu,aC FA,hi,ba]
 refine go ?_;refine D6 rfl rfl (fun g5=>?_) (fun g5=>?_)
 ·exact absurd g5 k5
 refine go ?_;refine A4 rfl (fun g6=>?_) (fun g6=>?_)
 ·exact absurd g6 k6
 refine go ?_;refine D6 rfl rfl (fun h6=>?_) (fun h6=>?_)
 ·have e1:C4 n s=none:=by unfold C4;rw [aJ EZ]
  exact BF
 have hil:i < n.down.length:=EZ
 have hq:=hq hil;refine Fg (ys:=yd) fun hm hlr=>?_;refine Ag8 (ys:=yd) (xs:=n.down) i hm EZ EZ fun h9 _ Gq=>?_;refine Acg (x:=n.down[i]) fun a9 c9 e9 l9=>?_;have e10:yd[i]=[.slice a9 n.down[i].length c9]:=JQ
 refine Rf (E:=EC 1) (xs:=yd) (m:=1) (H5 1) i ?_ FE rfl h9;rintro _ gq Aq cs Bq ea j2 j3 hHq;rw [ea];obtain ⟨j4, -, -⟩:=j3 w0;rw [e10] at j4;subst j4;refine go ?_;refine A4 rfl (fun h7=>?_) (fun h7=>?_)
 ·have e1:C4 n s=none:=IK
  exact BF
 have h0:0 < n.down[i].length:=EZ
 refine Qw (xs:=n.down[i]) 0 ?_;rintro hi3 b3 o3 e3 s3;rw [e3];refine go ?_;intros;refine Ar [2,17] [10] ?_;refine Df 0 1 2 3 ?_;refine Df 4 5 6 7 ?_;refine dN 8 ?_;refine sld 1 fun a8 c8 F8=>?_;refine dk ?_;refine dt 9 ?_;refine dN 10 ?_;refine oS ?_;refine Nm ?_;refine dd ?_;refine Pz (E:=EC 1) (xs:=yd) [.slice a8 (n.down[i].drop 1).length c8] hHq (fun _=>⟨rfl,⟨rfl,FO⟩,rfl⟩) ?_;refine Z9 (E:=An) (x:=n.down[i].drop 1) FA ?_;refine Qm (E:=Oa An FA) (ys:=yd) (xs:=n.down) (x:=n.down[i].drop 1) i rfl hm EZ fun Gv=>?_
 rw [<-ea,show n.down.set i (n.down[i].drop 1)=(Qg n i).down from (H8 EZ).symm];have hmem:=Ok h0;have hpk:Bo (M8 n.down[i])=true:=M3 (hq▸(Md (s:=s) g1).1) hmem;have hpz:(M8 n.down[i]).data.size<=maxLen:=by
  exact BG
 have hgp:At (Qg n i)=true:=hpo▸Ll g1;have hGp:=Ax.1 hgp;have hPg:=Xl h0;rw [<-hPg];generalize hP:M8 n.down[i]=P at *;have htk:C4 n s=if s.Cq=2 then some (C8 (Qg n i) i P) else some (Qg n i,[]):=by
  unfold C4;rw [aC EZ,hq,aC EZ,hpo,hP,hi,ba]
  split
  ·rfl
  ·first|rfl|rw [aC k5]
 have hdp:∀q∈(Qg n i).down,q.length<=6:=fun q hq=>(C7 ((Hz hgp).2.2.1 q hq)).1;refine go ?_;refine A4 rfl (fun k2=>?_) (fun k2=>?_)
 ·rw [aJ k2] at htk;have hgm:=Mh g1 g2 (htk0.trans htk);rw [show Bi n s=((C8 (Qg n i) i P).1,(C8 (Qg n i) i P).2,true) by unfold Bi;rw [g1,g2,htk0,htk];rfl];refine go ?_;have hls:(C8 (Qg n i) i P).1.Ab=n.Ab:=by unfold C8;split <;> rfl
  refine Ar [4,8,20] [] ?_;refine Df 0 1 2 3 ?_;refine dt 4 ?_;refine dN 5 ?_;refine oC ?_
  refine Bf (Ak2 (Qg n i) i P w.a1 w.c1 y.a4 y.c4 y.a5 y.c5 y.a6 y.c6 y.a7 y.c7 w.s.a w.s.a2 n.Ab.Aa.Ak.length w.s.c n.Ab.holds.length w.s.c2 _ _ _ _ Ft ⟨⟨ye,Fe,He⟩,⟨yr,Fr,Hr⟩,⟨yd.set i [.slice a8 (n.down[i].drop 1).length c8],[gq],Gv⟩,⟨yu,Fu,Hu⟩⟩ FT hGp.l IG EZ (Gf hGp.t) (fun hl=>by obtain ⟨x1,x2,x3,x4,r⟩:=hGp.rn (i:=i) IG;rw [Gp x2];exact (r.hf i0 hl).2.1) (fun hl=>by obtain ⟨x1,x2,x3,x4,r⟩:=hGp.rn (i:=i) IG;rw [Jq x1];exact (r.hn i0 hl).1) hpk hpz hdp) fun x _=>?_;refine dk ?_
  refine dN 6 ?_;refine oS ?_;refine dk ?_;refine Dh 7 8 ?_;refine dd ?_;refine go ?_;rw [<-hls];refine Fg (ys:=x.1.e.ys) fun _ w4=>?_;refine Fg (ys:=x.1.r.ys) fun _ w5=>?_;refine Fg (ys:=x.1.d.ys) fun _ w6=>?_;refine Fg (ys:=x.1.u.ys) fun _ w7=>?_;refine Av (E:=EC 2) (xs:=x.1.e.ys) fun _=>?_;refine Av (E:=EC 5) (xs:=x.1.r.ys) fun _=>?_;refine Av (E:=EC 1) (xs:=x.1.d.ys) fun _=>?_;refine Av (E:=EC 1) (xs:=x.1.u.ys) fun _=>?_
  refine Zo ((C8 (Qg n i) i P).1) (l:=n.Al.Ac) (N:=n.Al.Ac.length) (congrArg Pv.Ac (So (htk0.trans htk))) rfl (Ax.1 hgm).l w4 w5 w6 w7 (a1:=w.a1) (c1:=w.c1) (a2:=w.s.a) (c2:=w.s.c) (a3:=w.s.a2) (c3:=w.s.c2) (a4:=y.a4) (c4:=y.c4) (a5:=y.a5) (c5:=y.c5) (a6:=y.a6) (c6:=y.c6) (a7:=y.a7) (c7:=y.c7) fun FN=>?_;refine ret (⟨_,FN,x.2.a,x.2.c,x.2.F⟩:StZ) trivial rfl
 ·rw [aC k2] at htk;have hgm:=Mh g1 g2 (htk0.trans htk);rw [show Bi n s=(Qg n i,[],true) by unfold Bi;rw [g1,g2,htk0,htk];rfl];refine go ?_;refine A4 rfl (fun m5=>?_) (fun m5=>?_)
  ·exact absurd m5 k5
  refine go ?_;intros;refine Cy A8 ?_;refine go ?_;refine Fg (ys:=ye) fun _ w4=>?_;refine Fg (ys:=yr) fun _ w5=>?_;refine Fg (ys:=(yd.set i [.slice a8 (n.down[i].drop 1).length c8])) fun _ w6=>?_;refine Fg (ys:=yu) fun _ w7=>?_;refine Av (E:=EC 2) (xs:=ye) fun _=>?_;refine Av (E:=EC 5) (xs:=yr) fun _=>?_;refine Av (E:=EC 1) (xs:=(yd.set i [.slice a8 (n.down[i].drop 1).length c8])) fun _=>?_;refine Av (E:=EC 1) (xs:=yu) fun _=>?_
  refine Zo (Qg n i) (l:=n.Al.Ac) (N:=n.Al.Ac.length) rfl rfl (Ax.1 hgm).l w4 w5 w6 w7 (a1:=w.a1) (c1:=w.c1) (a2:=w.s.a) (c2:=w.s.c) (a3:=w.s.a2) (c3:=w.s.c2) (a4:=y.a4) (c4:=y.c4) (a5:=y.a5) (c5:=y.c5) (a6:=y.a6) (c6:=y.c6) (a7:=y.a7) (c7:=y.c7) fun FN=>?_;exact CU
theorem Be8 (v:Value) (By:ar) (F:aq):FV 5 [v] [.sl Jo v By F] (.bool (decide (65536 < (By.length:Int)))):=by
 refine enter func5 rfl ntmps5 fun w0=>?_;refine Abn (E:=Jo) ?_;rintro a c rfl l1 l2;exact AA
end Go.Proofs.YtkoldibamfjghaaGreatDoor
namespace Go.Proofs.YtkoldibamfjghaaGreatDoor

open Go.RowKit
open Go.RowKit
open Go.RowKit
end Go.Proofs.YtkoldibamfjghaaGreatDoor
namespace Go.Proofs.YtkoldibamfjghaaGreatDoor
open Go.RowKit
structure SwS where
 y:Aw
 a:aj
 c:Nat
 F:aq
 s:Nl
structure SwL where
 y:Aw
 i:Nat
 a:aj
 c:Nat
 F:aq
 s:Nl
structure Bhj (B r0:Nat) (z:SwL):Prop where
 l:z.y.Ak.length+z.i=r0
 s:Hw (B+8+50 * z.y.Ak.length) z.s
theorem Ali (B g:Nat) (F:CuF) (s:Nl) (ok:Hw B s) (hB:B<=800000000000) :
  Fn prog 170 [Ga g 0 0] [.sl Jo (ab F.a F.By.length F.c) F.By F.bs] [.row g 60 0 [] [ab F.a F.By.length F.c,aa (s.k:Nat),.int .u64 s.Hm] []] (fun (z:SwS)=>z.y.Ak.length<=7/\Hw (B+1000) z.s) (fun s=>.agg #[aa s.y.Am,aa s.y.size,ab s.a s.y.Ak.length s.c])
   (fun s=>[.isv Cj (.agg #[aa s.y.Am,aa s.y.size,ab s.a s.y.Ak.length s.c]) s.y s.F,.row g 60 0 [] [ab F.a F.By.length F.c,aa (s.s.k:Nat),.int .u64 s.s.Hm] []]):=by
 refine enter func170 rfl ntmps170 fun w0=>?_;refine Cf A8 9 ?_;refine go ?_;intros;refine Bf (Ti B g F s ok EZ) fun n hn=>?_;obtain ⟨hn1,hn2⟩:=hn;refine go ?_;refine Bf (Eb (B+4) g F 6 n.2 hn2 EZ EZ) fun y hy=>?_;obtain ⟨r1,s1⟩:=y;obtain ⟨hy1,hy2⟩:=hy;dsimp only at hy1 hy2 ⊢;have hr1:r1<=5:=EZ
 refine go ?_;intros;rename_i gg;refine Bf (Eb _ g F (1+(r1:Int)+1) s1 hy2 EZ EZ) fun y hy=>?_;obtain ⟨r0,s2⟩:=y;obtain ⟨hz1,hz2⟩:=hy;dsimp only at hz1 hz2 ⊢;have hr0:r0<=6:=EZ
 refine go ?_;refine Bx [0,2,3] (fun z:SwL=>[(4,aa (z.i:Nat))]) (fun z=>[.row gg 29 0 [] [aa z.y.Am,aa z.y.size,ab z.a z.y.Ak.length z.c] [],.ow A8 9 (ab z.a z.y.Ak.length z.c) z.y.Ak z.F,.row g 60 0 [] [ab F.a F.By.length F.c,aa (z.s.k:Nat),.int .u64 z.s.Hm] []]) (Bhj B r0) (fun z=>z.i) ⟨⟨n.1,1+(r1:Int),[]⟩,r0,none,0,[],s2⟩ ⟨FB,hz2.mono (by show _<=B+8+50 * 0;omega)⟩ fun z hz=>?_;obtain ⟨z1,z3⟩:=hz;refine go ?_;refine A4 rfl (fun h2=>?_) (fun h2=>?_)
 ·refine Io ?_;intros;refine Ar [0] [7] ?_;refine Dh 0 1 ?_;refine dt 2 ?_;refine dN 3 ?_;refine oC ?_;refine Bf (Sk _ g F z.s 4 z3 EZ EZ EZ) fun l hl=>?_;obtain ⟨hl1,hl2⟩:=hl;have hl3:l.1.size<=maxLen:=FH
  refine dk ?_;refine dN 4 ?_;apply Iq;rfl;rfl;rfl;rfl;exact Ik;exact Ih;intro _;refine dk ?_;refine dN 5 ?_;refine Nb (Abc hl3) Do fun a9 c9 F9=>?_;refine dk ?_;refine dt 6 ?_;refine dN 7 ?_;refine oS ?_;refine Nm ?_;refine dd ?_;refine go ?_;rw [show ((z.i:Nat):Int) - 1=((z.i - 1:Nat):Int) by omega]
  refine Ca ⟨⟨z.y.Am,z.y.size,z.y.Ak++[l.1]⟩,z.i - 1,a9,c9,F9,l.2⟩ ⟨by show (z.y.Ak++[l.1]).length+(z.i - 1)=r0;rw [aA];simp only [aU,aY];omega,hl2.mono (by show _<=B+8+50 * (z.y.Ak++[l.1]).length;rw [aA];simp only [aU,aY];omega)⟩ (by show z.i - 1 < _;omega)
 ·have hl7:z.y.Ak.length<=6:=EZ
  refine go ?_;refine Bf (Eb _ g F 24 z.s z3 EZ EZ) fun p hp=>?_;obtain ⟨r,s3⟩:=p;obtain ⟨-,hp⟩:=hp;dsimp only at hp ⊢;refine go ?_;refine A4 rfl (fun e0=>?_) (fun e0=>?_)
  ·refine go ?_;refine Bf (Ws _ g F s3 hp EZ) fun q hq=>?_;refine go ?_;refine Av (E:=A8) (xs:=z.y.Ak) fun F8=>?_;refine Ct ⟨q.1,z.y.size,z.y.Ak⟩ ?_;refine ret ⟨⟨q.1,z.y.size,z.y.Ak⟩,_,_,_,q.2⟩ ⟨by show z.y.Ak.length<=7;omega,hq.mono EZ⟩ rfl
  refine go ?_;refine A4 rfl (fun e1=>?_) (fun e1=>?_)
  ·refine Io ?_;intros;refine Eh (xs:=[0,7,6]) (fun w=>No w _) ?_ FA;refine Av (E:=Bc) fun G=>?_;refine go ?_;refine Bf (Rq _ g F _ [0,7,6] G s3 hp EZ FA FA) fun q hq=>?_;refine go ?_;refine Av (E:=A8) (xs:=z.y.Ak) fun F8=>?_;refine Ct ⟨z.y.Am,q.1,z.y.Ak⟩ ?_;refine ret ⟨⟨z.y.Am,q.1,z.y.Ak⟩,_,_,_,q.2⟩ ⟨by show z.y.Ak.length<=7;omega,hq.2.mono EZ⟩ rfl
  refine go ?_;refine A4 rfl (fun e2=>?_) (fun e2=>?_)
  ·refine Io ?_;intros;refine Ar [1] [8] ?_;refine Dh 0 1 ?_;refine dt 2 ?_;refine dN 3 ?_;apply Iq;rfl;rfl;rfl;rfl;exact Ik;exact Ih;intro _;refine Eh (xs:=[⟨#[65]⟩,⟨#[97,98,99,100,101,102,103,104]⟩,⟨#[97,98,99,100,101,102,103,104,105]⟩,⟨#[]⟩]) (fun w=>Qa w _ FA) ?_ FA;refine Av (E:=A8) fun G=>?_;refine dk ?_;refine dN 4 ?_;refine oC ?_;refine Bf (Aem _ g F _ [⟨#[65]⟩,⟨#[97,98,99,100,101,102,103,104]⟩,⟨#[97,98,99,100,101,102,103,104,105]⟩,⟨#[]⟩] _ s3 hp EZ FA FA) fun q2 hq2=>?_
   have hq3:q2.1.size<=maxLen:=by have:=hq2.1;simp only [aH,aT,bm] at this;rcases this with e|e|e|e <;> rw [e] <;> decide
   refine dk ?_;refine dN 5 ?_;apply Iq;rfl;rfl;rfl;rfl;exact Ik;exact Ih;intro _;refine dk ?_;refine dN 6 ?_;refine Nb (Abc hq3) Do fun a9 c9 F9=>?_;refine dk ?_;refine dt 7 ?_;refine dN 8 ?_;refine oS ?_;refine Nm ?_;refine dd ?_;refine go ?_;refine Av (E:=A8) (xs:=z.y.Ak++[q2.1]) fun F8=>?_;refine Ct ⟨z.y.Am,z.y.size,z.y.Ak++[q2.1]⟩ ?_;refine ret ⟨⟨z.y.Am,z.y.size,z.y.Ak++[q2.1]⟩,_,_,_,q2.2⟩ ⟨by show (z.y.Ak++[q2.1]).length<=7;rw [aA];simp only [aU,aY];omega,hq2.2.mono EZ⟩ rfl
  refine go ?_;refine Av (E:=A8) (xs:=z.y.Ak) fun F8=>?_;refine Ct z.y ?_;refine ret ⟨z.y,_,_,_,s3⟩ ⟨by show z.y.Ak.length<=7;omega,hp.mono EZ⟩ rfl
theorem Ai2 (B g:Nat) (F:CuF) (s:Nl) (x:Aw) (v:Value) (Fx:aq) (ok:Hw B s) (hB:B<=800000000000) (hl:x.Ak.length<=1000) :
  Fn prog 52 [Ga g 0 0,v] [.sl Jo (ab F.a F.By.length F.c) F.By F.bs,.isv Cj v x Fx] [.row g 60 0 [] [ab F.a F.By.length F.c,aa (s.k:Nat),.int .u64 s.Hm] []] (fun (z:Int × Nl)=>(-1<=z.1/\z.1<=65536)/\Hw (B+8) z.2) (fun z=>aa z.1) (fun z=>[.row g 60 0 [] [ab F.a F.By.length F.c,aa (z.2.k:Nat),.int .u64 z.2.Hm] []]):=by
 refine enter func52 rfl ntmps52 fun w0=>?_;refine Gn ?_;rintro a1 c1 F1 rfl l1;refine go ?_;intros;refine ce (fun w s=>Nt _ _) ?_;cases g1:Bz x.Am
 ·refine go ?_;refine Bf (Va B g F s ok EZ) fun z hz=>?_;refine go ?_;refine ret z ⟨hz.1,hz.2.mono EZ⟩ rfl
 obtain ⟨n0,n1⟩:=A9.1 g1;refine go ?_;refine Bf (Ad0 B g F 12 s ok EZ EZ) fun q hq=>?_;cases hb:q.1
 ·refine go ?_;refine Ar [1] [] ?_;refine Df 0 1 2 3 ?_;refine Dh 4 5 ?_;refine dt 6 ?_;refine dN 7 ?_;refine oC ?_;refine Bf (Eb _ g F ((x.Ak.length:Int)+3) q.2 hq.2 EZ EZ) fun y hy=>?_;obtain ⟨hy1,hy2⟩:=hy;refine dk ?_;refine dt 8 ?_;refine dN 9 ?_;refine oC ?_;refine ce (fun w s=>Ht _ _ _ EZ EZ) ?_;refine dk ?_;refine dt 10 ?_;refine dd ?_;refine go ?_;refine ret (_,y.2) ⟨by have:=I7 x.Am ((y.1:Int) - 1);show -1<=Cc x.Am ((y.1:Int) - 1)/\Cc x.Am ((y.1:Int) - 1)<=65536;omega,hy2.mono EZ⟩ rfl
 ·refine go ?_;refine Bf (Va (B+2) g F q.2 hq.2 EZ) fun z hz=>?_;refine go ?_;refine ret z hz rfl
structure SwN where
 y:Aw
 a:aj
 c:Nat
 F:aq
 n:Int
structure SwT where
 y:Aw
 a:aj
 c:Nat
 F:aq
 t:au
structure SwP where
 y:Aw
 a:aj
 c:Nat
 F:aq
 p:As
structure SwJ where
 y:Aw
 a:aj
 c:Nat
 F:aq
structure OkD (m:Nat) (y:Cr):Prop where
 t0:0<=y.Aa.Am
 t1:y.Aa.Am<=65535
 z0:1<=y.Aa.size
 z6:y.Aa.size<=6
 l:(y.Aa.Ak.length:Int)<=y.Aa.size
 it:∀s∈y.Aa.Ak,s.size<=maxLen
 k0:0<=y.Ai
 km:y.Ai<=m
 q0:0<=y.quiet
 q3:y.quiet<=3
 h:y.holds.length<=m
 w:Za y.holds
 mm:m<=100
theorem OkD.l6 {m y} (h:OkD m y):y.Aa.Ak.length<=6:=by have:=h.l;have:=h.z6;omega
theorem OkD.k1 {m y} (h:OkD m y):y.Ai<=99999:=by have:=h.km;have:=h.mm;omega
theorem OkD.h1 {m y} (h:OkD m y):y.holds.length<=900:=by have:=h.h;have:=h.mm;omega
theorem Ach (W:Aw) (cl:Int) (hs:List Iz):(Ii W cl hs).length<=hs.length:=bJ _ _
theorem Aad {W:Aw} {cl:Int} {hs:List Iz} (h:Za hs):Za (Ii W cl hs):=fun z hz=>h z (bP.1 hz).1
theorem Bdz {W:Aw} {p:As} (h:∀s∈W.Ak,s.size<=maxLen):(Dp W p).1.data.size<=maxLen:=by
 unfold Dp
 split
 ·rename_i g;unfold J8 at g;simp only [aw] at g;have hk:=Aa0 g.2;show (Zu W p.Ae).size<=maxLen;rw [Uo hk];exact h _ (aB hk)
 ·decide
theorem Ar3 {m y} (h:OkD m y) {s:au} (hs:s.size<=maxLen) (hm:m+1<=100:=by omega):OkD (m+1) (Pr y s):=by
 have hb:=Ql h.t0 h.t1;have hkl:=Ach (Di y.Aa s) y.Ai y.holds;have:=h.km;have:=h.h;have hr:((De y.Aa).Ak.length:Int)+1<=y.Aa.size/\∀x∈(De y.Aa).Ak,x.size<=maxLen:=by
  have:=h.l;unfold De
  split
  ·exact ⟨by simp only [aX];have:=h.z0;omega,fun x hx=>h.it x (bu hx)⟩
  ·exact ⟨EZ,h.it⟩
 refine ⟨hb.1,hb.2,h.z0,h.z6,?_,?_,h.k0,?_,by show (0:Int)<=0;omega,by show (0:Int)<=3;omega,?_,Aad h.w,hm⟩
 ·show (((De y.Aa).Ak++[s]).length:Int)<=y.Aa.size;simp only [aA,aU,aY];omega
 ·intro x hx;have hx:x∈(De y.Aa).Ak++[s]:=hx;simp only [aK,aH,aT,bm] at hx;rcases hx with hx|rfl
  ·exact hr.2 x hx
  ·exact hs
 ·show y.Ai<=((m+1:Nat):Int);omega
 ·show (Ii _ _ _).length<=m+1;omega
theorem Beo {m y} (h:OkD m y) {n:Int} (hn:-1<=n/\n<=65536) (hm:m+1<=100:=by omega):OkD (m+1) (Nd y n):=by
 have hkl:=Ach y.Aa y.Ai y.holds;have:=h.km;have:=h.h;unfold Nd
 split
 ·refine ⟨h.t0,h.t1,h.z0,h.z6,h.l,h.it,h.k0,by show y.Ai<=((m+1:Nat):Int);omega,h.q0,h.q3,?_,?_,hm⟩
  ·show (Ld _ _ _).length<=m+1;unfold Ld;simp;omega
  ·intro z hz;have hz:z∈Ld y.holds (Fv y.Aa.Am y.holds n) ⟨n,y.Ai+3⟩:=hz;unfold Ld at hz;simp only [aK,aH] at hz;rcases hz with hz|rfl|hz
   ·exact h.w z (bO hz)
   ·exact hn
   ·exact h.w z (bu hz)
 ·exact ⟨h.t0,h.t1,h.z0,h.z6,h.l,h.it,h.k0,by show y.Ai<=((m+1:Nat):Int);omega,h.q0,h.q3,by show (Ii _ _ _).length<=m+1;omega,Aad h.w,hm⟩
theorem Bb7 {m y} (h:OkD m y) (hm:m+1<=100:=by omega):OkD (m+1) (Mz y):=by
 have hkl:=Ach y.Aa (y.Ai+1) y.holds;have:=h.km;have:=h.h;have:=h.k0;have:=h.q0;have:=h.q3;refine ⟨h.t0,h.t1,h.z0,h.z6,h.l,h.it,by show 0<=y.Ai+1;omega,by show y.Ai+1<=((m+1:Nat):Int);omega,?_,?_,by show (Ii _ _ _).length<=m+1;omega,Aad h.w,hm⟩
 ·show 0<=Rn y.quiet;unfold Rn;split <;> omega
 ·show Rn y.quiet<=3;unfold Rn;split <;> omega
theorem Bbg {f z:Int} (h0:0<=f) (h1:f<=65535) (z0:1<=z) (z6:z<=6):Mf f z=(⟨⟨f,z,[]⟩,0,0,[]⟩,true):=by
 have hg:Ck ⟨⟨f,z,[]⟩,0,0,[]⟩=true:=En.2 ⟨Ds.2 ⟨⟨h0,h1⟩,⟨z0,z6⟩,FF,rfl⟩,rfl,rfl,FB,List.Pairwise.nil⟩;unfold Mf;rw [hg];rfl
structure SrD where
 y:Cr
 a:aj
 c:Nat
 a2:aj
 c2:Nat
 F:aq
 i:Nat
 s:Nl
theorem Azh (B g:Nat) (F:CuF) (s:Nl) (ok:Hw B s) (hB:B<=700000000000) :
  Fn prog 88 [Ga g 0 0] [.sl Jo (ab F.a F.By.length F.c) F.By F.bs] [.row g 60 0 [] [ab F.a F.By.length F.c,aa (s.k:Nat),.int .u64 s.Hm] []] (fun (z:SrD)=>z.y.Aa.Ak.length<=7/\z.y.holds.length<=20/\Hw (B+2000) z.s) (fun s=>.agg #[aa s.y.Aa.Am,aa s.y.Aa.size,ab s.a s.y.Aa.Ak.length s.c,aa s.y.Ai,aa s.y.quiet,ab s.a2 s.y.holds.length s.c2])
   (fun s=>[.isv Ex (.agg #[aa s.y.Aa.Am,aa s.y.Aa.size,ab s.a s.y.Aa.Ak.length s.c,aa s.y.Ai,aa s.y.quiet,ab s.a2 s.y.holds.length s.c2]) s.y s.F,.row g 60 0 [] [ab F.a F.By.length F.c,aa (s.s.k:Nat),.int .u64 s.s.Hm] []]):=by
 refine enter func88 rfl ntmps88 fun w0=>?_;refine go ?_;intros;refine Bf (Ti B g F s ok EZ) fun n hn=>?_;obtain ⟨hn1,hn2⟩:=hn;refine go ?_;refine Bf (Eb (B+4) g F 6 n.2 hn2 EZ EZ) fun y hy=>?_;obtain ⟨r1,s1⟩:=y;obtain ⟨hy1,hy2⟩:=hy;dsimp only at hy1 hy2 ⊢;have hr1:r1<=5:=EZ
 refine go ?_;refine Bf (Wi n.1 (1+(r1:Int))) fun F0 _=>?_;rw [Bbg hn1.1 hn1.2 EZ EZ];refine go ?_;intros;rename_i gg;refine Bf (Eb _ g F 9 s1 hy2 EZ EZ) fun y hy=>?_;obtain ⟨r0,s2⟩:=y;obtain ⟨hz1,hz2⟩:=hy;dsimp only at hz1 hz2 ⊢;have hr0:r0<=8:=EZ
 refine go ?_
 refine Bx [0,2,3] (fun z:SrD=>[(5,aa (z.i:Nat))]) (fun z=>[.row gg 32 0 [] [aa z.y.Aa.Am,aa z.y.Aa.size,ab z.a z.y.Aa.Ak.length z.c,aa z.y.Ai,aa z.y.quiet,ab z.a2 z.y.holds.length z.c2] [],.isv Ex (.agg #[aa z.y.Aa.Am,aa z.y.Aa.size,ab z.a z.y.Aa.Ak.length z.c,aa z.y.Ai,aa z.y.quiet,ab z.a2 z.y.holds.length z.c2]) z.y z.F,.row g 60 0 [] [ab F.a F.By.length F.c,aa (z.s.k:Nat),.int .u64 z.s.Hm] []]) (fun z=>OkD (r0 - z.i) z.y/\z.i<=r0/\Hw (B+20+50 * (r0 - z.i)) z.s) (fun z=>z.i) ⟨⟨⟨n.1,1+(r1:Int),[]⟩,0,0,[]⟩,none,0,none,0,F0,r0,s2⟩ ⟨⟨hn1.1,hn1.2,by show (1:Int)<=1+(r1:Int);omega,by show 1+(r1:Int)<=6;omega,by show ((0:Nat):Int)<=1+(r1:Int);omega,FB,by show (0:Int)<=0;omega,by show (0:Int)<=((r0 - r0:Nat):Int);omega,by show (0:Int)<=0;omega,by show (0:Int)<=3;omega,FB,by intro z hz;simp at hz,EZ⟩,aL _,hz2.mono (by show _<=B+20+50 * (r0 - r0);omega)⟩ fun z hz=>?_
 obtain ⟨z1,z2,z3⟩:=hz;refine go ?_;refine A4 rfl (fun h2=>?_) (fun h2=>?_)
 ·have hi0:0 < z.i:=EZ
  refine go ?_;refine Bf (Eb _ g F 4 z.s z3 EZ EZ) fun p hp=>?_;obtain ⟨r2,s4⟩:=p;obtain ⟨hr2,z3⟩:=hp;dsimp only at hr2 z3 ⊢;have hr4:r2=0\/r2=1\/r2=2\/r2=3:=EZ
  rcases hr4 with rfl|rfl|rfl|rfl
  ·refine go ?_;refine Ar [1] [5,6,7] ?_;refine Dh 0 1 ?_;refine dN 2 ?_;refine oC ?_;refine Bf (Sk _ g F s4 3 z3 EZ EZ EZ) fun l hl=>?_;obtain ⟨hl1,hl2⟩:=hl;have hl3:l.1.size<=maxLen:=FH
   exact AM
  ·refine go ?_;refine Ar [1] [5,6,7] ?_;refine Dh 0 1 ?_;refine dN 2 ?_;refine oC ?_;refine Bf (Sk _ g F s4 3 z3 EZ EZ EZ) fun l hl=>?_;obtain ⟨hl1,hl2⟩:=hl;have hl3:l.1.size<=maxLen:=FH
   exact AM
  ·refine H9 (x:=z.y) (F:=z.F) ?_;rintro b1 d1 G1 b2 d2 G2 e5 m1 m2;simp only [Value.agg.injEq,Array.mk.injEq,List.cons.injEq,Value.slice.injEq,Value.int.injEq,cQ,cR] at e5;obtain ⟨⟨rfl,rfl⟩, -⟩:=e5;refine Ct z.y.Aa (a1:=z.a) ?_;generalize G1=FW;refine go ?_;refine Ar [4] [8,9,10] ?_;refine Df 0 1 2 3 ?_;refine dN 4 ?_;refine oC ?_;refine Bf (Ai2 _ g F s4 z.y.Aa _ FW z3 EZ (by have:=z1.l6;omega)) fun n hn=>?_;obtain ⟨hn1,hn2⟩:=hn;refine dk ?_;refine dt 5 ?_;refine dN 6 ?_;refine oC ?_
   refine Bf (Y4 z.y ⟨3,n.1,0,0,⟨#[]⟩⟩ _ z.F z1.t0 z1.t1 z1.l6 z1.k0 z1.k1 z1.h1 z1.w hn1.1 hn1.2 GZ (Bdz z1.it)) fun q _=>?_;refine dk ?_;refine dt 7 ?_;refine Q0 8 ?_;refine Q0 9 ?_;refine dN 10 ?_;refine oS ?_;refine Nm ?_;refine dd ?_;refine go ?_;rw [show ((z.i:Nat):Int) - 1=((z.i - 1:Nat):Int) by omega];refine Ca ⟨Nd z.y n.1,q.a,q.c,q.a2,q.c2,q.F,z.i - 1,n.2⟩ ⟨by rw [show r0 - (z.i - 1)=r0 - z.i+1 by omega];exact Beo z1 hn1,KI,hn2.mono HF⟩ GO
  ·refine go ?_;refine Bf (Agb z.y _ z.F z1.t0 z1.t1 z1.l6 z1.k0 z1.k1 z1.q0 z1.q3 (by have:=z1.h1;omega) z1.w) fun q _=>?_;refine go ?_;rw [show ((z.i:Nat):Int) - 1=((z.i - 1:Nat):Int) by omega];refine Ca ⟨Mz z.y,q.a,q.c,q.a2,q.c2,q.F,z.i - 1,s4⟩ ⟨by rw [show r0 - (z.i - 1)=r0 - z.i+1 by omega];exact Bb7 z1,KI,z3.mono HF⟩ GO
 ·have hl7:=z1.l6;have hh7:=z1.h;refine go ?_;refine Bf (Eb _ g F 24 z.s z3 EZ EZ) fun p hp=>?_;obtain ⟨r,s3⟩:=p;obtain ⟨-,hp⟩:=hp;dsimp only at hp ⊢;refine H9 (x:=z.y) (F:=z.F) ?_;rintro b1 d1 G1 b2 d2 G2 e5 m1 m2;simp only [Value.agg.injEq,Array.mk.injEq,List.cons.injEq,Value.slice.injEq,Value.int.injEq,cQ,cR] at e5;obtain ⟨⟨rfl,rfl⟩,rfl,rfl⟩:=e5;refine go ?_;refine A4 rfl (fun e0=>?_) (fun e0=>?_)
  ·refine Io ?_;intros;refine Eh (xs:=[-1,9999,10000]) (fun w=>No w _) ?_ FA;refine Av (E:=Bc) fun G=>?_;refine go ?_;refine Bf (Rq _ g F _ [-1,9999,10000] G s3 hp EZ FA FA) fun q hq=>?_;refine go ?_;refine Fb ⟨z.y.Aa,q.1,z.y.quiet,z.y.holds⟩ (a1:=z.a) ?_;refine ret ⟨⟨z.y.Aa,q.1,z.y.quiet,z.y.holds⟩,_,_,_,_,_,0,q.2⟩ ⟨IJ,KM,hq.2.mono EZ⟩ rfl
  refine go ?_;refine A4 rfl (fun e1=>?_) (fun e1=>?_)
  ·refine Io ?_;intros;refine Eh (xs:=[-1,3,4]) (fun w=>No w _) ?_ FA;refine Av (E:=Bc) fun G=>?_;refine go ?_;refine Bf (Rq _ g F _ [-1,3,4] G s3 hp EZ FA FA) fun q hq=>?_;refine go ?_;refine Fb ⟨z.y.Aa,z.y.Ai,q.1,z.y.holds⟩ (a1:=z.a) ?_;refine ret ⟨⟨z.y.Aa,z.y.Ai,q.1,z.y.holds⟩,_,_,_,_,_,0,q.2⟩ ⟨IJ,KM,hq.2.mono EZ⟩ rfl
  refine go ?_;refine A4 rfl (fun e2=>?_) (fun e2=>?_)
  ·have hkm:=z1.km;have hk0:=z1.k0;refine Io ?_;intros;refine Ar [3] [15] ?_;refine Df 1 2 4 6 ?_;refine Dh 7 8 ?_;refine dN 0 ?_;apply Kg;rfl;intro _;refine Cy Bw ?_;refine dk ?_;refine dN 3 ?_;refine Ni (ys:=z.y.holds) Is Ks fun a7 c7 F7=>?_;rw [aZ];refine dk ?_;refine dN 5 ?_;refine oC ?_;refine Bf (Ws _ g F s3 hp EZ) fun q hq=>?_;refine dk ?_;refine dN 9 ?_;refine oC ?_;refine Bf (Eb _ g F 5 q.2 hq EZ EZ) fun r hr=>?_;obtain ⟨hr1,hr2⟩:=hr;refine dk ?_;refine Dh 10 11 ?_;refine dN 12 ?_;apply Iq;rfl;rfl;rfl;rfl;exact Ik;exact Ih;intro _;refine dk ?_
   refine dN 13 ?_;refine Nb (U2 ⟨q.1,z.y.Ai+(r.1:Nat)⟩) Is fun a9 c9 F9=>?_;refine dk ?_;refine dt 14 ?_;refine dN 15 ?_;refine oS ?_;refine Nm ?_;refine dd ?_;refine go ?_;refine Av (E:=Bw) fun F8=>?_;refine Fb ⟨z.y.Aa,z.y.Ai,z.y.quiet,z.y.holds++[⟨q.1,z.y.Ai+(r.1:Nat)⟩]⟩ (a1:=z.a) ?_;refine ret ⟨⟨z.y.Aa,z.y.Ai,z.y.quiet,z.y.holds++[⟨q.1,z.y.Ai+(r.1:Nat)⟩]⟩,_,_,_,_,_,0,r.2⟩ ⟨IJ,by show (z.y.holds++[_]).length<=20;simp;omega,hr2.mono EZ⟩ rfl
  refine go ?_;refine A4 rfl (fun e3=>?_) (fun e3=>?_)
  ·refine go ?_;refine Bf (Ali _ g F s3 hp EZ) fun q hq=>?_;obtain ⟨hq1,hq2⟩:=hq;refine go ?_;refine Gn (x:=q.y) ?_;rintro b3 d3 G3 e6 m3;simp only [Value.agg.injEq,Array.mk.injEq,List.cons.injEq,Value.slice.injEq,Value.int.injEq,cQ,cR] at e6;obtain ⟨rfl,rfl⟩:=e6;refine Ci Bw FA ?_;refine Fb ⟨q.y,0,0,[]⟩ (a1:=q.a) ?_;refine ret ⟨⟨q.y,0,0,[]⟩,_,_,_,_,_,0,q.s⟩ ⟨by show q.y.Ak.length<=7;omega,by show ([]:List Iz).length<=20;simp,hq2.mono EZ⟩ rfl
  ·refine go ?_;refine ret ⟨z.y,z.a,z.c,z.a2,z.c2,z.F,0,s3⟩ ⟨IJ,KM,hp.mono EZ⟩ rfl
structure OkE (m:Nat) (y:Bh):Prop where
 k0:0<=y.Ai
 k1:y.Ai<=30+m
 l:y.Ah.length<=m
 f:∀x∈y.Ah,x.Bj.length<=m
 mm:m<=100
theorem Ayg {m y} (h:OkE m y) (hm:m+1<=100:=by omega):OkE (m+1) (Eo y):=by
 have:=h.k0;have:=h.k1;have hl:=bJ (fun x:Ha=>!decide (x.Co<=y.Ai+1)) y.Ah;exact ⟨by show 0<=y.Ai+1;omega,by show y.Ai+1<=30+((m+1:Nat):Int);omega,by show (y.Ah.filter _).length<=_;have:=h.l;omega,fun x hx=>by have:=h.f x (bP.1 hx).1;omega,hm⟩
theorem Bb6 {m y} (h:OkE m y) {n f:Int} (hm:m+1<=100:=by omega):OkE (m+1) (Nj y n f):=by
 have:=h.k0;have:=h.k1;have hl:=h.l;have hf:∀x∈y.Ah,x.Bj.length<=m+1:=fun x hx=>by have:=h.f x hx;omega
 unfold Nj
 split
 ·rename_i x hx;refine ⟨h.k0,KB,by show (y.Ah.set _ _).length<=m+1;rw [bU];omega,fun z hz=>?_,hm⟩;rcases bE hz with h'|rfl
  ·exact hf z h'
  ·have:=h.f x (cg hx);have:=Aym x.Bj f;show (Ri x.Bj f).length<=m+1;omega
 ·split
  ·refine ⟨h.k0,KB,by show (y.Ah++[_]).length<=m+1;simp;omega,fun z hz=>?_,hm⟩;rcases aK.1 hz with h'|h'
   ·exact hf z h'
   ·simp at h';subst h';simp
  ·exact ⟨h.k0,KB,EZ,hf,hm⟩
structure ElD where
 y:Bh
 a:aj
 c:Nat
 F:aq
 i:Nat
 s:Nl
theorem Apl (B g:Nat) (F:CuF) (s:Nl) (ok:Hw B s) (hB:B<=700000000000) :
  Fn prog 90 [Ga g 0 0] [.sl Jo (ab F.a F.By.length F.c) F.By F.bs] [.row g 60 0 [] [ab F.a F.By.length F.c,aa (s.k:Nat),.int .u64 s.Hm] []] (fun (z:ElD)=>z.y.Ah.length<=1000/\(∀x∈z.y.Ah,x.Bj.length<=1000)/\Hw (B+2000) z.s) (fun s=>.agg #[aa s.y.Ai,ab s.a s.y.Ah.length s.c])
   (fun s=>[.isv Bv (.agg #[aa s.y.Ai,ab s.a s.y.Ah.length s.c]) s.y s.F,.row g 60 0 [] [ab F.a F.By.length F.c,aa (s.s.k:Nat),.int .u64 s.s.Hm] []]):=by
 refine enter func90 rfl ntmps90 fun w0=>?_;refine go ?_;intros;refine Bf (Eb B g F 30 s ok EZ EZ) fun y hy=>?_;obtain ⟨r1,s1⟩:=y;obtain ⟨hy1,hy2⟩:=hy;dsimp only at hy1 hy2 ⊢;have hr1:r1<=29:=EZ
 refine go ?_;intros;rename_i gg;refine Bf (Ti _ g F s1 hy2 EZ) fun n hn=>?_;obtain ⟨hn1,hn2⟩:=hn;refine go ?_;refine Bf (Eb _ g F 10 n.2 hn2 EZ EZ) fun y hy=>?_;obtain ⟨r0,s2⟩:=y;obtain ⟨hz1,hz2⟩:=hy;dsimp only at hz1 hz2 ⊢;have hr0:r0<=9:=EZ
 refine Ci Dz FA ?_;refine Gc ⟨(r1:Int),[]⟩ ?_;refine go ?_
 refine Bx [0,2,3,4] (fun z:ElD=>[(5,aa (z.i:Nat))]) (fun z=>[.row gg 122 0 [] [aa z.y.Ai,ab z.a z.y.Ah.length z.c] [],.isv Bv (.agg #[aa z.y.Ai,ab z.a z.y.Ah.length z.c]) z.y z.F,.row g 60 0 [] [ab F.a F.By.length F.c,aa (z.s.k:Nat),.int .u64 z.s.Hm] []]) (fun z=>OkE (r0 - z.i) z.y/\z.i<=r0/\Hw (B+20+50 * (r0 - z.i)) z.s) (fun z=>z.i) ⟨⟨(r1:Int),[]⟩,none,0,[],r0,s2⟩ ⟨⟨by show (0:Int)<=(r1:Int);omega,by show (r1:Int)<=_;omega,FB,FB,EZ⟩,aL _,hz2.mono (by show _<=B+20+50 * (r0 - r0);omega)⟩ fun z hz=>?_;obtain ⟨z1,z2,z3⟩:=hz;refine go ?_
 refine A4 rfl (fun h2=>?_) (fun h2=>?_)
 ·have hi0:0 < z.i:=EZ
  refine go ?_;refine Bf (Ad0 _ g F 5 z.s z3 EZ EZ) fun p hp=>?_;obtain ⟨b4,s4⟩:=p;obtain ⟨-,z4⟩:=hp;dsimp only at z4 ⊢;cases b4
  ·refine go ?_;refine Ar [1] [10,11,12] ?_;refine Df 0 1 2 5 ?_;refine dN 3 ?_;refine oC ?_;refine Bf (Eb _ g F 6 s4 z4 EZ EZ) fun p hp=>?_;obtain ⟨p1,p2⟩:=hp;refine dk ?_;refine dN 4 ?_;refine oC ?_;refine ce (fun w s=>Ht _ _ _ EZ EZ) ?_;refine dk ?_;refine dN 6 ?_;refine oC ?_;refine Bf (Eb _ g F 7 p.2 p2 EZ EZ) fun q hq=>?_;obtain ⟨q1,q2⟩:=hq;refine dk ?_;refine dt 7 ?_;refine dN 8 ?_;refine oC ?_
   refine Bf (Vj z.y (Cc n.1 (p.1:Nat)) (1+(q.1:Nat)) _ z.F (by have:=z1.l;omega) (fun x hx=>by have:=z1.f x hx;omega) (by have:=z1.k0;omega) (by have:=z1.k1;omega)) fun u _=>?_;refine Tx Kc fun F7=>?_;refine Ew (v:=u.1) ?_;rintro a6 c6 F6 e6 l6;rw [e6];refine dk ?_;refine dt 9 ?_;refine Q0 10 ?_;refine Q0 11 ?_;refine dN 12 ?_;refine oS ?_;refine Nm ?_;refine dd ?_;refine go ?_;rw [show ((z.i:Nat):Int) - 1=((z.i - 1:Nat):Int) by omega]
   refine Ca ⟨(Nj z.y (Cc n.1 (p.1:Nat)) (1+(q.1:Nat))),a6,c6,F7,z.i - 1,q.2⟩ ⟨by rw [show r0 - (z.i - 1)=r0 - z.i+1 by omega];exact Bb6 z1,KI,q2.mono HF⟩ GO
  ·refine go ?_;refine cr (fun w st=>Ajd _ z.y z.F w (st.get (p:=.isv Bv (.agg #[aa z.y.Ai,ab z.a z.y.Ah.length z.c]) z.y z.F) FB) (Mb.2 ⟨z1.k0,by have:=z1.k1;have:=z1.mm;omega⟩) (by have:=z1.l;omega) (fun x hx=>by have:=z1.f x hx;omega)) fun u F7=>?_;refine Ew (v:=u) ?_;rintro a6 c6 F6 rfl l6;refine go ?_;rw [show ((z.i:Nat):Int) - 1=((z.i - 1:Nat):Int) by omega];refine Ca ⟨Eo z.y,a6,c6,F7,z.i - 1,s4⟩ ⟨by rw [show r0 - (z.i - 1)=r0 - z.i+1 by omega];exact Ayg z1,KI,z4.mono HF⟩ GO
 ·have hl7:=z1.l;refine go ?_;refine Bf (Eb _ g F 24 z.s z3 EZ EZ) fun p hp=>?_;obtain ⟨r,s3⟩:=p;obtain ⟨-,hp⟩:=hp;dsimp only at hp ⊢;refine go ?_;refine A4 rfl (fun e0=>?_) (fun e0=>?_)
  ·refine Ew (x:=z.y) (F:=z.F) ?_;rintro b1 d1 G1 e5 m1;simp only [Value.agg.injEq,Array.mk.injEq,List.cons.injEq,Value.slice.injEq,Value.int.injEq,cQ,cR] at e5;obtain ⟨rfl,rfl⟩:=e5;refine Io ?_;intros;refine Eh (xs:=[-1,9999,10000]) (fun w=>No w _) ?_ FA;refine Av (E:=Bc) fun G=>?_;refine go ?_;refine Bf (Rq _ g F _ [-1,9999,10000] G s3 hp EZ FA FA) fun q hq=>?_;refine go ?_;refine Gc ⟨q.1,z.y.Ah⟩ ?_;refine ret ⟨⟨q.1,z.y.Ah⟩,_,_,_,0,q.2⟩ ⟨by show z.y.Ah.length<=1000;omega,fun e he=>(by have:=z1.f e he;have:=z1.mm;omega),hq.2.mono EZ⟩ rfl
  refine go ?_;refine A4 rfl (fun e1=>?_) (fun e1=>?_)
  ·refine Ew (x:=z.y) (F:=z.F) ?_;rintro b1 d1 G1 e5 m1;simp only [Value.agg.injEq,Array.mk.injEq,List.cons.injEq,Value.slice.injEq,Value.int.injEq,cQ,cR] at e5;obtain ⟨rfl,rfl⟩:=e5;refine Ae3 Vr (xs:=z.y.Ah) (m:=3) rfl fun ys Fy Gy hyl hym=>?_;refine Io ?_;intros;refine Ar [4] [18] ?_;refine Df 1 2 4 6 ?_;refine Dh 9 10 ?_;refine dt 11 ?_;refine dN 0 ?_;apply Kg;rfl;intro _;refine Cy (EC 3) ?_;refine dk ?_;refine dN 3 ?_;refine Ni (ys:=ys) (Pp 3) (H5 3) (fun a7 c7 F7=>?_) (hn:=hyl.symm) (h63:=GW) (hby:=GW);rw [aZ];refine dk ?_;refine dN 5 ?_
   refine oC ?_;refine Bf (Ws _ g F s3 hp EZ) fun q hq=>?_;refine dk ?_;refine dN 7 ?_;refine oC ?_;refine Bf (Eb _ g F 9 q.2 hq EZ EZ) fun r hr=>?_;obtain ⟨hr1,hr2⟩:=hr;refine dk ?_;refine dM 8 12 ?_ ?_
   ·apply Iq;rfl;rfl;rfl;rfl;exact Ik;exact Ih;intro _;rename_i gf;refine Eh (E:=Bc) (xs:=[(r.1:Int)]) (N7 _) ?_ FB;refine Av (E:=Bc) fun F10=>?_;refine dk ?_;refine dN 12 ?_;refine oC ?_;refine Bf (Eb _ g F 9 r.2 hr2 EZ EZ) fun t ht=>?_;obtain ⟨ht1,ht2⟩:=ht;have hk0:=z1.k0;have hk1:=z1.k1;refine dk ?_;refine Dh 13 14 ?_;refine dN 15 ?_;apply Iq;rfl;rfl;rfl;rfl;exact Ik;exact Ih;intro _;refine Su ⟨q.1,[(r.1:Int)],z.y.Ai+(t.1:Nat)⟩ ?_;refine dk ?_;refine dN 16 ?_
    refine Nb (ys:=[([aa q.1,ab (some ⟨gf,0,none⟩) 1 1,aa (z.y.Ai+(t.1:Nat))]:am)]) (W5 (m:=3) (cs:=[aa q.1,ab (some ⟨gf,0,none⟩) 1 1,aa (z.y.Ai+(t.1:Nat))]) rfl FO) (Pp 3) (fun a9 c9 F11=>?_);refine dk ?_;refine dt 17 ?_;refine dN 18 ?_;refine oS ?_;refine Nm ?_;refine dd ?_;refine go ?_;refine Av (E:=EC 3) fun F8=>?_;refine Aos (E:=Dz) (x:=⟨q.1,[(r.1:Int)],z.y.Ai+(t.1:Nat)⟩) ?_
    refine Azr (E:=Dz) (c1:=ys.flatten) (c2:=[aa q.1,ab (some ⟨gf,0,none⟩) 1 1,aa (z.y.Ai+(t.1:Nat))]) (x1:=z.y.Ah) (x2:=[⟨q.1,[(r.1:Int)],z.y.Ai+(t.1:Nat)⟩]) rfl rfl ?_;refine Ps (E:=Dz) (m:=3) (v:=.agg (ys.flatten++([aa q.1,ab (some ⟨gf,0,none⟩) 1 1,aa (z.y.Ai+(t.1:Nat))]:am)).toArray) (ys:=ys++[([aa q.1,ab (some ⟨gf,0,none⟩) 1 1,aa (z.y.Ai+(t.1:Nat))]:am)]) (xs:=z.y.Ah++[(⟨q.1,[(r.1:Int)],z.y.Ai+(t.1:Nat)⟩:Ha)]) rfl HP FB fun F9=>?_
    exact AO
   ·refine oC ?_;refine Bf (Eb _ g F 9 r.2 hr2 EZ EZ) fun t ht=>?_;obtain ⟨ht1,ht2⟩:=ht;have hk0:=z1.k0;have hk1:=z1.k1;refine dk ?_;refine dt 13 ?_;refine dN 8 ?_;apply Iq;rfl;rfl;rfl;rfl;exact Ik;exact Ih;intro _;rename_i gf;refine Eh (E:=Bc) (xs:=[(r.1:Int)]) (N7 _) ?_ FB;refine Av (E:=Bc) fun F10=>?_;refine dk ?_;refine dt 14 ?_;refine dN 15 ?_;apply Iq;rfl;rfl;rfl;rfl;exact Ik;exact Ih;intro _;refine Su ⟨q.1,[(r.1:Int)],z.y.Ai+(t.1:Nat)⟩ ?_;refine dk ?_;refine dN 16 ?_
    refine Nb (ys:=[([aa q.1,ab (some ⟨gf,0,none⟩) 1 1,aa (z.y.Ai+(t.1:Nat))]:am)]) (W5 (m:=3) (cs:=[aa q.1,ab (some ⟨gf,0,none⟩) 1 1,aa (z.y.Ai+(t.1:Nat))]) rfl FO) (Pp 3) (fun a9 c9 F11=>?_);refine dk ?_;refine dt 17 ?_;refine dN 18 ?_;refine oS ?_;refine Nm ?_;refine dd ?_;refine go ?_;refine Av (E:=EC 3) fun F8=>?_;refine Aos (E:=Dz) (x:=⟨q.1,[(r.1:Int)],z.y.Ai+(t.1:Nat)⟩) ?_
    refine Azr (E:=Dz) (c1:=ys.flatten) (c2:=[aa q.1,ab (some ⟨gf,0,none⟩) 1 1,aa (z.y.Ai+(t.1:Nat))]) (x1:=z.y.Ah) (x2:=[⟨q.1,[(r.1:Int)],z.y.Ai+(t.1:Nat)⟩]) rfl rfl ?_;refine Ps (E:=Dz) (m:=3) (v:=.agg (ys.flatten++([aa q.1,ab (some ⟨gf,0,none⟩) 1 1,aa (z.y.Ai+(t.1:Nat))]:am)).toArray) (ys:=ys++[([aa q.1,ab (some ⟨gf,0,none⟩) 1 1,aa (z.y.Ai+(t.1:Nat))]:am)]) (xs:=z.y.Ah++[(⟨q.1,[(r.1:Int)],z.y.Ai+(t.1:Nat)⟩:Ha)]) rfl HP FB fun F9=>?_
    exact AO
  refine go ?_;refine A4 rfl (fun e2=>?_) (fun e2=>?_)
  ·refine Ew (x:=z.y) (F:=z.F) ?_;rintro b1 d1 G1 e5 m1;simp only [Value.agg.injEq,Array.mk.injEq,List.cons.injEq,Value.slice.injEq,Value.int.injEq,cQ,cR] at e5;obtain ⟨rfl,rfl⟩:=e5;have hk0:=z1.k0;have hk1:=z1.k1;refine Ae3 Vr (xs:=z.y.Ah) (m:=3) rfl fun ys Fy Gy hyl hym=>?_;refine Io ?_;intros;refine Ar [4] [11] ?_;refine Df 1 2 4 5 ?_;refine Dh 6 7 ?_;refine dM 0 8 ?_ ?_
   ·apply Kg;rfl;intro _;refine Cy (EC 3) ?_;refine dk ?_;refine dM 3 8 ?_ ?_
    ·refine Ni (ys:=ys) (Pp 3) (H5 3) (fun a7 c7 F7=>?_) (hn:=hyl.symm) (h63:=GW) (hby:=GW);rw [aZ];refine dk ?_;refine dN 8 ?_;apply Iq;rfl;rfl;rfl;rfl;exact Ik;exact Ih;intro _;refine Ci Bc FA ?_;refine Su ⟨77,[],z.y.Ai+2⟩ ?_;refine dk ?_;refine dN 9 ?_;refine Nb (ys:=[([aa 77,ab none 0 0,aa (z.y.Ai+2)]:am)]) (W5 (m:=3) (cs:=[aa 77,ab none 0 0,aa (z.y.Ai+2)]) rfl FO) (Pp 3) (fun a9 c9 F11=>?_);refine dk ?_;refine dt 10 ?_;refine dN 11 ?_;refine oS ?_;refine Nm ?_;refine dd ?_
     refine go ?_;refine Av (E:=EC 3) fun F8=>?_;refine Aos (E:=Dz) (x:=⟨77,[],z.y.Ai+2⟩) ?_;refine Azr (E:=Dz) (c1:=ys.flatten) (c2:=[aa 77,ab none 0 0,aa (z.y.Ai+2)]) (x1:=z.y.Ah) (x2:=[⟨77,[],z.y.Ai+2⟩]) rfl rfl ?_;refine Ps (E:=Dz) (m:=3) (v:=.agg (ys.flatten++([aa 77,ab none 0 0,aa (z.y.Ai+2)]:am)).toArray) (ys:=ys++[([aa 77,ab none 0 0,aa (z.y.Ai+2)]:am)]) (xs:=z.y.Ah++[(⟨77,[],z.y.Ai+2⟩:Ha)]) rfl HP FB fun F9=>?_
     exact AH
    ·apply Iq;rfl;rfl;rfl;rfl;exact Ik;exact Ih;intro _;refine Ci Bc FA ?_;refine Su ⟨77,[],z.y.Ai+2⟩ ?_;refine dk ?_;refine dN 3 ?_;refine Ni (ys:=ys) (Pp 3) (H5 3) (fun a7 c7 F7=>?_) (hn:=hyl.symm) (h63:=GW) (hby:=GW);rw [aZ];refine dk ?_;refine dN 9 ?_;refine Nb (ys:=[([aa 77,ab none 0 0,aa (z.y.Ai+2)]:am)]) (W5 (m:=3) (cs:=[aa 77,ab none 0 0,aa (z.y.Ai+2)]) rfl FO) (Pp 3) (fun a9 c9 F11=>?_);refine dk ?_;refine dt 10 ?_;refine dN 11 ?_;refine oS ?_;refine Nm ?_;refine dd ?_
     refine go ?_;refine Av (E:=EC 3) fun F8=>?_;refine Aos (E:=Dz) (x:=⟨77,[],z.y.Ai+2⟩) ?_;refine Azr (E:=Dz) (c1:=ys.flatten) (c2:=[aa 77,ab none 0 0,aa (z.y.Ai+2)]) (x1:=z.y.Ah) (x2:=[⟨77,[],z.y.Ai+2⟩]) rfl rfl ?_;refine Ps (E:=Dz) (m:=3) (v:=.agg (ys.flatten++([aa 77,ab none 0 0,aa (z.y.Ai+2)]:am)).toArray) (ys:=ys++[([aa 77,ab none 0 0,aa (z.y.Ai+2)]:am)]) (xs:=z.y.Ah++[(⟨77,[],z.y.Ai+2⟩:Ha)]) rfl HP FB fun F9=>?_
     exact AH
   ·apply Iq;rfl;rfl;rfl;rfl;exact Ik;exact Ih;intro _;refine Ci Bc FA ?_;refine Su ⟨77,[],z.y.Ai+2⟩ ?_;refine dk ?_;refine dN 0 ?_;apply Kg;rfl;intro _;refine Cy (EC 3) ?_;refine dk ?_;refine dN 3 ?_;refine Ni (ys:=ys) (Pp 3) (H5 3) (fun a7 c7 F7=>?_) (hn:=hyl.symm) (h63:=GW) (hby:=GW);rw [aZ];refine dk ?_;refine dN 9 ?_;refine Nb (ys:=[([aa 77,ab none 0 0,aa (z.y.Ai+2)]:am)]) (W5 (m:=3) (cs:=[aa 77,ab none 0 0,aa (z.y.Ai+2)]) rfl FO) (Pp 3) (fun a9 c9 F11=>?_);refine dk ?_
    refine dt 10 ?_;refine dN 11 ?_;refine oS ?_;refine Nm ?_;refine dd ?_;refine go ?_;refine Av (E:=EC 3) fun F8=>?_;refine Aos (E:=Dz) (x:=⟨77,[],z.y.Ai+2⟩) ?_;refine Azr (E:=Dz) (c1:=ys.flatten) (c2:=[aa 77,ab none 0 0,aa (z.y.Ai+2)]) (x1:=z.y.Ah) (x2:=[⟨77,[],z.y.Ai+2⟩]) rfl rfl ?_;refine Ps (E:=Dz) (m:=3) (v:=.agg (ys.flatten++([aa 77,ab none 0 0,aa (z.y.Ai+2)]:am)).toArray) (ys:=ys++[([aa 77,ab none 0 0,aa (z.y.Ai+2)]:am)]) (xs:=z.y.Ah++[(⟨77,[],z.y.Ai+2⟩:Ha)]) rfl HP FB fun F9=>?_
    exact AH
  ·refine go ?_;refine ret ⟨z.y,z.a,z.c,z.F,0,s3⟩ ⟨by show z.y.Ah.length<=1000;omega,fun e he=>(by have:=z1.f e he;have:=z1.mm;omega),hp.mono EZ⟩ rfl
theorem M4 {n:Du} (h:At n=true):2<=n.Al.Ac.length/\n.Al.Ac.length<=8/\n.down.length<=8/\n.up.length=n.down.length/\n.Af.length=n.Al.Ac.length/\n.down.length=n.Al.Ac.length:=by
 have hG:=Ax.1 h;have h1:=(Gf hG.t).n0;have h2:=(Gf hG.t).n1;obtain ⟨q1,q2,q3,q4⟩:=Bg.1 hG.l;exact ⟨h1,h2,EZ,EZ,EZ,EZ⟩
theorem Ai0 {n:Du} (h:At n=true):∀q∈n.down++n.up,q.length<=6:=fun q hq=>by
 obtain ⟨-, -,e3,e4⟩:=Hz h;rcases aK.1 hq with hq|hq
 ·exact (C7 (e3 q hq)).1
 ·exact (C7 (e4 q hq)).1
end Go.Proofs.YtkoldibamfjghaaGreatDoor
