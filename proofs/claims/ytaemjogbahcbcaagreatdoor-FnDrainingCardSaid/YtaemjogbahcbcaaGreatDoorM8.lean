/- Part 8 of the proof: 26 texts, one behind the other. -/
import Derived.Test.YtaemjogbahcbcaaGreatDoorM7
open _root_.Go.Proofs.Tryz
set_option maxRecDepth 100000
set_option maxHeartbeats 8000000
set_option linter.all false
set_option linter.unusedVariables false
set_option linter.unusedSimpArgs false
namespace Go.Proofs.YtaemjogbahcbcaaGreatDoor
open Go.RowKit
theorem Ace {v:Int} (h:0≤v):Lib.itoa v=Lib.decDigits v.natAbs:=by unfold Lib.itoa;rw [if_neg (by omega),show v.toNat=v.natAbs by omega]
theorem Aqq (n:Int) (h0:0≤n) (h1:n≤999999) (w:World):Calls prog 217 #[.int .i64 n] w fun e w2=>e=.returned (.string (bz (Lib.itoa n)))∧Below w.heap.size w w2:=by
 have:=Asf n.toNat (by omega) w
 rw [show ((n.toNat:Nat):Int)=n by omega,show n.toNat=n.natAbs by omega,←Ace h0] at this
 exact this
theorem Aav (i:Nat) (hi:i≤100):Fn prog 144 [.int .i64 (i:Nat)] [] [] (fun (_:Unit)=>True) (fun _=>.int .i64 (Ks i)) (fun _=>[]):=by
 refine enter func144 rfl ntmps144 fun w0=>?_
 refine go ?_;intros
 refine ret () trivial rfl
theorem Re (i:Nat) (hi:i≤100):Fn prog 160 [.int .i64 (i:Nat)] [] [] (fun (_:Unit)=>True) (fun _=>.int .i64 (Ks i)) (fun _=>[]):=by
 refine enter func160 rfl ntmps160 fun w0=>?_
 refine go ?_;intros
 refine ret () trivial rfl
theorem Am2 (i:Nat) (es:List ByteArray) (a:Option Addr) (c:Nat) (F FT:List Nat) (hi:i≤100) (hl:es.length≤1000000) (hz:∀e∈es,e.size≤1000000):Fn prog 145 [.int .i64 (i:Nat),.slice a es.length c] [.sl Ba (.slice a es.length c) es F,Lw FT] [] (fun (_:KA)=>True) (fun z=>.slice z.a (Si i es).length z.c) (fun z=>[.ow Ba 9 (.slice z.a (Si i es).length z.c) (Si i es) z.F]):=by
 have hs0:(bz (Lib.itoa ((i:Nat):Int))).size≤6:=by rw [Ab5,Ace (by omega)];exact Tc 5 _ (by have:(10:Nat) ^ (5+1)=1000000:=rfl;omega)
 refine enter func145 rfl ntmps145 fun w0=>?_
 refine Cb Ba 9 ?_
 refine go ?_;intros
 refine Cp [0,4,8,9] (fun z:KA=>[(5,.slice z.a ((es.take z.k).map (Mj i)).length z.c),(10,.int .i64 (z.k:Nat))]) (fun z=>[.ow Ba 9 (.slice z.a ((es.take z.k).map (Mj i)).length z.c) ((es.take z.k).map (Mj i)) z.F]) (fun z=>z.k≤es.length) (fun z=>es.length - z.k) ⟨0,none,0,[]⟩ (Nat.zero_le _) fun z hz0=>?_
 have hml:((es.take z.k).map (Mj i)).length=z.k:=by rw [List.length_map,List.length_take];omega
 refine go ?_;intros
 refine Bg rfl (fun h1=>?_) (fun h1=>?_)
 ·have hk:z.k < es.length:=by omega
  have hse:=hz _ (List.getElem_mem hk)
  have z1:(⟨#[32]⟩:ByteArray).size=1:=rfl
  have zs:(bz (Lib.itoa ((i:Nat):Int))++⟨#[32]⟩).size=_:=ByteArray.size_append
  have zt:(bz (Lib.itoa ((i:Nat):Int))++⟨#[32]⟩++es[z.k]).size=_:=ByteArray.size_append
  have hst:((es.take z.k).map (Mj i))++[Mj i es[z.k]]=(es.take (z.k+1)).map (Mj i):=by rw [List.take_succ_eq_append_getElem hk,List.map_append];rfl
  have hte:(Mj i es[z.k]).size≤1000010:=by unfold Mj;omega
  refine V1 (xs:=es) z.k ?_
  rintro hi b o e1 s1
  rw [e1]
  refine go ?_;intros
  refine cb (fun w st=>Aqn ((i:Nat):Int) (by omega) (by omega) FT w (st.get (p:=Lw FT) (by exact B8))) ?_
  refine Jm ?_;intros
  apply wO
  refine Mf (ys:=[Mj i es[z.k]]) (Ahe (by unfold maxLen;omega)) Ed fun a9 c9 F9=>?_
  rw [hst]
  refine go ?_;intros
  refine Ck ⟨z.k+1,a9,c9,F9⟩ hk (by show es.length - (z.k+1) < es.length - z.k;omega)
 ·rw [show es.take z.k=es from List.take_of_length_le (by omega)]
  refine go ?_;intros
  refine ret z trivial rfl
theorem Abc (i:Nat) (es:List ByteArray) (a:Option Addr) (c:Nat) (F FT:List Nat) (hi:i≤100) (hl:es.length≤1000000) (hz:∀e∈es,e.size≤1000000):Fn prog 161 [.int .i64 (i:Nat),.slice a es.length c] [.sl Ba (.slice a es.length c) es F,Lw FT] [] (fun (_:KA)=>True) (fun z=>.slice z.a (Si i es).length z.c) (fun z=>[.ow Ba 9 (.slice z.a (Si i es).length z.c) (Si i es) z.F]):=by
 have hs0:(bz (Lib.itoa ((i:Nat):Int))).size≤6:=by rw [Ab5,Ace (by omega)];exact Tc 5 _ (by have:(10:Nat) ^ (5+1)=1000000:=rfl;omega)
 refine enter func161 rfl ntmps161 fun w0=>?_
 refine go ?_;intros
 refine C9 Ba ?_
 refine Cp [0,1,4] (fun z:KA=>[(5,.slice z.a ((es.take z.k).map (Mj i)).length z.c),(6,.int .i64 (z.k:Nat))]) (fun z=>[.ow Ba 9 (.slice z.a ((es.take z.k).map (Mj i)).length z.c) ((es.take z.k).map (Mj i)) z.F]) (fun z=>z.k≤es.length) (fun z=>es.length - z.k) ⟨0,_,0,_⟩ (Nat.zero_le _) fun z hz0=>?_
 have hml:((es.take z.k).map (Mj i)).length=z.k:=by rw [List.length_map,List.length_take];omega
 refine go ?_;intros
 refine Bg rfl (fun h1=>?_) (fun h1=>?_)
 ·have hk:z.k < es.length:=by omega
  have hse:=hz _ (List.getElem_mem hk)
  have z1:(⟨#[32]⟩:ByteArray).size=1:=rfl
  have zs:(bz (Lib.itoa ((i:Nat):Int))++⟨#[32]⟩).size=_:=ByteArray.size_append
  have zt:(bz (Lib.itoa ((i:Nat):Int))++⟨#[32]⟩++es[z.k]).size=_:=ByteArray.size_append
  have hst:((es.take z.k).map (Mj i))++[Mj i es[z.k]]=(es.take (z.k+1)).map (Mj i):=by rw [List.take_succ_eq_append_getElem hk,List.map_append];rfl
  have hte:(Mj i es[z.k]).size≤1000010:=by unfold Mj;omega
  refine V1 (xs:=es) z.k ?_
  rintro hi b o e1 s1
  rw [e1]
  refine go ?_;intros
  refine As [0] [] ?_
  refine dt 0 ?_
  refine dt 1 ?_
  refine dt 4 ?_
  refine dt 5 ?_
  refine dt 6 ?_
  refine dt 7 ?_
  refine dO 2 (by kernel_rfl) (by rw [List.getElem?_toArray];rfl) ?_
  apply At;rfl;kernel_rfl;exact Bf
  refine cb (fun w st=>Aqq ((i:Nat):Int) (by omega) (by omega) w) ?_
  refine dk ?_
  refine dt 3 ?_
  refine dt 8 ?_
  refine dO 9 (by kernel_rfl) (by rw [List.getElem?_toArray];rfl) ?_
  apply Ho;rfl;rfl;rfl;rfl;exact Hl;exact Hg;intro _
  refine dk ?_
  refine dO 10 (by kernel_rfl) (by rw [List.getElem?_toArray];rfl) ?_
  refine Mf (ys:=[Mj i es[z.k]]) (Ahe (by unfold maxLen;omega)) Ed fun a9 c9 F9=>?_
  refine dk ?_
  refine dt 11 ?_
  refine dd ?_
  rw [hst]
  refine go ?_;intros
  refine Ck ⟨z.k+1,a9,c9,F9⟩ hk (by show es.length - (z.k+1) < es.length - z.k;omega)
 ·rw [show es.take z.k=es from List.take_of_length_le (by omega)]
  refine go ?_;intros
  refine ret z trivial rfl
theorem Oy (y:A4) (w:World):Cw Ay w [.int .i64 y.Ae,.int .i64 y.Gj,.int .i64 y.Ca,.int .i64 y.Dn] [y] []:=⟨_,[],[],[],by simp,by simp,⟨rfl,rfl⟩,rfl,rfl⟩
theorem Akb (xs:List A4) (y:A4) (i:Nat) (a:Option Addr) (c vb:Nat) (F:List Nat) (hi:i≤xs.length) (hl:xs.length≤1000000) :
  Fn prog 304 [.slice a xs.length c,.int .i64 i,.slice (some ⟨vb,0,none⟩) 1 1] [] [.ow Ay 165 (.slice a xs.length c) xs F,.row vb 165 0 [] [.int .i64 y.Ae,.int .i64 y.Gj,.int .i64 y.Ca,.int .i64 y.Dn] []] (fun (_:Option Addr × Nat × List Nat)=>True)
   (fun z=>.slice z.1 (xs.take i++y::xs.drop i).length z.2.1) (fun z=>[.ow Ay 165 (.slice z.1 (xs.take i++y::xs.drop i).length z.2.1) (xs.take i++y::xs.drop i) z.2.2]):=by
 have hone:∀w':World,∀cs:List Value,Cw Ay w' cs xs []→∀u∈cs,u.oneCell'=true:=fun w' cs h=>h.one' C2
 have hy:=Oy y
 have h1y:∀u∈([.int .i64 y.Ae,.int .i64 y.Gj,.int .i64 y.Ca,.int .i64 y.Dn]:List Value),u.oneCell'=true:=by intro u hu;simp at hu;rcases hu with rfl|rfl|rfl|rfl <;> rfl
 refine enter func304 rfl ntmps304 fun w0=>?_
 refine Ahh (E:=Ay) fun hc1 hc2=>?_
 refine go ?_;intros
 apply wO
 refine Acm rfl rfl rfl rfl hi (fun _=>?_) hc1
 refine go ?_;intros
 refine Bg rfl (fun h1=>?_) (fun h1=>?_)
 ·have hin:i=xs.length:=by omega
  subst hin
  have e:xs.take xs.length++y::xs.drop xs.length=xs++[y]:=by simp
  refine go ?_;intros
  apply wO
  refine Mf hy C2 fun a2 c2 F2=>?_
  rw [e]
  refine go ?_;intros
  refine ret (a2,c2,F2) trivial rfl
 ·have hlt:i < xs.length:=by omega
  refine Ac1 (xs:=xs) Ds (by rintro rfl;simp at hlt) ?_
  rintro g cs rest rfl - - - hcl hcr hfl
  rw [show Ay.sz=4 from rfl] at hcl hcr
  have h1c:=hone w0 cs (hfl w0)
  obtain ⟨A,B,hcs,hA,hB⟩:∃A B,cs=A++B∧A=cs.take (i * 4)∧B=cs.drop (i * 4):=⟨_,_,(List.take_append_drop _ _).symm,rfl,rfl⟩
  have hAl:A.length=i * 4:=by rw [hA,List.length_take];omega
  have hBl:B.length=(xs.length - i) * 4:=by rw [hB,List.length_drop];omega
  have hins:∀w,Cw Ay w (A++[.int .i64 y.Ae,.int .i64 y.Gj,.int .i64 y.Ca,.int .i64 y.Dn]++B) (xs.take i++y::xs.drop i) []:=fun w=>by rw [hA,hB];exact (hfl w).insL (hy w) i hi
  have h1A:∀u∈A,u.oneCell'=true:=fun u hu=>h1c u (by rw [hcs];simp [hu])
  have h1B:∀u∈B,u.oneCell'=true:=fun u hu=>h1c u (by rw [hcs];simp [hu])
  have hlen:(xs.take i++y::xs.drop i).length=xs.length+1:=by simp;omega
  clear hA hB hfl hone
  subst hcs
  have eA:A=((A++B++rest).drop 0).take (i * 4):=by rw [List.drop_zero,List.append_assoc,List.take_left' hAl]
  have eB:B=((A++B++rest).drop (0+i * 4)).take ((xs.length - i) * 4):=by rw [Nat.zero_add,List.append_assoc,List.drop_left' hAl,List.take_left' hBl]
  rw [hlen]
  refine go ?_;intros
  apply wO;apply oc;rfl;exact Agm rfl
  refine go ?_;intros
  refine Bg rfl (fun h2=>?_) (fun h2=>?_)
  ·refine go ?_;intros
   apply wO;apply oc;rfl;exact Mc (i:=i) rfl rfl rfl (by omega) (by omega)
   refine go ?_;intros
   apply wO
   refine Afy (k:=xs.length+1 - i) (olds:=A) rfl rfl rfl (by omega) (Kj (m:=i * 4) (.head _) eA) (by omega) (by decide) (by omega) (by omega) (by omega) (by omega) fun g' cp' Z rest' h3 h4 h5 h6=>?_
   rw [show i+(xs.length+1 - i)=xs.length+1 by omega] at h3 ⊢
   obtain ⟨Z1,Z2,rfl,hZ1,hZ2⟩:∃Z1 Z2,Z=Z1++Z2∧Z1.length=4∧Z2.length=B.length:=⟨Z.take 4,Z.drop 4,(List.take_append_drop _ _).symm,by rw [List.length_take];omega,by rw [List.length_drop];omega⟩
   refine go ?_;intros
   apply wO;apply oc;rfl;exact Iz (i:=i) rfl rfl rfl (by omega) (by omega) (by omega)
   refine go ?_;intros
   apply wO
   refine Sc (cs:=[.int .i64 y.Ae,.int .i64 y.Gj,.int .i64 y.Ca,.int .i64 y.Dn]) (L':=A++[.int .i64 y.Ae,.int .i64 y.Gj,.int .i64 y.Ca,.int .i64 y.Dn]++(Z2++rest')) rfl rfl rfl (Kj (L:=[.int .i64 y.Ae,.int .i64 y.Gj,.int .i64 y.Ca,.int .i64 y.Dn]) (o:=0) (m:=4) (by exact B8) rfl) .here (Xx (M:=Z1) (by simp [List.append_assoc]) (by omega) (by simpa using hZ1)) (by show 4=min 1 (xs.length+1 - i) * 4;omega) (by simp only [List.length_append,List.length_cons,List.length_nil];omega) h1y ?_
   refine go ?_;intros
   refine As [] [] ?_
   refine dt 0 ?_
   refine dt 1 ?_
   refine dt 2 ?_
   refine dt 3 ?_
   refine dt 4 ?_ (hy:=Iz (i:=i+1) rfl rfl (by omega) (by omega) (by omega) (by omega))
   refine dt 5 ?_
   refine dt 6 ?_
   refine dt 7 ?_ (hy:=Iz (i:=i) rfl rfl (by omega) (by omega) (by omega) (by omega))
   refine dO 8 (by kernel_rfl) (by rw [List.getElem?_toArray];rfl) ?_
   refine Sc (cs:=B) (L':=A++[.int .i64 y.Ae,.int .i64 y.Gj,.int .i64 y.Ca,.int .i64 y.Dn]++B++rest') rfl rfl rfl (Kj (by exact B8) eB) .here (Xx (P:=A++[.int .i64 y.Ae,.int .i64 y.Gj,.int .i64 y.Ca,.int .i64 y.Dn]) (M:=Z2) (by simp [List.append_assoc]) (by simp only [List.length_append,List.length_cons,List.length_nil];omega) hZ2) (by rw [hBl];congr 1;show _=min (xs.length - i) (xs.length+1 - (i+1));omega) (by simp only [List.length_append,List.length_cons,List.length_nil];omega) h1B ?_
   refine dk ?_
   refine dd ?_
   refine Ws (cs:=A++[.int .i64 y.Ae,.int .i64 y.Gj,.int .i64 y.Ca,.int .i64 y.Dn]++B) (rest:=rest') (xs:=xs.take i++y::xs.drop i) cp' rfl hins (by omega) h4 (by rw [show Ay.sz=4 from rfl];simp only [List.length_append,List.length_cons,List.length_nil] at h6 ⊢;omega) ?_
   rw [hlen]
   refine go ?_;intros
   refine ret (_,cp',[g']) trivial rfl
  ·have hcx:xs.length+1≤c:=by omega
   obtain ⟨X,Y,hXY,hX,hY⟩:=Agb (B:=B) (R:=rest) 4 (by omega)
   refine go ?_;intros
   apply wO;apply oc;rfl;exact Mc (i:=xs.length+1) rfl rfl (by omega) (by omega) (by omega)
   refine go ?_;intros
   apply wO;apply oc;rfl;exact Iz (i:=i+1) rfl rfl (by omega) (by omega) (by omega) (by omega)
   refine Jm ?_;intros
   apply wO
   refine Alu rfl Bf (ovl (tS:=82) (tR:=4) (run_callFunc_extern func310 (by kernel_rfl) (by kernel_rfl) (by kernel_rfl) (e:=Extern.SlicesOverlaps.overlaps #[82,82] #[4]) (by kernel_rfl)) (.there .here) (.head _) (by intro e;have:=congrArg List.length e;simp only [List.length_append,List.length_nil] at this;omega)) ?_
   refine go ?_;intros
   refine As [] [] ?_
   refine dt 0 ?_
   refine dt 1 ?_
   refine dt 2 ?_
   refine dt 3 ?_
   refine dt 4 ?_ (hy:=Iz (i:=i+1) rfl rfl (by omega) (by omega) (by omega) (by omega))
   refine dt 5 ?_
   refine dt 6 ?_
   refine dt 7 ?_ (hy:=Iz (i:=i) rfl rfl (by omega) (by omega) (by omega) (by omega))
   refine dO 8 (by kernel_rfl) (by rw [List.getElem?_toArray];rfl) ?_
   refine Sc (cs:=B) (L':=A++X++B++rest.drop 4) rfl rfl rfl (Kj (by exact B8) eB) .here (Xx (P:=A++X) (M:=Y) (by rw [List.append_assoc A B rest,hXY];simp [List.append_assoc]) (by simp only [List.length_append];omega) hY) (by rw [hBl];congr 1;show _=min (xs.length+1 - i) (xs.length+1 - (i+1));omega) (by simp only [List.length_append];omega) h1B ?_
   refine dk ?_
   refine dd ?_
   refine go ?_;intros
   apply wO;apply oc;rfl;exact Iz (i:=i) rfl rfl rfl (by omega) (by omega) (by omega)
   refine go ?_;intros
   apply wO
   refine Sc (cs:=[.int .i64 y.Ae,.int .i64 y.Gj,.int .i64 y.Ca,.int .i64 y.Dn]) (L':=A++[.int .i64 y.Ae,.int .i64 y.Gj,.int .i64 y.Ca,.int .i64 y.Dn]++(B++rest.drop 4)) rfl rfl rfl (Kj (L:=[.int .i64 y.Ae,.int .i64 y.Gj,.int .i64 y.Ca,.int .i64 y.Dn]) (o:=0) (m:=4) (by exact B8) rfl) .here (Xx (M:=X) (by simp [List.append_assoc]) (by omega) (by simpa using hX)) (by show 4=min 1 (xs.length+1 - i) * 4;omega) (by simp only [List.length_append,List.length_cons,List.length_nil];omega) h1y ?_
   refine go ?_;intros
   refine Ws (L:=A++[.int .i64 y.Ae,.int .i64 y.Gj,.int .i64 y.Ca,.int .i64 y.Dn]++(B++rest.drop 4)) (cs:=A++[.int .i64 y.Ae,.int .i64 y.Gj,.int .i64 y.Ca,.int .i64 y.Dn]++B) (rest:=rest.drop 4) (xs:=xs.take i++y::xs.drop i) c (by simp [List.append_assoc]) hins (by omega) (by omega) (by rw [show Ay.sz=4 from rfl];simp only [List.length_append,List.length_cons,List.length_nil,List.length_drop];omega) ?_
   rw [hlen]
   refine ret (_,c,[g]) trivial rfl
instance:IntC prog 199 .u64:=⟨underlying199⟩
theorem Aht (fid:FuncId) (caps:List Value) (A:List Pc) (hA:A.all (fun p=>!p.mu)=true) (xs:List A4) (a:Option Addr) (c:Nat) (F:List Nat) (tv:Value) (f:A4→Int) (hm:∀i j (_:i≤j) (hj:j < xs.length),f xs[j] < 0→f (xs[i]'(by omega)) < 0) (hb:Om prog fid=true) (hl:xs.length≤1000000)
  (hp:∀x∈xs,∀w,Nf A w→Calls prog fid ([.agg #[.int .i64 x.Ae,.int .i64 x.Gj,.int .i64 x.Ca,.int .i64 x.Dn],tv]++caps).toArray w fun e w'=>e=.returned (.int .i64 (f x))∧Below w.heap.size w w') :
  Fn prog 291 [.slice a xs.length c,tv,.func (.func fid) #[] caps.toArray] (.sl Ay (.slice a xs.length c) xs F::A) [] (fun (_:Unit)=>True) (fun _=>.tuple #[.int .i64 ((xs.takeWhile fun x=>decide (f x < 0)).length:Nat),.bool (An6 f xs[(xs.takeWhile fun x=>decide (f x < 0)).length]?)]) (fun _=>[]):=by
 refine enter func291 rfl ntmps291 (fun w0=>?_) rfl (by simpa [Pc.mu] using hA) .nil
 refine go ?_;intros
 refine Dv [0,1,2,6,7,8] (fun s:Nat × Nat=>[(9,.int .i64 (s.1:Nat)),(10,.int .i64 (s.2:Nat))]) (fun s=>s.1≤s.2∧s.2≤xs.length∧(∀j (_:j < s.1) (h:j < xs.length),f xs[j] < 0)∧(∀j (_:s.2≤j) (h:j < xs.length),¬f xs[j] < 0)) (fun s=>s.2 - s.1) (0,xs.length) ⟨Nat.zero_le _,Nat.le_refl _,fun j h=>by omega,fun j h1 h2=>by omega⟩ fun s hs=>?_
 obtain ⟨i,j⟩:=s
 obtain ⟨h1,h2,h3,h4⟩:=hs
 dsimp only at h1 h2 h3 h4 ⊢
 refine go ?_;intros
 refine Bg rfl (fun h5=>?_) (fun h5=>?_)
 ·have hh:(i+j) / 2 < xs.length:=by omega
  have e2:((i:Int)+(j:Int)) / 2=(((i+j) / 2:Nat):Int):=by omega
  refine go ?_;intros
  apply wO;apply oc;rfl;exact Agn rfl (by omega) (by omega)
  refine go ?_;intros
  apply wO;apply oc;rfl;exact Ac7 rfl
  rw [e2]
  apply wO;apply oc;rfl;exact Ahn rfl (by omega) (by omega)
  generalize hq:(i+j) / 2=q at hh
  refine go ?_;intros
  refine Hv (xs:=xs) q ?_
  rintro hi b o e
  rw [e]
  refine go ?_;intros
  apply wO
  refine Ya rfl rfl hb Bf ?_
  refine cb (fun w st=>hp xs[q] (List.getElem_mem hh) w (fun p hp=>st.on p (by simp [hp]))) ?_
  refine go ?_;intros
  refine Bg rfl (fun h6=>?_) (fun h6=>?_)
  ·refine go ?_;intros
   refine Rs ?_
   refine Ck (hH:=I6 _) (q+1,j) ⟨by show q+1≤j;omega,h2,fun k hk h=>hm k q (by have:k < q+1:=hk;omega) hh h6,h4⟩ (by show j - (q+1) < j - i;omega)
  ·refine go ?_;intros
   refine Rs ?_
   refine Ck (hH:=I6 _) (i,q) ⟨by show i≤q;omega,by show q≤xs.length;omega,h3,fun k hk h hn=>h6 (hm q k hk h hn)⟩ (by show q - i < j - i;omega)
 ·have hij:i=j:=by omega
  subst hij
  have hk:(xs.takeWhile fun x=>decide (f x < 0)).length=i:=Sy h2 (fun j hj h=>decide_eq_true (h3 j hj h)) (fun h=>decide_eq_false (h4 i (Nat.le_refl _) h))
  rw [hk]
  refine go ?_;intros
  refine Dc rfl rfl (fun h6=>?_) (fun h6=>?_)
  ·have hh:i < xs.length:=by omega
   rw [List.getElem?_eq_getElem hh]
   refine go ?_;intros
   refine Hv (xs:=xs) i ?_
   rintro hi b o e
   rw [e]
   refine go ?_;intros
   apply wO
   refine Ya rfl rfl hb Bf ?_
   refine cb (fun w st=>hp xs[i] (List.getElem_mem hh) w (fun p hp=>st.on p (by simp [hp]))) ?_
   refine go ?_;intros
   refine ret () trivial rfl
  ·rw [List.getElem?_eq_none (by omega)]
   refine go ?_;intros
   refine ret () trivial rfl
theorem Amp {base n:Int} {l:List A4} (hser:∀q∈l,B9 q.Ae=true) (hn:B9 n=true):(l.takeWhile fun x=>decide (gp base x.Ae - gp base n < 0)).length=D5 base l n ∧
  An6 (fun x:A4=>gp base x.Ae - gp base n) l[(l.takeWhile fun x=>decide (gp base x.Ae - gp base n < 0)).length]?=Kl base l n:=by
 have e:(fun x:A4=>decide (gp base x.Ae - gp base n < 0))=fun h=>decide (gp base h.Ae < gp base n):=by
  funext x;rw [decide_eq_decide];omega
 have e1:(l.takeWhile fun x=>decide (gp base x.Ae - gp base n < 0)).length=D5 base l n:=by unfold D5;rw [e]
 refine ⟨e1,?_⟩
 rw [e1]
 unfold Kl
 cases hq:l[D5 base l n]? with
 | none=>rfl
 | some z =>
  show decide (gp base z.Ae - gp base n=0)=decide (z.Ae=n)
  rw [decide_eq_decide]
  exact ⟨fun h=>Apv (t:=base) (hser z (List.mem_of_getElem? hq)) hn (by omega),fun h=>by rw [h];omega⟩
theorem Ar7 (r:A4) (n t:Int) (gb:Nat) (t0:0≤t) (t1:t≤65535) (n0:0≤n) (n1:n≤65535) (m0:0≤r.Ae) (m1:r.Ae≤65535) :
  Fn prog 292 [.agg #[.int .i64 r.Ae,.int .i64 r.Gj,.int .i64 r.Ca,.int .i64 r.Dn],.int .i64 n,Ez gb 0 0] [.cel gb 0 [.int .i64 t]] [] (fun (_:Unit)=>True) (fun _=>.int .i64 (gp t r.Ae - gp t n)) (fun _=>[]):=by
 have b1:=Jb t r.Ae
 have b2:=Jb t n
 refine enter func292 rfl ntmps292 fun w0=>?_
 refine go ?_;intros
 refine As [0,1] [] ?_
 refine dt 0 ?_
 refine dt 1 ?_
 refine dt 2 ?_
 refine dt 4 ?_
 refine dt 5 ?_
 refine dO 3 (by kernel_rfl) (by rw [List.getElem?_toArray];rfl) ?_
 apply At;rfl;kernel_rfl;exact Bf
 refine ce (fun w s=>Mo _ _ _ (by omega) (by omega) (by omega) (by omega)) ?_
 refine dk ?_
 refine dO 6 (by kernel_rfl) (by rw [List.getElem?_toArray];rfl) ?_
 apply At;rfl;kernel_rfl;exact Bf
 refine ce (fun w s=>Mo _ _ _ (by omega) (by omega) (by omega) (by omega)) ?_
 refine dk ?_
 refine dt 7 ?_
 refine dt 8 ?_
 refine dd ?_
 refine go ?_;intros
 refine ret () trivial rfl
theorem Tr (l:List A4) (base n:Int) (a:Option Addr) (c:Nat) (F:List Nat) (hq:Jq l base=true) (hn:B9 n=true) :
  Fn prog 270 [.slice a l.length c,.int .i64 base,.int .i64 n] [.sl Ay (.slice a l.length c) l F] [] (fun (_:Unit)=>True) (fun _=>.tuple #[.int .i64 (D5 base l n:Nat),.bool (Kl base l n)]) (fun _=>[]):=by
 obtain ⟨q1,q2,q3,q4⟩:=Dq.1 hq
 have hser:∀q∈l,B9 q.Ae=true:=fun q h=>(Eb.1 (q3 q h)).n
 obtain ⟨b0,b1⟩:=A9.1 q1
 obtain ⟨n0,n1⟩:=A9.1 hn
 obtain ⟨e1,e2⟩:=Amp (base:=base) hser hn
 refine enter func270 rfl ntmps270 fun w0=>?_
 refine go ?_;intros
 rename_i gb
 refine cb (fun w st=>by
  have r1:=st.get (p:=.row gb 3 0 [] [.int .i64 base] []) (by simp)
  have hw:=(st.get (p:=.sl Ay (.slice a l.length c) l F) (by simp)).2
  refine (Aht 292 [Ez gb 0 0] [.cel gb 0 [.int .i64 base]] rfl l a c F (.int .i64 n) (fun r=>gp base r.Ae - gp base n) (fun i j hij hj h=>?_) (by kernel_rfl) (by omega) fun x hx w' hA=>?_).val w ?_
  ·rcases Nat.lt_or_eq_of_le hij with h2|rfl
   ·have:=List.pairwise_iff_getElem.1 q4 i j (by omega) hj h2;omega
   ·exact h
  ·obtain ⟨m0,m1⟩:=A9.1 (hser x hx)
   exact (Ar7 x n base gb b0 b1 n0 n1 m0 m1).val w' hA
  ·intro p hp
   simp only [List.mem_cons,List.not_mem_nil,or_false] at hp
   rcases hp with rfl|rfl
   ·exact st.get (by simp)
   ·exact ⟨by simp,Gh r1⟩) ?_
 rw [e2,e1]
 refine go ?_;intros
 refine ret () trivial rfl
theorem Y7 (l:List A4) (base n:Int) (a:Option Addr) (c:Nat) (F:List Nat) (hq:Jq l base=true) (hn:B9 n=true) :
  Fn prog 254 [.slice a l.length c,.int .i64 base,.int .i64 n] [.sl Ay (.slice a l.length c) l F] [] (fun (_:Unit)=>True) (fun _=>.tuple #[.int .i64 (D5 base l n:Nat),.bool (Kl base l n)]) (fun _=>[]):=by
 obtain ⟨q1,q2,q3,q4⟩:=Dq.1 hq
 have hser:∀q∈l,B9 q.Ae=true:=fun q h=>(Eb.1 (q3 q h)).n
 obtain ⟨b0,b1⟩:=A9.1 q1
 obtain ⟨n0,n1⟩:=A9.1 hn
 obtain ⟨t1,t2,t3⟩:=N1 (p:=fun r:A4=>decide (gp base r.Ae < gp base n)) (xs:=l)
 have hle:=Pe base l n
 have hb2:=Jb base n
 refine enter func254 rfl ntmps254 fun w0=>?_
 refine go ?_;intros
 refine Cp [0,1,2,6,7] (fun k:Nat=>[(8,.int .i64 (k:Nat))]) (fun _=>[]) (fun k=>k≤D5 base l n) (fun k=>l.length - k) 0 (Nat.zero_le _) fun k hk=>?_
 have leaf:∀h:k < l.length,decide (gp base l[k].Ae < gp base n)=decide (k < D5 base l n):=fun h=>by
  by_cases h2:k < D5 base l n
  ·rw [decide_eq_true h2];exact t2 k h2 h
  ·have e:k=D5 base l n:=by omega
   subst e
   rw [decide_eq_false h2];exact t3 h
 refine go ?_;intros
 refine Dc rfl rfl (fun h4=>?_) (fun h4=>?_)
 ·have hi:k < l.length:=by omega
  refine go ?_;intros
  refine Hv (xs:=l) k ?_
  rintro hi b o e
  rw [e]
  refine go ?_;intros
  obtain ⟨m0,m1⟩:=A9.1 (hser _ (List.getElem_mem hi))
  have hb1:=Jb base l[k].Ae
  refine ce (fun w s=>H8 _ _ _ (by omega) (by omega)) ?_
  refine go ?_;intros
  refine ce (fun w s=>H8 _ _ _ (by omega) (by omega)) ?_
  have lf:=leaf hi
  refine go ?_;intros
  refine Bg rfl (fun h5=>?_) (fun h5=>?_)
  ·have h6:k < D5 base l n:=by rw [decide_eq_true h5] at lf;simpa using lf.symm
   refine go ?_;intros
   refine Ck (k+1) (by show k+1≤D5 base l n;omega) (by show l.length - (k+1) < l.length - k;omega)
  ·have h6:k=D5 base l n:=by rw [decide_eq_false h5] at lf;have:¬k < D5 base l n:=by simpa using lf.symm
                             omega
   refine go ?_;intros
   refine As [0] [] ?_
   refine dt 0 ?_
   refine dt 1 ?_
   refine dt 2 ?_
   refine dt 3 ?_
   refine dt 4 ?_
   rw [decide_eq_true h4]
   refine dt 5 ?_
   refine Dh 6 ?_
   refine Dh 7 ?_
   refine Dh 8 ?_
   refine Dh 9 ?_
   refine Dh 10 ?_
   refine Dh 11 ?_
   refine Dh 12 ?_
   refine dt 13 ?_
   refine dt 14 ?_
   refine dt 15 ?_
   refine dd ?_
   rw [Qg (by omega)]
   subst h6
   refine go ?_;intros
   refine ret () trivial rfl
 ·have h6:k=D5 base l n:=by omega
  refine go ?_;intros
  refine As [0] [] ?_
  refine dt 0 ?_
  refine dt 1 ?_
  refine dt 2 ?_
  refine dt 3 ?_
  refine dt 4 ?_
  rw [decide_eq_false h4]
  refine dt 5 ?_
  refine ds 6 ?_
  refine ds 7 ?_
  refine ds 8 ?_
  refine ds 9 ?_
  refine ds 10 ?_
  refine ds 11 ?_
  refine ds 12 ?_
  refine dt 13 ?_
  refine dt 14 ?_
  refine dt 15 ?_
  refine dd ?_
  rw [Aaq (by omega)]
  subst h6
  refine go ?_;intros
  refine ret () trivial rfl
def Ab2 (base:Int) (l:List A4) (n u:Int):List A4:=if Kl base l n then [] else Sg base l n u
structure OwR where
 a:Option Addr
 c:Nat
 F:List Nat
theorem Abx (l:List A4) (base n ck d:Int) (a:Option Addr) (c:Nat) (F:List Nat) (hq:Jq l base=true) (hn:B9 n=true) (h8:gp base n < 8) (k0:0≤ck) (k1:ck≤9999) (d0:1≤d) (d1:d≤8) :
  Fn prog 290 [.slice a l.length c,.int .i64 base,.int .i64 n,.int .i64 ck,.int .i64 d] [.sl Ay (.slice a l.length c) l F] [] (fun (_:OwR)=>True) (fun s=>.tuple #[.slice s.a (Ab2 base l n (ck+d)).length s.c,.bool (!Kl base l n)]) (fun s=>[.ow Ay 165 (.slice s.a (Ab2 base l n (ck+d)).length s.c) (Ab2 base l n (ck+d)) s.F]):=by
 have hle:=Pe base l n
 obtain ⟨q1,q2,q3,q4⟩:=Dq.1 hq
 have hck:Iy ck=true:=by unfold Iy Ig;simp;omega
 have hdl:Ala d=true:=by unfold Ala Ig;simp;omega
 refine enter func290 rfl ntmps290 fun w0=>?_
 refine go ?_;intros
 refine cf (Ny l base _ F) fun _ _=>?_
 refine Ap ?_
 rw [hq]
 refine go ?_;intros
 refine ce (fun w s=>Ih _ _) ?_
 rw [hn]
 refine go ?_;intros
 refine ce (fun w s=>O3 _ _) ?_
 rw [hck]
 refine go ?_;intros
 refine cf (Aik d) fun _ _=>?_
 refine Ap ?_
 rw [hdl]
 refine go ?_;intros
 refine cf (Tr l base n a c F hq hn) fun _ _=>?_
 refine Ap ?_
 cases ho:Kl base l n
 ·rw [show Ab2 base l n (ck+d)=Sg base l n (ck+d) by unfold Ab2;rw [ho];rfl]
  have hln:=Ak9 base l n (ck+d)
  refine go ?_;intros
  refine cf (Pw l a c F (by omega)) fun z _=>?_
  refine Ap ?_
  refine go ?_;intros
  refine cf (Akb l ⟨n,1,ck+d,0⟩ (D5 base l n) z.1 z.2.1 _ z.2.2 hle (by omega)) fun y _=>?_
  refine Ap ?_
  rw [show l.take (D5 base l n)++(⟨n,1,ck+d,0⟩:A4)::l.drop (D5 base l n)=Sg base l n (ck+d) from rfl]
  refine go ?_;intros
  refine cb (fun w st=>by obtain ⟨Fw, -,hw⟩:=(st.get (p:=.ow Ay 165 (.slice y.1 (Sg base l n (ck+d)).length y.2.1) (Sg base l n (ck+d)) y.2.2) (by simp)).2.read;exact (Ny (Sg base l n (ck+d)) base _ Fw).val w (Il ⟨by decide,hw⟩)) ?_
  rw [Aa5 hq hn h8 (by omega) (by omega) ho]
  refine go ?_;intros
  refine ret ⟨_,_,_⟩ trivial rfl
 ·rw [show Ab2 base l n (ck+d)=[] by unfold Ab2;rw [ho];rfl]
  refine go ?_;intros
  refine Cb Ay 165 ?_
  refine ret ⟨none,0,[]⟩ trivial rfl
theorem Ald (l:List A4) (base n ck d:Int) (a:Option Addr) (c:Nat) (F:List Nat) (hq:Jq l base=true) (hn:B9 n=true) (k0:0≤ck) (k1:ck≤9999) (d0:1≤d) (d1:d≤8) :
  Fn prog 259 [.slice a l.length c,.int .i64 base,.int .i64 n,.int .i64 ck,.int .i64 d] [.sl Ay (.slice a l.length c) l F] [] (fun (_:OwR)=>True) (fun s=>.slice s.a (Qf base l n (ck+d)).length s.c) (fun s=>[.ow Ay 165 (.slice s.a (Qf base l n (ck+d)).length s.c) (Qf base l n (ck+d)) s.F]):=by
 have hle:=Pe base l n
 obtain ⟨q1,q2,q3,q4⟩:=Dq.1 hq
 obtain ⟨b0,b1⟩:=A9.1 q1
 obtain ⟨n0,n1⟩:=A9.1 hn
 have hbd:=Jb base n
 refine enter func259 rfl ntmps259 fun w0=>?_
 refine go ?_;intros
 refine cf (Y7 l base n a c F hq hn) fun _ _=>?_
 refine Ap ?_
 cases ho:Kl base l n
 rotate_left
 ·rw [show Qf base l n (ck+d)=l by unfold Qf;rw [ho];rfl]
  refine Jm ?_;intros
  refine C9 Ay ?_
  refine go ?_;intros
  apply wO
  refine Lx C2 Ds fun a5 c5 F5=>?_
  rw [List.nil_append]
  refine go ?_;intros
  refine ret ⟨_,_,_⟩ trivial rfl
 refine go ?_;intros
 refine ce (fun w s=>H8 _ _ _ (by omega) (by omega)) ?_
 refine go ?_;intros
 refine Bg rfl (fun h4=>?_) (fun h4=>?_)
 ·rw [show Qf base l n (ck+d)=l by unfold Qf;rw [ho,decide_eq_false (show ¬gp base n < 8 by omega)];rfl]
  refine Jm ?_;intros
  refine C9 Ay ?_
  refine go ?_;intros
  apply wO
  refine Lx C2 Ds fun a5 c5 F5=>?_
  rw [List.nil_append]
  refine go ?_;intros
  refine ret ⟨_,_,_⟩ trivial rfl
 rw [show Qf base l n (ck+d)=Sg base l n (ck+d) by unfold Qf;rw [ho,decide_eq_true (show gp base n < 8 by omega)];rfl]
 refine Tp (E:=Ay) (xs:=l) ?_
 rintro _ _ e8 c0 c1
 cases e8
 refine Ahk (E:=Ay) (xs:=l) (D5 base l n) (fun FT=>?_) hle
 obtain ⟨T1,hT1⟩:∃T1,T1=l.take (D5 base l n):=⟨_,rfl⟩
 have hT1l:T1.length=D5 base l n:=by rw [hT1,List.length_take];omega
 rw [←hT1]
 have hAdd:T1++[(⟨n,1,ck+d,0⟩:A4)]++l.drop (D5 base l n)=Sg base l n (ck+d):=by rw [hT1];unfold Sg Asd;simp
 refine go ?_;intros
 refine As [0,1] [] ?_
 refine dt 1 ?_
 refine dt 2 ?_
 refine dt 3 ?_ (hy:=Mc (i:=T1.length) rfl rfl (by rw [hT1l]) (by omega) (by omega))
 refine dt 5 ?_
 refine dt 8 ?_
 refine dt 9 ?_
 refine Afl 10 (D5 base l n) (fun a6 c6 F6=>?_)
 refine Ov 0 6 (by kernel_rfl) (by rw [List.getElem?_toArray];rfl) (by rw [List.getElem?_toArray];rfl) ?_ ?_
 ·apply Jw;rfl;intro _
  refine C9 Ay ?_
  refine dk ?_
  refine Ov 4 6 (by kernel_rfl) (by rw [List.getElem?_toArray];rfl) (by rw [List.getElem?_toArray];rfl) ?_ ?_
  ·refine Lx (ys:=T1) C2 Ds fun a7 c7 F7=>?_
   rw [List.nil_append]
   refine dk ?_
   refine dO 6 (by kernel_rfl) (by rw [List.getElem?_toArray];rfl) ?_
   apply Ho;rfl;rfl;rfl;rfl;exact Hl;exact Hg;intro _
   refine dk ?_
   refine dO 7 (by kernel_rfl) (by rw [List.getElem?_toArray];rfl) ?_
   refine Mf (Oy ⟨n,1,ck+d,0⟩) C2 fun a8 c8 F8=>?_
   refine dk ?_
   refine dO 11 (by kernel_rfl) (by rw [List.getElem?_toArray];rfl) ?_
   refine Lx (ys:=l.drop (D5 base l n)) C2 Ds (h63:=by simp;omega) (hby:=by simp;omega) fun a9 c9 F9=>?_
   refine dk ?_
   refine dt 12 ?_
   refine dd ?_
   rw [hAdd]
   refine go ?_;intros
   refine ret ⟨_,_,_⟩ trivial rfl
  ·apply Ho;rfl;rfl;rfl;rfl;exact Hl;exact Hg;intro _
   refine dk ?_
   refine dO 4 (by kernel_rfl) (by rw [List.getElem?_toArray];rfl) ?_
   refine Lx (ys:=T1) C2 Ds fun a7 c7 F7=>?_
   rw [List.nil_append]
   refine dk ?_
   refine dO 7 (by kernel_rfl) (by rw [List.getElem?_toArray];rfl) ?_
   refine Mf (Oy ⟨n,1,ck+d,0⟩) C2 fun a8 c8 F8=>?_
   refine dk ?_
   refine dO 11 (by kernel_rfl) (by rw [List.getElem?_toArray];rfl) ?_
   refine Lx (ys:=l.drop (D5 base l n)) C2 Ds (h63:=by simp;omega) (hby:=by simp;omega) fun a9 c9 F9=>?_
   refine dk ?_
   refine dt 12 ?_
   refine dd ?_
   rw [hAdd]
   refine go ?_;intros
   refine ret ⟨_,_,_⟩ trivial rfl
 ·apply Ho;rfl;rfl;rfl;rfl;exact Hl;exact Hg;intro _
  refine dk ?_
  refine dO 0 (by kernel_rfl) (by rw [List.getElem?_toArray];rfl) ?_
  apply Jw;rfl;intro _
  refine C9 Ay ?_
  refine dk ?_
  refine dO 4 (by kernel_rfl) (by rw [List.getElem?_toArray];rfl) ?_
  refine Lx (ys:=T1) C2 Ds fun a7 c7 F7=>?_
  rw [List.nil_append]
  refine dk ?_
  refine dO 7 (by kernel_rfl) (by rw [List.getElem?_toArray];rfl) ?_
  refine Mf (Oy ⟨n,1,ck+d,0⟩) C2 fun a8 c8 F8=>?_
  refine dk ?_
  refine dO 11 (by kernel_rfl) (by rw [List.getElem?_toArray];rfl) ?_
  refine Lx (ys:=l.drop (D5 base l n)) C2 Ds (h63:=by simp;omega) (hby:=by simp;omega) fun a9 c9 F9=>?_
  refine dk ?_
  refine dt 12 ?_
  refine dd ?_
  rw [hAdd]
  refine go ?_;intros
  refine ret ⟨_,_,_⟩ trivial rfl
theorem Vu (l:List A4) (base n ck:Int) (a:Option Addr) (c:Nat) (F:List Nat) (hq:Jq l base=true) (hn:B9 n=true) (k0:0≤ck) (k1:ck≤9999) :
  Fn prog 241 [.slice a l.length c,.int .i64 base,.int .i64 n,.int .i64 ck] [.sl Ay (.slice a l.length c) l F] [] (fun (_:OwR)=>True) (fun s=>.tuple #[.slice s.a (N4 base l n (ck+4)).length s.c,.bool true]) (fun s=>[.ow Ay 165 (.slice s.a (N4 base l n (ck+4)).length s.c) (N4 base l n (ck+4)) s.F]):=by
 have hle:=Pe base l n
 obtain ⟨q1,q2,q3,q4⟩:=Dq.1 hq
 have hck:Iy ck=true:=by unfold Iy Ig;simp;omega
 refine enter func241 rfl ntmps241 fun w0=>?_
 refine go ?_;intros
 refine cf (Ny l base _ F) fun _ _=>?_
 refine Ap ?_
 rw [hq]
 refine go ?_;intros
 refine ce (fun w s=>Ih _ _) ?_
 rw [hn]
 refine go ?_;intros
 refine ce (fun w s=>O3 _ _) ?_
 rw [hck]
 refine go ?_;intros
 refine cf (Pw l a c F (by omega)) fun z _=>?_
 refine Ap ?_
 refine go ?_;intros
 refine cb (fun w st=>by obtain ⟨Fw, -,hw⟩:=(st.get (p:=.ow Ay 165 (.slice z.1 (l).length z.2.1) (l) z.2.2) (by simp)).2.read;exact (Tr l base n z.1 z.2.1 Fw hq hn).val w (Il ⟨by decide,hw⟩)) ?_
 have hcl:=Aat base l n (ck+4)
 cases ho:Kl base l n
 ·rw [Sj ho]
  refine go ?_;intros
  refine ret ⟨_,_,_⟩ trivial rfl
 ·have hlt:=Qh ho
  refine go ?_;intros
  refine Yy (xs:=l) (D5 base l n) ?_ (hi:=hlt)
  rintro hi g A B ha hF hh
  rw [ha]
  refine go ?_;intros
  refine Nd (⟨n,3,ck+4,l[D5 base l n].Dn⟩:A4) hh (fun w=>?_) ?_
  ·rw [Qg hi] at ho
   have e:l[D5 base l n].Ae=n:=by simpa using ho
   rw [e];exact ⟨rfl,rfl⟩
  rw [←Qi ho]
  refine go ?_;intros
  rw [show l.length=(N4 base l n (ck+4)).length from hcl.symm]
  refine ret ⟨_,_,_⟩ trivial rfl
theorem Ach (l:List A4) (base n ck:Int) (a:Option Addr) (c:Nat) (F:List Nat) (hq:Jq l base=true) (hn:B9 n=true) (k0:0≤ck) (k1:ck≤9999) :
  Fn prog 218 [.slice a l.length c,.int .i64 base,.int .i64 n,.int .i64 ck] [.sl Ay (.slice a l.length c) l F] [] (fun (_:OwR)=>True) (fun s=>.slice s.a (N4 base l n (ck+4)).length s.c) (fun s=>[.ow Ay 165 (.slice s.a (N4 base l n (ck+4)).length s.c) (N4 base l n (ck+4)) s.F]):=by
 have hle:=Pe base l n
 obtain ⟨q1,q2,q3,q4⟩:=Dq.1 hq
 have hcl:=Aat base l n (ck+4)
 refine enter func218 rfl ntmps218 fun w0=>?_
 refine Jm ?_;intros
 refine C9 Ay ?_
 refine go ?_;intros
 apply wO
 refine Lx C2 Ds fun a5 c5 F5=>?_
 rw [List.nil_append]
 refine go ?_;intros
 refine cf (Y7 l base n a c F hq hn) fun _ _=>?_
 refine Ap ?_
 cases ho:Kl base l n
 ·rw [Sj ho]
  refine go ?_;intros
  refine ret ⟨_,_,_⟩ trivial rfl
 ·have hlt:=Qh ho
  refine go ?_;intros
  refine Hv (xs:=l) (D5 base l n) ?_
  rintro hi b o e
  rw [e]
  refine Yy (xs:=l) (a:=a5) (D5 base l n) ?_ (hi:=hlt)
  rintro hi g A B ha hF hh
  rw [ha]
  refine go ?_;intros
  refine Nd (⟨n,3,ck+4,l[D5 base l n].Dn⟩:A4) hh (fun w=>⟨rfl,rfl⟩) ?_
  rw [←Qi ho]
  refine go ?_;intros
  rw [show l.length=(N4 base l n (ck+4)).length from hcl.symm]
  refine ret ⟨_,_,_⟩ trivial rfl
structure SkS where
 a:Option Addr
 c:Nat
 F:List Nat
 ae:Option Addr
 ce:Nat
 Fe:List Nat
theorem Anl (w:An) (st:Bool) (ck tr:Int) (q:Value) (g t o:Nat) (A B:List Value) (a1:Option Addr) (c1:Nat) (F1:List Nat) (hg:C6 w=true) (ht:B9 tr=true) :
  Fn prog 267 [Ez g o 0,.int .i64 tr] [] [.row g t o A [.bool st,.int .i64 ck,.int .i64 (w).next,.slice a1 (w).Ao.length c1,q] B,.ow Ci 188 (.slice a1 (w).Ao.length c1) (w).Ao F1] (fun (_:SkS)=>True)
   (fun s=>.slice s.ae (Ms w tr).length s.ce) (fun s=>[.row g t o A [.bool st,.int .i64 ck,.int .i64 (L7 w tr).next,.slice s.a (L7 w tr).Ao.length s.c,q] B,.ow Ci 188 (.slice s.a (L7 w tr).Ao.length s.c) (L7 w tr).Ao s.F,.ow Ba 9 (.slice s.ae (Ms w tr).length s.ce) (Ms w tr) s.Fe]):=by
 obtain ⟨w0_,w1_⟩:=Gz hg
 obtain ⟨t0_,t1_⟩:=A9.1 ht
 obtain ⟨hw8,hit⟩:=Ix hg
 have hgb:=Jb w.next tr
 refine enter func267 rfl ntmps267 fun w0=>?_
 refine go ?_;intros
 refine ce (fun w s=>Lm _ _ _ (by omega) (by omega) (by omega) (by omega)) ?_
 cases hb:Pu w.next tr
 ·have e1:L7 w tr=w:=by unfold L7;rw [hb];rfl
  have e2:Ms w tr=[]:=by unfold Ms;rw [hb];rfl
  rw [e1,e2]
  refine Cb Ba 9 ?_
  refine go ?_;intros
  refine ret ⟨_,_,_,_,_,_⟩ trivial rfl
 refine go ?_;intros
 refine ce (fun w s=>Mo _ _ _ (by omega) (by omega) (by omega) (by omega)) ?_
 refine go ?_;intros
 refine Bg rfl (fun h4=>?_) (fun h4=>?_)
 ·have e1:L7 w tr=Hw w tr:=by unfold L7;rw [hb,if_pos rfl,if_pos h4]
  have e2:Ms w tr=Ii w tr:=by unfold Ms;rw [hb,if_pos rfl,if_pos h4]
  rw [e1,e2]
  refine Ahj [.bool st,.int .i64 ck] [.int .i64 w.next,.slice a1 w.Ao.length c1] [q] ?_
  refine go ?_;intros
  refine cf (Adf w tr g t (o+2) (A++[.bool st,.int .i64 ck]) _ a1 c1 F1 w0_ w1_ t0_ t1_ hw8 hit) fun y hy=>?_
  refine Ap ?_
  obtain ⟨hy1,hy2⟩:=hy
  refine Z0 [.bool st,.int .i64 ck] [.int .i64 y.y.next,.slice y.a y.y.Ao.length y.c] [q] ?_
  rw [show Hw w tr=y.y from hy1.symm,show Ii w tr=y.es from hy2.symm]
  refine go ?_;intros
  refine ret ⟨_,_,_,_,_,_⟩ trivial rfl
 ·have e1:L7 w tr=⟨tr,[]⟩:=by unfold L7;rw [hb,if_pos rfl,if_neg h4]
  have e2:Ms w tr=[⟨#[33]⟩]:=by unfold Ms;rw [hb,if_pos rfl,if_neg h4]
  rw [e1,e2]
  refine Cb Ci 188 ?_
  refine Jm ?_;intros
  refine Ei (xs:=[(⟨#[33]⟩:ByteArray)]) (P3 _ (by decide)) ?_ (by simp)
  refine go ?_;intros
  refine ret ⟨none,0,[],_,_,_⟩ trivial rfl
structure AwS where
 i:Nat
 a:Option Addr
 c:Nat
 F:List Nat
theorem Akh (x:An) (l:List A4) (st:Bool) (ck Ec d:Int) (g t o:Nat) (A B:List Value) (a1:Option Addr) (c1:Nat) (F1:List Nat) (a2:Option Addr) (c2:Nat) (F2:List Nat) (hg:C6 x=true) (hq:Jq l x.next=true) (hf:∀q∈l,Hh x q.Ae=false) (hl:B9 Ec=true) (k0:0≤ck) (k1:ck≤9999) (d0:1≤d) (d1:d≤8) :
  Fn prog 269 [Ez g o 0,.int .i64 Ec,.int .i64 d] [] [.row g t o A [.bool st,.int .i64 ck,.int .i64 (x).next,.slice a1 (x).Ao.length c1,.slice a2 (l).length c2] B,.ow Ci 188 (.slice a1 (x).Ao.length c1) (x).Ao F1,.ow Ay 165 (.slice a2 (l).length c2) (l) F2] (fun (_:OwR)=>True)
   (fun _=>.tuple #[]) (fun s=>[.row g t o A [.bool st,.int .i64 ck,.int .i64 (x).next,.slice a1 (x).Ao.length c1,.slice s.a (M2 x l Ec (ck+d)).length s.c] B,.ow Ci 188 (.slice a1 (x).Ao.length c1) (x).Ao F1,.ow Ay 165 (.slice s.a (M2 x l Ec (ck+d)).length s.c) (M2 x l Ec (ck+d)) s.F]):=by
 obtain ⟨w0_,w1_⟩:=Gz hg
 obtain ⟨l0_,l1_⟩:=A9.1 hl
 have hgb:=Jb x.next Ec
 refine enter func269 rfl ntmps269 fun w0=>?_
 refine go ?_;intros
 refine ce (fun w s=>Lm _ _ _ (by omega) (by omega) (by omega) (by omega)) ?_
 cases hb:Pu x.next Ec
 ·have e1:M2 x l Ec (ck+d)=l:=by unfold M2;rw [hb];rfl
  rw [e1]
  refine go ?_;intros
  refine ret ⟨_,_,_⟩ trivial rfl
 obtain ⟨k,hk⟩:∃k,k=T6 x Ec:=⟨_,rfl⟩
 have hk8:k≤8:=by rw [hk];exact O2 _ _
 have hkm:((k:Nat):Int)=min (gp x.next Ec) 8:=by rw [hk];unfold T6;omega
 obtain ⟨N,hN⟩:∃N,N=L6 x k:=⟨_,rfl⟩
 have hNl:N.length≤8:=by have:=Wj x k;rw [hN];omega
 have e1:M2 x l Ec (ck+d)=I2 x.next (ck+d) l N:=by unfold M2;rw [hb,if_pos rfl,hN,hk]
 rw [e1]
 have Te:=Ht x.next (min (gp x.next Ec) 8)
 have hgp:gp x.next (Cg x.next (min (gp x.next Ec) 8))=(k:Nat):=by rw [←hkm];unfold gp Cg;omega
 refine go ?_;intros
 refine As [0] [] ?_
 refine dt 0 ?_
 refine dt 1 ?_
 refine dt 2 ?_
 refine dt 3 ?_
 refine dt 4 ?_
 refine dt 5 ?_
 refine dt 6 ?_
 refine dt 12 ?_
 refine dO 7 (by kernel_rfl) (by rw [List.getElem?_toArray];rfl) ?_
 apply At;rfl;kernel_rfl;exact Bf
 refine ce (fun w s=>Mo _ _ _ (by omega) (by omega) (by omega) (by omega)) ?_
 refine dk ?_
 refine dt 8 ?_
 refine dO 9 (by kernel_rfl) (by rw [List.getElem?_toArray];rfl) ?_
 apply At;rfl;kernel_rfl;exact Bf
 refine ce (fun w s=>Ot _ _ _ (by omega) (by omega)) ?_
 refine dk ?_
 refine dO 10 (by kernel_rfl) (by rw [List.getElem?_toArray];rfl) ?_
 apply At;rfl;kernel_rfl;exact Bf
 refine cfr (fun w st=>by obtain ⟨F9,hF9⟩:=Aqw (st.get (p:=.ow Ci 188 (.slice a1 (x).Ao.length c1) (x).Ao F1) (by simp));exact ⟨_,Il hF9,rfl,Adg x _ k _ F9 w0_ w1_ (by omega) (by omega) hgp⟩) (fun m _=>?_)
 refine dk ?_
 refine dt 11 ?_
 refine dd ?_
 rw [←hN]
 refine A1 (E:=Bd) (xs:=N) fun GN=>?_
 refine go ?_;intros
 refine Cp [0,2,6,30,31] (fun s:AwS=>[(32,.int .i64 (s.i:Nat))]) (fun s=>[.row g t o A [.bool st,.int .i64 ck,.int .i64 (x).next,.slice a1 (x).Ao.length c1,.slice s.a (I2 x.next (ck+d) l (N.take s.i)).length s.c] B,.ow Ay 165 (.slice s.a (I2 x.next (ck+d) l (N.take s.i)).length s.c) (I2 x.next (ck+d) l (N.take s.i)) s.F]) (fun s=>s.i≤N.length) (fun s=>N.length - s.i) ⟨0,a2,c2,F2⟩ (Nat.zero_le _) fun s hs=>?_
 obtain ⟨i,a3,c3,F3⟩:=s
 dsimp only at hs ⊢
 have hall:=N3 (w:=x) (u:=ck+d) (by omega) (by omega) (N.take i) l (fun n hn=>by
  have:=N9 (w:=x) (n:=n) hk8 (by rw [←hN];exact List.mem_of_mem_take hn)
  exact ⟨this.1,this.2.2⟩) hq hf
 have hLs:∀h:i < N.length,I2 x.next (ck+d) l (N.take (i+1))=Qf x.next (I2 x.next (ck+d) l (N.take i)) N[i] (ck+d):=fun h=>W9 h
 generalize hLd:I2 x.next (ck+d) l (N.take i)=L at *
 have hLq:=hall.1
 have hL8:=(Dq.1 hLq).2.1
 refine go ?_;intros
 refine Bg rfl (fun h4=>?_) (fun h4=>?_)
 ·have hi:i < N.length:=by omega
  have hni:=N9 (w:=x) (n:=N[i]) hk8 (by rw [←hN];exact List.getElem_mem hi)
  refine In (xs:=N) i ?_
  rintro hi2 b o2 e
  rw [e]
  refine go ?_;intros
  refine As [1] [] ?_
  refine dt 0 ?_
  refine dt 1 ?_
  refine dt 2 ?_
  refine dt 3 ?_
  refine dt 4 ?_
  refine dt 5 ?_
  refine dt 6 ?_
  refine dt 7 ?_
  refine dt 8 ?_
  refine dt 9 ?_
  refine dt 10 ?_
  refine dO 11 (by kernel_rfl) (by rw [List.getElem?_toArray];rfl) ?_
  apply At;rfl;kernel_rfl;exact Bf
  refine cfr (fun w st=>by obtain ⟨Fq, -,hq9⟩:=(st.get (p:=.ow Ay 165 (.slice a3 (L).length c3) (L) F3) (by simp)).2.read;exact ⟨[.sl Ay (.slice a3 L.length c3) L Fq],Il ⟨by decide,hq9⟩,rfl,Abx L x.next N[i] ck d a3 c3 Fq hLq hni.1 hni.2.1 k0 k1 d0 d1⟩) (fun u _=>?_)
  refine dk ?_
  refine dt 12 ?_
  refine dt 13 ?_
  refine dt 14 ?_
  refine dt 15 ?_
  refine dt 16 ?_
  refine dd ?_
  refine go ?_;intros
  cases ho:Kl x.next L N[i]
  ·have eA:I2 x.next (ck+d) l (N.take (i+1))=Ab2 x.next L N[i] (ck+d):=by rw [hLs hi];unfold Qf Ab2;rw [ho,decide_eq_true hni.2.1];rfl
   refine go ?_;intros
   rw [←eA]
   refine Ck (⟨i+1,_,_,_⟩:AwS) (by show i+1≤N.length;omega) (by show N.length - (i+1) < N.length - i;omega)
  ·have eA:I2 x.next (ck+d) l (N.take (i+1))=L:=by rw [hLs hi];unfold Qf;rw [ho];rfl
   refine go ?_;intros
   rw [←eA]
   refine Ck (⟨i+1,_,_,_⟩:AwS) (by show i+1≤N.length;omega) (by show N.length - (i+1) < N.length - i;omega)
 have hi:i=N.length:=by omega
 subst hi
 rw [List.take_length] at hLd
 rw [hLd]
 refine go ?_;intros
 refine Rt ?_
 refine ret (⟨_,_,_⟩:OwR) trivial rfl
def Aaf (x:An) (q:A4):Bool:=Pu q.Ae x.next || decide (8≤gp x.next q.Ae) || Hh x q.Ae
theorem Aoj {l:List A4} {x:An}:(l.filter fun q=>!Aaf x q)=Dz l x:=by
 unfold Dz Aaf
 refine List.filter_congr fun q _=>?_
 have e:decide (8≤gp x.next q.Ae) = !decide (gp x.next q.Ae < 8):=by rw [←decide_not];exact decide_eq_decide.2 (by omega)
 rw [e]
 cases Pu q.Ae x.next <;> cases Hh x q.Ae <;> simp
theorem Aol (q:A4) (x:An) (nb gb g o:Nat) (st:Bool) (ck:Int) (qv:Value) (a1:Option Addr) (c1:Nat) (F:List Nat) (w0_:0≤x.next) (w1_:x.next≤65535) (hn:B9 q.Ae=true) :
  Fn prog 268 [.agg #[.int .i64 q.Ae,.int .i64 q.Gj,.int .i64 q.Ca,.int .i64 q.Dn],Ez nb 0 0,Ez gb 0 0] [.cel nb 0 [.int .i64 x.next],.cel gb 0 [Ez g o 0],.cel g o [.bool st,.int .i64 ck,.int .i64 x.next,.slice a1 x.Ao.length c1,qv],.isv Bo (.agg #[.int .i64 x.next,.slice a1 x.Ao.length c1]) x F] [] (fun (_:Unit)=>True) (fun _=>.bool (Aaf x q)) (fun _=>[]):=by
 obtain ⟨n0,n1⟩:=A9.1 hn
 have hgb:=Jb x.next q.Ae
 refine enter func268 rfl ntmps268 fun w0=>?_
 refine go ?_;intros
 cases hb:Pu q.Ae x.next
 rotate_left
 ·rw [show Aaf x q=true by unfold Aaf;rw [hb];rfl]
  refine As [0,1,2,3,4] [] ?_
  refine dt 0 ?_
  refine dt 1 ?_
  refine dt 2 ?_
  refine dO 3 (by kernel_rfl) (by rw [List.getElem?_toArray];rfl) ?_
  apply At;rfl;kernel_rfl;exact Bf
  refine ce (fun w s=>Lm _ _ _ (by omega) (by omega) (by omega) (by omega)) ?_
  rw [hb]
  refine dk ?_
  refine dt 4 ?_
  refine ds 5 ?_
  refine ds 6 ?_
  refine ds 7 ?_
  refine ds 8 ?_
  refine ds 9 ?_
  refine dt 10 ?_
  refine dt 11 ?_
  refine ds 12 ?_
  refine ds 13 ?_
  refine ds 14 ?_
  refine ds 15 ?_
  refine ds 16 ?_
  refine ds 17 ?_
  refine ds 18 ?_
  refine dt 19 ?_
  refine dt 20 ?_
  refine dd ?_
  refine go ?_;intros
  refine ret () trivial rfl
 by_cases h8':8≤gp x.next q.Ae
 ·have h8:=decide_eq_true h8'
  rw [show Aaf x q=true by unfold Aaf;rw [h8];simp]
  refine As [0,1,2,3,4] [] ?_
  refine dt 0 ?_
  refine dt 1 ?_
  refine dt 2 ?_
  refine dO 3 (by kernel_rfl) (by rw [List.getElem?_toArray];rfl) ?_
  apply At;rfl;kernel_rfl;exact Bf
  refine ce (fun w s=>Lm _ _ _ (by omega) (by omega) (by omega) (by omega)) ?_
  rw [hb]
  refine dk ?_
  refine dt 4 ?_
  refine Dh 5 ?_
  refine Dh 6 ?_
  refine Dh 7 ?_
  refine d1g 8 ?_
  apply On.h
  apply At;rfl;kernel_rfl;exact Bf
  refine ce (fun w s=>Mo _ _ _ (by omega) (by omega) (by omega) (by omega)) ?_
  refine dk ?_
  refine Dh 9 ?_
  rw [h8]
  refine dt 10 ?_
  refine dt 11 ?_
  refine ds 12 ?_
  refine ds 13 ?_
  refine ds 14 ?_
  refine ds 15 ?_
  refine ds 16 ?_
  refine ds 17 ?_
  refine ds 18 ?_
  refine dt 19 ?_
  refine dt 20 ?_
  refine dd ?_
  refine go ?_;intros
  refine ret () trivial rfl
 ·have h8:=decide_eq_false h8'
  rw [show Aaf x q=Hh x q.Ae by unfold Aaf;rw [hb,h8];rfl]
  refine As [0,1,2,3,4] [] ?_
  refine dt 0 ?_
  refine dt 1 ?_
  refine dt 2 ?_
  refine dO 3 (by kernel_rfl) (by rw [List.getElem?_toArray];rfl) ?_
  apply At;rfl;kernel_rfl;exact Bf
  refine ce (fun w s=>Lm _ _ _ (by omega) (by omega) (by omega) (by omega)) ?_
  rw [hb]
  refine dk ?_
  refine dt 4 ?_
  refine Dh 5 ?_
  refine Dh 6 ?_
  refine Dh 7 ?_
  refine d1g 8 ?_
  apply On.h
  apply At;rfl;kernel_rfl;exact Bf
  refine ce (fun w s=>Mo _ _ _ (by omega) (by omega) (by omega) (by omega)) ?_
  refine dk ?_
  refine Dh 9 ?_
  rw [h8]
  refine dt 10 ?_
  refine dt 11 ?_
  refine Dh 12 ?_
  refine Dh 13 ?_
  refine Dh 14 ?_
  refine Dh 15 ?_
  refine Dh 16 ?_
  refine Dh 17 ?_
  refine d1g 18 ?_
  apply On.h
  apply At;rfl;kernel_rfl;exact Bf
  refine cf (U0 x q.Ae _ F w0_ w1_ n0 n1) fun _ _=>?_
  refine Ap ?_
  refine dk ?_
  refine dt 19 ?_
  refine dt 20 ?_
  refine dd ?_
  refine go ?_;intros
  refine ret () trivial rfl
structure NwS where
 a1:Option Addr
 c1:Nat
 F1:List Nat
 a2:Option Addr
 c2:Nat
 F2:List Nat
 ae:Option Addr
 ce:Nat
 Fe:List Nat
theorem Ab0 (r:Bb) (p:Av) (d:Int) (g t o:Nat) (A B:List Value) (a1:Option Addr) (c1:Nat) (F1:List Nat) (a2:Option Addr) (c2:Nat) (F2:List Nat) (hg:Kk r) (hp:Bp p=true) (d0:1≤d) (d1:d≤8) :
  Fn prog 240 [Ez g o 0,.agg #[.int .i64 p.Df,.int .i64 p.Ae,.int .i64 p.Al,.int .i64 p.Ec,.string p.data],.int .i64 d] [] [.row g t o A [.bool r.Bh,.int .i64 r.Ai,.int .i64 (r.Aa).next,.slice a1 (r.Aa).Ao.length c1,.slice a2 (r.Ar).length c2] B,.ow Ci 188 (.slice a1 (r.Aa).Ao.length c1) (r.Aa).Ao F1,.ow Ay 165 (.slice a2 (r.Ar).length c2) (r.Ar) F2] (fun (_:NwS)=>True)
   (fun s=>.slice s.ae (Km r p).length s.ce) (fun s=>[.row g t o A [.bool (I1 r p d).Bh,.int .i64 (I1 r p d).Ai,.int .i64 ((I1 r p d).Aa).next,.slice s.a1 ((I1 r p d).Aa).Ao.length s.c1,.slice s.a2 ((I1 r p d).Ar).length s.c2] B,.ow Ci 188 (.slice s.a1 ((I1 r p d).Aa).Ao.length s.c1) ((I1 r p d).Aa).Ao s.F1,.ow Ay 165 (.slice s.a2 ((I1 r p d).Ar).length s.c2) ((I1 r p d).Ar) s.F2,.ow Ba 9 (.slice s.ae (Km r p).length s.ce) (Km r p) s.Fe]):=by
 have k0:=hg.k0
 have k1:=hg.k1
 obtain ⟨-,q1,q2, -⟩:=Dq.1 hg.q
 have hser:∀q∈r.Ar,B9 q.Ae=true:=fun q hq=>(Zp hg hq).1
 obtain ⟨hsg, -⟩:=Pp hg hp
 obtain ⟨htg, -,htl⟩:=Ru hg hp
 obtain ⟨hng,hnq, -,hnl⟩:=Ti hg hp d0 d1 (by omega)
 obtain ⟨s0_,s1_⟩:=Gz hsg
 obtain ⟨v0_,v1_⟩:=Gz hng
 obtain ⟨hw8,hit⟩:=Ix hsg
 obtain ⟨n0,n1⟩:=Iv hp
 have hp2:=hp
 unfold Bp at hp2
 simp only [Bool.and_eq_true] at hp2
 have htr:B9 p.Al=true:=hp2.1.1.1.1.2
 have hld:B9 p.Ec=true:=hp2.1.1.1.2
 have hps:p.data.size≤8:=Sr hp2.1.1.2
 refine enter func240 rfl ntmps240 fun w0=>?_
 refine go ?_;intros
 rename_i g3 g4
 refine E6 [2,3,4,6] [0,1,4] (fun _:Unit=>[]) (fun _=>[.row g t o A [.bool true,.int .i64 r.Ai,.int .i64 (Dx r p).next,.slice a1 (Dx r p).Ao.length c1,.slice a2 r.Ar.length c2] B,.ow Ci 188 (.slice a1 (Dx r p).Ao.length c1) (Dx r p).Ao F1]) (fun _=>True) ?_ fun _ _=>?_
 ·cases hs:r.Bh
  ·by_cases hk:p.Df=5
   ·have e:Dx r p=⟨p.Ec,r.Aa.Ao⟩:=by unfold Dx;rw [hs,if_pos hk];rfl
    have hkd:decide (p.Df=5)=true:=decide_eq_true hk
    rw [e]
    refine go ?_;intros
    refine Bg rfl (fun _=>?_) (fun h=>absurd hk h)
    refine go ?_;intros
    refine Cd () trivial
   ·have e:Dx r p=⟨p.Ae,r.Aa.Ao⟩:=by unfold Dx;rw [hs,if_neg hk];rfl
    rw [e]
    refine go ?_;intros
    refine Bg rfl (fun h=>absurd h hk) (fun _=>?_)
    refine go ?_;intros
    refine Cd () trivial
  ·have e:Dx r p=r.Aa:=by unfold Dx;rw [hs];rfl
   rw [e]
   refine go ?_;intros
   refine Cd () trivial
 refine go ?_;intros
 refine E6 [2,3,4,6] [2,3,4] (fun s:SkS=>[(7,.slice s.ae (I5 r p).length s.ce)]) (fun s=>[.row g t o A [.bool true,.int .i64 r.Ai,.int .i64 (Et r p).next,.slice s.a (Et r p).Ao.length s.c,.slice a2 r.Ar.length c2] B,.ow Ci 188 (.slice s.a (Et r p).Ao.length s.c) (Et r p).Ao s.F,.ow Ba 9 (.slice s.ae (I5 r p).length s.ce) (I5 r p) s.Fe]) (fun _=>True) ?_ fun s _=>?_
 ·by_cases hk:p.Df=5
  ·have e1:Et r p=Dx r p:=by unfold Et;rw [if_pos hk]
   have e2:I5 r p=[]:=by unfold I5;rw [if_pos hk]
   refine Bg rfl (fun h=>absurd hk h) (fun _=>?_)
   rw [e1,e2]
   refine Cb Ba 9 ?_
   refine go ?_;intros
   refine Cd (⟨a1,c1,F1,none,0,[]⟩:SkS) trivial
  ·have e1:Et r p=Jp (Dx r p) p.Ae p.data:=by unfold Et;rw [if_neg hk]
   have e2:I5 r p=Jo (Dx r p) p.Ae p.data:=by unfold I5;rw [if_neg hk]
   refine Bg rfl (fun _=>?_) (fun h=>absurd hk h)
   rw [e1,e2]
   refine Ahj [.bool true,.int .i64 r.Ai] [.int .i64 (Dx r p).next,.slice a1 (Dx r p).Ao.length c1] [.slice a2 r.Ar.length c2] ?_
   refine go ?_;intros
   refine As [2,3] [] ?_
   refine dt 0 ?_
   refine dt 1 ?_
   refine dt 2 ?_
   refine dt 3 ?_
   refine dt 4 ?_
   refine dt 5 ?_
   refine dt 6 ?_
   refine dO 7 (by kernel_rfl) (by rw [List.getElem?_toArray];rfl) ?_
   apply At;rfl;kernel_rfl;exact Bf
   refine cf (Akg (Dx r p) p.Ae p.data g t (o+2) (A++[.bool true,.int .i64 r.Ai]) _ a1 c1 F1 s0_ s1_ n0 n1 hw8 hit hps) fun y hy=>?_
   refine Ap ?_
   obtain ⟨hy1,hy2⟩:=hy
   refine dk ?_
   refine dt 8 ?_
   refine dt 9 ?_
   refine dt 10 ?_
   refine dt 11 ?_
   refine dd ?_
   refine Z0 [.bool true,.int .i64 r.Ai] [.int .i64 y.y.next,.slice y.a y.y.Ao.length y.c] [.slice a2 r.Ar.length c2] ?_
   rw [←hy1,←hy2]
   refine go ?_;intros
   refine Cd (⟨_,_,_,_,_,_⟩:SkS) trivial
 obtain ⟨a3,c3,F3,ae,ce,Fe⟩:=s
 dsimp only
 refine go ?_;intros
 refine cf (Anl (Et r p) true r.Ai p.Al _ g t o A B a3 c3 F3 htg htr) fun y _=>?_
 refine Ap ?_
 have hsl:(Ms (Et r p) p.Al).length≤24:=by unfold Km at hnl;rw [List.length_append] at hnl;omega
 refine A1 (E:=Ba) (xs:=Ms (Et r p) p.Al) fun G8=>?_
 refine go ?_;intros
 apply wO
 refine Lx (ys:=Ms (Et r p) p.Al) Ed Hf fun a9 c9 F9=>?_
 rw [show I5 r p++Ms (Et r p) p.Al=Km r p from rfl,show L7 (Et r p) p.Al=Cm r p from rfl]
 refine go ?_;intros
 rename_i g11
 refine As [3,6] [9] ?_
 refine dt 0 ?_
 refine dt 1 ?_
 refine dt 2 ?_
 refine dt 3 ?_
 refine dt 4 ?_
 refine dt 5 ?_
 refine dO 6 (by kernel_rfl) (by rw [List.getElem?_toArray];rfl) ?_
 apply At;rfl;kernel_rfl;exact Bf
 refine cfm (M:=[.ow Ay 165 (.slice a2 r.Ar.length c2) r.Ar F2]) (.cons (by repeat (first|exact .here|apply C0.there)) .nil) (fun w st=>by
   have r1:=st.on (.row g11 3 0 [] [.int .i64 (Cm r p).next] []) (by simp)
   have r2:=st.on (.row g3 223 0 [] [Ez g o 0] []) (by simp)
   have r3:=st.on (.row g t o A [.bool true,.int .i64 r.Ai,.int .i64 (Cm r p).next,.slice y.a (Cm r p).Ao.length y.c,.slice a2 r.Ar.length c2] B) (by simp)
   obtain ⟨Fw,hFw,hw⟩:=(st.on (.ow Ci 188 (.slice y.a (Cm r p).Ao.length y.c) (Cm r p).Ao y.F) (by simp)).2.read
   refine ⟨[.cel g11 0 [.int .i64 (Cm r p).next],.cel g3 0 [Ez g o 0],.cel g o [.bool true,.int .i64 r.Ai,.int .i64 (Cm r p).next,.slice y.a (Cm r p).Ao.length y.c,.slice a2 r.Ar.length c2],.isv Bo (.agg #[.int .i64 (Cm r p).next,.slice y.a (Cm r p).Ao.length y.c]) (Cm r p) Fw],?_,rfl,?_,Ada 268 [] [Ez g11 0 0,Ez g3 0 0] _ rfl r.Ar a2 c2 F2 (fun q=>Aaf (Cm r p) q) (by kernel_rfl) (by omega) (fun q hq w' hA=>(Aol q (Cm r p) g11 g3 g o true r.Ai _ y.a y.c Fw v0_ v1_ (hser q hq)).val w' hA)⟩
   ·intro q hq
    simp only [List.mem_cons,List.not_mem_nil,or_false] at hq
    rcases hq with rfl|rfl|rfl|rfl
    ·exact ⟨by simp,Gh r1⟩
    ·exact ⟨by simp,Gh r2⟩
    ·exact ⟨by simp,Gh r3⟩
    ·exact ⟨_,rfl,_,rfl,hw⟩
   ·intro q hq b hb
    simp only [List.mem_cons,List.not_mem_nil,or_false] at hq
    rcases hq with rfl|rfl|rfl|rfl
    ·exact ⟨.row g11 3 0 [] [.int .i64 (Cm r p).next] [],by simp,hb⟩
    ·exact ⟨.row g3 223 0 [] [Ez g o 0] [],by simp,hb⟩
    ·exact ⟨.row g t o A [.bool true,.int .i64 r.Ai,.int .i64 (Cm r p).next,.slice y.a (Cm r p).Ao.length y.c,.slice a2 r.Ar.length c2] B,by simp,hb⟩
    ·exact ⟨.ow Ci 188 (.slice y.a (Cm r p).Ao.length y.c) (Cm r p).Ao y.F,by simp,hFw b hb⟩) (fun z _=>?_)
 rw [Aoj]
 refine dk ?_
 refine dt 7 ?_
 refine dt 8 ?_
 refine dO 9 (by kernel_rfl) (by rw [List.getElem?_toArray];rfl) ?_
 apply Cs;rfl;rfl;rfl;(first|exact AggC.s|exact OneC.s);rfl;exact Cu;exact Ct;rfl
 refine Ng ?_
 refine dd ?_
 refine go ?_;intros
 refine cf (Akh (Cm r p) (Dz r.Ar (Cm r p)) true r.Ai p.Ec d g t o A B y.a y.c y.F z.1 z.2.1 z.2.2 hng hnq Mq hld k0 k1 d0 d1) fun u _=>?_
 refine Ap ?_
 refine go ?_;intros
 refine ret ⟨_,_,_,_,_,_,_,_,_⟩ trivial rfl
structure Anj where
 g:Nat
 a:Option Addr
 c:Nat
 F:List Nat
theorem Qs (x:Bb) (v:Value) (F:List Nat) (hl:x.Aa.Ao.length≤1000000000) (hl2:x.Ar.length≤1000000000):Fn prog 119 [v] [.isv B4 v x F] [] (fun (_:Value × List Nat)=>True) (fun s=>s.1) (fun s=>[.own Bk s.1 x s.2]):=by
 refine enter func119 rfl ntmps119 fun w0=>?_
 refine E8 ?_
 rintro a1 c1 F1 a2 c2 F2 rfl l1 l2
 refine go ?_;intros
 refine E6 [1,2] [0,1,2,3,4] (fun s:Anj=>[(3,Ez s.g 0 0)]) (fun s=>[.row s.g 81 0 [] [.int .i64 x.Aa.next,.slice s.a x.Aa.Ao.length s.c] [],.ow Ci 188 (.slice s.a x.Aa.Ao.length s.c) x.Aa.Ao s.F]) (fun _=>True) ?_ fun s _=>?_
 ·skip
  refine As [1] [] ?_
  refine dt 0 ?_
  refine dt 1 ?_
  refine dt 2 ?_
  refine dt 4 ?_
  refine dt 5 ?_
  refine dt 6 ?_
  refine Ov 3 9 (by kernel_rfl) (by rw [List.getElem?_toArray];rfl) (by rw [List.getElem?_toArray];rfl) ?_ ?_
  ·apply Jw;rfl;intro _
   refine C9 Ci ?_
   refine dk ?_
   refine Ov 7 9 (by kernel_rfl) (by rw [List.getElem?_toArray];rfl) (by rw [List.getElem?_toArray];rfl) ?_ ?_
   ·refine Lx Hc Gc fun a5 c5 F5=>?_
    rw [List.nil_append]
    refine dk ?_
    refine dt 8 ?_
    refine dO 9 (by kernel_rfl) (by rw [List.getElem?_toArray];rfl) ?_
    apply Ce;rfl;intro _
    refine dk ?_
    refine dO 10 (by kernel_rfl) (by rw [List.getElem?_toArray];rfl) ?_
    apply Cs;rfl;rfl;rfl;(first|exact AggC.s|exact OneC.s);rfl;exact Cu;exact Ct;rfl
    refine dk ?_
    refine dd ?_
    refine Cd (⟨_,_,_,_⟩:Anj) trivial
   ·apply Ce;rfl;intro _
    refine dk ?_
    refine dO 7 (by kernel_rfl) (by rw [List.getElem?_toArray];rfl) ?_
    refine Lx Hc Gc fun a5 c5 F5=>?_
    rw [List.nil_append]
    refine dk ?_
    refine dt 8 ?_
    refine dO 10 (by kernel_rfl) (by rw [List.getElem?_toArray];rfl) ?_
    apply Cs;rfl;rfl;rfl;(first|exact AggC.s|exact OneC.s);rfl;exact Cu;exact Ct;rfl
    refine dk ?_
    refine dd ?_
    refine Cd (⟨_,_,_,_⟩:Anj) trivial
  ·apply Ce;rfl;intro _
   refine dk ?_
   refine dO 3 (by kernel_rfl) (by rw [List.getElem?_toArray];rfl) ?_
   apply Jw;rfl;intro _
   refine C9 Ci ?_
   refine dk ?_
   refine dO 7 (by kernel_rfl) (by rw [List.getElem?_toArray];rfl) ?_
   refine Lx Hc Gc fun a5 c5 F5=>?_
   rw [List.nil_append]
   refine dk ?_
   refine dt 8 ?_
   refine dO 10 (by kernel_rfl) (by rw [List.getElem?_toArray];rfl) ?_
   apply Cs;rfl;rfl;rfl;(first|exact AggC.s|exact OneC.s);rfl;exact Cu;exact Ct;rfl
   refine dk ?_
   refine dd ?_
   refine Cd (⟨_,_,_,_⟩:Anj) trivial
 obtain ⟨g3,a5,c5,F5⟩:=s
 dsimp only
 refine go ?_;intros
 refine As [0,3] [] ?_
 refine dt 0 ?_
 refine dt 1 ?_
 refine dt 2 ?_
 refine dt 3 ?_
 refine dt 4 ?_
 refine dt 6 ?_
 refine dt 7 ?_
 refine dO 5 (by kernel_rfl) (by rw [List.getElem?_toArray];rfl) ?_
 apply Jw;rfl;intro _
 refine C9 Ay ?_
 refine dk ?_
 refine dO 8 (by kernel_rfl) (by rw [List.getElem?_toArray];rfl) ?_
 refine Lx C2 Ds fun a6 c6 F6=>?_
 rw [List.nil_append]
 refine dk ?_
 refine dt 9 ?_
 refine dO 10 (by kernel_rfl) (by rw [List.getElem?_toArray];rfl) ?_
 apply Cs;rfl;rfl;rfl;(first|exact AggC.s|exact OneC.s);rfl;exact Cu;exact Ct;rfl
 refine dk ?_
 refine dd ?_
 refine go ?_;intros
 refine Js x ?_
 refine ret (_,_) trivial rfl
theorem Xj (l:List A4) (w:An) (a:Option Addr) (c:Nat) (F:List Nat) (v:Value) (Fw:List Nat) (hl:l.length≤1000000) (hs:∀q∈l,B9 q.Ae=true) (w0_:0≤w.next) (w1_:w.next≤65535):Fn prog 216 [.slice a l.length c,v] [.sl Ay (.slice a l.length c) l F,.isv Bo v w Fw] [] (fun (_:Option Addr × Nat × List Nat)=>True) (fun z=>.slice z.1 (Dz l w).length z.2.1) (fun z=>[.ow Ay 165 (.slice z.1 (Dz l w).length z.2.1) (Dz l w) z.2.2]):=by
 refine enter func216 rfl ntmps216 fun w0=>?_
 refine Co ?_
 rintro a1 c1 F1 rfl l1
 refine go ?_;intros
 refine C9 Ay ?_
 refine Cp [0,3,4] (fun s:PkS=>[(6,.int .i64 (s.k:Nat)),(5,.slice s.a (Dz (l.take s.k) w).length s.c)]) (fun s=>[.ow Ay 165 (.slice s.a (Dz (l.take s.k) w).length s.c) (Dz (l.take s.k) w) s.F]) (fun s=>s.k≤l.length) (fun s=>l.length - s.k) ⟨0,_,_,_⟩ (Nat.zero_le _) fun s hk=>?_
 obtain ⟨k,a4,c4,F4⟩:=s
 dsimp only at hk ⊢
 refine go ?_;intros
 refine Bg rfl (fun h4=>?_) (fun h4=>?_)
 ·have hk:k < l.length:=by omega
  have hkl:(Dz (l.take k) w).length≤k:=Nat.le_trans (List.length_filter_le _ _) (by rw [List.length_take];omega)
  have hsk:=hs _ (List.getElem_mem hk)
  obtain ⟨n0,n1⟩:=A9.1 hsk
  have en:∀b,(!(Pu l[k].Ae w.next || Hh w l[k].Ae) && decide (gp w.next l[k].Ae < 8))=b→Dz (l.take (k+1)) w=Dz (l.take k) w++if b then [l[k]] else []:=fun b hb=>by
   unfold Dz
   rw [List.take_add_one,List.getElem?_eq_getElem hk,List.filter_append]
   congr 1
   show ([l[k]].filter _)=_
   rw [List.filter_cons,List.filter_nil,hb]
  refine Hv (xs:=l) k ?_
  rintro hi b o e
  rw [e]
  refine go ?_;intros
  cases g5:(Pu l[k].Ae w.next || Hh w l[k].Ae)
  ·skip
   refine As [0,2] [] ?_
   refine dt 0 ?_
   refine dt 1 ?_
   refine dt 2 ?_
   refine dt 3 ?_
   refine dt 4 ?_
   refine dt 5 ?_
   refine dO 6 (by kernel_rfl) (by rw [List.getElem?_toArray];rfl) ?_
   apply At;rfl;kernel_rfl;exact Bf
   refine cf (Wd w l[k].Ae _ Fw w0_ w1_ n0 n1) fun _ _=>?_
   refine Ap ?_
   rw [show E4 w l[k].Ae=(Pu l[k].Ae w.next || Hh w l[k].Ae) from rfl,g5]
   refine dk ?_
   refine dt 7 ?_
   refine dt 8 ?_
   refine Dh 9 ?_
   refine Dh 10 ?_
   refine Dh 11 ?_
   refine Dh 12 ?_
   refine Dh 13 ?_
   refine Dh 14 ?_
   refine Dh 15 ?_
   refine d1g 16 ?_
   apply On.h
   apply At;rfl;kernel_rfl;exact Bf
   refine ce (fun w s=>H8 _ _ _ (by omega) (by omega)) ?_
   refine dk ?_
   refine Dh 17 ?_
   refine dt 18 ?_
   refine dd ?_
   refine go ?_;intros
   refine Bg rfl (fun h6=>?_) (fun h6=>?_)
   ·have e1:=en true (by rw [g5,decide_eq_true h6];rfl)
    refine go ?_;intros
    apply wO
    refine Mf (ys:=[l[k]]) (Lk l[k]) C2 fun a7 c7 F7=>?_
    refine go ?_;intros
    rw [show Dz (l.take k) w++[l[k]]=Dz (l.take (k+1)) w from e1.symm]
    refine Ck (⟨k+1,_,_,_⟩:PkS) (by show k+1≤l.length;omega) (by show l.length - (k+1) < l.length - k;omega)
   ·have e1:=en false (by rw [g5,decide_eq_false h6];rfl)
    refine go ?_;intros
    rw [show Dz (l.take k) w=Dz (l.take (k+1)) w by rw [e1];simp]
    refine Ck (⟨k+1,_,_,_⟩:PkS) (by show k+1≤l.length;omega) (by show l.length - (k+1) < l.length - k;omega)
  ·skip
   refine As [0,2] [] ?_
   refine dt 0 ?_
   refine dt 1 ?_
   refine dt 2 ?_
   refine dt 3 ?_
   refine dt 4 ?_
   refine dt 5 ?_
   refine dO 6 (by kernel_rfl) (by rw [List.getElem?_toArray];rfl) ?_
   apply At;rfl;kernel_rfl;exact Bf
   refine cf (Wd w l[k].Ae _ Fw w0_ w1_ n0 n1) fun _ _=>?_
   refine Ap ?_
   rw [show E4 w l[k].Ae=(Pu l[k].Ae w.next || Hh w l[k].Ae) from rfl,g5]
   refine dk ?_
   refine dt 7 ?_
   refine dt 8 ?_
   refine ds 9 ?_
   refine ds 10 ?_
   refine ds 11 ?_
   refine ds 12 ?_
   refine ds 13 ?_
   refine ds 14 ?_
   refine ds 15 ?_
   refine ds 16 ?_
   refine ds 17 ?_
   refine dt 18 ?_
   refine dd ?_
   have e1:=en false (by rw [g5];rfl)
   refine go ?_;intros
   rw [show Dz (l.take k) w=Dz (l.take (k+1)) w by rw [e1];simp]
   refine Ck (⟨k+1,_,_,_⟩:PkS) (by show k+1≤l.length;omega) (by show l.length - (k+1) < l.length - k;omega)
 have hk:k=l.length:=by omega
 subst hk
 rw [List.take_length]
 refine go ?_;intros
 refine ret (_,_,_) trivial rfl
structure GvS where
 g:Nat
 y:Vy
theorem Wf (r:Bb) (d:Int) (v:Value) (F:List Nat) (hg:Kk r) (d0:0≤d) (d1:d≤100) (_hx:r.Ai≤99999) :
  Fn prog 159 [v,.int .i64 d] [.isv B4 v r F] [] (fun (_:TkR)=>True) (fun s=>.tuple #[.agg #[.bool (Cv r d).Bh,.int .i64 (Cv r d).Ai,.int .i64 (Cv r d).Aa.next,.slice s.a1 (Cv r d).Aa.Ao.length s.c1,.slice s.a2 (Cv r d).Ar.length s.c2],.slice s.a3 (En r).length s.c3,.slice s.a4 (Fm r).length s.c4])
   (fun s=>[.isv B4 (.agg #[.bool (Cv r d).Bh,.int .i64 (Cv r d).Ai,.int .i64 (Cv r d).Aa.next,.slice s.a1 (Cv r d).Aa.Ao.length s.c1,.slice s.a2 (Cv r d).Ar.length s.c2]) (Cv r d) s.F1,.ow Ak 110 (.slice s.a3 (En r).length s.c3) (En r) s.F3,.ow Ba 9 (.slice s.a4 (Fm r).length s.c4) (Fm r) s.F4]):=by
 have k0:=hg.k0
 have k1:=hg.k1
 obtain ⟨-,q1,q2, -⟩:=Dq.1 hg.q
 obtain ⟨w0_,w1_⟩:=Gz hg.w
 obtain ⟨hw8,hit⟩:=Ix hg.w
 have hpl:(r.Ar.filterMap (Nk (r.Ai+1))).length≤8:=Nat.le_trans (List.length_filterMap_le _ _) q1
 refine enter func159 rfl ntmps159 fun w0=>?_
 refine E8 (v:=v) (x:=r) (F:=F) ?_
 rintro a1 c1 F1 a2 c2 F2 rfl l1 l2
 refine go ?_;intros
 refine cf (Qs r _ F (by omega) (by omega)) fun u _=>?_
 refine Ap ?_
 refine H9 ?_
 rintro a5 c5 F5 a6 c6 F6 e6 - -
 rw [e6]
 refine A1 (E:=Ci) fun G5=>?_
 refine go ?_;intros
 refine cf (Aiu r.Ar (r.Ai+1) d a2 c2 F2 (by omega) (fun q hq=>⟨(Eb.1 (q2 q hq)).t0,(Eb.1 (q2 q hq)).t1⟩) (by omega) (by omega) (by omega) (by omega)) fun z _=>?_
 refine Ap ?_
 rw [show r.Ar.filterMap (Qc (r.Ai+1))=Cz r from rfl,show r.Ar.filterMap (P5 (r.Ai+1) d)=Ld r d from rfl]
 refine A1 (E:=Bd) (xs:=r.Ar.filterMap (Nk (r.Ai+1))) fun G2=>?_
 refine A1 (E:=Bd) (xs:=Cz r) fun G3=>?_
 refine C9 Ba ?_
 refine C9 Ak ?_
 refine go ?_;intros
 refine Cp [2,4,5,6,7,9,11,12] (fun s:PkS=>[(13,.int .i64 (s.k:Nat)),(8,.slice s.a (((r.Ar.filterMap (Nk (r.Ai+1))).take s.k).map (pkR r.Aa.next)).length s.c)]) (fun s=>[.ow Ak 110 (.slice s.a (((r.Ar.filterMap (Nk (r.Ai+1))).take s.k).map (pkR r.Aa.next)).length s.c) (((r.Ar.filterMap (Nk (r.Ai+1))).take s.k).map (pkR r.Aa.next)) s.F]) (fun s=>s.k≤(r.Ar.filterMap (Nk (r.Ai+1))).length) (fun s=>(r.Ar.filterMap (Nk (r.Ai+1))).length - s.k) ⟨0,_,_,_⟩ (Nat.zero_le _) fun s hs=>?_
 obtain ⟨k,a4,c4,F4⟩:=s
 dsimp only at hs ⊢
 generalize hsn:r.Ar.filterMap (Nk (r.Ai+1))=sn at *
 refine go ?_;intros
 refine Bg rfl (fun h4=>?_) (fun h4=>?_)
 ·have hk:k < sn.length:=by omega
  have hkl:((sn.take k).map (pkR r.Aa.next)).length≤k:=by simp;omega
  refine In (xs:=sn) k ?_
  rintro hi b o2 e
  rw [e]
  refine go ?_;intros
  have eo:(sn.take (k+1)).map (pkR r.Aa.next)=(sn.take k).map (pkR r.Aa.next)++[pkR r.Aa.next sn[k]]:=by rw [List.take_add_one,List.getElem?_eq_getElem hk,List.map_append];rfl
  refine As [0,10] [] ?_
  refine dt 0 ?_
  refine dt 1 ?_
  refine dt 2 ?_
  refine dt 3 ?_
  refine dt 4 ?_
  refine dt 5 ?_
  refine dt 6 ?_
  refine dt 7 ?_
  refine dt 8 ?_
  refine dt 9 ?_
  refine dt 10 ?_
  refine dt 11 ?_
  refine dO 12 (by kernel_rfl) (by rw [List.getElem?_toArray];rfl) ?_
  apply Ho;rfl;rfl;rfl;rfl;exact Hl;exact Hg;intro _
  refine dk ?_
  refine dO 13 (by kernel_rfl) (by rw [List.getElem?_toArray];rfl) ?_
  refine Mf (ys:=[pkR r.Aa.next sn[k]]) (C5 (pkR r.Aa.next sn[k]) (by show (0:Nat)≤maxLen;exact Nat.zero_le _)) Hk fun a7 c7 F7=>?_
  refine dk ?_
  refine dt 14 ?_
  refine dd ?_
  refine go ?_;intros
  rw [←eo]
  refine Ck (⟨k+1,_,_,_⟩:PkS) (by show k+1≤sn.length;omega) (by show sn.length - (k+1) < sn.length - k;omega)
 have hk:k=sn.length:=by omega
 subst hk
 rw [List.take_length]
 have ep:En r=sn.map (pkR r.Aa.next):=by unfold En;rw [hsn]
 rw [ep]
 refine go ?_;intros
 by_cases hL:Cz r=[]
 ·refine Bg rfl (fun h=>absurd h (by rw [hL];decide)) (fun _=>?_)
  rw [Z4 hL,Ae1 hL]
  refine go ?_;intros
  refine A1 (E:=Ay) fun F8=>?_
  refine Em (a1:=a5) ⟨r.Bh,r.Ai+1,r.Aa,Ld r d⟩ ?_
  refine ret ⟨_,_,_,_,_,[],_,_,_,_,_,_⟩ trivial rfl
 ·have hl0:=List.length_pos_iff.2 hL
  refine Bg rfl (fun _=>?_) (fun h=>absurd h (by omega))
  rw [Wv hL,Abu hL]
  obtain ⟨hs8,hsr⟩:=X8 hg hL
  have hll8:=Z6 r
  obtain ⟨hs0,hs1⟩:=A9.1 hsr
  have hll:=Abd hL
  obtain ⟨l0,l1⟩:=A9.1 (Ww hg (List.getElem_mem (show (Cz r).length - 1 < (Cz r).length by omega))).1
  have hi1:((Cz r).length:Int) - 1=(((Cz r).length - 1:Nat):Int):=by omega
  refine Cf (a1:=a5) r.Aa ?_
  generalize G5=FW
  refine In (xs:=Cz r) ((Cz r).length - 1) ?_
  rintro hi b o2 e
  rw [e]
  refine go ?_;intros
  refine E6 [4,5,6,7,8,9] [2,3,6,7,10,14] (fun s:GvS=>[(15,Ez s.g 0 0),(16,.slice s.y.ae s.y.es.length s.y.ce)]) (fun s=>[.row s.g 81 0 [] [.int .i64 s.y.y.next,.slice s.y.a s.y.y.Ao.length s.y.c] [],.isv Bo (.agg #[.int .i64 s.y.y.next,.slice s.y.a s.y.y.Ao.length s.y.c]) s.y.y s.y.F,.ow Ba 9 (.slice s.y.ae s.y.es.length s.y.ce) s.y.es s.y.Fe]) (fun s=>s.y.y=Hw r.Aa (Dd (Cz r))∧s.y.es=Ii r.Aa (Dd (Cz r))) ?_ fun s hy=>?_
  ·skip
   refine As [0,7] [] ?_
   refine dt 0 ?_
   refine dt 1 ?_
   refine dt 2 ?_
   refine dt 3 ?_
   refine dt 4 ?_
   rw [hi1]
   refine dt 5 ?_
   refine dt 6 ?_
   refine Ov 7 12 (by kernel_rfl) (by rw [List.getElem?_toArray];rfl) (by rw [List.getElem?_toArray];rfl) ?_ ?_
   ·apply At;rfl;kernel_rfl;exact Bf
    refine ce (fun w s=>Fh _ _ _ (by omega) (by omega)) ?_
    rw [←hll]
    refine dk ?_
    refine Ov 8 12 (by kernel_rfl) (by rw [List.getElem?_toArray];rfl) (by rw [List.getElem?_toArray];rfl) ?_ ?_
    ·apply At;rfl;kernel_rfl;exact Bf
     refine cf (P0 r.Aa (Dd (Cz r)) _ FW w0_ w1_ hs0 hs1 hw8 hit) fun y hy=>?_
     refine Ap ?_
     refine dk ?_
     refine dt 9 ?_
     refine dt 10 ?_
     refine dt 11 ?_
     refine dO 12 (by kernel_rfl) (by rw [List.getElem?_toArray];rfl) ?_
     apply Ce;rfl;intro _
     refine dk ?_
     refine dO 13 (by kernel_rfl) (by rw [List.getElem?_toArray];rfl) ?_
     apply Cs;rfl;rfl;rfl;(first|exact AggC.s|exact OneC.s);rfl;exact Cu;exact Ct;rfl
     refine dk ?_
     refine dt 14 ?_
     refine dd ?_
     refine Cd (⟨_,y⟩:GvS) hy
    ·apply Ce;rfl;intro _
     refine dk ?_
     refine dO 8 (by kernel_rfl) (by rw [List.getElem?_toArray];rfl) ?_
     apply At;rfl;kernel_rfl;exact Bf
     refine cf (P0 r.Aa (Dd (Cz r)) _ FW w0_ w1_ hs0 hs1 hw8 hit) fun y hy=>?_
     refine Ap ?_
     refine dk ?_
     refine dt 9 ?_
     refine dt 10 ?_
     refine dt 11 ?_
     refine dO 13 (by kernel_rfl) (by rw [List.getElem?_toArray];rfl) ?_
     apply Cs;rfl;rfl;rfl;(first|exact AggC.s|exact OneC.s);rfl;exact Cu;exact Ct;rfl
     refine dk ?_
     refine dt 14 ?_
     refine dd ?_
     refine Cd (⟨_,y⟩:GvS) hy
   ·apply Ce;rfl;intro _
    refine dk ?_
    refine dO 7 (by kernel_rfl) (by rw [List.getElem?_toArray];rfl) ?_
    apply At;rfl;kernel_rfl;exact Bf
    refine ce (fun w s=>Fh _ _ _ (by omega) (by omega)) ?_
    rw [←hll]
    refine dk ?_
    refine dO 8 (by kernel_rfl) (by rw [List.getElem?_toArray];rfl) ?_
    apply At;rfl;kernel_rfl;exact Bf
    refine cf (P0 r.Aa (Dd (Cz r)) _ FW w0_ w1_ hs0 hs1 hw8 hit) fun y hy=>?_
    refine Ap ?_
    refine dk ?_
    refine dt 9 ?_
    refine dt 10 ?_
    refine dt 11 ?_
    refine dO 13 (by kernel_rfl) (by rw [List.getElem?_toArray];rfl) ?_
    apply Cs;rfl;rfl;rfl;(first|exact AggC.s|exact OneC.s);rfl;exact Cu;exact Ct;rfl
    refine dk ?_
    refine dt 14 ?_
    refine dd ?_
    refine Cd (⟨_,y⟩:GvS) hy
  obtain ⟨g15,y⟩:=s
  dsimp only at hy ⊢
  obtain ⟨hy1,hy2⟩:=hy
  have hmv:=Qv (t:=Dd (Cz r)) hg.w
  have hm0:0≤y.y.next:=by rw [hy1,hmv.1];exact (Ht _ _).1
  have hm1:y.y.next≤65535:=by rw [hy1,hmv.1];exact (Ht _ _).2
  have hes:y.es.length≤100:=by rw [hy2];have:=hmv.2.2.1;have:=@Tl r.Aa.next (Dd (Cz r));omega
  refine A1 (E:=Ba) (xs:=y.es) fun G8=>?_
  refine go ?_;intros
  apply wO
  refine Lx (ys:=y.es) Ed Hf fun a9 c9 F9=>?_
  rw [List.nil_append]
  refine A1 (E:=Ay) (xs:=Ld r d) fun F8=>?_
  refine go ?_;intros
  refine cf (Xj (Ld r d) y.y z.a z.c F8 _ y.F (by have:=Wx r d;omega) (fun q hq=>(Vs hg hq).1) hm0 hm1) fun u2 _=>?_
  refine Ap ?_
  rw [hy1,Xv hg hL,←hy1]
  refine go ?_;intros
  refine Co (x:=y.y) ?_
  rintro b1 d1 G1 e5 m1
  simp only [Value.agg.injEq,Array.mk.injEq,List.cons.injEq,Value.slice.injEq,true_and,and_true] at e5
  obtain ⟨rfl,rfl⟩:=e5
  refine A1 (E:=Ay) (xs:=Tu (Ld r d) y.y.next) fun F10=>?_
  refine Em ⟨r.Bh,r.Ai+1,y.y,Tu (Ld r d) y.y.next⟩ ?_
  rw [←hy2]
  refine ret ⟨_,_,_,_,_,[],_,_,_,_,_,_⟩ trivial rfl
def Ajv (md:Region.Mode) (ops:Array Oper) (X:Nat→Bool) (listed:Array Bool) (i:Nat):Bool:=(List.range ops.size).all fun j=>!X j || listed.getD j false || Pb md ops i ops.size j
section
variable {P:Program} {md:Region.Mode} {ops:Array Oper} {Q:Exit→Act→World→Prop} {S:World→Prop} {X:Nat→Bool}
theorem C4.firstL {i:Nat} {oi:Oper} {v:Value} (hi:ops[i]?=some oi) (hsel:∀(j:Nat) (o:Oper) cs b,ops[j]?=some o→o.op≠.select cs b)
  (hQ:∀c a w,Q (.panic c) (a.put oi.dst v) w→Q (.panic c) a w) :
  ∀(f:Nat) (listed:Array Bool) (a:Act) (w:World),(∀j,j < ops.size→X j=true→listed.getD j false=false→Pb md ops i ops.size j=true) →
   (∀j oj,ops[j]?=some oj→j≠i→listed.getD j true=false→(∀e∈oj.after,Region.binds md e=true→e.on≠i)→oi.apart ops oj=true) →
   T0 md ops listed→i∈Region.ready md ops listed→YieldsIf P ops S oi v a→S w→C4 P md ops Q S X f (listed.setIfInBounds i true) (a.put oi.dst v) w→C4 P md ops Q S X (f+1) listed a w:=by
 intro f
 induction f with
 | zero =>
  intro listed a w _ _ _ hr hy hS H
  refine ⟨fun h=>(by rw [h] at hr;cases hr),fun j hj=>?_⟩
  by_cases hji:j=i
  ·subst hji;exact hy.wpOp hi hS ⟨fun _=>hS,H⟩
  ·have:=ready_mono hj hji
   rw [H.1] at this;cases this
 | succ f ih =>
  intro listed a w hX hfree hcl hr hy hS H
  refine ⟨fun h=>(by rw [h] at hr;cases hr),fun j hj=>?_⟩
  by_cases hji:j=i
  ·subst hji;exact hy.wpOp hi hS ⟨fun _=>hS,H⟩
  ·obtain ⟨hju,oj,hoj,hall⟩:=mem_ready.1 hj
   have hiu:=Sz (mem_ready.1 hr).1
   have hnot:∀e∈oj.after,Region.binds md e=true→e.on≠i:=fun e he hb heq=>by
    have h1:=hall e he hb
    rw [heq,hiu] at h1;cases h1
   have hXj:X j=false:=by
    cases hx:X j
    ·rfl
    ·have h2:=Rx hcl ops.size j (fun o ho=>by obtain rfl:=Option.some.inj (ho.symm.trans hoj);exact hall) (hX j (Array.getElem?_eq_some_iff.1 hoj).1 hx (Sz hju))
     rw [hiu] at h2;cases h2
   have h2:=wpOp_putIf hoj (hfree j oj hoj hji hju hnot) (fun cs b=>hsel i oi cs b hi) (fun cs b=>hsel j oj cs b hoj) hQ hy (H.2 j (ready_mono hj hji))
   refine wpOp_mono (fun a' w' h3=>⟨fun _=>h3.2.1 hXj,ih (listed.setIfInBounds j true) a' w' (fun k hk hx hun=>hX k hk hx ?_) (fun k ok hk hki hun hno=>hfree k ok hk hki ?_ hno) (hcl.set hj) (ready_mono hr (Ne.symm hji)) h3.1 (h3.2.1 hXj) ?_⟩) h2
   ·by_cases hjk:j=k
    ·subst hjk;exact Sz hju
    ·rw [getD_set_ne false hjk] at hun;exact hun
   ·by_cases hjk:j=k
    ·subst hjk;exact hju
    ·rw [getD_set_ne true hjk] at hun;exact hun
   ·rw [Array.setIfInBounds_comm _ _ hji];exact h3.2.2
end
section
variable {c:Cx} {fr:Fr} {H H0:List Pc} {k:List It} {X:List Nat} {ops:Array Oper} {f:Nat} {listed:Array Bool} {d:Nat} {o:Op} {ty:TypeId} {pos:String} {Cg:Array Edge} {v:Value}
theorem dtl (i:Nat) (h:T c ((d,v)::fr) H (.dx k H0 X ops f (listed.setIfInBounds i true))) (ho:ops[i]?=some ⟨some d,o,ty,pos,Cg,none⟩:=by rw [List.getElem?_toArray];rfl) (hy:Yd c.P c.n fr H0 o ty v:=by exact ydE) (hs:Mu H0 H:=by repeat (first|exact Mu.nil|refine Mu.cons (by exact B8) ?_))
  (h1:Region.noSelect ops=true:=by kernel_rfl) (h2:Region.free .any ops listed i=true:=by kernel_rfl) (h3:(Region.ready .any ops listed).contains i=true:=by kernel_rfl) (h4:Ajv .any ops (fun i=>X.contains i) listed i=true:=by kernel_rfl) (h5:Ou .any ops listed=true:=by kernel_rfl) (hR:Uz c:=by exact Xo) (hd:Nat.blt d c.n=true:=by rfl) :
  T c fr H (.dx k H0 X ops (f+1) listed):=.mk fun a w s g =>
 C4.firstL ho (Region.noSelect_spec h1) (fun ch a w hp=>by rw [Jz] at hp ⊢;exact hR _ _ _ _ _ hp) f listed a w (fun j hj hx hl=>by
   have:=List.all_eq_true.1 h4 j (List.mem_range.2 hj)
   dsimp only at this
   rw [hx,hl] at this
   simpa using this) (Region.free_spec ho h2) (Aas h5) (by simpa using h3) (.inl ⟨rfl,fun w' hw'=>hy.h a w' _ _ _ _ g hw'⟩) (fun p hp=>s.on p (hs.all p hp)) (h.h _ _ s (g.put hd))
end
theorem Ani (fid:FuncId) (bd caps:List Value) (A:List Pc) (hA:A.all (fun p=>!p.mu)=true) (xs:List Av) (a:Option Addr) (c:Nat) (F:List Nat) (p:Av→Bool) (hb:Om prog fid=true) (hl:xs.length≤1000000000)
  (hp:∀x∈xs,∀w,Nf A w→Calls prog fid (bd++[(.agg #[.int .i64 (x).Df,.int .i64 (x).Ae,.int .i64 (x).Al,.int .i64 (x).Ec,.string (x).data]:Value)]++caps).toArray w fun e w'=>e=.returned (.bool (p x))∧Below w.heap.size w w') :
  Fn prog 167 [.slice a xs.length c,.func (.func fid) bd.toArray caps.toArray] (.sl Ak (.slice a xs.length c) xs F::A) [] (fun (_:Unit)=>True) (fun _=>.int .i64 (Ox p xs)) (fun _=>[]):=by
 refine enter func167 rfl ntmps167 (fun w0=>?_) rfl (by simpa [Pc.mu] using hA) .nil
 refine go ?_;intros
 refine Dv [0,1,4,7] (fun k:Nat=>[(8,.int .i64 (k:Nat))]) (fun k=>k≤xs.length∧∀j (_:j < k) (hj:j < xs.length),p xs[j]=false) (fun k=>xs.length - k) 0 ⟨Nat.zero_le _,fun j h=>by omega⟩ fun k hk=>?_
 obtain ⟨hk1,hk2⟩:=hk
 refine go ?_;intros
 refine Bg rfl (fun h5=>?_) (fun h5=>?_)
 ·have hh:k < xs.length:=by omega
  refine go ?_;intros
  refine Mg (xs:=xs) k ?_
  rintro hi b o e sz
  rw [e]
  refine go ?_;intros
  apply wO
  refine Vf rfl rfl hb Bf ?_
  refine cb (fun w st=>hp xs[k] (List.getElem_mem hh) w (fun q hq=>st.on q (by simp [hq]))) ?_
  cases hpk:p xs[k]
  ·refine go ?_;intros
   refine Rs ?_
   refine Ck (hH:=I6 _) (k+1) ⟨hh,fun j hj h=>?_⟩ (by omega)
   rcases Nat.lt_or_eq_of_le (Nat.lt_succ_iff.1 hj) with h2|rfl
   ·exact hk2 j h2 h
   ·exact hpk
  ·refine go ?_;intros
   refine ret () trivial ?_
   rw [M4 hh hk2 hpk];rfl
 ·obtain rfl:k=xs.length:=by omega
  refine go ?_;intros
  refine ret () trivial ?_
  rw [Ly (fun j hj=>hk2 j hj hj)];rfl
theorem Ago (fid:FuncId) (bd caps:List Value) (A:List Pc) (hA:A.all (fun p=>!p.mu)=true) (xs:List Av) (a:Option Addr) (c:Nat) (F:List Nat) (p:Av→Bool) (hb:Om prog fid=true) (hl:xs.length≤1000000000)
  (hp:∀x∈xs,∀w,Nf A w→Calls prog fid (bd++[(.agg #[.int .i64 (x).Df,.int .i64 (x).Ae,.int .i64 (x).Al,.int .i64 (x).Ec,.string (x).data]:Value)]++caps).toArray w fun e w'=>e=.returned (.bool (p x))∧Below w.heap.size w w') :
  Fn prog 104 [.slice a xs.length c,.func (.func fid) bd.toArray caps.toArray] (.sl Ak (.slice a xs.length c) xs F::A) [] (fun (_:Unit)=>True) (fun _=>.bool (xs.any p)) (fun _=>[]):=by
 refine enter func104 rfl ntmps104 (fun w0=>?_) rfl (by simpa [Pc.mu] using hA) .nil
 refine go ?_;intros
 refine cb (fun w st=>(Ani fid bd caps A hA xs a c F p hb hl hp).val w (fun q hq=>st.on q (by simpa using hq)) (by simpa [Pc.mu] using hA)) ?_
 refine go ?_;intros
 refine ret () trivial ?_
 rw [Qk];rfl
theorem Ank (r:Bb) (p:Av) (d:Int) (g t o:Nat) (A B:List Value) (a1:Option Addr) (c1:Nat) (F1:List Nat) (a2:Option Addr) (c2:Nat) (F2:List Nat) (hg:Kk r) (hp:Bp p=true) (d0:1≤d) (d1:d≤8) :
  Fn prog 205 [Ez g o 0,.agg #[.int .i64 p.Df,.int .i64 p.Ae,.int .i64 p.Al,.int .i64 p.Ec,.string p.data],.int .i64 d] [] [.row g t o A [.bool r.Bh,.int .i64 r.Ai,.int .i64 (r.Aa).next,.slice a1 (r.Aa).Ao.length c1,.slice a2 (r.Ar).length c2] B,.ow Ci 188 (.slice a1 (r.Aa).Ao.length c1) (r.Aa).Ao F1,.ow Ay 165 (.slice a2 (r.Ar).length c2) (r.Ar) F2] (fun (_:NwS)=>True)
   (fun s=>.slice s.ae (Gw r p).length s.ce) (fun s=>[.row g t o A [.bool (De r p d).Bh,.int .i64 (De r p d).Ai,.int .i64 ((De r p d).Aa).next,.slice s.a1 ((De r p d).Aa).Ao.length s.c1,.slice s.a2 ((De r p d).Ar).length s.c2] B,.ow Ci 188 (.slice s.a1 ((De r p d).Aa).Ao.length s.c1) ((De r p d).Aa).Ao s.F1,.ow Ay 165 (.slice s.a2 ((De r p d).Ar).length s.c2) ((De r p d).Ar) s.F2,.ow Ba 9 (.slice s.ae (Gw r p).length s.ce) (Gw r p) s.Fe]):=by
 have k0:=hg.k0
 have k1:=hg.k1
 obtain ⟨-,q1,q2, -⟩:=Dq.1 hg.q
 obtain ⟨n0,n1⟩:=Iv hp
 refine enter func205 rfl ntmps205 fun w0=>?_
 refine go ?_;intros
 by_cases hk1:p.Df=1
 ·rw [decide_eq_true hk1]
  rw [show De r p d=I1 r p d by unfold De Kx;simp [hk1],show Gw r p=Km r p by unfold Gw Kx;simp [hk1]]
  refine go ?_;intros
  refine cf (Ab0 r p d g t o A B a1 c1 F1 a2 c2 F2 hg hp d0 d1) fun s _=>?_
  refine Ap ?_
  refine go ?_;intros
  refine ret ⟨s.a1,s.c1,s.F1,s.a2,s.c2,s.F2,s.ae,s.ce,s.Fe⟩ trivial rfl
 rw [decide_eq_false hk1]
 refine go ?_;intros
 by_cases hk2:p.Df=2
 ·rw [decide_eq_true hk2]
  rw [show De r p d=I1 r p d by unfold De Kx;simp [hk2],show Gw r p=Km r p by unfold Gw Kx;simp [hk2]]
  refine go ?_;intros
  refine cf (Ab0 r p d g t o A B a1 c1 F1 a2 c2 F2 hg hp d0 d1) fun s _=>?_
  refine Ap ?_
  refine go ?_;intros
  refine ret ⟨s.a1,s.c1,s.F1,s.a2,s.c2,s.F2,s.ae,s.ce,s.Fe⟩ trivial rfl
 rw [decide_eq_false hk2]
 refine go ?_;intros
 by_cases hk5:p.Df=5
 ·rw [decide_eq_true hk5]
  rw [show De r p d=I1 r p d by unfold De Kx;simp [hk5],show Gw r p=Km r p by unfold Gw Kx;simp [hk5]]
  refine go ?_;intros
  refine cf (Ab0 r p d g t o A B a1 c1 F1 a2 c2 F2 hg hp d0 d1) fun s _=>?_
  refine Ap ?_
  refine go ?_;intros
  refine ret ⟨s.a1,s.c1,s.F1,s.a2,s.c2,s.F2,s.ae,s.ce,s.Fe⟩ trivial rfl
 rw [decide_eq_false hk5]
 refine go ?_;intros
 refine Cb Ba 9 ?_
 have eE:Gw r p=[]:=by unfold Gw Kx;simp [hk1,hk2,hk5]
 by_cases hk4:p.Df=4
 ·rw [decide_eq_true hk4]
  cases hs:r.Bh
  ·rw [show De r p d=r by unfold De Kx;simp [hk1,hk2,hk5,hs],eE,hs]
   refine go ?_;intros
   refine ret ⟨_,_,_,_,_,_,none,0,_⟩ trivial rfl
  ·rw [show De r p d=Adp r p by unfold De Kx;simp [hk4,hs],eE,show (Adp r p).Bh=true from hs]
   refine go ?_;intros
   refine As [0,1,2] [0,18,19,20,21,22] ?_
   refine Ua 0 ?_
   refine dtl 1 ?_
   refine dtl 2 ?_
   refine dtl 3 ?_
   refine dtl 4 ?_
   refine dtl 5 ?_
   refine dtl 6 ?_
   refine dtl 7 ?_
   refine dtl 8 ?_
   refine dtl 9 ?_
   refine dtl 10 ?_
   refine dtl 11 ?_
   refine dtl 12 ?_
   refine dtl 13 ?_
   refine dtl 14 ?_
   refine dtl 15 ?_
   refine dO 16 (by kernel_rfl) (by rw [List.getElem?_toArray];rfl) ?_
   apply At;rfl;kernel_rfl;exact Bf
   refine cfr (fun w st=>by obtain ⟨Fq, -,hq9⟩:=(st.get (p:=.ow Ay 165 (.slice a2 r.Ar.length c2) r.Ar F2) (by simp)).2.read;exact ⟨[.sl Ay (.slice a2 r.Ar.length c2) r.Ar Fq],Il ⟨by decide,hq9⟩,rfl,Vu r.Ar r.Aa.next p.Ae r.Ai a2 c2 Fq hg.q (A9.2 ⟨n0,n1⟩) k0 k1⟩) (fun u _=>?_)
   refine dk ?_
   refine dtl 17 ?_
   refine Ua 18 ?_
   refine Ua 19 ?_
   refine Ua 20 ?_
   refine Ua 21 ?_
   refine dO 22 (by kernel_rfl) (by rw [List.getElem?_toArray];rfl) ?_
   apply Cs;rfl;rfl;rfl;(first|exact AggC.s|exact OneC.s);rfl;exact Cu;exact Ct;rfl
   refine Ng ?_
   refine dd ?_
   refine go ?_;intros
   refine ret ⟨_,_,_,_,_,_,none,0,_⟩ trivial rfl
 rw [decide_eq_false hk4]
 rw [show De r p d=r by unfold De Kx;simp [hk1,hk2,hk5,hk4],eE]
 refine go ?_;intros
 refine ret ⟨_,_,_,_,_,_,none,0,_⟩ trivial rfl
structure HaS where
 k:Nat
 a1:Option Addr
 c1:Nat
 F1:List Nat
 a2:Option Addr
 c2:Nat
 F2:List Nat
 ae:Option Addr
 ce:Nat
 Fe:List Nat
structure KiS where
 k:Nat
 a:Option Addr
 c:Nat
 F:List Nat
theorem M5 (t:Nl) (node:Int) (v:Value) (F:List Nat) (hz:Io t.Ac node 1=[]) (hl:1≤t.Ac.length∧t.Ac.length≤1000000):Fn prog 90 [v,.int .i64 node] [.isv Pd v t F] [] (fun (_:KiS)=>True) (fun z=>.slice z.a (Gs t.Ac node).length z.c) (fun z=>[.ow Bd 3 (.slice z.a (Gs t.Ac node).length z.c) (Gs t.Ac node) z.F]):=by
 refine enter func90 rfl ntmps90 fun w0=>?_
 refine M7 ?_
 rintro a1 c1 F1 rfl l1
 unfold maxLen at l1
 refine go ?_;intros
 refine C9 Bd ?_
 refine Cp [1,2,4] (fun z:KiS=>[(5,.slice z.a (Pz t.Ac node z.k).length z.c),(6,.int .i64 ((z.k+1:Nat):Int))]) (fun z=>[.ow Bd 3 (.slice z.a (Pz t.Ac node z.k).length z.c) (Pz t.Ac node z.k) z.F]) (fun z=>z.k+1≤t.Ac.length) (fun z=>t.Ac.length - z.k) ⟨0,_,_,_⟩ hl.1 fun z hz2=>?_
 have hkl:=Aa8 t.Ac node z.k
 have hl2:=hl.2
 refine go ?_;intros
 refine Bg rfl (fun h1=>?_) (fun h1=>?_)
 ·have hh:z.k+1 < t.Ac.length:=by omega
  refine In (xs:=t.Ac) (z.k+1) ?_
  rintro hi b o e1
  rw [e1]
  refine go ?_;intros
  refine Bg rfl (fun h2=>?_) (fun h2=>?_)
  ·refine Jm ?_;intros
   apply wO
   refine Mf (Mi _) C8 fun a9 c9 F9=>?_
   refine go ?_;intros
   rw [←Ail hh h2]
   refine Ck ⟨z.k+1,a9,c9,F9⟩ (by show z.k+1+1≤t.Ac.length;omega) (by show t.Ac.length - (z.k+1) < t.Ac.length - z.k;omega)
  ·rw [←Alb hh h2]
   refine go ?_;intros
   refine Ck ⟨z.k+1,z.a,z.c,z.F⟩ (by show z.k+1+1≤t.Ac.length;omega) (by show t.Ac.length - (z.k+1) < t.Ac.length - z.k;omega)
 ·have hk:z.k+1=t.Ac.length:=by omega
  rw [Aa7 hz hk]
  refine go ?_;intros
  refine ret z trivial rfl
theorem Vb (t:Nl) (node:Int) (v:Value) (F:List Nat):Fn prog 108 [v,.int .i64 node] [.isv Pd v t F] [] (fun (_:Unit)=>True) (fun _=>.bool (Ev t.Ac node)) (fun _=>[]):=by
 refine enter func108 rfl ntmps108 fun w0=>?_
 refine M7 ?_
 rintro a1 c1 F1 rfl l1
 refine go ?_;intros
 refine cf (Aks t.Ac node _ _ F1) fun _ _=>?_
 refine Ap ?_
 refine go ?_;intros
 refine ret () trivial ?_
 unfold Ev
 rw [←decide_not];rfl
theorem Nn (t:Nl) (node:Int) (v:Value) (F:List Nat) (hg:Ml t.Ac) (h0:0 < node):Fn prog 60 [v,.int .i64 node] [.isv Pd v t F] [] (fun (_:Unit)=>True) (fun _=>.bool (Ev t.Ac node)) (fun _=>[]):=by
 refine enter func60 rfl ntmps60 fun w0=>?_
 refine M7 ?_
 rintro a1 c1 F1 rfl l1
 refine go ?_;intros
 refine Dc rfl rfl (fun h1=>?_) (fun h1=>?_)
 ·refine go ?_;intros
  refine cf (M5 t node _ F (O5 hg.z (by omega)) (by have:=hg.n0;have:=hg.n1;omega)) fun q _=>?_
  refine Ap ?_
  refine go ?_;intros
  refine ret () trivial ?_
  rw [Ai0]
  by_cases hk:Gs t.Ac node=[]
  ·rw [hk];rfl
  ·rw [decide_eq_false hk,decide_eq_false fun e=>hk (List.length_eq_zero_iff.1 (by omega))];rfl
 ·exact absurd h0 h1
theorem Zk {w:World} {t:TypeId} {a:Option Addr} {c:Nat} {l:List Int} {F:List Nat} (h:(Pc.ow Bd t (.slice a l.length c) l F).P w):∃F',(Pc.isv Pd (.agg #[.slice a l.length c]) ⟨l⟩ F').P w:=by
 obtain ⟨F', -,hs⟩:=h.2.read
 exact ⟨F',_,rfl,_,rfl,hs⟩
theorem T7 (t:Nl) (node:Int) (v:Value) (F:List Nat) (hl:t.Ac.length≤1000000):Fn prog 80 [v,.int .i64 node] [.isv Pd v t F] [] (fun (_:KiS)=>True) (fun z=>.slice z.a (Gs t.Ac node).length z.c) (fun z=>[.ow Bd 3 (.slice z.a (Gs t.Ac node).length z.c) (Gs t.Ac node) z.F]):=by
 refine enter func80 rfl ntmps80 fun w0=>?_
 refine M7 ?_
 rintro a1 c1 F1 rfl l1
 refine Cb Bd 3 ?_
 refine go ?_;intros
 refine Cp [1,4,9,10] (fun z:KiS=>[(5,.slice z.a (Io t.Ac node z.k).length z.c),(11,.int .i64 (z.k:Nat))]) (fun z=>[.ow Bd 3 (.slice z.a (Io t.Ac node z.k).length z.c) (Io t.Ac node z.k) z.F]) (fun z=>z.k≤t.Ac.length) (fun z=>t.Ac.length - z.k) ⟨0,_,_,_⟩ (Nat.zero_le _) fun z hz=>?_
 have hkl:=Y5 t.Ac node z.k
 refine go ?_;intros
 refine Bg rfl (fun h1=>?_) (fun h1=>?_)
 ·have hh:z.k < t.Ac.length:=by omega
  refine In (xs:=t.Ac) z.k ?_
  rintro hi b o e1
  rw [e1]
  refine go ?_;intros
  refine Bg rfl (fun h2=>?_) (fun h2=>?_)
  ·refine Jm ?_;intros
   apply wO
   refine Mf (Mi _) C8 fun a9 c9 F9=>?_
   refine go ?_;intros
   rw [←Afs hh h2]
   refine Ck ⟨z.k+1,a9,c9,F9⟩ (by show z.k+1≤t.Ac.length;omega) (by show t.Ac.length - (z.k+1) < t.Ac.length - z.k;omega)
  ·rw [←Aim hh h2]
   refine go ?_;intros
   refine Ck ⟨z.k+1,z.a,z.c,z.F⟩ (by show z.k+1≤t.Ac.length;omega) (by show t.Ac.length - (z.k+1) < t.Ac.length - z.k;omega)
 ·rw [show Io t.Ac node z.k=Gs t.Ac node by unfold Gs;rw [show z.k=t.Ac.length by omega]]
  refine go ?_;intros
  refine ret z trivial rfl
theorem Y3 {r:Bb} {p:Av} (hg:Kk r) (hp:Bp p=true):∀e∈Gw r p,e.size≤1000000:=An5 hg hp
theorem Agz:∀(l:List Int) (lo:Int),l.Pairwise (· < ·)→(∀z∈l,lo≤z∧z≤7)→(l.length:Int)≤max 0 (8 - lo)
 | [],_,_,_=>by simp;omega
 | x::r,lo,hp,hb=>by
  rw [List.pairwise_cons] at hp
  have:=Agz r (x+1) hp.2 fun z hz=>⟨by have:=hp.1 z hz;omega,(hb z (by simp [hz])).2⟩
  have:=hb x (by simp)
  rw [List.length_cons];omega
theorem Mn {e:Bl} (hg:Be e=true) {x:Fb} (hx:x∈e.Ah):x.Bi.length≤7:=by
 have h:=(Mr.1 ((Fg.1 hg).2.2.1 x hx)).2.2.1
 have:=Agz x.Bi 1 h.1 h.2
 omega
theorem V3 {i:Nat}:1≤Ks i∧Ks i≤8:=by unfold Ks;omega
theorem Hp {n:D9} {i:Nat} (h:i < n.Ad.length):Vl n i=n.Ad[i]:=N7 h _
theorem Ja {n:D9} {i:Nat} (h:i < n.Af.length):Qa n i=n.Af[i]:=N7 h _
theorem Ahy (n:D9) (i:Nat) (p:Av) (g:Nat) (a1:Option Addr) (c1:Nat) (F1:List Nat) (a2:Option Addr) (c2:Nat) (F2:List Nat) (a3:Option Addr) (c3:Nat) (F3:List Nat) (a4:Option Addr) (c4:Nat) (F4:List Nat) (a5:Option Addr) (c5:Nat) (F5:List Nat) (a6:Option Addr) (c6:Nat) (F6:List Nat) (a7:Option Addr) (c7:Nat) (F7:List Nat) (FT:List Nat) (hl:Je n=true) (hi:i < n.Am.Ac.length) (h8:Ml n.Am.Ac) (hr:Ev n.Am.Ac (i:Nat)=true→Dg (Vl n i)=true) (he:Ev n.Am.Ac (i:Nat)=false→Be (Qa n i)=true) (hp:Bp p=true) (hps:p.data.size≤maxLen) :
  Fn prog 147 [Ez g 0 0,.int .i64 (i:Nat),.agg #[.int .i64 (p).Df,.int .i64 (p).Ae,.int .i64 (p).Al,.int .i64 (p).Ec,.string (p).data]] [Lw FT] [.row g 37 0 [] [.slice a1 n.Am.Ac.length c1,.int .i64 n.Ab.Aa.Al,.int .i64 n.Ab.Aa.size,.slice a2 n.Ab.Aa.Aj.length c2,.int .i64 n.Ab.Ai,.int .i64 n.Ab.quiet,.slice a3 n.Ab.holds.length c3,.slice a4 n.Af.length c4,.slice a5 n.Ad.length c5,.slice a6 n.down.length c6,.slice a7 n.up.length c7] [],.ow Bd 3 (.slice a1 n.Am.Ac.length c1) n.Am.Ac F1,.ow Ba 9 (.slice a2 n.Ab.Aa.Aj.length c2) n.Ab.Aa.Aj F2,.ow Bj 134 (.slice a3 n.Ab.holds.length c3) n.Ab.holds F3,.ow Bt 77 (.slice a4 n.Af.length c4) n.Af F4,.ow Bk 84 (.slice a5 n.Ad.length c5) n.Ad F5,.ow (Hi Ak 110) 86 (.slice a6 n.down.length c6) n.down F6,.ow (Hi Ak 110) 86 (.slice a7 n.up.length c7) n.up F7] (fun (_:NV × KA)=>True) (fun z=>.slice z.2.a (Cq n i p).2.length z.2.c) (fun z=>[.row g 37 0 [] [.slice z.1.a1 n.Am.Ac.length z.1.c1,.int .i64 (Cq n i p).1.Ab.Aa.Al,.int .i64 (Cq n i p).1.Ab.Aa.size,.slice z.1.a2 (Cq n i p).1.Ab.Aa.Aj.length z.1.c2,.int .i64 (Cq n i p).1.Ab.Ai,.int .i64 (Cq n i p).1.Ab.quiet,.slice z.1.a3 (Cq n i p).1.Ab.holds.length z.1.c3,.slice z.1.a4 n.Af.length z.1.c4,.slice z.1.a5 n.Ad.length z.1.c5,.slice z.1.a6 n.down.length z.1.c6,.slice z.1.a7 n.up.length z.1.c7] [],.ow Bd 3 (.slice z.1.a1 n.Am.Ac.length z.1.c1) (Cq n i p).1.Am.Ac z.1.F1,.ow Ba 9 (.slice z.1.a2 (Cq n i p).1.Ab.Aa.Aj.length z.1.c2) (Cq n i p).1.Ab.Aa.Aj z.1.F2,.ow Bj 134 (.slice z.1.a3 (Cq n i p).1.Ab.holds.length z.1.c3) (Cq n i p).1.Ab.holds z.1.F3,.ow Bt 77 (.slice z.1.a4 n.Af.length z.1.c4) (Cq n i p).1.Af z.1.F4,.ow Bk 84 (.slice z.1.a5 n.Ad.length z.1.c5) (Cq n i p).1.Ad z.1.F5,.ow (Hi Ak 110) 86 (.slice z.1.a6 n.down.length z.1.c6) (Cq n i p).1.down z.1.F6,.ow (Hi Ak 110) 86 (.slice z.1.a7 n.up.length z.1.c7) (Cq n i p).1.up z.1.F7,.ow Ba 9 (.slice z.2.a (Cq n i p).2.length z.2.c) (Cq n i p).2 z.2.F]):=by
 obtain ⟨q1,q2,q3,q4⟩:=Bm.1 hl
 have hn8:=h8.n1
 obtain ⟨d0,d1_⟩:=V3 (i:=i)
 refine enter func147 rfl ntmps147 fun w0=>?_
 refine go ?_;intros
 refine cfr (fun w st=>by obtain ⟨Fq,hq⟩:=Zk (st.get (p:=.ow Bd 3 (.slice a1 n.Am.Ac.length c1) n.Am.Ac F1) (by exact B8));exact ⟨_,Il hq,rfl,Vb n.Am i _ Fq⟩) (fun _ _=>?_)
 refine Ap ?_
 cases hlf:Ev n.Am.Ac (i:Nat)
 rotate_left
 ·have hir:i < n.Ad.length:=by omega
  have hgr:=Gg.1 (Hp hir▸hr hlf)
  have hev:=(Qn (d:=Ks i) hgr hp d0 d1_).2
  rw [show Cq n i p=(⟨n.Am,n.Ab,n.Af,n.Ad.set i (De n.Ad[i] p (Ks i)),n.down,n.up⟩,Si i (Gw n.Ad[i] p)) by unfold Cq;rw [if_pos hlf,Hp hir]]
  refine go ?_;intros
  refine V5 (xs:=n.Ad) (m:=5) i ?_ rfl hir
  rintro _ g5 A5 cs B5 k1 k2 J1 Ji J2 rfl - hc5 hH5
  refine H9 ?_
  rintro b1 d1 G1 b2 d2 G2 ev l1 l2
  obtain rfl:cs=[.bool n.Ad[i].Bh,.int .i64 n.Ad[i].Ai,.int .i64 n.Ad[i].Aa.next,.slice b1 n.Ad[i].Aa.Ao.length d1,.slice b2 n.Ad[i].Ar.length d2]:=by simpa using ev
  refine As [5,6] [] ?_
  refine dt 0 ?_
  refine dt 1 ?_
  refine dt 2 ?_
  refine dt 3 ?_
  refine dt 4 ?_
  refine dt 5 ?_
  refine dt 6 ?_
  refine dt 7 ?_
  refine dt 8 ?_
  refine dO 9 (by kernel_rfl) (by rw [List.getElem?_toArray];rfl) ?_
  apply At;rfl;kernel_rfl;exact Bf
  refine cf (Aav i (by omega)) fun _ _=>?_
  refine Ap ?_
  refine dk ?_
  refine dO 10 (by kernel_rfl) (by rw [List.getElem?_toArray];rfl) ?_
  apply At;rfl;kernel_rfl;exact Bf
  refine cf (Ank n.Ad[i] p (Ks i) g5 84 (0+i * 5) A5 B5 b1 d1 G1 b2 d2 G2 hgr hp d0 d1_) fun s _=>?_
  refine Ap ?_
  refine dk ?_
  refine dO 11 (by kernel_rfl) (by rw [List.getElem?_toArray];rfl) ?_
  apply At;rfl;kernel_rfl;exact Bf
  refine cfr (fun w st=>by obtain ⟨Fq, -,hq⟩:=(st.get (p:=.ow Ba 9 (.slice s.ae (Gw n.Ad[i] p).length s.ce) (Gw n.Ad[i] p) s.Fe) (by exact B8)).2.read;exact ⟨[.sl Ba (.slice s.ae (Gw n.Ad[i] p).length s.ce) (Gw n.Ad[i] p) Fq,Lw FT],Sf ⟨by decide,hq⟩ (st.get (p:=Lw FT) (by exact B8)),rfl,Am2 i _ _ _ Fq FT (by omega) (by omega) (Y3 hgr hp)⟩) (fun u _=>?_)
  refine Ap ?_
  refine dk ?_
  refine dt 12 ?_
  refine dd ?_
  refine go ?_;intros
  refine Js (De n.Ad[i] p (Ks i)) ?_
  refine Rw _ hH5 rfl fun J5=>?_
  refine ret (⟨a1,c1,F1,a2,c2,F2,a3,c3,F3,a4,c4,F4,_,c5,J5,a6,c6,F6,a7,c7,F7⟩,⟨0,_,_,_⟩) trivial rfl
 ·have hir:i < n.Af.length:=by omega
  have hge:Be n.Af[i]=true:=Ja hir▸he hlf
  have hel:=(Fg.1 hge).2.1
  have hkl:=Qr n.Am.Ac ((i:Nat):Int)
  have hkx:∀x∈Gs n.Am.Ac ((i:Nat):Int),0≤x∧x.toNat < n.down.length:=fun x hx=>by have:=Jd h8 hx;omega
  refine go ?_;intros
  refine cfr (fun w st=>by obtain ⟨Fq,hq⟩:=Zk (st.get (p:=.ow Bd 3 (.slice a1 n.Am.Ac.length c1) n.Am.Ac F1) (by exact B8));exact ⟨_,Il hq,rfl,T7 n.Am ((i:Nat):Int) _ Fq (by show n.Am.Ac.length≤1000000;omega)⟩) (fun u _=>?_)
  refine Ap ?_
  refine A1 (E:=Bd) (xs:=Gs n.Am.Ac ((i:Nat):Int)) fun Fk=>?_
  refine Cb Ba 9 ?_
  refine go ?_;intros
  refine Bg rfl (fun hk=>?_) (fun hk=>?_)
  ·rw [show Cq n i p=(⟨n.Am,n.Ab,n.Af.set i (M9 n.Af[i] p.Ae),n.Ad,Dl n.down (Qj n.Af[i] p.Ae (Gs n.Am.Ac ((i:Nat):Int))) [p],n.up⟩,[]) by unfold Cq Xy Ts;rw [if_neg (by rw [hlf];decide),if_pos hk,if_pos hk,Ja hir]]
   refine go ?_;intros
   refine V5 (xs:=n.Af) (m:=2) i ?_ rfl hir
   rintro _ g5 A5 cs B5 k1 k2 J1 Ji J2 rfl - hc5 hH5
   refine Ha ?_
   rintro b1 d1 G1 ev l1
   obtain rfl:cs=[.int .i64 n.Af[i].Ai,.slice b1 n.Af[i].Ah.length d1]:=by simpa using ev
   refine As [6,7] [] ?_
   refine dt 0 ?_
   refine dt 1 ?_
   refine dt 2 ?_
   refine dt 3 ?_
   refine dt 4 ?_
   refine dt 5 ?_
   refine dt 6 ?_
   refine dt 7 ?_
   refine dt 8 ?_
   refine dO 9 (by kernel_rfl) (by rw [List.getElem?_toArray];rfl) ?_
   apply At;rfl;kernel_rfl;exact Bf
   refine cf (Ahq n.Af[i] p.Ae (Gs n.Am.Ac ((i:Nat):Int)) g5 77 (0+i * 2) A5 B5 b1 d1 G1 u.a u.c Fk (by omega) (fun x hx=>by have:=Mn hge hx;omega) (by omega)) fun s _=>?_
   refine Ap ?_
   refine dk ?_
   refine dt 10 ?_
   refine dd ?_
   refine Fj (M9 n.Af[i] p.Ae) ?_
   refine Rw _ hH5 rfl fun J5=>?_
   refine A1 (E:=Bd) (xs:=Qj n.Af[i] p.Ae (Gs n.Am.Ac ((i:Nat):Int))) fun Fk2=>?_
   refine Jm ?_;intros
   refine Ei (E:=Ak) (xs:=[p]) (C5 p hps) ?_ (by simp)
   refine A1 (E:=Ak) (xs:=[p]) fun Fp=>?_
   refine go ?_;intros
   refine cf (T9 n.down (Qj n.Af[i] p.Ae (Gs n.Am.Ac ((i:Nat):Int))) [p] g _ _ _ _ _ _ _ _ _ _ a6 _ c6 F6 _ _ Fk2 _ _ Fp rfl (fun x hx=>hkx x (U5 x hx))) fun J6 _=>?_
   refine Ap ?_
   refine go ?_;intros
   refine ret (⟨a1,c1,F1,a2,c2,F2,a3,c3,F3,_,c4,J5,a5,c5,F5,a6,c6,J6,a7,c7,F7⟩,⟨0,none,0,[]⟩) trivial rfl
  ·rw [show Cq n i p=(⟨n.Am,n.Ab,n.Af,n.Ad,Dl n.down (Gs n.Am.Ac ((i:Nat):Int)) [p],n.up⟩,[]) by unfold Cq Xy Ts;rw [if_neg (by rw [hlf];decide),if_neg hk,if_neg hk]]
   refine Jm ?_;intros
   refine Ei (E:=Ak) (xs:=[p]) (C5 p hps) ?_ (by simp)
   refine A1 (E:=Ak) (xs:=[p]) fun Fp=>?_
   refine go ?_;intros
   refine cf (T9 n.down (Gs n.Am.Ac ((i:Nat):Int)) [p] g _ _ _ _ _ _ _ _ _ _ a6 _ c6 F6 _ _ Fk _ _ Fp rfl hkx) fun J6 _=>?_
   refine Ap ?_
   refine go ?_;intros
   refine ret (⟨a1,c1,F1,a2,c2,F2,a3,c3,F3,a4,c4,F4,a5,c5,F5,a6,c6,J6,a7,c7,F7⟩,⟨0,none,0,[]⟩) trivial rfl
theorem Qz (y:Gt) (w:World):Cw Bj w [.int .i64 y.Ae,.int .i64 y.Ca] [y] []:=⟨_,[],[],[],by simp,by simp,⟨rfl,rfl⟩,rfl,rfl⟩
theorem Ahr (xs:List Gt) (y:Gt) (i:Nat) (a:Option Addr) (c vb:Nat) (F:List Nat) (hi:i≤xs.length) (hl:xs.length≤1000000) :
  Fn prog 247 [.slice a xs.length c,.int .i64 i,.slice (some ⟨vb,0,none⟩) 1 1] [] [.ow Bj 134 (.slice a xs.length c) xs F,.row vb 134 0 [] [.int .i64 y.Ae,.int .i64 y.Ca] []] (fun (_:Option Addr × Nat × List Nat)=>True)
   (fun z=>.slice z.1 (xs.take i++y::xs.drop i).length z.2.1) (fun z=>[.ow Bj 134 (.slice z.1 (xs.take i++y::xs.drop i).length z.2.1) (xs.take i++y::xs.drop i) z.2.2]):=by
 have hone:∀w':World,∀cs:List Value,Cw Bj w' cs xs []→∀u∈cs,u.oneCell'=true:=fun w' cs h=>h.one' Hx
 have hy:=Qz y
 have h1y:∀u∈([.int .i64 y.Ae,.int .i64 y.Ca]:List Value),u.oneCell'=true:=by intro u hu;simp at hu;rcases hu with rfl|rfl|rfl|rfl <;> rfl
 refine enter func247 rfl ntmps247 fun w0=>?_
 refine Ahh (E:=Bj) fun hc1 hc2=>?_
 refine go ?_;intros
 apply wO
 refine Acm rfl rfl rfl rfl hi (fun _=>?_) hc1
 refine go ?_;intros
 refine Bg rfl (fun h1=>?_) (fun h1=>?_)
 ·have hin:i=xs.length:=by omega
  subst hin
  have e:xs.take xs.length++y::xs.drop xs.length=xs++[y]:=by simp
  refine go ?_;intros
  apply wO
  refine Mf hy Hx fun a2 c2 F2=>?_
  rw [e]
  refine go ?_;intros
  refine ret (a2,c2,F2) trivial rfl
 ·have hlt:i < xs.length:=by omega
  refine Ac1 (xs:=xs) Jl (by rintro rfl;simp at hlt) ?_
  rintro g cs rest rfl - - - hcl hcr hfl
  rw [show Bj.sz=2 from rfl] at hcl hcr
  have h1c:=hone w0 cs (hfl w0)
  obtain ⟨A,B,hcs,hA,hB⟩:∃A B,cs=A++B∧A=cs.take (i * 2)∧B=cs.drop (i * 2):=⟨_,_,(List.take_append_drop _ _).symm,rfl,rfl⟩
  have hAl:A.length=i * 2:=by rw [hA,List.length_take];omega
  have hBl:B.length=(xs.length - i) * 2:=by rw [hB,List.length_drop];omega
  have hins:∀w,Cw Bj w (A++[.int .i64 y.Ae,.int .i64 y.Ca]++B) (xs.take i++y::xs.drop i) []:=fun w=>by rw [hA,hB];exact (hfl w).insL (hy w) i hi
  have h1A:∀u∈A,u.oneCell'=true:=fun u hu=>h1c u (by rw [hcs];simp [hu])
  have h1B:∀u∈B,u.oneCell'=true:=fun u hu=>h1c u (by rw [hcs];simp [hu])
  have hlen:(xs.take i++y::xs.drop i).length=xs.length+1:=by simp;omega
  clear hA hB hfl hone
  subst hcs
  have eA:A=((A++B++rest).drop 0).take (i * 2):=by rw [List.drop_zero,List.append_assoc,List.take_left' hAl]
  have eB:B=((A++B++rest).drop (0+i * 2)).take ((xs.length - i) * 2):=by rw [Nat.zero_add,List.append_assoc,List.drop_left' hAl,List.take_left' hBl]
  rw [hlen]
  refine go ?_;intros
  apply wO;apply oc;rfl;exact Agm rfl
  refine go ?_;intros
  refine Bg rfl (fun h2=>?_) (fun h2=>?_)
  ·refine go ?_;intros
   apply wO;apply oc;rfl;exact Mc (i:=i) rfl rfl rfl (by omega) (by omega)
   refine go ?_;intros
   apply wO
   refine Afy (k:=xs.length+1 - i) (olds:=A) rfl rfl rfl (by omega) (Kj (m:=i * 2) (.head _) eA) (by omega) (by decide) (by omega) (by omega) (by omega) (by omega) fun g' cp' Z rest' h3 h4 h5 h6=>?_
   rw [show i+(xs.length+1 - i)=xs.length+1 by omega] at h3 ⊢
   obtain ⟨Z1,Z2,rfl,hZ1,hZ2⟩:∃Z1 Z2,Z=Z1++Z2∧Z1.length=2∧Z2.length=B.length:=⟨Z.take 2,Z.drop 2,(List.take_append_drop _ _).symm,by rw [List.length_take];omega,by rw [List.length_drop];omega⟩
   refine go ?_;intros
   apply wO;apply oc;rfl;exact Iz (i:=i) rfl rfl rfl (by omega) (by omega) (by omega)
   refine go ?_;intros
   apply wO
   refine Sc (cs:=[.int .i64 y.Ae,.int .i64 y.Ca]) (L':=A++[.int .i64 y.Ae,.int .i64 y.Ca]++(Z2++rest')) rfl rfl rfl (Kj (L:=[.int .i64 y.Ae,.int .i64 y.Ca]) (o:=0) (m:=2) (by exact B8) rfl) .here (Xx (M:=Z1) (by simp [List.append_assoc]) (by omega) (by simpa using hZ1)) (by show 2=min 1 (xs.length+1 - i) * 2;omega) (by simp only [List.length_append,List.length_cons,List.length_nil];omega) h1y ?_
   refine go ?_;intros
   refine As [] [] ?_
   refine dt 0 ?_
   refine dt 1 ?_
   refine dt 2 ?_
   refine dt 3 ?_
   refine dt 4 ?_ (hy:=Iz (i:=i+1) rfl rfl (by omega) (by omega) (by omega) (by omega))
   refine dt 5 ?_
   refine dt 6 ?_
   refine dt 7 ?_ (hy:=Iz (i:=i) rfl rfl (by omega) (by omega) (by omega) (by omega))
   refine dO 8 (by kernel_rfl) (by rw [List.getElem?_toArray];rfl) ?_
   refine Sc (cs:=B) (L':=A++[.int .i64 y.Ae,.int .i64 y.Ca]++B++rest') rfl rfl rfl (Kj (by exact B8) eB) .here (Xx (P:=A++[.int .i64 y.Ae,.int .i64 y.Ca]) (M:=Z2) (by simp [List.append_assoc]) (by simp only [List.length_append,List.length_cons,List.length_nil];omega) hZ2) (by rw [hBl];congr 1;show _=min (xs.length - i) (xs.length+1 - (i+1));omega) (by simp only [List.length_append,List.length_cons,List.length_nil];omega) h1B ?_
   refine dk ?_
   refine dd ?_
   refine Ws (cs:=A++[.int .i64 y.Ae,.int .i64 y.Ca]++B) (rest:=rest') (xs:=xs.take i++y::xs.drop i) cp' rfl hins (by omega) h4 (by rw [show Bj.sz=2 from rfl];simp only [List.length_append,List.length_cons,List.length_nil] at h6 ⊢;omega) ?_
   rw [hlen]
   refine go ?_;intros
   refine ret (_,cp',[g']) trivial rfl
  ·have hcx:xs.length+1≤c:=by omega
   obtain ⟨X,Y,hXY,hX,hY⟩:=Agb (B:=B) (R:=rest) 2 (by omega)
   refine go ?_;intros
   apply wO;apply oc;rfl;exact Mc (i:=xs.length+1) rfl rfl (by omega) (by omega) (by omega)
   refine go ?_;intros
   apply wO;apply oc;rfl;exact Iz (i:=i+1) rfl rfl (by omega) (by omega) (by omega) (by omega)
   refine Jm ?_;intros
   apply wO
   refine Alu rfl Bf (ovl (tS:=30) (tR:=4) (run_callFunc_extern func275 (by kernel_rfl) (by kernel_rfl) (by kernel_rfl) (e:=Extern.SlicesOverlaps.overlaps #[30,30] #[4]) (by kernel_rfl)) (.there .here) (.head _) (by intro e;have:=congrArg List.length e;simp only [List.length_append,List.length_nil] at this;omega)) ?_
   refine go ?_;intros
   refine As [] [] ?_
   refine dt 0 ?_
   refine dt 1 ?_
   refine dt 2 ?_
   refine dt 3 ?_
   refine dt 4 ?_ (hy:=Iz (i:=i+1) rfl rfl (by omega) (by omega) (by omega) (by omega))
   refine dt 5 ?_
   refine dt 6 ?_
   refine dt 7 ?_ (hy:=Iz (i:=i) rfl rfl (by omega) (by omega) (by omega) (by omega))
   refine dO 8 (by kernel_rfl) (by rw [List.getElem?_toArray];rfl) ?_
   refine Sc (cs:=B) (L':=A++X++B++rest.drop 2) rfl rfl rfl (Kj (by exact B8) eB) .here (Xx (P:=A++X) (M:=Y) (by rw [List.append_assoc A B rest,hXY];simp [List.append_assoc]) (by simp only [List.length_append];omega) hY) (by rw [hBl];congr 1;show _=min (xs.length+1 - i) (xs.length+1 - (i+1));omega) (by simp only [List.length_append];omega) h1B ?_
   refine dk ?_
   refine dd ?_
   refine go ?_;intros
   apply wO;apply oc;rfl;exact Iz (i:=i) rfl rfl rfl (by omega) (by omega) (by omega)
   refine go ?_;intros
   apply wO
   refine Sc (cs:=[.int .i64 y.Ae,.int .i64 y.Ca]) (L':=A++[.int .i64 y.Ae,.int .i64 y.Ca]++(B++rest.drop 2)) rfl rfl rfl (Kj (L:=[.int .i64 y.Ae,.int .i64 y.Ca]) (o:=0) (m:=2) (by exact B8) rfl) .here (Xx (M:=X) (by simp [List.append_assoc]) (by omega) (by simpa using hX)) (by show 2=min 1 (xs.length+1 - i) * 2;omega) (by simp only [List.length_append,List.length_cons,List.length_nil];omega) h1y ?_
   refine go ?_;intros
   refine Ws (L:=A++[.int .i64 y.Ae,.int .i64 y.Ca]++(B++rest.drop 2)) (cs:=A++[.int .i64 y.Ae,.int .i64 y.Ca]++B) (rest:=rest.drop 2) (xs:=xs.take i++y::xs.drop i) c (by simp [List.append_assoc]) hins (by omega) (by omega) (by rw [show Bj.sz=2 from rfl];simp only [List.length_append,List.length_cons,List.length_nil,List.length_drop];omega) ?_
   rw [hlen]
   refine ret (_,c,[g]) trivial rfl
instance:IntC prog 199 .u64:=⟨underlying199⟩
theorem Aff (fid:FuncId) (caps:List Value) (A:List Pc) (hA:A.all (fun p=>!p.mu)=true) (xs:List Gt) (a:Option Addr) (c:Nat) (F:List Nat) (tv:Value) (f:Gt→Int) (hm:∀i j (_:i≤j) (hj:j < xs.length),f xs[j] < 0→f (xs[i]'(by omega)) < 0) (hb:Om prog fid=true) (hl:xs.length≤1000000)
  (hp:∀x∈xs,∀w,Nf A w→Calls prog fid ([.agg #[.int .i64 x.Ae,.int .i64 x.Ca],tv]++caps).toArray w fun e w'=>e=.returned (.int .i64 (f x))∧Below w.heap.size w w') :
  Fn prog 273 [.slice a xs.length c,tv,.func (.func fid) #[] caps.toArray] (.sl Bj (.slice a xs.length c) xs F::A) [] (fun (_:Unit)=>True) (fun _=>.tuple #[.int .i64 ((xs.takeWhile fun x=>decide (f x < 0)).length:Nat),.bool (An6 f xs[(xs.takeWhile fun x=>decide (f x < 0)).length]?)]) (fun _=>[]):=by
 refine enter func273 rfl ntmps273 (fun w0=>?_) rfl (by simpa [Pc.mu] using hA) .nil
 refine go ?_;intros
 refine Dv [0,1,2,6,7,8] (fun s:Nat × Nat=>[(9,.int .i64 (s.1:Nat)),(10,.int .i64 (s.2:Nat))]) (fun s=>s.1≤s.2∧s.2≤xs.length∧(∀j (_:j < s.1) (h:j < xs.length),f xs[j] < 0)∧(∀j (_:s.2≤j) (h:j < xs.length),¬f xs[j] < 0)) (fun s=>s.2 - s.1) (0,xs.length) ⟨Nat.zero_le _,Nat.le_refl _,fun j h=>by omega,fun j h1 h2=>by omega⟩ fun s hs=>?_
 obtain ⟨i,j⟩:=s
 obtain ⟨h1,h2,h3,h4⟩:=hs
 dsimp only at h1 h2 h3 h4 ⊢
 refine go ?_;intros
 refine Bg rfl (fun h5=>?_) (fun h5=>?_)
 ·have hh:(i+j) / 2 < xs.length:=by omega
  have e2:((i:Int)+(j:Int)) / 2=(((i+j) / 2:Nat):Int):=by omega
  refine go ?_;intros
  apply wO;apply oc;rfl;exact Agn rfl (by omega) (by omega)
  refine go ?_;intros
  apply wO;apply oc;rfl;exact Ac7 rfl
  rw [e2]
  apply wO;apply oc;rfl;exact Ahn rfl (by omega) (by omega)
  generalize hq:(i+j) / 2=q at hh
  refine go ?_;intros
  refine P8 (xs:=xs) q ?_
  rintro hi b o e
  rw [e]
  refine go ?_;intros
  apply wO
  refine Ya rfl rfl hb Bf ?_
  refine cb (fun w st=>hp xs[q] (List.getElem_mem hh) w (fun p hp=>st.on p (by simp [hp]))) ?_
  refine go ?_;intros
  refine Bg rfl (fun h6=>?_) (fun h6=>?_)
  ·refine go ?_;intros
   refine Rs ?_
   refine Ck (hH:=I6 _) (q+1,j) ⟨by show q+1≤j;omega,h2,fun k hk h=>hm k q (by have:k < q+1:=hk;omega) hh h6,h4⟩ (by show j - (q+1) < j - i;omega)
  ·refine go ?_;intros
   refine Rs ?_
   refine Ck (hH:=I6 _) (i,q) ⟨by show i≤q;omega,by show q≤xs.length;omega,h3,fun k hk h hn=>h6 (hm q k hk h hn)⟩ (by show q - i < j - i;omega)
 ·have hij:i=j:=by omega
  subst hij
  have hk:(xs.takeWhile fun x=>decide (f x < 0)).length=i:=Sy h2 (fun j hj h=>decide_eq_true (h3 j hj h)) (fun h=>decide_eq_false (h4 i (Nat.le_refl _) h))
  rw [hk]
  refine go ?_;intros
  refine Dc rfl rfl (fun h6=>?_) (fun h6=>?_)
  ·have hh:i < xs.length:=by omega
   rw [List.getElem?_eq_getElem hh]
   refine go ?_;intros
   refine P8 (xs:=xs) i ?_
   rintro hi b o e
   rw [e]
   refine go ?_;intros
   apply wO
   refine Ya rfl rfl hb Bf ?_
   refine cb (fun w st=>hp xs[i] (List.getElem_mem hh) w (fun p hp=>st.on p (by simp [hp]))) ?_
   refine go ?_;intros
   refine ret () trivial rfl
  ·rw [List.getElem?_eq_none (by omega)]
   refine go ?_;intros
   refine ret () trivial rfl
theorem Ys {W:Az} {p:Av} (hg:Dw W=true):(Dj W p).1.data.size≤maxLen:=by
 unfold Dj
 split
 ·rename_i h
  unfold Im at h
  simp only [Bool.and_eq_true] at h
  have hk:=Va h.2
  show (Ud W p.Ae).size≤maxLen
  rw [Qp hk]
  have:=List.all_eq_true.1 (D6.1 hg).2.2.2 _ (List.getElem_mem hk)
  unfold Oh at this
  simp only [Bool.and_eq_true,decide_eq_true_eq] at this
  unfold maxLen
  omega
 ·decide
theorem Ajm {t n:Int} {hs:List Gt} (hser:∀h∈hs,B9 h.Ae=true) (hn:0≤n∧n≤65535):(hs.takeWhile fun x=>decide (gp t x.Ae - gp t n < 0)).length=Ew t hs n ∧
  An6 (fun x:Gt=>gp t x.Ae - gp t n) hs[(hs.takeWhile fun x=>decide (gp t x.Ae - gp t n < 0)).length]?=L9 t hs n:=by
 have e:(fun x:Gt=>decide (gp t x.Ae - gp t n < 0))=fun h=>decide (gp t h.Ae < gp t n):=by
  funext x;rw [decide_eq_decide];omega
 have e1:(hs.takeWhile fun x=>decide (gp t x.Ae - gp t n < 0)).length=Ew t hs n:=by unfold Ew;rw [e]
 refine ⟨e1,?_⟩
 rw [e1]
 unfold L9
 cases hq:hs[Ew t hs n]? with
 | none=>rfl
 | some z =>
  show decide (gp t z.Ae - gp t n=0)=decide (z.Ae=n)
  rw [decide_eq_decide]
  have hz:=A9.1 (hser z (List.mem_of_getElem? hq))
  exact ⟨fun h=>Ak6 (t:=t) hz hn (by omega),fun h=>by rw [h];omega⟩
theorem Ar6 (h:Gt) (n t:Int) (gb g o:Nat) (v1 v2 v3 v4 v5:Value) (t0:0≤t) (t1:t≤65535) (n0:0≤n) (n1:n≤65535) (m0:0≤h.Ae) (m1:h.Ae≤65535) :
  Fn prog 274 [.agg #[.int .i64 h.Ae,.int .i64 h.Ca],.int .i64 n,Ez gb 0 0] [.cel gb 0 [Ez g o 0],.cel g o [.int .i64 t,v1,v2,v3,v4,v5]] [] (fun (_:Unit)=>True) (fun _=>.int .i64 (gp t h.Ae - gp t n)) (fun _=>[]):=by
 have b1:=Jb t h.Ae
 have b2:=Jb t n
 refine enter func274 rfl ntmps274 fun w0=>?_
 refine go ?_;intros
 refine As [0,1,2] [] ?_
 refine dt 0 ?_
 refine dt 1 ?_
 refine dt 2 ?_
 refine dt 3 ?_
 refine dt 4 ?_
 refine dt 5 ?_
 refine dt 6 ?_
 refine dt 8 ?_
 refine dt 9 ?_
 refine dt 10 ?_
 refine dt 11 ?_
 refine dt 12 ?_
 refine dt 13 ?_
 refine dO 7 (by kernel_rfl) (by rw [List.getElem?_toArray];rfl) ?_
 apply At;rfl;kernel_rfl;exact Bf
 refine ce (fun w s=>Mo _ _ _ (by omega) (by omega) (by omega) (by omega)) ?_
 refine dk ?_
 refine dO 14 (by kernel_rfl) (by rw [List.getElem?_toArray];rfl) ?_
 apply At;rfl;kernel_rfl;exact Bf
 refine ce (fun w s=>Mo _ _ _ (by omega) (by omega) (by omega) (by omega)) ?_
 refine dk ?_
 refine dt 15 ?_
 refine dt 16 ?_
 refine dd ?_
 refine go ?_;intros
 refine ret () trivial rfl
theorem Afm (W:Az) (hs:List Gt) (n:Int) (g t o:Nat) (A B:List Value) (a a2:Option Addr) (c c2:Nat) (cl q:Int) (F2:List Nat) (t0:0≤W.Al) (t1:W.Al≤65535) (n0:0≤n) (n1:n≤65535) (hser:∀h∈hs,B9 h.Ae=true) (hsr:srt W.Al hs) (hl:hs.length≤1000000) :
  Fn prog 246 [Ez g o 0,.int .i64 n] [] [.row g t o A [.int .i64 W.Al,.int .i64 W.size,.slice a W.Aj.length c,.int .i64 cl,.int .i64 q,.slice a2 hs.length c2] B,.ow Bj 134 (.slice a2 hs.length c2) hs F2] (fun (_:Unit)=>True) (fun _=>.tuple #[.int .i64 (Ew W.Al hs n:Nat),.bool (L9 W.Al hs n)]) (fun _=>[.row g t o A [.int .i64 W.Al,.int .i64 W.size,.slice a W.Aj.length c,.int .i64 cl,.int .i64 q,.slice a2 hs.length c2] B,.ow Bj 134 (.slice a2 hs.length c2) hs F2]):=by
 have hs1:=Ajm (t:=W.Al) hser ⟨n0,n1⟩
 refine enter func246 rfl ntmps246 fun w0=>?_
 refine go ?_;intros
 rename_i gb
 refine cb (fun w st=>by
  have r1:=st.get (p:=.row gb 167 0 [] [Ez g o 0] []) (by simp)
  have r2:=st.get (p:=.row g t o A [.int .i64 W.Al,.int .i64 W.size,.slice a W.Aj.length c,.int .i64 cl,.int .i64 q,.slice a2 hs.length c2] B) (by simp)
  obtain ⟨Fw, -,hw⟩:=(st.get (p:=.ow Bj 134 (.slice a2 hs.length c2) hs F2) (by simp)).2.read
  refine (Aff 274 [Ez gb 0 0] [.cel gb 0 [Ez g o 0],.cel g o [.int .i64 W.Al,.int .i64 W.size,.slice a W.Aj.length c,.int .i64 cl,.int .i64 q,.slice a2 hs.length c2]] rfl hs a2 c2 Fw (.int .i64 n) (fun h=>gp W.Al h.Ae - gp W.Al n) (fun i j hij hj h=>?_) (by kernel_rfl) hl fun x hx w' hA=>?_).val w ?_
  ·rcases Nat.lt_or_eq_of_le hij with h2|rfl
   ·have:=List.pairwise_iff_getElem.1 hsr i j (by omega) hj h2;omega
   ·exact h
  ·obtain ⟨m0,m1⟩:=A9.1 (hser x hx)
   exact (Ar6 x n W.Al gb g o _ _ _ _ _ t0 t1 n0 n1 m0 m1).val w' hA
  ·intro p hp
   simp only [List.mem_cons,List.not_mem_nil,or_false] at hp
   rcases hp with rfl|rfl|rfl
   ·exact ⟨by decide,hw⟩
   ·exact ⟨by simp,Gh r1⟩
   ·exact ⟨by simp,Gh r2⟩) ?_
 rw [hs1.2]
 rw [hs1.1]
 refine go ?_;intros
 refine ret () trivial rfl
structure ReS where
 a:Option Addr
 c:Nat
 a2:Option Addr
 c2:Nat
 F:List Nat
 ae:Option Addr
 ce:Nat
 Fe:List Nat
theorem Yq (W:Az) (hs:List Gt) (p:Av) (g t o:Nat) (A B:List Value) (a a2:Option Addr) (c c2:Nat) (cl q:Int) (F F2:List Nat) (hg:Cc ⟨W,cl,q,hs⟩=true) (n0:0≤p.Ae) (n1:p.Ae≤65535) (hps:p.data.size≤maxLen) :
  Fn prog 207 [Ez g o 0,.agg #[.int .i64 p.Df,.int .i64 p.Ae,.int .i64 p.Al,.int .i64 p.Ec,.string p.data]] [] [.row g t o A [.int .i64 W.Al,.int .i64 W.size,.slice a W.Aj.length c,.int .i64 cl,.int .i64 q,.slice a2 hs.length c2] B,.ow Bj 134 (.slice a2 hs.length c2) hs F2,.ow Ba 9 (.slice a W.Aj.length c) W.Aj F] (fun (_:ReS)=>True)
   (fun z=>.slice z.ae (Lg ⟨W,cl,q,hs⟩ p).length z.ce) (fun z=>[.row g t o A [.int .i64 W.Al,.int .i64 W.size,.slice a W.Aj.length c,.int .i64 cl,.int .i64 q,.slice z.a2 (Jy ⟨W,cl,q,hs⟩ p.Ae).holds.length z.c2] B,.ow Bj 134 (.slice z.a2 (Jy ⟨W,cl,q,hs⟩ p.Ae).holds.length z.c2) (Jy ⟨W,cl,q,hs⟩ p.Ae).holds z.F,.ow Ba 9 (.slice a W.Aj.length c) W.Aj F,.ow Ak 110 (.slice z.ae (Lg ⟨W,cl,q,hs⟩ p).length z.ce) (Lg ⟨W,cl,q,hs⟩ p) z.Fe]):=by
 obtain ⟨gw,hl,t0,t1,k0,k1,hm,hn,hu,hbb⟩:=Ll hg
 have hsr:=(Eu.1 hg).2.2.2.2
 dsimp only at gw hl t0 t1 k0 k1 hm hn hu hbb hsr
 have hl2:hs.length≤1000000:=by omega
 have hW:Dw W=true:=gw
 refine enter func207 rfl ntmps207 fun w0=>?_
 cases hb:Hn W p.Ae
 ·have e1:Jy ⟨W,cl,q,hs⟩ p.Ae=⟨W,cl,q,hs⟩:=by unfold Jy;dsimp only;rw [hb];rfl
  have e2:Lg ⟨W,cl,q,hs⟩ p=[Oo W]:=by unfold Lg;dsimp only;rw [hb];rfl
  rw [e1,e2]
  refine go ?_;intros
  refine As [0,1] [] ?_
  refine dt 0 ?_
  refine dt 1 ?_
  refine dt 2 ?_
  refine dt 3 ?_
  refine dt 4 ?_
  refine dt 5 ?_
  refine dO 6 (by kernel_rfl) (by rw [List.getElem?_toArray];rfl) ?_
  apply At;rfl;kernel_rfl;exact Bf
  refine cb (fun w st=>by obtain ⟨Fw, -,hw⟩:=(st.get (p:=.ow Ba 9 (.slice a W.Aj.length c) W.Aj F) (by simp)).2.read;exact (Sp W p.Ae (.agg #[.int .i64 W.Al,.int .i64 W.size,.slice a W.Aj.length c]) Fw t0 t1 n0 n1).val w (Il ⟨_,rfl,_,rfl,hw⟩)) ?_
  rw [hb]
  refine dk ?_
  refine dt 7 ?_
  refine dd ?_
  refine go ?_;intros
  refine cf (Aex W.Al W.size a W.Aj.length c t0 t1 (by omega)) fun _ _=>?_
  refine Ap ?_
  refine go ?_;intros
  refine Ei (xs:=[Oo W]) (C5 _ (by show (⟨#[]⟩:ByteArray).size≤maxLen;decide)) ?_ (by simp)
  refine ret ⟨a,c,a2,c2,F2,_,_,_⟩ trivial rfl
 refine go ?_;intros
 refine As [0,1] [] ?_
 refine dt 0 ?_
 refine dt 1 ?_
 refine dt 2 ?_
 refine dt 3 ?_
 refine dt 4 ?_
 refine dt 5 ?_
 refine dO 6 (by kernel_rfl) (by rw [List.getElem?_toArray];rfl) ?_
 apply At;rfl;kernel_rfl;exact Bf
 refine cb (fun w st=>by obtain ⟨Fw, -,hw⟩:=(st.get (p:=.ow Ba 9 (.slice a W.Aj.length c) W.Aj F) (by simp)).2.read;exact (Sp W p.Ae (.agg #[.int .i64 W.Al,.int .i64 W.size,.slice a W.Aj.length c]) Fw t0 t1 n0 n1).val w (Il ⟨_,rfl,_,rfl,hw⟩)) ?_
 rw [hb]
 refine dk ?_
 refine dt 7 ?_
 refine dd ?_
 refine go ?_;intros
 refine As [0,1] [] ?_
 refine dt 0 ?_
 refine dt 1 ?_
 refine dt 2 ?_
 refine dt 3 ?_
 refine dt 4 ?_
 refine dt 5 ?_
 refine dt 6 ?_
 refine dt 7 ?_
 refine dt 8 ?_
 refine dt 9 ?_
 refine dt 10 ?_
 refine dO 11 (by kernel_rfl) (by rw [List.getElem?_toArray];rfl) ?_
 apply At;rfl;kernel_rfl;exact Bf
 refine cb (fun w _=>If _ _ _ _ _ w t0 t1 (by omega)) ?_
 refine dk ?_
 refine dt 12 ?_
 refine dO 13 (by kernel_rfl) (by rw [List.getElem?_toArray];rfl) ?_
 apply Ho;rfl;rfl;rfl;rfl;exact Hl;exact Hg;intro _
 refine dk ?_
 refine dt 14 ?_
 refine dd ?_
 refine Jm ?_;intros
 refine Ei (xs:=[U3 W p.Ae]) (C5 _ (by show (⟨#[]⟩:ByteArray).size≤maxLen;decide)) ?_ (by simp)
 refine go ?_;intros
 refine cf (Afm W hs p.Ae g t o A B a a2 c c2 cl q F2 t0 t1 n0 n1 hn hsr hl2) fun _ _=>?_
 refine Ap ?_
 cases ht:L9 W.Al hs p.Ae
 ·have e1:Jy ⟨W,cl,q,hs⟩ p.Ae=⟨W,cl,q,I9 hs (Ew W.Al hs p.Ae) ⟨p.Ae,cl+3⟩⟩:=by unfold Jy;dsimp only;rw [hb,ht];rfl
  have e2:Lg ⟨W,cl,q,hs⟩ p=[U3 W p.Ae]++[(Dj W p).1]:=by unfold Lg;dsimp only;rw [hb,ht];rfl
  rw [e1,e2]
  refine go ?_;intros
  refine As [0,3] [18] ?_
  refine dt 0 ?_
  refine dt 1 ?_
  refine dt 2 ?_
  refine dt 3 ?_
  refine dt 4 ?_
  refine dt 5 ?_
  refine dt 6 ?_
  refine dt 7 ?_
  refine dt 8 ?_
  refine dt 9 ?_
  refine dt 10 ?_
  refine dt 11 ?_
  refine dt 12 ?_
  refine dt 13 ?_
  refine dO 14 (by kernel_rfl) (by rw [List.getElem?_toArray];rfl) ?_
  apply Ho;rfl;rfl;rfl;rfl;exact Hl;exact Hg;intro _
  refine dk ?_
  refine dO 15 (by kernel_rfl) (by rw [List.getElem?_toArray];rfl) ?_
  apply At;rfl;kernel_rfl;exact Bf
  refine cf (Ahr hs ⟨p.Ae,cl+3⟩ (Ew W.Al hs p.Ae) a2 c2 _ F2 (Tf _ _ _) hl2) fun z _=>?_
  refine Ap ?_
  refine dk ?_
  refine dt 16 ?_
  refine dt 17 ?_
  refine dO 18 (by kernel_rfl) (by rw [List.getElem?_toArray];rfl) ?_
  apply Cs;rfl;rfl;rfl;(first|exact AggC.s|exact OneC.s);rfl;exact Cu;exact Ct;rfl
  refine Ng ?_
  refine dd ?_
  refine go ?_;intros
  refine As [1,3] [] ?_
  refine dt 0 ?_
  refine dt 1 ?_
  refine dt 2 ?_
  refine dt 3 ?_
  refine dt 4 ?_
  refine Ov 5 9 (by kernel_rfl) (by rw [List.getElem?_toArray];rfl) (by rw [List.getElem?_toArray];rfl) ?_ ?_
  ·apply At;rfl;kernel_rfl;exact Bf
   refine cb (fun w st=>by obtain ⟨Fw, -,hw⟩:=(st.get (p:=.ow Ba 9 (.slice a W.Aj.length c) W.Aj F) (by simp)).2.read;exact (Yh W p (.agg #[.int .i64 W.Al,.int .i64 W.size,.slice a W.Aj.length c]) Fw hps).val w (Il ⟨_,rfl,_,rfl,hw⟩)) ?_
   refine dk ?_
   refine dt 6 ?_
   refine dt 7 ?_
   refine dt 8 ?_
   refine dO 9 (by kernel_rfl) (by rw [List.getElem?_toArray];rfl) ?_
   apply Ce;rfl;intro _
   refine dk ?_
   refine dO 10 (by kernel_rfl) (by rw [List.getElem?_toArray];rfl) ?_
   apply Cs;rfl;rfl;rfl;(first|exact AggC.s|exact OneC.s);rfl;exact Cu;exact Ct;rfl
   refine dk ?_
   refine dt 11 ?_
   refine dd ?_
   refine go ?_;intros
   apply wO
   refine Mf (C5 (Dj W p).1 (Ys hW)) Hk fun a9 c9 F9=>?_
   refine go ?_;intros
   refine ret ⟨a,c,z.1,z.2.1,_,a9,c9,F9⟩ trivial rfl
  ·apply Ce;rfl;intro _
   refine dk ?_
   refine dO 5 (by kernel_rfl) (by rw [List.getElem?_toArray];rfl) ?_
   apply At;rfl;kernel_rfl;exact Bf
   refine cb (fun w st=>by obtain ⟨Fw, -,hw⟩:=(st.get (p:=.ow Ba 9 (.slice a W.Aj.length c) W.Aj F) (by simp)).2.read;exact (Yh W p (.agg #[.int .i64 W.Al,.int .i64 W.size,.slice a W.Aj.length c]) Fw hps).val w (Il ⟨_,rfl,_,rfl,hw⟩)) ?_
   refine dk ?_
   refine dt 6 ?_
   refine dt 7 ?_
   refine dt 8 ?_
   refine dO 10 (by kernel_rfl) (by rw [List.getElem?_toArray];rfl) ?_
   apply Cs;rfl;rfl;rfl;(first|exact AggC.s|exact OneC.s);rfl;exact Cu;exact Ct;rfl
   refine dk ?_
   refine dt 11 ?_
   refine dd ?_
   refine go ?_;intros
   apply wO
   refine Mf (C5 (Dj W p).1 (Ys hW)) Hk fun a9 c9 F9=>?_
   refine go ?_;intros
   refine ret ⟨a,c,z.1,z.2.1,_,a9,c9,F9⟩ trivial rfl
 ·have e1:Jy ⟨W,cl,q,hs⟩ p.Ae=⟨W,cl,q,hs⟩:=by unfold Jy;dsimp only;rw [hb,ht];rfl
  have e2:Lg ⟨W,cl,q,hs⟩ p=[U3 W p.Ae]:=by unfold Lg;dsimp only;rw [hb,ht];rfl
  rw [e1,e2]
  refine go ?_;intros
  refine ret ⟨a,c,a2,c2,F2,_,_,_⟩ trivial rfl
theorem Aq0 (x:Cj) (n:Int):(Jy x n).Aa=x.Aa:=by unfold Jy;split <;> rfl
theorem Aqy (x:Cj) (n:Int):(Jy x n).Ai=x.Ai:=by unfold Jy;split <;> rfl
theorem Aqz (x:Cj) (n:Int):(Jy x n).quiet=x.quiet:=by unfold Jy;split <;> rfl
theorem Ag9 {n:D9} {i k:Nat} (hg:Ml n.Am.Ac) (hi:i < n.Am.Ac.length) (h0:i≠0) (h:To n i=k):n.Am.Ac[i]=((k:Nat):Int)∧k < i∧Ev n.Am.Ac ((k:Nat):Int)=false:=by
 have h1:=hg.p i hi (by omega)
 have e:n.Am.Ac.getD i 0=n.Am.Ac[i]:=N7 hi 0
 unfold To at h
 rw [e] at h
 have e2:n.Am.Ac[i]=((k:Nat):Int):=by omega
 refine ⟨e2,by omega,?_⟩
 unfold Ev
 rw [←e2,decide_eq_true (List.getElem_mem hi)];rfl
theorem Am6 (n:D9) (i:Nat) (p:Av) (g:Nat) (a1:Option Addr) (c1:Nat) (F1:List Nat) (a2:Option Addr) (c2:Nat) (F2:List Nat) (a3:Option Addr) (c3:Nat) (F3:List Nat) (a4:Option Addr) (c4:Nat) (F4:List Nat) (a5:Option Addr) (c5:Nat) (F5:List Nat) (a6:Option Addr) (c6:Nat) (F6:List Nat) (a7:Option Addr) (c7:Nat) (F7:List Nat) (hl:Je n=true) (h0:i≠0) (hi:i < n.Am.Ac.length) (h8:Ml n.Am.Ac) (hsrc:Cc n.Ab=true) (he:∀k,k≠0→k < n.Am.Ac.length→Ev n.Am.Ac (k:Nat)=false→Be (Qa n k)=true) (hp:Bp p=true) (hps:p.data.size≤maxLen) :
  Fn prog 148 [Ez g 0 0,.int .i64 (i:Nat),.agg #[.int .i64 (p).Df,.int .i64 (p).Ae,.int .i64 (p).Al,.int .i64 (p).Ec,.string (p).data]] [] [.row g 37 0 [] [.slice a1 n.Am.Ac.length c1,.int .i64 n.Ab.Aa.Al,.int .i64 n.Ab.Aa.size,.slice a2 n.Ab.Aa.Aj.length c2,.int .i64 n.Ab.Ai,.int .i64 n.Ab.quiet,.slice a3 n.Ab.holds.length c3,.slice a4 n.Af.length c4,.slice a5 n.Ad.length c5,.slice a6 n.down.length c6,.slice a7 n.up.length c7] [],.ow Bd 3 (.slice a1 n.Am.Ac.length c1) n.Am.Ac F1,.ow Ba 9 (.slice a2 n.Ab.Aa.Aj.length c2) n.Ab.Aa.Aj F2,.ow Bj 134 (.slice a3 n.Ab.holds.length c3) n.Ab.holds F3,.ow Bt 77 (.slice a4 n.Af.length c4) n.Af F4,.ow Bk 84 (.slice a5 n.Ad.length c5) n.Ad F5,.ow (Hi Ak 110) 86 (.slice a6 n.down.length c6) n.down F6,.ow (Hi Ak 110) 86 (.slice a7 n.up.length c7) n.up F7] (fun (_:NV)=>True) (fun _=>.tuple #[]) (fun z=>[.row g 37 0 [] [.slice z.a1 n.Am.Ac.length z.c1,.int .i64 (Mt n i p).Ab.Aa.Al,.int .i64 (Mt n i p).Ab.Aa.size,.slice z.a2 (Mt n i p).Ab.Aa.Aj.length z.c2,.int .i64 (Mt n i p).Ab.Ai,.int .i64 (Mt n i p).Ab.quiet,.slice z.a3 (Mt n i p).Ab.holds.length z.c3,.slice z.a4 n.Af.length z.c4,.slice z.a5 n.Ad.length z.c5,.slice z.a6 n.down.length z.c6,.slice z.a7 n.up.length z.c7] [],.ow Bd 3 (.slice z.a1 n.Am.Ac.length z.c1) (Mt n i p).Am.Ac z.F1,.ow Ba 9 (.slice z.a2 (Mt n i p).Ab.Aa.Aj.length z.c2) (Mt n i p).Ab.Aa.Aj z.F2,.ow Bj 134 (.slice z.a3 (Mt n i p).Ab.holds.length z.c3) (Mt n i p).Ab.holds z.F3,.ow Bt 77 (.slice z.a4 n.Af.length z.c4) (Mt n i p).Af z.F4,.ow Bk 84 (.slice z.a5 n.Ad.length z.c5) (Mt n i p).Ad z.F5,.ow (Hi Ak 110) 86 (.slice z.a6 n.down.length z.c6) (Mt n i p).down z.F6,.ow (Hi Ak 110) 86 (.slice z.a7 n.up.length z.c7) (Mt n i p).up z.F7]):=by
 obtain ⟨q1,q2,q3,q4⟩:=Bm.1 hl
 have hn8:=h8.n1
 obtain ⟨n0,n1⟩:=Iv hp
 have hone:∀x∈[((i:Nat):Int)],0≤x∧x.toNat < n.down.length:=fun x hx=>by
  rw [List.mem_singleton] at hx;subst hx;omega
 obtain ⟨k,hk⟩:∃k,To n i=k:=⟨_,rfl⟩
 obtain ⟨e1,e2,e3⟩:=Ag9 h8 hi h0 hk
 refine enter func148 rfl ntmps148 fun w0=>?_
 refine N6 (xs:=n.Am.Ac) (m:=1) Du i ?_ (by repeat (first|exact .here|apply C0.there)) rfl hi
 rintro _ gp A0 cs B0 rfl rfl hr hH
 obtain ⟨rfl, -⟩:=hr w0
 rw [e1]
 refine go ?_;intros
 refine Nd ((k:Nat):Int) hH (fun w=>⟨rfl,rfl⟩) ?_
 rw [show n.Am.Ac.set i ((k:Nat):Int)=n.Am.Ac by rw [←e1,List.set_getElem_self]]
 refine Bg rfl (fun h5=>?_) (fun h5=>?_)
 ·obtain rfl:k=0:=by omega
  rw [show Mt n i p=⟨n.Am,Jy n.Ab p.Ae,n.Af,n.Ad,Dl n.down [((i:Nat):Int)] (Lg n.Ab p),n.up⟩ by unfold Mt;rw [if_pos hk]]
  dsimp only
  rw [Aq0,Aqy,Aqz]
  refine go ?_;intros
  refine Ahj [.slice (some ⟨gp,0,none⟩) n.Am.Ac.length c1] [.int .i64 n.Ab.Aa.Al,.int .i64 n.Ab.Aa.size,.slice a2 n.Ab.Aa.Aj.length c2,.int .i64 n.Ab.Ai,.int .i64 n.Ab.quiet,.slice a3 n.Ab.holds.length c3] [.slice a4 n.Af.length c4,.slice a5 n.Ad.length c5,.slice a6 n.down.length c6,.slice a7 n.up.length c7] ?_
  refine As [2] [] ?_
  refine dt 0 ?_
  refine dt 1 ?_
  refine dt 3 ?_
  refine dt 4 ?_
  refine dt 5 ?_
  refine dt 6 ?_
  refine Ov 2 7 (by kernel_rfl) (by rw [List.getElem?_toArray];rfl) (by rw [List.getElem?_toArray];rfl) ?_ ?_
  ·apply Ho;rfl;rfl;rfl;rfl;exact Hl;exact Hg;intro _
   refine Ei (E:=Bd) (xs:=[((i:Nat):Int)]) (Mi _) ?_ (by simp)
   refine A1 (E:=Bd) (xs:=[((i:Nat):Int)]) fun Fo=>?_
   refine dk ?_
   refine dO 7 (by kernel_rfl) (by rw [List.getElem?_toArray];rfl) ?_
   apply At;rfl;kernel_rfl;exact Bf
   refine cf (Yq n.Ab.Aa n.Ab.holds p g 37 (0+1) _ _ a2 a3 c2 c3 n.Ab.Ai n.Ab.quiet F2 F3 hsrc n0 n1 hps) fun z _=>?_
   refine Ap ?_
   refine Z0 [.slice (some ⟨gp,0,none⟩) n.Am.Ac.length c1] [.int .i64 n.Ab.Aa.Al,.int .i64 n.Ab.Aa.size,.slice a2 n.Ab.Aa.Aj.length c2,.int .i64 n.Ab.Ai,.int .i64 n.Ab.quiet,.slice z.a2 (Jy n.Ab p.Ae).holds.length z.c2] [.slice a4 n.Af.length c4,.slice a5 n.Ad.length c5,.slice a6 n.down.length c6,.slice a7 n.up.length c7] ?_
   refine A1 (E:=Ak) (xs:=Lg n.Ab p) fun Fq=>?_
   refine dk ?_
   refine dO 8 (by kernel_rfl) (by rw [List.getElem?_toArray];rfl) ?_
   apply At;rfl;kernel_rfl;exact Bf
   refine cf (T9 n.down [((i:Nat):Int)] (Lg n.Ab p) g _ _ _ _ _ _ _ _ _ _ a6 _ c6 F6 _ _ Fo _ _ Fq rfl hone) fun J6 _=>?_
   refine Ap ?_
   refine dk ?_
   refine dd ?_
   refine go ?_;intros
   refine ret (⟨some ⟨gp,0,none⟩,c1,[gp],a2,c2,F2,z.a2,z.c2,z.F,a4,c4,F4,a5,c5,F5,a6,c6,J6,a7,c7,F7⟩:NV) trivial rfl
  ·apply At;rfl;kernel_rfl;exact Bf
   refine cf (Yq n.Ab.Aa n.Ab.holds p g 37 (0+1) _ _ a2 a3 c2 c3 n.Ab.Ai n.Ab.quiet F2 F3 hsrc n0 n1 hps) fun z _=>?_
   refine Ap ?_
   refine Z0 [.slice (some ⟨gp,0,none⟩) n.Am.Ac.length c1] [.int .i64 n.Ab.Aa.Al,.int .i64 n.Ab.Aa.size,.slice a2 n.Ab.Aa.Aj.length c2,.int .i64 n.Ab.Ai,.int .i64 n.Ab.quiet,.slice z.a2 (Jy n.Ab p.Ae).holds.length z.c2] [.slice a4 n.Af.length c4,.slice a5 n.Ad.length c5,.slice a6 n.down.length c6,.slice a7 n.up.length c7] ?_
   refine A1 (E:=Ak) (xs:=Lg n.Ab p) fun Fq=>?_
   refine dk ?_
   refine dO 2 (by kernel_rfl) (by rw [List.getElem?_toArray];rfl) ?_
   apply Ho;rfl;rfl;rfl;rfl;exact Hl;exact Hg;intro _
   refine Ei (E:=Bd) (xs:=[((i:Nat):Int)]) (Mi _) ?_ (by simp)
   refine A1 (E:=Bd) (xs:=[((i:Nat):Int)]) fun Fo=>?_
   refine dk ?_
   refine dO 8 (by kernel_rfl) (by rw [List.getElem?_toArray];rfl) ?_
   apply At;rfl;kernel_rfl;exact Bf
   refine cf (T9 n.down [((i:Nat):Int)] (Lg n.Ab p) g _ _ _ _ _ _ _ _ _ _ a6 _ c6 F6 _ _ Fo _ _ Fq rfl hone) fun J6 _=>?_
   refine Ap ?_
   refine dk ?_
   refine dd ?_
   refine go ?_;intros
   refine ret (⟨some ⟨gp,0,none⟩,c1,[gp],a2,c2,F2,z.a2,z.c2,z.F,a4,c4,F4,a5,c5,F5,a6,c6,J6,a7,c7,F7⟩:NV) trivial rfl
 have h6:k≠0:=by omega
 have hkl:k < n.Af.length:=by omega
 have hku:k < n.up.length:=by omega
 have hge:Be n.Af[k]=true:=Ja hkl▸he k h6 (by omega) e3
 have hel:=(Fg.1 hge).2.1
 obtain ⟨hc0,hc1⟩:=Kt.1 (Fg.1 hge).1
 rw [show Mt n i p=⟨n.Am,n.Ab,n.Af.set k (Lf n.Af[k] p.Ae ((i:Nat):Int)),n.Ad,Dl n.down [((i:Nat):Int)] [T8 p],if V6 n.Af[k] p.Ae then n.up.modify k fun q=>E9 q [p] else n.up⟩ by unfold Mt;rw [if_neg (by omega),hk,Ja hkl]]
 refine go ?_;intros
 refine V5 (xs:=n.Af) (m:=2) k ?_ rfl hkl
 rintro _ g5 A5 cs B5 k1 k2 J1 Ji J2 rfl - hc5 hH5
 refine Ha ?_
 rintro b1 d1 G1 ev l1
 obtain rfl:cs=[.int .i64 n.Af[k].Ai,.slice b1 n.Af[k].Ah.length d1]:=by simpa using ev
 refine As [5,6] [] ?_
 refine dt 0 ?_
 refine dt 1 ?_
 refine dt 2 ?_
 refine dt 3 ?_
 refine dt 4 ?_
 refine dt 5 ?_
 refine dt 6 ?_
 refine dt 7 ?_
 refine dt 8 ?_
 refine dO 9 (by kernel_rfl) (by rw [List.getElem?_toArray];rfl) ?_
 apply At;rfl;kernel_rfl;exact Bf
 refine cf (Afd n.Af[k] p.Ae ((i:Nat):Int) g5 77 (0+k * 2) A5 B5 b1 d1 G1 (by omega) (fun x hx=>⟨by have:=Mn hge hx;omega,Adt hge hx⟩) (by omega) (by omega)) fun s _=>?_
 refine Ap ?_
 refine dk ?_
 refine dt 10 ?_
 refine dd ?_
 refine Fj (Lf n.Af[k] p.Ae ((i:Nat):Int)) ?_
 refine Rw _ hH5 rfl fun J5=>?_
 refine Jm ?_;intros
 refine Ei (E:=Bd) (xs:=[((i:Nat):Int)]) (Mi _) ?_ (by simp)
 refine A1 (E:=Bd) (xs:=[((i:Nat):Int)]) fun Fo=>?_
 refine Ei (E:=Ak) (xs:=[T8 p]) (C5 (T8 p) (Nat.zero_le _)) ?_ (by simp)
 refine A1 (E:=Ak) (xs:=[T8 p]) fun Fp=>?_
 refine go ?_;intros
 refine cf (T9 n.down [((i:Nat):Int)] [T8 p] g _ _ _ _ _ _ _ _ _ _ a6 _ c6 F6 _ _ Fo _ _ Fp rfl hone) fun J6 _=>?_
 refine Ap ?_
 cases hf:V6 n.Af[k] p.Ae
 ·rw [if_neg (by decide)]
  refine go ?_;intros
  refine Rt ?_
  refine ret (⟨some ⟨gp,0,none⟩,c1,[gp],a2,c2,F2,a3,c3,F3,_,c4,J5,a5,c5,F5,a6,c6,J6,a7,c7,F7⟩:NV) trivial rfl
 ·rw [if_pos rfl,show (n.up.modify k fun q=>E9 q [p])=n.up.set k (Qw n.up[k] p) by rw [Gb hku,Al4]]
  refine go ?_;intros
  refine As [0,6] [] ?_
  refine dt 0 ?_
  refine dt 1 ?_
  refine dt 2 ?_
  refine dt 3 ?_
  refine dt 4 ?_
  refine dt 5 ?_
  refine dO 6 (by kernel_rfl) (by rw [List.getElem?_toArray];rfl) ?_
  apply At;rfl;kernel_rfl;exact Bf
  refine cf (Wk n.up k p a7 _ c7 F7 rfl hku hps) fun J7 _=>?_
  refine Ap ?_
  refine dk ?_
  refine dd ?_
  refine go ?_;intros
  refine Rt ?_
  refine ret (⟨some ⟨gp,0,none⟩,c1,[gp],a2,c2,F2,a3,c3,F3,_,c4,J5,a5,c5,F5,a6,c6,J6,a7,c7,J7⟩:NV) trivial rfl
def Alk (es:List Fb) (ck:Int):List Fb:=es.filter fun x=>!decide (x.Ca≤ck)
theorem Akx (x:Fb) (ck:Int) (gb g o:Nat) (u q:Value) (G:List Nat):Fn prog 199 [u,Ez gb 0 0] [.isv Da u x G,.cel gb 0 [Ez g o 0],.cel g o [.int .i64 ck,q]] [] (fun (_:Unit)=>True) (fun _=>.bool (decide (x.Ca≤ck))) (fun _=>[]):=by
 refine enter func199 rfl ntmps199 fun w0=>?_
 refine Abh ?_
 rintro a1 c1 F1 rfl l1
 refine go ?_;intros
 refine As [0,3,4] [] ?_
 refine dt 0 ?_
 refine dt 1 ?_
 refine dt 2 ?_
 refine dt 3 ?_
 refine dt 4 ?_
 refine dt 5 ?_
 refine dt 6 ?_
 refine dt 7 ?_
 refine dd ?_
 refine go ?_;intros
 refine ret () trivial rfl
theorem Aky (es:List Fb) (ck:Int) (gb tb g t o:Nat) (A B:List Value) (a:Option Addr) (c:Nat) (F:List Nat) :
  Fn prog 198 [.slice a es.length c,.func (.func 199) #[] #[Ez gb 0 0]] [] [.ow Ee 136 (.slice a es.length c) es F,.row gb tb 0 [] [Ez g o 0] [],.row g t o A [.int .i64 ck,.slice a es.length c] B] (fun (_:Option Addr × Nat × List Nat)=>True)
   (fun z=>.slice z.1 (Alk es ck).length z.2.1) (fun z=>[.ow Ee 136 (.slice z.1 (Alk es ck).length z.2.1) (Alk es ck) z.2.2,.row gb tb 0 [] [Ez g o 0] [],.row g t o A [.int .i64 ck,.slice a es.length c] B]):=by
 refine Afn rfl fun w ⟨hnd,ho⟩ _ hk=>?_
 refine (Vv _ (Q6 (by kernel_rfl)) #[Ez gb 0 0] _ es F (fun x=>decide (x.Ca≤ck)) w ho hnd fun k hk2 wr u G hK hu=>?_).mono ?_
 ·have hr:=hk wr hK
  have r1:=hr (.row gb tb 0 [] [Ez g o 0] []) (by simp)
  have r2:=hr (.row g t o A [.int .i64 ck,.slice a es.length c] B) (by simp)
  refine (Akx es[k] ck gb g o u (.slice a es.length c) G).val wr ?_
  intro p hp
  simp only [List.mem_cons,List.not_mem_nil,or_false] at hp
  rcases hp with rfl|rfl|rfl
  ·exact hu
  ·exact ⟨by simp,Gh r1⟩
  ·exact ⟨by simp,Gh r2⟩
 ·rintro e w' ⟨v',F',rfl,h1,h2,h3,h4⟩
  obtain ⟨a',c',rfl⟩:=h1.slice
  exact ⟨(a',c',F'),trivial,rfl,⟨h2,h1⟩,fun b hb=>.inl (h3 b hb),h4⟩
theorem Anh (e:Bl) (g t o:Nat) (A B:List Value) (a:Option Addr) (c:Nat) (F:List Nat) (h0:-1000000≤e.Ai) (h1:e.Ai≤1000000) :
  Fn prog 142 [Ez g o 0] [] [.row g t o A [.int .i64 e.Ai,.slice a e.Ah.length c] B,.ow Ee 136 (.slice a e.Ah.length c) e.Ah F] (fun (_:Option Addr × Nat × List Nat)=>True)
   (fun _=>.tuple #[]) (fun z=>[.row g t o A [.int .i64 (D8 e).Ai,.slice z.1 (D8 e).Ah.length z.2.1] B,.ow Ee 136 (.slice z.1 (D8 e).Ah.length z.2.1) (D8 e).Ah z.2.2]):=by
 refine enter func142 rfl ntmps142 fun w0=>?_
 refine go ?_;intros
 refine As [0,1] [9] ?_
 refine dt 0 ?_
 refine dt 1 ?_
 refine dt 2 ?_
 refine dt 3 ?_
 refine dt 4 ?_
 refine dt 5 ?_
 refine dO 6 (by kernel_rfl) (by rw [List.getElem?_toArray];rfl) ?_
 apply At;rfl;kernel_rfl;exact Bf
 refine cf (Aky e.Ah (e.Ai+1) _ _ g t o A B a c F) fun z _=>?_
 refine Ap ?_
 refine dk ?_
 refine dt 7 ?_
 refine dt 8 ?_
 refine dO 9 (by kernel_rfl) (by rw [List.getElem?_toArray];rfl) ?_
 apply Cs;rfl;rfl;rfl;(first|exact AggC.s|exact OneC.s);rfl;exact Cu;exact Ct;rfl
 refine Ng ?_
 refine dd ?_
 refine Rt ?_
 refine ret (_,_,_) trivial rfl
theorem Ami {g t o k:Nat} {A B X cs Y:List Value} (hk:X.length=k) {w:World}:(Pc.row g t (o+k) (A++X) cs (Y++B)).P w↔(Pc.row g t o A (X++cs++Y) B).P w:=by
 show ((A++X).length=o+k∧Hm w g t (A++X++cs++(Y++B)))↔(A.length=o∧Hm w g t (A++(X++cs++Y)++B))
 rw [List.length_append,hk]
 have e:A++X++cs++(Y++B)=A++(X++cs++Y)++B:=by simp [List.append_assoc]
 rw [e]
 exact ⟨fun h=>⟨by omega,h.2⟩,fun h=>⟨by omega,h.2⟩⟩
theorem Ak8 {p q:Pc} {R:List Pc} {w:World} (h:p.P w→q.P w) (hH:Nf (p::R) w):Nf (q::R) w:=fun x hx=>by
 rcases List.mem_cons.1 hx with rfl|hx
 ·exact h (hH p (by simp))
 ·exact hH x (by simp [hx])
theorem Amk {p q:Pc} {R:List Pc} (hm:p.mu=q.mu) (hF:p.F=q.F) (hS:Px (p::R)):Px (q::R):=⟨fun x hx hmu b hb=>hS.1 x hx (by rw [hm];exact hmu) b (by rw [hF];exact hb),hS.2⟩
theorem Ak3 {P:Program} {f:FuncId} {args:List Value} {A M':List Pc} {g t o k:Nat} {A' B X cs Y L:List Value} {σ:Type} {C:σ→Prop} {v:σ→Value} {cs' L':σ→List Value} {N':σ→List Pc}
  (h:Fn P f args A (.row g t (o+k) (A'++X) cs (Y++B)::M') C v (fun s=>.row g t (o+k) (A'++X) (cs' s) (Y++B)::N' s)) (hk:X.length=k) (hL:L=X++cs++Y) (hL':∀s,L' s=X++cs' s++Y) :
  Fn P f args A (.row g t o A' L B::M') C v (fun s=>.row g t o A' (L' s) B::N' s):=fun w hH hS=>by
 subst hL
 refine (h w (Ak8 (Ami hk).2 hH) (Amk rfl rfl hS)).mono ?_
 rintro e w' ⟨s,hC,he,h1,h2,h3,h4⟩
 refine ⟨s,hC,he,?_,Amk rfl rfl h2,?_,?_⟩
 ·show Nf (.row g t o A' (L' s) B::N' s) w'
  rw [hL' s]
  exact Ak8 (Ami hk).1 h1
 ·simpa [fp,Pc.mu,Pc.F] using h3
 ·intro p hp b hb
  have hp':∃q∈(Pc.row g t (o+k) (A'++X) (cs' s) (Y++B)::N' s),q.mu=p.mu∧b∈q.F:=by
   rcases List.mem_cons.1 hp with rfl|hp
   ·exact ⟨_,.head _,rfl,hb⟩
   ·exact ⟨p,.tail _ hp,rfl,hb⟩
  obtain ⟨q,hq,hm,hbq⟩:=hp'
  rcases h4 q hq b hbq with h|⟨x,hx,hbx⟩|⟨hm2,x,hx,hbx⟩
  ·exact .inl h
  ·refine .inr (.inl ?_)
   rcases List.mem_cons.1 hx with rfl|hx
   ·exact ⟨_,.head _,hbx⟩
   ·exact ⟨x,.tail _ hx,hbx⟩
  ·exact .inr (.inr ⟨by rw [←hm];exact hm2,x,hx,hbx⟩)
section
variable {c:Cx} {fr:Fr} {H:List Pc} {k:List It} {Φ:Gl} {ops:Array Oper} {o:Op} {d:Nat} {v:Value} {ty:TypeId} {pos:String} {Cg:Array Edge} {H0:List Pc} {X:List Nat} {f:Nat} {listed:Array Bool}
theorem dsI {id:Nat} {l:List Oper} (H0:List Pc) (X:List Nat) (h:T c fr H (.dx k H0 X l.toArray l.length (Array.replicate l.length false))) (hm:c.P.follows .mixedOrders=true:=by kernel_rfl):T c fr H (.Br k (Code.region id l.toArray true)):=.mk fun a w s g=>by
 refine C4.start (S:=Nf H0) (X:=fun i=>X.contains i) hm ?_
 have:=h.h a w.drew (s.below (Ek (Below.refl _ _) 1)) g
 simpa [Gl.sem] using this
theorem dtI (i:Nat) (hI:∀w,Nf H w→Nf H0 w) (h:T c ((d,v)::fr) H (.dx k H0 X ops f (listed.setIfInBounds i true))) (ho:ops[i]?=some ⟨some d,o,ty,pos,Cg,none⟩:=by rw [List.getElem?_toArray];rfl) (hy:Yd c.P c.n fr H0 o ty v:=by exact ydE)
  (h1:Region.noSelect ops=true:=by kernel_rfl) (h2:Region.free .any ops listed i=true:=by kernel_rfl) (h3:(Region.ready .any ops listed).contains i=true:=by kernel_rfl) (h4:Of .any ops (fun i=>X.contains i) i=true:=by kernel_rfl) (h5:Ou .any ops listed=true:=by kernel_rfl) (hR:Uz c:=by exact Xo) (hd:Nat.blt d c.n=true:=by rfl) :
  T c fr H (.dx k H0 X ops (f+1) listed):=.mk fun a w s g =>
 C4.take (v:=v) ho h1 h2 h3 h4 h5 (fun ch a w hp=>by rw [Jz] at hp ⊢;exact hR _ _ _ _ _ hp) (.inl ⟨rfl,fun w' hw'=>hy.h a w' _ _ _ _ g hw'⟩) (hI w s.on) (h.h _ _ s (g.put hd))
theorem dkI {i:Nat} (hI:∀w,Nf H w→Nf H0 w) (h:T c fr H (.dx k H0 X ops f listed)):T c fr H (.dk i k H0 X ops f listed):=.mk fun a w s g=>⟨fun _=>hI w s.on,h.h a w s g⟩
end
theorem Fv {g t:Nat} {x:Value} {r:List Value} {w:World} (h:(Pc.row g t 0 [] (x::r) []).P w):(Pc.cel g 0 [x]).P w:=⟨by simp,fun j u hu=>by
 cases j with
 | zero=>exact Gh h 0 u (by simpa using hu)
 | succ j=>simp at hu⟩
structure TkN where
 k:Nat
 z:NV
 a:Option Addr
 c:Nat
 F:List Nat
theorem Agq (n:D9) (g:Nat) (a1:Option Addr) (c1:Nat) (F1:List Nat) (a2:Option Addr) (c2:Nat) (F2:List Nat) (a3:Option Addr) (c3:Nat) (F3:List Nat) (a4:Option Addr) (c4:Nat) (F4:List Nat) (a5:Option Addr) (c5:Nat) (F5:List Nat) (a6:Option Addr) (c6:Nat) (F6:List Nat) (a7:Option Addr) (c7:Nat) (F7:List Nat) (FT:List Nat) (hg:Ax n=true) (hc:n.Ab.Ai < 9999) :
  Fn prog 82 [Ez g 0 0] [Lw FT] [.row g 37 0 [] [.slice a1 n.Am.Ac.length c1,.int .i64 n.Ab.Aa.Al,.int .i64 n.Ab.Aa.size,.slice a2 n.Ab.Aa.Aj.length c2,.int .i64 n.Ab.Ai,.int .i64 n.Ab.quiet,.slice a3 n.Ab.holds.length c3,.slice a4 n.Af.length c4,.slice a5 n.Ad.length c5,.slice a6 n.down.length c6,.slice a7 n.up.length c7] [],.ow Bd 3 (.slice a1 n.Am.Ac.length c1) n.Am.Ac F1,.ow Ba 9 (.slice a2 n.Ab.Aa.Aj.length c2) n.Ab.Aa.Aj F2,.ow Bj 134 (.slice a3 n.Ab.holds.length c3) n.Ab.holds F3,.ow Bt 77 (.slice a4 n.Af.length c4) n.Af F4,.ow Bk 84 (.slice a5 n.Ad.length c5) n.Ad F5,.ow (Hi Ak 110) 86 (.slice a6 n.down.length c6) n.down F6,.ow (Hi Ak 110) 86 (.slice a7 n.up.length c7) n.up F7] (fun (_:NV × KA)=>True) (fun z=>.slice z.2.a (Bz n).2.length z.2.c) (fun z=>[.row g 37 0 [] [.slice z.1.a1 n.Am.Ac.length z.1.c1,.int .i64 (Bz n).1.Ab.Aa.Al,.int .i64 (Bz n).1.Ab.Aa.size,.slice z.1.a2 (Bz n).1.Ab.Aa.Aj.length z.1.c2,.int .i64 (Bz n).1.Ab.Ai,.int .i64 (Bz n).1.Ab.quiet,.slice z.1.a3 (Bz n).1.Ab.holds.length z.1.c3,.slice z.1.a4 n.Af.length z.1.c4,.slice z.1.a5 n.Ad.length z.1.c5,.slice z.1.a6 n.down.length z.1.c6,.slice z.1.a7 n.up.length z.1.c7] [],.ow Bd 3 (.slice z.1.a1 n.Am.Ac.length z.1.c1) (Bz n).1.Am.Ac z.1.F1,.ow Ba 9 (.slice z.1.a2 (Bz n).1.Ab.Aa.Aj.length z.1.c2) (Bz n).1.Ab.Aa.Aj z.1.F2,.ow Bj 134 (.slice z.1.a3 (Bz n).1.Ab.holds.length z.1.c3) (Bz n).1.Ab.holds z.1.F3,.ow Bt 77 (.slice z.1.a4 n.Af.length z.1.c4) (Bz n).1.Af z.1.F4,.ow Bk 84 (.slice z.1.a5 n.Ad.length z.1.c5) (Bz n).1.Ad z.1.F5,.ow (Hi Ak 110) 86 (.slice z.1.a6 n.down.length z.1.c6) (Bz n).1.down z.1.F6,.ow (Hi Ak 110) 86 (.slice z.1.a7 n.up.length z.1.c7) (Bz n).1.up z.1.F7,.ow Ba 9 (.slice z.2.a (Bz n).2.length z.2.c) (Bz n).2 z.2.F]):=by
 have hG:=A8.1 hg
 have h8:=Ff hG.t
 have hn8:=h8.n1
 have hn2:=h8.n0
 obtain ⟨q1,q2,q3,q4⟩:=Bm.1 hG.l
 have hS:=Ll hG.s
 obtain ⟨hq0,hq3⟩:=Aer hG.s
 have hkl:=Qr n.Am.Ac 0
 have hkx:∀x∈Gs n.Am.Ac 0,0≤x∧x.toNat < n.down.length:=fun x hx=>by have:=Jd (i:=0) h8 hx;omega
 refine enter func82 rfl ntmps82 fun w0=>?_
 refine go ?_;intros
 refine dsI [.cel g 0 [.slice a1 n.Am.Ac.length c1]] [] ?_
 refine dtI 0 (fun w h=>Il (Fv (h (.row g _ 0 [] _ []) (by exact B8)))) ?_
 refine dtI 1 (fun w h=>Il (Fv (h (.row g _ 0 [] _ []) (by exact B8)))) ?_
 refine dtI 2 (fun w h=>Il (Fv (h (.row g _ 0 [] _ []) (by exact B8)))) ?_
 refine dtI 3 (fun w h=>Il (Fv (h (.row g _ 0 [] _ []) (by exact B8)))) ?_
 refine dtI 4 (fun w h=>Il (Fv (h (.row g _ 0 [] _ []) (by exact B8)))) ?_
 refine dtI 6 (fun w h=>Il (Fv (h (.row g _ 0 [] _ []) (by exact B8)))) ?_
 refine dtI 7 (fun w h=>Il (Fv (h (.row g _ 0 [] _ []) (by exact B8)))) ?_
 refine dtI 8 (fun w h=>Il (Fv (h (.row g _ 0 [] _ []) (by exact B8)))) ?_
 refine dO 5 (by kernel_rfl) (by rw [List.getElem?_toArray];rfl) ?_
 apply At;rfl;kernel_rfl;exact Bf
 refine cfr (fun w st=>by obtain ⟨Fq,hq⟩:=Zk (st.get (p:=.ow Bd 3 (.slice a1 n.Am.Ac.length c1) n.Am.Ac F1) (by exact B8));exact ⟨_,Il hq,rfl,T7 n.Am 0 _ Fq (by show n.Am.Ac.length≤1000000;omega)⟩) (fun u _=>?_)
 refine Ap ?_
 refine A1 (E:=Bd) (xs:=Gs n.Am.Ac 0) fun Fk=>?_
 refine dkI (fun w h=>Il (Fv (h (.row g _ 0 [] _ []) (by exact B8)))) ?_
 refine dO 9 (by kernel_rfl) (by rw [List.getElem?_toArray];rfl) ?_
 apply At;rfl;kernel_rfl;exact Bf
 refine cf (Ak3 (X:=[.slice a1 n.Am.Ac.length c1]) (cs:=[.int .i64 n.Ab.Aa.Al,.int .i64 n.Ab.Aa.size,.slice a2 n.Ab.Aa.Aj.length c2,.int .i64 n.Ab.Ai,.int .i64 n.Ab.quiet,.slice a3 n.Ab.holds.length c3]) (Y:=[.slice a4 n.Af.length c4,.slice a5 n.Ad.length c5,.slice a6 n.down.length c6,.slice a7 n.up.length c7]) (L:=[.slice a1 n.Am.Ac.length c1,.int .i64 n.Ab.Aa.Al,.int .i64 n.Ab.Aa.size,.slice a2 n.Ab.Aa.Aj.length c2,.int .i64 n.Ab.Ai,.int .i64 n.Ab.quiet,.slice a3 n.Ab.holds.length c3,.slice a4 n.Af.length c4,.slice a5 n.Ad.length c5,.slice a6 n.down.length c6,.slice a7 n.up.length c7]) (L':=fun z:TiS=>[.slice a1 n.Am.Ac.length c1,.int .i64 n.Ab.Aa.Al,.int .i64 n.Ab.Aa.size,.slice a2 n.Ab.Aa.Aj.length c2,.int .i64 (n.Ab.Ai+1),.int .i64 (Oq n.Ab.quiet),.slice z.a2 (Qq (n.Ab.Ai+1) n.Ab.holds).length z.c2,.slice a4 n.Af.length c4,.slice a5 n.Ad.length c5,.slice a6 n.down.length c6,.slice a7 n.up.length c7]) (cs':=fun z:TiS=>[.int .i64 n.Ab.Aa.Al,.int .i64 n.Ab.Aa.size,.slice a2 n.Ab.Aa.Aj.length c2,.int .i64 (n.Ab.Ai+1),.int .i64 (Oq n.Ab.quiet),.slice z.a2 (Qq (n.Ab.Ai+1) n.Ab.holds).length z.c2]) (Ano n.Ab.Aa n.Ab.holds g 37 (0+1) _ _ a2 a3 c2 c3 n.Ab.Ai n.Ab.quiet F3 hS.t0 hS.t1 hS.l hS.k0 hS.k1 hq0 hq3) rfl rfl (fun _=>rfl)) fun z _=>?_
 refine Ap ?_
 refine A1 (E:=Ak) (xs:=Lc n.Ab.Aa n.Ab.quiet) fun Fp=>?_
 refine dkI (fun w h=>Il (Fv (h (.row g _ 0 [] _ []) (by exact B8)))) ?_
 refine dO 10 (by kernel_rfl) (by rw [List.getElem?_toArray];rfl) ?_
 apply At;rfl;kernel_rfl;exact Bf
 refine cf (T9 n.down (Gs n.Am.Ac 0) (Lc n.Ab.Aa n.Ab.quiet) g _ _ _ _ _ _ _ _ _ _ a6 _ c6 F6 _ _ Fk _ _ Fp rfl hkx) fun J6 _=>?_
 refine Ap ?_
 refine dkI (fun w h=>Il (Fv (h (.row g _ 0 [] _ []) (by exact B8)))) ?_
 refine dd ?_
 refine Cb Ba 9 ?_
 rw [show Dl n.down (Gs n.Am.Ac 0) (Lc n.Ab.Aa n.Ab.quiet)=(Bc n 0).1.down from rfl]
 refine go ?_;intros
 refine Cp [0,2] (fun s:TkN=>[(3,.slice s.a (Bc n s.k).2.length s.c),(4,.int .i64 ((s.k+1:Nat):Int))]) (fun s=>[.row g 37 0 [] [.slice s.z.a1 n.Am.Ac.length s.z.c1,.int .i64 (Bc n s.k).1.Ab.Aa.Al,.int .i64 (Bc n s.k).1.Ab.Aa.size,.slice s.z.a2 (Bc n s.k).1.Ab.Aa.Aj.length s.z.c2,.int .i64 (Bc n s.k).1.Ab.Ai,.int .i64 (Bc n s.k).1.Ab.quiet,.slice s.z.a3 (Bc n s.k).1.Ab.holds.length s.z.c3,.slice s.z.a4 n.Af.length s.z.c4,.slice s.z.a5 n.Ad.length s.z.c5,.slice s.z.a6 n.down.length s.z.c6,.slice s.z.a7 n.up.length s.z.c7] [],.ow Bd 3 (.slice s.z.a1 n.Am.Ac.length s.z.c1) (Bc n s.k).1.Am.Ac s.z.F1,.ow Ba 9 (.slice s.z.a2 (Bc n s.k).1.Ab.Aa.Aj.length s.z.c2) (Bc n s.k).1.Ab.Aa.Aj s.z.F2,.ow Bj 134 (.slice s.z.a3 (Bc n s.k).1.Ab.holds.length s.z.c3) (Bc n s.k).1.Ab.holds s.z.F3,.ow Bt 77 (.slice s.z.a4 n.Af.length s.z.c4) (Bc n s.k).1.Af s.z.F4,.ow Bk 84 (.slice s.z.a5 n.Ad.length s.z.c5) (Bc n s.k).1.Ad s.z.F5,.ow (Hi Ak 110) 86 (.slice s.z.a6 n.down.length s.z.c6) (Bc n s.k).1.down s.z.F6,.ow (Hi Ak 110) 86 (.slice s.z.a7 n.up.length s.z.c7) (Bc n s.k).1.up s.z.F7,.ow Ba 9 (.slice s.a (Bc n s.k).2.length s.c) (Bc n s.k).2 s.F]) (fun s=>s.k+1≤n.Am.Ac.length∧(Bc n s.k).2.length≤40000 * s.k) (fun s=>n.Am.Ac.length - s.k) ⟨0,⟨a1,c1,F1,a2,c2,F2,z.a2,z.c2,z.F,a4,c4,F4,a5,c5,F5,a6,c6,J6,a7,c7,F7⟩,none,0,[]⟩ ⟨by show 0+1≤_;omega,Nat.le_refl _⟩ fun s hs0=>?_
 obtain ⟨k,⟨x1,w1,K1,x2,w2,K2,x3,w3,K3,x4,w4,K4,x5,w5,K5,x6,w6,K6,x7,w7,K7⟩,ea,ec,eF⟩:=s
 obtain ⟨hk,hel⟩:=hs0
 dsimp only at hk hel ⊢
 obtain ⟨hGN,hT,hSrc⟩:=Oe hg hc k (by omega)
 obtain ⟨r1,r2,r3,r4⟩:=Bm.1 hGN.l
 rw [hT] at r1 r2 r3 r4
 rw [hT,hSrc]
 refine go ?_;intros
 refine Bg rfl (fun h1=>?_) (fun h1=>?_)
 ·have hj:k+1 < n.Am.Ac.length:=by omega
  obtain ⟨i1,i2,i3,i4,hrn⟩:=hGN.rn (i:=k+1) (by rw [hT];exact hj)
  rw [hT] at hrn
  obtain ⟨d0,d1_⟩:=V3 (i:=k+1)
  refine go ?_;intros
  refine cfr (fun w st=>by obtain ⟨Fq,hq⟩:=Zk (st.get (p:=.ow Bd 3 (.slice x1 n.Am.Ac.length w1) n.Am.Ac K1) (by exact B8));exact ⟨_,Il hq,rfl,Vb n.Am ((k+1:Nat):Int) _ Fq⟩) (fun _ _=>?_)
  refine Ap ?_
  cases hlf:Ev n.Am.Ac ((k+1:Nat):Int)
  ·obtain ⟨hge,hck, -⟩:=hrn.hn (by omega) hlf
   obtain ⟨hc0,hc1⟩:=Kt.1 (Fg.1 hge).1
   have hnx:Bc n (k+1)=(⟨n.Am,Kb n.Ab,(Bc n k).1.Af.set (k+1) (D8 (Bc n k).1.Af[k+1]),(Bc n k).1.Ad,(Bc n k).1.down,(Bc n k).1.up⟩,(Bc n k).2++[]):=by
    show ((L8 (Bc n k).1 (k+1)).1,(Bc n k).2++(L8 (Bc n k).1 (k+1)).2)=_
    unfold L8
    rw [hT,hlf,if_neg (by decide),Ja i1,hSrc]
   rw [List.append_nil] at hnx
   refine V5 (xs:=(Bc n k).1.Af) (m:=2) (k+1) ?_ rfl i1
   rintro _ g5 A5 cs B5 k1 k2 J1 Ji J2 e5 - hc5 hH5
   rw [e5]
   refine Ha ?_
   rintro b1 d1 G1 ev l1
   obtain rfl:cs=[.int .i64 (Bc n k).1.Af[k+1].Ai,.slice b1 (Bc n k).1.Af[k+1].Ah.length d1]:=by simpa using ev
   refine go ?_;intros
   refine cf (Anh (Bc n k).1.Af[k+1] g5 77 (0+(k+1) * 2) A5 B5 b1 d1 G1 (by omega) (by omega)) fun s9 _=>?_
   refine Ap ?_
   refine Fj (D8 (Bc n k).1.Af[k+1]) ?_
   refine Rw _ hH5 rfl fun J5=>?_
   refine go ?_;intros
   refine Ck ⟨k+1,⟨x1,w1,K1,x2,w2,K2,x3,w3,K3,_,w4,J5,x5,w5,K5,x6,w6,K6,x7,w7,K7⟩,ea,ec,eF⟩ ⟨by show k+1+1≤_;omega,by rw [hnx];dsimp only;omega⟩ (by show n.Am.Ac.length - (k+1) < n.Am.Ac.length - k;omega) (by dsimp only;rw [hnx];exact frE) (by dsimp only;rw [hnx];exact hsE)
  ·obtain ⟨-,hgr0,hck⟩:=hrn.hf (by omega) hlf
   have hgr:=Gg.1 hgr0
   obtain ⟨hsm,hfew⟩:=Wu hgr
   have hnx:Bc n (k+1)=(⟨n.Am,Kb n.Ab,(Bc n k).1.Af,(Bc n k).1.Ad.set (k+1) (Cv (Bc n k).1.Ad[k+1] (Ks (k+1))),(Bc n k).1.down,Oa (Bc n k).1.up (k+1) (En (Bc n k).1.Ad[k+1])⟩,(Bc n k).2++Si (k+1) (Fm (Bc n k).1.Ad[k+1])):=by
    show ((L8 (Bc n k).1 (k+1)).1,(Bc n k).2++(L8 (Bc n k).1 (k+1)).2)=_
    unfold L8
    rw [hT,hlf,if_pos rfl,Hp i2,hSrc];rfl
   have htl:(Si (k+1) (Fm (Bc n k).1.Ad[k+1])).length=(Fm (Bc n k).1.Ad[k+1]).length:=List.length_map ..
   generalize hR:(Bc n k).1.Ad[k+1]=R at *
   refine go ?_;intros
   refine V5 (xs:=(Bc n k).1.Ad) (m:=5) (k+1) ?_ rfl i2
   rintro _ g5 A5 cs B5 k1 k2 J1 Ji J2 e5 - hc5 hH5
   rw [e5,hR]
   refine H9 ?_
   rintro b1 d1 G1 b2 d2 G2 ev l1 l2
   obtain rfl:cs=[.bool R.Bh,.int .i64 R.Ai,.int .i64 R.Aa.next,.slice b1 R.Aa.Ao.length d1,.slice b2 R.Ar.length d2]:=by simpa using ev
   refine As [5] [] ?_
   refine dt 0 ?_
   refine dt 1 ?_
   refine dt 2 ?_
   refine dt 3 ?_
   refine dt 4 ?_
   refine dt 5 ?_
   refine dt 6 ?_
   refine dO 7 (by kernel_rfl) (by rw [List.getElem?_toArray];rfl) ?_
   apply At;rfl;kernel_rfl;exact Bf
   refine cf (Aav (k+1) (by omega)) fun _ _=>?_
   refine Ap ?_
   refine dk ?_
   refine dO 8 (by kernel_rfl) (by rw [List.getElem?_toArray];rfl) ?_
   apply At;rfl;kernel_rfl;exact Bf
   refine cf (Anm R (Ks (k+1)) g5 84 (0+(k+1) * 5) A5 B5 b1 d1 G1 b2 d2 G2 hgr (by omega) (by omega)) fun s9 _=>?_
   refine Ap ?_
   refine dk ?_
   refine dt 9 ?_
   refine dt 10 ?_
   refine dt 11 ?_
   refine dt 12 ?_
   refine dt 13 ?_
   refine dd ?_
   refine Js (Cv R (Ks (k+1))) ?_
   refine Rw _ hH5 rfl fun J5=>?_
   refine A1 (E:=Ak) (xs:=En R) fun Fp=>?_
   refine Acy (E:=Ak) (fun p:Av=>p.data.size≤maxLen) (fun w cs x F h=>by obtain ⟨_,h,_⟩:=h;exact h) ?_
   intro hz
   refine Tp (E:=Ak) (xs:=En R) ?_
   rintro pa pc e9 hp1 hp2
   clear e9
   refine go ?_;intros
   rw [show (Bc n k).1.up=Oa (Bc n k).1.up (k+1) ((En R).take 0) by rw [List.take_zero,Abk]]
   refine Cp [0,2,3,4,6,56,57] (fun y:KF=>[(58,.int .i64 (y.k:Nat))]) (fun y=>[.ow (Hi Ak 110) 86 (.slice x7 n.up.length w7) (Oa (Bc n k).1.up (k+1) ((En R).take y.k)) y.F]) (fun y=>y.k≤(En R).length) (fun y=>(En R).length - y.k) ⟨0,K7⟩ (Nat.zero_le _) fun y hy0=>?_
   have hpl:=Abj (Bc n k).1.up (k+1) ((En R).take y.k)
   refine go ?_;intros
   refine Bg rfl (fun h2=>?_) (fun h2=>?_)
   ·have hm:y.k < (En R).length:=by omega
    refine Mg (xs:=En R) y.k ?_
    rintro hi3 b3 o3 e3 s3
    rw [e3]
    refine go ?_;intros
    refine As [0,6] [] ?_
    refine dt 0 ?_
    refine dt 1 ?_
    refine dt 2 ?_
    refine dt 3 ?_
    refine dt 4 ?_
    refine dt 5 ?_
    refine dO 6 (by kernel_rfl) (by rw [List.getElem?_toArray];rfl) ?_
    apply At;rfl;kernel_rfl;exact Bf
    refine cf (Wk (Oa (Bc n k).1.up (k+1) ((En R).take y.k)) (k+1) (En R)[y.k] x7 _ w7 y.F (by omega) (by omega) s3) fun f1 _=>?_
    refine Ap ?_
    rw [Zj i4 hm]
    refine dk ?_
    refine dd ?_
    refine go ?_;intros
    refine Ck ⟨y.k+1,f1⟩ hm (by show (En R).length - (y.k+1) < (En R).length - y.k;omega)
   ·rw [show (En R).take y.k=En R from List.take_of_length_le (by omega)]
    refine go ?_;intros
    refine cfr (fun w st=>by obtain ⟨Fq, -,hq⟩:=(st.get (p:=.ow Ba 9 (.slice s9.a4 (Fm R).length s9.c4) (Fm R) s9.F4) (by exact B8)).2.read;exact ⟨[.sl Ba (.slice s9.a4 (Fm R).length s9.c4) (Fm R) Fq,Lw FT],Sf ⟨by decide,hq⟩ (st.get (p:=Lw FT) (by exact B8)),rfl,Am2 (k+1) _ _ _ Fq FT (by omega) (by omega) hsm⟩) (fun u9 _=>?_)
    refine Ap ?_
    refine A1 (E:=Ba) (xs:=Si (k+1) (Fm R)) fun F8=>?_
    apply wO
    refine Lx (E:=Ba) (xs:=(Bc n k).2) (ys:=Si (k+1) (Fm R)) Ed Hf fun a9 c9 F9=>?_
    refine go ?_;intros
    refine Ck ⟨k+1,⟨x1,w1,K1,x2,w2,K2,x3,w3,K3,x4,w4,K4,_,w5,J5,x6,w6,K6,x7,w7,y.F⟩,a9,c9,F9⟩ ⟨by show k+1+1≤_;omega,by rw [hnx];dsimp only;rw [List.length_append,htl];omega⟩ (by show n.Am.Ac.length - (k+1) < n.Am.Ac.length - k;omega) (by dsimp only;rw [hnx];exact frE) (by dsimp only;rw [hnx];exact hsE)
 ·have hke:n.Am.Ac.length - 1=k:=by omega
  rw [show Bz n=Bc n k by unfold Bz;rw [hke],hT,hSrc]
  refine go ?_;intros
  refine ret (⟨x1,w1,K1,x2,w2,K2,x3,w3,K3,x4,w4,K4,x5,w5,K5,x6,w6,K6,x7,w7,K7⟩,⟨0,ea,ec,eF⟩) trivial rfl
theorem Ao4 (n:D9) (s:Li) (g:Nat) (a1:Option Addr) (c1:Nat) (F1:List Nat) (a2:Option Addr) (c2:Nat) (F2:List Nat) (a3:Option Addr) (c3:Nat) (F3:List Nat) (a4:Option Addr) (c4:Nat) (F4:List Nat) (a5:Option Addr) (c5:Nat) (F5:List Nat) (a6:Option Addr) (c6:Nat) (F6:List Nat) (a7:Option Addr) (c7:Nat) (F7:List Nat) (FT:List Nat) (hg:Ax n=true) (hf:Pi s.node=true) :
  Fn prog 83 [Ez g 0 0,.agg #[.int .i64 s.Df,.int .i64 s.node,.string s.data]] [Lw FT] [.row g 37 0 [] [.slice a1 n.Am.Ac.length c1,.int .i64 n.Ab.Aa.Al,.int .i64 n.Ab.Aa.size,.slice a2 n.Ab.Aa.Aj.length c2,.int .i64 n.Ab.Ai,.int .i64 n.Ab.quiet,.slice a3 n.Ab.holds.length c3,.slice a4 n.Af.length c4,.slice a5 n.Ad.length c5,.slice a6 n.down.length c6,.slice a7 n.up.length c7] [],.ow Bd 3 (.slice a1 n.Am.Ac.length c1) n.Am.Ac F1,.ow Ba 9 (.slice a2 n.Ab.Aa.Aj.length c2) n.Ab.Aa.Aj F2,.ow Bj 134 (.slice a3 n.Ab.holds.length c3) n.Ab.holds F3,.ow Bt 77 (.slice a4 n.Af.length c4) n.Af F4,.ow Bk 84 (.slice a5 n.Ad.length c5) n.Ad F5,.ow (Hi Ak 110) 86 (.slice a6 n.down.length c6) n.down F6,.ow (Hi Ak 110) 86 (.slice a7 n.up.length c7) n.up F7] (fun (_:NV × KA)=>True) (fun z=>.tuple #[.slice z.2.a (Vi (Cy n s)).length z.2.c,.bool (Cy n s).isSome]) (fun z=>[.row g 37 0 [] [.slice z.1.a1 n.Am.Ac.length z.1.c1,.int .i64 (Fs n (Cy n s)).Ab.Aa.Al,.int .i64 (Fs n (Cy n s)).Ab.Aa.size,.slice z.1.a2 (Fs n (Cy n s)).Ab.Aa.Aj.length z.1.c2,.int .i64 (Fs n (Cy n s)).Ab.Ai,.int .i64 (Fs n (Cy n s)).Ab.quiet,.slice z.1.a3 (Fs n (Cy n s)).Ab.holds.length z.1.c3,.slice z.1.a4 n.Af.length z.1.c4,.slice z.1.a5 n.Ad.length z.1.c5,.slice z.1.a6 n.down.length z.1.c6,.slice z.1.a7 n.up.length z.1.c7] [],.ow Bd 3 (.slice z.1.a1 n.Am.Ac.length z.1.c1) (Fs n (Cy n s)).Am.Ac z.1.F1,.ow Ba 9 (.slice z.1.a2 (Fs n (Cy n s)).Ab.Aa.Aj.length z.1.c2) (Fs n (Cy n s)).Ab.Aa.Aj z.1.F2,.ow Bj 134 (.slice z.1.a3 (Fs n (Cy n s)).Ab.holds.length z.1.c3) (Fs n (Cy n s)).Ab.holds z.1.F3,.ow Bt 77 (.slice z.1.a4 n.Af.length z.1.c4) (Fs n (Cy n s)).Af z.1.F4,.ow Bk 84 (.slice z.1.a5 n.Ad.length z.1.c5) (Fs n (Cy n s)).Ad z.1.F5,.ow (Hi Ak 110) 86 (.slice z.1.a6 n.down.length z.1.c6) (Fs n (Cy n s)).down z.1.F6,.ow (Hi Ak 110) 86 (.slice z.1.a7 n.up.length z.1.c7) (Fs n (Cy n s)).up z.1.F7,.ow Ba 9 (.slice z.2.a (Vi (Cy n s)).length z.2.c) (Vi (Cy n s)) z.2.F]):=by
 have hG:=A8.1 hg
 have h8:=Ff hG.t
 have hn8:=h8.n1
 obtain ⟨q1,q2,q3,q4⟩:=Bm.1 hG.l
 obtain ⟨f1,f2⟩:=L0.1 hf
 obtain ⟨i,hi⟩:∃i:Nat,s.node=((i:Nat):Int):=⟨s.node.toNat,by omega⟩
 have i0:i≠0:=by omega
 refine enter func83 rfl ntmps83 fun w0=>?_
 refine Cb Ba 9 ?_
 rw [hi]
 refine go ?_;intros
 refine As [0,2] [] ?_
 refine dt 0 ?_
 refine dt 1 ?_
 refine dt 2 ?_
 refine dt 3 ?_
 refine dt 4 ?_
 refine dt 5 ?_
 refine dt 6 ?_
 refine dt 7 ?_
 refine dt 8 ?_
 refine dd ?_
 refine go ?_;intros
 refine Bg rfl (fun h1=>?_) (fun h1=>?_)
 ·rw [show Cy n s=none by unfold Cy;rw [if_pos (by omega)]]
  refine go ?_;intros
  refine ret (⟨a1,c1,F1,a2,c2,F2,a3,c3,F3,a4,c4,F4,a5,c5,F5,a6,c6,F6,a7,c7,F7⟩,⟨0,none,0,[]⟩) trivial rfl
 have hil:i < n.Am.Ac.length:=by omega
 by_cases k5:s.Df=5
 ·have hu:Sh s=true:=by unfold Sh;rw [decide_eq_true k5];rfl
  have hq:Qx n s=n.up[i]:=by unfold Qx;rw [hu,if_pos rfl,hi,Int.toNat_natCast];exact N7 (by omega) []
  have hpo:Gm n s=I4 n i:=by unfold Gm;rw [hu,if_pos rfl,hi,Int.toNat_natCast]
  have h6:n.up[i].length≤6:=by
   have:=(Ko (s:=s) hg).1
   rw [hq] at this
   unfold Eo at this
   simp only [Bool.and_eq_true,decide_eq_true_eq] at this
   exact this.1
  refine go ?_;intros
  refine Dc rfl rfl (fun g5=>?_) (fun g5=>?_)
  rotate_left
  ·exact absurd k5 g5
  refine go ?_;intros
  refine cf (Zh n.up i a7 _ c7 F7 rfl (by omega) h6) fun J _=>?_
  refine Ap ?_
  by_cases h0:0 < n.up[i].length
  rotate_left
  ·have hz:n.up[i]=[]:=List.length_eq_zero_iff.1 (by omega)
   rw [show Cy n s=none by unfold Cy;rw [if_neg (by omega),hq,if_pos (by omega)],decide_eq_false h0,show n.up.set i (n.up[i].drop 1)=n.up by rw [hz,List.drop_nil];rw [←hz,List.set_getElem_self]]
   refine go ?_;intros
   refine ret (⟨a1,c1,F1,a2,c2,F2,a3,c3,F3,a4,c4,F4,a5,c5,F5,a6,c6,F6,a7,c7,J⟩,⟨0,none,0,[]⟩) trivial rfl
  have hmem:=M8 h0
  have hpk:Bp (Kz n.up[i])=true:=Lz (hq▸(Ko (s:=s) hg).1) hmem
  have hpz:(Kz n.up[i]).data.size≤maxLen:=by
   have h9:=hpk
   unfold Bp Oh at h9
   simp only [Bool.and_eq_true,decide_eq_true_eq] at h9
   unfold maxLen;omega
  rw [decide_eq_true h0,show n.up.set i (n.up[i].drop 1)=(I4 n i).up from (Gb (by omega)).symm]
  have hgm:Ax (I4 n i)=true:=hpo▸J8 hg
  have hGm:=A8.1 hgm
  have hlm:n.up.length=(I4 n i).up.length:=(List.length_modify ..).symm
  generalize hP:Kz n.up[i]=P at *
  have htk:Cy n s=some (Mt (I4 n i) i P,[]):=by
   unfold Cy
   rw [if_neg (by omega),hq,if_neg (by omega),hpo,hP,hi,Int.toNat_natCast]
   rw [if_neg (by omega),if_pos k5]
  rw [htk]
  refine go ?_;intros
  refine Bg rfl (fun k2=>?_) (fun k2=>?_)
  ·exact absurd k2 (by omega)
  refine go ?_;intros
  refine Bg rfl (fun m5=>?_) (fun m5=>?_)
  rotate_left
  ·exact absurd k5 m5
  refine go ?_;intros
  rw [hlm]
  refine cf (Am6 (I4 n i) i P g a1 c1 F1 a2 c2 F2 a3 c3 F3 a4 c4 F4 a5 c5 F5 a6 c6 F6 a7 c7 J hGm.l i0 hil (Ff hGm.t) hGm.s (fun k hk hkl hl=>?_) hpk hpz) fun z _=>?_
  rotate_left
  ·refine Ap ?_
   refine go ?_;intros
   refine ret (z,⟨0,none,0,[]⟩) trivial rfl
  ·obtain ⟨x1,x2,x3,x4,r⟩:=hGm.rn (i:=k) hkl
   rw [Ja x1];exact (r.hn hk hl).1
 by_cases k6:s.Df=6
 ·have hu:Sh s=true:=by unfold Sh;rw [decide_eq_true k6,Bool.or_true]
  have hq:Qx n s=n.up[i]:=by unfold Qx;rw [hu,if_pos rfl,hi,Int.toNat_natCast];exact N7 (by omega) []
  have hpo:Gm n s=I4 n i:=by unfold Gm;rw [hu,if_pos rfl,hi,Int.toNat_natCast]
  have h6:n.up[i].length≤6:=by
   have:=(Ko (s:=s) hg).1
   rw [hq] at this
   unfold Eo at this
   simp only [Bool.and_eq_true,decide_eq_true_eq] at this
   exact this.1
  refine go ?_;intros
  refine Dc rfl rfl (fun g5=>?_) (fun g5=>?_)
  ·exact absurd g5 (by omega)
  refine go ?_;intros
  refine Bg rfl (fun g6=>?_) (fun g6=>?_)
  rotate_left
  ·exact absurd k6 g6
  refine go ?_;intros
  refine cf (Zh n.up i a7 _ c7 F7 rfl (by omega) h6) fun J _=>?_
  refine Ap ?_
  by_cases h0:0 < n.up[i].length
  rotate_left
  ·have hz:n.up[i]=[]:=List.length_eq_zero_iff.1 (by omega)
   rw [show Cy n s=none by unfold Cy;rw [if_neg (by omega),hq,if_pos (by omega)],decide_eq_false h0,show n.up.set i (n.up[i].drop 1)=n.up by rw [hz,List.drop_nil];rw [←hz,List.set_getElem_self]]
   refine go ?_;intros
   refine ret (⟨a1,c1,F1,a2,c2,F2,a3,c3,F3,a4,c4,F4,a5,c5,F5,a6,c6,F6,a7,c7,J⟩,⟨0,none,0,[]⟩) trivial rfl
  have hmem:=M8 h0
  have hpk:Bp (Kz n.up[i])=true:=Lz (hq▸(Ko (s:=s) hg).1) hmem
  have hpz:(Kz n.up[i]).data.size≤maxLen:=by
   have h9:=hpk
   unfold Bp Oh at h9
   simp only [Bool.and_eq_true,decide_eq_true_eq] at h9
   unfold maxLen;omega
  rw [decide_eq_true h0,show n.up.set i (n.up[i].drop 1)=(I4 n i).up from (Gb (by omega)).symm]
  have hgm:Ax (I4 n i)=true:=hpo▸J8 hg
  have hGm:=A8.1 hgm
  have hlm:n.up.length=(I4 n i).up.length:=(List.length_modify ..).symm
  generalize hP:Kz n.up[i]=P at *
  have htk:Cy n s=some (I4 n i,[]):=by
   unfold Cy
   rw [if_neg (by omega),hq,if_neg (by omega),hpo,hP,hi,Int.toNat_natCast]
   rw [if_neg (by omega),if_neg (by omega)]
  rw [htk]
  refine go ?_;intros
  refine Bg rfl (fun k2=>?_) (fun k2=>?_)
  ·exact absurd k2 (by omega)
  refine go ?_;intros
  refine Bg rfl (fun m5=>?_) (fun m5=>?_)
  ·exact absurd m5 (by omega)
  refine go ?_;intros
  refine ret (⟨a1,c1,F1,a2,c2,F2,a3,c3,F3,a4,c4,F4,a5,c5,F5,a6,c6,F6,a7,c7,J⟩,⟨0,none,0,[]⟩) trivial rfl
 ·have hu:Sh s=false:=by unfold Sh;rw [decide_eq_false k5,decide_eq_false k6];rfl
  have hq:Qx n s=n.down[i]:=by unfold Qx;rw [hu,if_neg (by decide),hi,Int.toNat_natCast];exact N7 (by omega) []
  have hpo:Gm n s=Kh n i:=by unfold Gm;rw [hu,if_neg (by decide),hi,Int.toNat_natCast]
  have h6:n.down[i].length≤6:=by
   have:=(Ko (s:=s) hg).1
   rw [hq] at this
   unfold Eo at this
   simp only [Bool.and_eq_true,decide_eq_true_eq] at this
   exact this.1
  refine go ?_;intros
  refine Dc rfl rfl (fun g5=>?_) (fun g5=>?_)
  ·exact absurd g5 k5
  refine go ?_;intros
  refine Bg rfl (fun g6=>?_) (fun g6=>?_)
  ·exact absurd g6 k6
  refine go ?_;intros
  refine cf (Zh n.down i a6 _ c6 F6 rfl (by omega) h6) fun J _=>?_
  refine Ap ?_
  by_cases h0:0 < n.down[i].length
  rotate_left
  ·have hz:n.down[i]=[]:=List.length_eq_zero_iff.1 (by omega)
   rw [show Cy n s=none by unfold Cy;rw [if_neg (by omega),hq,if_pos (by omega)],decide_eq_false h0,show n.down.set i (n.down[i].drop 1)=n.down by rw [hz,List.drop_nil];rw [←hz,List.set_getElem_self]]
   refine go ?_;intros
   refine ret (⟨a1,c1,F1,a2,c2,F2,a3,c3,F3,a4,c4,F4,a5,c5,F5,a6,c6,J,a7,c7,F7⟩,⟨0,none,0,[]⟩) trivial rfl
  have hmem:=M8 h0
  have hpk:Bp (Kz n.down[i])=true:=Lz (hq▸(Ko (s:=s) hg).1) hmem
  have hpz:(Kz n.down[i]).data.size≤maxLen:=by
   have h9:=hpk
   unfold Bp Oh at h9
   simp only [Bool.and_eq_true,decide_eq_true_eq] at h9
   unfold maxLen;omega
  rw [decide_eq_true h0,show n.down.set i (n.down[i].drop 1)=(Kh n i).down from (Gb (by omega)).symm]
  have hgm:Ax (Kh n i)=true:=hpo▸J8 hg
  have hGm:=A8.1 hgm
  have hlm:n.down.length=(Kh n i).down.length:=(List.length_modify ..).symm
  generalize hP:Kz n.down[i]=P at *
  have htk:Cy n s=if s.Df=2 then some (Cq (Kh n i) i P) else some (Kh n i,[]):=by
   unfold Cy
   rw [if_neg (by omega),hq,if_neg (by omega),hpo,hP,hi,Int.toNat_natCast]
   split
   ·rfl
   ·first|rfl|rw [if_neg k5]
  rw [htk]
  refine go ?_;intros
  refine Bg rfl (fun k2=>?_) (fun k2=>?_)
  ·rw [if_pos k2]
   refine go ?_;intros
   rw [hlm]
   refine cf (Ahy (Kh n i) i P g a1 c1 F1 a2 c2 F2 a3 c3 F3 a4 c4 F4 a5 c5 F5 a6 c6 J a7 c7 F7 FT hGm.l hil (Ff hGm.t) (fun hl=>?_) (fun hl=>?_) hpk hpz) fun z _=>?_
   rotate_left
   rotate_left
   ·refine Ap ?_
    refine go ?_;intros
    refine ret (z.1,z.2) trivial rfl
   ·obtain ⟨x1,x2,x3,x4,r⟩:=hGm.rn (i:=i) hil
    rw [Hp x2];exact (r.hf i0 hl).2.1
   ·obtain ⟨x1,x2,x3,x4,r⟩:=hGm.rn (i:=i) hil
    rw [Ja x1];exact (r.hn i0 hl).1
  ·rw [if_neg k2]
   refine go ?_;intros
   refine Bg rfl (fun m5=>?_) (fun m5=>?_)
   ·exact absurd m5 k5
   refine go ?_;intros
   refine ret (⟨a1,c1,F1,a2,c2,F2,a3,c3,F3,a4,c4,F4,a5,c5,F5,a6,c6,J,a7,c7,F7⟩,⟨0,none,0,[]⟩) trivial rfl
theorem Aq6 (n:D9) (s:Li) (g:Nat) (a1:Option Addr) (c1:Nat) (F1:List Nat) (a2:Option Addr) (c2:Nat) (F2:List Nat) (a3:Option Addr) (c3:Nat) (F3:List Nat) (a4:Option Addr) (c4:Nat) (F4:List Nat) (a5:Option Addr) (c5:Nat) (F5:List Nat) (a6:Option Addr) (c6:Nat) (F6:List Nat) (a7:Option Addr) (c7:Nat) (F7:List Nat) (FT:List Nat) (hg:Ax n=true) (hs:Ij s=true) (hss:s.data.size≤maxLen) :
  Fn prog 34 [Ez g 0 0,.agg #[.int .i64 s.Df,.int .i64 s.node,.string s.data]] [Lw FT] [.row g 37 0 [] [.slice a1 n.Am.Ac.length c1,.int .i64 n.Ab.Aa.Al,.int .i64 n.Ab.Aa.size,.slice a2 n.Ab.Aa.Aj.length c2,.int .i64 n.Ab.Ai,.int .i64 n.Ab.quiet,.slice a3 n.Ab.holds.length c3,.slice a4 n.Af.length c4,.slice a5 n.Ad.length c5,.slice a6 n.down.length c6,.slice a7 n.up.length c7] [],.ow Bd 3 (.slice a1 n.Am.Ac.length c1) n.Am.Ac F1,.ow Ba 9 (.slice a2 n.Ab.Aa.Aj.length c2) n.Ab.Aa.Aj F2,.ow Bj 134 (.slice a3 n.Ab.holds.length c3) n.Ab.holds F3,.ow Bt 77 (.slice a4 n.Af.length c4) n.Af F4,.ow Bk 84 (.slice a5 n.Ad.length c5) n.Ad F5,.ow (Hi Ak 110) 86 (.slice a6 n.down.length c6) n.down F6,.ow (Hi Ak 110) 86 (.slice a7 n.up.length c7) n.up F7] (fun (_:NV × KA)=>True) (fun z=>.tuple #[.slice z.2.a (Vi (By n s)).length z.2.c,.bool (By n s).isSome]) (fun z=>[.row g 37 0 [] [.slice z.1.a1 n.Am.Ac.length z.1.c1,.int .i64 (Fs n (By n s)).Ab.Aa.Al,.int .i64 (Fs n (By n s)).Ab.Aa.size,.slice z.1.a2 (Fs n (By n s)).Ab.Aa.Aj.length z.1.c2,.int .i64 (Fs n (By n s)).Ab.Ai,.int .i64 (Fs n (By n s)).Ab.quiet,.slice z.1.a3 (Fs n (By n s)).Ab.holds.length z.1.c3,.slice z.1.a4 n.Af.length z.1.c4,.slice z.1.a5 n.Ad.length z.1.c5,.slice z.1.a6 n.down.length z.1.c6,.slice z.1.a7 n.up.length z.1.c7] [],.ow Bd 3 (.slice z.1.a1 n.Am.Ac.length z.1.c1) (Fs n (By n s)).Am.Ac z.1.F1,.ow Ba 9 (.slice z.1.a2 (Fs n (By n s)).Ab.Aa.Aj.length z.1.c2) (Fs n (By n s)).Ab.Aa.Aj z.1.F2,.ow Bj 134 (.slice z.1.a3 (Fs n (By n s)).Ab.holds.length z.1.c3) (Fs n (By n s)).Ab.holds z.1.F3,.ow Bt 77 (.slice z.1.a4 n.Af.length z.1.c4) (Fs n (By n s)).Af z.1.F4,.ow Bk 84 (.slice z.1.a5 n.Ad.length z.1.c5) (Fs n (By n s)).Ad z.1.F5,.ow (Hi Ak 110) 86 (.slice z.1.a6 n.down.length z.1.c6) (Fs n (By n s)).down z.1.F6,.ow (Hi Ak 110) 86 (.slice z.1.a7 n.up.length z.1.c7) (Fs n (By n s)).up z.1.F7,.ow Ba 9 (.slice z.2.a (Vi (By n s)).length z.2.c) (Vi (By n s)) z.2.F]):=by
 have hG:=A8.1 hg
 have h8:=Ff hG.t
 have hn8:=h8.n1
 have hn2:=h8.n0
 obtain ⟨q1,q2,q3,q4⟩:=Bm.1 hG.l
 have hS:=Ll hG.s
 obtain ⟨-,⟨hz1, -⟩, -, -⟩:=D6.1 hS.w
 have hkl:=Qr n.Am.Ac 0
 have hkx:∀x∈Gs n.Am.Ac 0,0≤x∧x.toNat < n.down.length:=fun x hx=>by have:=Jd (i:=0) h8 hx;omega
 refine enter func34 rfl ntmps34 fun w0=>?_
 refine Cb Ba 9 ?_
 refine go ?_;intros
 rename_i gs
 refine Bg rfl (fun h1=>?_) (fun h1=>?_)
 ·rw [show By n s=some (Na n s.data,[]) by unfold By;rw [if_pos h1]]
  refine go ?_;intros
  refine dsI [.cel g 0 [.slice a1 n.Am.Ac.length c1],.row gs 39 0 [] [.int .i64 s.Df,.int .i64 s.node,.string s.data] []] [] ?_
  refine dtI 0 (fun w h=>Sf (Fv (h (.row g _ 0 [] _ []) (by exact B8))) (h _ (by exact B8))) ?_
  refine dtI 1 (fun w h=>Sf (Fv (h (.row g _ 0 [] _ []) (by exact B8))) (h _ (by exact B8))) ?_
  refine dtI 2 (fun w h=>Sf (Fv (h (.row g _ 0 [] _ []) (by exact B8))) (h _ (by exact B8))) ?_
  refine dtI 3 (fun w h=>Sf (Fv (h (.row g _ 0 [] _ []) (by exact B8))) (h _ (by exact B8))) ?_
  refine dtI 4 (fun w h=>Sf (Fv (h (.row g _ 0 [] _ []) (by exact B8))) (h _ (by exact B8))) ?_
  refine dtI 6 (fun w h=>Sf (Fv (h (.row g _ 0 [] _ []) (by exact B8))) (h _ (by exact B8))) ?_
  refine dtI 7 (fun w h=>Sf (Fv (h (.row g _ 0 [] _ []) (by exact B8))) (h _ (by exact B8))) ?_
  refine dtI 8 (fun w h=>Sf (Fv (h (.row g _ 0 [] _ []) (by exact B8))) (h _ (by exact B8))) ?_
  refine dtI 9 (fun w h=>Sf (Fv (h (.row g _ 0 [] _ []) (by exact B8))) (h _ (by exact B8))) ?_
  refine dtI 10 (fun w h=>Sf (Fv (h (.row g _ 0 [] _ []) (by exact B8))) (h _ (by exact B8))) ?_
  refine dO 5 (by kernel_rfl) (by rw [List.getElem?_toArray];rfl) ?_
  apply At;rfl;kernel_rfl;exact Bf
  refine cfr (fun w st=>by obtain ⟨Fq,hq⟩:=Zk (st.get (p:=.ow Bd 3 (.slice a1 n.Am.Ac.length c1) n.Am.Ac F1) (by exact B8));exact ⟨_,Il hq,rfl,T7 n.Am 0 _ Fq (by show n.Am.Ac.length≤1000000;omega)⟩) (fun u _=>?_)
  refine Ap ?_
  refine A1 (E:=Bd) (xs:=Gs n.Am.Ac 0) fun Fk=>?_
  refine dkI (fun w h=>Sf (Fv (h (.row g _ 0 [] _ []) (by exact B8))) (h _ (by exact B8))) ?_
  refine dO 11 (by kernel_rfl) (by rw [List.getElem?_toArray];rfl) ?_
  apply At;rfl;kernel_rfl;exact Bf
  refine cf (Ak3 (X:=[.slice a1 n.Am.Ac.length c1]) (cs:=[.int .i64 n.Ab.Aa.Al,.int .i64 n.Ab.Aa.size,.slice a2 n.Ab.Aa.Aj.length c2,.int .i64 n.Ab.Ai,.int .i64 n.Ab.quiet,.slice a3 n.Ab.holds.length c3]) (Y:=[.slice a4 n.Af.length c4,.slice a5 n.Ad.length c5,.slice a6 n.down.length c6,.slice a7 n.up.length c7]) (L:=[.slice a1 n.Am.Ac.length c1,.int .i64 n.Ab.Aa.Al,.int .i64 n.Ab.Aa.size,.slice a2 n.Ab.Aa.Aj.length c2,.int .i64 n.Ab.Ai,.int .i64 n.Ab.quiet,.slice a3 n.Ab.holds.length c3,.slice a4 n.Af.length c4,.slice a5 n.Ad.length c5,.slice a6 n.down.length c6,.slice a7 n.up.length c7]) (L':=fun z:SeS=>[.slice a1 n.Am.Ac.length c1,.int .i64 (Db n.Ab.Aa s.data).Al,.int .i64 (Db n.Ab.Aa s.data).size,.slice z.a (Db n.Ab.Aa s.data).Aj.length z.c,.int .i64 n.Ab.Ai,.int .i64 0,.slice z.a2 (Ln (Db n.Ab.Aa s.data) n.Ab.holds).length z.c2,.slice a4 n.Af.length c4,.slice a5 n.Ad.length c5,.slice a6 n.down.length c6,.slice a7 n.up.length c7]) (cs':=fun z:SeS=>[.int .i64 (Db n.Ab.Aa s.data).Al,.int .i64 (Db n.Ab.Aa s.data).size,.slice z.a (Db n.Ab.Aa s.data).Aj.length z.c,.int .i64 n.Ab.Ai,.int .i64 0,.slice z.a2 (Ln (Db n.Ab.Aa s.data) n.Ab.holds).length z.c2]) (Ann n.Ab.Aa s.data n.Ab.holds g 37 (0+1) _ _ a2 a3 c2 c3 n.Ab.Ai n.Ab.quiet F2 F3 hS.l hS.t0 hS.t1 hss hz1 hS.n) rfl rfl (fun _=>rfl)) fun z _=>?_
  refine Ap ?_
  refine dkI (fun w h=>Sf (Fv (h (.row g _ 0 [] _ []) (by exact B8))) (h _ (by exact B8))) ?_
  refine dO 12 (by kernel_rfl) (by rw [List.getElem?_toArray];rfl) ?_
  apply Ho;rfl;rfl;rfl;rfl;exact Hl;exact Hg;intro _
  refine Ei (E:=Ak) (xs:=[Dp n.Ab.Aa s.data]) (C5 (Dp n.Ab.Aa s.data) hss) ?_ (by simp)
  refine A1 (E:=Ak) (xs:=[Dp n.Ab.Aa s.data]) fun Fp=>?_
  refine dkI (fun w h=>Sf (Fv (h (.row g _ 0 [] _ []) (by exact B8))) (h _ (by exact B8))) ?_
  refine dO 13 (by kernel_rfl) (by rw [List.getElem?_toArray];rfl) ?_
  apply At;rfl;kernel_rfl;exact Bf
  refine cf (T9 n.down (Gs n.Am.Ac 0) [Dp n.Ab.Aa s.data] g _ _ _ _ _ _ _ _ _ _ a6 _ c6 F6 _ _ Fk _ _ Fp rfl hkx) fun J6 _=>?_
  refine Ap ?_
  refine dkI (fun w h=>Sf (Fv (h (.row g _ 0 [] _ []) (by exact B8))) (h _ (by exact B8))) ?_
  refine dd ?_
  refine go ?_;intros
  refine ret (⟨a1,c1,F1,z.a,z.c,z.F,z.a2,z.c2,z.F2,a4,c4,F4,a5,c5,F5,a6,c6,J6,a7,c7,F7⟩,⟨0,none,0,[]⟩) trivial rfl
 refine go ?_;intros
 refine Bg rfl (fun h4=>?_) (fun h4=>?_)
 ·refine go ?_;intros
  refine Bg rfl (fun hc=>?_) (fun hc=>?_)
  ·rw [show By n s=none by unfold By;rw [if_neg h1,if_pos h4,if_pos hc]]
   refine go ?_;intros
   refine ret (⟨a1,c1,F1,a2,c2,F2,a3,c3,F3,a4,c4,F4,a5,c5,F5,a6,c6,F6,a7,c7,F7⟩,⟨0,none,0,[]⟩) trivial rfl
  ·rw [show By n s=some (Bz n) by unfold By;rw [if_neg h1,if_pos h4,if_neg hc]]
   have hck:=Q1 hG.s
   refine go ?_;intros
   refine cf (Agq n g a1 c1 F1 a2 c2 F2 a3 c3 F3 a4 c4 F4 a5 c5 F5 a6 c6 F6 a7 c7 F7 FT hg (by omega)) fun z _=>?_
   refine Ap ?_
   refine go ?_;intros
   refine ret (z.1,z.2) trivial rfl
 ·rw [show By n s=Cy n s by unfold By;rw [if_neg h1,if_neg h4]]
  have hf:Pi s.node=true:=by
   unfold Ij at hs
   rw [if_neg h1,if_neg h4] at hs
   simp only [Bool.and_eq_true] at hs
   exact hs.1.2
  refine go ?_;intros
  refine cf (Ao4 n s g a1 c1 F1 a2 c2 F2 a3 c3 F3 a4 c4 F4 a5 c5 F5 a6 c6 F6 a7 c7 F7 FT hg hf) fun z _=>?_
  refine Ap ?_
  refine go ?_;intros
  refine ret (z.1,z.2) trivial rfl
def okQ (up:Bool) (p:Av):Bool:=Bp p && (!up || decide (p.Df=3))
theorem Ag7 (up:Bool) (l:List Av):(l.all (okQ up) && decide (l.length≤6))=(Eo l && (!up || Uv l)):=by
 have h:l.all (okQ up)=(l.all Bp && (!up || Uv l)):=by
  unfold Uv okQ
  induction l with
  | nil=>cases up <;> rfl
  | cons p l ih =>
   simp only [List.all_cons,ih]
   cases Bp p <;> cases up <;> cases decide (p.Df=3) <;> cases l.all Bp <;> simp
 rw [h]
 unfold Eo
 cases decide (l.length≤6) <;> cases l.all Bp <;> simp
theorem Alw {up:Bool} {l:List Av} {k:Nat} (h:k < l.length) (hp:okQ up l[k]=false):(Eo l && (!up || Uv l))=false:=by
 rw [←Ag7,show l.all (okQ up)=false from List.all_eq_false.2 ⟨l[k],List.getElem_mem h,by simp [hp]⟩];rfl
theorem Y9 (l:List Av) (up:Bool) (a:Option Addr) (c:Nat) (F:List Nat) (hl:l.length≤9223372036854775807):Fn prog 156 [.slice a l.length c,.bool up] [.sl Ak (.slice a l.length c) l F] [] (fun (_:Unit)=>True) (fun _=>.bool (Eo l && (!up || Uv l))) (fun _=>[]):=by
 refine enter func156 rfl ntmps156 fun w0=>?_
 refine go ?_;intros
 refine Dv [0,1,4] (fun k:Nat=>[(5,.int .i64 (k:Nat))]) (fun k=>k≤l.length∧∀j,j < k→∀h:j < l.length,okQ up l[j]=true) (fun k=>l.length - k) 0 ⟨Nat.zero_le _,fun j h=>by omega⟩ fun k hk=>?_
 obtain ⟨hk1,hk2⟩:=hk
 refine go ?_;intros
 refine Bg rfl (fun h1=>?_) (fun h1=>?_)
 ·have hh:k < l.length:=by omega
  refine Mg (xs:=l) k ?_
  rintro hi b o e1 s1
  rw [e1]
  refine go ?_;intros
  refine cf (Aea l[k] s1) fun _ _=>?_
  refine Ap ?_
  cases g:Bp l[k]
  ·rw [Alw hh (by unfold okQ;rw [g];rfl)]
   refine go ?_;intros
   refine ret () trivial rfl
  cases up
  ·refine go ?_;intros
   refine Ck (k+1) ⟨hh,fun j hj h=>?_⟩ (by show l.length - (k+1) < l.length - k;omega)
   rcases Nat.lt_or_eq_of_le (Nat.lt_succ_iff.1 hj) with h'|rfl
   ·exact hk2 j h' h
   ·unfold okQ;rw [g];rfl
  ·refine go ?_;intros
   refine Bg rfl (fun h3=>?_) (fun h3=>?_)
   ·rw [Alw hh (by unfold okQ;rw [g,decide_eq_false h3];rfl)]
    refine go ?_;intros
    refine ret () trivial rfl
   ·refine go ?_;intros
    refine Ck (k+1) ⟨hh,fun j hj h=>?_⟩ (by show l.length - (k+1) < l.length - k;omega)
    rcases Nat.lt_or_eq_of_le (Nat.lt_succ_iff.1 hj) with h'|rfl
    ·exact hk2 j h' h
    ·unfold okQ;rw [g,decide_eq_true (by omega)];rfl
 ·obtain rfl:k=l.length:=by omega
  refine go ?_;intros
  refine ret () trivial ?_
  rw [←Ag7,show l.all (okQ up)=true from List.all_eq_true.2 fun p hp=>by obtain ⟨j,hj,rfl⟩:=List.getElem_of_mem hp;exact hk2 j hj hj,Bool.true_and]
  by_cases h6:l.length≤6
  ·rw [decide_eq_true h6,decide_eq_true (by omega)];rfl
  ·rw [decide_eq_false h6,decide_eq_false (by omega)];rfl
theorem Sb (e:Bl) (v:Value) (F:List Nat):Fn prog 106 [v] [.isv Bn v e F] [] (fun (_:Unit)=>True) (fun _=>.bool (Kc e)) (fun _=>[]):=by
 refine enter func106 rfl ntmps106 fun w0=>?_
 refine Ep ?_
 rintro a1 c1 F1 rfl l1
 refine go ?_;intros
 refine Dc rfl rfl (fun h1=>?_) (fun h1=>?_)
 ·refine go ?_;intros
  refine ret () trivial ?_
  unfold Kc
  rw [decide_eq_true h1,Bool.true_and]
  by_cases h:e.Ah.length=0
  ·rw [decide_eq_true h,decide_eq_true (by omega)];rfl
  ·rw [decide_eq_false h,decide_eq_false (by omega)];rfl
 ·refine go ?_;intros
  refine ret () trivial ?_
  unfold Kc
  rw [decide_eq_false h1];rfl
theorem Aqm (p:Av) (hs:p.data.size≤maxLen):Fn prog 165 [.agg #[.int .i64 (p).Df,.int .i64 (p).Ae,.int .i64 (p).Al,.int .i64 (p).Ec,.string (p).data]] [] [] (fun (_:Unit)=>True) (fun _=>.bool (!Bp p)) (fun _=>[]):=by
 refine enter func165 rfl ntmps165 fun w0=>?_
 refine go ?_;intros
 refine cf (R8 p hs) fun _ _=>?_
 refine Ap ?_
 refine go ?_;intros
 refine ret () trivial rfl
theorem Aa6 (l:List Av) (a:Option Addr) (c:Nat) (F:List Nat):Fn prog 103 [.slice a l.length c] [.sl Ak (.slice a l.length c) l F] [] (fun (_:Unit)=>True) (fun _=>.bool (Eo l)) (fun _=>[]):=by
 refine enter func103 rfl ntmps103 fun w0=>?_
 refine Acy (E:=Ak) (fun p:Av=>p.data.size≤maxLen) (fun w cs x F h=>by obtain ⟨_,h,_⟩:=h;exact h) ?_
 intro hz
 refine go ?_;intros
 refine Dc rfl rfl (fun h1=>?_) (fun h1=>?_)
 ·refine go ?_;intros
  refine cb (fun w st=>(Ago 165 [] [] [] rfl l a c F (fun p=>!Bp p) (by kernel_rfl) (by omega) (fun p hp w _=>(Aqm p (hz p hp)).val w (by intro q hq;cases hq))).val w (Il (st.get (p:=.sl Ak (.slice a l.length c) l F) (by exact B8)))) ?_
  refine go ?_;intros
  refine ret () trivial ?_
  unfold Eo
  rw [decide_eq_true (show l.length≤6 by omega),List.not_any_eq_all_not];simp;rfl
 ·refine go ?_;intros
  refine ret () trivial ?_
  unfold Eo
  rw [decide_eq_false (show ¬l.length≤6 by omega)];rfl
theorem Qo (r:Bb) (v:Value) (F:List Nat):Fn prog 107 [v] [.isv B4 v r F] [] (fun (_:Unit)=>True) (fun _=>.bool (Pr r)) (fun _=>[]):=by
 have key:∀b:Bool,(b=(!r.Bh && decide (r.Ai=0) && (decide (r.Aa.next=0) && decide (r.Aa.Ao.length=0) && decide (r.Ar.length=0))))→b=Pr r:=fun b h=>h
 refine enter func107 rfl ntmps107 fun w0=>?_
 refine E8 ?_
 rintro a1 c1 F1 a2 c2 F2 rfl l1 l2
 unfold maxLen at l1 l2
 cases hs:r.Bh <;> rw [hs] at key
 ·refine go ?_;intros
  refine Dc rfl rfl (fun h1=>?_) (fun h1=>?_)
  ·refine go ?_;intros
   refine Dc rfl rfl (fun h2=>?_) (fun h2=>?_)
   ·refine go ?_;intros
    refine Dc rfl rfl (fun h3=>?_) (fun h3=>?_)
    ·refine go ?_;intros
     refine ret () trivial ?_
     rw [←key (decide ((r.Ar.length:Int)=0)) (by simp [h1,h2,show r.Aa.Ao.length=0 by omega])];rfl
    ·refine go ?_;intros
     refine ret () trivial ?_
     rw [←key false (by simp [show ¬r.Aa.Ao=[] from fun e=>h3 (by rw [e];rfl)])];rfl
   ·refine go ?_;intros
    refine ret () trivial ?_
    rw [←key false (by simp [h2])];rfl
  ·refine go ?_;intros
   refine ret () trivial ?_
   rw [←key false (by simp [h1])];rfl
 ·refine go ?_;intros
  refine ret () trivial ?_
  rw [←key false (by simp)];rfl
theorem Aql (p:Av):Fn prog 105 [.agg #[.int .i64 (p).Df,.int .i64 (p).Ae,.int .i64 (p).Al,.int .i64 (p).Ec,.string (p).data]] [] [] (fun (_:Unit)=>True) (fun _=>.bool (!decide (p.Df=3))) (fun _=>[]):=by
 refine enter func105 rfl ntmps105 fun w0=>?_
 refine go ?_;intros
 refine ret () trivial ?_
 rw [←decide_not];rfl
theorem Ao9 (l:List Av):(l.any fun p=>!decide (p.Df=3)) = !Uv l:=by
 unfold Uv;rw [List.not_all_eq_any_not]
theorem Ag1 {α:Type} (l:List α):decide ((l.length:Int)=0)=decide (l.length=0):=by
 by_cases h:l.length=0
 ·rw [decide_eq_true h,decide_eq_true (by omega)]
 ·rw [decide_eq_false h,decide_eq_false (by omega)]
theorem Amh {par:List Int} {clk:Int} {i:Nat} {e:Bl} {r:Bb} {d u:List Av} (h:(Eo d && Eo u && Uv u)=false):Nr par clk i e r d u=false:=by unfold Nr;rw [h];rfl
theorem Aq1 {par:List Int} {clk:Int} {i:Nat} {e:Bl} {r:Bb} {d u:List Av} (h:(Eo d && Eo u && Uv u)=true):Nr par clk i e r d u=(if i=0 then Kc e && Pr r && decide (d.length=0) && decide (u.length=0)
  else if Ev par i then Kc e && Dg r && decide (r.Ai=clk) else Be e && decide (e.Ai=clk) && Pr r):=by unfold Nr;rw [h,Bool.true_and]
theorem Aai (n:D9) (i:Nat) (v:Value) (F:List Nat) (hl:Je n=true) (hi:i < n.Am.Ac.length):Fn prog 45 [v,.int .i64 (i:Nat)] [.isv Le v n F] [] (fun (_:Unit)=>True) (fun _=>.bool (Pf n i)) (fun _=>[]):=by
 obtain ⟨q1,q2,q3,q4⟩:=Bm.1 hl
 rw [Tb (by omega) (by omega) (by omega) (by omega)]
 refine enter func45 rfl ntmps45 fun w0=>?_
 refine Di ?_
 rintro a1 c1 F1 a2 c2 F2 a3 c3 F3 a4 c4 F4 a5 c5 F5 a6 c6 F6 a7 c7 F7 rfl l1 l2 l3 l4 l5 l6 l7
 unfold maxLen at l1 l2 l3 l4 l5 l6 l7
 refine Ju n.Am ?_
 refine O1 (xs:=n.Af) i ?_
 rintro hi4 b4 o4 a8 c8 F8 rfl l8
 refine E7 n.Af[i] ?_
 refine Lj (xs:=n.Ad) i ?_
 rintro hi5 b5 o5 a9 c9 F9 a10 c10 F10 rfl l9 l10
 refine Em n.Ad[i] ?_
 refine Kw (E:=Ak) (hz:=by decide) (xs:=n.down) i ?_
 rintro hi6 b6 o6 a11 c11 F11 rfl l11
 refine Kw (E:=Ak) (hz:=by decide) (xs:=n.up) i ?_
 rintro hi7 b7 o7 a12 c12 F12 rfl l12
 unfold maxLen at l8 l9 l10 l11 l12
 refine go ?_;intros
 refine E6 [1,2,4] [0,1,2,3,4,5,6,7,8,9,10,11,12,13,14,15,16,17,18,19,20] (fun z:Nat × Nat=>[(5,Ez z.1 0 0),(6,Ez z.2 0 0)]) (fun z=>[.row z.1 77 0 [] [.int .i64 n.Af[i].Ai,.slice a8 n.Af[i].Ah.length c8] [],.row z.2 84 0 [] [.bool n.Ad[i].Bh,.int .i64 n.Ad[i].Ai,.int .i64 n.Ad[i].Aa.next,.slice a9 n.Ad[i].Aa.Ao.length c9,.slice a10 n.Ad[i].Ar.length c10] []]) (fun _=>True) ?_ fun z _=>?_
 ·refine As [0,6,10] [] ?_
  refine dt 0 ?_
  refine dt 1 ?_
  refine dt 2 ?_
  refine dt 3 ?_
  refine dt 4 ?_
  refine dt 5 ?_
  refine dt 6 ?_
  refine dt 7 ?_
  refine dt 8 ?_
  refine dt 9 ?_
  refine Ov 10 11 (by kernel_rfl) (by rw [List.getElem?_toArray];rfl) (by rw [List.getElem?_toArray];rfl) ?_ ?_
  ·apply Ce;rfl;intro _
   refine dk ?_
   refine dO 11 (by kernel_rfl) (by rw [List.getElem?_toArray];rfl) ?_
   apply Ce;rfl;intro _
   refine dk ?_
   refine dO 12 (by kernel_rfl) (by rw [List.getElem?_toArray];rfl) ?_
   apply Cs;rfl;rfl;rfl;(first|exact AggC.s|exact OneC.s);rfl;exact Cu;exact Ct;rfl
   refine dk ?_
   refine dO 13 (by kernel_rfl) (by rw [List.getElem?_toArray];rfl) ?_
   apply Cs;rfl;rfl;rfl;(first|exact AggC.s|exact OneC.s);rfl;exact Cu;exact Ct;rfl
   refine dk ?_
   refine dd ?_
   refine Cd ((_,_):Nat × Nat) trivial
  ·apply Ce;rfl;intro _
   refine dk ?_
   refine dO 10 (by kernel_rfl) (by rw [List.getElem?_toArray];rfl) ?_
   apply Ce;rfl;intro _
   refine dk ?_
   refine dO 12 (by kernel_rfl) (by rw [List.getElem?_toArray];rfl) ?_
   apply Cs;rfl;rfl;rfl;(first|exact AggC.s|exact OneC.s);rfl;exact Cu;exact Ct;rfl
   refine dk ?_
   refine dO 13 (by kernel_rfl) (by rw [List.getElem?_toArray];rfl) ?_
   apply Cs;rfl;rfl;rfl;(first|exact AggC.s|exact OneC.s);rfl;exact Cu;exact Ct;rfl
   refine dk ?_
   refine dd ?_
   refine Cd ((_,_):Nat × Nat) trivial
 refine go ?_;intros
 refine cf (Aa6 n.down[i] _ _ F11) fun _ _=>?_
 refine Ap ?_
 cases g1:Eo n.down[i]
 ·rw [Amh (by rw [g1];rfl)]
  refine go ?_;intros
  refine ret () trivial rfl
 refine go ?_;intros
 refine cf (Aa6 n.up[i] _ _ F12) fun _ _=>?_
 refine Ap ?_
 cases g2:Eo n.up[i]
 ·rw [Amh (by rw [g1,g2];rfl)]
  refine go ?_;intros
  refine ret () trivial rfl
 have u6:n.up[i].length≤6:=by
  unfold Eo at g2
  simp only [Bool.and_eq_true,decide_eq_true_eq] at g2
  exact g2.1
 refine go ?_;intros
 refine cb (fun w st=>(Ago 105 [] [] [] rfl n.up[i] a12 c12 F12 (fun p=>!decide (p.Df=3)) (by kernel_rfl) (by omega) (fun p hp w _=>(Aql p).val w (by intro q hq;cases hq))).val w (Il (st.get (p:=.sl Ak (.slice a12 n.up[i].length c12) n.up[i] F12) (by exact B8)))) ?_
 rw [Ao9]
 cases g3:Uv n.up[i]
 ·rw [Amh (by rw [g1,g2,g3];rfl)]
  refine go ?_;intros
  refine ret () trivial rfl
 rw [Aq1 (by rw [g1,g2,g3];rfl)]
 refine go ?_;intros
 refine Bg rfl (fun h0=>?_) (fun h0=>?_)
 ·obtain rfl:i=0:=by omega
  rw [if_pos rfl]
  refine go ?_;intros
  refine cf (Sb n.Af[0] _ F8) fun _ _=>?_
  refine Ap ?_
  cases g4:Kc n.Af[0]
  ·refine go ?_;intros
   refine ret () trivial rfl
  refine go ?_;intros
  refine cf (Qo n.Ad[0] _ (F9++F10)) fun _ _=>?_
  refine Ap ?_
  cases g5:Pr n.Ad[0]
  ·refine go ?_;intros
   refine ret () trivial rfl
  refine go ?_;intros
  refine Dc rfl rfl (fun h6=>?_) (fun h6=>?_)
  ·refine go ?_;intros
   refine ret () trivial ?_
   rw [←Ag1 n.down[0],←Ag1 n.up[0],decide_eq_true h6];rfl
  ·refine go ?_;intros
   refine ret () trivial ?_
   rw [←Ag1 n.down[0],decide_eq_false h6];rfl
 rw [if_neg (by omega)]
 refine go ?_;intros
 refine cf (Vb n.Am i _ F1) fun _ _=>?_
 refine Ap ?_
 cases g6:Ev n.Am.Ac i
 ·rw [if_neg (by decide)]
  refine go ?_;intros
  refine cb (fun w st=>Vx _ n.Af[i] F8 w (st.get (p:=.isv Bn (.agg #[.int .i64 n.Af[i].Ai,.slice a8 n.Af[i].Ah.length c8]) n.Af[i] F8) (by exact B8))) ?_
  cases g4:Be n.Af[i]
  ·refine go ?_;intros
   refine ret () trivial rfl
  refine go ?_;intros
  refine Dc rfl rfl (fun h7=>?_) (fun h7=>?_)
  ·refine go ?_;intros
   refine cf (Qo n.Ad[i] _ (F9++F10)) fun _ _=>?_
   refine Ap ?_
   refine go ?_;intros
   refine ret () trivial ?_
   rw [decide_eq_true h7];rfl
  ·refine go ?_;intros
   refine ret () trivial ?_
   rw [decide_eq_false h7];rfl
 ·rw [if_pos rfl]
  refine go ?_;intros
  refine cf (Sb n.Af[i] _ F8) fun _ _=>?_
  refine Ap ?_
  cases g4:Kc n.Af[i]
  ·refine go ?_;intros
   refine ret () trivial rfl
  refine go ?_;intros
  refine cf (Uy n.Ad[i] _ (F9++F10)) fun _ _=>?_
  refine Ap ?_
  cases g5:Dg n.Ad[i]
  ·refine go ?_;intros
   refine ret () trivial rfl
  refine go ?_;intros
  refine ret () trivial rfl
theorem Mw (n:D9) (v:Value) (F:List Nat):Fn prog 11 [v] [.isv Le v n F] [] (fun (_:Unit)=>True) (fun _=>.bool (Ax n)) (fun _=>[]):=by
 refine enter func11 rfl ntmps11 fun w0=>?_
 refine Di ?_
 rintro a1 c1 F1 a2 c2 F2 a3 c3 F3 a4 c4 F4 a5 c5 F5 a6 c6 F6 a7 c7 F7 rfl l1 l2 l3 l4 l5 l6 l7
 unfold maxLen at l1 l2 l3 l4 l5 l6 l7
 refine Ju n.Am ?_
 refine Dr n.Ab ?_
 refine go ?_;intros
 refine cf (P7 n.Am _ F1) fun _ _=>?_
 refine Ap ?_
 cases g1:Er n.Am
 ·rw [show Ax n=false by unfold Ax;rw [g1];rfl]
  refine go ?_;intros
  refine ret () trivial rfl
 refine go ?_;intros
 refine cf (R9 n.Ab _ (F2++F3)) fun _ _=>?_
 refine Ap ?_
 cases g2:Cc n.Ab
 ·rw [show Ax n=false by unfold Ax;rw [g1,g2];rfl]
  refine go ?_;intros
  refine ret () trivial rfl
 refine go ?_;intros
 refine Dc rfl rfl (fun m0=>?_) (fun m0=>?_)
 ·rw [show Ax n=false by
   have:Je n=false:=by
    cases hl:Je n
    ·rfl
    ·obtain ⟨q1,q2,q3,q4⟩:=Bm.1 hl;exact absurd (by omega) m0
   unfold Ax;rw [this];simp]
  refine go ?_;intros
  refine ret () trivial rfl
 refine go ?_;intros
 refine Dc rfl rfl (fun m1=>?_) (fun m1=>?_)
 ·rw [show Ax n=false by
   have:Je n=false:=by
    cases hl:Je n
    ·rfl
    ·obtain ⟨q1,q2,q3,q4⟩:=Bm.1 hl;exact absurd (by omega) m1
   unfold Ax;rw [this];simp]
  refine go ?_;intros
  refine ret () trivial rfl
 refine go ?_;intros
 refine Dc rfl rfl (fun m2=>?_) (fun m2=>?_)
 ·rw [show Ax n=false by
   have:Je n=false:=by
    cases hl:Je n
    ·rfl
    ·obtain ⟨q1,q2,q3,q4⟩:=Bm.1 hl;exact absurd (by omega) m2
   unfold Ax;rw [this];simp]
  refine go ?_;intros
  refine ret () trivial rfl
 refine go ?_;intros
 refine Bg rfl (fun m3=>?_) (fun m3=>?_)
 ·rw [show Ax n=false by
   have:Je n=false:=by
    cases hl:Je n
    ·rfl
    ·obtain ⟨q1,q2,q3,q4⟩:=Bm.1 hl;exact absurd (by omega) m3
   unfold Ax;rw [this];simp]
  refine go ?_;intros
  refine ret () trivial rfl
 have q1:n.Af.length=n.Am.Ac.length:=by omega
 have q2:n.Ad.length=n.Am.Ac.length:=by omega
 have q3:n.down.length=n.Am.Ac.length:=by omega
 have q4:n.up.length=n.Am.Ac.length:=by omega
 have hl:=Bm.2 ⟨q1,q2,q3,q4⟩
 refine go ?_;intros
 refine Dv [1,2,47] (fun k:Nat=>[(48,.int .i64 (k:Nat))]) (fun k=>k≤n.Am.Ac.length∧∀j,j < k→Pf n j=true) (fun k=>n.Am.Ac.length - k) 0 ⟨Nat.zero_le _,fun j h=>by omega⟩ fun k hk=>?_
 obtain ⟨hk1,hk2⟩:=hk
 refine go ?_;intros
 refine Bg rfl (fun h1=>?_) (fun h1=>?_)
 ·have hh:k < n.Am.Ac.length:=by omega
  refine go ?_;intros
  refine cf (Aai n k _ F hl hh) fun _ _=>?_
  refine Ap ?_
  cases g:Pf n k
  ·rw [Yz hh g]
   refine go ?_;intros
   refine ret () trivial rfl
  refine go ?_;intros
  refine Ck (k+1) ⟨hh,fun j hj=>?_⟩ (by show n.Am.Ac.length - (k+1) < n.Am.Ac.length - k;omega)
  rcases Nat.lt_or_eq_of_le (Nat.lt_succ_iff.1 hj) with h|rfl
  ·exact hk2 j h
  ·exact g
 ·obtain rfl:k=n.Am.Ac.length:=by omega
  refine go ?_;intros
  refine ret () trivial ?_
  rw [So.2 ⟨g1,g2,hl,hk2⟩];rfl
theorem Ahf {par:List Int} {clk:Int} {i:Nat} {e:Bl} {r:Bb} {d u:List Av} (h:(Be e && Dg r && Eo d && (Eo u && Uv u))=false):Nr par clk i e r d u=false:=by rw [←Abn];unfold Acu;rw [h];rfl
theorem Aq2 {par:List Int} {clk:Int} {i:Nat} {e:Bl} {r:Bb} {d u:List Av} (h:(Be e && Dg r && Eo d && (Eo u && Uv u))=true):Nr par clk i e r d u=(if i=0 then Kc e && (!r.Bh && decide (r.Ai=0)) && decide (d.length+u.length=0)
  else if Ev par i then Kc e && decide (r.Ai=clk) else (!r.Bh && decide (r.Ai=0)) && decide (e.Ai=clk)):=by rw [←Abn];unfold Acu;rw [h,Bool.true_and]
theorem Aob (n:D9) (i:Nat) (v:Value) (F:List Nat) (hl:Je n=true) (hi:i < n.Am.Ac.length) (hg:Ml n.Am.Ac):Fn prog 85 [v,.int .i64 (i:Nat)] [.isv Le v n F] [] (fun (_:Unit)=>True) (fun _=>.bool (Pf n i)) (fun _=>[]):=by
 obtain ⟨q1,q2,q3,q4⟩:=Bm.1 hl
 rw [Tb (by omega) (by omega) (by omega) (by omega)]
 refine enter func85 rfl ntmps85 fun w0=>?_
 refine Di ?_
 rintro a1 c1 F1 a2 c2 F2 a3 c3 F3 a4 c4 F4 a5 c5 F5 a6 c6 F6 a7 c7 F7 rfl l1 l2 l3 l4 l5 l6 l7
 unfold maxLen at l1 l2 l3 l4 l5 l6 l7
 refine Ju n.Am ?_
 refine O1 (xs:=n.Af) i ?_
 rintro hi4 b4 o4 a8 c8 F8 rfl l8
 refine E7 n.Af[i] ?_
 refine Lj (xs:=n.Ad) i ?_
 rintro hi5 b5 o5 a9 c9 F9 a10 c10 F10 rfl l9 l10
 refine Em n.Ad[i] ?_
 refine Kw (E:=Ak) (hz:=by decide) (xs:=n.down) i ?_
 rintro hi6 b6 o6 a11 c11 F11 rfl l11
 refine Kw (E:=Ak) (hz:=by decide) (xs:=n.up) i ?_
 rintro hi7 b7 o7 a12 c12 F12 rfl l12
 unfold maxLen at l8 l9 l10 l11 l12
 refine go ?_;intros
 refine E6 [1,2,4] [0,1,2,3,4,5,6,7,8,9,10,11,12,13,14,15,16,17,18,19,20] (fun z:Nat × Nat=>[(5,Ez z.1 0 0),(6,Ez z.2 0 0)]) (fun z=>[.row z.1 77 0 [] [.int .i64 n.Af[i].Ai,.slice a8 n.Af[i].Ah.length c8] [],.row z.2 84 0 [] [.bool n.Ad[i].Bh,.int .i64 n.Ad[i].Ai,.int .i64 n.Ad[i].Aa.next,.slice a9 n.Ad[i].Aa.Ao.length c9,.slice a10 n.Ad[i].Ar.length c10] []]) (fun _=>True) ?_ fun z _=>?_
 ·refine As [0,6,10] [] ?_
  refine dt 0 ?_
  refine dt 1 ?_
  refine dt 2 ?_
  refine dt 3 ?_
  refine dt 4 ?_
  refine dt 5 ?_
  refine dt 6 ?_
  refine dt 7 ?_
  refine dt 8 ?_
  refine dt 9 ?_
  refine Ov 10 11 (by kernel_rfl) (by rw [List.getElem?_toArray];rfl) (by rw [List.getElem?_toArray];rfl) ?_ ?_
  ·apply Ce;rfl;intro _
   refine dk ?_
   refine dO 11 (by kernel_rfl) (by rw [List.getElem?_toArray];rfl) ?_
   apply Ce;rfl;intro _
   refine dk ?_
   refine dO 12 (by kernel_rfl) (by rw [List.getElem?_toArray];rfl) ?_
   apply Cs;rfl;rfl;rfl;(first|exact AggC.s|exact OneC.s);rfl;exact Cu;exact Ct;rfl
   refine dk ?_
   refine dO 13 (by kernel_rfl) (by rw [List.getElem?_toArray];rfl) ?_
   apply Cs;rfl;rfl;rfl;(first|exact AggC.s|exact OneC.s);rfl;exact Cu;exact Ct;rfl
   refine dk ?_
   refine dd ?_
   refine Cd ((_,_):Nat × Nat) trivial
  ·apply Ce;rfl;intro _
   refine dk ?_
   refine dO 10 (by kernel_rfl) (by rw [List.getElem?_toArray];rfl) ?_
   apply Ce;rfl;intro _
   refine dk ?_
   refine dO 12 (by kernel_rfl) (by rw [List.getElem?_toArray];rfl) ?_
   apply Cs;rfl;rfl;rfl;(first|exact AggC.s|exact OneC.s);rfl;exact Cu;exact Ct;rfl
   refine dk ?_
   refine dO 13 (by kernel_rfl) (by rw [List.getElem?_toArray];rfl) ?_
   apply Cs;rfl;rfl;rfl;(first|exact AggC.s|exact OneC.s);rfl;exact Cu;exact Ct;rfl
   refine dk ?_
   refine dd ?_
   refine Cd ((_,_):Nat × Nat) trivial
 refine go ?_;intros
 refine cb (fun w st=>Aix _ n.Af[i] F8 w (st.get (p:=.isv Bn (.agg #[.int .i64 n.Af[i].Ai,.slice a8 n.Af[i].Ah.length c8]) n.Af[i] F8) (by exact B8))) ?_
 cases g1:Be n.Af[i]
 ·rw [Ahf (by rw [g1];rfl)]
  refine go ?_;intros
  refine ret () trivial rfl
 refine go ?_;intros
 refine cf (Aiv n.Ad[i] _ (F9++F10)) fun _ _=>?_
 refine Ap ?_
 cases g2:Dg n.Ad[i]
 ·rw [Ahf (by rw [g1,g2];rfl)]
  refine go ?_;intros
  refine ret () trivial rfl
 refine go ?_;intros
 refine cf (Y9 n.down[i] false _ _ F11 (by omega)) fun _ _=>?_
 refine Ap ?_
 rw [show (Eo n.down[i] && (!false || Uv n.down[i]))=Eo n.down[i] by simp]
 cases g3:Eo n.down[i]
 ·rw [Ahf (by rw [g1,g2,g3];rfl)]
  refine go ?_;intros
  refine ret () trivial rfl
 refine go ?_;intros
 refine cf (Y9 n.up[i] true _ _ F12 (by omega)) fun _ _=>?_
 refine Ap ?_
 rw [show (Eo n.up[i] && (!true || Uv n.up[i]))=(Eo n.up[i] && Uv n.up[i]) by simp]
 cases g4:(Eo n.up[i] && Uv n.up[i])
 ·rw [Ahf (by rw [g1,g2,g3,g4];rfl)]
  refine go ?_;intros
  refine ret () trivial rfl
 rw [Aq2 (by rw [g1,g2,g3,g4];rfl)]
 repeat (first|apply Aar|(apply wO;apply oc;rfl;exact ydE)|apply Ahm|apply Alp|(apply Ape;rfl;rfl)|(apply Apc;rfl;rfl;rfl;rfl)|(apply Apf;rfl;rfl;rfl)|(apply c_t;rfl)|(apply c_f;rfl)|apply Yv|apply X3|apply Ag4)
 refine E6 [1,2,4,5,6] [0,1,2,3,4,5,6,7,8,9,10,11,12,13,14,15,16,17,18,19,20,21,22] (fun _:Unit=>[(7,.bool (Kc n.Af[i]))]) (fun _=>[]) (fun _=>True) ?_ fun _ _=>?_
 ·refine go ?_;intros
  refine Dc rfl rfl (fun h1=>?_) (fun h1=>?_)
  ·refine go ?_;intros
   rw [show decide ((n.Af[i].Ah.length:Int)=0)=Kc n.Af[i] by unfold Kc;rw [decide_eq_true h1,Ag1];rfl]
   refine Cd () trivial
  ·refine go ?_;intros
   rw [show false=Kc n.Af[i] by unfold Kc;rw [decide_eq_false h1];rfl]
   refine Cd () trivial
 repeat (first|apply Aar|(apply wO;apply oc;rfl;exact ydE)|apply Ahm|apply Alp|(apply Ape;rfl;rfl)|(apply Apc;rfl;rfl;rfl;rfl)|(apply Apf;rfl;rfl;rfl)|(apply c_t;rfl)|(apply c_f;rfl)|apply Yv|apply X3|apply Ag4)
 refine E6 [1,2,4,5,6,7] [0,1,2,3,4,5,6,7,8,9,10,11,12,13,14,15,16,17,18,19,20,21,22] (fun _:Unit=>[(8,.bool (!n.Ad[i].Bh && decide (n.Ad[i].Ai=0)))]) (fun _=>[]) (fun _=>True) ?_ fun _ _=>?_
 ·cases hs:n.Ad[i].Bh
  ·refine go ?_;intros
   refine Cd () trivial
  ·refine go ?_;intros
   refine Cd () trivial
 refine Ap ?_
 generalize hzr:(!n.Ad[i].Bh && decide (n.Ad[i].Ai=0))=zr
 refine go ?_;intros
 refine Bg rfl (fun h0=>?_) (fun h0=>?_)
 ·obtain rfl:i=0:=by omega
  rw [if_pos rfl]
  have hd6:(n.down[0].length:Int)+(n.up[0].length:Int)≤12:=by
   unfold Eo at g3 g4
   simp only [Bool.and_eq_true,decide_eq_true_eq] at g3 g4
   omega
  cases hze:Kc n.Af[0] <;> cases zr
  ·refine go ?_;intros
   refine As [2,3,5] [] ?_
   refine dt 0 ?_
   refine dt 1 ?_
   refine ds 2 ?_
   refine dt 3 ?_
   refine dt 4 ?_
   refine ds 5 ?_
   refine ds 6 ?_
   refine ds 7 ?_
   refine ds 8 ?_
   refine ds 9 ?_
   refine ds 10 ?_
   refine ds 11 ?_
   refine ds 12 ?_
   refine ds 13 ?_
   refine ds 14 ?_
   refine ds 15 ?_
   refine ds 16 ?_
   refine dt 17 ?_
   refine dt 18 ?_
   refine dd ?_
   refine go ?_;intros
   refine ret () trivial rfl
  ·refine go ?_;intros
   refine As [2,3,5] [] ?_
   refine dt 0 ?_
   refine dt 1 ?_
   refine ds 2 ?_
   refine dt 3 ?_
   refine dt 4 ?_
   refine ds 5 ?_
   refine ds 6 ?_
   refine ds 7 ?_
   refine ds 8 ?_
   refine ds 9 ?_
   refine ds 10 ?_
   refine ds 11 ?_
   refine ds 12 ?_
   refine ds 13 ?_
   refine ds 14 ?_
   refine ds 15 ?_
   refine ds 16 ?_
   refine dt 17 ?_
   refine dt 18 ?_
   refine dd ?_
   refine go ?_;intros
   refine ret () trivial rfl
  ·refine go ?_;intros
   refine As [2,3,5] [] ?_
   refine dt 0 ?_
   refine dt 1 ?_
   refine Dh 2 ?_
   refine dt 3 ?_
   refine dt 4 ?_
   refine ds 5 ?_
   refine ds 6 ?_
   refine ds 7 ?_
   refine ds 8 ?_
   refine ds 9 ?_
   refine ds 10 ?_
   refine ds 11 ?_
   refine ds 12 ?_
   refine ds 13 ?_
   refine ds 14 ?_
   refine ds 15 ?_
   refine ds 16 ?_
   refine dt 17 ?_
   refine dt 18 ?_
   refine dd ?_
   refine go ?_;intros
   refine ret () trivial rfl
  ·refine go ?_;intros
   refine As [2,3,5] [] ?_
   refine dt 0 ?_
   refine dt 1 ?_
   refine Dh 2 ?_
   refine dt 3 ?_
   refine dt 4 ?_
   refine Dh 5 ?_
   refine Dh 6 ?_
   refine Dh 7 ?_
   refine Dh 8 ?_
   refine Dh 9 ?_
   refine Dh 10 ?_
   refine Dh 11 ?_
   refine Dh 12 ?_
   refine Dh 13 ?_
   refine Dh 14 ?_
   refine Dh 15 ?_
   refine Dh 16 ?_
   refine dt 17 ?_
   refine dt 18 ?_
   refine dd ?_
   refine go ?_;intros
   refine ret () trivial ?_
   rw [show decide ((n.down[0].length:Int)+(n.up[0].length:Int)=0)=decide (n.down[0].length+n.up[0].length=0) by congr 1;rw [eq_iff_iff];omega];rfl
 rw [if_neg (by omega)]
 refine go ?_;intros
 refine cf (Nn n.Am i _ F1 hg (by omega)) fun _ _=>?_
 refine Ap ?_
 cases g6:Ev n.Am.Ac i
 ·rw [if_neg (by decide)]
  cases zr
  ·refine go ?_;intros
   refine ret () trivial rfl
  ·refine go ?_;intros
   refine ret () trivial rfl
 ·rw [if_pos rfl]
  cases hze:Kc n.Af[i]
  ·refine go ?_;intros
   refine ret () trivial rfl
  ·refine go ?_;intros
   refine ret () trivial rfl
theorem Wg (n:D9) (v:Value) (F:List Nat):Fn prog 35 [v] [.isv Le v n F] [] (fun (_:Unit)=>True) (fun _=>.bool (Ax n)) (fun _=>[]):=by
 refine enter func35 rfl ntmps35 fun w0=>?_
 refine Di ?_
 rintro a1 c1 F1 a2 c2 F2 a3 c3 F3 a4 c4 F4 a5 c5 F5 a6 c6 F6 a7 c7 F7 rfl l1 l2 l3 l4 l5 l6 l7
 unfold maxLen at l1 l2 l3 l4 l5 l6 l7
 refine Ju n.Am ?_
 refine Dr n.Ab ?_
 refine go ?_;intros
 refine cf (Za n.Am _ F1) fun _ _=>?_
 refine Ap ?_
 cases g1:Er n.Am
 ·rw [show Ax n=false by unfold Ax;rw [g1];rfl]
  refine go ?_;intros
  refine ret () trivial rfl
 refine go ?_;intros
 refine cf (Aa9 n.Ab _ (F2++F3)) fun _ _=>?_
 refine Ap ?_
 cases g2:Cc n.Ab
 ·rw [show Ax n=false by unfold Ax;rw [g1,g2];rfl]
  refine go ?_;intros
  refine ret () trivial rfl
 refine go ?_;intros
 refine Dc rfl rfl (fun m0=>?_) (fun m0=>?_)
 ·rw [show Ax n=false by
   have:Je n=false:=by
    cases hl:Je n
    ·rfl
    ·obtain ⟨q1,q2,q3,q4⟩:=Bm.1 hl;exact absurd (by omega) m0
   unfold Ax;rw [this];simp]
  refine go ?_;intros
  refine ret () trivial rfl
 refine go ?_;intros
 refine Dc rfl rfl (fun m1=>?_) (fun m1=>?_)
 ·rw [show Ax n=false by
   have:Je n=false:=by
    cases hl:Je n
    ·rfl
    ·obtain ⟨q1,q2,q3,q4⟩:=Bm.1 hl;exact absurd (by omega) m1
   unfold Ax;rw [this];simp]
  refine go ?_;intros
  refine ret () trivial rfl
 refine go ?_;intros
 refine Dc rfl rfl (fun m2=>?_) (fun m2=>?_)
 ·rw [show Ax n=false by
   have:Je n=false:=by
    cases hl:Je n
    ·rfl
    ·obtain ⟨q1,q2,q3,q4⟩:=Bm.1 hl;exact absurd (by omega) m2
   unfold Ax;rw [this];simp]
  refine go ?_;intros
  refine ret () trivial rfl
 refine go ?_;intros
 refine Bg rfl (fun m3=>?_) (fun m3=>?_)
 ·rw [show Ax n=false by
   have:Je n=false:=by
    cases hl:Je n
    ·rfl
    ·obtain ⟨q1,q2,q3,q4⟩:=Bm.1 hl;exact absurd (by omega) m3
   unfold Ax;rw [this];simp]
  refine go ?_;intros
  refine ret () trivial rfl
 have q1:n.Af.length=n.Am.Ac.length:=by omega
 have q2:n.Ad.length=n.Am.Ac.length:=by omega
 have q3:n.down.length=n.Am.Ac.length:=by omega
 have q4:n.up.length=n.Am.Ac.length:=by omega
 have hl:=Bm.2 ⟨q1,q2,q3,q4⟩
 refine go ?_;intros
 refine Dv [1,2,3] (fun k:Nat=>[(4,.int .i64 (k:Nat))]) (fun k=>k≤n.Am.Ac.length∧∀j,j < k→Pf n j=true) (fun k=>n.Am.Ac.length - k) 0 ⟨Nat.zero_le _,fun j h=>by omega⟩ fun k hk=>?_
 obtain ⟨hk1,hk2⟩:=hk
 refine go ?_;intros
 refine Bg rfl (fun h1=>?_) (fun h1=>?_)
 ·have hh:k < n.Am.Ac.length:=by omega
  refine go ?_;intros
  refine cf (Aob n k _ F hl hh (Ff g1)) fun _ _=>?_
  refine Ap ?_
  cases g:Pf n k
  ·rw [Yz hh g]
   refine go ?_;intros
   refine ret () trivial rfl
  refine go ?_;intros
  refine Ck (k+1) ⟨hh,fun j hj=>?_⟩ (by show n.Am.Ac.length - (k+1) < n.Am.Ac.length - k;omega)
  rcases Nat.lt_or_eq_of_le (Nat.lt_succ_iff.1 hj) with h|rfl
  ·exact hk2 j h
  ·exact g
 ·obtain rfl:k=n.Am.Ac.length:=by omega
  refine go ?_;intros
  refine ret () trivial ?_
  rw [So.2 ⟨g1,g2,hl,hk2⟩];rfl
structure V0 where
 cs:List Value
 F:List Nat
 a:Option Addr
 c:Nat
 Fe:List Nat
theorem Vr {n:D9} (hg:Ax n=true) (hc:n.Ab.Ai < 9999):∀k,k+1≤n.Am.Ac.length→(Bc n k).2.length≤40000 * k
 | 0,_=>Nat.le_refl _
 | k+1,hk=>by
  have h:=Vr hg hc k (by omega)
  obtain ⟨hGN,hT,hSrc⟩:=Oe hg hc k (by omega)
  obtain ⟨i1,i2,i3,i4,hrn⟩:=hGN.rn (i:=k+1) (by rw [hT];omega)
  show ((Bc n k).2++(L8 (Bc n k).1 (k+1)).2).length≤_
  rw [List.length_append]
  have:(L8 (Bc n k).1 (k+1)).2.length≤40000:=by
   unfold L8
   split
   ·rename_i hl
    have hgr:=Gg.1 (hrn.hf (by omega) hl).2.1
    obtain ⟨-,hfew⟩:=Wu hgr
    rw [Hp i2]
    show ((Fm _).map _).length≤_
    rw [List.length_map];omega
   ·exact Nat.zero_le _
  omega
theorem Amr {n:D9} {s:Li} {r:D9 × List ByteArray} (hg:Ax n=true) (hs:Ij s=true) (hr:By n s=some r):r.2.length≤400000:=by
 have hG:=A8.1 hg
 have h8:=Ff hG.t
 have hn8:=h8.n1
 have hn2:=h8.n0
 have hck:=Q1 hG.s
 have hr0:=hr
 unfold By at hr
 split at hr
 ·cases hr;exact Nat.zero_le _
 split at hr
 ·split at hr
  ·cases hr
  ·cases hr
   have:=Vr hg (by omega) (n.Am.Ac.length - 1) (by omega)
   show (Bc n (n.Am.Ac.length - 1)).2.length≤_
   omega
 unfold Cy at hr
 split at hr
 ·cases hr
 split at hr
 ·cases hr
 split at hr
 ·rename_i h1 h4 hlt h0 hk
  cases hr
  have hgp:=J8 (s:=s) hg
  have hGp:=A8.1 hgp
  have hf:Pi s.node=true:=by
   have:=hs
   unfold Ij at this
   rw [if_neg h1,if_neg h4] at this
   simp only [Bool.and_eq_true] at this
   exact this.1.2
  obtain ⟨f1,f2⟩:=L0.1 hf
  have hpt:(Gm n s).Am=n.Am:=by unfold Gm;split <;> rfl
  obtain ⟨i1,i2,i3,i4,hrn⟩:=hGp.rn (i:=s.node.toNat) (by rw [hpt];omega)
  unfold Cq
  split
  ·rename_i hl
   have hgr:=Gg.1 (hrn.hf (by omega) hl).2.1
   obtain ⟨d0,d1⟩:=V3 (i:=s.node.toNat)
   have hp:Bp (Kz (Qx n s))=true:=Lz (Ko (s:=s) hg).1 (M8 (by omega))
   have:=(Qn hgr hp d0 d1).2
   rw [Hp i2]
   show ((Gw _ _).map _).length≤_
   rw [List.length_map];omega
  ·exact Nat.zero_le _
 split at hr
 ·cases hr;exact Nat.zero_le _
 ·cases hr;exact Nat.zero_le _
end Go.Proofs.YtaemjogbahcbcaaGreatDoor
