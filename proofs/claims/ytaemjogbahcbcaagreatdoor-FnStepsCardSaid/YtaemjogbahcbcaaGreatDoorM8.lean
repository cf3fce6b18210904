/- Part 8 of the proof: 28 texts, one behind the other. -/
import Derived.Test.YtaemjogbahcbcaaGreatDoorM7
open _root_.Go.Proofs.Tryz
set_option maxRecDepth 100000
set_option maxHeartbeats 8000000
set_option linter.all false
set_option linter.unusedVariables false
set_option linter.unusedSimpArgs false
namespace Go.Proofs.YtaemjogbahcbcaaGreatDoor
open Go.RowKit
theorem Aau {v:Int} (h:0≤v):Lib.itoa v=Lib.decDigits v.natAbs:=by unfold Lib.itoa;rw [if_neg (by omega),show v.toNat=v.natAbs by omega]
theorem An6 (n:Int) (h0:0≤n) (h1:n≤999999) (w:World):Calls prog 217 #[.int .i64 n] w fun e w2=>e=.returned (.string (bz (Lib.itoa n)))∧Below w.heap.size w w2:=by
 have:=App n.toNat (by omega) w
 rw [show ((n.toNat:Nat):Int)=n by omega,show n.toNat=n.natAbs by omega,←Aau h0] at this
 exact this
theorem Zk (i:Nat) (hi:i≤100):Fn prog 144 [.int .i64 (i:Nat)] [] [] (fun (_:Unit)=>True) (fun _=>.int .i64 (J0 i)) (fun _=>[]):=by
 refine enter func144 rfl ntmps144 fun w0=>?_
 refine go ?_;intros
 refine ret () trivial rfl
theorem Qm (i:Nat) (hi:i≤100):Fn prog 160 [.int .i64 (i:Nat)] [] [] (fun (_:Unit)=>True) (fun _=>.int .i64 (J0 i)) (fun _=>[]):=by
 refine enter func160 rfl ntmps160 fun w0=>?_
 refine go ?_;intros
 refine ret () trivial rfl
theorem Akr (i:Nat) (es:List ByteArray) (a:Option Addr) (c:Nat) (F FT:List Nat) (hi:i≤100) (hl:es.length≤1000000) (hz:∀e∈es,e.size≤1000000):Fn prog 145 [.int .i64 (i:Nat),.slice a es.length c] [.sl A6 (.slice a es.length c) es F,Li FT] [] (fun (_:KA)=>True) (fun z=>.slice z.a (Rc i es).length z.c) (fun z=>[.ow A6 9 (.slice z.a (Rc i es).length z.c) (Rc i es) z.F]):=by
 have hs0:(bz (Lib.itoa ((i:Nat):Int))).size≤6:=by rw [Aan,Aau (by omega)];exact Sa 5 _ (by have:(10:Nat) ^ (5+1)=1000000:=rfl;omega)
 refine enter func145 rfl ntmps145 fun w0=>?_
 refine B7 A6 9 ?_
 refine go ?_;intros
 refine Cq [0,4,8,9] (fun z:KA=>[(5,.slice z.a ((es.take z.k).map (Lp i)).length z.c),(10,.int .i64 (z.k:Nat))]) (fun z=>[.ow A6 9 (.slice z.a ((es.take z.k).map (Lp i)).length z.c) ((es.take z.k).map (Lp i)) z.F]) (fun z=>z.k≤es.length) (fun z=>es.length - z.k) ⟨0,none,0,[]⟩ (Nat.zero_le _) fun z hz0=>?_
 have hml:((es.take z.k).map (Lp i)).length=z.k:=by rw [List.length_map,List.length_take];omega
 refine go ?_;intros
 refine Bd rfl (fun h1=>?_) (fun h1=>?_)
 ·have hk:z.k < es.length:=by omega
  have hse:=hz _ (List.getElem_mem hk)
  have z1:(⟨#[32]⟩:ByteArray).size=1:=rfl
  have zs:(bz (Lib.itoa ((i:Nat):Int))++⟨#[32]⟩).size=_:=ByteArray.size_append
  have zt:(bz (Lib.itoa ((i:Nat):Int))++⟨#[32]⟩++es[z.k]).size=_:=ByteArray.size_append
  have hst:((es.take z.k).map (Lp i))++[Lp i es[z.k]]=(es.take (z.k+1)).map (Lp i):=by rw [List.take_succ_eq_append_getElem hk,List.map_append];rfl
  have hte:(Lp i es[z.k]).size≤1000010:=by unfold Lp;omega
  refine Ux (xs:=es) z.k ?_
  rintro hi b o e1 s1
  rw [e1]
  refine go ?_;intros
  refine cb (fun w st=>An5 ((i:Nat):Int) (by omega) (by omega) FT w (st.get (p:=Li FT) (by exact Bw))) ?_
  refine Jq ?_;intros
  apply wO
  refine Lh (ys:=[Lp i es[z.k]]) (Afg (by unfold maxLen;omega)) Du fun a9 c9 F9=>?_
  rw [hst]
  refine go ?_;intros
  refine Co ⟨z.k+1,a9,c9,F9⟩ hk (by show es.length - (z.k+1) < es.length - z.k;omega)
 ·rw [show es.take z.k=es from List.take_of_length_le (by omega)]
  refine go ?_;intros
  refine ret z trivial rfl
theorem Zy (i:Nat) (es:List ByteArray) (a:Option Addr) (c:Nat) (F FT:List Nat) (hi:i≤100) (hl:es.length≤1000000) (hz:∀e∈es,e.size≤1000000):Fn prog 161 [.int .i64 (i:Nat),.slice a es.length c] [.sl A6 (.slice a es.length c) es F,Li FT] [] (fun (_:KA)=>True) (fun z=>.slice z.a (Rc i es).length z.c) (fun z=>[.ow A6 9 (.slice z.a (Rc i es).length z.c) (Rc i es) z.F]):=by
 have hs0:(bz (Lib.itoa ((i:Nat):Int))).size≤6:=by rw [Aan,Aau (by omega)];exact Sa 5 _ (by have:(10:Nat) ^ (5+1)=1000000:=rfl;omega)
 refine enter func161 rfl ntmps161 fun w0=>?_
 refine go ?_;intros
 refine C1 A6 ?_
 refine Cq [0,1,4] (fun z:KA=>[(5,.slice z.a ((es.take z.k).map (Lp i)).length z.c),(6,.int .i64 (z.k:Nat))]) (fun z=>[.ow A6 9 (.slice z.a ((es.take z.k).map (Lp i)).length z.c) ((es.take z.k).map (Lp i)) z.F]) (fun z=>z.k≤es.length) (fun z=>es.length - z.k) ⟨0,_,0,_⟩ (Nat.zero_le _) fun z hz0=>?_
 have hml:((es.take z.k).map (Lp i)).length=z.k:=by rw [List.length_map,List.length_take];omega
 refine go ?_;intros
 refine Bd rfl (fun h1=>?_) (fun h1=>?_)
 ·have hk:z.k < es.length:=by omega
  have hse:=hz _ (List.getElem_mem hk)
  have z1:(⟨#[32]⟩:ByteArray).size=1:=rfl
  have zs:(bz (Lib.itoa ((i:Nat):Int))++⟨#[32]⟩).size=_:=ByteArray.size_append
  have zt:(bz (Lib.itoa ((i:Nat):Int))++⟨#[32]⟩++es[z.k]).size=_:=ByteArray.size_append
  have hst:((es.take z.k).map (Lp i))++[Lp i es[z.k]]=(es.take (z.k+1)).map (Lp i):=by rw [List.take_succ_eq_append_getElem hk,List.map_append];rfl
  have hte:(Lp i es[z.k]).size≤1000010:=by unfold Lp;omega
  refine Ux (xs:=es) z.k ?_
  rintro hi b o e1 s1
  rw [e1]
  refine go ?_;intros
  refine Av [0] [] ?_
  refine dt 0 ?_
  refine dt 1 ?_
  refine dt 4 ?_
  refine dt 5 ?_
  refine dt 6 ?_
  refine dt 7 ?_
  refine dO 2 (by kernel_rfl) (by rw [List.getElem?_toArray];rfl) ?_
  apply At;rfl;kernel_rfl;exact Bb
  refine cb (fun w st=>An6 ((i:Nat):Int) (by omega) (by omega) w) ?_
  refine dk ?_
  refine dt 3 ?_
  refine dt 8 ?_
  refine dO 9 (by kernel_rfl) (by rw [List.getElem?_toArray];rfl) ?_
  apply Hh;rfl;rfl;rfl;rfl;exact Gz;exact Gp;intro _
  refine dk ?_
  refine dO 10 (by kernel_rfl) (by rw [List.getElem?_toArray];rfl) ?_
  refine Lh (ys:=[Lp i es[z.k]]) (Afg (by unfold maxLen;omega)) Du fun a9 c9 F9=>?_
  refine dk ?_
  refine dt 11 ?_
  refine dd ?_
  rw [hst]
  refine go ?_;intros
  refine Co ⟨z.k+1,a9,c9,F9⟩ hk (by show es.length - (z.k+1) < es.length - z.k;omega)
 ·rw [show es.take z.k=es from List.take_of_length_le (by omega)]
  refine go ?_;intros
  refine ret z trivial rfl
theorem Oc (y:A1) (w:World):Cp Ay w [.int .i64 y.Ac,.int .i64 y.Ff,.int .i64 y.By,.int .i64 y.Dc] [y] []:=⟨_,[],[],[],by simp,by simp,⟨rfl,rfl⟩,rfl,rfl⟩
theorem Ah8 (xs:List A1) (y:A1) (i:Nat) (a:Option Addr) (c vb:Nat) (F:List Nat) (hi:i≤xs.length) (hl:xs.length≤1000000) :
  Fn prog 304 [.slice a xs.length c,.int .i64 i,.slice (some ⟨vb,0,none⟩) 1 1] [] [.ow Ay 165 (.slice a xs.length c) xs F,.row vb 165 0 [] [.int .i64 y.Ac,.int .i64 y.Ff,.int .i64 y.By,.int .i64 y.Dc] []] (fun (_:Option Addr × Nat × List Nat)=>True)
   (fun z=>.slice z.1 (xs.take i++y::xs.drop i).length z.2.1) (fun z=>[.ow Ay 165 (.slice z.1 (xs.take i++y::xs.drop i).length z.2.1) (xs.take i++y::xs.drop i) z.2.2]):=by
 have hone:∀w':World,∀cs:List Value,Cp Ay w' cs xs []→∀u∈cs,u.oneCell'=true:=fun w' cs h=>h.one' Ct
 have hy:=Oc y
 have h1y:∀u∈([.int .i64 y.Ac,.int .i64 y.Ff,.int .i64 y.By,.int .i64 y.Dc]:List Value),u.oneCell'=true:=by intro u hu;simp at hu;rcases hu with rfl|rfl|rfl|rfl <;> rfl
 refine enter func304 rfl ntmps304 fun w0=>?_
 refine Aki (E:=Ay) fun hc1 hc2=>?_
 refine go ?_;intros
 apply wO
 refine Aa1 rfl rfl rfl rfl hi (fun _=>?_) hc1
 refine go ?_;intros
 refine Bd rfl (fun h1=>?_) (fun h1=>?_)
 ·have hin:i=xs.length:=by omega
  subst hin
  have e:xs.take xs.length++y::xs.drop xs.length=xs++[y]:=by simp
  refine go ?_;intros
  apply wO
  refine Lh hy Ct fun a2 c2 F2=>?_
  rw [e]
  refine go ?_;intros
  refine ret (a2,c2,F2) trivial rfl
 ·have hlt:i < xs.length:=by omega
  refine Abf (xs:=xs) De (by rintro rfl;simp at hlt) ?_
  rintro g cs rest rfl - - - hcl hcr hfl
  rw [show Ay.sz=4 from rfl] at hcl hcr
  have h1c:=hone w0 cs (hfl w0)
  obtain ⟨A,B,hcs,hA,hB⟩:∃A B,cs=A++B∧A=cs.take (i * 4)∧B=cs.drop (i * 4):=⟨_,_,(List.take_append_drop _ _).symm,rfl,rfl⟩
  have hAl:A.length=i * 4:=by rw [hA,List.length_take];omega
  have hBl:B.length=(xs.length - i) * 4:=by rw [hB,List.length_drop];omega
  have hins:∀w,Cp Ay w (A++[.int .i64 y.Ac,.int .i64 y.Ff,.int .i64 y.By,.int .i64 y.Dc]++B) (xs.take i++y::xs.drop i) []:=fun w=>by rw [hA,hB];exact (hfl w).insL (hy w) i hi
  have h1A:∀u∈A,u.oneCell'=true:=fun u hu=>h1c u (by rw [hcs];simp [hu])
  have h1B:∀u∈B,u.oneCell'=true:=fun u hu=>h1c u (by rw [hcs];simp [hu])
  have hlen:(xs.take i++y::xs.drop i).length=xs.length+1:=by simp;omega
  clear hA hB hfl hone
  subst hcs
  have eA:A=((A++B++rest).drop 0).take (i * 4):=by rw [List.drop_zero,List.append_assoc,List.take_left' hAl]
  have eB:B=((A++B++rest).drop (0+i * 4)).take ((xs.length - i) * 4):=by rw [Nat.zero_add,List.append_assoc,List.drop_left' hAl,List.take_left' hBl]
  rw [hlen]
  refine go ?_;intros
  apply wO;apply oc;rfl;exact Aer rfl
  refine go ?_;intros
  refine Bd rfl (fun h2=>?_) (fun h2=>?_)
  ·refine go ?_;intros
   apply wO;apply oc;rfl;exact Lt (i:=i) rfl rfl rfl (by omega) (by omega)
   refine go ?_;intros
   apply wO
   refine Ad6 (k:=xs.length+1 - i) (olds:=A) rfl rfl rfl (by omega) (Jt (m:=i * 4) (.head _) eA) (by omega) (by decide) (by omega) (by omega) (by omega) (by omega) fun g' cp' Z rest' h3 h4 h5 h6=>?_
   rw [show i+(xs.length+1 - i)=xs.length+1 by omega] at h3 ⊢
   obtain ⟨Z1,Z2,rfl,hZ1,hZ2⟩:∃Z1 Z2,Z=Z1++Z2∧Z1.length=4∧Z2.length=B.length:=⟨Z.take 4,Z.drop 4,(List.take_append_drop _ _).symm,by rw [List.length_take];omega,by rw [List.length_drop];omega⟩
   refine go ?_;intros
   apply wO;apply oc;rfl;exact Ih (i:=i) rfl rfl rfl (by omega) (by omega) (by omega)
   refine go ?_;intros
   apply wO
   refine Q5 (cs:=[.int .i64 y.Ac,.int .i64 y.Ff,.int .i64 y.By,.int .i64 y.Dc]) (L':=A++[.int .i64 y.Ac,.int .i64 y.Ff,.int .i64 y.By,.int .i64 y.Dc]++(Z2++rest')) rfl rfl rfl (Jt (L:=[.int .i64 y.Ac,.int .i64 y.Ff,.int .i64 y.By,.int .i64 y.Dc]) (o:=0) (m:=4) (by exact Bw) rfl) .here (Wh (M:=Z1) (by simp [List.append_assoc]) (by omega) (by simpa using hZ1)) (by show 4=min 1 (xs.length+1 - i) * 4;omega) (by simp only [List.length_append,List.length_cons,List.length_nil];omega) h1y ?_
   refine go ?_;intros
   refine Av [] [] ?_
   refine dt 0 ?_
   refine dt 1 ?_
   refine dt 2 ?_
   refine dt 3 ?_
   refine dt 4 ?_ (hy:=Ih (i:=i+1) rfl rfl (by omega) (by omega) (by omega) (by omega))
   refine dt 5 ?_
   refine dt 6 ?_
   refine dt 7 ?_ (hy:=Ih (i:=i) rfl rfl (by omega) (by omega) (by omega) (by omega))
   refine dO 8 (by kernel_rfl) (by rw [List.getElem?_toArray];rfl) ?_
   refine Q5 (cs:=B) (L':=A++[.int .i64 y.Ac,.int .i64 y.Ff,.int .i64 y.By,.int .i64 y.Dc]++B++rest') rfl rfl rfl (Jt (by exact Bw) eB) .here (Wh (P:=A++[.int .i64 y.Ac,.int .i64 y.Ff,.int .i64 y.By,.int .i64 y.Dc]) (M:=Z2) (by simp [List.append_assoc]) (by simp only [List.length_append,List.length_cons,List.length_nil];omega) hZ2) (by rw [hBl];congr 1;show _=min (xs.length - i) (xs.length+1 - (i+1));omega) (by simp only [List.length_append,List.length_cons,List.length_nil];omega) h1B ?_
   refine dk ?_
   refine dd ?_
   refine Vn (cs:=A++[.int .i64 y.Ac,.int .i64 y.Ff,.int .i64 y.By,.int .i64 y.Dc]++B) (rest:=rest') (xs:=xs.take i++y::xs.drop i) cp' rfl hins (by omega) h4 (by rw [show Ay.sz=4 from rfl];simp only [List.length_append,List.length_cons,List.length_nil] at h6 ⊢;omega) ?_
   rw [hlen]
   refine go ?_;intros
   refine ret (_,cp',[g']) trivial rfl
  ·have hcx:xs.length+1≤c:=by omega
   obtain ⟨X,Y,hXY,hX,hY⟩:=Aeh (B:=B) (R:=rest) 4 (by omega)
   refine go ?_;intros
   apply wO;apply oc;rfl;exact Lt (i:=xs.length+1) rfl rfl (by omega) (by omega) (by omega)
   refine go ?_;intros
   apply wO;apply oc;rfl;exact Ih (i:=i+1) rfl rfl (by omega) (by omega) (by omega) (by omega)
   refine Jq ?_;intros
   apply wO
   refine Ajk rfl Bb (ovl (tS:=82) (tR:=4) (run_callFunc_extern func310 (by kernel_rfl) (by kernel_rfl) (by kernel_rfl) (e:=Extern.SlicesOverlaps.overlaps #[82,82] #[4]) (by kernel_rfl)) (.there .here) (.head _) (by intro e;have:=congrArg List.length e;simp only [List.length_append,List.length_nil] at this;omega)) ?_
   refine go ?_;intros
   refine Av [] [] ?_
   refine dt 0 ?_
   refine dt 1 ?_
   refine dt 2 ?_
   refine dt 3 ?_
   refine dt 4 ?_ (hy:=Ih (i:=i+1) rfl rfl (by omega) (by omega) (by omega) (by omega))
   refine dt 5 ?_
   refine dt 6 ?_
   refine dt 7 ?_ (hy:=Ih (i:=i) rfl rfl (by omega) (by omega) (by omega) (by omega))
   refine dO 8 (by kernel_rfl) (by rw [List.getElem?_toArray];rfl) ?_
   refine Q5 (cs:=B) (L':=A++X++B++rest.drop 4) rfl rfl rfl (Jt (by exact Bw) eB) .here (Wh (P:=A++X) (M:=Y) (by rw [List.append_assoc A B rest,hXY];simp [List.append_assoc]) (by simp only [List.length_append];omega) hY) (by rw [hBl];congr 1;show _=min (xs.length+1 - i) (xs.length+1 - (i+1));omega) (by simp only [List.length_append];omega) h1B ?_
   refine dk ?_
   refine dd ?_
   refine go ?_;intros
   apply wO;apply oc;rfl;exact Ih (i:=i) rfl rfl rfl (by omega) (by omega) (by omega)
   refine go ?_;intros
   apply wO
   refine Q5 (cs:=[.int .i64 y.Ac,.int .i64 y.Ff,.int .i64 y.By,.int .i64 y.Dc]) (L':=A++[.int .i64 y.Ac,.int .i64 y.Ff,.int .i64 y.By,.int .i64 y.Dc]++(B++rest.drop 4)) rfl rfl rfl (Jt (L:=[.int .i64 y.Ac,.int .i64 y.Ff,.int .i64 y.By,.int .i64 y.Dc]) (o:=0) (m:=4) (by exact Bw) rfl) .here (Wh (M:=X) (by simp [List.append_assoc]) (by omega) (by simpa using hX)) (by show 4=min 1 (xs.length+1 - i) * 4;omega) (by simp only [List.length_append,List.length_cons,List.length_nil];omega) h1y ?_
   refine go ?_;intros
   refine Vn (L:=A++[.int .i64 y.Ac,.int .i64 y.Ff,.int .i64 y.By,.int .i64 y.Dc]++(B++rest.drop 4)) (cs:=A++[.int .i64 y.Ac,.int .i64 y.Ff,.int .i64 y.By,.int .i64 y.Dc]++B) (rest:=rest.drop 4) (xs:=xs.take i++y::xs.drop i) c (by simp [List.append_assoc]) hins (by omega) (by omega) (by rw [show Ay.sz=4 from rfl];simp only [List.length_append,List.length_cons,List.length_nil,List.length_drop];omega) ?_
   rw [hlen]
   refine ret (_,c,[g]) trivial rfl
instance:IntC prog 199 .u64:=⟨underlying199⟩
theorem Afu (fid:FuncId) (caps:List Value) (A:List Pc) (hA:A.all (fun p=>!p.mu)=true) (xs:List A1) (a:Option Addr) (c:Nat) (F:List Nat) (tv:Value) (f:A1→Int) (hm:∀i j (_:i≤j) (hj:j < xs.length),f xs[j] < 0→f (xs[i]'(by omega)) < 0) (hb:Mv prog fid=true) (hl:xs.length≤1000000)
  (hp:∀x∈xs,∀w,Mc A w→Calls prog fid ([.agg #[.int .i64 x.Ac,.int .i64 x.Ff,.int .i64 x.By,.int .i64 x.Dc],tv]++caps).toArray w fun e w'=>e=.returned (.int .i64 (f x))∧Below w.heap.size w w') :
  Fn prog 291 [.slice a xs.length c,tv,.func (.func fid) #[] caps.toArray] (.sl Ay (.slice a xs.length c) xs F::A) [] (fun (_:Unit)=>True) (fun _=>.tuple #[.int .i64 ((xs.takeWhile fun x=>decide (f x < 0)).length:Nat),.bool (Alq f xs[(xs.takeWhile fun x=>decide (f x < 0)).length]?)]) (fun _=>[]):=by
 refine enter func291 rfl ntmps291 (fun w0=>?_) rfl (by simpa [Pc.mu] using hA) .nil
 refine go ?_;intros
 refine Ds [0,1,2,6,7,8] (fun s:Nat × Nat=>[(9,.int .i64 (s.1:Nat)),(10,.int .i64 (s.2:Nat))]) (fun s=>s.1≤s.2∧s.2≤xs.length∧(∀j (_:j < s.1) (h:j < xs.length),f xs[j] < 0)∧(∀j (_:s.2≤j) (h:j < xs.length),¬f xs[j] < 0)) (fun s=>s.2 - s.1) (0,xs.length) ⟨Nat.zero_le _,Nat.le_refl _,fun j h=>by omega,fun j h1 h2=>by omega⟩ fun s hs=>?_
 obtain ⟨i,j⟩:=s
 obtain ⟨h1,h2,h3,h4⟩:=hs
 dsimp only at h1 h2 h3 h4 ⊢
 refine go ?_;intros
 refine Bd rfl (fun h5=>?_) (fun h5=>?_)
 ·have hh:(i+j) / 2 < xs.length:=by omega
  have e2:((i:Int)+(j:Int)) / 2=(((i+j) / 2:Nat):Int):=by omega
  refine go ?_;intros
  apply wO;apply oc;rfl;exact Aes rfl (by omega) (by omega)
  refine go ?_;intros
  apply wO;apply oc;rfl;exact Abm rfl
  rw [e2]
  apply wO;apply oc;rfl;exact Afm rfl (by omega) (by omega)
  generalize hq:(i+j) / 2=q at hh
  refine go ?_;intros
  refine Hb (xs:=xs) q ?_
  rintro hi b o e
  rw [e]
  refine go ?_;intros
  apply wO
  refine Wt rfl rfl hb Bb ?_
  refine cb (fun w st=>hp xs[q] (List.getElem_mem hh) w (fun p hp=>st.on p (by simp [hp]))) ?_
  refine go ?_;intros
  refine Bd rfl (fun h6=>?_) (fun h6=>?_)
  ·refine go ?_;intros
   refine Pn ?_
   refine Co (hH:=Ib _) (q+1,j) ⟨by show q+1≤j;omega,h2,fun k hk h=>hm k q (by have:k < q+1:=hk;omega) hh h6,h4⟩ (by show j - (q+1) < j - i;omega)
  ·refine go ?_;intros
   refine Pn ?_
   refine Co (hH:=Ib _) (i,q) ⟨by show i≤q;omega,by show q≤xs.length;omega,h3,fun k hk h hn=>h6 (hm q k hk h hn)⟩ (by show q - i < j - i;omega)
 ·have hij:i=j:=by omega
  subst hij
  have hk:(xs.takeWhile fun x=>decide (f x < 0)).length=i:=Ru h2 (fun j hj h=>decide_eq_true (h3 j hj h)) (fun h=>decide_eq_false (h4 i (Nat.le_refl _) h))
  rw [hk]
  refine go ?_;intros
  refine Cw rfl rfl (fun h6=>?_) (fun h6=>?_)
  ·have hh:i < xs.length:=by omega
   rw [List.getElem?_eq_getElem hh]
   refine go ?_;intros
   refine Hb (xs:=xs) i ?_
   rintro hi b o e
   rw [e]
   refine go ?_;intros
   apply wO
   refine Wt rfl rfl hb Bb ?_
   refine cb (fun w st=>hp xs[i] (List.getElem_mem hh) w (fun p hp=>st.on p (by simp [hp]))) ?_
   refine go ?_;intros
   refine ret () trivial rfl
  ·rw [List.getElem?_eq_none (by omega)]
   refine go ?_;intros
   refine ret () trivial rfl
theorem Akf {base n:Int} {l:List A1} (hser:∀q∈l,Bx q.Ac=true) (hn:Bx n=true):(l.takeWhile fun x=>decide (gp base x.Ac - gp base n < 0)).length=Dr base l n ∧
  Alq (fun x:A1=>gp base x.Ac - gp base n) l[(l.takeWhile fun x=>decide (gp base x.Ac - gp base n < 0)).length]?=Jv base l n:=by
 have e:(fun x:A1=>decide (gp base x.Ac - gp base n < 0))=fun h=>decide (gp base h.Ac < gp base n):=by
  funext x;rw [decide_eq_decide];omega
 have e1:(l.takeWhile fun x=>decide (gp base x.Ac - gp base n < 0)).length=Dr base l n:=by unfold Dr;rw [e]
 refine ⟨e1,?_⟩
 rw [e1]
 unfold Jv
 cases hq:l[Dr base l n]? with
 | none=>rfl
 | some z =>
  show decide (gp base z.Ac - gp base n=0)=decide (z.Ac=n)
  rw [decide_eq_decide]
  exact ⟨fun h=>Ane (t:=base) (hser z (List.mem_of_getElem? hq)) hn (by omega),fun h=>by rw [h];omega⟩
theorem Api (r:A1) (n t:Int) (gb:Nat) (t0:0≤t) (t1:t≤65535) (n0:0≤n) (n1:n≤65535) (m0:0≤r.Ac) (m1:r.Ac≤65535) :
  Fn prog 292 [.agg #[.int .i64 r.Ac,.int .i64 r.Ff,.int .i64 r.By,.int .i64 r.Dc],.int .i64 n,Eo gb 0 0] [.cel gb 0 [.int .i64 t]] [] (fun (_:Unit)=>True) (fun _=>.int .i64 (gp t r.Ac - gp t n)) (fun _=>[]):=by
 have b1:=Iu t r.Ac
 have b2:=Iu t n
 refine enter func292 rfl ntmps292 fun w0=>?_
 refine go ?_;intros
 refine Av [0,1] [] ?_
 refine dt 0 ?_
 refine dt 1 ?_
 refine dt 2 ?_
 refine dt 4 ?_
 refine dt 5 ?_
 refine dO 3 (by kernel_rfl) (by rw [List.getElem?_toArray];rfl) ?_
 apply At;rfl;kernel_rfl;exact Bb
 refine ce (fun w s=>Lx _ _ _ (by omega) (by omega) (by omega) (by omega)) ?_
 refine dk ?_
 refine dO 6 (by kernel_rfl) (by rw [List.getElem?_toArray];rfl) ?_
 apply At;rfl;kernel_rfl;exact Bb
 refine ce (fun w s=>Lx _ _ _ (by omega) (by omega) (by omega) (by omega)) ?_
 refine dk ?_
 refine dt 7 ?_
 refine dt 8 ?_
 refine dd ?_
 refine go ?_;intros
 refine ret () trivial rfl
theorem Sq (l:List A1) (base n:Int) (a:Option Addr) (c:Nat) (F:List Nat) (hq:I7 l base=true) (hn:Bx n=true) :
  Fn prog 270 [.slice a l.length c,.int .i64 base,.int .i64 n] [.sl Ay (.slice a l.length c) l F] [] (fun (_:Unit)=>True) (fun _=>.tuple #[.int .i64 (Dr base l n:Nat),.bool (Jv base l n)]) (fun _=>[]):=by
 obtain ⟨q1,q2,q3,q4⟩:=Di.1 hq
 have hser:∀q∈l,Bx q.Ac=true:=fun q h=>(Dx.1 (q3 q h)).n
 obtain ⟨b0,b1⟩:=A4.1 q1
 obtain ⟨n0,n1⟩:=A4.1 hn
 obtain ⟨e1,e2⟩:=Akf (base:=base) hser hn
 refine enter func270 rfl ntmps270 fun w0=>?_
 refine go ?_;intros
 rename_i gb
 refine cb (fun w st=>by
  have r1:=st.get (p:=.row gb 3 0 [] [.int .i64 base] []) (by simp)
  have hw:=(st.get (p:=.sl Ay (.slice a l.length c) l F) (by simp)).2
  refine (Afu 292 [Eo gb 0 0] [.cel gb 0 [.int .i64 base]] rfl l a c F (.int .i64 n) (fun r=>gp base r.Ac - gp base n) (fun i j hij hj h=>?_) (by kernel_rfl) (by omega) fun x hx w' hA=>?_).val w ?_
  ·rcases Nat.lt_or_eq_of_le hij with h2|rfl
   ·have:=List.pairwise_iff_getElem.1 q4 i j (by omega) hj h2;omega
   ·exact h
  ·obtain ⟨m0,m1⟩:=A4.1 (hser x hx)
   exact (Api x n base gb b0 b1 n0 n1 m0 m1).val w' hA
  ·intro p hp
   simp only [List.mem_cons,List.not_mem_nil,or_false] at hp
   rcases hp with rfl|rfl
   ·exact st.get (by simp)
   ·exact ⟨by simp,Fb r1⟩) ?_
 rw [e2,e1]
 refine go ?_;intros
 refine ret () trivial rfl
theorem Xw (l:List A1) (base n:Int) (a:Option Addr) (c:Nat) (F:List Nat) (hq:I7 l base=true) (hn:Bx n=true) :
  Fn prog 254 [.slice a l.length c,.int .i64 base,.int .i64 n] [.sl Ay (.slice a l.length c) l F] [] (fun (_:Unit)=>True) (fun _=>.tuple #[.int .i64 (Dr base l n:Nat),.bool (Jv base l n)]) (fun _=>[]):=by
 obtain ⟨q1,q2,q3,q4⟩:=Di.1 hq
 have hser:∀q∈l,Bx q.Ac=true:=fun q h=>(Dx.1 (q3 q h)).n
 obtain ⟨b0,b1⟩:=A4.1 q1
 obtain ⟨n0,n1⟩:=A4.1 hn
 obtain ⟨t1,t2,t3⟩:=Nj (p:=fun r:A1=>decide (gp base r.Ac < gp base n)) (xs:=l)
 have hle:=Ot base l n
 have hb2:=Iu base n
 refine enter func254 rfl ntmps254 fun w0=>?_
 refine go ?_;intros
 refine Cq [0,1,2,6,7] (fun k:Nat=>[(8,.int .i64 (k:Nat))]) (fun _=>[]) (fun k=>k≤Dr base l n) (fun k=>l.length - k) 0 (Nat.zero_le _) fun k hk=>?_
 have leaf:∀h:k < l.length,decide (gp base l[k].Ac < gp base n)=decide (k < Dr base l n):=fun h=>by
  by_cases h2:k < Dr base l n
  ·rw [decide_eq_true h2];exact t2 k h2 h
  ·have e:k=Dr base l n:=by omega
   subst e
   rw [decide_eq_false h2];exact t3 h
 refine go ?_;intros
 refine Cw rfl rfl (fun h4=>?_) (fun h4=>?_)
 ·have hi:k < l.length:=by omega
  refine go ?_;intros
  refine Hb (xs:=l) k ?_
  rintro hi b o e
  rw [e]
  refine go ?_;intros
  obtain ⟨m0,m1⟩:=A4.1 (hser _ (List.getElem_mem hi))
  have hb1:=Iu base l[k].Ac
  refine ce (fun w s=>Hl _ _ _ (by omega) (by omega)) ?_
  refine go ?_;intros
  refine ce (fun w s=>Hl _ _ _ (by omega) (by omega)) ?_
  have lf:=leaf hi
  refine go ?_;intros
  refine Bd rfl (fun h5=>?_) (fun h5=>?_)
  ·have h6:k < Dr base l n:=by rw [decide_eq_true h5] at lf;simpa using lf.symm
   refine go ?_;intros
   refine Co (k+1) (by show k+1≤Dr base l n;omega) (by show l.length - (k+1) < l.length - k;omega)
  ·have h6:k=Dr base l n:=by rw [decide_eq_false h5] at lf;have:¬k < Dr base l n:=by simpa using lf.symm
                             omega
   refine go ?_;intros
   refine Av [0] [] ?_
   refine dt 0 ?_
   refine dt 1 ?_
   refine dt 2 ?_
   refine dt 3 ?_
   refine dt 4 ?_
   rw [decide_eq_true h4]
   refine dt 5 ?_
   refine Dm 6 ?_
   refine Dm 7 ?_
   refine Dm 8 ?_
   refine Dm 9 ?_
   refine Dm 10 ?_
   refine Dm 11 ?_
   refine Dm 12 ?_
   refine dt 13 ?_
   refine dt 14 ?_
   refine dt 15 ?_
   refine dd ?_
   rw [Ps (by omega)]
   subst h6
   refine go ?_;intros
   refine ret () trivial rfl
 ·have h6:k=Dr base l n:=by omega
  refine go ?_;intros
  refine Av [0] [] ?_
  refine dt 0 ?_
  refine dt 1 ?_
  refine dt 2 ?_
  refine dt 3 ?_
  refine dt 4 ?_
  rw [decide_eq_false h4]
  refine dt 5 ?_
  refine ds 6 ?_
  refine ds 7 ?_
  refine ds 8 ?_
  refine ds 9 ?_
  refine ds 10 ?_
  refine ds 11 ?_
  refine ds 12 ?_
  refine dt 13 ?_
  refine dt 14 ?_
  refine dt 15 ?_
  refine dd ?_
  rw [Zg (by omega)]
  subst h6
  refine go ?_;intros
  refine ret () trivial rfl
def Aak (base:Int) (l:List A1) (n u:Int):List A1:=if Jv base l n then [] else Ra base l n u
structure OwR where
 a:Option Addr
 c:Nat
 F:List Nat
theorem Aag (l:List A1) (base n ck d:Int) (a:Option Addr) (c:Nat) (F:List Nat) (hq:I7 l base=true) (hn:Bx n=true) (h8:gp base n < 8) (k0:0≤ck) (k1:ck≤9999) (d0:1≤d) (d1:d≤8) :
  Fn prog 290 [.slice a l.length c,.int .i64 base,.int .i64 n,.int .i64 ck,.int .i64 d] [.sl Ay (.slice a l.length c) l F] [] (fun (_:OwR)=>True) (fun s=>.tuple #[.slice s.a (Aak base l n (ck+d)).length s.c,.bool (!Jv base l n)]) (fun s=>[.ow Ay 165 (.slice s.a (Aak base l n (ck+d)).length s.c) (Aak base l n (ck+d)) s.F]):=by
 have hle:=Ot base l n
 obtain ⟨q1,q2,q3,q4⟩:=Di.1 hq
 have hck:Ig ck=true:=by unfold Ig Gs;simp;omega
 have hdl:Ai4 d=true:=by unfold Ai4 Gs;simp;omega
 refine enter func290 rfl ntmps290 fun w0=>?_
 refine go ?_;intros
 refine cf (Nh l base _ F) fun _ _=>?_
 refine Ao ?_
 rw [hq]
 refine go ?_;intros
 refine ce (fun w s=>Ht _ _) ?_
 rw [hn]
 refine go ?_;intros
 refine ce (fun w s=>Oh _ _) ?_
 rw [hck]
 refine go ?_;intros
 refine cf (Agh d) fun _ _=>?_
 refine Ao ?_
 rw [hdl]
 refine go ?_;intros
 refine cf (Sq l base n a c F hq hn) fun _ _=>?_
 refine Ao ?_
 cases ho:Jv base l n
 ·rw [show Aak base l n (ck+d)=Ra base l n (ck+d) by unfold Aak;rw [ho];rfl]
  have hln:=Ai3 base l n (ck+d)
  refine go ?_;intros
  refine cf (Pd l a c F (by omega)) fun z _=>?_
  refine Ao ?_
  refine go ?_;intros
  refine cf (Ah8 l ⟨n,1,ck+d,0⟩ (Dr base l n) z.1 z.2.1 _ z.2.2 hle (by omega)) fun y _=>?_
  refine Ao ?_
  rw [show l.take (Dr base l n)++(⟨n,1,ck+d,0⟩:A1)::l.drop (Dr base l n)=Ra base l n (ck+d) from rfl]
  refine go ?_;intros
  refine cb (fun w st=>by obtain ⟨Fw, -,hw⟩:=(st.get (p:=.ow Ay 165 (.slice y.1 (Ra base l n (ck+d)).length y.2.1) (Ra base l n (ck+d)) y.2.2) (by simp)).2.read;exact (Nh (Ra base l n (ck+d)) base _ Fw).val w (Ia ⟨by decide,hw⟩)) ?_
  rw [Zt hq hn h8 (by omega) (by omega) ho]
  refine go ?_;intros
  refine ret ⟨_,_,_⟩ trivial rfl
 ·rw [show Aak base l n (ck+d)=[] by unfold Aak;rw [ho];rfl]
  refine go ?_;intros
  refine B7 Ay 165 ?_
  refine ret ⟨none,0,[]⟩ trivial rfl
theorem Ai6 (l:List A1) (base n ck d:Int) (a:Option Addr) (c:Nat) (F:List Nat) (hq:I7 l base=true) (hn:Bx n=true) (k0:0≤ck) (k1:ck≤9999) (d0:1≤d) (d1:d≤8) :
  Fn prog 259 [.slice a l.length c,.int .i64 base,.int .i64 n,.int .i64 ck,.int .i64 d] [.sl Ay (.slice a l.length c) l F] [] (fun (_:OwR)=>True) (fun s=>.slice s.a (Pr base l n (ck+d)).length s.c) (fun s=>[.ow Ay 165 (.slice s.a (Pr base l n (ck+d)).length s.c) (Pr base l n (ck+d)) s.F]):=by
 have hle:=Ot base l n
 obtain ⟨q1,q2,q3,q4⟩:=Di.1 hq
 obtain ⟨b0,b1⟩:=A4.1 q1
 obtain ⟨n0,n1⟩:=A4.1 hn
 have hbd:=Iu base n
 refine enter func259 rfl ntmps259 fun w0=>?_
 refine go ?_;intros
 refine cf (Xw l base n a c F hq hn) fun _ _=>?_
 refine Ao ?_
 cases ho:Jv base l n
 rotate_left
 ·rw [show Pr base l n (ck+d)=l by unfold Pr;rw [ho];rfl]
  refine Jq ?_;intros
  refine C1 Ay ?_
  refine go ?_;intros
  apply wO
  refine Kx Ct De fun a5 c5 F5=>?_
  rw [List.nil_append]
  refine go ?_;intros
  refine ret ⟨_,_,_⟩ trivial rfl
 refine go ?_;intros
 refine ce (fun w s=>Hl _ _ _ (by omega) (by omega)) ?_
 refine go ?_;intros
 refine Bd rfl (fun h4=>?_) (fun h4=>?_)
 ·rw [show Pr base l n (ck+d)=l by unfold Pr;rw [ho,decide_eq_false (show ¬gp base n < 8 by omega)];rfl]
  refine Jq ?_;intros
  refine C1 Ay ?_
  refine go ?_;intros
  apply wO
  refine Kx Ct De fun a5 c5 F5=>?_
  rw [List.nil_append]
  refine go ?_;intros
  refine ret ⟨_,_,_⟩ trivial rfl
 rw [show Pr base l n (ck+d)=Ra base l n (ck+d) by unfold Pr;rw [ho,decide_eq_true (show gp base n < 8 by omega)];rfl]
 refine Qw (E:=Ay) (xs:=l) ?_
 rintro _ _ e8 c0 c1
 cases e8
 refine Afl (E:=Ay) (xs:=l) (Dr base l n) (fun FT=>?_) hle
 obtain ⟨T1,hT1⟩:∃T1,T1=l.take (Dr base l n):=⟨_,rfl⟩
 have hT1l:T1.length=Dr base l n:=by rw [hT1,List.length_take];omega
 rw [←hT1]
 have hAdd:T1++[(⟨n,1,ck+d,0⟩:A1)]++l.drop (Dr base l n)=Ra base l n (ck+d):=by rw [hT1];unfold Ra Apm;simp
 refine go ?_;intros
 refine Av [0,1] [] ?_
 refine dt 1 ?_
 refine dt 2 ?_
 refine dt 3 ?_ (hy:=Lt (i:=T1.length) rfl rfl (by rw [hT1l]) (by omega) (by omega))
 refine dt 5 ?_
 refine dt 8 ?_
 refine dt 9 ?_
 refine Adt 10 (Dr base l n) (fun a6 c6 F6=>?_)
 refine Nn 0 6 (by kernel_rfl) (by rw [List.getElem?_toArray];rfl) (by rw [List.getElem?_toArray];rfl) ?_ ?_
 ·apply Ja;rfl;intro _
  refine C1 Ay ?_
  refine dk ?_
  refine Nn 4 6 (by kernel_rfl) (by rw [List.getElem?_toArray];rfl) (by rw [List.getElem?_toArray];rfl) ?_ ?_
  ·refine Kx (ys:=T1) Ct De fun a7 c7 F7=>?_
   rw [List.nil_append]
   refine dk ?_
   refine dO 6 (by kernel_rfl) (by rw [List.getElem?_toArray];rfl) ?_
   apply Hh;rfl;rfl;rfl;rfl;exact Gz;exact Gp;intro _
   refine dk ?_
   refine dO 7 (by kernel_rfl) (by rw [List.getElem?_toArray];rfl) ?_
   refine Lh (Oc ⟨n,1,ck+d,0⟩) Ct fun a8 c8 F8=>?_
   refine dk ?_
   refine dO 11 (by kernel_rfl) (by rw [List.getElem?_toArray];rfl) ?_
   refine Kx (ys:=l.drop (Dr base l n)) Ct De (h63:=by simp;omega) (hby:=by simp;omega) fun a9 c9 F9=>?_
   refine dk ?_
   refine dt 12 ?_
   refine dd ?_
   rw [hAdd]
   refine go ?_;intros
   refine ret ⟨_,_,_⟩ trivial rfl
  ·apply Hh;rfl;rfl;rfl;rfl;exact Gz;exact Gp;intro _
   refine dk ?_
   refine dO 4 (by kernel_rfl) (by rw [List.getElem?_toArray];rfl) ?_
   refine Kx (ys:=T1) Ct De fun a7 c7 F7=>?_
   rw [List.nil_append]
   refine dk ?_
   refine dO 7 (by kernel_rfl) (by rw [List.getElem?_toArray];rfl) ?_
   refine Lh (Oc ⟨n,1,ck+d,0⟩) Ct fun a8 c8 F8=>?_
   refine dk ?_
   refine dO 11 (by kernel_rfl) (by rw [List.getElem?_toArray];rfl) ?_
   refine Kx (ys:=l.drop (Dr base l n)) Ct De (h63:=by simp;omega) (hby:=by simp;omega) fun a9 c9 F9=>?_
   refine dk ?_
   refine dt 12 ?_
   refine dd ?_
   rw [hAdd]
   refine go ?_;intros
   refine ret ⟨_,_,_⟩ trivial rfl
 ·apply Hh;rfl;rfl;rfl;rfl;exact Gz;exact Gp;intro _
  refine dk ?_
  refine dO 0 (by kernel_rfl) (by rw [List.getElem?_toArray];rfl) ?_
  apply Ja;rfl;intro _
  refine C1 Ay ?_
  refine dk ?_
  refine dO 4 (by kernel_rfl) (by rw [List.getElem?_toArray];rfl) ?_
  refine Kx (ys:=T1) Ct De fun a7 c7 F7=>?_
  rw [List.nil_append]
  refine dk ?_
  refine dO 7 (by kernel_rfl) (by rw [List.getElem?_toArray];rfl) ?_
  refine Lh (Oc ⟨n,1,ck+d,0⟩) Ct fun a8 c8 F8=>?_
  refine dk ?_
  refine dO 11 (by kernel_rfl) (by rw [List.getElem?_toArray];rfl) ?_
  refine Kx (ys:=l.drop (Dr base l n)) Ct De (h63:=by simp;omega) (hby:=by simp;omega) fun a9 c9 F9=>?_
  refine dk ?_
  refine dt 12 ?_
  refine dd ?_
  rw [hAdd]
  refine go ?_;intros
  refine ret ⟨_,_,_⟩ trivial rfl
theorem Uo (l:List A1) (base n ck:Int) (a:Option Addr) (c:Nat) (F:List Nat) (hq:I7 l base=true) (hn:Bx n=true) (k0:0≤ck) (k1:ck≤9999) :
  Fn prog 241 [.slice a l.length c,.int .i64 base,.int .i64 n,.int .i64 ck] [.sl Ay (.slice a l.length c) l F] [] (fun (_:OwR)=>True) (fun s=>.tuple #[.slice s.a (Nm base l n (ck+4)).length s.c,.bool true]) (fun s=>[.ow Ay 165 (.slice s.a (Nm base l n (ck+4)).length s.c) (Nm base l n (ck+4)) s.F]):=by
 have hle:=Ot base l n
 obtain ⟨q1,q2,q3,q4⟩:=Di.1 hq
 have hck:Ig ck=true:=by unfold Ig Gs;simp;omega
 refine enter func241 rfl ntmps241 fun w0=>?_
 refine go ?_;intros
 refine cf (Nh l base _ F) fun _ _=>?_
 refine Ao ?_
 rw [hq]
 refine go ?_;intros
 refine ce (fun w s=>Ht _ _) ?_
 rw [hn]
 refine go ?_;intros
 refine ce (fun w s=>Oh _ _) ?_
 rw [hck]
 refine go ?_;intros
 refine cf (Pd l a c F (by omega)) fun z _=>?_
 refine Ao ?_
 refine go ?_;intros
 refine cb (fun w st=>by obtain ⟨Fw, -,hw⟩:=(st.get (p:=.ow Ay 165 (.slice z.1 (l).length z.2.1) (l) z.2.2) (by simp)).2.read;exact (Sq l base n z.1 z.2.1 Fw hq hn).val w (Ia ⟨by decide,hw⟩)) ?_
 have hcl:=Zi base l n (ck+4)
 cases ho:Jv base l n
 ·rw [Rf ho]
  refine go ?_;intros
  refine ret ⟨_,_,_⟩ trivial rfl
 ·have hlt:=Pt ho
  refine go ?_;intros
  refine Xm (xs:=l) (Dr base l n) ?_ (hi:=hlt)
  rintro hi g A B ha hF hh
  rw [ha]
  refine go ?_;intros
  refine Nc (⟨n,3,ck+4,l[Dr base l n].Dc⟩:A1) hh (fun w=>?_) ?_
  ·rw [Ps hi] at ho
   have e:l[Dr base l n].Ac=n:=by simpa using ho
   rw [e];exact ⟨rfl,rfl⟩
  rw [←Pu ho]
  refine go ?_;intros
  rw [show l.length=(Nm base l n (ck+4)).length from hcl.symm]
  refine ret ⟨_,_,_⟩ trivial rfl
theorem Aax (l:List A1) (base n ck:Int) (a:Option Addr) (c:Nat) (F:List Nat) (hq:I7 l base=true) (hn:Bx n=true) (k0:0≤ck) (k1:ck≤9999) :
  Fn prog 218 [.slice a l.length c,.int .i64 base,.int .i64 n,.int .i64 ck] [.sl Ay (.slice a l.length c) l F] [] (fun (_:OwR)=>True) (fun s=>.slice s.a (Nm base l n (ck+4)).length s.c) (fun s=>[.ow Ay 165 (.slice s.a (Nm base l n (ck+4)).length s.c) (Nm base l n (ck+4)) s.F]):=by
 have hle:=Ot base l n
 obtain ⟨q1,q2,q3,q4⟩:=Di.1 hq
 have hcl:=Zi base l n (ck+4)
 refine enter func218 rfl ntmps218 fun w0=>?_
 refine Jq ?_;intros
 refine C1 Ay ?_
 refine go ?_;intros
 apply wO
 refine Kx Ct De fun a5 c5 F5=>?_
 rw [List.nil_append]
 refine go ?_;intros
 refine cf (Xw l base n a c F hq hn) fun _ _=>?_
 refine Ao ?_
 cases ho:Jv base l n
 ·rw [Rf ho]
  refine go ?_;intros
  refine ret ⟨_,_,_⟩ trivial rfl
 ·have hlt:=Pt ho
  refine go ?_;intros
  refine Hb (xs:=l) (Dr base l n) ?_
  rintro hi b o e
  rw [e]
  refine Xm (xs:=l) (a:=a5) (Dr base l n) ?_ (hi:=hlt)
  rintro hi g A B ha hF hh
  rw [ha]
  refine go ?_;intros
  refine Nc (⟨n,3,ck+4,l[Dr base l n].Dc⟩:A1) hh (fun w=>⟨rfl,rfl⟩) ?_
  rw [←Pu ho]
  refine go ?_;intros
  rw [show l.length=(Nm base l n (ck+4)).length from hcl.symm]
  refine ret ⟨_,_,_⟩ trivial rfl
structure SkS where
 a:Option Addr
 c:Nat
 F:List Nat
 ae:Option Addr
 ce:Nat
 Fe:List Nat
theorem Ak8 (w:Am) (st:Bool) (ck tr:Int) (q:Value) (g t o:Nat) (A B:List Value) (a1:Option Addr) (c1:Nat) (F1:List Nat) (hg:C0 w=true) (ht:Bx tr=true) :
  Fn prog 267 [Eo g o 0,.int .i64 tr] [] [.row g t o A [.bool st,.int .i64 ck,.int .i64 (w).next,.slice a1 (w).An.length c1,q] B,.ow Cc 188 (.slice a1 (w).An.length c1) (w).An F1] (fun (_:SkS)=>True)
   (fun s=>.slice s.ae (L6 w tr).length s.ce) (fun s=>[.row g t o A [.bool st,.int .i64 ck,.int .i64 (Le w tr).next,.slice s.a (Le w tr).An.length s.c,q] B,.ow Cc 188 (.slice s.a (Le w tr).An.length s.c) (Le w tr).An s.F,.ow A6 9 (.slice s.ae (L6 w tr).length s.ce) (L6 w tr) s.Fe]):=by
 obtain ⟨w0_,w1_⟩:=Gc hg
 obtain ⟨t0_,t1_⟩:=A4.1 ht
 obtain ⟨hw8,hit⟩:=I1 hg
 have hgb:=Iu w.next tr
 refine enter func267 rfl ntmps267 fun w0=>?_
 refine go ?_;intros
 refine ce (fun w s=>Km _ _ _ (by omega) (by omega) (by omega) (by omega)) ?_
 cases hb:Pa w.next tr
 ·have e1:Le w tr=w:=by unfold Le;rw [hb];rfl
  have e2:L6 w tr=[]:=by unfold L6;rw [hb];rfl
  rw [e1,e2]
  refine B7 A6 9 ?_
  refine go ?_;intros
  refine ret ⟨_,_,_,_,_,_⟩ trivial rfl
 refine go ?_;intros
 refine ce (fun w s=>Lx _ _ _ (by omega) (by omega) (by omega) (by omega)) ?_
 refine go ?_;intros
 refine Bd rfl (fun h4=>?_) (fun h4=>?_)
 ·have e1:Le w tr=Hg w tr:=by unfold Le;rw [hb,if_pos rfl,if_pos h4]
  have e2:L6 w tr=Hv w tr:=by unfold L6;rw [hb,if_pos rfl,if_pos h4]
  rw [e1,e2]
  refine Afk [.bool st,.int .i64 ck] [.int .i64 w.next,.slice a1 w.An.length c1] [q] ?_
  refine go ?_;intros
  refine cf (Abt w tr g t (o+2) (A++[.bool st,.int .i64 ck]) _ a1 c1 F1 w0_ w1_ t0_ t1_ hw8 hit) fun y hy=>?_
  refine Ao ?_
  obtain ⟨hy1,hy2⟩:=hy
  refine Ys [.bool st,.int .i64 ck] [.int .i64 y.y.next,.slice y.a y.y.An.length y.c] [q] ?_
  rw [show Hg w tr=y.y from hy1.symm,show Hv w tr=y.es from hy2.symm]
  refine go ?_;intros
  refine ret ⟨_,_,_,_,_,_⟩ trivial rfl
 ·have e1:Le w tr=⟨tr,[]⟩:=by unfold Le;rw [hb,if_pos rfl,if_neg h4]
  have e2:L6 w tr=[⟨#[33]⟩]:=by unfold L6;rw [hb,if_pos rfl,if_neg h4]
  rw [e1,e2]
  refine B7 Cc 188 ?_
  refine Jq ?_;intros
  refine Ee (xs:=[(⟨#[33]⟩:ByteArray)]) (Pi _ (by decide)) ?_ (by simp)
  refine go ?_;intros
  refine ret ⟨none,0,[],_,_,_⟩ trivial rfl
structure AwS where
 i:Nat
 a:Option Addr
 c:Nat
 F:List Nat
theorem Aic (x:Am) (l:List A1) (st:Bool) (ck Dy d:Int) (g t o:Nat) (A B:List Value) (a1:Option Addr) (c1:Nat) (F1:List Nat) (a2:Option Addr) (c2:Nat) (F2:List Nat) (hg:C0 x=true) (hq:I7 l x.next=true) (hf:∀q∈l,Gj x q.Ac=false) (hl:Bx Dy=true) (k0:0≤ck) (k1:ck≤9999) (d0:1≤d) (d1:d≤8) :
  Fn prog 269 [Eo g o 0,.int .i64 Dy,.int .i64 d] [] [.row g t o A [.bool st,.int .i64 ck,.int .i64 (x).next,.slice a1 (x).An.length c1,.slice a2 (l).length c2] B,.ow Cc 188 (.slice a1 (x).An.length c1) (x).An F1,.ow Ay 165 (.slice a2 (l).length c2) (l) F2] (fun (_:OwR)=>True)
   (fun _=>.tuple #[]) (fun s=>[.row g t o A [.bool st,.int .i64 ck,.int .i64 (x).next,.slice a1 (x).An.length c1,.slice s.a (Mi x l Dy (ck+d)).length s.c] B,.ow Cc 188 (.slice a1 (x).An.length c1) (x).An F1,.ow Ay 165 (.slice s.a (Mi x l Dy (ck+d)).length s.c) (Mi x l Dy (ck+d)) s.F]):=by
 obtain ⟨w0_,w1_⟩:=Gc hg
 obtain ⟨l0_,l1_⟩:=A4.1 hl
 have hgb:=Iu x.next Dy
 refine enter func269 rfl ntmps269 fun w0=>?_
 refine go ?_;intros
 refine ce (fun w s=>Km _ _ _ (by omega) (by omega) (by omega) (by omega)) ?_
 cases hb:Pa x.next Dy
 ·have e1:Mi x l Dy (ck+d)=l:=by unfold Mi;rw [hb];rfl
  rw [e1]
  refine go ?_;intros
  refine ret ⟨_,_,_⟩ trivial rfl
 obtain ⟨k,hk⟩:∃k,k=Tb x Dy:=⟨_,rfl⟩
 have hk8:k≤8:=by rw [hk];exact Og _ _
 have hkm:((k:Nat):Int)=min (gp x.next Dy) 8:=by rw [hk];unfold Tb;omega
 obtain ⟨N,hN⟩:∃N,N=Ld x k:=⟨_,rfl⟩
 have hNl:N.length≤8:=by have:=Vc x k;rw [hN];omega
 have e1:Mi x l Dy (ck+d)=Ik x.next (ck+d) l N:=by unfold Mi;rw [hb,if_pos rfl,hN,hk]
 rw [e1]
 have Sd:=Ha x.next (min (gp x.next Dy) 8)
 have hgp:gp x.next (Ca x.next (min (gp x.next Dy) 8))=(k:Nat):=by rw [←hkm];unfold gp Ca;omega
 refine go ?_;intros
 refine Av [0] [] ?_
 refine dt 0 ?_
 refine dt 1 ?_
 refine dt 2 ?_
 refine dt 3 ?_
 refine dt 4 ?_
 refine dt 5 ?_
 refine dt 6 ?_
 refine dt 12 ?_
 refine dO 7 (by kernel_rfl) (by rw [List.getElem?_toArray];rfl) ?_
 apply At;rfl;kernel_rfl;exact Bb
 refine ce (fun w s=>Lx _ _ _ (by omega) (by omega) (by omega) (by omega)) ?_
 refine dk ?_
 refine dt 8 ?_
 refine dO 9 (by kernel_rfl) (by rw [List.getElem?_toArray];rfl) ?_
 apply At;rfl;kernel_rfl;exact Bb
 refine ce (fun w s=>N9 _ _ _ (by omega) (by omega)) ?_
 refine dk ?_
 refine dO 10 (by kernel_rfl) (by rw [List.getElem?_toArray];rfl) ?_
 apply At;rfl;kernel_rfl;exact Bb
 refine cfr (fun w st=>by obtain ⟨F9,hF9⟩:=Aoa (st.get (p:=.ow Cc 188 (.slice a1 (x).An.length c1) (x).An F1) (by simp));exact ⟨_,Ia hF9,rfl,Abu x _ k _ F9 w0_ w1_ (by omega) (by omega) hgp⟩) (fun m _=>?_)
 refine dk ?_
 refine dt 11 ?_
 refine dd ?_
 rw [←hN]
 refine Ax (E:=Be) (xs:=N) fun GN=>?_
 refine go ?_;intros
 refine Cq [0,2,6,30,31] (fun s:AwS=>[(32,.int .i64 (s.i:Nat))]) (fun s=>[.row g t o A [.bool st,.int .i64 ck,.int .i64 (x).next,.slice a1 (x).An.length c1,.slice s.a (Ik x.next (ck+d) l (N.take s.i)).length s.c] B,.ow Ay 165 (.slice s.a (Ik x.next (ck+d) l (N.take s.i)).length s.c) (Ik x.next (ck+d) l (N.take s.i)) s.F]) (fun s=>s.i≤N.length) (fun s=>N.length - s.i) ⟨0,a2,c2,F2⟩ (Nat.zero_le _) fun s hs=>?_
 obtain ⟨i,a3,c3,F3⟩:=s
 dsimp only at hs ⊢
 have hall:=Nl (w:=x) (u:=ck+d) (by omega) (by omega) (N.take i) l (fun n hn=>by
  have:=Ns (w:=x) (n:=n) hk8 (by rw [←hN];exact List.mem_of_mem_take hn)
  exact ⟨this.1,this.2.2⟩) hq hf
 have hLs:∀h:i < N.length,Ik x.next (ck+d) l (N.take (i+1))=Pr x.next (Ik x.next (ck+d) l (N.take i)) N[i] (ck+d):=fun h=>Vw h
 generalize hLd:Ik x.next (ck+d) l (N.take i)=L at *
 have hLq:=hall.1
 have hL8:=(Di.1 hLq).2.1
 refine go ?_;intros
 refine Bd rfl (fun h4=>?_) (fun h4=>?_)
 ·have hi:i < N.length:=by omega
  have hni:=Ns (w:=x) (n:=N[i]) hk8 (by rw [←hN];exact List.getElem_mem hi)
  refine Il (xs:=N) i ?_
  rintro hi2 b o2 e
  rw [e]
  refine go ?_;intros
  refine Av [1] [] ?_
  refine dt 0 ?_
  refine dt 1 ?_
  refine dt 2 ?_
  refine dt 3 ?_
  refine dt 4 ?_
  refine dt 5 ?_
  refine dt 6 ?_
  refine dt 7 ?_
  refine dt 8 ?_
  refine dt 9 ?_
  refine dt 10 ?_
  refine dO 11 (by kernel_rfl) (by rw [List.getElem?_toArray];rfl) ?_
  apply At;rfl;kernel_rfl;exact Bb
  refine cfr (fun w st=>by obtain ⟨Fq, -,hq9⟩:=(st.get (p:=.ow Ay 165 (.slice a3 (L).length c3) (L) F3) (by simp)).2.read;exact ⟨[.sl Ay (.slice a3 L.length c3) L Fq],Ia ⟨by decide,hq9⟩,rfl,Aag L x.next N[i] ck d a3 c3 Fq hLq hni.1 hni.2.1 k0 k1 d0 d1⟩) (fun u _=>?_)
  refine dk ?_
  refine dt 12 ?_
  refine dt 13 ?_
  refine dt 14 ?_
  refine dt 15 ?_
  refine dt 16 ?_
  refine dd ?_
  refine go ?_;intros
  cases ho:Jv x.next L N[i]
  ·have eA:Ik x.next (ck+d) l (N.take (i+1))=Aak x.next L N[i] (ck+d):=by rw [hLs hi];unfold Pr Aak;rw [ho,decide_eq_true hni.2.1];rfl
   refine go ?_;intros
   rw [←eA]
   refine Co (⟨i+1,_,_,_⟩:AwS) (by show i+1≤N.length;omega) (by show N.length - (i+1) < N.length - i;omega)
  ·have eA:Ik x.next (ck+d) l (N.take (i+1))=L:=by rw [hLs hi];unfold Pr;rw [ho];rfl
   refine go ?_;intros
   rw [←eA]
   refine Co (⟨i+1,_,_,_⟩:AwS) (by show i+1≤N.length;omega) (by show N.length - (i+1) < N.length - i;omega)
 have hi:i=N.length:=by omega
 subst hi
 rw [List.take_length] at hLd
 rw [hLd]
 refine go ?_;intros
 refine Qv ?_
 refine ret (⟨_,_,_⟩:OwR) trivial rfl
def Y4 (x:Am) (q:A1):Bool:=Pa q.Ac x.next || decide (8≤gp x.next q.Ac) || Gj x q.Ac
theorem Al3 {l:List A1} {x:Am}:(l.filter fun q=>!Y4 x q)=Do l x:=by
 unfold Do Y4
 refine List.filter_congr fun q _=>?_
 have e:decide (8≤gp x.next q.Ac) = !decide (gp x.next q.Ac < 8):=by rw [←decide_not];exact decide_eq_decide.2 (by omega)
 rw [e]
 cases Pa q.Ac x.next <;> cases Gj x q.Ac <;> simp
theorem Al4 (q:A1) (x:Am) (nb gb g o:Nat) (st:Bool) (ck:Int) (qv:Value) (a1:Option Addr) (c1:Nat) (F:List Nat) (w0_:0≤x.next) (w1_:x.next≤65535) (hn:Bx q.Ac=true) :
  Fn prog 268 [.agg #[.int .i64 q.Ac,.int .i64 q.Ff,.int .i64 q.By,.int .i64 q.Dc],Eo nb 0 0,Eo gb 0 0] [.cel nb 0 [.int .i64 x.next],.cel gb 0 [Eo g o 0],.cel g o [.bool st,.int .i64 ck,.int .i64 x.next,.slice a1 x.An.length c1,qv],.isv Bj (.agg #[.int .i64 x.next,.slice a1 x.An.length c1]) x F] [] (fun (_:Unit)=>True) (fun _=>.bool (Y4 x q)) (fun _=>[]):=by
 obtain ⟨n0,n1⟩:=A4.1 hn
 have hgb:=Iu x.next q.Ac
 refine enter func268 rfl ntmps268 fun w0=>?_
 refine go ?_;intros
 cases hb:Pa q.Ac x.next
 rotate_left
 ·rw [show Y4 x q=true by unfold Y4;rw [hb];rfl]
  refine Av [0,1,2,3,4] [] ?_
  refine dt 0 ?_
  refine dt 1 ?_
  refine dt 2 ?_
  refine dO 3 (by kernel_rfl) (by rw [List.getElem?_toArray];rfl) ?_
  apply At;rfl;kernel_rfl;exact Bb
  refine ce (fun w s=>Km _ _ _ (by omega) (by omega) (by omega) (by omega)) ?_
  rw [hb]
  refine dk ?_
  refine dt 4 ?_
  refine ds 5 ?_
  refine ds 6 ?_
  refine ds 7 ?_
  refine ds 8 ?_
  refine ds 9 ?_
  refine dt 10 ?_
  refine dt 11 ?_
  refine ds 12 ?_
  refine ds 13 ?_
  refine ds 14 ?_
  refine ds 15 ?_
  refine ds 16 ?_
  refine ds 17 ?_
  refine ds 18 ?_
  refine dt 19 ?_
  refine dt 20 ?_
  refine dd ?_
  refine go ?_;intros
  refine ret () trivial rfl
 by_cases h8':8≤gp x.next q.Ac
 ·have h8:=decide_eq_true h8'
  rw [show Y4 x q=true by unfold Y4;rw [h8];simp]
  refine Av [0,1,2,3,4] [] ?_
  refine dt 0 ?_
  refine dt 1 ?_
  refine dt 2 ?_
  refine dO 3 (by kernel_rfl) (by rw [List.getElem?_toArray];rfl) ?_
  apply At;rfl;kernel_rfl;exact Bb
  refine ce (fun w s=>Km _ _ _ (by omega) (by omega) (by omega) (by omega)) ?_
  rw [hb]
  refine dk ?_
  refine dt 4 ?_
  refine Dm 5 ?_
  refine Dm 6 ?_
  refine Dm 7 ?_
  refine Xg 8 ?_
  apply On.h
  apply At;rfl;kernel_rfl;exact Bb
  refine ce (fun w s=>Lx _ _ _ (by omega) (by omega) (by omega) (by omega)) ?_
  refine dk ?_
  refine Dm 9 ?_
  rw [h8]
  refine dt 10 ?_
  refine dt 11 ?_
  refine ds 12 ?_
  refine ds 13 ?_
  refine ds 14 ?_
  refine ds 15 ?_
  refine ds 16 ?_
  refine ds 17 ?_
  refine ds 18 ?_
  refine dt 19 ?_
  refine dt 20 ?_
  refine dd ?_
  refine go ?_;intros
  refine ret () trivial rfl
 ·have h8:=decide_eq_false h8'
  rw [show Y4 x q=Gj x q.Ac by unfold Y4;rw [hb,h8];rfl]
  refine Av [0,1,2,3,4] [] ?_
  refine dt 0 ?_
  refine dt 1 ?_
  refine dt 2 ?_
  refine dO 3 (by kernel_rfl) (by rw [List.getElem?_toArray];rfl) ?_
  apply At;rfl;kernel_rfl;exact Bb
  refine ce (fun w s=>Km _ _ _ (by omega) (by omega) (by omega) (by omega)) ?_
  rw [hb]
  refine dk ?_
  refine dt 4 ?_
  refine Dm 5 ?_
  refine Dm 6 ?_
  refine Dm 7 ?_
  refine Xg 8 ?_
  apply On.h
  apply At;rfl;kernel_rfl;exact Bb
  refine ce (fun w s=>Lx _ _ _ (by omega) (by omega) (by omega) (by omega)) ?_
  refine dk ?_
  refine Dm 9 ?_
  rw [h8]
  refine dt 10 ?_
  refine dt 11 ?_
  refine Dm 12 ?_
  refine Dm 13 ?_
  refine Dm 14 ?_
  refine Dm 15 ?_
  refine Dm 16 ?_
  refine Dm 17 ?_
  refine Xg 18 ?_
  apply On.h
  apply At;rfl;kernel_rfl;exact Bb
  refine cf (Tz x q.Ac _ F w0_ w1_ n0 n1) fun _ _=>?_
  refine Ao ?_
  refine dk ?_
  refine dt 19 ?_
  refine dt 20 ?_
  refine dd ?_
  refine go ?_;intros
  refine ret () trivial rfl
structure NwS where
 a1:Option Addr
 c1:Nat
 F1:List Nat
 a2:Option Addr
 c2:Nat
 F2:List Nat
 ae:Option Addr
 ce:Nat
 Fe:List Nat
theorem Aai (r:A7) (p:Aw) (d:Int) (g t o:Nat) (A B:List Value) (a1:Option Addr) (c1:Nat) (F1:List Nat) (a2:Option Addr) (c2:Nat) (F2:List Nat) (hg:Ju r) (hp:Bk p=true) (d0:1≤d) (d1:d≤8) :
  Fn prog 240 [Eo g o 0,.agg #[.int .i64 p.Cm,.int .i64 p.Ac,.int .i64 p.Ak,.int .i64 p.Dy,.string p.data],.int .i64 d] [] [.row g t o A [.bool r.Bf,.int .i64 r.Ai,.int .i64 (r.Aa).next,.slice a1 (r.Aa).An.length c1,.slice a2 (r.Ap).length c2] B,.ow Cc 188 (.slice a1 (r.Aa).An.length c1) (r.Aa).An F1,.ow Ay 165 (.slice a2 (r.Ap).length c2) (r.Ap) F2] (fun (_:NwS)=>True)
   (fun s=>.slice s.ae (Jw r p).length s.ce) (fun s=>[.row g t o A [.bool (Ij r p d).Bf,.int .i64 (Ij r p d).Ai,.int .i64 ((Ij r p d).Aa).next,.slice s.a1 ((Ij r p d).Aa).An.length s.c1,.slice s.a2 ((Ij r p d).Ap).length s.c2] B,.ow Cc 188 (.slice s.a1 ((Ij r p d).Aa).An.length s.c1) ((Ij r p d).Aa).An s.F1,.ow Ay 165 (.slice s.a2 ((Ij r p d).Ap).length s.c2) ((Ij r p d).Ap) s.F2,.ow A6 9 (.slice s.ae (Jw r p).length s.ce) (Jw r p) s.Fe]):=by
 have k0:=hg.k0
 have k1:=hg.k1
 obtain ⟨-,q1,q2, -⟩:=Di.1 hg.q
 have hser:∀q∈r.Ap,Bx q.Ac=true:=fun q hq=>(Yh hg hq).1
 obtain ⟨hsg, -⟩:=O6 hg hp
 obtain ⟨htg, -,htl⟩:=Qx hg hp
 obtain ⟨hng,hnq, -,hnl⟩:=Sh hg hp d0 d1 (by omega)
 obtain ⟨s0_,s1_⟩:=Gc hsg
 obtain ⟨v0_,v1_⟩:=Gc hng
 obtain ⟨hw8,hit⟩:=I1 hsg
 obtain ⟨n0,n1⟩:=If hp
 have hp2:=hp
 unfold Bk at hp2
 simp only [Bool.and_eq_true] at hp2
 have htr:Bx p.Ak=true:=hp2.1.1.1.1.2
 have hld:Bx p.Dy=true:=hp2.1.1.1.2
 have hps:p.data.size≤8:=Rk hp2.1.1.2
 refine enter func240 rfl ntmps240 fun w0=>?_
 refine go ?_;intros
 rename_i g3 g4
 refine Ep [2,3,4,6] [0,1,4] (fun _:Unit=>[]) (fun _=>[.row g t o A [.bool true,.int .i64 r.Ai,.int .i64 (Dl r p).next,.slice a1 (Dl r p).An.length c1,.slice a2 r.Ap.length c2] B,.ow Cc 188 (.slice a1 (Dl r p).An.length c1) (Dl r p).An F1]) (fun _=>True) ?_ fun _ _=>?_
 ·cases hs:r.Bf
  ·by_cases hk:p.Cm=5
   ·have e:Dl r p=⟨p.Dy,r.Aa.An⟩:=by unfold Dl;rw [hs,if_pos hk];rfl
    have hkd:decide (p.Cm=5)=true:=decide_eq_true hk
    rw [e]
    refine go ?_;intros
    refine Bd rfl (fun _=>?_) (fun h=>absurd hk h)
    refine go ?_;intros
    refine B6 () trivial
   ·have e:Dl r p=⟨p.Ac,r.Aa.An⟩:=by unfold Dl;rw [hs,if_neg hk];rfl
    rw [e]
    refine go ?_;intros
    refine Bd rfl (fun h=>absurd h hk) (fun _=>?_)
    refine go ?_;intros
    refine B6 () trivial
  ·have e:Dl r p=r.Aa:=by unfold Dl;rw [hs];rfl
   rw [e]
   refine go ?_;intros
   refine B6 () trivial
 refine go ?_;intros
 refine Ep [2,3,4,6] [2,3,4] (fun s:SkS=>[(7,.slice s.ae (In r p).length s.ce)]) (fun s=>[.row g t o A [.bool true,.int .i64 r.Ai,.int .i64 (Eg r p).next,.slice s.a (Eg r p).An.length s.c,.slice a2 r.Ap.length c2] B,.ow Cc 188 (.slice s.a (Eg r p).An.length s.c) (Eg r p).An s.F,.ow A6 9 (.slice s.ae (In r p).length s.ce) (In r p) s.Fe]) (fun _=>True) ?_ fun s _=>?_
 ·by_cases hk:p.Cm=5
  ·have e1:Eg r p=Dl r p:=by unfold Eg;rw [if_pos hk]
   have e2:In r p=[]:=by unfold In;rw [if_pos hk]
   refine Bd rfl (fun h=>absurd hk h) (fun _=>?_)
   rw [e1,e2]
   refine B7 A6 9 ?_
   refine go ?_;intros
   refine B6 (⟨a1,c1,F1,none,0,[]⟩:SkS) trivial
  ·have e1:Eg r p=I6 (Dl r p) p.Ac p.data:=by unfold Eg;rw [if_neg hk]
   have e2:In r p=I5 (Dl r p) p.Ac p.data:=by unfold In;rw [if_neg hk]
   refine Bd rfl (fun _=>?_) (fun h=>absurd hk h)
   rw [e1,e2]
   refine Afk [.bool true,.int .i64 r.Ai] [.int .i64 (Dl r p).next,.slice a1 (Dl r p).An.length c1] [.slice a2 r.Ap.length c2] ?_
   refine go ?_;intros
   refine Av [2,3] [] ?_
   refine dt 0 ?_
   refine dt 1 ?_
   refine dt 2 ?_
   refine dt 3 ?_
   refine dt 4 ?_
   refine dt 5 ?_
   refine dt 6 ?_
   refine dO 7 (by kernel_rfl) (by rw [List.getElem?_toArray];rfl) ?_
   apply At;rfl;kernel_rfl;exact Bb
   refine cf (Aib (Dl r p) p.Ac p.data g t (o+2) (A++[.bool true,.int .i64 r.Ai]) _ a1 c1 F1 s0_ s1_ n0 n1 hw8 hit hps) fun y hy=>?_
   refine Ao ?_
   obtain ⟨hy1,hy2⟩:=hy
   refine dk ?_
   refine dt 8 ?_
   refine dt 9 ?_
   refine dt 10 ?_
   refine dt 11 ?_
   refine dd ?_
   refine Ys [.bool true,.int .i64 r.Ai] [.int .i64 y.y.next,.slice y.a y.y.An.length y.c] [.slice a2 r.Ap.length c2] ?_
   rw [←hy1,←hy2]
   refine go ?_;intros
   refine B6 (⟨_,_,_,_,_,_⟩:SkS) trivial
 obtain ⟨a3,c3,F3,ae,ce,Fe⟩:=s
 dsimp only
 refine go ?_;intros
 refine cf (Ak8 (Eg r p) true r.Ai p.Ak _ g t o A B a3 c3 F3 htg htr) fun y _=>?_
 refine Ao ?_
 have hsl:(L6 (Eg r p) p.Ak).length≤24:=by unfold Jw at hnl;rw [List.length_append] at hnl;omega
 refine Ax (E:=A6) (xs:=L6 (Eg r p) p.Ak) fun G8=>?_
 refine go ?_;intros
 apply wO
 refine Kx (ys:=L6 (Eg r p) p.Ak) Du Fc fun a9 c9 F9=>?_
 rw [show In r p++L6 (Eg r p) p.Ak=Jw r p from rfl,show Le (Eg r p) p.Ak=Ce r p from rfl]
 refine go ?_;intros
 rename_i g11
 refine Av [3,6] [9] ?_
 refine dt 0 ?_
 refine dt 1 ?_
 refine dt 2 ?_
 refine dt 3 ?_
 refine dt 4 ?_
 refine dt 5 ?_
 refine dO 6 (by kernel_rfl) (by rw [List.getElem?_toArray];rfl) ?_
 apply At;rfl;kernel_rfl;exact Bb
 refine cfm (M:=[.ow Ay 165 (.slice a2 r.Ap.length c2) r.Ap F2]) (.cons (by repeat (first|exact .here|apply Cu.there)) .nil) (fun w st=>by
   have r1:=st.on (.row g11 3 0 [] [.int .i64 (Ce r p).next] []) (by simp)
   have r2:=st.on (.row g3 223 0 [] [Eo g o 0] []) (by simp)
   have r3:=st.on (.row g t o A [.bool true,.int .i64 r.Ai,.int .i64 (Ce r p).next,.slice y.a (Ce r p).An.length y.c,.slice a2 r.Ap.length c2] B) (by simp)
   obtain ⟨Fw,hFw,hw⟩:=(st.on (.ow Cc 188 (.slice y.a (Ce r p).An.length y.c) (Ce r p).An y.F) (by simp)).2.read
   refine ⟨[.cel g11 0 [.int .i64 (Ce r p).next],.cel g3 0 [Eo g o 0],.cel g o [.bool true,.int .i64 r.Ai,.int .i64 (Ce r p).next,.slice y.a (Ce r p).An.length y.c,.slice a2 r.Ap.length c2],.isv Bj (.agg #[.int .i64 (Ce r p).next,.slice y.a (Ce r p).An.length y.c]) (Ce r p) Fw],?_,rfl,?_,Abp 268 [] [Eo g11 0 0,Eo g3 0 0] _ rfl r.Ap a2 c2 F2 (fun q=>Y4 (Ce r p) q) (by kernel_rfl) (by omega) (fun q hq w' hA=>(Al4 q (Ce r p) g11 g3 g o true r.Ai _ y.a y.c Fw v0_ v1_ (hser q hq)).val w' hA)⟩
   ·intro q hq
    simp only [List.mem_cons,List.not_mem_nil,or_false] at hq
    rcases hq with rfl|rfl|rfl|rfl
    ·exact ⟨by simp,Fb r1⟩
    ·exact ⟨by simp,Fb r2⟩
    ·exact ⟨by simp,Fb r3⟩
    ·exact ⟨_,rfl,_,rfl,hw⟩
   ·intro q hq b hb
    simp only [List.mem_cons,List.not_mem_nil,or_false] at hq
    rcases hq with rfl|rfl|rfl|rfl
    ·exact ⟨.row g11 3 0 [] [.int .i64 (Ce r p).next] [],by simp,hb⟩
    ·exact ⟨.row g3 223 0 [] [Eo g o 0] [],by simp,hb⟩
    ·exact ⟨.row g t o A [.bool true,.int .i64 r.Ai,.int .i64 (Ce r p).next,.slice y.a (Ce r p).An.length y.c,.slice a2 r.Ap.length c2] B,by simp,hb⟩
    ·exact ⟨.ow Cc 188 (.slice y.a (Ce r p).An.length y.c) (Ce r p).An y.F,by simp,hFw b hb⟩) (fun z _=>?_)
 rw [Al3]
 refine dk ?_
 refine dt 7 ?_
 refine dt 8 ?_
 refine dO 9 (by kernel_rfl) (by rw [List.getElem?_toArray];rfl) ?_
 apply Cf;rfl;rfl;rfl;(first|exact AggC.s|exact OneC.s);rfl;exact Ci;exact Cg;rfl
 refine Lv ?_
 refine dd ?_
 refine go ?_;intros
 refine cf (Aic (Ce r p) (Do r.Ap (Ce r p)) true r.Ai p.Dy d g t o A B y.a y.c y.F z.1 z.2.1 z.2.2 hng hnq L4 hld k0 k1 d0 d1) fun u _=>?_
 refine Ao ?_
 refine go ?_;intros
 refine ret ⟨_,_,_,_,_,_,_,_,_⟩ trivial rfl
structure Ak6 where
 g:Nat
 a:Option Addr
 c:Nat
 F:List Nat
theorem P3 (x:A7) (v:Value) (F:List Nat) (hl:x.Aa.An.length≤1000000000) (hl2:x.Ap.length≤1000000000):Fn prog 119 [v] [.isv Bn v x F] [] (fun (_:Value × List Nat)=>True) (fun s=>s.1) (fun s=>[.own Bt s.1 x s.2]):=by
 refine enter func119 rfl ntmps119 fun w0=>?_
 refine E4 ?_
 rintro a1 c1 F1 a2 c2 F2 rfl l1 l2
 refine go ?_;intros
 refine Ep [1,2] [0,1,2,3,4] (fun s:Ak6=>[(3,Eo s.g 0 0)]) (fun s=>[.row s.g 81 0 [] [.int .i64 x.Aa.next,.slice s.a x.Aa.An.length s.c] [],.ow Cc 188 (.slice s.a x.Aa.An.length s.c) x.Aa.An s.F]) (fun _=>True) ?_ fun s _=>?_
 ·skip
  refine Av [1] [] ?_
  refine dt 0 ?_
  refine dt 1 ?_
  refine dt 2 ?_
  refine dt 4 ?_
  refine dt 5 ?_
  refine dt 6 ?_
  refine Nn 3 9 (by kernel_rfl) (by rw [List.getElem?_toArray];rfl) (by rw [List.getElem?_toArray];rfl) ?_ ?_
  ·apply Ja;rfl;intro _
   refine C1 Cc ?_
   refine dk ?_
   refine Nn 7 9 (by kernel_rfl) (by rw [List.getElem?_toArray];rfl) (by rw [List.getElem?_toArray];rfl) ?_ ?_
   ·refine Kx Gh E8 fun a5 c5 F5=>?_
    rw [List.nil_append]
    refine dk ?_
    refine dt 8 ?_
    refine dO 9 (by kernel_rfl) (by rw [List.getElem?_toArray];rfl) ?_
    apply Bv;rfl;intro _
    refine dk ?_
    refine dO 10 (by kernel_rfl) (by rw [List.getElem?_toArray];rfl) ?_
    apply Cf;rfl;rfl;rfl;(first|exact AggC.s|exact OneC.s);rfl;exact Ci;exact Cg;rfl
    refine dk ?_
    refine dd ?_
    refine B6 (⟨_,_,_,_⟩:Ak6) trivial
   ·apply Bv;rfl;intro _
    refine dk ?_
    refine dO 7 (by kernel_rfl) (by rw [List.getElem?_toArray];rfl) ?_
    refine Kx Gh E8 fun a5 c5 F5=>?_
    rw [List.nil_append]
    refine dk ?_
    refine dt 8 ?_
    refine dO 10 (by kernel_rfl) (by rw [List.getElem?_toArray];rfl) ?_
    apply Cf;rfl;rfl;rfl;(first|exact AggC.s|exact OneC.s);rfl;exact Ci;exact Cg;rfl
    refine dk ?_
    refine dd ?_
    refine B6 (⟨_,_,_,_⟩:Ak6) trivial
  ·apply Bv;rfl;intro _
   refine dk ?_
   refine dO 3 (by kernel_rfl) (by rw [List.getElem?_toArray];rfl) ?_
   apply Ja;rfl;intro _
   refine C1 Cc ?_
   refine dk ?_
   refine dO 7 (by kernel_rfl) (by rw [List.getElem?_toArray];rfl) ?_
   refine Kx Gh E8 fun a5 c5 F5=>?_
   rw [List.nil_append]
   refine dk ?_
   refine dt 8 ?_
   refine dO 10 (by kernel_rfl) (by rw [List.getElem?_toArray];rfl) ?_
   apply Cf;rfl;rfl;rfl;(first|exact AggC.s|exact OneC.s);rfl;exact Ci;exact Cg;rfl
   refine dk ?_
   refine dd ?_
   refine B6 (⟨_,_,_,_⟩:Ak6) trivial
 obtain ⟨g3,a5,c5,F5⟩:=s
 dsimp only
 refine go ?_;intros
 refine Av [0,3] [] ?_
 refine dt 0 ?_
 refine dt 1 ?_
 refine dt 2 ?_
 refine dt 3 ?_
 refine dt 4 ?_
 refine dt 6 ?_
 refine dt 7 ?_
 refine dO 5 (by kernel_rfl) (by rw [List.getElem?_toArray];rfl) ?_
 apply Ja;rfl;intro _
 refine C1 Ay ?_
 refine dk ?_
 refine dO 8 (by kernel_rfl) (by rw [List.getElem?_toArray];rfl) ?_
 refine Kx Ct De fun a6 c6 F6=>?_
 rw [List.nil_append]
 refine dk ?_
 refine dt 9 ?_
 refine dO 10 (by kernel_rfl) (by rw [List.getElem?_toArray];rfl) ?_
 apply Cf;rfl;rfl;rfl;(first|exact AggC.s|exact OneC.s);rfl;exact Ci;exact Cg;rfl
 refine dk ?_
 refine dd ?_
 refine go ?_;intros
 refine I8 x ?_
 refine ret (_,_) trivial rfl
theorem V3 (l:List A1) (w:Am) (a:Option Addr) (c:Nat) (F:List Nat) (v:Value) (Fw:List Nat) (hl:l.length≤1000000) (hs:∀q∈l,Bx q.Ac=true) (w0_:0≤w.next) (w1_:w.next≤65535):Fn prog 216 [.slice a l.length c,v] [.sl Ay (.slice a l.length c) l F,.isv Bj v w Fw] [] (fun (_:Option Addr × Nat × List Nat)=>True) (fun z=>.slice z.1 (Do l w).length z.2.1) (fun z=>[.ow Ay 165 (.slice z.1 (Do l w).length z.2.1) (Do l w) z.2.2]):=by
 refine enter func216 rfl ntmps216 fun w0=>?_
 refine Ck ?_
 rintro a1 c1 F1 rfl l1
 refine go ?_;intros
 refine C1 Ay ?_
 refine Cq [0,3,4] (fun s:PkS=>[(6,.int .i64 (s.k:Nat)),(5,.slice s.a (Do (l.take s.k) w).length s.c)]) (fun s=>[.ow Ay 165 (.slice s.a (Do (l.take s.k) w).length s.c) (Do (l.take s.k) w) s.F]) (fun s=>s.k≤l.length) (fun s=>l.length - s.k) ⟨0,_,_,_⟩ (Nat.zero_le _) fun s hk=>?_
 obtain ⟨k,a4,c4,F4⟩:=s
 dsimp only at hk ⊢
 refine go ?_;intros
 refine Bd rfl (fun h4=>?_) (fun h4=>?_)
 ·have hk:k < l.length:=by omega
  have hkl:(Do (l.take k) w).length≤k:=Nat.le_trans (List.length_filter_le _ _) (by rw [List.length_take];omega)
  have hsk:=hs _ (List.getElem_mem hk)
  obtain ⟨n0,n1⟩:=A4.1 hsk
  have en:∀b,(!(Pa l[k].Ac w.next || Gj w l[k].Ac) && decide (gp w.next l[k].Ac < 8))=b→Do (l.take (k+1)) w=Do (l.take k) w++if b then [l[k]] else []:=fun b hb=>by
   unfold Do
   rw [List.take_add_one,List.getElem?_eq_getElem hk,List.filter_append]
   congr 1
   show ([l[k]].filter _)=_
   rw [List.filter_cons,List.filter_nil,hb]
  refine Hb (xs:=l) k ?_
  rintro hi b o e
  rw [e]
  refine go ?_;intros
  cases g5:(Pa l[k].Ac w.next || Gj w l[k].Ac)
  ·skip
   refine Av [0,2] [] ?_
   refine dt 0 ?_
   refine dt 1 ?_
   refine dt 2 ?_
   refine dt 3 ?_
   refine dt 4 ?_
   refine dt 5 ?_
   refine dO 6 (by kernel_rfl) (by rw [List.getElem?_toArray];rfl) ?_
   apply At;rfl;kernel_rfl;exact Bb
   refine cf (U4 w l[k].Ac _ Fw w0_ w1_ n0 n1) fun _ _=>?_
   refine Ao ?_
   rw [show El w l[k].Ac=(Pa l[k].Ac w.next || Gj w l[k].Ac) from rfl,g5]
   refine dk ?_
   refine dt 7 ?_
   refine dt 8 ?_
   refine Dm 9 ?_
   refine Dm 10 ?_
   refine Dm 11 ?_
   refine Dm 12 ?_
   refine Dm 13 ?_
   refine Dm 14 ?_
   refine Dm 15 ?_
   refine Xg 16 ?_
   apply On.h
   apply At;rfl;kernel_rfl;exact Bb
   refine ce (fun w s=>Hl _ _ _ (by omega) (by omega)) ?_
   refine dk ?_
   refine Dm 17 ?_
   refine dt 18 ?_
   refine dd ?_
   refine go ?_;intros
   refine Bd rfl (fun h6=>?_) (fun h6=>?_)
   ·have e1:=en true (by rw [g5,decide_eq_true h6];rfl)
    refine go ?_;intros
    apply wO
    refine Lh (ys:=[l[k]]) (Kl l[k]) Ct fun a7 c7 F7=>?_
    refine go ?_;intros
    rw [show Do (l.take k) w++[l[k]]=Do (l.take (k+1)) w from e1.symm]
    refine Co (⟨k+1,_,_,_⟩:PkS) (by show k+1≤l.length;omega) (by show l.length - (k+1) < l.length - k;omega)
   ·have e1:=en false (by rw [g5,decide_eq_false h6];rfl)
    refine go ?_;intros
    rw [show Do (l.take k) w=Do (l.take (k+1)) w by rw [e1];simp]
    refine Co (⟨k+1,_,_,_⟩:PkS) (by show k+1≤l.length;omega) (by show l.length - (k+1) < l.length - k;omega)
  ·skip
   refine Av [0,2] [] ?_
   refine dt 0 ?_
   refine dt 1 ?_
   refine dt 2 ?_
   refine dt 3 ?_
   refine dt 4 ?_
   refine dt 5 ?_
   refine dO 6 (by kernel_rfl) (by rw [List.getElem?_toArray];rfl) ?_
   apply At;rfl;kernel_rfl;exact Bb
   refine cf (U4 w l[k].Ac _ Fw w0_ w1_ n0 n1) fun _ _=>?_
   refine Ao ?_
   rw [show El w l[k].Ac=(Pa l[k].Ac w.next || Gj w l[k].Ac) from rfl,g5]
   refine dk ?_
   refine dt 7 ?_
   refine dt 8 ?_
   refine ds 9 ?_
   refine ds 10 ?_
   refine ds 11 ?_
   refine ds 12 ?_
   refine ds 13 ?_
   refine ds 14 ?_
   refine ds 15 ?_
   refine ds 16 ?_
   refine ds 17 ?_
   refine dt 18 ?_
   refine dd ?_
   have e1:=en false (by rw [g5];rfl)
   refine go ?_;intros
   rw [show Do (l.take k) w=Do (l.take (k+1)) w by rw [e1];simp]
   refine Co (⟨k+1,_,_,_⟩:PkS) (by show k+1≤l.length;omega) (by show l.length - (k+1) < l.length - k;omega)
 have hk:k=l.length:=by omega
 subst hk
 rw [List.take_length]
 refine go ?_;intros
 refine ret (_,_,_) trivial rfl
structure GvS where
 g:Nat
 y:Ut
theorem U6 (r:A7) (d:Int) (v:Value) (F:List Nat) (hg:Ju r) (d0:0≤d) (d1:d≤100) (_hx:r.Ai≤99999) :
  Fn prog 159 [v,.int .i64 d] [.isv Bn v r F] [] (fun (_:TkR)=>True) (fun s=>.tuple #[.agg #[.bool (Cn r d).Bf,.int .i64 (Cn r d).Ai,.int .i64 (Cn r d).Aa.next,.slice s.a1 (Cn r d).Aa.An.length s.c1,.slice s.a2 (Cn r d).Ap.length s.c2],.slice s.a3 (D8 r).length s.c3,.slice s.a4 (Ez r).length s.c4])
   (fun s=>[.isv Bn (.agg #[.bool (Cn r d).Bf,.int .i64 (Cn r d).Ai,.int .i64 (Cn r d).Aa.next,.slice s.a1 (Cn r d).Aa.An.length s.c1,.slice s.a2 (Cn r d).Ap.length s.c2]) (Cn r d) s.F1,.ow Al 110 (.slice s.a3 (D8 r).length s.c3) (D8 r) s.F3,.ow A6 9 (.slice s.a4 (Ez r).length s.c4) (Ez r) s.F4]):=by
 have k0:=hg.k0
 have k1:=hg.k1
 obtain ⟨-,q1,q2, -⟩:=Di.1 hg.q
 obtain ⟨w0_,w1_⟩:=Gc hg.w
 obtain ⟨hw8,hit⟩:=I1 hg.w
 have hpl:(r.Ap.filterMap (My (r.Ai+1))).length≤8:=Nat.le_trans (List.length_filterMap_le _ _) q1
 refine enter func159 rfl ntmps159 fun w0=>?_
 refine E4 (v:=v) (x:=r) (F:=F) ?_
 rintro a1 c1 F1 a2 c2 F2 rfl l1 l2
 refine go ?_;intros
 refine cf (P3 r _ F (by omega) (by omega)) fun u _=>?_
 refine Ao ?_
 refine Hm ?_
 rintro a5 c5 F5 a6 c6 F6 e6 - -
 rw [e6]
 refine Ax (E:=Cc) fun G5=>?_
 refine go ?_;intros
 refine cf (Agt r.Ap (r.Ai+1) d a2 c2 F2 (by omega) (fun q hq=>⟨(Dx.1 (q2 q hq)).t0,(Dx.1 (q2 q hq)).t1⟩) (by omega) (by omega) (by omega) (by omega)) fun z _=>?_
 refine Ao ?_
 rw [show r.Ap.filterMap (Po (r.Ai+1))=Cr r from rfl,show r.Ap.filterMap (Pj (r.Ai+1) d)=Kh r d from rfl]
 refine Ax (E:=Be) (xs:=r.Ap.filterMap (My (r.Ai+1))) fun G2=>?_
 refine Ax (E:=Be) (xs:=Cr r) fun G3=>?_
 refine C1 A6 ?_
 refine C1 Al ?_
 refine go ?_;intros
 refine Cq [2,4,5,6,7,9,11,12] (fun s:PkS=>[(13,.int .i64 (s.k:Nat)),(8,.slice s.a (((r.Ap.filterMap (My (r.Ai+1))).take s.k).map (Y9 r.Aa.next)).length s.c)]) (fun s=>[.ow Al 110 (.slice s.a (((r.Ap.filterMap (My (r.Ai+1))).take s.k).map (Y9 r.Aa.next)).length s.c) (((r.Ap.filterMap (My (r.Ai+1))).take s.k).map (Y9 r.Aa.next)) s.F]) (fun s=>s.k≤(r.Ap.filterMap (My (r.Ai+1))).length) (fun s=>(r.Ap.filterMap (My (r.Ai+1))).length - s.k) ⟨0,_,_,_⟩ (Nat.zero_le _) fun s hs=>?_
 obtain ⟨k,a4,c4,F4⟩:=s
 dsimp only at hs ⊢
 generalize hsn:r.Ap.filterMap (My (r.Ai+1))=sn at *
 refine go ?_;intros
 refine Bd rfl (fun h4=>?_) (fun h4=>?_)
 ·have hk:k < sn.length:=by omega
  have hkl:((sn.take k).map (Y9 r.Aa.next)).length≤k:=by simp;omega
  refine Il (xs:=sn) k ?_
  rintro hi b o2 e
  rw [e]
  refine go ?_;intros
  have eo:(sn.take (k+1)).map (Y9 r.Aa.next)=(sn.take k).map (Y9 r.Aa.next)++[Y9 r.Aa.next sn[k]]:=by rw [List.take_add_one,List.getElem?_eq_getElem hk,List.map_append];rfl
  refine Av [0,10] [] ?_
  refine dt 0 ?_
  refine dt 1 ?_
  refine dt 2 ?_
  refine dt 3 ?_
  refine dt 4 ?_
  refine dt 5 ?_
  refine dt 6 ?_
  refine dt 7 ?_
  refine dt 8 ?_
  refine dt 9 ?_
  refine dt 10 ?_
  refine dt 11 ?_
  refine dO 12 (by kernel_rfl) (by rw [List.getElem?_toArray];rfl) ?_
  apply Hh;rfl;rfl;rfl;rfl;exact Gz;exact Gp;intro _
  refine dk ?_
  refine dO 13 (by kernel_rfl) (by rw [List.getElem?_toArray];rfl) ?_
  refine Lh (ys:=[Y9 r.Aa.next sn[k]]) (Cz (Y9 r.Aa.next sn[k]) (by show (0:Nat)≤maxLen;exact Nat.zero_le _)) Gn fun a7 c7 F7=>?_
  refine dk ?_
  refine dt 14 ?_
  refine dd ?_
  refine go ?_;intros
  rw [←eo]
  refine Co (⟨k+1,_,_,_⟩:PkS) (by show k+1≤sn.length;omega) (by show sn.length - (k+1) < sn.length - k;omega)
 have hk:k=sn.length:=by omega
 subst hk
 rw [List.take_length]
 have ep:D8 r=sn.map (Y9 r.Aa.next):=by unfold D8;rw [hsn]
 rw [ep]
 refine go ?_;intros
 by_cases hL:Cr r=[]
 ·refine Bd rfl (fun h=>absurd h (by rw [hL];decide)) (fun _=>?_)
  rw [Yu hL,Adb hL]
  refine go ?_;intros
  refine Ax (E:=Ay) fun F8=>?_
  refine Eh (a1:=a5) ⟨r.Bf,r.Ai+1,r.Aa,Kh r d⟩ ?_
  refine ret ⟨_,_,_,_,_,[],_,_,_,_,_,_⟩ trivial rfl
 ·have hl0:=List.length_pos_iff.2 hL
  refine Bd rfl (fun _=>?_) (fun h=>absurd h (by omega))
  rw [Vq hL,Aaf hL]
  obtain ⟨hs8,hsr⟩:=Wr hg hL
  have hll8:=Yw r
  obtain ⟨hs0,hs1⟩:=A4.1 hsr
  have hll:=Zz hL
  obtain ⟨l0,l1⟩:=A4.1 (Vr hg (List.getElem_mem (show (Cr r).length - 1 < (Cr r).length by omega))).1
  have hi1:((Cr r).length:Int) - 1=(((Cr r).length - 1:Nat):Int):=by omega
  refine B8 (a1:=a5) r.Aa ?_
  generalize G5=FW
  refine Il (xs:=Cr r) ((Cr r).length - 1) ?_
  rintro hi b o2 e
  rw [e]
  refine go ?_;intros
  refine Ep [4,5,6,7,8,9] [2,3,6,7,10,14] (fun s:GvS=>[(15,Eo s.g 0 0),(16,.slice s.y.ae s.y.es.length s.y.ce)]) (fun s=>[.row s.g 81 0 [] [.int .i64 s.y.y.next,.slice s.y.a s.y.y.An.length s.y.c] [],.isv Bj (.agg #[.int .i64 s.y.y.next,.slice s.y.a s.y.y.An.length s.y.c]) s.y.y s.y.F,.ow A6 9 (.slice s.y.ae s.y.es.length s.y.ce) s.y.es s.y.Fe]) (fun s=>s.y.y=Hg r.Aa (C5 (Cr r))∧s.y.es=Hv r.Aa (C5 (Cr r))) ?_ fun s hy=>?_
  ·skip
   refine Av [0,7] [] ?_
   refine dt 0 ?_
   refine dt 1 ?_
   refine dt 2 ?_
   refine dt 3 ?_
   refine dt 4 ?_
   rw [hi1]
   refine dt 5 ?_
   refine dt 6 ?_
   refine Nn 7 12 (by kernel_rfl) (by rw [List.getElem?_toArray];rfl) (by rw [List.getElem?_toArray];rfl) ?_ ?_
   ·apply At;rfl;kernel_rfl;exact Bb
    refine ce (fun w s=>Ex _ _ _ (by omega) (by omega)) ?_
    rw [←hll]
    refine dk ?_
    refine Nn 8 12 (by kernel_rfl) (by rw [List.getElem?_toArray];rfl) (by rw [List.getElem?_toArray];rfl) ?_ ?_
    ·apply At;rfl;kernel_rfl;exact Bb
     refine cf (Pg r.Aa (C5 (Cr r)) _ FW w0_ w1_ hs0 hs1 hw8 hit) fun y hy=>?_
     refine Ao ?_
     refine dk ?_
     refine dt 9 ?_
     refine dt 10 ?_
     refine dt 11 ?_
     refine dO 12 (by kernel_rfl) (by rw [List.getElem?_toArray];rfl) ?_
     apply Bv;rfl;intro _
     refine dk ?_
     refine dO 13 (by kernel_rfl) (by rw [List.getElem?_toArray];rfl) ?_
     apply Cf;rfl;rfl;rfl;(first|exact AggC.s|exact OneC.s);rfl;exact Ci;exact Cg;rfl
     refine dk ?_
     refine dt 14 ?_
     refine dd ?_
     refine B6 (⟨_,y⟩:GvS) hy
    ·apply Bv;rfl;intro _
     refine dk ?_
     refine dO 8 (by kernel_rfl) (by rw [List.getElem?_toArray];rfl) ?_
     apply At;rfl;kernel_rfl;exact Bb
     refine cf (Pg r.Aa (C5 (Cr r)) _ FW w0_ w1_ hs0 hs1 hw8 hit) fun y hy=>?_
     refine Ao ?_
     refine dk ?_
     refine dt 9 ?_
     refine dt 10 ?_
     refine dt 11 ?_
     refine dO 13 (by kernel_rfl) (by rw [List.getElem?_toArray];rfl) ?_
     apply Cf;rfl;rfl;rfl;(first|exact AggC.s|exact OneC.s);rfl;exact Ci;exact Cg;rfl
     refine dk ?_
     refine dt 14 ?_
     refine dd ?_
     refine B6 (⟨_,y⟩:GvS) hy
   ·apply Bv;rfl;intro _
    refine dk ?_
    refine dO 7 (by kernel_rfl) (by rw [List.getElem?_toArray];rfl) ?_
    apply At;rfl;kernel_rfl;exact Bb
    refine ce (fun w s=>Ex _ _ _ (by omega) (by omega)) ?_
    rw [←hll]
    refine dk ?_
    refine dO 8 (by kernel_rfl) (by rw [List.getElem?_toArray];rfl) ?_
    apply At;rfl;kernel_rfl;exact Bb
    refine cf (Pg r.Aa (C5 (Cr r)) _ FW w0_ w1_ hs0 hs1 hw8 hit) fun y hy=>?_
    refine Ao ?_
    refine dk ?_
    refine dt 9 ?_
    refine dt 10 ?_
    refine dt 11 ?_
    refine dO 13 (by kernel_rfl) (by rw [List.getElem?_toArray];rfl) ?_
    apply Cf;rfl;rfl;rfl;(first|exact AggC.s|exact OneC.s);rfl;exact Ci;exact Cg;rfl
    refine dk ?_
    refine dt 14 ?_
    refine dd ?_
    refine B6 (⟨_,y⟩:GvS) hy
  obtain ⟨g15,y⟩:=s
  dsimp only at hy ⊢
  obtain ⟨hy1,hy2⟩:=hy
  have hmv:=P5 (t:=C5 (Cr r)) hg.w
  have hm0:0≤y.y.next:=by rw [hy1,hmv.1];exact (Ha _ _).1
  have hm1:y.y.next≤65535:=by rw [hy1,hmv.1];exact (Ha _ _).2
  have hes:y.es.length≤100:=by rw [hy2];have:=hmv.2.2.1;have:=@Sk r.Aa.next (C5 (Cr r));omega
  refine Ax (E:=A6) (xs:=y.es) fun G8=>?_
  refine go ?_;intros
  apply wO
  refine Kx (ys:=y.es) Du Fc fun a9 c9 F9=>?_
  rw [List.nil_append]
  refine Ax (E:=Ay) (xs:=Kh r d) fun F8=>?_
  refine go ?_;intros
  refine cf (V3 (Kh r d) y.y z.a z.c F8 _ y.F (by have:=Vs r d;omega) (fun q hq=>(Um hg hq).1) hm0 hm1) fun u2 _=>?_
  refine Ao ?_
  rw [hy1,We hg hL,←hy1]
  refine go ?_;intros
  refine Ck (x:=y.y) ?_
  rintro b1 d1 G1 e5 m1
  simp only [Value.agg.injEq,Array.mk.injEq,List.cons.injEq,Value.slice.injEq,true_and,and_true] at e5
  obtain ⟨rfl,rfl⟩:=e5
  refine Ax (E:=Ay) (xs:=Ss (Kh r d) y.y.next) fun F10=>?_
  refine Eh ⟨r.Bf,r.Ai+1,y.y,Ss (Kh r d) y.y.next⟩ ?_
  rw [←hy2]
  refine ret ⟨_,_,_,_,_,[],_,_,_,_,_,_⟩ trivial rfl
def Aht (md:Region.Mode) (ops:Array Oper) (X:Nat→Bool) (listed:Array Bool) (i:Nat):Bool:=(List.range ops.size).all fun j=>!X j || listed.getD j false || Oo md ops i ops.size j
section
variable {P:Program} {md:Region.Mode} {ops:Array Oper} {Q:Exit→Act→World→Prop} {S:World→Prop} {X:Nat→Bool}
theorem Cy.firstL {i:Nat} {oi:Oper} {v:Value} (hi:ops[i]?=some oi) (hsel:∀(j:Nat) (o:Oper) cs b,ops[j]?=some o→o.op≠.select cs b)
  (hQ:∀c a w,Q (.panic c) (a.put oi.dst v) w→Q (.panic c) a w) :
  ∀(f:Nat) (listed:Array Bool) (a:Act) (w:World),(∀j,j < ops.size→X j=true→listed.getD j false=false→Oo md ops i ops.size j=true) →
   (∀j oj,ops[j]?=some oj→j≠i→listed.getD j true=false→(∀e∈oj.after,Region.binds md e=true→e.on≠i)→oi.apart ops oj=true) →
   Sz md ops listed→i∈Region.ready md ops listed→YieldsIf P ops S oi v a→S w→Cy P md ops Q S X f (listed.setIfInBounds i true) (a.put oi.dst v) w→Cy P md ops Q S X (f+1) listed a w:=by
 intro f
 induction f with
 | zero =>
  intro listed a w _ _ _ hr hy hS H
  refine ⟨fun h=>(by rw [h] at hr;cases hr),fun j hj=>?_⟩
  by_cases hji:j=i
  ·subst hji;exact hy.wpOp hi hS ⟨fun _=>hS,H⟩
  ·have:=ready_mono hj hji
   rw [H.1] at this;cases this
 | succ f ih =>
  intro listed a w hX hfree hcl hr hy hS H
  refine ⟨fun h=>(by rw [h] at hr;cases hr),fun j hj=>?_⟩
  by_cases hji:j=i
  ·subst hji;exact hy.wpOp hi hS ⟨fun _=>hS,H⟩
  ·obtain ⟨hju,oj,hoj,hall⟩:=mem_ready.1 hj
   have hiu:=Rv (mem_ready.1 hr).1
   have hnot:∀e∈oj.after,Region.binds md e=true→e.on≠i:=fun e he hb heq=>by
    have h1:=hall e he hb
    rw [heq,hiu] at h1;cases h1
   have hXj:X j=false:=by
    cases hx:X j
    ·rfl
    ·have h2:=Qy hcl ops.size j (fun o ho=>by obtain rfl:=Option.some.inj (ho.symm.trans hoj);exact hall) (hX j (Array.getElem?_eq_some_iff.1 hoj).1 hx (Rv hju))
     rw [hiu] at h2;cases h2
   have h2:=wpOp_putIf hoj (hfree j oj hoj hji hju hnot) (fun cs b=>hsel i oi cs b hi) (fun cs b=>hsel j oj cs b hoj) hQ hy (H.2 j (ready_mono hj hji))
   refine wpOp_mono (fun a' w' h3=>⟨fun _=>h3.2.1 hXj,ih (listed.setIfInBounds j true) a' w' (fun k hk hx hun=>hX k hk hx ?_) (fun k ok hk hki hun hno=>hfree k ok hk hki ?_ hno) (hcl.set hj) (ready_mono hr (Ne.symm hji)) h3.1 (h3.2.1 hXj) ?_⟩) h2
   ·by_cases hjk:j=k
    ·subst hjk;exact Rv hju
    ·rw [getD_set_ne false hjk] at hun;exact hun
   ·by_cases hjk:j=k
    ·subst hjk;exact hju
    ·rw [getD_set_ne true hjk] at hun;exact hun
   ·rw [Array.setIfInBounds_comm _ _ hji];exact h3.2.2
end
section
variable {c:Cx} {fr:Fr} {H H0:List Pc} {k:List It} {X:List Nat} {ops:Array Oper} {f:Nat} {listed:Array Bool} {d:Nat} {o:Op} {ty:TypeId} {pos:String} {Ca:Array Edge} {v:Value}
theorem T4 (i:Nat) (h:T c ((d,v)::fr) H (.dx k H0 X ops f (listed.setIfInBounds i true))) (ho:ops[i]?=some ⟨some d,o,ty,pos,Ca,none⟩:=by rw [List.getElem?_toArray];rfl) (hy:Yd c.P c.n fr H0 o ty v:=by exact ydE) (hs:L7 H0 H:=by repeat (first|exact L7.nil|refine L7.cons (by exact Bw) ?_))
  (h1:Region.noSelect ops=true:=by kernel_rfl) (h2:Region.free .any ops listed i=true:=by kernel_rfl) (h3:(Region.ready .any ops listed).contains i=true:=by kernel_rfl) (h4:Aht .any ops (fun i=>X.contains i) listed i=true:=by kernel_rfl) (h5:Oa .any ops listed=true:=by kernel_rfl) (hR:Ty c:=by exact V7) (hd:Nat.blt d c.n=true:=by rfl) :
  T c fr H (.dx k H0 X ops (f+1) listed):=.mk fun a w s g =>
 Cy.firstL ho (Region.noSelect_spec h1) (fun ch a w hp=>by rw [Jd] at hp ⊢;exact hR _ _ _ _ _ hp) f listed a w (fun j hj hx hl=>by
   have:=List.all_eq_true.1 h4 j (List.mem_range.2 hj)
   dsimp only at this
   rw [hx,hl] at this
   simpa using this) (Region.free_spec ho h2) (Zh h5) (by simpa using h3) (.inl ⟨rfl,fun w' hw'=>hy.h a w' _ _ _ _ g hw'⟩) (fun p hp=>s.on p (hs.all p hp)) (h.h _ _ s (g.put hd))
end
theorem Ak3 (fid:FuncId) (bd caps:List Value) (A:List Pc) (hA:A.all (fun p=>!p.mu)=true) (xs:List Aw) (a:Option Addr) (c:Nat) (F:List Nat) (p:Aw→Bool) (hb:Mv prog fid=true) (hl:xs.length≤1000000000)
  (hp:∀x∈xs,∀w,Mc A w→Calls prog fid (bd++[(.agg #[.int .i64 (x).Cm,.int .i64 (x).Ac,.int .i64 (x).Ak,.int .i64 (x).Dy,.string (x).data]:Value)]++caps).toArray w fun e w'=>e=.returned (.bool (p x))∧Below w.heap.size w w') :
  Fn prog 167 [.slice a xs.length c,.func (.func fid) bd.toArray caps.toArray] (.sl Al (.slice a xs.length c) xs F::A) [] (fun (_:Unit)=>True) (fun _=>.int .i64 (N2 p xs)) (fun _=>[]):=by
 refine enter func167 rfl ntmps167 (fun w0=>?_) rfl (by simpa [Pc.mu] using hA) .nil
 refine go ?_;intros
 refine Ds [0,1,4,7] (fun k:Nat=>[(8,.int .i64 (k:Nat))]) (fun k=>k≤xs.length∧∀j (_:j < k) (hj:j < xs.length),p xs[j]=false) (fun k=>xs.length - k) 0 ⟨Nat.zero_le _,fun j h=>by omega⟩ fun k hk=>?_
 obtain ⟨hk1,hk2⟩:=hk
 refine go ?_;intros
 refine Bd rfl (fun h5=>?_) (fun h5=>?_)
 ·have hh:k < xs.length:=by omega
  refine go ?_;intros
  refine Lj (xs:=xs) k ?_
  rintro hi b o e sz
  rw [e]
  refine go ?_;intros
  apply wO
  refine Si rfl rfl hb Bb ?_
  refine cb (fun w st=>hp xs[k] (List.getElem_mem hh) w (fun q hq=>st.on q (by simp [hq]))) ?_
  cases hpk:p xs[k]
  ·refine go ?_;intros
   refine Pn ?_
   refine Co (hH:=Ib _) (k+1) ⟨hh,fun j hj h=>?_⟩ (by omega)
   rcases Nat.lt_or_eq_of_le (Nat.lt_succ_iff.1 hj) with h2|rfl
   ·exact hk2 j h2 h
   ·exact hpk
  ·refine go ?_;intros
   refine ret () trivial ?_
   rw [Lk hh hk2 hpk];rfl
 ·obtain rfl:k=xs.length:=by omega
  refine go ?_;intros
  refine ret () trivial ?_
  rw [J3 (fun j hj=>hk2 j hj hj)];rfl
theorem Aet (fid:FuncId) (bd caps:List Value) (A:List Pc) (hA:A.all (fun p=>!p.mu)=true) (xs:List Aw) (a:Option Addr) (c:Nat) (F:List Nat) (p:Aw→Bool) (hb:Mv prog fid=true) (hl:xs.length≤1000000000)
  (hp:∀x∈xs,∀w,Mc A w→Calls prog fid (bd++[(.agg #[.int .i64 (x).Cm,.int .i64 (x).Ac,.int .i64 (x).Ak,.int .i64 (x).Dy,.string (x).data]:Value)]++caps).toArray w fun e w'=>e=.returned (.bool (p x))∧Below w.heap.size w w') :
  Fn prog 104 [.slice a xs.length c,.func (.func fid) bd.toArray caps.toArray] (.sl Al (.slice a xs.length c) xs F::A) [] (fun (_:Unit)=>True) (fun _=>.bool (xs.any p)) (fun _=>[]):=by
 refine enter func104 rfl ntmps104 (fun w0=>?_) rfl (by simpa [Pc.mu] using hA) .nil
 refine go ?_;intros
 refine cb (fun w st=>(Ak3 fid bd caps A hA xs a c F p hb hl hp).val w (fun q hq=>st.on q (by simpa using hq)) (by simpa [Pc.mu] using hA)) ?_
 refine go ?_;intros
 refine ret () trivial ?_
 rw [Oy];rfl
theorem Ak7 (r:A7) (p:Aw) (d:Int) (g t o:Nat) (A B:List Value) (a1:Option Addr) (c1:Nat) (F1:List Nat) (a2:Option Addr) (c2:Nat) (F2:List Nat) (hg:Ju r) (hp:Bk p=true) (d0:1≤d) (d1:d≤8) :
  Fn prog 205 [Eo g o 0,.agg #[.int .i64 p.Cm,.int .i64 p.Ac,.int .i64 p.Ak,.int .i64 p.Dy,.string p.data],.int .i64 d] [] [.row g t o A [.bool r.Bf,.int .i64 r.Ai,.int .i64 (r.Aa).next,.slice a1 (r.Aa).An.length c1,.slice a2 (r.Ap).length c2] B,.ow Cc 188 (.slice a1 (r.Aa).An.length c1) (r.Aa).An F1,.ow Ay 165 (.slice a2 (r.Ap).length c2) (r.Ap) F2] (fun (_:NwS)=>True)
   (fun s=>.slice s.ae (Gm r p).length s.ce) (fun s=>[.row g t o A [.bool (C6 r p d).Bf,.int .i64 (C6 r p d).Ai,.int .i64 ((C6 r p d).Aa).next,.slice s.a1 ((C6 r p d).Aa).An.length s.c1,.slice s.a2 ((C6 r p d).Ap).length s.c2] B,.ow Cc 188 (.slice s.a1 ((C6 r p d).Aa).An.length s.c1) ((C6 r p d).Aa).An s.F1,.ow Ay 165 (.slice s.a2 ((C6 r p d).Ap).length s.c2) ((C6 r p d).Ap) s.F2,.ow A6 9 (.slice s.ae (Gm r p).length s.ce) (Gm r p) s.Fe]):=by
 have k0:=hg.k0
 have k1:=hg.k1
 obtain ⟨-,q1,q2, -⟩:=Di.1 hg.q
 obtain ⟨n0,n1⟩:=If hp
 refine enter func205 rfl ntmps205 fun w0=>?_
 refine go ?_;intros
 by_cases hk1:p.Cm=1
 ·rw [decide_eq_true hk1]
  rw [show C6 r p d=Ij r p d by unfold C6 Ka;simp [hk1],show Gm r p=Jw r p by unfold Gm Ka;simp [hk1]]
  refine go ?_;intros
  refine cf (Aai r p d g t o A B a1 c1 F1 a2 c2 F2 hg hp d0 d1) fun s _=>?_
  refine Ao ?_
  refine go ?_;intros
  refine ret ⟨s.a1,s.c1,s.F1,s.a2,s.c2,s.F2,s.ae,s.ce,s.Fe⟩ trivial rfl
 rw [decide_eq_false hk1]
 refine go ?_;intros
 by_cases hk2:p.Cm=2
 ·rw [decide_eq_true hk2]
  rw [show C6 r p d=Ij r p d by unfold C6 Ka;simp [hk2],show Gm r p=Jw r p by unfold Gm Ka;simp [hk2]]
  refine go ?_;intros
  refine cf (Aai r p d g t o A B a1 c1 F1 a2 c2 F2 hg hp d0 d1) fun s _=>?_
  refine Ao ?_
  refine go ?_;intros
  refine ret ⟨s.a1,s.c1,s.F1,s.a2,s.c2,s.F2,s.ae,s.ce,s.Fe⟩ trivial rfl
 rw [decide_eq_false hk2]
 refine go ?_;intros
 by_cases hk5:p.Cm=5
 ·rw [decide_eq_true hk5]
  rw [show C6 r p d=Ij r p d by unfold C6 Ka;simp [hk5],show Gm r p=Jw r p by unfold Gm Ka;simp [hk5]]
  refine go ?_;intros
  refine cf (Aai r p d g t o A B a1 c1 F1 a2 c2 F2 hg hp d0 d1) fun s _=>?_
  refine Ao ?_
  refine go ?_;intros
  refine ret ⟨s.a1,s.c1,s.F1,s.a2,s.c2,s.F2,s.ae,s.ce,s.Fe⟩ trivial rfl
 rw [decide_eq_false hk5]
 refine go ?_;intros
 refine B7 A6 9 ?_
 have eE:Gm r p=[]:=by unfold Gm Ka;simp [hk1,hk2,hk5]
 by_cases hk4:p.Cm=4
 ·rw [decide_eq_true hk4]
  cases hs:r.Bf
  ·rw [show C6 r p d=r by unfold C6 Ka;simp [hk1,hk2,hk5,hs],eE,hs]
   refine go ?_;intros
   refine ret ⟨_,_,_,_,_,_,none,0,_⟩ trivial rfl
  ·rw [show C6 r p d=Ab3 r p by unfold C6 Ka;simp [hk4,hs],eE,show (Ab3 r p).Bf=true from hs]
   refine go ?_;intros
   refine Av [0,1,2] [0,18,19,20,21,22] ?_
   refine M4 0 ?_
   refine T4 1 ?_
   refine T4 2 ?_
   refine T4 3 ?_
   refine T4 4 ?_
   refine T4 5 ?_
   refine T4 6 ?_
   refine T4 7 ?_
   refine T4 8 ?_
   refine T4 9 ?_
   refine T4 10 ?_
   refine T4 11 ?_
   refine T4 12 ?_
   refine T4 13 ?_
   refine T4 14 ?_
   refine T4 15 ?_
   refine dO 16 (by kernel_rfl) (by rw [List.getElem?_toArray];rfl) ?_
   apply At;rfl;kernel_rfl;exact Bb
   refine cfr (fun w st=>by obtain ⟨Fq, -,hq9⟩:=(st.get (p:=.ow Ay 165 (.slice a2 r.Ap.length c2) r.Ap F2) (by simp)).2.read;exact ⟨[.sl Ay (.slice a2 r.Ap.length c2) r.Ap Fq],Ia ⟨by decide,hq9⟩,rfl,Uo r.Ap r.Aa.next p.Ac r.Ai a2 c2 Fq hg.q (A4.2 ⟨n0,n1⟩) k0 k1⟩) (fun u _=>?_)
   refine dk ?_
   refine T4 17 ?_
   refine M4 18 ?_
   refine M4 19 ?_
   refine M4 20 ?_
   refine M4 21 ?_
   refine dO 22 (by kernel_rfl) (by rw [List.getElem?_toArray];rfl) ?_
   apply Cf;rfl;rfl;rfl;(first|exact AggC.s|exact OneC.s);rfl;exact Ci;exact Cg;rfl
   refine Lv ?_
   refine dd ?_
   refine go ?_;intros
   refine ret ⟨_,_,_,_,_,_,none,0,_⟩ trivial rfl
 rw [decide_eq_false hk4]
 rw [show C6 r p d=r by unfold C6 Ka;simp [hk1,hk2,hk5,hk4],eE]
 refine go ?_;intros
 refine ret ⟨_,_,_,_,_,_,none,0,_⟩ trivial rfl
structure HaS where
 k:Nat
 a1:Option Addr
 c1:Nat
 F1:List Nat
 a2:Option Addr
 c2:Nat
 F2:List Nat
 ae:Option Addr
 ce:Nat
 Fe:List Nat
structure KiS where
 k:Nat
 a:Option Addr
 c:Nat
 F:List Nat
theorem Ml (t:Oq) (node:Int) (v:Value) (F:List Nat) (hz:Hz t.Ad node 1=[]) (hl:1≤t.Ad.length∧t.Ad.length≤1000000):Fn prog 90 [v,.int .i64 node] [.isv Q1 v t F] [] (fun (_:KiS)=>True) (fun z=>.slice z.a (Gb t.Ad node).length z.c) (fun z=>[.ow Be 3 (.slice z.a (Gb t.Ad node).length z.c) (Gb t.Ad node) z.F]):=by
 refine enter func90 rfl ntmps90 fun w0=>?_
 refine O2 ?_
 rintro a1 c1 F1 rfl l1
 unfold maxLen at l1
 refine go ?_;intros
 refine C1 Be ?_
 refine Cq [1,2,4] (fun z:KiS=>[(5,.slice z.a (Pf t.Ad node z.k).length z.c),(6,.int .i64 ((z.k+1:Nat):Int))]) (fun z=>[.ow Be 3 (.slice z.a (Pf t.Ad node z.k).length z.c) (Pf t.Ad node z.k) z.F]) (fun z=>z.k+1≤t.Ad.length) (fun z=>t.Ad.length - z.k) ⟨0,_,_,_⟩ hl.1 fun z hz2=>?_
 have hkl:=Agj t.Ad node z.k
 have hl2:=hl.2
 refine go ?_;intros
 refine Bd rfl (fun h1=>?_) (fun h1=>?_)
 ·have hh:z.k+1 < t.Ad.length:=by omega
  refine Il (xs:=t.Ad) (z.k+1) ?_
  rintro hi b o e1
  rw [e1]
  refine go ?_;intros
  refine Bd rfl (fun h2=>?_) (fun h2=>?_)
  ·refine Jq ?_;intros
   apply wO
   refine Lh (Mo _) C8 fun a9 c9 F9=>?_
   refine go ?_;intros
   rw [←Agk hh h2]
   refine Co ⟨z.k+1,a9,c9,F9⟩ (by show z.k+1+1≤t.Ad.length;omega) (by show t.Ad.length - (z.k+1) < t.Ad.length - z.k;omega)
  ·rw [←Ai5 hh h2]
   refine go ?_;intros
   refine Co ⟨z.k+1,z.a,z.c,z.F⟩ (by show z.k+1+1≤t.Ad.length;omega) (by show t.Ad.length - (z.k+1) < t.Ad.length - z.k;omega)
 ·have hk:z.k+1=t.Ad.length:=by omega
  rw [Agi hz hk]
  refine go ?_;intros
  refine ret z trivial rfl
theorem Xt (t:Oq) (node:Int) (v:Value) (F:List Nat):Fn prog 108 [v,.int .i64 node] [.isv Q1 v t F] [] (fun (_:Unit)=>True) (fun _=>.bool (Hj t.Ad node)) (fun _=>[]):=by
 refine enter func108 rfl ntmps108 fun w0=>?_
 refine O2 ?_
 rintro a1 c1 F1 rfl l1
 refine go ?_;intros
 refine cf (Aio t.Ad node _ _ F1) fun _ _=>?_
 refine Ao ?_
 refine go ?_;intros
 refine ret () trivial ?_
 unfold Hj
 rw [←decide_not];rfl
theorem U8 (t:Oq) (node:Int) (v:Value) (F:List Nat) (hg:Mu t.Ad) (h0:0 < node):Fn prog 60 [v,.int .i64 node] [.isv Q1 v t F] [] (fun (_:Unit)=>True) (fun _=>.bool (Hj t.Ad node)) (fun _=>[]):=by
 refine enter func60 rfl ntmps60 fun w0=>?_
 refine O2 ?_
 rintro a1 c1 F1 rfl l1
 refine go ?_;intros
 refine Cw rfl rfl (fun h1=>?_) (fun h1=>?_)
 ·refine go ?_;intros
  refine cf (Ml t node _ F (P2 hg.z (by omega)) (by have:=hg.n0;have:=hg.n1;omega)) fun q _=>?_
  refine Ao ?_
  refine go ?_;intros
  refine ret () trivial ?_
  rw [Agz]
  by_cases hk:Gb t.Ad node=[]
  ·rw [hk];rfl
  ·rw [decide_eq_false hk,decide_eq_false fun e=>hk (List.length_eq_zero_iff.1 (by omega))];rfl
 ·exact absurd h0 h1
theorem Yb {w:World} {t:TypeId} {a:Option Addr} {c:Nat} {l:List Int} {F:List Nat} (h:(Pc.ow Be t (.slice a l.length c) l F).P w):∃F',(Pc.isv Q1 (.agg #[.slice a l.length c]) ⟨l⟩ F').P w:=by
 obtain ⟨F', -,hs⟩:=h.2.read
 exact ⟨F',_,rfl,_,rfl,hs⟩
theorem Tc (t:Oq) (node:Int) (v:Value) (F:List Nat) (hl:t.Ad.length≤1000000):Fn prog 80 [v,.int .i64 node] [.isv Q1 v t F] [] (fun (_:KiS)=>True) (fun z=>.slice z.a (Gb t.Ad node).length z.c) (fun z=>[.ow Be 3 (.slice z.a (Gb t.Ad node).length z.c) (Gb t.Ad node) z.F]):=by
 refine enter func80 rfl ntmps80 fun w0=>?_
 refine O2 ?_
 rintro a1 c1 F1 rfl l1
 refine B7 Be 3 ?_
 refine go ?_;intros
 refine Cq [1,4,9,10] (fun z:KiS=>[(5,.slice z.a (Hz t.Ad node z.k).length z.c),(11,.int .i64 (z.k:Nat))]) (fun z=>[.ow Be 3 (.slice z.a (Hz t.Ad node z.k).length z.c) (Hz t.Ad node z.k) z.F]) (fun z=>z.k≤t.Ad.length) (fun z=>t.Ad.length - z.k) ⟨0,_,_,_⟩ (Nat.zero_le _) fun z hz=>?_
 have hkl:=Xu t.Ad node z.k
 refine go ?_;intros
 refine Bd rfl (fun h1=>?_) (fun h1=>?_)
 ·have hh:z.k < t.Ad.length:=by omega
  refine Il (xs:=t.Ad) z.k ?_
  rintro hi b o e1
  rw [e1]
  refine go ?_;intros
  refine Bd rfl (fun h2=>?_) (fun h2=>?_)
  ·refine Jq ?_;intros
   apply wO
   refine Lh (Mo _) C8 fun a9 c9 F9=>?_
   refine go ?_;intros
   rw [←Ad2 hh h2]
   refine Co ⟨z.k+1,a9,c9,F9⟩ (by show z.k+1≤t.Ad.length;omega) (by show t.Ad.length - (z.k+1) < t.Ad.length - z.k;omega)
  ·rw [←Agl hh h2]
   refine go ?_;intros
   refine Co ⟨z.k+1,z.a,z.c,z.F⟩ (by show z.k+1≤t.Ad.length;omega) (by show t.Ad.length - (z.k+1) < t.Ad.length - z.k;omega)
 ·rw [show Hz t.Ad node z.k=Gb t.Ad node by unfold Gb;rw [show z.k=t.Ad.length by omega]]
  refine go ?_;intros
  refine ret z trivial rfl
theorem Xs {r:A7} {p:Aw} (hg:Ju r) (hp:Bk p=true):∀e∈Gm r p,e.size≤1000000:=Alp hg hp
theorem Ae3:∀(l:List Int) (lo:Int),l.Pairwise (· < ·)→(∀z∈l,lo≤z∧z≤7)→(l.length:Int)≤max 0 (8 - lo)
 | [],_,_,_=>by simp;omega
 | x::r,lo,hp,hb=>by
  rw [List.pairwise_cons] at hp
  have:=Ae3 r (x+1) hp.2 fun z hz=>⟨by have:=hp.1 z hz;omega,(hb z (by simp [hz])).2⟩
  have:=hb x (by simp)
  rw [List.length_cons];omega
theorem Lw {e:Bl} (hg:Bc e=true) {x:Es} (hx:x∈e.Af):x.Bg.length≤7:=by
 have h:=(L5.1 ((Ew.1 hg).2.2.1 x hx)).2.2.1
 have:=Ae3 x.Bg 1 h.1 h.2
 omega
theorem Xh {i:Nat}:1≤J0 i∧J0 i≤8:=by unfold J0;omega
theorem Ln {n:En} {i:Nat} (h:i < n.Ae.length):Wj n i=n.Ae[i]:=Xn h _
theorem Is {n:En} {i:Nat} (h:i < n.Ah.length):So n i=n.Ah[i]:=Xn h _
theorem Afx (n:En) (i:Nat) (p:Aw) (g:Nat) (a1:Option Addr) (c1:Nat) (F1:List Nat) (a2:Option Addr) (c2:Nat) (F2:List Nat) (a3:Option Addr) (c3:Nat) (F3:List Nat) (a4:Option Addr) (c4:Nat) (F4:List Nat) (a5:Option Addr) (c5:Nat) (F5:List Nat) (a6:Option Addr) (c6:Nat) (F6:List Nat) (a7:Option Addr) (c7:Nat) (F7:List Nat) (FT:List Nat) (hl:Iw n=true) (hi:i < n.Ar.Ad.length) (h8:Mu n.Ar.Ad) (hr:Hj n.Ar.Ad (i:Nat)=true→C7 (Wj n i)=true) (he:Hj n.Ar.Ad (i:Nat)=false→Bc (So n i)=true) (hp:Bk p=true) (hps:p.data.size≤maxLen) :
  Fn prog 147 [Eo g 0 0,.int .i64 (i:Nat),.agg #[.int .i64 (p).Cm,.int .i64 (p).Ac,.int .i64 (p).Ak,.int .i64 (p).Dy,.string (p).data]] [Li FT] [.row g 37 0 [] [.slice a1 n.Ar.Ad.length c1,.int .i64 n.Ab.Aa.Ak,.int .i64 n.Ab.Aa.size,.slice a2 n.Ab.Aa.Aj.length c2,.int .i64 n.Ab.Ai,.int .i64 n.Ab.quiet,.slice a3 n.Ab.holds.length c3,.slice a4 n.Ah.length c4,.slice a5 n.Ae.length c5,.slice a6 n.down.length c6,.slice a7 n.up.length c7] [],.ow Be 3 (.slice a1 n.Ar.Ad.length c1) n.Ar.Ad F1,.ow A6 9 (.slice a2 n.Ab.Aa.Aj.length c2) n.Ab.Aa.Aj F2,.ow Bi 134 (.slice a3 n.Ab.holds.length c3) n.Ab.holds F3,.ow B4 77 (.slice a4 n.Ah.length c4) n.Ah F4,.ow Bt 84 (.slice a5 n.Ae.length c5) n.Ae F5,.ow (H9 Al 110) 86 (.slice a6 n.down.length c6) n.down F6,.ow (H9 Al 110) 86 (.slice a7 n.up.length c7) n.up F7] (fun (_:NV × KA)=>True) (fun z=>.slice z.2.a (C2 n i p).2.length z.2.c) (fun z=>[.row g 37 0 [] [.slice z.1.a1 n.Ar.Ad.length z.1.c1,.int .i64 (C2 n i p).1.Ab.Aa.Ak,.int .i64 (C2 n i p).1.Ab.Aa.size,.slice z.1.a2 (C2 n i p).1.Ab.Aa.Aj.length z.1.c2,.int .i64 (C2 n i p).1.Ab.Ai,.int .i64 (C2 n i p).1.Ab.quiet,.slice z.1.a3 (C2 n i p).1.Ab.holds.length z.1.c3,.slice z.1.a4 n.Ah.length z.1.c4,.slice z.1.a5 n.Ae.length z.1.c5,.slice z.1.a6 n.down.length z.1.c6,.slice z.1.a7 n.up.length z.1.c7] [],.ow Be 3 (.slice z.1.a1 n.Ar.Ad.length z.1.c1) (C2 n i p).1.Ar.Ad z.1.F1,.ow A6 9 (.slice z.1.a2 (C2 n i p).1.Ab.Aa.Aj.length z.1.c2) (C2 n i p).1.Ab.Aa.Aj z.1.F2,.ow Bi 134 (.slice z.1.a3 (C2 n i p).1.Ab.holds.length z.1.c3) (C2 n i p).1.Ab.holds z.1.F3,.ow B4 77 (.slice z.1.a4 n.Ah.length z.1.c4) (C2 n i p).1.Ah z.1.F4,.ow Bt 84 (.slice z.1.a5 n.Ae.length z.1.c5) (C2 n i p).1.Ae z.1.F5,.ow (H9 Al 110) 86 (.slice z.1.a6 n.down.length z.1.c6) (C2 n i p).1.down z.1.F6,.ow (H9 Al 110) 86 (.slice z.1.a7 n.up.length z.1.c7) (C2 n i p).1.up z.1.F7,.ow A6 9 (.slice z.2.a (C2 n i p).2.length z.2.c) (C2 n i p).2 z.2.F]):=by
 obtain ⟨q1,q2,q3,q4⟩:=Bz.1 hl
 have hn8:=h8.n1
 obtain ⟨d0,d1_⟩:=Xh (i:=i)
 refine enter func147 rfl ntmps147 fun w0=>?_
 refine go ?_;intros
 refine cfr (fun w st=>by obtain ⟨Fq,hq⟩:=Yb (st.get (p:=.ow Be 3 (.slice a1 n.Ar.Ad.length c1) n.Ar.Ad F1) (by exact Bw));exact ⟨_,Ia hq,rfl,Xt n.Ar i _ Fq⟩) (fun _ _=>?_)
 refine Ao ?_
 cases hlf:Hj n.Ar.Ad (i:Nat)
 rotate_left
 ·have hir:i < n.Ae.length:=by omega
  have hgr:=Hc.1 (Ln hir▸hr hlf)
  have hev:=(Se (d:=J0 i) hgr hp d0 d1_).2
  rw [show C2 n i p=(⟨n.Ar,n.Ab,n.Ah,n.Ae.set i (C6 n.Ae[i] p (J0 i)),n.down,n.up⟩,Rc i (Gm n.Ae[i] p)) by unfold C2;rw [if_pos hlf,Ln hir]]
  refine go ?_;intros
  refine Y6 (xs:=n.Ae) (m:=5) i ?_ rfl hir
  rintro _ g5 A5 cs B5 k1 k2 J1 Ji J2 rfl - hc5 hH5
  refine Hm ?_
  rintro b1 d1 G1 b2 d2 G2 ev l1 l2
  obtain rfl:cs=[.bool n.Ae[i].Bf,.int .i64 n.Ae[i].Ai,.int .i64 n.Ae[i].Aa.next,.slice b1 n.Ae[i].Aa.An.length d1,.slice b2 n.Ae[i].Ap.length d2]:=by simpa using ev
  refine Av [5,6] [] ?_
  refine dt 0 ?_
  refine dt 1 ?_
  refine dt 2 ?_
  refine dt 3 ?_
  refine dt 4 ?_
  refine dt 5 ?_
  refine dt 6 ?_
  refine dt 7 ?_
  refine dt 8 ?_
  refine dO 9 (by kernel_rfl) (by rw [List.getElem?_toArray];rfl) ?_
  apply At;rfl;kernel_rfl;exact Bb
  refine cf (Zk i (by omega)) fun _ _=>?_
  refine Ao ?_
  refine dk ?_
  refine dO 10 (by kernel_rfl) (by rw [List.getElem?_toArray];rfl) ?_
  apply At;rfl;kernel_rfl;exact Bb
  refine cf (Ak7 n.Ae[i] p (J0 i) g5 84 (0+i * 5) A5 B5 b1 d1 G1 b2 d2 G2 hgr hp d0 d1_) fun s _=>?_
  refine Ao ?_
  refine dk ?_
  refine dO 11 (by kernel_rfl) (by rw [List.getElem?_toArray];rfl) ?_
  apply At;rfl;kernel_rfl;exact Bb
  refine cfr (fun w st=>by obtain ⟨Fq, -,hq⟩:=(st.get (p:=.ow A6 9 (.slice s.ae (Gm n.Ae[i] p).length s.ce) (Gm n.Ae[i] p) s.Fe) (by exact Bw)).2.read;exact ⟨[.sl A6 (.slice s.ae (Gm n.Ae[i] p).length s.ce) (Gm n.Ae[i] p) Fq,Li FT],Q9 ⟨by decide,hq⟩ (st.get (p:=Li FT) (by exact Bw)),rfl,Akr i _ _ _ Fq FT (by omega) (by omega) (Xs hgr hp)⟩) (fun u _=>?_)
  refine Ao ?_
  refine dk ?_
  refine dt 12 ?_
  refine dd ?_
  refine go ?_;intros
  refine I8 (C6 n.Ae[i] p (J0 i)) ?_
  refine Vt _ hH5 rfl fun J5=>?_
  refine ret (⟨a1,c1,F1,a2,c2,F2,a3,c3,F3,a4,c4,F4,_,c5,J5,a6,c6,F6,a7,c7,F7⟩,⟨0,_,_,_⟩) trivial rfl
 ·have hir:i < n.Ah.length:=by omega
  have hge:Bc n.Ah[i]=true:=Is hir▸he hlf
  have hel:=(Ew.1 hge).2.1
  have hkl:=P0 n.Ar.Ad ((i:Nat):Int)
  have hkx:∀x∈Gb n.Ar.Ad ((i:Nat):Int),0≤x∧x.toNat < n.down.length:=fun x hx=>by have:=Jj h8 hx;omega
  refine go ?_;intros
  refine cfr (fun w st=>by obtain ⟨Fq,hq⟩:=Yb (st.get (p:=.ow Be 3 (.slice a1 n.Ar.Ad.length c1) n.Ar.Ad F1) (by exact Bw));exact ⟨_,Ia hq,rfl,Tc n.Ar ((i:Nat):Int) _ Fq (by show n.Ar.Ad.length≤1000000;omega)⟩) (fun u _=>?_)
  refine Ao ?_
  refine Ax (E:=Be) (xs:=Gb n.Ar.Ad ((i:Nat):Int)) fun Fk=>?_
  refine B7 A6 9 ?_
  refine go ?_;intros
  refine Bd rfl (fun hk=>?_) (fun hk=>?_)
  ·rw [show C2 n i p=(⟨n.Ar,n.Ab,n.Ah.set i (Mn n.Ah[i] p.Ac),n.Ae,Dk n.down (Q8 n.Ah[i] p.Ac (Gb n.Ar.Ad ((i:Nat):Int))) [p],n.up⟩,[]) by unfold C2 Adu Ub;rw [if_neg (by rw [hlf];decide),if_pos hk,if_pos hk,Is hir]]
   refine go ?_;intros
   refine Y6 (xs:=n.Ah) (m:=2) i ?_ rfl hir
   rintro _ g5 A5 cs B5 k1 k2 J1 Ji J2 rfl - hc5 hH5
   refine Gg ?_
   rintro b1 d1 G1 ev l1
   obtain rfl:cs=[.int .i64 n.Ah[i].Ai,.slice b1 n.Ah[i].Af.length d1]:=by simpa using ev
   refine Av [6,7] [] ?_
   refine dt 0 ?_
   refine dt 1 ?_
   refine dt 2 ?_
   refine dt 3 ?_
   refine dt 4 ?_
   refine dt 5 ?_
   refine dt 6 ?_
   refine dt 7 ?_
   refine dt 8 ?_
   refine dO 9 (by kernel_rfl) (by rw [List.getElem?_toArray];rfl) ?_
   apply At;rfl;kernel_rfl;exact Bb
   refine cf (Afp n.Ah[i] p.Ac (Gb n.Ar.Ad ((i:Nat):Int)) g5 77 (0+i * 2) A5 B5 b1 d1 G1 u.a u.c Fk (by omega) (fun x hx=>by have:=Lw hge hx;omega) (by omega)) fun s _=>?_
   refine Ao ?_
   refine dk ?_
   refine dt 10 ?_
   refine dd ?_
   refine Ey (Mn n.Ah[i] p.Ac) ?_
   refine Vt _ hH5 rfl fun J5=>?_
   refine Ax (E:=Be) (xs:=Q8 n.Ah[i] p.Ac (Gb n.Ar.Ad ((i:Nat):Int))) fun Fk2=>?_
   refine Jq ?_;intros
   refine Ee (E:=Al) (xs:=[p]) (Cz p hps) ?_ (by simp)
   refine Ax (E:=Al) (xs:=[p]) fun Fp=>?_
   refine go ?_;intros
   refine cf (Td n.down (Q8 n.Ah[i] p.Ac (Gb n.Ar.Ad ((i:Nat):Int))) [p] g _ _ _ _ _ _ _ _ _ _ a6 _ c6 F6 _ _ Fk2 _ _ Fp rfl (fun x hx=>hkx x (Xj x hx))) fun J6 _=>?_
   refine Ao ?_
   refine go ?_;intros
   refine ret (⟨a1,c1,F1,a2,c2,F2,a3,c3,F3,_,c4,J5,a5,c5,F5,a6,c6,J6,a7,c7,F7⟩,⟨0,none,0,[]⟩) trivial rfl
  ·rw [show C2 n i p=(⟨n.Ar,n.Ab,n.Ah,n.Ae,Dk n.down (Gb n.Ar.Ad ((i:Nat):Int)) [p],n.up⟩,[]) by unfold C2 Adu Ub;rw [if_neg (by rw [hlf];decide),if_neg hk,if_neg hk]]
   refine Jq ?_;intros
   refine Ee (E:=Al) (xs:=[p]) (Cz p hps) ?_ (by simp)
   refine Ax (E:=Al) (xs:=[p]) fun Fp=>?_
   refine go ?_;intros
   refine cf (Td n.down (Gb n.Ar.Ad ((i:Nat):Int)) [p] g _ _ _ _ _ _ _ _ _ _ a6 _ c6 F6 _ _ Fk _ _ Fp rfl hkx) fun J6 _=>?_
   refine Ao ?_
   refine go ?_;intros
   refine ret (⟨a1,c1,F1,a2,c2,F2,a3,c3,F3,a4,c4,F4,a5,c5,F5,a6,c6,J6,a7,c7,F7⟩,⟨0,none,0,[]⟩) trivial rfl
theorem P8 (y:Fv) (w:World):Cp Bi w [.int .i64 y.Ac,.int .i64 y.By] [y] []:=⟨_,[],[],[],by simp,by simp,⟨rfl,rfl⟩,rfl,rfl⟩
theorem Afr (xs:List Fv) (y:Fv) (i:Nat) (a:Option Addr) (c vb:Nat) (F:List Nat) (hi:i≤xs.length) (hl:xs.length≤1000000) :
  Fn prog 247 [.slice a xs.length c,.int .i64 i,.slice (some ⟨vb,0,none⟩) 1 1] [] [.ow Bi 134 (.slice a xs.length c) xs F,.row vb 134 0 [] [.int .i64 y.Ac,.int .i64 y.By] []] (fun (_:Option Addr × Nat × List Nat)=>True)
   (fun z=>.slice z.1 (xs.take i++y::xs.drop i).length z.2.1) (fun z=>[.ow Bi 134 (.slice z.1 (xs.take i++y::xs.drop i).length z.2.1) (xs.take i++y::xs.drop i) z.2.2]):=by
 have hone:∀w':World,∀cs:List Value,Cp Bi w' cs xs []→∀u∈cs,u.oneCell'=true:=fun w' cs h=>h.one' Hi
 have hy:=P8 y
 have h1y:∀u∈([.int .i64 y.Ac,.int .i64 y.By]:List Value),u.oneCell'=true:=by intro u hu;simp at hu;rcases hu with rfl|rfl|rfl|rfl <;> rfl
 refine enter func247 rfl ntmps247 fun w0=>?_
 refine Aki (E:=Bi) fun hc1 hc2=>?_
 refine go ?_;intros
 apply wO
 refine Aa1 rfl rfl rfl rfl hi (fun _=>?_) hc1
 refine go ?_;intros
 refine Bd rfl (fun h1=>?_) (fun h1=>?_)
 ·have hin:i=xs.length:=by omega
  subst hin
  have e:xs.take xs.length++y::xs.drop xs.length=xs++[y]:=by simp
  refine go ?_;intros
  apply wO
  refine Lh hy Hi fun a2 c2 F2=>?_
  rw [e]
  refine go ?_;intros
  refine ret (a2,c2,F2) trivial rfl
 ·have hlt:i < xs.length:=by omega
  refine Abf (xs:=xs) I4 (by rintro rfl;simp at hlt) ?_
  rintro g cs rest rfl - - - hcl hcr hfl
  rw [show Bi.sz=2 from rfl] at hcl hcr
  have h1c:=hone w0 cs (hfl w0)
  obtain ⟨A,B,hcs,hA,hB⟩:∃A B,cs=A++B∧A=cs.take (i * 2)∧B=cs.drop (i * 2):=⟨_,_,(List.take_append_drop _ _).symm,rfl,rfl⟩
  have hAl:A.length=i * 2:=by rw [hA,List.length_take];omega
  have hBl:B.length=(xs.length - i) * 2:=by rw [hB,List.length_drop];omega
  have hins:∀w,Cp Bi w (A++[.int .i64 y.Ac,.int .i64 y.By]++B) (xs.take i++y::xs.drop i) []:=fun w=>by rw [hA,hB];exact (hfl w).insL (hy w) i hi
  have h1A:∀u∈A,u.oneCell'=true:=fun u hu=>h1c u (by rw [hcs];simp [hu])
  have h1B:∀u∈B,u.oneCell'=true:=fun u hu=>h1c u (by rw [hcs];simp [hu])
  have hlen:(xs.take i++y::xs.drop i).length=xs.length+1:=by simp;omega
  clear hA hB hfl hone
  subst hcs
  have eA:A=((A++B++rest).drop 0).take (i * 2):=by rw [List.drop_zero,List.append_assoc,List.take_left' hAl]
  have eB:B=((A++B++rest).drop (0+i * 2)).take ((xs.length - i) * 2):=by rw [Nat.zero_add,List.append_assoc,List.drop_left' hAl,List.take_left' hBl]
  rw [hlen]
  refine go ?_;intros
  apply wO;apply oc;rfl;exact Aer rfl
  refine go ?_;intros
  refine Bd rfl (fun h2=>?_) (fun h2=>?_)
  ·refine go ?_;intros
   apply wO;apply oc;rfl;exact Lt (i:=i) rfl rfl rfl (by omega) (by omega)
   refine go ?_;intros
   apply wO
   refine Ad6 (k:=xs.length+1 - i) (olds:=A) rfl rfl rfl (by omega) (Jt (m:=i * 2) (.head _) eA) (by omega) (by decide) (by omega) (by omega) (by omega) (by omega) fun g' cp' Z rest' h3 h4 h5 h6=>?_
   rw [show i+(xs.length+1 - i)=xs.length+1 by omega] at h3 ⊢
   obtain ⟨Z1,Z2,rfl,hZ1,hZ2⟩:∃Z1 Z2,Z=Z1++Z2∧Z1.length=2∧Z2.length=B.length:=⟨Z.take 2,Z.drop 2,(List.take_append_drop _ _).symm,by rw [List.length_take];omega,by rw [List.length_drop];omega⟩
   refine go ?_;intros
   apply wO;apply oc;rfl;exact Ih (i:=i) rfl rfl rfl (by omega) (by omega) (by omega)
   refine go ?_;intros
   apply wO
   refine Q5 (cs:=[.int .i64 y.Ac,.int .i64 y.By]) (L':=A++[.int .i64 y.Ac,.int .i64 y.By]++(Z2++rest')) rfl rfl rfl (Jt (L:=[.int .i64 y.Ac,.int .i64 y.By]) (o:=0) (m:=2) (by exact Bw) rfl) .here (Wh (M:=Z1) (by simp [List.append_assoc]) (by omega) (by simpa using hZ1)) (by show 2=min 1 (xs.length+1 - i) * 2;omega) (by simp only [List.length_append,List.length_cons,List.length_nil];omega) h1y ?_
   refine go ?_;intros
   refine Av [] [] ?_
   refine dt 0 ?_
   refine dt 1 ?_
   refine dt 2 ?_
   refine dt 3 ?_
   refine dt 4 ?_ (hy:=Ih (i:=i+1) rfl rfl (by omega) (by omega) (by omega) (by omega))
   refine dt 5 ?_
   refine dt 6 ?_
   refine dt 7 ?_ (hy:=Ih (i:=i) rfl rfl (by omega) (by omega) (by omega) (by omega))
   refine dO 8 (by kernel_rfl) (by rw [List.getElem?_toArray];rfl) ?_
   refine Q5 (cs:=B) (L':=A++[.int .i64 y.Ac,.int .i64 y.By]++B++rest') rfl rfl rfl (Jt (by exact Bw) eB) .here (Wh (P:=A++[.int .i64 y.Ac,.int .i64 y.By]) (M:=Z2) (by simp [List.append_assoc]) (by simp only [List.length_append,List.length_cons,List.length_nil];omega) hZ2) (by rw [hBl];congr 1;show _=min (xs.length - i) (xs.length+1 - (i+1));omega) (by simp only [List.length_append,List.length_cons,List.length_nil];omega) h1B ?_
   refine dk ?_
   refine dd ?_
   refine Vn (cs:=A++[.int .i64 y.Ac,.int .i64 y.By]++B) (rest:=rest') (xs:=xs.take i++y::xs.drop i) cp' rfl hins (by omega) h4 (by rw [show Bi.sz=2 from rfl];simp only [List.length_append,List.length_cons,List.length_nil] at h6 ⊢;omega) ?_
   rw [hlen]
   refine go ?_;intros
   refine ret (_,cp',[g']) trivial rfl
  ·have hcx:xs.length+1≤c:=by omega
   obtain ⟨X,Y,hXY,hX,hY⟩:=Aeh (B:=B) (R:=rest) 2 (by omega)
   refine go ?_;intros
   apply wO;apply oc;rfl;exact Lt (i:=xs.length+1) rfl rfl (by omega) (by omega) (by omega)
   refine go ?_;intros
   apply wO;apply oc;rfl;exact Ih (i:=i+1) rfl rfl (by omega) (by omega) (by omega) (by omega)
   refine Jq ?_;intros
   apply wO
   refine Ajk rfl Bb (ovl (tS:=30) (tR:=4) (run_callFunc_extern func275 (by kernel_rfl) (by kernel_rfl) (by kernel_rfl) (e:=Extern.SlicesOverlaps.overlaps #[30,30] #[4]) (by kernel_rfl)) (.there .here) (.head _) (by intro e;have:=congrArg List.length e;simp only [List.length_append,List.length_nil] at this;omega)) ?_
   refine go ?_;intros
   refine Av [] [] ?_
   refine dt 0 ?_
   refine dt 1 ?_
   refine dt 2 ?_
   refine dt 3 ?_
   refine dt 4 ?_ (hy:=Ih (i:=i+1) rfl rfl (by omega) (by omega) (by omega) (by omega))
   refine dt 5 ?_
   refine dt 6 ?_
   refine dt 7 ?_ (hy:=Ih (i:=i) rfl rfl (by omega) (by omega) (by omega) (by omega))
   refine dO 8 (by kernel_rfl) (by rw [List.getElem?_toArray];rfl) ?_
   refine Q5 (cs:=B) (L':=A++X++B++rest.drop 2) rfl rfl rfl (Jt (by exact Bw) eB) .here (Wh (P:=A++X) (M:=Y) (by rw [List.append_assoc A B rest,hXY];simp [List.append_assoc]) (by simp only [List.length_append];omega) hY) (by rw [hBl];congr 1;show _=min (xs.length+1 - i) (xs.length+1 - (i+1));omega) (by simp only [List.length_append];omega) h1B ?_
   refine dk ?_
   refine dd ?_
   refine go ?_;intros
   apply wO;apply oc;rfl;exact Ih (i:=i) rfl rfl rfl (by omega) (by omega) (by omega)
   refine go ?_;intros
   apply wO
   refine Q5 (cs:=[.int .i64 y.Ac,.int .i64 y.By]) (L':=A++[.int .i64 y.Ac,.int .i64 y.By]++(B++rest.drop 2)) rfl rfl rfl (Jt (L:=[.int .i64 y.Ac,.int .i64 y.By]) (o:=0) (m:=2) (by exact Bw) rfl) .here (Wh (M:=X) (by simp [List.append_assoc]) (by omega) (by simpa using hX)) (by show 2=min 1 (xs.length+1 - i) * 2;omega) (by simp only [List.length_append,List.length_cons,List.length_nil];omega) h1y ?_
   refine go ?_;intros
   refine Vn (L:=A++[.int .i64 y.Ac,.int .i64 y.By]++(B++rest.drop 2)) (cs:=A++[.int .i64 y.Ac,.int .i64 y.By]++B) (rest:=rest.drop 2) (xs:=xs.take i++y::xs.drop i) c (by simp [List.append_assoc]) hins (by omega) (by omega) (by rw [show Bi.sz=2 from rfl];simp only [List.length_append,List.length_cons,List.length_nil,List.length_drop];omega) ?_
   rw [hlen]
   refine ret (_,c,[g]) trivial rfl
instance:IntC prog 199 .u64:=⟨underlying199⟩
theorem Adn (fid:FuncId) (caps:List Value) (A:List Pc) (hA:A.all (fun p=>!p.mu)=true) (xs:List Fv) (a:Option Addr) (c:Nat) (F:List Nat) (tv:Value) (f:Fv→Int) (hm:∀i j (_:i≤j) (hj:j < xs.length),f xs[j] < 0→f (xs[i]'(by omega)) < 0) (hb:Mv prog fid=true) (hl:xs.length≤1000000)
  (hp:∀x∈xs,∀w,Mc A w→Calls prog fid ([.agg #[.int .i64 x.Ac,.int .i64 x.By],tv]++caps).toArray w fun e w'=>e=.returned (.int .i64 (f x))∧Below w.heap.size w w') :
  Fn prog 273 [.slice a xs.length c,tv,.func (.func fid) #[] caps.toArray] (.sl Bi (.slice a xs.length c) xs F::A) [] (fun (_:Unit)=>True) (fun _=>.tuple #[.int .i64 ((xs.takeWhile fun x=>decide (f x < 0)).length:Nat),.bool (Alq f xs[(xs.takeWhile fun x=>decide (f x < 0)).length]?)]) (fun _=>[]):=by
 refine enter func273 rfl ntmps273 (fun w0=>?_) rfl (by simpa [Pc.mu] using hA) .nil
 refine go ?_;intros
 refine Ds [0,1,2,6,7,8] (fun s:Nat × Nat=>[(9,.int .i64 (s.1:Nat)),(10,.int .i64 (s.2:Nat))]) (fun s=>s.1≤s.2∧s.2≤xs.length∧(∀j (_:j < s.1) (h:j < xs.length),f xs[j] < 0)∧(∀j (_:s.2≤j) (h:j < xs.length),¬f xs[j] < 0)) (fun s=>s.2 - s.1) (0,xs.length) ⟨Nat.zero_le _,Nat.le_refl _,fun j h=>by omega,fun j h1 h2=>by omega⟩ fun s hs=>?_
 obtain ⟨i,j⟩:=s
 obtain ⟨h1,h2,h3,h4⟩:=hs
 dsimp only at h1 h2 h3 h4 ⊢
 refine go ?_;intros
 refine Bd rfl (fun h5=>?_) (fun h5=>?_)
 ·have hh:(i+j) / 2 < xs.length:=by omega
  have e2:((i:Int)+(j:Int)) / 2=(((i+j) / 2:Nat):Int):=by omega
  refine go ?_;intros
  apply wO;apply oc;rfl;exact Aes rfl (by omega) (by omega)
  refine go ?_;intros
  apply wO;apply oc;rfl;exact Abm rfl
  rw [e2]
  apply wO;apply oc;rfl;exact Afm rfl (by omega) (by omega)
  generalize hq:(i+j) / 2=q at hh
  refine go ?_;intros
  refine Pl (xs:=xs) q ?_
  rintro hi b o e
  rw [e]
  refine go ?_;intros
  apply wO
  refine Wt rfl rfl hb Bb ?_
  refine cb (fun w st=>hp xs[q] (List.getElem_mem hh) w (fun p hp=>st.on p (by simp [hp]))) ?_
  refine go ?_;intros
  refine Bd rfl (fun h6=>?_) (fun h6=>?_)
  ·refine go ?_;intros
   refine Pn ?_
   refine Co (hH:=Ib _) (q+1,j) ⟨by show q+1≤j;omega,h2,fun k hk h=>hm k q (by have:k < q+1:=hk;omega) hh h6,h4⟩ (by show j - (q+1) < j - i;omega)
  ·refine go ?_;intros
   refine Pn ?_
   refine Co (hH:=Ib _) (i,q) ⟨by show i≤q;omega,by show q≤xs.length;omega,h3,fun k hk h hn=>h6 (hm q k hk h hn)⟩ (by show q - i < j - i;omega)
 ·have hij:i=j:=by omega
  subst hij
  have hk:(xs.takeWhile fun x=>decide (f x < 0)).length=i:=Ru h2 (fun j hj h=>decide_eq_true (h3 j hj h)) (fun h=>decide_eq_false (h4 i (Nat.le_refl _) h))
  rw [hk]
  refine go ?_;intros
  refine Cw rfl rfl (fun h6=>?_) (fun h6=>?_)
  ·have hh:i < xs.length:=by omega
   rw [List.getElem?_eq_getElem hh]
   refine go ?_;intros
   refine Pl (xs:=xs) i ?_
   rintro hi b o e
   rw [e]
   refine go ?_;intros
   apply wO
   refine Wt rfl rfl hb Bb ?_
   refine cb (fun w st=>hp xs[i] (List.getElem_mem hh) w (fun p hp=>st.on p (by simp [hp]))) ?_
   refine go ?_;intros
   refine ret () trivial rfl
  ·rw [List.getElem?_eq_none (by omega)]
   refine go ?_;intros
   refine ret () trivial rfl
theorem Xb {W:Az} {p:Aw} (hg:Dj W=true):(Da W p).1.data.size≤maxLen:=by
 unfold Da
 split
 ·rename_i h
  unfold Hx at h
  simp only [Bool.and_eq_true] at h
  have hk:=T9 h.2
  show (Tg W p.Ac).size≤maxLen
  rw [Py hk]
  have:=List.all_eq_true.1 (Ea.1 hg).2.2.2 _ (List.getElem_mem hk)
  unfold Nq at this
  simp only [Bool.and_eq_true,decide_eq_true_eq] at this
  unfold maxLen
  omega
 ·decide
theorem Ahm {t n:Int} {hs:List Fv} (hser:∀h∈hs,Bx h.Ac=true) (hn:0≤n∧n≤65535):(hs.takeWhile fun x=>decide (gp t x.Ac - gp t n < 0)).length=Ei t hs n ∧
  Alq (fun x:Fv=>gp t x.Ac - gp t n) hs[(hs.takeWhile fun x=>decide (gp t x.Ac - gp t n < 0)).length]?=Lg t hs n:=by
 have e:(fun x:Fv=>decide (gp t x.Ac - gp t n < 0))=fun h=>decide (gp t h.Ac < gp t n):=by
  funext x;rw [decide_eq_decide];omega
 have e1:(hs.takeWhile fun x=>decide (gp t x.Ac - gp t n < 0)).length=Ei t hs n:=by unfold Ei;rw [e]
 refine ⟨e1,?_⟩
 rw [e1]
 unfold Lg
 cases hq:hs[Ei t hs n]? with
 | none=>rfl
 | some z =>
  show decide (gp t z.Ac - gp t n=0)=decide (z.Ac=n)
  rw [decide_eq_decide]
  have hz:=A4.1 (hser z (List.mem_of_getElem? hq))
  exact ⟨fun h=>Ai0 (t:=t) hz hn (by omega),fun h=>by rw [h];omega⟩
theorem Aph (h:Fv) (n t:Int) (gb g o:Nat) (v1 v2 v3 v4 v5:Value) (t0:0≤t) (t1:t≤65535) (n0:0≤n) (n1:n≤65535) (m0:0≤h.Ac) (m1:h.Ac≤65535) :
  Fn prog 274 [.agg #[.int .i64 h.Ac,.int .i64 h.By],.int .i64 n,Eo gb 0 0] [.cel gb 0 [Eo g o 0],.cel g o [.int .i64 t,v1,v2,v3,v4,v5]] [] (fun (_:Unit)=>True) (fun _=>.int .i64 (gp t h.Ac - gp t n)) (fun _=>[]):=by
 have b1:=Iu t h.Ac
 have b2:=Iu t n
 refine enter func274 rfl ntmps274 fun w0=>?_
 refine go ?_;intros
 refine Av [0,1,2] [] ?_
 refine dt 0 ?_
 refine dt 1 ?_
 refine dt 2 ?_
 refine dt 3 ?_
 refine dt 4 ?_
 refine dt 5 ?_
 refine dt 6 ?_
 refine dt 8 ?_
 refine dt 9 ?_
 refine dt 10 ?_
 refine dt 11 ?_
 refine dt 12 ?_
 refine dt 13 ?_
 refine dO 7 (by kernel_rfl) (by rw [List.getElem?_toArray];rfl) ?_
 apply At;rfl;kernel_rfl;exact Bb
 refine ce (fun w s=>Lx _ _ _ (by omega) (by omega) (by omega) (by omega)) ?_
 refine dk ?_
 refine dO 14 (by kernel_rfl) (by rw [List.getElem?_toArray];rfl) ?_
 apply At;rfl;kernel_rfl;exact Bb
 refine ce (fun w s=>Lx _ _ _ (by omega) (by omega) (by omega) (by omega)) ?_
 refine dk ?_
 refine dt 15 ?_
 refine dt 16 ?_
 refine dd ?_
 refine go ?_;intros
 refine ret () trivial rfl
theorem Adv (W:Az) (hs:List Fv) (n:Int) (g t o:Nat) (A B:List Value) (a a2:Option Addr) (c c2:Nat) (cl q:Int) (F2:List Nat) (t0:0≤W.Ak) (t1:W.Ak≤65535) (n0:0≤n) (n1:n≤65535) (hser:∀h∈hs,Bx h.Ac=true) (hsr:srt W.Ak hs) (hl:hs.length≤1000000) :
  Fn prog 246 [Eo g o 0,.int .i64 n] [] [.row g t o A [.int .i64 W.Ak,.int .i64 W.size,.slice a W.Aj.length c,.int .i64 cl,.int .i64 q,.slice a2 hs.length c2] B,.ow Bi 134 (.slice a2 hs.length c2) hs F2] (fun (_:Unit)=>True) (fun _=>.tuple #[.int .i64 (Ei W.Ak hs n:Nat),.bool (Lg W.Ak hs n)]) (fun _=>[.row g t o A [.int .i64 W.Ak,.int .i64 W.size,.slice a W.Aj.length c,.int .i64 cl,.int .i64 q,.slice a2 hs.length c2] B,.ow Bi 134 (.slice a2 hs.length c2) hs F2]):=by
 have hs1:=Ahm (t:=W.Ak) hser ⟨n0,n1⟩
 refine enter func246 rfl ntmps246 fun w0=>?_
 refine go ?_;intros
 rename_i gb
 refine cb (fun w st=>by
  have r1:=st.get (p:=.row gb 167 0 [] [Eo g o 0] []) (by simp)
  have r2:=st.get (p:=.row g t o A [.int .i64 W.Ak,.int .i64 W.size,.slice a W.Aj.length c,.int .i64 cl,.int .i64 q,.slice a2 hs.length c2] B) (by simp)
  obtain ⟨Fw, -,hw⟩:=(st.get (p:=.ow Bi 134 (.slice a2 hs.length c2) hs F2) (by simp)).2.read
  refine (Adn 274 [Eo gb 0 0] [.cel gb 0 [Eo g o 0],.cel g o [.int .i64 W.Ak,.int .i64 W.size,.slice a W.Aj.length c,.int .i64 cl,.int .i64 q,.slice a2 hs.length c2]] rfl hs a2 c2 Fw (.int .i64 n) (fun h=>gp W.Ak h.Ac - gp W.Ak n) (fun i j hij hj h=>?_) (by kernel_rfl) hl fun x hx w' hA=>?_).val w ?_
  ·rcases Nat.lt_or_eq_of_le hij with h2|rfl
   ·have:=List.pairwise_iff_getElem.1 hsr i j (by omega) hj h2;omega
   ·exact h
  ·obtain ⟨m0,m1⟩:=A4.1 (hser x hx)
   exact (Aph x n W.Ak gb g o _ _ _ _ _ t0 t1 n0 n1 m0 m1).val w' hA
  ·intro p hp
   simp only [List.mem_cons,List.not_mem_nil,or_false] at hp
   rcases hp with rfl|rfl|rfl
   ·exact ⟨by decide,hw⟩
   ·exact ⟨by simp,Fb r1⟩
   ·exact ⟨by simp,Fb r2⟩) ?_
 rw [hs1.2]
 rw [hs1.1]
 refine go ?_;intros
 refine ret () trivial rfl
structure ReS where
 a:Option Addr
 c:Nat
 a2:Option Addr
 c2:Nat
 F:List Nat
 ae:Option Addr
 ce:Nat
 Fe:List Nat
theorem W9 (W:Az) (hs:List Fv) (p:Aw) (g t o:Nat) (A B:List Value) (a a2:Option Addr) (c c2:Nat) (cl q:Int) (F F2:List Nat) (hg:Cb ⟨W,cl,q,hs⟩=true) (n0:0≤p.Ac) (n1:p.Ac≤65535) (hps:p.data.size≤maxLen) :
  Fn prog 207 [Eo g o 0,.agg #[.int .i64 p.Cm,.int .i64 p.Ac,.int .i64 p.Ak,.int .i64 p.Dy,.string p.data]] [] [.row g t o A [.int .i64 W.Ak,.int .i64 W.size,.slice a W.Aj.length c,.int .i64 cl,.int .i64 q,.slice a2 hs.length c2] B,.ow Bi 134 (.slice a2 hs.length c2) hs F2,.ow A6 9 (.slice a W.Aj.length c) W.Aj F] (fun (_:ReS)=>True)
   (fun z=>.slice z.ae (Lo ⟨W,cl,q,hs⟩ p).length z.ce) (fun z=>[.row g t o A [.int .i64 W.Ak,.int .i64 W.size,.slice a W.Aj.length c,.int .i64 cl,.int .i64 q,.slice z.a2 (Jr ⟨W,cl,q,hs⟩ p.Ac).holds.length z.c2] B,.ow Bi 134 (.slice z.a2 (Jr ⟨W,cl,q,hs⟩ p.Ac).holds.length z.c2) (Jr ⟨W,cl,q,hs⟩ p.Ac).holds z.F,.ow A6 9 (.slice a W.Aj.length c) W.Aj F,.ow Al 110 (.slice z.ae (Lo ⟨W,cl,q,hs⟩ p).length z.ce) (Lo ⟨W,cl,q,hs⟩ p) z.Fe]):=by
 obtain ⟨gw,hl,t0,t1,k0,k1,hm,hn,hu,hbb⟩:=Mk hg
 have hsr:=(Ev.1 hg).2.2.2.2
 dsimp only at gw hl t0 t1 k0 k1 hm hn hu hbb hsr
 have hl2:hs.length≤1000000:=by omega
 have hW:Dj W=true:=gw
 refine enter func207 rfl ntmps207 fun w0=>?_
 cases hb:Gw W p.Ac
 ·have e1:Jr ⟨W,cl,q,hs⟩ p.Ac=⟨W,cl,q,hs⟩:=by unfold Jr;dsimp only;rw [hb];rfl
  have e2:Lo ⟨W,cl,q,hs⟩ p=[N7 W]:=by unfold Lo;dsimp only;rw [hb];rfl
  rw [e1,e2]
  refine go ?_;intros
  refine Av [0,1] [] ?_
  refine dt 0 ?_
  refine dt 1 ?_
  refine dt 2 ?_
  refine dt 3 ?_
  refine dt 4 ?_
  refine dt 5 ?_
  refine dO 6 (by kernel_rfl) (by rw [List.getElem?_toArray];rfl) ?_
  apply At;rfl;kernel_rfl;exact Bb
  refine cb (fun w st=>by obtain ⟨Fw, -,hw⟩:=(st.get (p:=.ow A6 9 (.slice a W.Aj.length c) W.Aj F) (by simp)).2.read;exact (Ri W p.Ac (.agg #[.int .i64 W.Ak,.int .i64 W.size,.slice a W.Aj.length c]) Fw t0 t1 n0 n1).val w (Ia ⟨_,rfl,_,rfl,hw⟩)) ?_
  rw [hb]
  refine dk ?_
  refine dt 7 ?_
  refine dd ?_
  refine go ?_;intros
  refine cf (Ac8 W.Ak W.size a W.Aj.length c t0 t1 (by omega)) fun _ _=>?_
  refine Ao ?_
  refine go ?_;intros
  refine Ee (xs:=[N7 W]) (Cz _ (by show (⟨#[]⟩:ByteArray).size≤maxLen;decide)) ?_ (by simp)
  refine ret ⟨a,c,a2,c2,F2,_,_,_⟩ trivial rfl
 refine go ?_;intros
 refine Av [0,1] [] ?_
 refine dt 0 ?_
 refine dt 1 ?_
 refine dt 2 ?_
 refine dt 3 ?_
 refine dt 4 ?_
 refine dt 5 ?_
 refine dO 6 (by kernel_rfl) (by rw [List.getElem?_toArray];rfl) ?_
 apply At;rfl;kernel_rfl;exact Bb
 refine cb (fun w st=>by obtain ⟨Fw, -,hw⟩:=(st.get (p:=.ow A6 9 (.slice a W.Aj.length c) W.Aj F) (by simp)).2.read;exact (Ri W p.Ac (.agg #[.int .i64 W.Ak,.int .i64 W.size,.slice a W.Aj.length c]) Fw t0 t1 n0 n1).val w (Ia ⟨_,rfl,_,rfl,hw⟩)) ?_
 rw [hb]
 refine dk ?_
 refine dt 7 ?_
 refine dd ?_
 refine go ?_;intros
 refine Av [0,1] [] ?_
 refine dt 0 ?_
 refine dt 1 ?_
 refine dt 2 ?_
 refine dt 3 ?_
 refine dt 4 ?_
 refine dt 5 ?_
 refine dt 6 ?_
 refine dt 7 ?_
 refine dt 8 ?_
 refine dt 9 ?_
 refine dt 10 ?_
 refine dO 11 (by kernel_rfl) (by rw [List.getElem?_toArray];rfl) ?_
 apply At;rfl;kernel_rfl;exact Bb
 refine cb (fun w _=>Iq _ _ _ _ _ w t0 t1 (by omega)) ?_
 refine dk ?_
 refine dt 12 ?_
 refine dO 13 (by kernel_rfl) (by rw [List.getElem?_toArray];rfl) ?_
 apply Hh;rfl;rfl;rfl;rfl;exact Gz;exact Gp;intro _
 refine dk ?_
 refine dt 14 ?_
 refine dd ?_
 refine Jq ?_;intros
 refine Ee (xs:=[T3 W p.Ac]) (Cz _ (by show (⟨#[]⟩:ByteArray).size≤maxLen;decide)) ?_ (by simp)
 refine go ?_;intros
 refine cf (Adv W hs p.Ac g t o A B a a2 c c2 cl q F2 t0 t1 n0 n1 hn hsr hl2) fun _ _=>?_
 refine Ao ?_
 cases ht:Lg W.Ak hs p.Ac
 ·have e1:Jr ⟨W,cl,q,hs⟩ p.Ac=⟨W,cl,q,Ir hs (Ei W.Ak hs p.Ac) ⟨p.Ac,cl+3⟩⟩:=by unfold Jr;dsimp only;rw [hb,ht];rfl
  have e2:Lo ⟨W,cl,q,hs⟩ p=[T3 W p.Ac]++[(Da W p).1]:=by unfold Lo;dsimp only;rw [hb,ht];rfl
  rw [e1,e2]
  refine go ?_;intros
  refine Av [0,3] [18] ?_
  refine dt 0 ?_
  refine dt 1 ?_
  refine dt 2 ?_
  refine dt 3 ?_
  refine dt 4 ?_
  refine dt 5 ?_
  refine dt 6 ?_
  refine dt 7 ?_
  refine dt 8 ?_
  refine dt 9 ?_
  refine dt 10 ?_
  refine dt 11 ?_
  refine dt 12 ?_
  refine dt 13 ?_
  refine dO 14 (by kernel_rfl) (by rw [List.getElem?_toArray];rfl) ?_
  apply Hh;rfl;rfl;rfl;rfl;exact Gz;exact Gp;intro _
  refine dk ?_
  refine dO 15 (by kernel_rfl) (by rw [List.getElem?_toArray];rfl) ?_
  apply At;rfl;kernel_rfl;exact Bb
  refine cf (Afr hs ⟨p.Ac,cl+3⟩ (Ei W.Ak hs p.Ac) a2 c2 _ F2 (Sf _ _ _) hl2) fun z _=>?_
  refine Ao ?_
  refine dk ?_
  refine dt 16 ?_
  refine dt 17 ?_
  refine dO 18 (by kernel_rfl) (by rw [List.getElem?_toArray];rfl) ?_
  apply Cf;rfl;rfl;rfl;(first|exact AggC.s|exact OneC.s);rfl;exact Ci;exact Cg;rfl
  refine Lv ?_
  refine dd ?_
  refine go ?_;intros
  refine Av [1,3] [] ?_
  refine dt 0 ?_
  refine dt 1 ?_
  refine dt 2 ?_
  refine dt 3 ?_
  refine dt 4 ?_
  refine Nn 5 9 (by kernel_rfl) (by rw [List.getElem?_toArray];rfl) (by rw [List.getElem?_toArray];rfl) ?_ ?_
  ·apply At;rfl;kernel_rfl;exact Bb
   refine cb (fun w st=>by obtain ⟨Fw, -,hw⟩:=(st.get (p:=.ow A6 9 (.slice a W.Aj.length c) W.Aj F) (by simp)).2.read;exact (W1 W p (.agg #[.int .i64 W.Ak,.int .i64 W.size,.slice a W.Aj.length c]) Fw hps).val w (Ia ⟨_,rfl,_,rfl,hw⟩)) ?_
   refine dk ?_
   refine dt 6 ?_
   refine dt 7 ?_
   refine dt 8 ?_
   refine dO 9 (by kernel_rfl) (by rw [List.getElem?_toArray];rfl) ?_
   apply Bv;rfl;intro _
   refine dk ?_
   refine dO 10 (by kernel_rfl) (by rw [List.getElem?_toArray];rfl) ?_
   apply Cf;rfl;rfl;rfl;(first|exact AggC.s|exact OneC.s);rfl;exact Ci;exact Cg;rfl
   refine dk ?_
   refine dt 11 ?_
   refine dd ?_
   refine go ?_;intros
   apply wO
   refine Lh (Cz (Da W p).1 (Xb hW)) Gn fun a9 c9 F9=>?_
   refine go ?_;intros
   refine ret ⟨a,c,z.1,z.2.1,_,a9,c9,F9⟩ trivial rfl
  ·apply Bv;rfl;intro _
   refine dk ?_
   refine dO 5 (by kernel_rfl) (by rw [List.getElem?_toArray];rfl) ?_
   apply At;rfl;kernel_rfl;exact Bb
   refine cb (fun w st=>by obtain ⟨Fw, -,hw⟩:=(st.get (p:=.ow A6 9 (.slice a W.Aj.length c) W.Aj F) (by simp)).2.read;exact (W1 W p (.agg #[.int .i64 W.Ak,.int .i64 W.size,.slice a W.Aj.length c]) Fw hps).val w (Ia ⟨_,rfl,_,rfl,hw⟩)) ?_
   refine dk ?_
   refine dt 6 ?_
   refine dt 7 ?_
   refine dt 8 ?_
   refine dO 10 (by kernel_rfl) (by rw [List.getElem?_toArray];rfl) ?_
   apply Cf;rfl;rfl;rfl;(first|exact AggC.s|exact OneC.s);rfl;exact Ci;exact Cg;rfl
   refine dk ?_
   refine dt 11 ?_
   refine dd ?_
   refine go ?_;intros
   apply wO
   refine Lh (Cz (Da W p).1 (Xb hW)) Gn fun a9 c9 F9=>?_
   refine go ?_;intros
   refine ret ⟨a,c,z.1,z.2.1,_,a9,c9,F9⟩ trivial rfl
 ·have e1:Jr ⟨W,cl,q,hs⟩ p.Ac=⟨W,cl,q,hs⟩:=by unfold Jr;dsimp only;rw [hb,ht];rfl
  have e2:Lo ⟨W,cl,q,hs⟩ p=[T3 W p.Ac]:=by unfold Lo;dsimp only;rw [hb,ht];rfl
  rw [e1,e2]
  refine go ?_;intros
  refine ret ⟨a,c,a2,c2,F2,_,_,_⟩ trivial rfl
theorem Aoe (x:Cj) (n:Int):(Jr x n).Aa=x.Aa:=by unfold Jr;split <;> rfl
theorem Aoc (x:Cj) (n:Int):(Jr x n).Ai=x.Ai:=by unfold Jr;split <;> rfl
theorem Aod (x:Cj) (n:Int):(Jr x n).quiet=x.quiet:=by unfold Jr;split <;> rfl
theorem Afb {n:En} {i k:Nat} (hg:Mu n.Ar.Ad) (hi:i < n.Ar.Ad.length) (h0:i≠0) (h:X8 n i=k):n.Ar.Ad[i]=((k:Nat):Int)∧k < i∧Hj n.Ar.Ad ((k:Nat):Int)=false:=by
 have h1:=hg.p i hi (by omega)
 have e:n.Ar.Ad.getD i 0=n.Ar.Ad[i]:=Xn hi 0
 unfold X8 at h
 rw [e] at h
 have e2:n.Ar.Ad[i]=((k:Nat):Int):=by omega
 refine ⟨e2,by omega,?_⟩
 unfold Hj
 rw [←e2,decide_eq_true (List.getElem_mem hi)];rfl
theorem Aku (n:En) (i:Nat) (p:Aw) (g:Nat) (a1:Option Addr) (c1:Nat) (F1:List Nat) (a2:Option Addr) (c2:Nat) (F2:List Nat) (a3:Option Addr) (c3:Nat) (F3:List Nat) (a4:Option Addr) (c4:Nat) (F4:List Nat) (a5:Option Addr) (c5:Nat) (F5:List Nat) (a6:Option Addr) (c6:Nat) (F6:List Nat) (a7:Option Addr) (c7:Nat) (F7:List Nat) (hl:Iw n=true) (h0:i≠0) (hi:i < n.Ar.Ad.length) (h8:Mu n.Ar.Ad) (hsrc:Cb n.Ab=true) (he:∀k,k≠0→k < n.Ar.Ad.length→Hj n.Ar.Ad (k:Nat)=false→Bc (So n k)=true) (hp:Bk p=true) (hps:p.data.size≤maxLen) :
  Fn prog 148 [Eo g 0 0,.int .i64 (i:Nat),.agg #[.int .i64 (p).Cm,.int .i64 (p).Ac,.int .i64 (p).Ak,.int .i64 (p).Dy,.string (p).data]] [] [.row g 37 0 [] [.slice a1 n.Ar.Ad.length c1,.int .i64 n.Ab.Aa.Ak,.int .i64 n.Ab.Aa.size,.slice a2 n.Ab.Aa.Aj.length c2,.int .i64 n.Ab.Ai,.int .i64 n.Ab.quiet,.slice a3 n.Ab.holds.length c3,.slice a4 n.Ah.length c4,.slice a5 n.Ae.length c5,.slice a6 n.down.length c6,.slice a7 n.up.length c7] [],.ow Be 3 (.slice a1 n.Ar.Ad.length c1) n.Ar.Ad F1,.ow A6 9 (.slice a2 n.Ab.Aa.Aj.length c2) n.Ab.Aa.Aj F2,.ow Bi 134 (.slice a3 n.Ab.holds.length c3) n.Ab.holds F3,.ow B4 77 (.slice a4 n.Ah.length c4) n.Ah F4,.ow Bt 84 (.slice a5 n.Ae.length c5) n.Ae F5,.ow (H9 Al 110) 86 (.slice a6 n.down.length c6) n.down F6,.ow (H9 Al 110) 86 (.slice a7 n.up.length c7) n.up F7] (fun (_:NV)=>True) (fun _=>.tuple #[]) (fun z=>[.row g 37 0 [] [.slice z.a1 n.Ar.Ad.length z.c1,.int .i64 (Nd n i p).Ab.Aa.Ak,.int .i64 (Nd n i p).Ab.Aa.size,.slice z.a2 (Nd n i p).Ab.Aa.Aj.length z.c2,.int .i64 (Nd n i p).Ab.Ai,.int .i64 (Nd n i p).Ab.quiet,.slice z.a3 (Nd n i p).Ab.holds.length z.c3,.slice z.a4 n.Ah.length z.c4,.slice z.a5 n.Ae.length z.c5,.slice z.a6 n.down.length z.c6,.slice z.a7 n.up.length z.c7] [],.ow Be 3 (.slice z.a1 n.Ar.Ad.length z.c1) (Nd n i p).Ar.Ad z.F1,.ow A6 9 (.slice z.a2 (Nd n i p).Ab.Aa.Aj.length z.c2) (Nd n i p).Ab.Aa.Aj z.F2,.ow Bi 134 (.slice z.a3 (Nd n i p).Ab.holds.length z.c3) (Nd n i p).Ab.holds z.F3,.ow B4 77 (.slice z.a4 n.Ah.length z.c4) (Nd n i p).Ah z.F4,.ow Bt 84 (.slice z.a5 n.Ae.length z.c5) (Nd n i p).Ae z.F5,.ow (H9 Al 110) 86 (.slice z.a6 n.down.length z.c6) (Nd n i p).down z.F6,.ow (H9 Al 110) 86 (.slice z.a7 n.up.length z.c7) (Nd n i p).up z.F7]):=by
 obtain ⟨q1,q2,q3,q4⟩:=Bz.1 hl
 have hn8:=h8.n1
 obtain ⟨n0,n1⟩:=If hp
 have hone:∀x∈[((i:Nat):Int)],0≤x∧x.toNat < n.down.length:=fun x hx=>by
  rw [List.mem_singleton] at hx;subst hx;omega
 obtain ⟨k,hk⟩:∃k,X8 n i=k:=⟨_,rfl⟩
 obtain ⟨e1,e2,e3⟩:=Afb h8 hi h0 hk
 refine enter func148 rfl ntmps148 fun w0=>?_
 refine Ob (xs:=n.Ar.Ad) (m:=1) Dp i ?_ (by repeat (first|exact .here|apply Cu.there)) rfl hi
 rintro _ gp A0 cs B0 rfl rfl hr hH
 obtain ⟨rfl, -⟩:=hr w0
 rw [e1]
 refine go ?_;intros
 refine Nc ((k:Nat):Int) hH (fun w=>⟨rfl,rfl⟩) ?_
 rw [show n.Ar.Ad.set i ((k:Nat):Int)=n.Ar.Ad by rw [←e1,List.set_getElem_self]]
 refine Bd rfl (fun h5=>?_) (fun h5=>?_)
 ·obtain rfl:k=0:=by omega
  rw [show Nd n i p=⟨n.Ar,Jr n.Ab p.Ac,n.Ah,n.Ae,Dk n.down [((i:Nat):Int)] (Lo n.Ab p),n.up⟩ by unfold Nd;rw [if_pos hk]]
  dsimp only
  rw [Aoe,Aoc,Aod]
  refine go ?_;intros
  refine Afk [.slice (some ⟨gp,0,none⟩) n.Ar.Ad.length c1] [.int .i64 n.Ab.Aa.Ak,.int .i64 n.Ab.Aa.size,.slice a2 n.Ab.Aa.Aj.length c2,.int .i64 n.Ab.Ai,.int .i64 n.Ab.quiet,.slice a3 n.Ab.holds.length c3] [.slice a4 n.Ah.length c4,.slice a5 n.Ae.length c5,.slice a6 n.down.length c6,.slice a7 n.up.length c7] ?_
  refine Av [2] [] ?_
  refine dt 0 ?_
  refine dt 1 ?_
  refine dt 3 ?_
  refine dt 4 ?_
  refine dt 5 ?_
  refine dt 6 ?_
  refine Nn 2 7 (by kernel_rfl) (by rw [List.getElem?_toArray];rfl) (by rw [List.getElem?_toArray];rfl) ?_ ?_
  ·apply Hh;rfl;rfl;rfl;rfl;exact Gz;exact Gp;intro _
   refine Ee (E:=Be) (xs:=[((i:Nat):Int)]) (Mo _) ?_ (by simp)
   refine Ax (E:=Be) (xs:=[((i:Nat):Int)]) fun Fo=>?_
   refine dk ?_
   refine dO 7 (by kernel_rfl) (by rw [List.getElem?_toArray];rfl) ?_
   apply At;rfl;kernel_rfl;exact Bb
   refine cf (W9 n.Ab.Aa n.Ab.holds p g 37 (0+1) _ _ a2 a3 c2 c3 n.Ab.Ai n.Ab.quiet F2 F3 hsrc n0 n1 hps) fun z _=>?_
   refine Ao ?_
   refine Ys [.slice (some ⟨gp,0,none⟩) n.Ar.Ad.length c1] [.int .i64 n.Ab.Aa.Ak,.int .i64 n.Ab.Aa.size,.slice a2 n.Ab.Aa.Aj.length c2,.int .i64 n.Ab.Ai,.int .i64 n.Ab.quiet,.slice z.a2 (Jr n.Ab p.Ac).holds.length z.c2] [.slice a4 n.Ah.length c4,.slice a5 n.Ae.length c5,.slice a6 n.down.length c6,.slice a7 n.up.length c7] ?_
   refine Ax (E:=Al) (xs:=Lo n.Ab p) fun Fq=>?_
   refine dk ?_
   refine dO 8 (by kernel_rfl) (by rw [List.getElem?_toArray];rfl) ?_
   apply At;rfl;kernel_rfl;exact Bb
   refine cf (Td n.down [((i:Nat):Int)] (Lo n.Ab p) g _ _ _ _ _ _ _ _ _ _ a6 _ c6 F6 _ _ Fo _ _ Fq rfl hone) fun J6 _=>?_
   refine Ao ?_
   refine dk ?_
   refine dd ?_
   refine go ?_;intros
   refine ret (⟨some ⟨gp,0,none⟩,c1,[gp],a2,c2,F2,z.a2,z.c2,z.F,a4,c4,F4,a5,c5,F5,a6,c6,J6,a7,c7,F7⟩:NV) trivial rfl
  ·apply At;rfl;kernel_rfl;exact Bb
   refine cf (W9 n.Ab.Aa n.Ab.holds p g 37 (0+1) _ _ a2 a3 c2 c3 n.Ab.Ai n.Ab.quiet F2 F3 hsrc n0 n1 hps) fun z _=>?_
   refine Ao ?_
   refine Ys [.slice (some ⟨gp,0,none⟩) n.Ar.Ad.length c1] [.int .i64 n.Ab.Aa.Ak,.int .i64 n.Ab.Aa.size,.slice a2 n.Ab.Aa.Aj.length c2,.int .i64 n.Ab.Ai,.int .i64 n.Ab.quiet,.slice z.a2 (Jr n.Ab p.Ac).holds.length z.c2] [.slice a4 n.Ah.length c4,.slice a5 n.Ae.length c5,.slice a6 n.down.length c6,.slice a7 n.up.length c7] ?_
   refine Ax (E:=Al) (xs:=Lo n.Ab p) fun Fq=>?_
   refine dk ?_
   refine dO 2 (by kernel_rfl) (by rw [List.getElem?_toArray];rfl) ?_
   apply Hh;rfl;rfl;rfl;rfl;exact Gz;exact Gp;intro _
   refine Ee (E:=Be) (xs:=[((i:Nat):Int)]) (Mo _) ?_ (by simp)
   refine Ax (E:=Be) (xs:=[((i:Nat):Int)]) fun Fo=>?_
   refine dk ?_
   refine dO 8 (by kernel_rfl) (by rw [List.getElem?_toArray];rfl) ?_
   apply At;rfl;kernel_rfl;exact Bb
   refine cf (Td n.down [((i:Nat):Int)] (Lo n.Ab p) g _ _ _ _ _ _ _ _ _ _ a6 _ c6 F6 _ _ Fo _ _ Fq rfl hone) fun J6 _=>?_
   refine Ao ?_
   refine dk ?_
   refine dd ?_
   refine go ?_;intros
   refine ret (⟨some ⟨gp,0,none⟩,c1,[gp],a2,c2,F2,z.a2,z.c2,z.F,a4,c4,F4,a5,c5,F5,a6,c6,J6,a7,c7,F7⟩:NV) trivial rfl
 have h6:k≠0:=by omega
 have hkl:k < n.Ah.length:=by omega
 have hku:k < n.up.length:=by omega
 have hge:Bc n.Ah[k]=true:=Is hkl▸he k h6 (by omega) e3
 have hel:=(Ew.1 hge).2.1
 obtain ⟨hc0,hc1⟩:=J4.1 (Ew.1 hge).1
 rw [show Nd n i p=⟨n.Ar,n.Ab,n.Ah.set k (Ki n.Ah[k] p.Ac ((i:Nat):Int)),n.Ae,Dk n.down [((i:Nat):Int)] [Uy p],if Wi n.Ah[k] p.Ac then n.up.modify k fun q=>E5 q [p] else n.up⟩ by unfold Nd;rw [if_neg (by omega),hk,Is hkl]]
 refine go ?_;intros
 refine Y6 (xs:=n.Ah) (m:=2) k ?_ rfl hkl
 rintro _ g5 A5 cs B5 k1 k2 J1 Ji J2 rfl - hc5 hH5
 refine Gg ?_
 rintro b1 d1 G1 ev l1
 obtain rfl:cs=[.int .i64 n.Ah[k].Ai,.slice b1 n.Ah[k].Af.length d1]:=by simpa using ev
 refine Av [5,6] [] ?_
 refine dt 0 ?_
 refine dt 1 ?_
 refine dt 2 ?_
 refine dt 3 ?_
 refine dt 4 ?_
 refine dt 5 ?_
 refine dt 6 ?_
 refine dt 7 ?_
 refine dt 8 ?_
 refine dO 9 (by kernel_rfl) (by rw [List.getElem?_toArray];rfl) ?_
 apply At;rfl;kernel_rfl;exact Bb
 refine cf (Adm n.Ah[k] p.Ac ((i:Nat):Int) g5 77 (0+k * 2) A5 B5 b1 d1 G1 (by omega) (fun x hx=>⟨by have:=Lw hge hx;omega,Ab5 hge hx⟩) (by omega) (by omega)) fun s _=>?_
 refine Ao ?_
 refine dk ?_
 refine dt 10 ?_
 refine dd ?_
 refine Ey (Ki n.Ah[k] p.Ac ((i:Nat):Int)) ?_
 refine Vt _ hH5 rfl fun J5=>?_
 refine Jq ?_;intros
 refine Ee (E:=Be) (xs:=[((i:Nat):Int)]) (Mo _) ?_ (by simp)
 refine Ax (E:=Be) (xs:=[((i:Nat):Int)]) fun Fo=>?_
 refine Ee (E:=Al) (xs:=[Uy p]) (Cz (Uy p) (Nat.zero_le _)) ?_ (by simp)
 refine Ax (E:=Al) (xs:=[Uy p]) fun Fp=>?_
 refine go ?_;intros
 refine cf (Td n.down [((i:Nat):Int)] [Uy p] g _ _ _ _ _ _ _ _ _ _ a6 _ c6 F6 _ _ Fo _ _ Fp rfl hone) fun J6 _=>?_
 refine Ao ?_
 cases hf:Wi n.Ah[k] p.Ac
 ·rw [if_neg (by decide)]
  refine go ?_;intros
  refine Qv ?_
  refine ret (⟨some ⟨gp,0,none⟩,c1,[gp],a2,c2,F2,a3,c3,F3,_,c4,J5,a5,c5,F5,a6,c6,J6,a7,c7,F7⟩:NV) trivial rfl
 ·rw [if_pos rfl,show (n.up.modify k fun q=>E5 q [p])=n.up.set k (P6 n.up[k] p) by rw [Hf hku,Ajv]]
  refine go ?_;intros
  refine Av [0,6] [] ?_
  refine dt 0 ?_
  refine dt 1 ?_
  refine dt 2 ?_
  refine dt 3 ?_
  refine dt 4 ?_
  refine dt 5 ?_
  refine dO 6 (by kernel_rfl) (by rw [List.getElem?_toArray];rfl) ?_
  apply At;rfl;kernel_rfl;exact Bb
  refine cf (Vd n.up k p a7 _ c7 F7 rfl hku hps) fun J7 _=>?_
  refine Ao ?_
  refine dk ?_
  refine dd ?_
  refine go ?_;intros
  refine Qv ?_
  refine ret (⟨some ⟨gp,0,none⟩,c1,[gp],a2,c2,F2,a3,c3,F3,_,c4,J5,a5,c5,F5,a6,c6,J6,a7,c7,J7⟩:NV) trivial rfl
def Ajc (es:List Es) (ck:Int):List Es:=es.filter fun x=>!decide (x.By≤ck)
theorem Ais (x:Es) (ck:Int) (gb g o:Nat) (u q:Value) (G:List Nat):Fn prog 199 [u,Eo gb 0 0] [.isv C3 u x G,.cel gb 0 [Eo g o 0],.cel g o [.int .i64 ck,q]] [] (fun (_:Unit)=>True) (fun _=>.bool (decide (x.By≤ck))) (fun _=>[]):=by
 refine enter func199 rfl ntmps199 fun w0=>?_
 refine Z3 ?_
 rintro a1 c1 F1 rfl l1
 refine go ?_;intros
 refine Av [0,3,4] [] ?_
 refine dt 0 ?_
 refine dt 1 ?_
 refine dt 2 ?_
 refine dt 3 ?_
 refine dt 4 ?_
 refine dt 5 ?_
 refine dt 6 ?_
 refine dt 7 ?_
 refine dd ?_
 refine go ?_;intros
 refine ret () trivial rfl
theorem Ait (es:List Es) (ck:Int) (gb tb g t o:Nat) (A B:List Value) (a:Option Addr) (c:Nat) (F:List Nat) :
  Fn prog 198 [.slice a es.length c,.func (.func 199) #[] #[Eo gb 0 0]] [] [.ow Dz 136 (.slice a es.length c) es F,.row gb tb 0 [] [Eo g o 0] [],.row g t o A [.int .i64 ck,.slice a es.length c] B] (fun (_:Option Addr × Nat × List Nat)=>True)
   (fun z=>.slice z.1 (Ajc es ck).length z.2.1) (fun z=>[.ow Dz 136 (.slice z.1 (Ajc es ck).length z.2.1) (Ajc es ck) z.2.2,.row gb tb 0 [] [Eo g o 0] [],.row g t o A [.int .i64 ck,.slice a es.length c] B]):=by
 refine Adw rfl fun w ⟨hnd,ho⟩ _ hk=>?_
 refine (Up _ (Qe (by kernel_rfl)) #[Eo gb 0 0] _ es F (fun x=>decide (x.By≤ck)) w ho hnd fun k hk2 wr u G hK hu=>?_).mono ?_
 ·have hr:=hk wr hK
  have r1:=hr (.row gb tb 0 [] [Eo g o 0] []) (by simp)
  have r2:=hr (.row g t o A [.int .i64 ck,.slice a es.length c] B) (by simp)
  refine (Ais es[k] ck gb g o u (.slice a es.length c) G).val wr ?_
  intro p hp
  simp only [List.mem_cons,List.not_mem_nil,or_false] at hp
  rcases hp with rfl|rfl|rfl
  ·exact hu
  ·exact ⟨by simp,Fb r1⟩
  ·exact ⟨by simp,Fb r2⟩
 ·rintro e w' ⟨v',F',rfl,h1,h2,h3,h4⟩
  obtain ⟨a',c',rfl⟩:=h1.slice
  exact ⟨(a',c',F'),trivial,rfl,⟨h2,h1⟩,fun b hb=>.inl (h3 b hb),h4⟩
theorem Ak2 (e:Bl) (g t o:Nat) (A B:List Value) (a:Option Addr) (c:Nat) (F:List Nat) (h0:-1000000≤e.Ai) (h1:e.Ai≤1000000) :
  Fn prog 142 [Eo g o 0] [] [.row g t o A [.int .i64 e.Ai,.slice a e.Af.length c] B,.ow Dz 136 (.slice a e.Af.length c) e.Af F] (fun (_:Option Addr × Nat × List Nat)=>True)
   (fun _=>.tuple #[]) (fun z=>[.row g t o A [.int .i64 (Dw e).Ai,.slice z.1 (Dw e).Af.length z.2.1] B,.ow Dz 136 (.slice z.1 (Dw e).Af.length z.2.1) (Dw e).Af z.2.2]):=by
 refine enter func142 rfl ntmps142 fun w0=>?_
 refine go ?_;intros
 refine Av [0,1] [9] ?_
 refine dt 0 ?_
 refine dt 1 ?_
 refine dt 2 ?_
 refine dt 3 ?_
 refine dt 4 ?_
 refine dt 5 ?_
 refine dO 6 (by kernel_rfl) (by rw [List.getElem?_toArray];rfl) ?_
 apply At;rfl;kernel_rfl;exact Bb
 refine cf (Ait e.Af (e.Ai+1) _ _ g t o A B a c F) fun z _=>?_
 refine Ao ?_
 refine dk ?_
 refine dt 7 ?_
 refine dt 8 ?_
 refine dO 9 (by kernel_rfl) (by rw [List.getElem?_toArray];rfl) ?_
 apply Cf;rfl;rfl;rfl;(first|exact AggC.s|exact OneC.s);rfl;exact Ci;exact Cg;rfl
 refine Lv ?_
 refine dd ?_
 refine Qv ?_
 refine ret (_,_,_) trivial rfl
theorem Aj6 {g t o k:Nat} {A B X cs Y:List Value} (hk:X.length=k) {w:World}:(Pc.row g t (o+k) (A++X) cs (Y++B)).P w↔(Pc.row g t o A (X++cs++Y) B).P w:=by
 show ((A++X).length=o+k∧Gt w g t (A++X++cs++(Y++B)))↔(A.length=o∧Gt w g t (A++(X++cs++Y)++B))
 rw [List.length_append,hk]
 have e:A++X++cs++(Y++B)=A++(X++cs++Y)++B:=by simp [List.append_assoc]
 rw [e]
 exact ⟨fun h=>⟨by omega,h.2⟩,fun h=>⟨by omega,h.2⟩⟩
theorem Ai2 {p q:Pc} {R:List Pc} {w:World} (h:p.P w→q.P w) (hH:Mc (p::R) w):Mc (q::R) w:=fun x hx=>by
 rcases List.mem_cons.1 hx with rfl|hx
 ·exact h (hH p (by simp))
 ·exact hH x (by simp [hx])
theorem Aka {p q:Pc} {R:List Pc} (hm:p.mu=q.mu) (hF:p.F=q.F) (hS:Pe (p::R)):Pe (q::R):=⟨fun x hx hmu b hb=>hS.1 x hx (by rw [hm];exact hmu) b (by rw [hF];exact hb),hS.2⟩
theorem Aix {P:Program} {f:FuncId} {args:List Value} {A M':List Pc} {g t o k:Nat} {A' B X cs Y L:List Value} {σ:Type} {C:σ→Prop} {v:σ→Value} {cs' L':σ→List Value} {N':σ→List Pc}
  (h:Fn P f args A (.row g t (o+k) (A'++X) cs (Y++B)::M') C v (fun s=>.row g t (o+k) (A'++X) (cs' s) (Y++B)::N' s)) (hk:X.length=k) (hL:L=X++cs++Y) (hL':∀s,L' s=X++cs' s++Y) :
  Fn P f args A (.row g t o A' L B::M') C v (fun s=>.row g t o A' (L' s) B::N' s):=fun w hH hS=>by
 subst hL
 refine (h w (Ai2 (Aj6 hk).2 hH) (Aka rfl rfl hS)).mono ?_
 rintro e w' ⟨s,hC,he,h1,h2,h3,h4⟩
 refine ⟨s,hC,he,?_,Aka rfl rfl h2,?_,?_⟩
 ·show Mc (.row g t o A' (L' s) B::N' s) w'
  rw [hL' s]
  exact Ai2 (Aj6 hk).1 h1
 ·simpa [fp,Pc.mu,Pc.F] using h3
 ·intro p hp b hb
  have hp':∃q∈(Pc.row g t (o+k) (A'++X) (cs' s) (Y++B)::N' s),q.mu=p.mu∧b∈q.F:=by
   rcases List.mem_cons.1 hp with rfl|hp
   ·exact ⟨_,.head _,rfl,hb⟩
   ·exact ⟨p,.tail _ hp,rfl,hb⟩
  obtain ⟨q,hq,hm,hbq⟩:=hp'
  rcases h4 q hq b hbq with h|⟨x,hx,hbx⟩|⟨hm2,x,hx,hbx⟩
  ·exact .inl h
  ·refine .inr (.inl ?_)
   rcases List.mem_cons.1 hx with rfl|hx
   ·exact ⟨_,.head _,hbx⟩
   ·exact ⟨x,.tail _ hx,hbx⟩
  ·exact .inr (.inr ⟨by rw [←hm];exact hm2,x,hx,hbx⟩)
section
variable {c:Cx} {fr:Fr} {H:List Pc} {k:List It} {Φ:Gl} {ops:Array Oper} {o:Op} {d:Nat} {v:Value} {ty:TypeId} {pos:String} {Ca:Array Edge} {H0:List Pc} {X:List Nat} {f:Nat} {listed:Array Bool}
theorem dsI {id:Nat} {l:List Oper} (H0:List Pc) (X:List Nat) (h:T c fr H (.dx k H0 X l.toArray l.length (Array.replicate l.length false))) (hm:c.P.follows .mixedOrders=true:=by kernel_rfl):T c fr H (.Bm k (Code.region id l.toArray true)):=.mk fun a w s g=>by
 refine Cy.start (S:=Mc H0) (X:=fun i=>X.contains i) hm ?_
 have:=h.h a w.drew (s.below (D5 (Below.refl _ _) 1)) g
 simpa [Gl.sem] using this
theorem dtI (i:Nat) (hI:∀w,Mc H w→Mc H0 w) (h:T c ((d,v)::fr) H (.dx k H0 X ops f (listed.setIfInBounds i true))) (ho:ops[i]?=some ⟨some d,o,ty,pos,Ca,none⟩:=by rw [List.getElem?_toArray];rfl) (hy:Yd c.P c.n fr H0 o ty v:=by exact ydE)
  (h1:Region.noSelect ops=true:=by kernel_rfl) (h2:Region.free .any ops listed i=true:=by kernel_rfl) (h3:(Region.ready .any ops listed).contains i=true:=by kernel_rfl) (h4:Nz .any ops (fun i=>X.contains i) i=true:=by kernel_rfl) (h5:Oa .any ops listed=true:=by kernel_rfl) (hR:Ty c:=by exact V7) (hd:Nat.blt d c.n=true:=by rfl) :
  T c fr H (.dx k H0 X ops (f+1) listed):=.mk fun a w s g =>
 Cy.take (v:=v) ho h1 h2 h3 h4 h5 (fun ch a w hp=>by rw [Jd] at hp ⊢;exact hR _ _ _ _ _ hp) (.inl ⟨rfl,fun w' hw'=>hy.h a w' _ _ _ _ g hw'⟩) (hI w s.on) (h.h _ _ s (g.put hd))
theorem dkI {i:Nat} (hI:∀w,Mc H w→Mc H0 w) (h:T c fr H (.dx k H0 X ops f listed)):T c fr H (.dk i k H0 X ops f listed):=.mk fun a w s g=>⟨fun _=>hI w s.on,h.h a w s g⟩
end
theorem E6 {g t:Nat} {x:Value} {r:List Value} {w:World} (h:(Pc.row g t 0 [] (x::r) []).P w):(Pc.cel g 0 [x]).P w:=⟨by simp,fun j u hu=>by
 cases j with
 | zero=>exact Fb h 0 u (by simpa using hu)
 | succ j=>simp at hu⟩
structure TkN where
 k:Nat
 z:NV
 a:Option Addr
 c:Nat
 F:List Nat
theorem Ak5 (n:En) (g:Nat) (a1:Option Addr) (c1:Nat) (F1:List Nat) (a2:Option Addr) (c2:Nat) (F2:List Nat) (a3:Option Addr) (c3:Nat) (F3:List Nat) (a4:Option Addr) (c4:Nat) (F4:List Nat) (a5:Option Addr) (c5:Nat) (F5:List Nat) (a6:Option Addr) (c6:Nat) (F6:List Nat) (a7:Option Addr) (c7:Nat) (F7:List Nat) (FT:List Nat) (hg:A8 n=true) (hc:n.Ab.Ai < 9999) :
  Fn prog 82 [Eo g 0 0] [Li FT] [.row g 37 0 [] [.slice a1 n.Ar.Ad.length c1,.int .i64 n.Ab.Aa.Ak,.int .i64 n.Ab.Aa.size,.slice a2 n.Ab.Aa.Aj.length c2,.int .i64 n.Ab.Ai,.int .i64 n.Ab.quiet,.slice a3 n.Ab.holds.length c3,.slice a4 n.Ah.length c4,.slice a5 n.Ae.length c5,.slice a6 n.down.length c6,.slice a7 n.up.length c7] [],.ow Be 3 (.slice a1 n.Ar.Ad.length c1) n.Ar.Ad F1,.ow A6 9 (.slice a2 n.Ab.Aa.Aj.length c2) n.Ab.Aa.Aj F2,.ow Bi 134 (.slice a3 n.Ab.holds.length c3) n.Ab.holds F3,.ow B4 77 (.slice a4 n.Ah.length c4) n.Ah F4,.ow Bt 84 (.slice a5 n.Ae.length c5) n.Ae F5,.ow (H9 Al 110) 86 (.slice a6 n.down.length c6) n.down F6,.ow (H9 Al 110) 86 (.slice a7 n.up.length c7) n.up F7] (fun (_:NV × KA)=>True) (fun z=>.slice z.2.a (D7 n).2.length z.2.c) (fun z=>[.row g 37 0 [] [.slice z.1.a1 n.Ar.Ad.length z.1.c1,.int .i64 (D7 n).1.Ab.Aa.Ak,.int .i64 (D7 n).1.Ab.Aa.size,.slice z.1.a2 (D7 n).1.Ab.Aa.Aj.length z.1.c2,.int .i64 (D7 n).1.Ab.Ai,.int .i64 (D7 n).1.Ab.quiet,.slice z.1.a3 (D7 n).1.Ab.holds.length z.1.c3,.slice z.1.a4 n.Ah.length z.1.c4,.slice z.1.a5 n.Ae.length z.1.c5,.slice z.1.a6 n.down.length z.1.c6,.slice z.1.a7 n.up.length z.1.c7] [],.ow Be 3 (.slice z.1.a1 n.Ar.Ad.length z.1.c1) (D7 n).1.Ar.Ad z.1.F1,.ow A6 9 (.slice z.1.a2 (D7 n).1.Ab.Aa.Aj.length z.1.c2) (D7 n).1.Ab.Aa.Aj z.1.F2,.ow Bi 134 (.slice z.1.a3 (D7 n).1.Ab.holds.length z.1.c3) (D7 n).1.Ab.holds z.1.F3,.ow B4 77 (.slice z.1.a4 n.Ah.length z.1.c4) (D7 n).1.Ah z.1.F4,.ow Bt 84 (.slice z.1.a5 n.Ae.length z.1.c5) (D7 n).1.Ae z.1.F5,.ow (H9 Al 110) 86 (.slice z.1.a6 n.down.length z.1.c6) (D7 n).1.down z.1.F6,.ow (H9 Al 110) 86 (.slice z.1.a7 n.up.length z.1.c7) (D7 n).1.up z.1.F7,.ow A6 9 (.slice z.2.a (D7 n).2.length z.2.c) (D7 n).2 z.2.F]):=by
 have hG:=Bo.1 hg
 have h8:=Ll hG.t
 have hn8:=h8.n1
 have hn2:=h8.n0
 obtain ⟨q1,q2,q3,q4⟩:=Bz.1 hG.l
 have hS:=Mk hG.s
 obtain ⟨hq0,hq3⟩:=Ac0 hG.s
 have hkl:=P0 n.Ar.Ad 0
 have hkx:∀x∈Gb n.Ar.Ad 0,0≤x∧x.toNat < n.down.length:=fun x hx=>by have:=Jj (i:=0) h8 hx;omega
 refine enter func82 rfl ntmps82 fun w0=>?_
 refine go ?_;intros
 refine dsI [.cel g 0 [.slice a1 n.Ar.Ad.length c1]] [] ?_
 refine dtI 0 (fun w h=>Ia (E6 (h (.row g _ 0 [] _ []) (by exact Bw)))) ?_
 refine dtI 1 (fun w h=>Ia (E6 (h (.row g _ 0 [] _ []) (by exact Bw)))) ?_
 refine dtI 2 (fun w h=>Ia (E6 (h (.row g _ 0 [] _ []) (by exact Bw)))) ?_
 refine dtI 3 (fun w h=>Ia (E6 (h (.row g _ 0 [] _ []) (by exact Bw)))) ?_
 refine dtI 4 (fun w h=>Ia (E6 (h (.row g _ 0 [] _ []) (by exact Bw)))) ?_
 refine dtI 6 (fun w h=>Ia (E6 (h (.row g _ 0 [] _ []) (by exact Bw)))) ?_
 refine dtI 7 (fun w h=>Ia (E6 (h (.row g _ 0 [] _ []) (by exact Bw)))) ?_
 refine dtI 8 (fun w h=>Ia (E6 (h (.row g _ 0 [] _ []) (by exact Bw)))) ?_
 refine dO 5 (by kernel_rfl) (by rw [List.getElem?_toArray];rfl) ?_
 apply At;rfl;kernel_rfl;exact Bb
 refine cfr (fun w st=>by obtain ⟨Fq,hq⟩:=Yb (st.get (p:=.ow Be 3 (.slice a1 n.Ar.Ad.length c1) n.Ar.Ad F1) (by exact Bw));exact ⟨_,Ia hq,rfl,Tc n.Ar 0 _ Fq (by show n.Ar.Ad.length≤1000000;omega)⟩) (fun u _=>?_)
 refine Ao ?_
 refine Ax (E:=Be) (xs:=Gb n.Ar.Ad 0) fun Fk=>?_
 refine dkI (fun w h=>Ia (E6 (h (.row g _ 0 [] _ []) (by exact Bw)))) ?_
 refine dO 9 (by kernel_rfl) (by rw [List.getElem?_toArray];rfl) ?_
 apply At;rfl;kernel_rfl;exact Bb
 refine cf (Aix (X:=[.slice a1 n.Ar.Ad.length c1]) (cs:=[.int .i64 n.Ab.Aa.Ak,.int .i64 n.Ab.Aa.size,.slice a2 n.Ab.Aa.Aj.length c2,.int .i64 n.Ab.Ai,.int .i64 n.Ab.quiet,.slice a3 n.Ab.holds.length c3]) (Y:=[.slice a4 n.Ah.length c4,.slice a5 n.Ae.length c5,.slice a6 n.down.length c6,.slice a7 n.up.length c7]) (L:=[.slice a1 n.Ar.Ad.length c1,.int .i64 n.Ab.Aa.Ak,.int .i64 n.Ab.Aa.size,.slice a2 n.Ab.Aa.Aj.length c2,.int .i64 n.Ab.Ai,.int .i64 n.Ab.quiet,.slice a3 n.Ab.holds.length c3,.slice a4 n.Ah.length c4,.slice a5 n.Ae.length c5,.slice a6 n.down.length c6,.slice a7 n.up.length c7]) (L':=fun z:TiS=>[.slice a1 n.Ar.Ad.length c1,.int .i64 n.Ab.Aa.Ak,.int .i64 n.Ab.Aa.size,.slice a2 n.Ab.Aa.Aj.length c2,.int .i64 (n.Ab.Ai+1),.int .i64 (N8 n.Ab.quiet),.slice z.a2 (Pz (n.Ab.Ai+1) n.Ab.holds).length z.c2,.slice a4 n.Ah.length c4,.slice a5 n.Ae.length c5,.slice a6 n.down.length c6,.slice a7 n.up.length c7]) (cs':=fun z:TiS=>[.int .i64 n.Ab.Aa.Ak,.int .i64 n.Ab.Aa.size,.slice a2 n.Ab.Aa.Aj.length c2,.int .i64 (n.Ab.Ai+1),.int .i64 (N8 n.Ab.quiet),.slice z.a2 (Pz (n.Ab.Ai+1) n.Ab.holds).length z.c2]) (Alb n.Ab.Aa n.Ab.holds g 37 (0+1) _ _ a2 a3 c2 c3 n.Ab.Ai n.Ab.quiet F3 hS.t0 hS.t1 hS.l hS.k0 hS.k1 hq0 hq3) rfl rfl (fun _=>rfl)) fun z _=>?_
 refine Ao ?_
 refine Ax (E:=Al) (xs:=Kg n.Ab.Aa n.Ab.quiet) fun Fp=>?_
 refine dkI (fun w h=>Ia (E6 (h (.row g _ 0 [] _ []) (by exact Bw)))) ?_
 refine dO 10 (by kernel_rfl) (by rw [List.getElem?_toArray];rfl) ?_
 apply At;rfl;kernel_rfl;exact Bb
 refine cf (Td n.down (Gb n.Ar.Ad 0) (Kg n.Ab.Aa n.Ab.quiet) g _ _ _ _ _ _ _ _ _ _ a6 _ c6 F6 _ _ Fk _ _ Fp rfl hkx) fun J6 _=>?_
 refine Ao ?_
 refine dkI (fun w h=>Ia (E6 (h (.row g _ 0 [] _ []) (by exact Bw)))) ?_
 refine dd ?_
 refine B7 A6 9 ?_
 rw [show Dk n.down (Gb n.Ar.Ad 0) (Kg n.Ab.Aa n.Ab.quiet)=(A9 n 0).1.down from rfl]
 refine go ?_;intros
 refine Cq [0,2] (fun s:TkN=>[(3,.slice s.a (A9 n s.k).2.length s.c),(4,.int .i64 ((s.k+1:Nat):Int))]) (fun s=>[.row g 37 0 [] [.slice s.z.a1 n.Ar.Ad.length s.z.c1,.int .i64 (A9 n s.k).1.Ab.Aa.Ak,.int .i64 (A9 n s.k).1.Ab.Aa.size,.slice s.z.a2 (A9 n s.k).1.Ab.Aa.Aj.length s.z.c2,.int .i64 (A9 n s.k).1.Ab.Ai,.int .i64 (A9 n s.k).1.Ab.quiet,.slice s.z.a3 (A9 n s.k).1.Ab.holds.length s.z.c3,.slice s.z.a4 n.Ah.length s.z.c4,.slice s.z.a5 n.Ae.length s.z.c5,.slice s.z.a6 n.down.length s.z.c6,.slice s.z.a7 n.up.length s.z.c7] [],.ow Be 3 (.slice s.z.a1 n.Ar.Ad.length s.z.c1) (A9 n s.k).1.Ar.Ad s.z.F1,.ow A6 9 (.slice s.z.a2 (A9 n s.k).1.Ab.Aa.Aj.length s.z.c2) (A9 n s.k).1.Ab.Aa.Aj s.z.F2,.ow Bi 134 (.slice s.z.a3 (A9 n s.k).1.Ab.holds.length s.z.c3) (A9 n s.k).1.Ab.holds s.z.F3,.ow B4 77 (.slice s.z.a4 n.Ah.length s.z.c4) (A9 n s.k).1.Ah s.z.F4,.ow Bt 84 (.slice s.z.a5 n.Ae.length s.z.c5) (A9 n s.k).1.Ae s.z.F5,.ow (H9 Al 110) 86 (.slice s.z.a6 n.down.length s.z.c6) (A9 n s.k).1.down s.z.F6,.ow (H9 Al 110) 86 (.slice s.z.a7 n.up.length s.z.c7) (A9 n s.k).1.up s.z.F7,.ow A6 9 (.slice s.a (A9 n s.k).2.length s.c) (A9 n s.k).2 s.F]) (fun s=>s.k+1≤n.Ar.Ad.length∧(A9 n s.k).2.length≤40000 * s.k) (fun s=>n.Ar.Ad.length - s.k) ⟨0,⟨a1,c1,F1,a2,c2,F2,z.a2,z.c2,z.F,a4,c4,F4,a5,c5,F5,a6,c6,J6,a7,c7,F7⟩,none,0,[]⟩ ⟨by show 0+1≤_;omega,Nat.le_refl _⟩ fun s hs0=>?_
 obtain ⟨k,⟨x1,w1,K1,x2,w2,K2,x3,w3,K3,x4,w4,K4,x5,w5,K5,x6,w6,K6,x7,w7,K7⟩,ea,ec,eF⟩:=s
 obtain ⟨hk,hel⟩:=hs0
 dsimp only at hk hel ⊢
 obtain ⟨hGN,hT,hSrc⟩:=Ny hg hc k (by omega)
 obtain ⟨r1,r2,r3,r4⟩:=Bz.1 hGN.l
 rw [hT] at r1 r2 r3 r4
 rw [hT,hSrc]
 refine go ?_;intros
 refine Bd rfl (fun h1=>?_) (fun h1=>?_)
 ·have hj:k+1 < n.Ar.Ad.length:=by omega
  obtain ⟨i1,i2,i3,i4,hrn⟩:=hGN.rn (i:=k+1) (by rw [hT];exact hj)
  rw [hT] at hrn
  obtain ⟨d0,d1_⟩:=Xh (i:=k+1)
  refine go ?_;intros
  refine cfr (fun w st=>by obtain ⟨Fq,hq⟩:=Yb (st.get (p:=.ow Be 3 (.slice x1 n.Ar.Ad.length w1) n.Ar.Ad K1) (by exact Bw));exact ⟨_,Ia hq,rfl,Xt n.Ar ((k+1:Nat):Int) _ Fq⟩) (fun _ _=>?_)
  refine Ao ?_
  cases hlf:Hj n.Ar.Ad ((k+1:Nat):Int)
  ·obtain ⟨hge,hck, -⟩:=hrn.hn (by omega) hlf
   obtain ⟨hc0,hc1⟩:=J4.1 (Ew.1 hge).1
   have hnx:A9 n (k+1)=(⟨n.Ar,Jy n.Ab,(A9 n k).1.Ah.set (k+1) (Dw (A9 n k).1.Ah[k+1]),(A9 n k).1.Ae,(A9 n k).1.down,(A9 n k).1.up⟩,(A9 n k).2++[]):=by
    show ((Lf (A9 n k).1 (k+1)).1,(A9 n k).2++(Lf (A9 n k).1 (k+1)).2)=_
    unfold Lf
    rw [hT,hlf,if_neg (by decide),Is i1,hSrc]
   rw [List.append_nil] at hnx
   refine Y6 (xs:=(A9 n k).1.Ah) (m:=2) (k+1) ?_ rfl i1
   rintro _ g5 A5 cs B5 k1 k2 J1 Ji J2 e5 - hc5 hH5
   rw [e5]
   refine Gg ?_
   rintro b1 d1 G1 ev l1
   obtain rfl:cs=[.int .i64 (A9 n k).1.Ah[k+1].Ai,.slice b1 (A9 n k).1.Ah[k+1].Af.length d1]:=by simpa using ev
   refine go ?_;intros
   refine cf (Ak2 (A9 n k).1.Ah[k+1] g5 77 (0+(k+1) * 2) A5 B5 b1 d1 G1 (by omega) (by omega)) fun s9 _=>?_
   refine Ao ?_
   refine Ey (Dw (A9 n k).1.Ah[k+1]) ?_
   refine Vt _ hH5 rfl fun J5=>?_
   refine go ?_;intros
   refine Co ⟨k+1,⟨x1,w1,K1,x2,w2,K2,x3,w3,K3,_,w4,J5,x5,w5,K5,x6,w6,K6,x7,w7,K7⟩,ea,ec,eF⟩ ⟨by show k+1+1≤_;omega,by rw [hnx];dsimp only;omega⟩ (by show n.Ar.Ad.length - (k+1) < n.Ar.Ad.length - k;omega) (by dsimp only;rw [hnx];exact frE) (by dsimp only;rw [hnx];exact hsE)
  ·obtain ⟨-,hgr0,hck⟩:=hrn.hf (by omega) hlf
   have hgr:=Hc.1 hgr0
   obtain ⟨hsm,hfew⟩:=Vp hgr
   have hnx:A9 n (k+1)=(⟨n.Ar,Jy n.Ab,(A9 n k).1.Ah,(A9 n k).1.Ae.set (k+1) (Cn (A9 n k).1.Ae[k+1] (J0 (k+1))),(A9 n k).1.down,Nu (A9 n k).1.up (k+1) (D8 (A9 n k).1.Ae[k+1])⟩,(A9 n k).2++Rc (k+1) (Ez (A9 n k).1.Ae[k+1])):=by
    show ((Lf (A9 n k).1 (k+1)).1,(A9 n k).2++(Lf (A9 n k).1 (k+1)).2)=_
    unfold Lf
    rw [hT,hlf,if_pos rfl,Ln i2,hSrc];rfl
   have htl:(Rc (k+1) (Ez (A9 n k).1.Ae[k+1])).length=(Ez (A9 n k).1.Ae[k+1]).length:=List.length_map ..
   generalize hR:(A9 n k).1.Ae[k+1]=R at *
   refine go ?_;intros
   refine Y6 (xs:=(A9 n k).1.Ae) (m:=5) (k+1) ?_ rfl i2
   rintro _ g5 A5 cs B5 k1 k2 J1 Ji J2 e5 - hc5 hH5
   rw [e5,hR]
   refine Hm ?_
   rintro b1 d1 G1 b2 d2 G2 ev l1 l2
   obtain rfl:cs=[.bool R.Bf,.int .i64 R.Ai,.int .i64 R.Aa.next,.slice b1 R.Aa.An.length d1,.slice b2 R.Ap.length d2]:=by simpa using ev
   refine Av [5] [] ?_
   refine dt 0 ?_
   refine dt 1 ?_
   refine dt 2 ?_
   refine dt 3 ?_
   refine dt 4 ?_
   refine dt 5 ?_
   refine dt 6 ?_
   refine dO 7 (by kernel_rfl) (by rw [List.getElem?_toArray];rfl) ?_
   apply At;rfl;kernel_rfl;exact Bb
   refine cf (Zk (k+1) (by omega)) fun _ _=>?_
   refine Ao ?_
   refine dk ?_
   refine dO 8 (by kernel_rfl) (by rw [List.getElem?_toArray];rfl) ?_
   apply At;rfl;kernel_rfl;exact Bb
   refine cf (Ak9 R (J0 (k+1)) g5 84 (0+(k+1) * 5) A5 B5 b1 d1 G1 b2 d2 G2 hgr (by omega) (by omega)) fun s9 _=>?_
   refine Ao ?_
   refine dk ?_
   refine dt 9 ?_
   refine dt 10 ?_
   refine dt 11 ?_
   refine dt 12 ?_
   refine dt 13 ?_
   refine dd ?_
   refine I8 (Cn R (J0 (k+1))) ?_
   refine Vt _ hH5 rfl fun J5=>?_
   refine Ax (E:=Al) (xs:=D8 R) fun Fp=>?_
   refine Rt (E:=Al) (fun p:Aw=>p.data.size≤maxLen) (fun w cs x F h=>by obtain ⟨_,h,_⟩:=h;exact h) ?_
   intro hz
   refine Qw (E:=Al) (xs:=D8 R) ?_
   rintro pa pc e9 hp1 hp2
   clear e9
   refine go ?_;intros
   rw [show (A9 n k).1.up=Nu (A9 n k).1.up (k+1) ((D8 R).take 0) by rw [List.take_zero,Z6]]
   refine Cq [0,2,3,4,6,56,57] (fun y:KF=>[(58,.int .i64 (y.k:Nat))]) (fun y=>[.ow (H9 Al 110) 86 (.slice x7 n.up.length w7) (Nu (A9 n k).1.up (k+1) ((D8 R).take y.k)) y.F]) (fun y=>y.k≤(D8 R).length) (fun y=>(D8 R).length - y.k) ⟨0,K7⟩ (Nat.zero_le _) fun y hy0=>?_
   have hpl:=Z5 (A9 n k).1.up (k+1) ((D8 R).take y.k)
   refine go ?_;intros
   refine Bd rfl (fun h2=>?_) (fun h2=>?_)
   ·have hm:y.k < (D8 R).length:=by omega
    refine Lj (xs:=D8 R) y.k ?_
    rintro hi3 b3 o3 e3 s3
    rw [e3]
    refine go ?_;intros
    refine Av [0,6] [] ?_
    refine dt 0 ?_
    refine dt 1 ?_
    refine dt 2 ?_
    refine dt 3 ?_
    refine dt 4 ?_
    refine dt 5 ?_
    refine dO 6 (by kernel_rfl) (by rw [List.getElem?_toArray];rfl) ?_
    apply At;rfl;kernel_rfl;exact Bb
    refine cf (Vd (Nu (A9 n k).1.up (k+1) ((D8 R).take y.k)) (k+1) (D8 R)[y.k] x7 _ w7 y.F (by omega) (by omega) s3) fun f1 _=>?_
    refine Ao ?_
    rw [Ya i4 hm]
    refine dk ?_
    refine dd ?_
    refine go ?_;intros
    refine Co ⟨y.k+1,f1⟩ hm (by show (D8 R).length - (y.k+1) < (D8 R).length - y.k;omega)
   ·rw [show (D8 R).take y.k=D8 R from List.take_of_length_le (by omega)]
    refine go ?_;intros
    refine cfr (fun w st=>by obtain ⟨Fq, -,hq⟩:=(st.get (p:=.ow A6 9 (.slice s9.a4 (Ez R).length s9.c4) (Ez R) s9.F4) (by exact Bw)).2.read;exact ⟨[.sl A6 (.slice s9.a4 (Ez R).length s9.c4) (Ez R) Fq,Li FT],Q9 ⟨by decide,hq⟩ (st.get (p:=Li FT) (by exact Bw)),rfl,Akr (k+1) _ _ _ Fq FT (by omega) (by omega) hsm⟩) (fun u9 _=>?_)
    refine Ao ?_
    refine Ax (E:=A6) (xs:=Rc (k+1) (Ez R)) fun F8=>?_
    apply wO
    refine Kx (E:=A6) (xs:=(A9 n k).2) (ys:=Rc (k+1) (Ez R)) Du Fc fun a9 c9 F9=>?_
    refine go ?_;intros
    refine Co ⟨k+1,⟨x1,w1,K1,x2,w2,K2,x3,w3,K3,x4,w4,K4,_,w5,J5,x6,w6,K6,x7,w7,y.F⟩,a9,c9,F9⟩ ⟨by show k+1+1≤_;omega,by rw [hnx];dsimp only;rw [List.length_append,htl];omega⟩ (by show n.Ar.Ad.length - (k+1) < n.Ar.Ad.length - k;omega) (by dsimp only;rw [hnx];exact frE) (by dsimp only;rw [hnx];exact hsE)
 ·have hke:n.Ar.Ad.length - 1=k:=by omega
  rw [show D7 n=A9 n k by unfold D7;rw [hke],hT,hSrc]
  refine go ?_;intros
  refine ret (⟨x1,w1,K1,x2,w2,K2,x3,w3,K3,x4,w4,K4,x5,w5,K5,x6,w6,K6,x7,w7,K7⟩,⟨0,ea,ec,eF⟩) trivial rfl
theorem Amm (n:En) (s:Fa) (g:Nat) (a1:Option Addr) (c1:Nat) (F1:List Nat) (a2:Option Addr) (c2:Nat) (F2:List Nat) (a3:Option Addr) (c3:Nat) (F3:List Nat) (a4:Option Addr) (c4:Nat) (F4:List Nat) (a5:Option Addr) (c5:Nat) (F5:List Nat) (a6:Option Addr) (c6:Nat) (F6:List Nat) (a7:Option Addr) (c7:Nat) (F7:List Nat) (FT:List Nat) (hg:A8 n=true) (hf:Mx s.node=true) :
  Fn prog 83 [Eo g 0 0,.agg #[.int .i64 s.Cm,.int .i64 s.node,.string s.data]] [Li FT] [.row g 37 0 [] [.slice a1 n.Ar.Ad.length c1,.int .i64 n.Ab.Aa.Ak,.int .i64 n.Ab.Aa.size,.slice a2 n.Ab.Aa.Aj.length c2,.int .i64 n.Ab.Ai,.int .i64 n.Ab.quiet,.slice a3 n.Ab.holds.length c3,.slice a4 n.Ah.length c4,.slice a5 n.Ae.length c5,.slice a6 n.down.length c6,.slice a7 n.up.length c7] [],.ow Be 3 (.slice a1 n.Ar.Ad.length c1) n.Ar.Ad F1,.ow A6 9 (.slice a2 n.Ab.Aa.Aj.length c2) n.Ab.Aa.Aj F2,.ow Bi 134 (.slice a3 n.Ab.holds.length c3) n.Ab.holds F3,.ow B4 77 (.slice a4 n.Ah.length c4) n.Ah F4,.ow Bt 84 (.slice a5 n.Ae.length c5) n.Ae F5,.ow (H9 Al 110) 86 (.slice a6 n.down.length c6) n.down F6,.ow (H9 Al 110) 86 (.slice a7 n.up.length c7) n.up F7] (fun (_:NV × KA)=>True) (fun z=>.tuple #[.slice z.2.a (Aa4 (Cv n s)).length z.2.c,.bool (Cv n s).isSome]) (fun z=>[.row g 37 0 [] [.slice z.1.a1 n.Ar.Ad.length z.1.c1,.int .i64 (Fm n (Cv n s)).Ab.Aa.Ak,.int .i64 (Fm n (Cv n s)).Ab.Aa.size,.slice z.1.a2 (Fm n (Cv n s)).Ab.Aa.Aj.length z.1.c2,.int .i64 (Fm n (Cv n s)).Ab.Ai,.int .i64 (Fm n (Cv n s)).Ab.quiet,.slice z.1.a3 (Fm n (Cv n s)).Ab.holds.length z.1.c3,.slice z.1.a4 n.Ah.length z.1.c4,.slice z.1.a5 n.Ae.length z.1.c5,.slice z.1.a6 n.down.length z.1.c6,.slice z.1.a7 n.up.length z.1.c7] [],.ow Be 3 (.slice z.1.a1 n.Ar.Ad.length z.1.c1) (Fm n (Cv n s)).Ar.Ad z.1.F1,.ow A6 9 (.slice z.1.a2 (Fm n (Cv n s)).Ab.Aa.Aj.length z.1.c2) (Fm n (Cv n s)).Ab.Aa.Aj z.1.F2,.ow Bi 134 (.slice z.1.a3 (Fm n (Cv n s)).Ab.holds.length z.1.c3) (Fm n (Cv n s)).Ab.holds z.1.F3,.ow B4 77 (.slice z.1.a4 n.Ah.length z.1.c4) (Fm n (Cv n s)).Ah z.1.F4,.ow Bt 84 (.slice z.1.a5 n.Ae.length z.1.c5) (Fm n (Cv n s)).Ae z.1.F5,.ow (H9 Al 110) 86 (.slice z.1.a6 n.down.length z.1.c6) (Fm n (Cv n s)).down z.1.F6,.ow (H9 Al 110) 86 (.slice z.1.a7 n.up.length z.1.c7) (Fm n (Cv n s)).up z.1.F7,.ow A6 9 (.slice z.2.a (Aa4 (Cv n s)).length z.2.c) (Aa4 (Cv n s)) z.2.F]):=by
 have hG:=Bo.1 hg
 have h8:=Ll hG.t
 have hn8:=h8.n1
 obtain ⟨q1,q2,q3,q4⟩:=Bz.1 hG.l
 obtain ⟨f1,f2⟩:=M5.1 hf
 obtain ⟨i,hi⟩:∃i:Nat,s.node=((i:Nat):Int):=⟨s.node.toNat,by omega⟩
 have i0:i≠0:=by omega
 refine enter func83 rfl ntmps83 fun w0=>?_
 refine B7 A6 9 ?_
 rw [hi]
 refine go ?_;intros
 refine Av [0,2] [] ?_
 refine dt 0 ?_
 refine dt 1 ?_
 refine dt 2 ?_
 refine dt 3 ?_
 refine dt 4 ?_
 refine dt 5 ?_
 refine dt 6 ?_
 refine dt 7 ?_
 refine dt 8 ?_
 refine dd ?_
 refine go ?_;intros
 refine Bd rfl (fun h1=>?_) (fun h1=>?_)
 ·rw [show Cv n s=none by unfold Cv;rw [if_pos (by omega)]]
  refine go ?_;intros
  refine ret (⟨a1,c1,F1,a2,c2,F2,a3,c3,F3,a4,c4,F4,a5,c5,F5,a6,c6,F6,a7,c7,F7⟩,⟨0,none,0,[]⟩) trivial rfl
 have hil:i < n.Ar.Ad.length:=by omega
 by_cases k5:s.Cm=5
 ·have hu:Rb s=true:=by unfold Rb;rw [decide_eq_true k5];rfl
  have hq:P7 n s=n.up[i]:=by unfold P7;rw [hu,if_pos rfl,hi,Int.toNat_natCast];exact Xn (by omega) []
  have hpo:Fh n s=Jf n i:=by unfold Fh;rw [hu,if_pos rfl,hi,Int.toNat_natCast]
  have h6:n.up[i].length≤6:=by
   have:=(Kv (s:=s) hg).1
   rw [hq] at this
   unfold D9 at this
   simp only [Bool.and_eq_true,decide_eq_true_eq] at this
   exact this.1
  refine go ?_;intros
  refine Cw rfl rfl (fun g5=>?_) (fun g5=>?_)
  rotate_left
  ·exact absurd k5 g5
  refine go ?_;intros
  refine cf (X6 n.up i a7 _ c7 F7 rfl (by omega) h6) fun J _=>?_
  refine Ao ?_
  by_cases h0:0 < n.up[i].length
  rotate_left
  ·have hz:n.up[i]=[]:=List.length_eq_zero_iff.1 (by omega)
   rw [show Cv n s=none by unfold Cv;rw [if_neg (by omega),hq,if_pos (by omega)],decide_eq_false h0,show n.up.set i (n.up[i].drop 1)=n.up by rw [hz,List.drop_nil];rw [←hz,List.set_getElem_self]]
   refine go ?_;intros
   refine ret (⟨a1,c1,F1,a2,c2,F2,a3,c3,F3,a4,c4,F4,a5,c5,F5,a6,c6,F6,a7,c7,J⟩,⟨0,none,0,[]⟩) trivial rfl
  have hmem:=Nt h0
  have hpk:Bk (Mt n.up[i])=true:=Lz (hq▸(Kv (s:=s) hg).1) hmem
  have hpz:(Mt n.up[i]).data.size≤maxLen:=by
   have h9:=hpk
   unfold Bk Nq at h9
   simp only [Bool.and_eq_true,decide_eq_true_eq] at h9
   unfold maxLen;omega
  rw [decide_eq_true h0,show n.up.set i (n.up[i].drop 1)=(Jf n i).up from (Hf (by omega)).symm]
  have hgm:A8 (Jf n i)=true:=hpo▸Jk hg
  have hGm:=Bo.1 hgm
  have hlm:n.up.length=(Jf n i).up.length:=(List.length_modify ..).symm
  generalize hP:Mt n.up[i]=P at *
  have htk:Cv n s=some (Nd (Jf n i) i P,[]):=by
   unfold Cv
   rw [if_neg (by omega),hq,if_neg (by omega),hpo,hP,hi,Int.toNat_natCast]
   rw [if_neg (by omega),if_pos k5]
  rw [htk]
  refine go ?_;intros
  refine Bd rfl (fun k2=>?_) (fun k2=>?_)
  ·exact absurd k2 (by omega)
  refine go ?_;intros
  refine Bd rfl (fun m5=>?_) (fun m5=>?_)
  rotate_left
  ·exact absurd k5 m5
  refine go ?_;intros
  rw [hlm]
  refine cf (Aku (Jf n i) i P g a1 c1 F1 a2 c2 F2 a3 c3 F3 a4 c4 F4 a5 c5 F5 a6 c6 F6 a7 c7 J hGm.l i0 hil (Ll hGm.t) hGm.s (fun k hk hkl hl=>?_) hpk hpz) fun z _=>?_
  rotate_left
  ·refine Ao ?_
   refine go ?_;intros
   refine ret (z,⟨0,none,0,[]⟩) trivial rfl
  ·obtain ⟨x1,x2,x3,x4,r⟩:=hGm.rn (i:=k) hkl
   rw [Is x1];exact (r.hn hk hl).1
 by_cases k6:s.Cm=6
 ·have hu:Rb s=true:=by unfold Rb;rw [decide_eq_true k6,Bool.or_true]
  have hq:P7 n s=n.up[i]:=by unfold P7;rw [hu,if_pos rfl,hi,Int.toNat_natCast];exact Xn (by omega) []
  have hpo:Fh n s=Jf n i:=by unfold Fh;rw [hu,if_pos rfl,hi,Int.toNat_natCast]
  have h6:n.up[i].length≤6:=by
   have:=(Kv (s:=s) hg).1
   rw [hq] at this
   unfold D9 at this
   simp only [Bool.and_eq_true,decide_eq_true_eq] at this
   exact this.1
  refine go ?_;intros
  refine Cw rfl rfl (fun g5=>?_) (fun g5=>?_)
  ·exact absurd g5 (by omega)
  refine go ?_;intros
  refine Bd rfl (fun g6=>?_) (fun g6=>?_)
  rotate_left
  ·exact absurd k6 g6
  refine go ?_;intros
  refine cf (X6 n.up i a7 _ c7 F7 rfl (by omega) h6) fun J _=>?_
  refine Ao ?_
  by_cases h0:0 < n.up[i].length
  rotate_left
  ·have hz:n.up[i]=[]:=List.length_eq_zero_iff.1 (by omega)
   rw [show Cv n s=none by unfold Cv;rw [if_neg (by omega),hq,if_pos (by omega)],decide_eq_false h0,show n.up.set i (n.up[i].drop 1)=n.up by rw [hz,List.drop_nil];rw [←hz,List.set_getElem_self]]
   refine go ?_;intros
   refine ret (⟨a1,c1,F1,a2,c2,F2,a3,c3,F3,a4,c4,F4,a5,c5,F5,a6,c6,F6,a7,c7,J⟩,⟨0,none,0,[]⟩) trivial rfl
  have hmem:=Nt h0
  have hpk:Bk (Mt n.up[i])=true:=Lz (hq▸(Kv (s:=s) hg).1) hmem
  have hpz:(Mt n.up[i]).data.size≤maxLen:=by
   have h9:=hpk
   unfold Bk Nq at h9
   simp only [Bool.and_eq_true,decide_eq_true_eq] at h9
   unfold maxLen;omega
  rw [decide_eq_true h0,show n.up.set i (n.up[i].drop 1)=(Jf n i).up from (Hf (by omega)).symm]
  have hgm:A8 (Jf n i)=true:=hpo▸Jk hg
  have hGm:=Bo.1 hgm
  have hlm:n.up.length=(Jf n i).up.length:=(List.length_modify ..).symm
  generalize hP:Mt n.up[i]=P at *
  have htk:Cv n s=some (Jf n i,[]):=by
   unfold Cv
   rw [if_neg (by omega),hq,if_neg (by omega),hpo,hP,hi,Int.toNat_natCast]
   rw [if_neg (by omega),if_neg (by omega)]
  rw [htk]
  refine go ?_;intros
  refine Bd rfl (fun k2=>?_) (fun k2=>?_)
  ·exact absurd k2 (by omega)
  refine go ?_;intros
  refine Bd rfl (fun m5=>?_) (fun m5=>?_)
  ·exact absurd m5 (by omega)
  refine go ?_;intros
  refine ret (⟨a1,c1,F1,a2,c2,F2,a3,c3,F3,a4,c4,F4,a5,c5,F5,a6,c6,F6,a7,c7,J⟩,⟨0,none,0,[]⟩) trivial rfl
 ·have hu:Rb s=false:=by unfold Rb;rw [decide_eq_false k5,decide_eq_false k6];rfl
  have hq:P7 n s=n.down[i]:=by unfold P7;rw [hu,if_neg (by decide),hi,Int.toNat_natCast];exact Xn (by omega) []
  have hpo:Fh n s=Kz n i:=by unfold Fh;rw [hu,if_neg (by decide),hi,Int.toNat_natCast]
  have h6:n.down[i].length≤6:=by
   have:=(Kv (s:=s) hg).1
   rw [hq] at this
   unfold D9 at this
   simp only [Bool.and_eq_true,decide_eq_true_eq] at this
   exact this.1
  refine go ?_;intros
  refine Cw rfl rfl (fun g5=>?_) (fun g5=>?_)
  ·exact absurd g5 k5
  refine go ?_;intros
  refine Bd rfl (fun g6=>?_) (fun g6=>?_)
  ·exact absurd g6 k6
  refine go ?_;intros
  refine cf (X6 n.down i a6 _ c6 F6 rfl (by omega) h6) fun J _=>?_
  refine Ao ?_
  by_cases h0:0 < n.down[i].length
  rotate_left
  ·have hz:n.down[i]=[]:=List.length_eq_zero_iff.1 (by omega)
   rw [show Cv n s=none by unfold Cv;rw [if_neg (by omega),hq,if_pos (by omega)],decide_eq_false h0,show n.down.set i (n.down[i].drop 1)=n.down by rw [hz,List.drop_nil];rw [←hz,List.set_getElem_self]]
   refine go ?_;intros
   refine ret (⟨a1,c1,F1,a2,c2,F2,a3,c3,F3,a4,c4,F4,a5,c5,F5,a6,c6,J,a7,c7,F7⟩,⟨0,none,0,[]⟩) trivial rfl
  have hmem:=Nt h0
  have hpk:Bk (Mt n.down[i])=true:=Lz (hq▸(Kv (s:=s) hg).1) hmem
  have hpz:(Mt n.down[i]).data.size≤maxLen:=by
   have h9:=hpk
   unfold Bk Nq at h9
   simp only [Bool.and_eq_true,decide_eq_true_eq] at h9
   unfold maxLen;omega
  rw [decide_eq_true h0,show n.down.set i (n.down[i].drop 1)=(Kz n i).down from (Hf (by omega)).symm]
  have hgm:A8 (Kz n i)=true:=hpo▸Jk hg
  have hGm:=Bo.1 hgm
  have hlm:n.down.length=(Kz n i).down.length:=(List.length_modify ..).symm
  generalize hP:Mt n.down[i]=P at *
  have htk:Cv n s=if s.Cm=2 then some (C2 (Kz n i) i P) else some (Kz n i,[]):=by
   unfold Cv
   rw [if_neg (by omega),hq,if_neg (by omega),hpo,hP,hi,Int.toNat_natCast]
   split
   ·rfl
   ·first|rfl|rw [if_neg k5]
  rw [htk]
  refine go ?_;intros
  refine Bd rfl (fun k2=>?_) (fun k2=>?_)
  ·rw [if_pos k2]
   refine go ?_;intros
   rw [hlm]
   refine cf (Afx (Kz n i) i P g a1 c1 F1 a2 c2 F2 a3 c3 F3 a4 c4 F4 a5 c5 F5 a6 c6 J a7 c7 F7 FT hGm.l hil (Ll hGm.t) (fun hl=>?_) (fun hl=>?_) hpk hpz) fun z _=>?_
   rotate_left
   rotate_left
   ·refine Ao ?_
    refine go ?_;intros
    refine ret (z.1,z.2) trivial rfl
   ·obtain ⟨x1,x2,x3,x4,r⟩:=hGm.rn (i:=i) hil
    rw [Ln x2];exact (r.hf i0 hl).2.1
   ·obtain ⟨x1,x2,x3,x4,r⟩:=hGm.rn (i:=i) hil
    rw [Is x1];exact (r.hn i0 hl).1
  ·rw [if_neg k2]
   refine go ?_;intros
   refine Bd rfl (fun m5=>?_) (fun m5=>?_)
   ·exact absurd m5 k5
   refine go ?_;intros
   refine ret (⟨a1,c1,F1,a2,c2,F2,a3,c3,F3,a4,c4,F4,a5,c5,F5,a6,c6,J,a7,c7,F7⟩,⟨0,none,0,[]⟩) trivial rfl
theorem Akh (n:En) (s:Fa) (g:Nat) (a1:Option Addr) (c1:Nat) (F1:List Nat) (a2:Option Addr) (c2:Nat) (F2:List Nat) (a3:Option Addr) (c3:Nat) (F3:List Nat) (a4:Option Addr) (c4:Nat) (F4:List Nat) (a5:Option Addr) (c5:Nat) (F5:List Nat) (a6:Option Addr) (c6:Nat) (F6:List Nat) (a7:Option Addr) (c7:Nat) (F7:List Nat) (FT:List Nat) (hg:A8 n=true) (hs:Dg s=true) (hss:s.data.size≤maxLen) :
  Fn prog 34 [Eo g 0 0,.agg #[.int .i64 s.Cm,.int .i64 s.node,.string s.data]] [Li FT] [.row g 37 0 [] [.slice a1 n.Ar.Ad.length c1,.int .i64 n.Ab.Aa.Ak,.int .i64 n.Ab.Aa.size,.slice a2 n.Ab.Aa.Aj.length c2,.int .i64 n.Ab.Ai,.int .i64 n.Ab.quiet,.slice a3 n.Ab.holds.length c3,.slice a4 n.Ah.length c4,.slice a5 n.Ae.length c5,.slice a6 n.down.length c6,.slice a7 n.up.length c7] [],.ow Be 3 (.slice a1 n.Ar.Ad.length c1) n.Ar.Ad F1,.ow A6 9 (.slice a2 n.Ab.Aa.Aj.length c2) n.Ab.Aa.Aj F2,.ow Bi 134 (.slice a3 n.Ab.holds.length c3) n.Ab.holds F3,.ow B4 77 (.slice a4 n.Ah.length c4) n.Ah F4,.ow Bt 84 (.slice a5 n.Ae.length c5) n.Ae F5,.ow (H9 Al 110) 86 (.slice a6 n.down.length c6) n.down F6,.ow (H9 Al 110) 86 (.slice a7 n.up.length c7) n.up F7] (fun (_:NV × KA)=>True) (fun z=>.tuple #[.slice z.2.a (Aa4 (Cd n s)).length z.2.c,.bool (Cd n s).isSome]) (fun z=>[.row g 37 0 [] [.slice z.1.a1 n.Ar.Ad.length z.1.c1,.int .i64 (Fm n (Cd n s)).Ab.Aa.Ak,.int .i64 (Fm n (Cd n s)).Ab.Aa.size,.slice z.1.a2 (Fm n (Cd n s)).Ab.Aa.Aj.length z.1.c2,.int .i64 (Fm n (Cd n s)).Ab.Ai,.int .i64 (Fm n (Cd n s)).Ab.quiet,.slice z.1.a3 (Fm n (Cd n s)).Ab.holds.length z.1.c3,.slice z.1.a4 n.Ah.length z.1.c4,.slice z.1.a5 n.Ae.length z.1.c5,.slice z.1.a6 n.down.length z.1.c6,.slice z.1.a7 n.up.length z.1.c7] [],.ow Be 3 (.slice z.1.a1 n.Ar.Ad.length z.1.c1) (Fm n (Cd n s)).Ar.Ad z.1.F1,.ow A6 9 (.slice z.1.a2 (Fm n (Cd n s)).Ab.Aa.Aj.length z.1.c2) (Fm n (Cd n s)).Ab.Aa.Aj z.1.F2,.ow Bi 134 (.slice z.1.a3 (Fm n (Cd n s)).Ab.holds.length z.1.c3) (Fm n (Cd n s)).Ab.holds z.1.F3,.ow B4 77 (.slice z.1.a4 n.Ah.length z.1.c4) (Fm n (Cd n s)).Ah z.1.F4,.ow Bt 84 (.slice z.1.a5 n.Ae.length z.1.c5) (Fm n (Cd n s)).Ae z.1.F5,.ow (H9 Al 110) 86 (.slice z.1.a6 n.down.length z.1.c6) (Fm n (Cd n s)).down z.1.F6,.ow (H9 Al 110) 86 (.slice z.1.a7 n.up.length z.1.c7) (Fm n (Cd n s)).up z.1.F7,.ow A6 9 (.slice z.2.a (Aa4 (Cd n s)).length z.2.c) (Aa4 (Cd n s)) z.2.F]):=by
 have hG:=Bo.1 hg
 have h8:=Ll hG.t
 have hn8:=h8.n1
 have hn2:=h8.n0
 obtain ⟨q1,q2,q3,q4⟩:=Bz.1 hG.l
 have hS:=Mk hG.s
 obtain ⟨-,⟨hz1, -⟩, -, -⟩:=Ea.1 hS.w
 have hkl:=P0 n.Ar.Ad 0
 have hkx:∀x∈Gb n.Ar.Ad 0,0≤x∧x.toNat < n.down.length:=fun x hx=>by have:=Jj (i:=0) h8 hx;omega
 refine enter func34 rfl ntmps34 fun w0=>?_
 refine B7 A6 9 ?_
 refine go ?_;intros
 rename_i gs
 refine Bd rfl (fun h1=>?_) (fun h1=>?_)
 ·rw [show Cd n s=some (Mp n s.data,[]) by unfold Cd;rw [if_pos h1]]
  refine go ?_;intros
  refine dsI [.cel g 0 [.slice a1 n.Ar.Ad.length c1],.row gs 39 0 [] [.int .i64 s.Cm,.int .i64 s.node,.string s.data] []] [] ?_
  refine dtI 0 (fun w h=>Q9 (E6 (h (.row g _ 0 [] _ []) (by exact Bw))) (h _ (by exact Bw))) ?_
  refine dtI 1 (fun w h=>Q9 (E6 (h (.row g _ 0 [] _ []) (by exact Bw))) (h _ (by exact Bw))) ?_
  refine dtI 2 (fun w h=>Q9 (E6 (h (.row g _ 0 [] _ []) (by exact Bw))) (h _ (by exact Bw))) ?_
  refine dtI 3 (fun w h=>Q9 (E6 (h (.row g _ 0 [] _ []) (by exact Bw))) (h _ (by exact Bw))) ?_
  refine dtI 4 (fun w h=>Q9 (E6 (h (.row g _ 0 [] _ []) (by exact Bw))) (h _ (by exact Bw))) ?_
  refine dtI 6 (fun w h=>Q9 (E6 (h (.row g _ 0 [] _ []) (by exact Bw))) (h _ (by exact Bw))) ?_
  refine dtI 7 (fun w h=>Q9 (E6 (h (.row g _ 0 [] _ []) (by exact Bw))) (h _ (by exact Bw))) ?_
  refine dtI 8 (fun w h=>Q9 (E6 (h (.row g _ 0 [] _ []) (by exact Bw))) (h _ (by exact Bw))) ?_
  refine dtI 9 (fun w h=>Q9 (E6 (h (.row g _ 0 [] _ []) (by exact Bw))) (h _ (by exact Bw))) ?_
  refine dtI 10 (fun w h=>Q9 (E6 (h (.row g _ 0 [] _ []) (by exact Bw))) (h _ (by exact Bw))) ?_
  refine dO 5 (by kernel_rfl) (by rw [List.getElem?_toArray];rfl) ?_
  apply At;rfl;kernel_rfl;exact Bb
  refine cfr (fun w st=>by obtain ⟨Fq,hq⟩:=Yb (st.get (p:=.ow Be 3 (.slice a1 n.Ar.Ad.length c1) n.Ar.Ad F1) (by exact Bw));exact ⟨_,Ia hq,rfl,Tc n.Ar 0 _ Fq (by show n.Ar.Ad.length≤1000000;omega)⟩) (fun u _=>?_)
  refine Ao ?_
  refine Ax (E:=Be) (xs:=Gb n.Ar.Ad 0) fun Fk=>?_
  refine dkI (fun w h=>Q9 (E6 (h (.row g _ 0 [] _ []) (by exact Bw))) (h _ (by exact Bw))) ?_
  refine dO 11 (by kernel_rfl) (by rw [List.getElem?_toArray];rfl) ?_
  apply At;rfl;kernel_rfl;exact Bb
  refine cf (Aix (X:=[.slice a1 n.Ar.Ad.length c1]) (cs:=[.int .i64 n.Ab.Aa.Ak,.int .i64 n.Ab.Aa.size,.slice a2 n.Ab.Aa.Aj.length c2,.int .i64 n.Ab.Ai,.int .i64 n.Ab.quiet,.slice a3 n.Ab.holds.length c3]) (Y:=[.slice a4 n.Ah.length c4,.slice a5 n.Ae.length c5,.slice a6 n.down.length c6,.slice a7 n.up.length c7]) (L:=[.slice a1 n.Ar.Ad.length c1,.int .i64 n.Ab.Aa.Ak,.int .i64 n.Ab.Aa.size,.slice a2 n.Ab.Aa.Aj.length c2,.int .i64 n.Ab.Ai,.int .i64 n.Ab.quiet,.slice a3 n.Ab.holds.length c3,.slice a4 n.Ah.length c4,.slice a5 n.Ae.length c5,.slice a6 n.down.length c6,.slice a7 n.up.length c7]) (L':=fun z:SeS=>[.slice a1 n.Ar.Ad.length c1,.int .i64 (C4 n.Ab.Aa s.data).Ak,.int .i64 (C4 n.Ab.Aa s.data).size,.slice z.a (C4 n.Ab.Aa s.data).Aj.length z.c,.int .i64 n.Ab.Ai,.int .i64 0,.slice z.a2 (Kn (C4 n.Ab.Aa s.data) n.Ab.holds).length z.c2,.slice a4 n.Ah.length c4,.slice a5 n.Ae.length c5,.slice a6 n.down.length c6,.slice a7 n.up.length c7]) (cs':=fun z:SeS=>[.int .i64 (C4 n.Ab.Aa s.data).Ak,.int .i64 (C4 n.Ab.Aa s.data).size,.slice z.a (C4 n.Ab.Aa s.data).Aj.length z.c,.int .i64 n.Ab.Ai,.int .i64 0,.slice z.a2 (Kn (C4 n.Ab.Aa s.data) n.Ab.holds).length z.c2]) (Ala n.Ab.Aa s.data n.Ab.holds g 37 (0+1) _ _ a2 a3 c2 c3 n.Ab.Ai n.Ab.quiet F2 F3 hS.l hS.t0 hS.t1 hss hz1 hS.n) rfl rfl (fun _=>rfl)) fun z _=>?_
  refine Ao ?_
  refine dkI (fun w h=>Q9 (E6 (h (.row g _ 0 [] _ []) (by exact Bw))) (h _ (by exact Bw))) ?_
  refine dO 12 (by kernel_rfl) (by rw [List.getElem?_toArray];rfl) ?_
  apply Hh;rfl;rfl;rfl;rfl;exact Gz;exact Gp;intro _
  refine Ee (E:=Al) (xs:=[Dd n.Ab.Aa s.data]) (Cz (Dd n.Ab.Aa s.data) hss) ?_ (by simp)
  refine Ax (E:=Al) (xs:=[Dd n.Ab.Aa s.data]) fun Fp=>?_
  refine dkI (fun w h=>Q9 (E6 (h (.row g _ 0 [] _ []) (by exact Bw))) (h _ (by exact Bw))) ?_
  refine dO 13 (by kernel_rfl) (by rw [List.getElem?_toArray];rfl) ?_
  apply At;rfl;kernel_rfl;exact Bb
  refine cf (Td n.down (Gb n.Ar.Ad 0) [Dd n.Ab.Aa s.data] g _ _ _ _ _ _ _ _ _ _ a6 _ c6 F6 _ _ Fk _ _ Fp rfl hkx) fun J6 _=>?_
  refine Ao ?_
  refine dkI (fun w h=>Q9 (E6 (h (.row g _ 0 [] _ []) (by exact Bw))) (h _ (by exact Bw))) ?_
  refine dd ?_
  refine go ?_;intros
  refine ret (⟨a1,c1,F1,z.a,z.c,z.F,z.a2,z.c2,z.F2,a4,c4,F4,a5,c5,F5,a6,c6,J6,a7,c7,F7⟩,⟨0,none,0,[]⟩) trivial rfl
 refine go ?_;intros
 refine Bd rfl (fun h4=>?_) (fun h4=>?_)
 ·refine go ?_;intros
  refine Bd rfl (fun hc=>?_) (fun hc=>?_)
  ·rw [show Cd n s=none by unfold Cd;rw [if_neg h1,if_pos h4,if_pos hc]]
   refine go ?_;intros
   refine ret (⟨a1,c1,F1,a2,c2,F2,a3,c3,F3,a4,c4,F4,a5,c5,F5,a6,c6,F6,a7,c7,F7⟩,⟨0,none,0,[]⟩) trivial rfl
  ·rw [show Cd n s=some (D7 n) by unfold Cd;rw [if_neg h1,if_pos h4,if_neg hc]]
   have hck:=Uk hG.s
   refine go ?_;intros
   refine cf (Ak5 n g a1 c1 F1 a2 c2 F2 a3 c3 F3 a4 c4 F4 a5 c5 F5 a6 c6 F6 a7 c7 F7 FT hg (by omega)) fun z _=>?_
   refine Ao ?_
   refine go ?_;intros
   refine ret (z.1,z.2) trivial rfl
 ·rw [show Cd n s=Cv n s by unfold Cd;rw [if_neg h1,if_neg h4]]
  have hf:Mx s.node=true:=by
   unfold Dg at hs
   rw [if_neg h1,if_neg h4] at hs
   simp only [Bool.and_eq_true] at hs
   exact hs.1.2
  refine go ?_;intros
  refine cf (Amm n s g a1 c1 F1 a2 c2 F2 a3 c3 F3 a4 c4 F4 a5 c5 F5 a6 c6 F6 a7 c7 F7 FT hg hf) fun z _=>?_
  refine Ao ?_
  refine go ?_;intros
  refine ret (z.1,z.2) trivial rfl
theorem Pk (s:Fa) (hss:s.data.size≤maxLen):Fn prog 17 [.agg #[.int .i64 s.Cm,.int .i64 s.node,.string s.data]] [] [] (fun (_:Unit)=>True) (fun _=>.bool (Dg s)) (fun _=>[]):=by
 refine enter func17 rfl ntmps17 fun w0=>?_
 refine go ?_;intros
 refine Bd rfl (fun h1=>?_) (fun h1=>?_)
 ·rw [show Dg s=(decide (s.node=0) && Nq s.data) by unfold Dg;rw [if_pos h1]]
  refine go ?_;intros
  refine Cw rfl rfl (fun h2=>?_) (fun h2=>?_)
  ·refine go ?_;intros
   refine cb (fun w st=>Ua s.data w hss) ?_
   refine go ?_;intros
   refine ret () trivial ?_
   rw [decide_eq_true h2];rfl
  ·refine go ?_;intros
   refine ret () trivial ?_
   rw [decide_eq_false h2];rfl
 refine go ?_;intros
 refine Bd rfl (fun h4=>?_) (fun h4=>?_)
 ·rw [show Dg s=(decide (s.node=0) && decide (s.data=⟨#[]⟩)) by unfold Dg;rw [if_neg h1,if_pos h4]]
  refine go ?_;intros
  refine Cw rfl rfl (fun h2=>?_) (fun h2=>?_)
  ·refine go ?_;intros
   refine ret () trivial ?_
   rw [decide_eq_true h2];rfl
  ·refine go ?_;intros
   refine ret () trivial ?_
   rw [decide_eq_false h2];rfl
 rw [show Dg s=(Gs 1 s.Cm 6 && Mx s.node && decide (s.data=⟨#[]⟩)) by unfold Dg;rw [if_neg h1,if_neg h4]]
 refine go ?_;intros
 refine Bd rfl (fun k2=>?_) (fun k2=>?_)
 ·refine go ?_;intros
  refine Bd rfl (fun _=>?_) (fun hx=>absurd k2 hx)
  refine go ?_;intros
  refine ce (fun w st=>Pw s.node _) ?_
  cases g5:Mx s.node
  ·refine go ?_;intros
   refine ret () trivial ?_
   rw [Bool.and_false,Bool.false_and];rfl
  ·refine go ?_;intros
   refine ret () trivial ?_
   rw [show Gs 1 s.Cm 6=true by unfold Gs;simp;omega];rfl
 ·refine go ?_;intros
  refine Bd rfl (fun k3=>?_) (fun k3=>?_)
  ·refine go ?_;intros
   refine Bd rfl (fun _=>?_) (fun hx=>absurd k3 hx)
   refine go ?_;intros
   refine ce (fun w st=>Pw s.node _) ?_
   cases g5:Mx s.node
   ·refine go ?_;intros
    refine ret () trivial ?_
    rw [Bool.and_false,Bool.false_and];rfl
   ·refine go ?_;intros
    refine ret () trivial ?_
    rw [show Gs 1 s.Cm 6=true by unfold Gs;simp;omega];rfl
  ·refine go ?_;intros
   refine Bd rfl (fun k5=>?_) (fun k5=>?_)
   ·refine go ?_;intros
    refine Bd rfl (fun _=>?_) (fun hx=>absurd k5 hx)
    refine go ?_;intros
    refine ce (fun w st=>Pw s.node _) ?_
    cases g5:Mx s.node
    ·refine go ?_;intros
     refine ret () trivial ?_
     rw [Bool.and_false,Bool.false_and];rfl
    ·refine go ?_;intros
     refine ret () trivial ?_
     rw [show Gs 1 s.Cm 6=true by unfold Gs;simp;omega];rfl
   ·refine go ?_;intros
    refine Bd rfl (fun k6=>?_) (fun k6=>?_)
    ·refine go ?_;intros
     refine ce (fun w st=>Pw s.node _) ?_
     cases g5:Mx s.node
     ·refine go ?_;intros
      refine ret () trivial ?_
      rw [Bool.and_false,Bool.false_and];rfl
     ·refine go ?_;intros
      refine ret () trivial ?_
      rw [show Gs 1 s.Cm 6=true by unfold Gs;simp;omega];rfl
    ·refine go ?_;intros
     refine ret () trivial ?_
     rw [show Gs 1 s.Cm 6=false by unfold Gs;simp;omega];rfl
def okQ (up:Bool) (p:Aw):Bool:=Bk p && (!up || decide (p.Cm=3))
theorem Ae9 (up:Bool) (l:List Aw):(l.all (okQ up) && decide (l.length≤6))=(D9 l && (!up || Tu l)):=by
 have h:l.all (okQ up)=(l.all Bk && (!up || Tu l)):=by
  unfold Tu okQ
  induction l with
  | nil=>cases up <;> rfl
  | cons p l ih =>
   simp only [List.all_cons,ih]
   cases Bk p <;> cases up <;> cases decide (p.Cm=3) <;> cases l.all Bk <;> simp
 rw [h]
 unfold D9
 cases decide (l.length≤6) <;> cases l.all Bk <;> simp
theorem Ajn {up:Bool} {l:List Aw} {k:Nat} (h:k < l.length) (hp:okQ up l[k]=false):(D9 l && (!up || Tu l))=false:=by
 rw [←Ae9,show l.all (okQ up)=false from List.all_eq_false.2 ⟨l[k],List.getElem_mem h,by simp [hp]⟩];rfl
theorem Xy (l:List Aw) (up:Bool) (a:Option Addr) (c:Nat) (F:List Nat) (hl:l.length≤9223372036854775807):Fn prog 156 [.slice a l.length c,.bool up] [.sl Al (.slice a l.length c) l F] [] (fun (_:Unit)=>True) (fun _=>.bool (D9 l && (!up || Tu l))) (fun _=>[]):=by
 refine enter func156 rfl ntmps156 fun w0=>?_
 refine go ?_;intros
 refine Ds [0,1,4] (fun k:Nat=>[(5,.int .i64 (k:Nat))]) (fun k=>k≤l.length∧∀j,j < k→∀h:j < l.length,okQ up l[j]=true) (fun k=>l.length - k) 0 ⟨Nat.zero_le _,fun j h=>by omega⟩ fun k hk=>?_
 obtain ⟨hk1,hk2⟩:=hk
 refine go ?_;intros
 refine Bd rfl (fun h1=>?_) (fun h1=>?_)
 ·have hh:k < l.length:=by omega
  refine Lj (xs:=l) k ?_
  rintro hi b o e1 s1
  rw [e1]
  refine go ?_;intros
  refine cf (Acj l[k] s1) fun _ _=>?_
  refine Ao ?_
  cases g:Bk l[k]
  ·rw [Ajn hh (by unfold okQ;rw [g];rfl)]
   refine go ?_;intros
   refine ret () trivial rfl
  cases up
  ·refine go ?_;intros
   refine Co (k+1) ⟨hh,fun j hj h=>?_⟩ (by show l.length - (k+1) < l.length - k;omega)
   rcases Nat.lt_or_eq_of_le (Nat.lt_succ_iff.1 hj) with h'|rfl
   ·exact hk2 j h' h
   ·unfold okQ;rw [g];rfl
  ·refine go ?_;intros
   refine Bd rfl (fun h3=>?_) (fun h3=>?_)
   ·rw [Ajn hh (by unfold okQ;rw [g,decide_eq_false h3];rfl)]
    refine go ?_;intros
    refine ret () trivial rfl
   ·refine go ?_;intros
    refine Co (k+1) ⟨hh,fun j hj h=>?_⟩ (by show l.length - (k+1) < l.length - k;omega)
    rcases Nat.lt_or_eq_of_le (Nat.lt_succ_iff.1 hj) with h'|rfl
    ·exact hk2 j h' h
    ·unfold okQ;rw [g,decide_eq_true (by omega)];rfl
 ·obtain rfl:k=l.length:=by omega
  refine go ?_;intros
  refine ret () trivial ?_
  rw [←Ae9,show l.all (okQ up)=true from List.all_eq_true.2 fun p hp=>by obtain ⟨j,hj,rfl⟩:=List.getElem_of_mem hp;exact hk2 j hj hj,Bool.true_and]
  by_cases h6:l.length≤6
  ·rw [decide_eq_true h6,decide_eq_true (by omega)];rfl
  ·rw [decide_eq_false h6,decide_eq_false (by omega)];rfl
theorem Q4 (e:Bl) (v:Value) (F:List Nat):Fn prog 106 [v] [.isv Bh v e F] [] (fun (_:Unit)=>True) (fun _=>.bool (Jm e)) (fun _=>[]):=by
 refine enter func106 rfl ntmps106 fun w0=>?_
 refine Eb ?_
 rintro a1 c1 F1 rfl l1
 refine go ?_;intros
 refine Cw rfl rfl (fun h1=>?_) (fun h1=>?_)
 ·refine go ?_;intros
  refine ret () trivial ?_
  unfold Jm
  rw [decide_eq_true h1,Bool.true_and]
  by_cases h:e.Af.length=0
  ·rw [decide_eq_true h,decide_eq_true (by omega)];rfl
  ·rw [decide_eq_false h,decide_eq_false (by omega)];rfl
 ·refine go ?_;intros
  refine ret () trivial ?_
  unfold Jm
  rw [decide_eq_false h1];rfl
theorem An4 (p:Aw) (hs:p.data.size≤maxLen):Fn prog 165 [.agg #[.int .i64 (p).Cm,.int .i64 (p).Ac,.int .i64 (p).Ak,.int .i64 (p).Dy,.string (p).data]] [] [] (fun (_:Unit)=>True) (fun _=>.bool (!Bk p)) (fun _=>[]):=by
 refine enter func165 rfl ntmps165 fun w0=>?_
 refine go ?_;intros
 refine cf (Q2 p hs) fun _ _=>?_
 refine Ao ?_
 refine go ?_;intros
 refine ret () trivial rfl
theorem Zu (l:List Aw) (a:Option Addr) (c:Nat) (F:List Nat):Fn prog 103 [.slice a l.length c] [.sl Al (.slice a l.length c) l F] [] (fun (_:Unit)=>True) (fun _=>.bool (D9 l)) (fun _=>[]):=by
 refine enter func103 rfl ntmps103 fun w0=>?_
 refine Rt (E:=Al) (fun p:Aw=>p.data.size≤maxLen) (fun w cs x F h=>by obtain ⟨_,h,_⟩:=h;exact h) ?_
 intro hz
 refine go ?_;intros
 refine Cw rfl rfl (fun h1=>?_) (fun h1=>?_)
 ·refine go ?_;intros
  refine cb (fun w st=>(Aet 165 [] [] [] rfl l a c F (fun p=>!Bk p) (by kernel_rfl) (by omega) (fun p hp w _=>(An4 p (hz p hp)).val w (by intro q hq;cases hq))).val w (Ia (st.get (p:=.sl Al (.slice a l.length c) l F) (by exact Bw)))) ?_
  refine go ?_;intros
  refine ret () trivial ?_
  unfold D9
  rw [decide_eq_true (show l.length≤6 by omega),List.not_any_eq_all_not];simp;rfl
 ·refine go ?_;intros
  refine ret () trivial ?_
  unfold D9
  rw [decide_eq_false (show ¬l.length≤6 by omega)];rfl
theorem Px (r:A7) (v:Value) (F:List Nat):Fn prog 107 [v] [.isv Bn v r F] [] (fun (_:Unit)=>True) (fun _=>.bool (O7 r)) (fun _=>[]):=by
 have key:∀b:Bool,(b=(!r.Bf && decide (r.Ai=0) && (decide (r.Aa.next=0) && decide (r.Aa.An.length=0) && decide (r.Ap.length=0))))→b=O7 r:=fun b h=>h
 refine enter func107 rfl ntmps107 fun w0=>?_
 refine E4 ?_
 rintro a1 c1 F1 a2 c2 F2 rfl l1 l2
 unfold maxLen at l1 l2
 cases hs:r.Bf <;> rw [hs] at key
 ·refine go ?_;intros
  refine Cw rfl rfl (fun h1=>?_) (fun h1=>?_)
  ·refine go ?_;intros
   refine Cw rfl rfl (fun h2=>?_) (fun h2=>?_)
   ·refine go ?_;intros
    refine Cw rfl rfl (fun h3=>?_) (fun h3=>?_)
    ·refine go ?_;intros
     refine ret () trivial ?_
     rw [←key (decide ((r.Ap.length:Int)=0)) (by simp [h1,h2,show r.Aa.An.length=0 by omega])];rfl
    ·refine go ?_;intros
     refine ret () trivial ?_
     rw [←key false (by simp [show ¬r.Aa.An=[] from fun e=>h3 (by rw [e];rfl)])];rfl
   ·refine go ?_;intros
    refine ret () trivial ?_
    rw [←key false (by simp [h2])];rfl
  ·refine go ?_;intros
   refine ret () trivial ?_
   rw [←key false (by simp [h1])];rfl
 ·refine go ?_;intros
  refine ret () trivial ?_
  rw [←key false (by simp)];rfl
theorem An3 (p:Aw):Fn prog 105 [.agg #[.int .i64 (p).Cm,.int .i64 (p).Ac,.int .i64 (p).Ak,.int .i64 (p).Dy,.string (p).data]] [] [] (fun (_:Unit)=>True) (fun _=>.bool (!decide (p.Cm=3))) (fun _=>[]):=by
 refine enter func105 rfl ntmps105 fun w0=>?_
 refine go ?_;intros
 refine ret () trivial ?_
 rw [←decide_not];rfl
theorem Amr (l:List Aw):(l.any fun p=>!decide (p.Cm=3)) = !Tu l:=by
 unfold Tu;rw [List.not_all_eq_any_not]
theorem Ae5 {α:Type} (l:List α):decide ((l.length:Int)=0)=decide (l.length=0):=by
 by_cases h:l.length=0
 ·rw [decide_eq_true h,decide_eq_true (by omega)]
 ·rw [decide_eq_false h,decide_eq_false (by omega)]
theorem Aj5 {par:List Int} {clk:Int} {i:Nat} {e:Bl} {r:A7} {d u:List Aw} (h:(D9 d && D9 u && Tu u)=false):M8 par clk i e r d u=false:=by unfold M8;rw [h];rfl
theorem Aof {par:List Int} {clk:Int} {i:Nat} {e:Bl} {r:A7} {d u:List Aw} (h:(D9 d && D9 u && Tu u)=true):M8 par clk i e r d u=(if i=0 then Jm e && O7 r && decide (d.length=0) && decide (u.length=0)
  else if Hj par i then Jm e && C7 r && decide (r.Ai=clk) else Bc e && decide (e.Ai=clk) && O7 r):=by unfold M8;rw [h,Bool.true_and]
theorem Y8 (n:En) (i:Nat) (v:Value) (F:List Nat) (hl:Iw n=true) (hi:i < n.Ar.Ad.length):Fn prog 45 [v,.int .i64 (i:Nat)] [.isv Lr v n F] [] (fun (_:Unit)=>True) (fun _=>.bool (Ou n i)) (fun _=>[]):=by
 obtain ⟨q1,q2,q3,q4⟩:=Bz.1 hl
 rw [R9 (by omega) (by omega) (by omega) (by omega)]
 refine enter func45 rfl ntmps45 fun w0=>?_
 refine C9 ?_
 rintro a1 c1 F1 a2 c2 F2 a3 c3 F3 a4 c4 F4 a5 c5 F5 a6 c6 F6 a7 c7 F7 rfl l1 l2 l3 l4 l5 l6 l7
 unfold maxLen at l1 l2 l3 l4 l5 l6 l7
 refine Ky n.Ar ?_
 refine Of (xs:=n.Ah) i ?_
 rintro hi4 b4 o4 a8 c8 F8 rfl l8
 refine Eq n.Ah[i] ?_
 refine Mz (xs:=n.Ae) i ?_
 rintro hi5 b5 o5 a9 c9 F9 a10 c10 F10 rfl l9 l10
 refine Eh n.Ae[i] ?_
 refine M0 (E:=Al) (hz:=by decide) (xs:=n.down) i ?_
 rintro hi6 b6 o6 a11 c11 F11 rfl l11
 refine M0 (E:=Al) (hz:=by decide) (xs:=n.up) i ?_
 rintro hi7 b7 o7 a12 c12 F12 rfl l12
 unfold maxLen at l8 l9 l10 l11 l12
 refine go ?_;intros
 refine Ep [1,2,4] [0,1,2,3,4,5,6,7,8,9,10,11,12,13,14,15,16,17,18,19,20] (fun z:Nat × Nat=>[(5,Eo z.1 0 0),(6,Eo z.2 0 0)]) (fun z=>[.row z.1 77 0 [] [.int .i64 n.Ah[i].Ai,.slice a8 n.Ah[i].Af.length c8] [],.row z.2 84 0 [] [.bool n.Ae[i].Bf,.int .i64 n.Ae[i].Ai,.int .i64 n.Ae[i].Aa.next,.slice a9 n.Ae[i].Aa.An.length c9,.slice a10 n.Ae[i].Ap.length c10] []]) (fun _=>True) ?_ fun z _=>?_
 ·refine Av [0,6,10] [] ?_
  refine dt 0 ?_
  refine dt 1 ?_
  refine dt 2 ?_
  refine dt 3 ?_
  refine dt 4 ?_
  refine dt 5 ?_
  refine dt 6 ?_
  refine dt 7 ?_
  refine dt 8 ?_
  refine dt 9 ?_
  refine Nn 10 11 (by kernel_rfl) (by rw [List.getElem?_toArray];rfl) (by rw [List.getElem?_toArray];rfl) ?_ ?_
  ·apply Bv;rfl;intro _
   refine dk ?_
   refine dO 11 (by kernel_rfl) (by rw [List.getElem?_toArray];rfl) ?_
   apply Bv;rfl;intro _
   refine dk ?_
   refine dO 12 (by kernel_rfl) (by rw [List.getElem?_toArray];rfl) ?_
   apply Cf;rfl;rfl;rfl;(first|exact AggC.s|exact OneC.s);rfl;exact Ci;exact Cg;rfl
   refine dk ?_
   refine dO 13 (by kernel_rfl) (by rw [List.getElem?_toArray];rfl) ?_
   apply Cf;rfl;rfl;rfl;(first|exact AggC.s|exact OneC.s);rfl;exact Ci;exact Cg;rfl
   refine dk ?_
   refine dd ?_
   refine B6 ((_,_):Nat × Nat) trivial
  ·apply Bv;rfl;intro _
   refine dk ?_
   refine dO 10 (by kernel_rfl) (by rw [List.getElem?_toArray];rfl) ?_
   apply Bv;rfl;intro _
   refine dk ?_
   refine dO 12 (by kernel_rfl) (by rw [List.getElem?_toArray];rfl) ?_
   apply Cf;rfl;rfl;rfl;(first|exact AggC.s|exact OneC.s);rfl;exact Ci;exact Cg;rfl
   refine dk ?_
   refine dO 13 (by kernel_rfl) (by rw [List.getElem?_toArray];rfl) ?_
   apply Cf;rfl;rfl;rfl;(first|exact AggC.s|exact OneC.s);rfl;exact Ci;exact Cg;rfl
   refine dk ?_
   refine dd ?_
   refine B6 ((_,_):Nat × Nat) trivial
 refine go ?_;intros
 refine cf (Zu n.down[i] _ _ F11) fun _ _=>?_
 refine Ao ?_
 cases g1:D9 n.down[i]
 ·rw [Aj5 (by rw [g1];rfl)]
  refine go ?_;intros
  refine ret () trivial rfl
 refine go ?_;intros
 refine cf (Zu n.up[i] _ _ F12) fun _ _=>?_
 refine Ao ?_
 cases g2:D9 n.up[i]
 ·rw [Aj5 (by rw [g1,g2];rfl)]
  refine go ?_;intros
  refine ret () trivial rfl
 have u6:n.up[i].length≤6:=by
  unfold D9 at g2
  simp only [Bool.and_eq_true,decide_eq_true_eq] at g2
  exact g2.1
 refine go ?_;intros
 refine cb (fun w st=>(Aet 105 [] [] [] rfl n.up[i] a12 c12 F12 (fun p=>!decide (p.Cm=3)) (by kernel_rfl) (by omega) (fun p hp w _=>(An3 p).val w (by intro q hq;cases hq))).val w (Ia (st.get (p:=.sl Al (.slice a12 n.up[i].length c12) n.up[i] F12) (by exact Bw)))) ?_
 rw [Amr]
 cases g3:Tu n.up[i]
 ·rw [Aj5 (by rw [g1,g2,g3];rfl)]
  refine go ?_;intros
  refine ret () trivial rfl
 rw [Aof (by rw [g1,g2,g3];rfl)]
 refine go ?_;intros
 refine Bd rfl (fun h0=>?_) (fun h0=>?_)
 ·obtain rfl:i=0:=by omega
  rw [if_pos rfl]
  refine go ?_;intros
  refine cf (Q4 n.Ah[0] _ F8) fun _ _=>?_
  refine Ao ?_
  cases g4:Jm n.Ah[0]
  ·refine go ?_;intros
   refine ret () trivial rfl
  refine go ?_;intros
  refine cf (Px n.Ae[0] _ (F9++F10)) fun _ _=>?_
  refine Ao ?_
  cases g5:O7 n.Ae[0]
  ·refine go ?_;intros
   refine ret () trivial rfl
  refine go ?_;intros
  refine Cw rfl rfl (fun h6=>?_) (fun h6=>?_)
  ·refine go ?_;intros
   refine ret () trivial ?_
   rw [←Ae5 n.down[0],←Ae5 n.up[0],decide_eq_true h6];rfl
  ·refine go ?_;intros
   refine ret () trivial ?_
   rw [←Ae5 n.down[0],decide_eq_false h6];rfl
 rw [if_neg (by omega)]
 refine go ?_;intros
 refine cf (Xt n.Ar i _ F1) fun _ _=>?_
 refine Ao ?_
 cases g6:Hj n.Ar.Ad i
 ·rw [if_neg (by decide)]
  refine go ?_;intros
  refine cb (fun w st=>Ur _ n.Ah[i] F8 w (st.get (p:=.isv Bh (.agg #[.int .i64 n.Ah[i].Ai,.slice a8 n.Ah[i].Af.length c8]) n.Ah[i] F8) (by exact Bw))) ?_
  cases g4:Bc n.Ah[i]
  ·refine go ?_;intros
   refine ret () trivial rfl
  refine go ?_;intros
  refine Cw rfl rfl (fun h7=>?_) (fun h7=>?_)
  ·refine go ?_;intros
   refine cf (Px n.Ae[i] _ (F9++F10)) fun _ _=>?_
   refine Ao ?_
   refine go ?_;intros
   refine ret () trivial ?_
   rw [decide_eq_true h7];rfl
  ·refine go ?_;intros
   refine ret () trivial ?_
   rw [decide_eq_false h7];rfl
 ·rw [if_pos rfl]
  refine go ?_;intros
  refine cf (Q4 n.Ah[i] _ F8) fun _ _=>?_
  refine Ao ?_
  cases g4:Jm n.Ah[i]
  ·refine go ?_;intros
   refine ret () trivial rfl
  refine go ?_;intros
  refine cf (Tx n.Ae[i] _ (F9++F10)) fun _ _=>?_
  refine Ao ?_
  cases g5:C7 n.Ae[i]
  ·refine go ?_;intros
   refine ret () trivial rfl
  refine go ?_;intros
  refine ret () trivial rfl
theorem Md (n:En) (v:Value) (F:List Nat):Fn prog 11 [v] [.isv Lr v n F] [] (fun (_:Unit)=>True) (fun _=>.bool (A8 n)) (fun _=>[]):=by
 refine enter func11 rfl ntmps11 fun w0=>?_
 refine C9 ?_
 rintro a1 c1 F1 a2 c2 F2 a3 c3 F3 a4 c4 F4 a5 c5 F5 a6 c6 F6 a7 c7 F7 rfl l1 l2 l3 l4 l5 l6 l7
 unfold maxLen at l1 l2 l3 l4 l5 l6 l7
 refine Ky n.Ar ?_
 refine Dt n.Ab ?_
 refine go ?_;intros
 refine cf (Y0 n.Ar _ F1) fun _ _=>?_
 refine Ao ?_
 cases g1:Et n.Ar
 ·rw [show A8 n=false by unfold A8;rw [g1];rfl]
  refine go ?_;intros
  refine ret () trivial rfl
 refine go ?_;intros
 refine cf (Wg n.Ab _ (F2++F3)) fun _ _=>?_
 refine Ao ?_
 cases g2:Cb n.Ab
 ·rw [show A8 n=false by unfold A8;rw [g1,g2];rfl]
  refine go ?_;intros
  refine ret () trivial rfl
 refine go ?_;intros
 refine Cw rfl rfl (fun m0=>?_) (fun m0=>?_)
 ·rw [show A8 n=false by
   have:Iw n=false:=by
    cases hl:Iw n
    ·rfl
    ·obtain ⟨q1,q2,q3,q4⟩:=Bz.1 hl;exact absurd (by omega) m0
   unfold A8;rw [this];simp]
  refine go ?_;intros
  refine ret () trivial rfl
 refine go ?_;intros
 refine Cw rfl rfl (fun m1=>?_) (fun m1=>?_)
 ·rw [show A8 n=false by
   have:Iw n=false:=by
    cases hl:Iw n
    ·rfl
    ·obtain ⟨q1,q2,q3,q4⟩:=Bz.1 hl;exact absurd (by omega) m1
   unfold A8;rw [this];simp]
  refine go ?_;intros
  refine ret () trivial rfl
 refine go ?_;intros
 refine Cw rfl rfl (fun m2=>?_) (fun m2=>?_)
 ·rw [show A8 n=false by
   have:Iw n=false:=by
    cases hl:Iw n
    ·rfl
    ·obtain ⟨q1,q2,q3,q4⟩:=Bz.1 hl;exact absurd (by omega) m2
   unfold A8;rw [this];simp]
  refine go ?_;intros
  refine ret () trivial rfl
 refine go ?_;intros
 refine Bd rfl (fun m3=>?_) (fun m3=>?_)
 ·rw [show A8 n=false by
   have:Iw n=false:=by
    cases hl:Iw n
    ·rfl
    ·obtain ⟨q1,q2,q3,q4⟩:=Bz.1 hl;exact absurd (by omega) m3
   unfold A8;rw [this];simp]
  refine go ?_;intros
  refine ret () trivial rfl
 have q1:n.Ah.length=n.Ar.Ad.length:=by omega
 have q2:n.Ae.length=n.Ar.Ad.length:=by omega
 have q3:n.down.length=n.Ar.Ad.length:=by omega
 have q4:n.up.length=n.Ar.Ad.length:=by omega
 have hl:=Bz.2 ⟨q1,q2,q3,q4⟩
 refine go ?_;intros
 refine Ds [1,2,47] (fun k:Nat=>[(48,.int .i64 (k:Nat))]) (fun k=>k≤n.Ar.Ad.length∧∀j,j < k→Ou n j=true) (fun k=>n.Ar.Ad.length - k) 0 ⟨Nat.zero_le _,fun j h=>by omega⟩ fun k hk=>?_
 obtain ⟨hk1,hk2⟩:=hk
 refine go ?_;intros
 refine Bd rfl (fun h1=>?_) (fun h1=>?_)
 ·have hh:k < n.Ar.Ad.length:=by omega
  refine go ?_;intros
  refine cf (Y8 n k _ F hl hh) fun _ _=>?_
  refine Ao ?_
  cases g:Ou n k
  ·rw [Xo hh g]
   refine go ?_;intros
   refine ret () trivial rfl
  refine go ?_;intros
  refine Co (k+1) ⟨hh,fun j hj=>?_⟩ (by show n.Ar.Ad.length - (k+1) < n.Ar.Ad.length - k;omega)
  rcases Nat.lt_or_eq_of_le (Nat.lt_succ_iff.1 hj) with h|rfl
  ·exact hk2 j h
  ·exact g
 ·obtain rfl:k=n.Ar.Ad.length:=by omega
  refine go ?_;intros
  refine ret () trivial ?_
  rw [Rh.2 ⟨g1,g2,hl,hk2⟩];rfl
theorem Afh {par:List Int} {clk:Int} {i:Nat} {e:Bl} {r:A7} {d u:List Aw} (h:(Bc e && C7 r && D9 d && (D9 u && Tu u))=false):M8 par clk i e r d u=false:=by rw [←Z9];unfold Aa9;rw [h];rfl
theorem Aog {par:List Int} {clk:Int} {i:Nat} {e:Bl} {r:A7} {d u:List Aw} (h:(Bc e && C7 r && D9 d && (D9 u && Tu u))=true):M8 par clk i e r d u=(if i=0 then Jm e && (!r.Bf && decide (r.Ai=0)) && decide (d.length+u.length=0)
  else if Hj par i then Jm e && decide (r.Ai=clk) else (!r.Bf && decide (r.Ai=0)) && decide (e.Ai=clk)):=by rw [←Z9];unfold Aa9;rw [h,Bool.true_and]
theorem Alv (n:En) (i:Nat) (v:Value) (F:List Nat) (hl:Iw n=true) (hi:i < n.Ar.Ad.length) (hg:Mu n.Ar.Ad):Fn prog 85 [v,.int .i64 (i:Nat)] [.isv Lr v n F] [] (fun (_:Unit)=>True) (fun _=>.bool (Ou n i)) (fun _=>[]):=by
 obtain ⟨q1,q2,q3,q4⟩:=Bz.1 hl
 rw [R9 (by omega) (by omega) (by omega) (by omega)]
 refine enter func85 rfl ntmps85 fun w0=>?_
 refine C9 ?_
 rintro a1 c1 F1 a2 c2 F2 a3 c3 F3 a4 c4 F4 a5 c5 F5 a6 c6 F6 a7 c7 F7 rfl l1 l2 l3 l4 l5 l6 l7
 unfold maxLen at l1 l2 l3 l4 l5 l6 l7
 refine Ky n.Ar ?_
 refine Of (xs:=n.Ah) i ?_
 rintro hi4 b4 o4 a8 c8 F8 rfl l8
 refine Eq n.Ah[i] ?_
 refine Mz (xs:=n.Ae) i ?_
 rintro hi5 b5 o5 a9 c9 F9 a10 c10 F10 rfl l9 l10
 refine Eh n.Ae[i] ?_
 refine M0 (E:=Al) (hz:=by decide) (xs:=n.down) i ?_
 rintro hi6 b6 o6 a11 c11 F11 rfl l11
 refine M0 (E:=Al) (hz:=by decide) (xs:=n.up) i ?_
 rintro hi7 b7 o7 a12 c12 F12 rfl l12
 unfold maxLen at l8 l9 l10 l11 l12
 refine go ?_;intros
 refine Ep [1,2,4] [0,1,2,3,4,5,6,7,8,9,10,11,12,13,14,15,16,17,18,19,20] (fun z:Nat × Nat=>[(5,Eo z.1 0 0),(6,Eo z.2 0 0)]) (fun z=>[.row z.1 77 0 [] [.int .i64 n.Ah[i].Ai,.slice a8 n.Ah[i].Af.length c8] [],.row z.2 84 0 [] [.bool n.Ae[i].Bf,.int .i64 n.Ae[i].Ai,.int .i64 n.Ae[i].Aa.next,.slice a9 n.Ae[i].Aa.An.length c9,.slice a10 n.Ae[i].Ap.length c10] []]) (fun _=>True) ?_ fun z _=>?_
 ·refine Av [0,6,10] [] ?_
  refine dt 0 ?_
  refine dt 1 ?_
  refine dt 2 ?_
  refine dt 3 ?_
  refine dt 4 ?_
  refine dt 5 ?_
  refine dt 6 ?_
  refine dt 7 ?_
  refine dt 8 ?_
  refine dt 9 ?_
  refine Nn 10 11 (by kernel_rfl) (by rw [List.getElem?_toArray];rfl) (by rw [List.getElem?_toArray];rfl) ?_ ?_
  ·apply Bv;rfl;intro _
   refine dk ?_
   refine dO 11 (by kernel_rfl) (by rw [List.getElem?_toArray];rfl) ?_
   apply Bv;rfl;intro _
   refine dk ?_
   refine dO 12 (by kernel_rfl) (by rw [List.getElem?_toArray];rfl) ?_
   apply Cf;rfl;rfl;rfl;(first|exact AggC.s|exact OneC.s);rfl;exact Ci;exact Cg;rfl
   refine dk ?_
   refine dO 13 (by kernel_rfl) (by rw [List.getElem?_toArray];rfl) ?_
   apply Cf;rfl;rfl;rfl;(first|exact AggC.s|exact OneC.s);rfl;exact Ci;exact Cg;rfl
   refine dk ?_
   refine dd ?_
   refine B6 ((_,_):Nat × Nat) trivial
  ·apply Bv;rfl;intro _
   refine dk ?_
   refine dO 10 (by kernel_rfl) (by rw [List.getElem?_toArray];rfl) ?_
   apply Bv;rfl;intro _
   refine dk ?_
   refine dO 12 (by kernel_rfl) (by rw [List.getElem?_toArray];rfl) ?_
   apply Cf;rfl;rfl;rfl;(first|exact AggC.s|exact OneC.s);rfl;exact Ci;exact Cg;rfl
   refine dk ?_
   refine dO 13 (by kernel_rfl) (by rw [List.getElem?_toArray];rfl) ?_
   apply Cf;rfl;rfl;rfl;(first|exact AggC.s|exact OneC.s);rfl;exact Ci;exact Cg;rfl
   refine dk ?_
   refine dd ?_
   refine B6 ((_,_):Nat × Nat) trivial
 refine go ?_;intros
 refine cb (fun w st=>Agw _ n.Ah[i] F8 w (st.get (p:=.isv Bh (.agg #[.int .i64 n.Ah[i].Ai,.slice a8 n.Ah[i].Af.length c8]) n.Ah[i] F8) (by exact Bw))) ?_
 cases g1:Bc n.Ah[i]
 ·rw [Afh (by rw [g1];rfl)]
  refine go ?_;intros
  refine ret () trivial rfl
 refine go ?_;intros
 refine cf (Agu n.Ae[i] _ (F9++F10)) fun _ _=>?_
 refine Ao ?_
 cases g2:C7 n.Ae[i]
 ·rw [Afh (by rw [g1,g2];rfl)]
  refine go ?_;intros
  refine ret () trivial rfl
 refine go ?_;intros
 refine cf (Xy n.down[i] false _ _ F11 (by omega)) fun _ _=>?_
 refine Ao ?_
 rw [show (D9 n.down[i] && (!false || Tu n.down[i]))=D9 n.down[i] by simp]
 cases g3:D9 n.down[i]
 ·rw [Afh (by rw [g1,g2,g3];rfl)]
  refine go ?_;intros
  refine ret () trivial rfl
 refine go ?_;intros
 refine cf (Xy n.up[i] true _ _ F12 (by omega)) fun _ _=>?_
 refine Ao ?_
 rw [show (D9 n.up[i] && (!true || Tu n.up[i]))=(D9 n.up[i] && Tu n.up[i]) by simp]
 cases g4:(D9 n.up[i] && Tu n.up[i])
 ·rw [Afh (by rw [g1,g2,g3,g4];rfl)]
  refine go ?_;intros
  refine ret () trivial rfl
 rw [Aog (by rw [g1,g2,g3,g4];rfl)]
 repeat (first|apply Xe|(apply wO;apply oc;rfl;exact ydE)|apply Adf|apply Ag6|(apply Amv;rfl;rfl)|(apply Amu;rfl;rfl;rfl;rfl)|(apply Amw;rfl;rfl;rfl)|(apply c_t;rfl)|(apply c_f;rfl)|apply Xf|apply Wm|apply Ae7)
 refine Ep [1,2,4,5,6] [0,1,2,3,4,5,6,7,8,9,10,11,12,13,14,15,16,17,18,19,20,21,22] (fun _:Unit=>[(7,.bool (Jm n.Ah[i]))]) (fun _=>[]) (fun _=>True) ?_ fun _ _=>?_
 ·refine go ?_;intros
  refine Cw rfl rfl (fun h1=>?_) (fun h1=>?_)
  ·refine go ?_;intros
   rw [show decide ((n.Ah[i].Af.length:Int)=0)=Jm n.Ah[i] by unfold Jm;rw [decide_eq_true h1,Ae5];rfl]
   refine B6 () trivial
  ·refine go ?_;intros
   rw [show false=Jm n.Ah[i] by unfold Jm;rw [decide_eq_false h1];rfl]
   refine B6 () trivial
 repeat (first|apply Xe|(apply wO;apply oc;rfl;exact ydE)|apply Adf|apply Ag6|(apply Amv;rfl;rfl)|(apply Amu;rfl;rfl;rfl;rfl)|(apply Amw;rfl;rfl;rfl)|(apply c_t;rfl)|(apply c_f;rfl)|apply Xf|apply Wm|apply Ae7)
 refine Ep [1,2,4,5,6,7] [0,1,2,3,4,5,6,7,8,9,10,11,12,13,14,15,16,17,18,19,20,21,22] (fun _:Unit=>[(8,.bool (!n.Ae[i].Bf && decide (n.Ae[i].Ai=0)))]) (fun _=>[]) (fun _=>True) ?_ fun _ _=>?_
 ·cases hs:n.Ae[i].Bf
  ·refine go ?_;intros
   refine B6 () trivial
  ·refine go ?_;intros
   refine B6 () trivial
 refine Ao ?_
 generalize hzr:(!n.Ae[i].Bf && decide (n.Ae[i].Ai=0))=zr
 refine go ?_;intros
 refine Bd rfl (fun h0=>?_) (fun h0=>?_)
 ·obtain rfl:i=0:=by omega
  rw [if_pos rfl]
  have hd6:(n.down[0].length:Int)+(n.up[0].length:Int)≤12:=by
   unfold D9 at g3 g4
   simp only [Bool.and_eq_true,decide_eq_true_eq] at g3 g4
   omega
  cases hze:Jm n.Ah[0] <;> cases zr
  ·refine go ?_;intros
   refine Av [2,3,5] [] ?_
   refine dt 0 ?_
   refine dt 1 ?_
   refine ds 2 ?_
   refine dt 3 ?_
   refine dt 4 ?_
   refine ds 5 ?_
   refine ds 6 ?_
   refine ds 7 ?_
   refine ds 8 ?_
   refine ds 9 ?_
   refine ds 10 ?_
   refine ds 11 ?_
   refine ds 12 ?_
   refine ds 13 ?_
   refine ds 14 ?_
   refine ds 15 ?_
   refine ds 16 ?_
   refine dt 17 ?_
   refine dt 18 ?_
   refine dd ?_
   refine go ?_;intros
   refine ret () trivial rfl
  ·refine go ?_;intros
   refine Av [2,3,5] [] ?_
   refine dt 0 ?_
   refine dt 1 ?_
   refine ds 2 ?_
   refine dt 3 ?_
   refine dt 4 ?_
   refine ds 5 ?_
   refine ds 6 ?_
   refine ds 7 ?_
   refine ds 8 ?_
   refine ds 9 ?_
   refine ds 10 ?_
   refine ds 11 ?_
   refine ds 12 ?_
   refine ds 13 ?_
   refine ds 14 ?_
   refine ds 15 ?_
   refine ds 16 ?_
   refine dt 17 ?_
   refine dt 18 ?_
   refine dd ?_
   refine go ?_;intros
   refine ret () trivial rfl
  ·refine go ?_;intros
   refine Av [2,3,5] [] ?_
   refine dt 0 ?_
   refine dt 1 ?_
   refine Dm 2 ?_
   refine dt 3 ?_
   refine dt 4 ?_
   refine ds 5 ?_
   refine ds 6 ?_
   refine ds 7 ?_
   refine ds 8 ?_
   refine ds 9 ?_
   refine ds 10 ?_
   refine ds 11 ?_
   refine ds 12 ?_
   refine ds 13 ?_
   refine ds 14 ?_
   refine ds 15 ?_
   refine ds 16 ?_
   refine dt 17 ?_
   refine dt 18 ?_
   refine dd ?_
   refine go ?_;intros
   refine ret () trivial rfl
  ·refine go ?_;intros
   refine Av [2,3,5] [] ?_
   refine dt 0 ?_
   refine dt 1 ?_
   refine Dm 2 ?_
   refine dt 3 ?_
   refine dt 4 ?_
   refine Dm 5 ?_
   refine Dm 6 ?_
   refine Dm 7 ?_
   refine Dm 8 ?_
   refine Dm 9 ?_
   refine Dm 10 ?_
   refine Dm 11 ?_
   refine Dm 12 ?_
   refine Dm 13 ?_
   refine Dm 14 ?_
   refine Dm 15 ?_
   refine Dm 16 ?_
   refine dt 17 ?_
   refine dt 18 ?_
   refine dd ?_
   refine go ?_;intros
   refine ret () trivial ?_
   rw [show decide ((n.down[0].length:Int)+(n.up[0].length:Int)=0)=decide (n.down[0].length+n.up[0].length=0) by congr 1;rw [eq_iff_iff];omega];rfl
 rw [if_neg (by omega)]
 refine go ?_;intros
 refine cf (U8 n.Ar i _ F1 hg (by omega)) fun _ _=>?_
 refine Ao ?_
 cases g6:Hj n.Ar.Ad i
 ·rw [if_neg (by decide)]
  cases zr
  ·refine go ?_;intros
   refine ret () trivial rfl
  ·refine go ?_;intros
   refine ret () trivial rfl
 ·rw [if_pos rfl]
  cases hze:Jm n.Ah[i]
  ·refine go ?_;intros
   refine ret () trivial rfl
  ·refine go ?_;intros
   refine ret () trivial rfl
theorem U7 (n:En) (v:Value) (F:List Nat):Fn prog 35 [v] [.isv Lr v n F] [] (fun (_:Unit)=>True) (fun _=>.bool (A8 n)) (fun _=>[]):=by
 refine enter func35 rfl ntmps35 fun w0=>?_
 refine C9 ?_
 rintro a1 c1 F1 a2 c2 F2 a3 c3 F3 a4 c4 F4 a5 c5 F5 a6 c6 F6 a7 c7 F7 rfl l1 l2 l3 l4 l5 l6 l7
 unfold maxLen at l1 l2 l3 l4 l5 l6 l7
 refine Ky n.Ar ?_
 refine Dt n.Ab ?_
 refine go ?_;intros
 refine cf (Xz n.Ar _ F1) fun _ _=>?_
 refine Ao ?_
 cases g1:Et n.Ar
 ·rw [show A8 n=false by unfold A8;rw [g1];rfl]
  refine go ?_;intros
  refine ret () trivial rfl
 refine go ?_;intros
 refine cf (Zv n.Ab _ (F2++F3)) fun _ _=>?_
 refine Ao ?_
 cases g2:Cb n.Ab
 ·rw [show A8 n=false by unfold A8;rw [g1,g2];rfl]
  refine go ?_;intros
  refine ret () trivial rfl
 refine go ?_;intros
 refine Cw rfl rfl (fun m0=>?_) (fun m0=>?_)
 ·rw [show A8 n=false by
   have:Iw n=false:=by
    cases hl:Iw n
    ·rfl
    ·obtain ⟨q1,q2,q3,q4⟩:=Bz.1 hl;exact absurd (by omega) m0
   unfold A8;rw [this];simp]
  refine go ?_;intros
  refine ret () trivial rfl
 refine go ?_;intros
 refine Cw rfl rfl (fun m1=>?_) (fun m1=>?_)
 ·rw [show A8 n=false by
   have:Iw n=false:=by
    cases hl:Iw n
    ·rfl
    ·obtain ⟨q1,q2,q3,q4⟩:=Bz.1 hl;exact absurd (by omega) m1
   unfold A8;rw [this];simp]
  refine go ?_;intros
  refine ret () trivial rfl
 refine go ?_;intros
 refine Cw rfl rfl (fun m2=>?_) (fun m2=>?_)
 ·rw [show A8 n=false by
   have:Iw n=false:=by
    cases hl:Iw n
    ·rfl
    ·obtain ⟨q1,q2,q3,q4⟩:=Bz.1 hl;exact absurd (by omega) m2
   unfold A8;rw [this];simp]
  refine go ?_;intros
  refine ret () trivial rfl
 refine go ?_;intros
 refine Bd rfl (fun m3=>?_) (fun m3=>?_)
 ·rw [show A8 n=false by
   have:Iw n=false:=by
    cases hl:Iw n
    ·rfl
    ·obtain ⟨q1,q2,q3,q4⟩:=Bz.1 hl;exact absurd (by omega) m3
   unfold A8;rw [this];simp]
  refine go ?_;intros
  refine ret () trivial rfl
 have q1:n.Ah.length=n.Ar.Ad.length:=by omega
 have q2:n.Ae.length=n.Ar.Ad.length:=by omega
 have q3:n.down.length=n.Ar.Ad.length:=by omega
 have q4:n.up.length=n.Ar.Ad.length:=by omega
 have hl:=Bz.2 ⟨q1,q2,q3,q4⟩
 refine go ?_;intros
 refine Ds [1,2,3] (fun k:Nat=>[(4,.int .i64 (k:Nat))]) (fun k=>k≤n.Ar.Ad.length∧∀j,j < k→Ou n j=true) (fun k=>n.Ar.Ad.length - k) 0 ⟨Nat.zero_le _,fun j h=>by omega⟩ fun k hk=>?_
 obtain ⟨hk1,hk2⟩:=hk
 refine go ?_;intros
 refine Bd rfl (fun h1=>?_) (fun h1=>?_)
 ·have hh:k < n.Ar.Ad.length:=by omega
  refine go ?_;intros
  refine cf (Alv n k _ F hl hh (Ll g1)) fun _ _=>?_
  refine Ao ?_
  cases g:Ou n k
  ·rw [Xo hh g]
   refine go ?_;intros
   refine ret () trivial rfl
  refine go ?_;intros
  refine Co (k+1) ⟨hh,fun j hj=>?_⟩ (by show n.Ar.Ad.length - (k+1) < n.Ar.Ad.length - k;omega)
  rcases Nat.lt_or_eq_of_le (Nat.lt_succ_iff.1 hj) with h|rfl
  ·exact hk2 j h
  ·exact g
 ·obtain rfl:k=n.Ar.Ad.length:=by omega
  refine go ?_;intros
  refine ret () trivial ?_
  rw [Rh.2 ⟨g1,g2,hl,hk2⟩];rfl
structure Rd where
 cs:List Value
 F:List Nat
 a:Option Addr
 c:Nat
 Fe:List Nat
theorem Qu {n:En} {s:Fa} (h:(A8 n && Dg s)=false):As n s=(Kd,[],false):=by unfold As;rw [h];rfl
theorem Pq (n:En) (s:Fa) (v:Value) (F FT:List Nat) (hss:s.data.size≤maxLen):Fn prog 7 [v,.agg #[.int .i64 s.Cm,.int .i64 s.node,.string s.data]] [.isv Lr v n F,Li FT] [] (fun (_:Rd)=>True) (fun z=>.tuple #[.agg z.cs.toArray,.slice z.a (As n s).2.1.length z.c,.bool (As n s).2.2]) (fun z=>[.own Afs (.agg z.cs.toArray) (As n s).1 z.F,.ow A6 9 (.slice z.a (As n s).2.1.length z.c) (As n s).2.1 z.Fe]):=by
 refine enter func7 rfl ntmps7 fun w0=>?_
 refine C9 ?_
 rintro a1 c1 F1 a2 c2 F2 a3 c3 F3 a4 c4 F4 a5 c5 F5 a6 c6 F6 a7 c7 F7 rfl l1 l2 l3 l4 l5 l6 l7
 refine B7 Be 3 ?_
 refine B7 A6 9 ?_
 refine B7 Bi 134 ?_
 refine B7 B4 77 ?_
 refine B7 Bt 84 ?_
 refine B7 (H9 Al 110) 86 ?_
 refine B7 (H9 Al 110) 86 ?_
 refine M2 Kd ?_
 refine B7 A6 9 ?_
 refine go ?_;intros
 refine cf (Md n _ F) fun _ _=>?_
 refine Ao ?_
 cases g1:A8 n
 ·rw [Qu (n:=n) (s:=s) (by rw [g1];rfl)]
  refine go ?_;intros
  refine ret (⟨[.slice none 0 0,.int .i64 0,.int .i64 0,.slice none 0 0,.int .i64 0,.int .i64 0,.slice none 0 0,.slice none 0 0,.slice none 0 0,.slice none 0 0,.slice none 0 0],_,none,0,[]⟩:Rd) trivial rfl
 refine go ?_;intros
 refine cf (Pk s hss) fun _ _=>?_
 refine Ao ?_
 cases g2:Dg s
 ·rw [Qu (n:=n) (s:=s) (by rw [g1,g2];rfl)]
  refine go ?_;intros
  refine ret (⟨[.slice none 0 0,.int .i64 0,.int .i64 0,.slice none 0 0,.int .i64 0,.int .i64 0,.slice none 0 0,.slice none 0 0,.slice none 0 0,.slice none 0 0,.slice none 0 0],_,none,0,[]⟩:Rd) trivial rfl
 refine go ?_;intros
 refine cf (Abs n _ F (Sv g1)) fun z _=>?_
 refine Ao ?_
 refine go ?_;intros
 rename_i g
 refine cf (Akh n s g z.a1 z.c1 z.F1 z.a2 z.c2 z.F2 z.a3 z.c3 z.F3 z.a4 z.c4 z.F4 z.a5 z.c5 z.F5 z.a6 z.c6 z.F6 z.a7 z.c7 z.F7 FT g1 g2 hss) fun y _=>?_
 refine Ao ?_
 cases e:Cd n s with
 | none =>
  rw [show As n s=(Kd,[],false) by unfold As;rw [g1,g2,e];rfl]
  refine go ?_;intros
  refine ret (⟨[.slice none 0 0,.int .i64 0,.int .i64 0,.slice none 0 0,.int .i64 0,.int .i64 0,.slice none 0 0,.slice none 0 0,.slice none 0 0,.slice none 0 0,.slice none 0 0],_,none,0,[]⟩:Rd) trivial rfl
 | some r =>
  rw [show As n s=(r.1,r.2,true) by unfold As;rw [g1,g2,e];rfl]
  have hr:=Id g1 g2 e
  obtain ⟨k1,k2,k3,k4,k5⟩:=Ae6 g1 hr (Ol e)
  change T _ _ (.row g 37 0 [] [.slice y.1.a1 n.Ar.Ad.length y.1.c1,.int .i64 r.1.Ab.Aa.Ak,.int .i64 r.1.Ab.Aa.size,.slice y.1.a2 r.1.Ab.Aa.Aj.length y.1.c2,.int .i64 r.1.Ab.Ai,.int .i64 r.1.Ab.quiet,.slice y.1.a3 r.1.Ab.holds.length y.1.c3,.slice y.1.a4 n.Ah.length y.1.c4,.slice y.1.a5 n.Ae.length y.1.c5,.slice y.1.a6 n.down.length y.1.c6,.slice y.1.a7 n.up.length y.1.c7] []::.ow Be 3 (.slice y.1.a1 n.Ar.Ad.length y.1.c1) r.1.Ar.Ad y.1.F1::.ow A6 9 (.slice y.1.a2 r.1.Ab.Aa.Aj.length y.1.c2) r.1.Ab.Aa.Aj y.1.F2::.ow Bi 134 (.slice y.1.a3 r.1.Ab.holds.length y.1.c3) r.1.Ab.holds y.1.F3::.ow B4 77 (.slice y.1.a4 n.Ah.length y.1.c4) r.1.Ah y.1.F4::.ow Bt 84 (.slice y.1.a5 n.Ae.length y.1.c5) r.1.Ae y.1.F5::.ow (H9 Al 110) 86 (.slice y.1.a6 n.down.length y.1.c6) r.1.down y.1.F6::.ow (H9 Al 110) 86 (.slice y.1.a7 n.up.length y.1.c7) r.1.up y.1.F7::.ow A6 9 (.slice y.2.a r.2.length y.2.c) r.2 y.2.F::_) _
  rw [k1,k2,k3,k4,k5]
  refine M2 r.1 ?_
  refine go ?_;intros
  refine ret (⟨[.slice y.1.a1 r.1.Ar.Ad.length y.1.c1,.int .i64 r.1.Ab.Aa.Ak,.int .i64 r.1.Ab.Aa.size,.slice y.1.a2 r.1.Ab.Aa.Aj.length y.1.c2,.int .i64 r.1.Ab.Ai,.int .i64 r.1.Ab.quiet,.slice y.1.a3 r.1.Ab.holds.length y.1.c3,.slice y.1.a4 r.1.Ah.length y.1.c4,.slice y.1.a5 r.1.Ae.length y.1.c5,.slice y.1.a6 r.1.down.length y.1.c6,.slice y.1.a7 r.1.up.length y.1.c7],_,_,_,_⟩:Rd) trivial rfl
theorem Adc {n:En} (hg:A8 n=true) (hc:n.Ab.Ai < 9999):∀k,k+1≤n.Ar.Ad.length→(A9 n k).2.length≤40000 * k
 | 0,_=>Nat.le_refl _
 | k+1,hk=>by
  have h:=Adc hg hc k (by omega)
  obtain ⟨hGN,hT,hSrc⟩:=Ny hg hc k (by omega)
  obtain ⟨i1,i2,i3,i4,hrn⟩:=hGN.rn (i:=k+1) (by rw [hT];omega)
  show ((A9 n k).2++(Lf (A9 n k).1 (k+1)).2).length≤_
  rw [List.length_append]
  have:(Lf (A9 n k).1 (k+1)).2.length≤40000:=by
   unfold Lf
   split
   ·rename_i hl
    have hgr:=Hc.1 (hrn.hf (by omega) hl).2.1
    obtain ⟨-,hfew⟩:=Vp hgr
    rw [Ln i2]
    show ((Ez _).map _).length≤_
    rw [List.length_map];omega
   ·exact Nat.zero_le _
  omega
theorem Ul {n:En} {s:Fa} {r:En × List ByteArray} (hg:A8 n=true) (hs:Dg s=true) (hr:Cd n s=some r):r.2.length≤400000:=by
 have hG:=Bo.1 hg
 have h8:=Ll hG.t
 have hn8:=h8.n1
 have hn2:=h8.n0
 have hck:=Uk hG.s
 have hr0:=hr
 unfold Cd at hr
 split at hr
 ·cases hr;exact Nat.zero_le _
 split at hr
 ·split at hr
  ·cases hr
  ·cases hr
   have:=Adc hg (by omega) (n.Ar.Ad.length - 1) (by omega)
   show (A9 n (n.Ar.Ad.length - 1)).2.length≤_
   omega
 unfold Cv at hr
 split at hr
 ·cases hr
 split at hr
 ·cases hr
 split at hr
 ·rename_i h1 h4 hlt h0 hk
  cases hr
  have hgp:=Jk (s:=s) hg
  have hGp:=Bo.1 hgp
  have hf:Mx s.node=true:=by
   have:=hs
   unfold Dg at this
   rw [if_neg h1,if_neg h4] at this
   simp only [Bool.and_eq_true] at this
   exact this.1.2
  obtain ⟨f1,f2⟩:=M5.1 hf
  have hpt:(Fh n s).Ar=n.Ar:=by unfold Fh;split <;> rfl
  obtain ⟨i1,i2,i3,i4,hrn⟩:=hGp.rn (i:=s.node.toNat) (by rw [hpt];omega)
  unfold C2
  split
  ·rename_i hl
   have hgr:=Hc.1 (hrn.hf (by omega) hl).2.1
   obtain ⟨d0,d1⟩:=Xh (i:=s.node.toNat)
   have hp:Bk (Mt (P7 n s))=true:=Lz (Kv (s:=s) hg).1 (Nt (by omega))
   have:=(Se hgr hp d0 d1).2
   rw [Ln i2]
   show ((Gm _ _).map _).length≤_
   rw [List.length_map];omega
  ·exact Nat.zero_le _
 split at hr
 ·cases hr;exact Nat.zero_le _
 ·cases hr;exact Nat.zero_le _
abbrev NE:=En × List ByteArray
def qd (l:List (List Aw)):Nat:=(l.map List.length).sum
def vd (i:Nat):Nat:=8 ^ (7 - i)
def vu (i:Nat):Nat:=524289 * i
def wN (n:En):Nat:=Aom vd 0 n.down+Aom vu 0 n.up
structure Afq (x y:NE):Prop where
 g:A8 y.1=true
 t:y.1.Ar=x.1.Ar
 c:y.1.Ab.Ai=x.1.Ab.Ai
 e:y.2.length+24 * wN y.1≤x.2.length+24 * wN x.1
 w:wN y.1≤wN x.1
theorem Afq.refl {x:NE} (h:A8 x.1=true):Afq x x:=⟨h,rfl,rfl,Nat.le_refl _,Nat.le_refl _⟩
theorem Afq.trans {x y z:NE} (h:Afq x y) (k:Afq y z):Afq x z:=⟨k.g,k.t.trans h.t,k.c.trans h.c,Nat.le_trans k.e h.e,Nat.le_trans k.w h.w⟩
def L9:NE→List Fa→Nat→NE × Nat
 | x,[],i=>(x,i)
 | x,s::r,i=>match Cd x.1 s with
  | none=>(x,i)
  | some y=>L9 (y.1,x.2++y.2) r (i+1)
def Ph (n:En) (l:List Fa):Bool:=A8 n && decide (l.length≤30) && l.all Dg
def Ec (n:En) (l:List Fa):En × List ByteArray × Int × Bool:=if Ph n l then ((L9 (n,[]) l 0).1.1,(L9 (n,[]) l 0).1.2,((L9 (n,[]) l 0).2:Int),true) else (Kd,[],0,false)
theorem Yi:∀(l:List Fa) {x:NE} {i:Nat},A8 x.1=true→(∀s∈l,Dg s=true)→A8 (L9 x l i).1.1=true∧(L9 x l i).1.1.Ar=x.1.Ar∧(L9 x l i).1.2.length≤x.2.length+400000 * l.length∧i≤(L9 x l i).2∧(L9 x l i).2≤i+l.length
 | [],x,i,hg,_=>⟨hg,rfl,Nat.le_refl _,Nat.le_refl _,Nat.le_refl _⟩
 | s::r,x,i,hg,hs=>by
  have h0:=hs s (by simp)
  unfold L9
  cases e:Cd x.1 s with
  | none=>exact ⟨hg,rfl,by show x.2.length≤_;omega,by show i≤i;omega,by show i≤_;omega⟩
  | some y =>
   have hy:A8 y.1=true:=Id hg h0 e
   obtain ⟨a,b,c,d,f⟩:=Yi r (x:=(y.1,x.2++y.2)) (i:=i+1) hy fun t ht=>hs t (by simp [ht])
   have h1:=Ul hg h0 e
   have h2:=Ol e
   simp only [List.length_append] at c
   exact ⟨a,b.trans h2,by show (L9 (y.1,x.2++y.2) r (i+1)).1.2.length≤_;simp only [List.length_cons];omega,by show i≤(L9 (y.1,x.2++y.2) r (i+1)).2;omega,by show (L9 (y.1,x.2++y.2) r (i+1)).2≤_;simp only [List.length_cons];omega⟩
theorem Ajb (a b:Int):Fn prog 257 [.int .i64 a,.int .i64 b] [] [] (fun (_:Unit)=>True) (fun _=>.int .i64 (min a b)) (fun _=>[]):=by
 refine enter func257 rfl ntmps257 fun w0=>?_
 refine go ?_;intros
 refine Bd rfl (fun h=>?_) (fun h=>?_)
 ·refine go ?_;intros
  rw [show min a b=a by omega]
  refine ret () trivial rfl
 ·refine go ?_;intros
  rw [show min a b=b by omega]
  refine ret () trivial rfl
end Go.Proofs.YtaemjogbahcbcaaGreatDoor
