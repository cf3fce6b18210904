/- Part 4 of the proof: 50 texts, one behind the other. -/
import Derived.BigQuiet
import Derived.Deep.RegionLaw
import Derived.Test.YtbmlecejkacpnaaGreatDoorShelf
import Derived.Lib.RowBridge
import Derived.Test.YtbmlecejkacpnaaGreatDoorM3
open _root_.Go.Proofs.Tryz
set_option maxRecDepth 100000
set_option maxHeartbeats 8000000
set_option linter.all false
set_option linter.unusedVariables false
set_option linter.unusedSimpArgs false
namespace Go.Proofs.YtbmlecejkacpnaaGreatDoor
open Go.RowKit
theorem N7 (y:A4) (w:World):Cq Az w [.int .i64 y.Ad,.int .i64 y.H4,.int .i64 y.Cf,.int .i64 y.Du] [y] []:=⟨_,[],[],[],by simp,by simp,⟨rfl,rfl⟩,rfl,rfl⟩
theorem Ai5 (xs:List A4) (y:A4) (i:Nat) (a:Option Addr) (c vb:Nat) (F:List Nat) (hi:i≤xs.length) (hl:xs.length≤1000000) :
  Fn prog 292 [.slice a xs.length c,.int .i64 i,.slice (some ⟨vb,0,none⟩) 1 1] [] [.ow Az 166 (.slice a xs.length c) xs F,.row vb 166 0 [] [.int .i64 y.Ad,.int .i64 y.H4,.int .i64 y.Cf,.int .i64 y.Du] []] (fun (_:Option Addr × Nat × List Nat)=>True)
   (fun z=>.slice z.1 (xs.take i++y::xs.drop i).length z.2.1) (fun z=>[.ow Az 166 (.slice z.1 (xs.take i++y::xs.drop i).length z.2.1) (xs.take i++y::xs.drop i) z.2.2]):=by
 have hone:∀w':World,∀cs:List Value,Cq Az w' cs xs []→∀u∈cs,u.oneCell'=true:=fun w' cs h=>h.one' C0
 have hy:=N7 y
 have h1y:∀u∈([.int .i64 y.Ad,.int .i64 y.H4,.int .i64 y.Cf,.int .i64 y.Du]:List Value),u.oneCell'=true:=by intro u hu;simp at hu;rcases hu with rfl|rfl|rfl|rfl <;> rfl
 refine enter func292 rfl ntmps292 fun w0=>?_
 refine Agj (E:=Az) fun hc1 hc2=>?_
 refine go ?_;intros
 apply wO
 refine Abt rfl rfl rfl rfl hi (fun _=>?_) hc1
 refine go ?_;intros
 refine Bf rfl (fun h1=>?_) (fun h1=>?_)
 ·have hin:i=xs.length:=by omega
  subst hin
  have e:xs.take xs.length++y::xs.drop xs.length=xs++[y]:=by simp
  refine go ?_;intros
  apply wO
  refine Lh hy C0 fun a2 c2 F2=>?_
  rw [e]
  refine go ?_;intros
  refine ret (a2,c2,F2) trivial rfl
 ·have hlt:i < xs.length:=by omega
  refine Ab5 (xs:=xs) Dk (by rintro rfl;simp at hlt) ?_
  rintro g cs rest rfl - - - hcl hcr hfl
  rw [show Az.sz=4 from rfl] at hcl hcr
  have h1c:=hone w0 cs (hfl w0)
  obtain ⟨A,B,hcs,hA,hB⟩:∃A B,cs=A++B∧A=cs.take (i * 4)∧B=cs.drop (i * 4):=⟨_,_,(List.take_append_drop _ _).symm,rfl,rfl⟩
  have hAl:A.length=i * 4:=by rw [hA,List.length_take];omega
  have hBl:B.length=(xs.length - i) * 4:=by rw [hB,List.length_drop];omega
  have hins:∀w,Cq Az w (A++[.int .i64 y.Ad,.int .i64 y.H4,.int .i64 y.Cf,.int .i64 y.Du]++B) (xs.take i++y::xs.drop i) []:=fun w=>by rw [hA,hB];exact (hfl w).insL (hy w) i hi
  have h1A:∀u∈A,u.oneCell'=true:=fun u hu=>h1c u (by rw [hcs];simp [hu])
  have h1B:∀u∈B,u.oneCell'=true:=fun u hu=>h1c u (by rw [hcs];simp [hu])
  have hlen:(xs.take i++y::xs.drop i).length=xs.length+1:=by simp;omega
  clear hA hB hfl hone
  subst hcs
  have eA:A=((A++B++rest).drop 0).take (i * 4):=by rw [List.drop_zero,List.append_assoc,List.take_left' hAl]
  have eB:B=((A++B++rest).drop (0+i * 4)).take ((xs.length - i) * 4):=by rw [Nat.zero_add,List.append_assoc,List.drop_left' hAl,List.take_left' hBl]
  rw [hlen]
  refine go ?_;intros
  apply wO;apply oc;rfl;exact Afq rfl
  refine go ?_;intros
  refine Bf rfl (fun h2=>?_) (fun h2=>?_)
  ·refine go ?_;intros
   apply wO;apply oc;rfl;exact Lq (i:=i) rfl rfl rfl (by omega) (by omega)
   refine go ?_;intros
   apply wO
   refine Ae6 (k:=xs.length+1 - i) (olds:=A) rfl rfl rfl (by omega) (Jz (m:=i * 4) (.head _) eA) (by omega) (by decide) (by omega) (by omega) (by omega) (by omega) fun g' cp' Z rest' h3 h4 h5 h6=>?_
   rw [show i+(xs.length+1 - i)=xs.length+1 by omega] at h3 ⊢
   obtain ⟨Z1,Z2,rfl,hZ1,hZ2⟩:∃Z1 Z2,Z=Z1++Z2∧Z1.length=4∧Z2.length=B.length:=⟨Z.take 4,Z.drop 4,(List.take_append_drop _ _).symm,by rw [List.length_take];omega,by rw [List.length_drop];omega⟩
   refine go ?_;intros
   apply wO;apply oc;rfl;exact Ik (i:=i) rfl rfl rfl (by omega) (by omega) (by omega)
   refine go ?_;intros
   apply wO
   refine Rd (cs:=[.int .i64 y.Ad,.int .i64 y.H4,.int .i64 y.Cf,.int .i64 y.Du]) (L':=A++[.int .i64 y.Ad,.int .i64 y.H4,.int .i64 y.Cf,.int .i64 y.Du]++(Z2++rest')) rfl rfl rfl (Jz (L:=[.int .i64 y.Ad,.int .i64 y.H4,.int .i64 y.Cf,.int .i64 y.Du]) (o:=0) (m:=4) (by exact B8) rfl) .here (Wv (M:=Z1) (by simp [List.append_assoc]) (by omega) (by simpa using hZ1)) (by show 4=min 1 (xs.length+1 - i) * 4;omega) (by simp only [List.length_append,List.length_cons,List.length_nil];omega) h1y ?_
   refine go ?_;intros
   refine Aw [] [] ?_
   refine dt 0 ?_
   refine dt 1 ?_
   refine dt 2 ?_
   refine dt 3 ?_
   refine dt 4 ?_ (hy:=Ik (i:=i+1) rfl rfl (by omega) (by omega) (by omega) (by omega))
   refine dt 5 ?_
   refine dt 6 ?_
   refine dt 7 ?_ (hy:=Ik (i:=i) rfl rfl (by omega) (by omega) (by omega) (by omega))
   refine dO 8 (by kernel_rfl) (by rw [List.getElem?_toArray];rfl) ?_
   refine Rd (cs:=B) (L':=A++[.int .i64 y.Ad,.int .i64 y.H4,.int .i64 y.Cf,.int .i64 y.Du]++B++rest') rfl rfl rfl (Jz (by exact B8) eB) .here (Wv (P:=A++[.int .i64 y.Ad,.int .i64 y.H4,.int .i64 y.Cf,.int .i64 y.Du]) (M:=Z2) (by simp [List.append_assoc]) (by simp only [List.length_append,List.length_cons,List.length_nil];omega) hZ2) (by rw [hBl];congr 1;show _=min (xs.length - i) (xs.length+1 - (i+1));omega) (by simp only [List.length_append,List.length_cons,List.length_nil];omega) h1B ?_
   refine dk ?_
   refine dd ?_
   refine Vw (cs:=A++[.int .i64 y.Ad,.int .i64 y.H4,.int .i64 y.Cf,.int .i64 y.Du]++B) (rest:=rest') (xs:=xs.take i++y::xs.drop i) cp' rfl hins (by omega) h4 (by rw [show Az.sz=4 from rfl];simp only [List.length_append,List.length_cons,List.length_nil] at h6 ⊢;omega) ?_
   rw [hlen]
   refine go ?_;intros
   refine ret (_,cp',[g']) trivial rfl
  ·have hcx:xs.length+1≤c:=by omega
   obtain ⟨X,Y,hXY,hX,hY⟩:=Afg (B:=B) (R:=rest) 4 (by omega)
   refine go ?_;intros
   apply wO;apply oc;rfl;exact Lq (i:=xs.length+1) rfl rfl (by omega) (by omega) (by omega)
   refine go ?_;intros
   apply wO;apply oc;rfl;exact Ik (i:=i+1) rfl rfl (by omega) (by omega) (by omega) (by omega)
   refine Kx ?_;intros
   apply wO
   refine Akl rfl Be (ovl (tS:=53) (tR:=4) (run_callFunc_extern func298 (by kernel_rfl) (by kernel_rfl) (by kernel_rfl) (e:=Extern.SlicesOverlaps.overlaps #[53,53] #[4]) (by kernel_rfl)) (.there .here) (.head _) (by intro e;have:=congrArg List.length e;simp only [List.length_append,List.length_nil] at this;omega)) ?_
   refine go ?_;intros
   refine Aw [] [] ?_
   refine dt 0 ?_
   refine dt 1 ?_
   refine dt 2 ?_
   refine dt 3 ?_
   refine dt 4 ?_ (hy:=Ik (i:=i+1) rfl rfl (by omega) (by omega) (by omega) (by omega))
   refine dt 5 ?_
   refine dt 6 ?_
   refine dt 7 ?_ (hy:=Ik (i:=i) rfl rfl (by omega) (by omega) (by omega) (by omega))
   refine dO 8 (by kernel_rfl) (by rw [List.getElem?_toArray];rfl) ?_
   refine Rd (cs:=B) (L':=A++X++B++rest.drop 4) rfl rfl rfl (Jz (by exact B8) eB) .here (Wv (P:=A++X) (M:=Y) (by rw [List.append_assoc A B rest,hXY];simp [List.append_assoc]) (by simp only [List.length_append];omega) hY) (by rw [hBl];congr 1;show _=min (xs.length+1 - i) (xs.length+1 - (i+1));omega) (by simp only [List.length_append];omega) h1B ?_
   refine dk ?_
   refine dd ?_
   refine go ?_;intros
   apply wO;apply oc;rfl;exact Ik (i:=i) rfl rfl rfl (by omega) (by omega) (by omega)
   refine go ?_;intros
   apply wO
   refine Rd (cs:=[.int .i64 y.Ad,.int .i64 y.H4,.int .i64 y.Cf,.int .i64 y.Du]) (L':=A++[.int .i64 y.Ad,.int .i64 y.H4,.int .i64 y.Cf,.int .i64 y.Du]++(B++rest.drop 4)) rfl rfl rfl (Jz (L:=[.int .i64 y.Ad,.int .i64 y.H4,.int .i64 y.Cf,.int .i64 y.Du]) (o:=0) (m:=4) (by exact B8) rfl) .here (Wv (M:=X) (by simp [List.append_assoc]) (by omega) (by simpa using hX)) (by show 4=min 1 (xs.length+1 - i) * 4;omega) (by simp only [List.length_append,List.length_cons,List.length_nil];omega) h1y ?_
   refine go ?_;intros
   refine Vw (L:=A++[.int .i64 y.Ad,.int .i64 y.H4,.int .i64 y.Cf,.int .i64 y.Du]++(B++rest.drop 4)) (cs:=A++[.int .i64 y.Ad,.int .i64 y.H4,.int .i64 y.Cf,.int .i64 y.Du]++B) (rest:=rest.drop 4) (xs:=xs.take i++y::xs.drop i) c (by simp [List.append_assoc]) hins (by omega) (by omega) (by rw [show Az.sz=4 from rfl];simp only [List.length_append,List.length_cons,List.length_nil,List.length_drop];omega) ?_
   rw [hlen]
   refine ret (_,c,[g]) trivial rfl
instance:IntC prog 153 .u64:=⟨underlying153⟩
theorem Agu (fid:FuncId) (caps:List Value) (A:List Pc) (hA:A.all (fun p=>!p.mu)=true) (xs:List A4) (a:Option Addr) (c:Nat) (F:List Nat) (tv:Value) (f:A4→Int) (hm:∀i j (_:i≤j) (hj:j < xs.length),f xs[j] < 0→f (xs[i]'(by omega)) < 0) (hb:N0 prog fid=true) (hl:xs.length≤1000000)
  (hp:∀x∈xs,∀w,Ms A w→Calls prog fid ([.agg #[.int .i64 x.Ad,.int .i64 x.H4,.int .i64 x.Cf,.int .i64 x.Du],tv]++caps).toArray w fun e w'=>e=.returned (.int .i64 (f x))∧Below w.heap.size w w') :
  Fn prog 279 [.slice a xs.length c,tv,.func (.func fid) #[] caps.toArray] (.sl Az (.slice a xs.length c) xs F::A) [] (fun (_:Unit)=>True) (fun _=>.tuple #[.int .i64 ((xs.takeWhile fun x=>decide (f x < 0)).length:Nat),.bool (Amu f xs[(xs.takeWhile fun x=>decide (f x < 0)).length]?)]) (fun _=>[]):=by
 refine enter func279 rfl ntmps279 (fun w0=>?_) rfl (by simpa [Pc.mu] using hA) .nil
 refine go ?_;intros
 refine H2 [0,1,2,6,7,8] (fun s:Nat × Nat=>[(9,.int .i64 (s.1:Nat)),(10,.int .i64 (s.2:Nat))]) (fun s=>s.1≤s.2∧s.2≤xs.length∧(∀j (_:j < s.1) (h:j < xs.length),f xs[j] < 0)∧(∀j (_:s.2≤j) (h:j < xs.length),¬f xs[j] < 0)) (fun s=>s.2 - s.1) (0,xs.length) ⟨Nat.zero_le _,Nat.le_refl _,fun j h=>by omega,fun j h1 h2=>by omega⟩ fun s hs=>?_
 obtain ⟨i,j⟩:=s
 obtain ⟨h1,h2,h3,h4⟩:=hs
 dsimp only at h1 h2 h3 h4 ⊢
 refine go ?_;intros
 refine Bf rfl (fun h5=>?_) (fun h5=>?_)
 ·have hh:(i+j) / 2 < xs.length:=by omega
  have e2:((i:Int)+(j:Int)) / 2=(((i+j) / 2:Nat):Int):=by omega
  refine go ?_;intros
  apply wO;apply oc;rfl;exact Afr rfl (by omega) (by omega)
  refine go ?_;intros
  apply wO;apply oc;rfl;exact Ab8 rfl
  rw [e2]
  apply wO;apply oc;rfl;exact Ago rfl (by omega) (by omega)
  generalize hq:(i+j) / 2=q at hh
  refine go ?_;intros
  refine Kd (xs:=xs) q ?_
  rintro hi b o e
  rw [e]
  refine go ?_;intros
  apply wO
  refine Xh rfl rfl hb Be ?_
  refine cb (fun w st=>hp xs[q] (List.getElem_mem hh) w (fun p hp=>st.on p (by simp [hp]))) ?_
  refine go ?_;intros
  refine Bf rfl (fun h6=>?_) (fun h6=>?_)
  ·refine go ?_;intros
   refine Q3 ?_
   refine Ct (hH:=Ir _) (q+1,j) ⟨by show q+1≤j;omega,h2,fun k hk h=>hm k q (by have:k < q+1:=hk;omega) hh h6,h4⟩ (by show j - (q+1) < j - i;omega)
  ·refine go ?_;intros
   refine Q3 ?_
   refine Ct (hH:=Ir _) (i,q) ⟨by show i≤q;omega,by show q≤xs.length;omega,h3,fun k hk h hn=>h6 (hm q k hk h hn)⟩ (by show q - i < j - i;omega)
 ·have hij:i=j:=by omega
  subst hij
  have hk:(xs.takeWhile fun x=>decide (f x < 0)).length=i:=R8 h2 (fun j hj h=>decide_eq_true (h3 j hj h)) (fun h=>decide_eq_false (h4 i (Nat.le_refl _) h))
  rw [hk]
  refine go ?_;intros
  refine Ee rfl rfl (fun h6=>?_) (fun h6=>?_)
  ·have hh:i < xs.length:=by omega
   rw [List.getElem?_eq_getElem hh]
   refine go ?_;intros
   refine Kd (xs:=xs) i ?_
   rintro hi b o e
   rw [e]
   refine go ?_;intros
   apply wO
   refine Xh rfl rfl hb Be ?_
   refine cb (fun w st=>hp xs[i] (List.getElem_mem hh) w (fun p hp=>st.on p (by simp [hp]))) ?_
   refine go ?_;intros
   refine ret () trivial rfl
  ·rw [List.getElem?_eq_none (by omega)]
   refine go ?_;intros
   refine ret () trivial rfl
theorem Ald {base n:Int} {l:List A4} (hser:∀q∈l,Ca q.Ad=true) (hn:Ca n=true):(l.takeWhile fun x=>decide (gp base x.Ad - gp base n < 0)).length=Dv base l n ∧
  Amu (fun x:A4=>gp base x.Ad - gp base n) l[(l.takeWhile fun x=>decide (gp base x.Ad - gp base n < 0)).length]?=J3 base l n:=by
 have e:(fun x:A4=>decide (gp base x.Ad - gp base n < 0))=fun h=>decide (gp base h.Ad < gp base n):=by
  funext x;rw [decide_eq_decide];omega
 have e1:(l.takeWhile fun x=>decide (gp base x.Ad - gp base n < 0)).length=Dv base l n:=by unfold Dv;rw [e]
 refine ⟨e1,?_⟩
 rw [e1]
 unfold J3
 cases hq:l[Dv base l n]? with
 | none=>rfl
 | some z =>
  show decide (gp base z.Ad - gp base n=0)=decide (z.Ad=n)
  rw [decide_eq_decide]
  exact ⟨fun h=>Aok (t:=base) (hser z (List.mem_of_getElem? hq)) hn (by omega),fun h=>by rw [h];omega⟩
theorem Aq7 (r:A4) (n t:Int) (gb:Nat) (t0:0≤t) (t1:t≤65535) (n0:0≤n) (n1:n≤65535) (m0:0≤r.Ad) (m1:r.Ad≤65535) :
  Fn prog 280 [.agg #[.int .i64 r.Ad,.int .i64 r.H4,.int .i64 r.Cf,.int .i64 r.Du],.int .i64 n,Eu gb 0 0] [.cel gb 0 [.int .i64 t]] [] (fun (_:Unit)=>True) (fun _=>.int .i64 (gp t r.Ad - gp t n)) (fun _=>[]):=by
 have b1:=In t r.Ad
 have b2:=In t n
 refine enter func280 rfl ntmps280 fun w0=>?_
 refine go ?_;intros
 refine Aw [0,1] [] ?_
 refine dt 0 ?_
 refine dt 1 ?_
 refine dt 2 ?_
 refine dt 4 ?_
 refine dt 5 ?_
 refine dO 3 (by kernel_rfl) (by rw [List.getElem?_toArray];rfl) ?_
 apply At;rfl;kernel_rfl;exact Be
 refine ce (fun w s=>Ls _ _ _ (by omega) (by omega) (by omega) (by omega)) ?_
 refine dk ?_
 refine dO 6 (by kernel_rfl) (by rw [List.getElem?_toArray];rfl) ?_
 apply At;rfl;kernel_rfl;exact Be
 refine ce (fun w s=>Ls _ _ _ (by omega) (by omega) (by omega) (by omega)) ?_
 refine dk ?_
 refine dt 7 ?_
 refine dt 8 ?_
 refine dd ?_
 refine go ?_;intros
 refine ret () trivial rfl
theorem Sv (l:List A4) (base n:Int) (a:Option Addr) (c:Nat) (F:List Nat) (hq:Kq l base=true) (hn:Ca n=true) :
  Fn prog 258 [.slice a l.length c,.int .i64 base,.int .i64 n] [.sl Az (.slice a l.length c) l F] [] (fun (_:Unit)=>True) (fun _=>.tuple #[.int .i64 (Dv base l n:Nat),.bool (J3 base l n)]) (fun _=>[]):=by
 obtain ⟨q1,q2,q3,q4⟩:=Dr.1 hq
 have hser:∀q∈l,Ca q.Ad=true:=fun q h=>(Ea.1 (q3 q h)).n
 obtain ⟨b0,b1⟩:=Ba.1 q1
 obtain ⟨n0,n1⟩:=Ba.1 hn
 obtain ⟨e1,e2⟩:=Ald (base:=base) hser hn
 refine enter func258 rfl ntmps258 fun w0=>?_
 refine go ?_;intros
 rename_i gb
 refine cb (fun w st=>by
  have r1:=st.get (p:=.row gb 3 0 [] [.int .i64 base] []) (by simp)
  have hw:=(st.get (p:=.sl Az (.slice a l.length c) l F) (by simp)).2
  refine (Agu 280 [Eu gb 0 0] [.cel gb 0 [.int .i64 base]] rfl l a c F (.int .i64 n) (fun r=>gp base r.Ad - gp base n) (fun i j hij hj h=>?_) (by kernel_rfl) (by omega) fun x hx w' hA=>?_).val w ?_
  ·rcases Nat.lt_or_eq_of_le hij with h2|rfl
   ·have:=List.pairwise_iff_getElem.1 q4 i j (by omega) hj h2;omega
   ·exact h
  ·obtain ⟨m0,m1⟩:=Ba.1 (hser x hx)
   exact (Aq7 x n base gb b0 b1 n0 n1 m0 m1).val w' hA
  ·intro p hp
   simp only [List.mem_cons,List.not_mem_nil,or_false] at hp
   rcases hp with rfl|rfl
   ·exact st.get (by simp)
   ·exact ⟨by simp,Fg r1⟩) ?_
 rw [e2,e1]
 refine go ?_;intros
 refine ret () trivial rfl
theorem Yj (l:List A4) (base n:Int) (a:Option Addr) (c:Nat) (F:List Nat) (hq:Kq l base=true) (hn:Ca n=true) :
  Fn prog 244 [.slice a l.length c,.int .i64 base,.int .i64 n] [.sl Az (.slice a l.length c) l F] [] (fun (_:Unit)=>True) (fun _=>.tuple #[.int .i64 (Dv base l n:Nat),.bool (J3 base l n)]) (fun _=>[]):=by
 obtain ⟨q1,q2,q3,q4⟩:=Dr.1 hq
 have hser:∀q∈l,Ca q.Ad=true:=fun q h=>(Ea.1 (q3 q h)).n
 obtain ⟨b0,b1⟩:=Ba.1 q1
 obtain ⟨n0,n1⟩:=Ba.1 hn
 obtain ⟨t1,t2,t3⟩:=Ng (p:=fun r:A4=>decide (gp base r.Ad < gp base n)) (xs:=l)
 have hle:=Oj base l n
 have hb2:=In base n
 refine enter func244 rfl ntmps244 fun w0=>?_
 refine go ?_;intros
 refine Ck [0,1,2,6,7] (fun k:Nat=>[(8,.int .i64 (k:Nat))]) (fun _=>[]) (fun k=>k≤Dv base l n) (fun k=>l.length - k) 0 (Nat.zero_le _) fun k hk=>?_
 have leaf:∀h:k < l.length,decide (gp base l[k].Ad < gp base n)=decide (k < Dv base l n):=fun h=>by
  by_cases h2:k < Dv base l n
  ·rw [decide_eq_true h2];exact t2 k h2 h
  ·have e:k=Dv base l n:=by omega
   subst e
   rw [decide_eq_false h2];exact t3 h
 refine go ?_;intros
 refine Ee rfl rfl (fun h4=>?_) (fun h4=>?_)
 ·have hi:k < l.length:=by omega
  refine go ?_;intros
  refine Kd (xs:=l) k ?_
  rintro hi b o e
  rw [e]
  refine go ?_;intros
  obtain ⟨m0,m1⟩:=Ba.1 (hser _ (List.getElem_mem hi))
  have hb1:=In base l[k].Ad
  refine ce (fun w s=>Il _ _ _ (by omega) (by omega)) ?_
  refine go ?_;intros
  refine ce (fun w s=>Il _ _ _ (by omega) (by omega)) ?_
  have lf:=leaf hi
  refine go ?_;intros
  refine Bf rfl (fun h5=>?_) (fun h5=>?_)
  ·have h6:k < Dv base l n:=by rw [decide_eq_true h5] at lf;simpa using lf.symm
   refine go ?_;intros
   refine Ct (k+1) (by show k+1≤Dv base l n;omega) (by show l.length - (k+1) < l.length - k;omega)
  ·have h6:k=Dv base l n:=by rw [decide_eq_false h5] at lf;have:¬k < Dv base l n:=by simpa using lf.symm
                             omega
   refine go ?_;intros
   refine Aw [0] [] ?_
   refine dt 0 ?_
   refine dt 1 ?_
   refine dt 2 ?_
   refine dt 3 ?_
   refine dt 4 ?_
   rw [decide_eq_true h4]
   refine dt 5 ?_
   refine En 6 ?_
   refine En 7 ?_
   refine En 8 ?_
   refine En 9 ?_
   refine En 10 ?_
   refine En 11 ?_
   refine En 12 ?_
   refine dt 13 ?_
   refine dt 14 ?_
   refine dt 15 ?_
   refine dd ?_
   rw [Pq (by omega)]
   subst h6
   refine go ?_;intros
   refine ret () trivial rfl
 ·have h6:k=Dv base l n:=by omega
  refine go ?_;intros
  refine Aw [0] [] ?_
  refine dt 0 ?_
  refine dt 1 ?_
  refine dt 2 ?_
  refine dt 3 ?_
  refine dt 4 ?_
  rw [decide_eq_false h4]
  refine dt 5 ?_
  refine ds 6 ?_
  refine ds 7 ?_
  refine ds 8 ?_
  refine ds 9 ?_
  refine ds 10 ?_
  refine ds 11 ?_
  refine ds 12 ?_
  refine dt 13 ?_
  refine dt 14 ?_
  refine dt 15 ?_
  refine dd ?_
  rw [Z0 (by omega)]
  subst h6
  refine go ?_;intros
  refine ret () trivial rfl
def Aba (base:Int) (l:List A4) (n u:Int):List A4:=if J3 base l n then [] else Rg base l n u
structure OwR where
 a:Option Addr
 c:Nat
 F:List Nat
theorem Aa6 (l:List A4) (base n ck d:Int) (a:Option Addr) (c:Nat) (F:List Nat) (hq:Kq l base=true) (hn:Ca n=true) (h8:gp base n < 8) (k0:0≤ck) (k1:ck≤9999) (d0:1≤d) (d1:d≤8) :
  Fn prog 278 [.slice a l.length c,.int .i64 base,.int .i64 n,.int .i64 ck,.int .i64 d] [.sl Az (.slice a l.length c) l F] [] (fun (_:OwR)=>True) (fun s=>.tuple #[.slice s.a (Aba base l n (ck+d)).length s.c,.bool (!J3 base l n)]) (fun s=>[.ow Az 166 (.slice s.a (Aba base l n (ck+d)).length s.c) (Aba base l n (ck+d)) s.F]):=by
 have hle:=Oj base l n
 obtain ⟨q1,q2,q3,q4⟩:=Dr.1 hq
 have hck:Ix ck=true:=by unfold Ix Hq;simp;omega
 have hdl:Aj2 d=true:=by unfold Aj2 Hq;simp;omega
 refine enter func278 rfl ntmps278 fun w0=>?_
 refine go ?_;intros
 refine cf (Nc l base _ F) fun _ _=>?_
 refine Ar ?_
 rw [hq]
 refine go ?_;intros
 refine ce (fun w s=>Gb _ _) ?_
 rw [hn]
 refine go ?_;intros
 refine ce (fun w s=>Oc _ _) ?_
 rw [hck]
 refine go ?_;intros
 refine cf (Ahm d) fun _ _=>?_
 refine Ar ?_
 rw [hdl]
 refine go ?_;intros
 refine cf (Sv l base n a c F hq hn) fun _ _=>?_
 refine Ar ?_
 cases ho:J3 base l n
 ·rw [show Aba base l n (ck+d)=Rg base l n (ck+d) by unfold Aba;rw [ho];rfl]
  have hln:=Aj1 base l n (ck+d)
  refine go ?_;intros
  refine cf (O3 l a c F (by omega)) fun z _=>?_
  refine Ar ?_
  refine go ?_;intros
  refine cf (Ai5 l ⟨n,1,ck+d,0⟩ (Dv base l n) z.1 z.2.1 _ z.2.2 hle (by omega)) fun y _=>?_
  refine Ar ?_
  rw [show l.take (Dv base l n)++(⟨n,1,ck+d,0⟩:A4)::l.drop (Dv base l n)=Rg base l n (ck+d) from rfl]
  refine go ?_;intros
  refine cb (fun w st=>by obtain ⟨Fw, -,hw⟩:=(st.get (p:=.ow Az 166 (.slice y.1 (Rg base l n (ck+d)).length y.2.1) (Rg base l n (ck+d)) y.2.2) (by simp)).2.read;exact (Nc (Rg base l n (ck+d)) base _ Fw).val w (H9 ⟨by decide,hw⟩)) ?_
  rw [Aaf hq hn h8 (by omega) (by omega) ho]
  refine go ?_;intros
  refine ret ⟨_,_,_⟩ trivial rfl
 ·rw [show Aba base l n (ck+d)=[] by unfold Aba;rw [ho];rfl]
  refine go ?_;intros
  refine Bx Az 166 ?_
  refine ret ⟨none,0,[]⟩ trivial rfl
theorem Aj5 (l:List A4) (base n ck d:Int) (a:Option Addr) (c:Nat) (F:List Nat) (hq:Kq l base=true) (hn:Ca n=true) (k0:0≤ck) (k1:ck≤9999) (d0:1≤d) (d1:d≤8) :
  Fn prog 249 [.slice a l.length c,.int .i64 base,.int .i64 n,.int .i64 ck,.int .i64 d] [.sl Az (.slice a l.length c) l F] [] (fun (_:OwR)=>True) (fun s=>.slice s.a (Ph base l n (ck+d)).length s.c) (fun s=>[.ow Az 166 (.slice s.a (Ph base l n (ck+d)).length s.c) (Ph base l n (ck+d)) s.F]):=by
 have hle:=Oj base l n
 obtain ⟨q1,q2,q3,q4⟩:=Dr.1 hq
 obtain ⟨b0,b1⟩:=Ba.1 q1
 obtain ⟨n0,n1⟩:=Ba.1 hn
 have hbd:=In base n
 refine enter func249 rfl ntmps249 fun w0=>?_
 refine go ?_;intros
 refine cf (Yj l base n a c F hq hn) fun _ _=>?_
 refine Ar ?_
 cases ho:J3 base l n
 rotate_left
 ·rw [show Ph base l n (ck+d)=l by unfold Ph;rw [ho];rfl]
  refine Kx ?_;intros
  refine C6 Az ?_
  refine go ?_;intros
  apply wO
  refine Ku C0 Dk fun a5 c5 F5=>?_
  rw [List.nil_append]
  refine go ?_;intros
  refine ret ⟨_,_,_⟩ trivial rfl
 refine go ?_;intros
 refine ce (fun w s=>Il _ _ _ (by omega) (by omega)) ?_
 refine go ?_;intros
 refine Bf rfl (fun h4=>?_) (fun h4=>?_)
 ·rw [show Ph base l n (ck+d)=l by unfold Ph;rw [ho,decide_eq_false (show ¬gp base n < 8 by omega)];rfl]
  refine Kx ?_;intros
  refine C6 Az ?_
  refine go ?_;intros
  apply wO
  refine Ku C0 Dk fun a5 c5 F5=>?_
  rw [List.nil_append]
  refine go ?_;intros
  refine ret ⟨_,_,_⟩ trivial rfl
 rw [show Ph base l n (ck+d)=Rg base l n (ck+d) by unfold Ph;rw [ho,decide_eq_true (show gp base n < 8 by omega)];rfl]
 refine Wy (E:=Az) (xs:=l) ?_
 rintro _ _ e8 c0 c1
 cases e8
 refine Agm (E:=Az) (xs:=l) (Dv base l n) (fun FT=>?_) hle
 obtain ⟨T1,hT1⟩:∃T1,T1=l.take (Dv base l n):=⟨_,rfl⟩
 have hT1l:T1.length=Dv base l n:=by rw [hT1,List.length_take];omega
 rw [←hT1]
 have hAdd:T1++[(⟨n,1,ck+d,0⟩:A4)]++l.drop (Dv base l n)=Rg base l n (ck+d):=by rw [hT1];unfold Rg Arb;simp
 refine go ?_;intros
 refine Aw [0,1] [] ?_
 refine dt 1 ?_
 refine dt 2 ?_
 refine dt 3 ?_ (hy:=Lq (i:=T1.length) rfl rfl (by rw [hT1l]) (by omega) (by omega))
 refine dt 5 ?_
 refine dt 8 ?_
 refine dt 9 ?_
 refine Aes 10 (Dv base l n) (fun a6 c6 F6=>?_)
 refine Ob 0 6 (by kernel_rfl) (by rw [List.getElem?_toArray];rfl) (by rw [List.getElem?_toArray];rfl) ?_ ?_
 ·apply Jk;rfl;intro _
  refine C6 Az ?_
  refine dk ?_
  refine Ob 4 6 (by kernel_rfl) (by rw [List.getElem?_toArray];rfl) (by rw [List.getElem?_toArray];rfl) ?_ ?_
  ·refine Ku (ys:=T1) C0 Dk fun a7 c7 F7=>?_
   rw [List.nil_append]
   refine dk ?_
   refine dO 6 (by kernel_rfl) (by rw [List.getElem?_toArray];rfl) ?_
   apply Hh;rfl;rfl;rfl;rfl;exact Hb;exact Gp;intro _
   refine dk ?_
   refine dO 7 (by kernel_rfl) (by rw [List.getElem?_toArray];rfl) ?_
   refine Lh (N7 ⟨n,1,ck+d,0⟩) C0 fun a8 c8 F8=>?_
   refine dk ?_
   refine dO 11 (by kernel_rfl) (by rw [List.getElem?_toArray];rfl) ?_
   refine Ku (ys:=l.drop (Dv base l n)) C0 Dk (h63:=by simp;omega) (hby:=by simp;omega) fun a9 c9 F9=>?_
   refine dk ?_
   refine dt 12 ?_
   refine dd ?_
   rw [hAdd]
   refine go ?_;intros
   refine ret ⟨_,_,_⟩ trivial rfl
  ·apply Hh;rfl;rfl;rfl;rfl;exact Hb;exact Gp;intro _
   refine dk ?_
   refine dO 4 (by kernel_rfl) (by rw [List.getElem?_toArray];rfl) ?_
   refine Ku (ys:=T1) C0 Dk fun a7 c7 F7=>?_
   rw [List.nil_append]
   refine dk ?_
   refine dO 7 (by kernel_rfl) (by rw [List.getElem?_toArray];rfl) ?_
   refine Lh (N7 ⟨n,1,ck+d,0⟩) C0 fun a8 c8 F8=>?_
   refine dk ?_
   refine dO 11 (by kernel_rfl) (by rw [List.getElem?_toArray];rfl) ?_
   refine Ku (ys:=l.drop (Dv base l n)) C0 Dk (h63:=by simp;omega) (hby:=by simp;omega) fun a9 c9 F9=>?_
   refine dk ?_
   refine dt 12 ?_
   refine dd ?_
   rw [hAdd]
   refine go ?_;intros
   refine ret ⟨_,_,_⟩ trivial rfl
 ·apply Hh;rfl;rfl;rfl;rfl;exact Hb;exact Gp;intro _
  refine dk ?_
  refine dO 0 (by kernel_rfl) (by rw [List.getElem?_toArray];rfl) ?_
  apply Jk;rfl;intro _
  refine C6 Az ?_
  refine dk ?_
  refine dO 4 (by kernel_rfl) (by rw [List.getElem?_toArray];rfl) ?_
  refine Ku (ys:=T1) C0 Dk fun a7 c7 F7=>?_
  rw [List.nil_append]
  refine dk ?_
  refine dO 7 (by kernel_rfl) (by rw [List.getElem?_toArray];rfl) ?_
  refine Lh (N7 ⟨n,1,ck+d,0⟩) C0 fun a8 c8 F8=>?_
  refine dk ?_
  refine dO 11 (by kernel_rfl) (by rw [List.getElem?_toArray];rfl) ?_
  refine Ku (ys:=l.drop (Dv base l n)) C0 Dk (h63:=by simp;omega) (hby:=by simp;omega) fun a9 c9 F9=>?_
  refine dk ?_
  refine dt 12 ?_
  refine dd ?_
  rw [hAdd]
  refine go ?_;intros
  refine ret ⟨_,_,_⟩ trivial rfl
theorem Uy (l:List A4) (base n ck:Int) (a:Option Addr) (c:Nat) (F:List Nat) (hq:Kq l base=true) (hn:Ca n=true) (k0:0≤ck) (k1:ck≤9999) :
  Fn prog 230 [.slice a l.length c,.int .i64 base,.int .i64 n,.int .i64 ck] [.sl Az (.slice a l.length c) l F] [] (fun (_:OwR)=>True) (fun s=>.tuple #[.slice s.a (Nj base l n (ck+4)).length s.c,.bool true]) (fun s=>[.ow Az 166 (.slice s.a (Nj base l n (ck+4)).length s.c) (Nj base l n (ck+4)) s.F]):=by
 have hle:=Oj base l n
 obtain ⟨q1,q2,q3,q4⟩:=Dr.1 hq
 have hck:Ix ck=true:=by unfold Ix Hq;simp;omega
 refine enter func230 rfl ntmps230 fun w0=>?_
 refine go ?_;intros
 refine cf (Nc l base _ F) fun _ _=>?_
 refine Ar ?_
 rw [hq]
 refine go ?_;intros
 refine ce (fun w s=>Gb _ _) ?_
 rw [hn]
 refine go ?_;intros
 refine ce (fun w s=>Oc _ _) ?_
 rw [hck]
 refine go ?_;intros
 refine cf (O3 l a c F (by omega)) fun z _=>?_
 refine Ar ?_
 refine go ?_;intros
 refine cb (fun w st=>by obtain ⟨Fw, -,hw⟩:=(st.get (p:=.ow Az 166 (.slice z.1 (l).length z.2.1) (l) z.2.2) (by simp)).2.read;exact (Sv l base n z.1 z.2.1 Fw hq hn).val w (H9 ⟨by decide,hw⟩)) ?_
 have hcl:=Z4 base l n (ck+4)
 cases ho:J3 base l n
 ·rw [Ro ho]
  refine go ?_;intros
  refine ret ⟨_,_,_⟩ trivial rfl
 ·have hlt:=Pr ho
  refine go ?_;intros
  refine X8 (xs:=l) (Dv base l n) ?_ (hi:=hlt)
  rintro hi g A B ha hF hh
  rw [ha]
  refine go ?_;intros
  refine Mr (⟨n,3,ck+4,l[Dv base l n].Du⟩:A4) hh (fun w=>?_) ?_
  ·rw [Pq hi] at ho
   have e:l[Dv base l n].Ad=n:=by simpa using ho
   rw [e];exact ⟨rfl,rfl⟩
  rw [←Ps ho]
  refine go ?_;intros
  rw [show l.length=(Nj base l n (ck+4)).length from hcl.symm]
  refine ret ⟨_,_,_⟩ trivial rfl
theorem Abn (l:List A4) (base n ck:Int) (a:Option Addr) (c:Nat) (F:List Nat) (hq:Kq l base=true) (hn:Ca n=true) (k0:0≤ck) (k1:ck≤9999) :
  Fn prog 217 [.slice a l.length c,.int .i64 base,.int .i64 n,.int .i64 ck] [.sl Az (.slice a l.length c) l F] [] (fun (_:OwR)=>True) (fun s=>.slice s.a (Nj base l n (ck+4)).length s.c) (fun s=>[.ow Az 166 (.slice s.a (Nj base l n (ck+4)).length s.c) (Nj base l n (ck+4)) s.F]):=by
 have hle:=Oj base l n
 obtain ⟨q1,q2,q3,q4⟩:=Dr.1 hq
 have hcl:=Z4 base l n (ck+4)
 refine enter func217 rfl ntmps217 fun w0=>?_
 refine Kx ?_;intros
 refine C6 Az ?_
 refine go ?_;intros
 apply wO
 refine Ku C0 Dk fun a5 c5 F5=>?_
 rw [List.nil_append]
 refine go ?_;intros
 refine cf (Yj l base n a c F hq hn) fun _ _=>?_
 refine Ar ?_
 cases ho:J3 base l n
 ·rw [Ro ho]
  refine go ?_;intros
  refine ret ⟨_,_,_⟩ trivial rfl
 ·have hlt:=Pr ho
  refine go ?_;intros
  refine Kd (xs:=l) (Dv base l n) ?_
  rintro hi b o e
  rw [e]
  refine X8 (xs:=l) (a:=a5) (Dv base l n) ?_ (hi:=hlt)
  rintro hi g A B ha hF hh
  rw [ha]
  refine go ?_;intros
  refine Mr (⟨n,3,ck+4,l[Dv base l n].Du⟩:A4) hh (fun w=>⟨rfl,rfl⟩) ?_
  rw [←Ps ho]
  refine go ?_;intros
  rw [show l.length=(Nj base l n (ck+4)).length from hcl.symm]
  refine ret ⟨_,_,_⟩ trivial rfl
structure SkS where
 a:Option Addr
 c:Nat
 F:List Nat
 ae:Option Addr
 ce:Nat
 Fe:List Nat
theorem Al7 (w:Am) (st:Bool) (ck tr:Int) (q:Value) (g t o:Nat) (A B:List Value) (a1:Option Addr) (c1:Nat) (F1:List Nat) (hg:Df w=true) (ht:Ca tr=true) :
  Fn prog 255 [Eu g o 0,.int .i64 tr] [] [.row g t o A [.bool st,.int .i64 ck,.int .i64 (w).next,.slice a1 (w).Ao.length c1,q] B,.ow Cg 198 (.slice a1 (w).Ao.length c1) (w).Ao F1] (fun (_:SkS)=>True)
   (fun s=>.slice s.ae (Lo w tr).length s.ce) (fun s=>[.row g t o A [.bool st,.int .i64 ck,.int .i64 (Ko w tr).next,.slice s.a (Ko w tr).Ao.length s.c,q] B,.ow Cg 198 (.slice s.a (Ko w tr).Ao.length s.c) (Ko w tr).Ao s.F,.ow A9 9 (.slice s.ae (Lo w tr).length s.ce) (Lo w tr) s.Fe]):=by
 obtain ⟨w0_,w1_⟩:=Gg hg
 obtain ⟨t0_,t1_⟩:=Ba.1 ht
 obtain ⟨hw8,hit⟩:=I5 hg
 have hgb:=In w.next tr
 refine enter func255 rfl ntmps255 fun w0=>?_
 refine go ?_;intros
 refine ce (fun w s=>K8 _ _ _ (by omega) (by omega) (by omega) (by omega)) ?_
 cases hb:Oa w.next tr
 ·have e1:Ko w tr=w:=by unfold Ko;rw [hb];rfl
  have e2:Lo w tr=[]:=by unfold Lo;rw [hb];rfl
  rw [e1,e2]
  refine Bx A9 9 ?_
  refine go ?_;intros
  refine ret ⟨_,_,_,_,_,_⟩ trivial rfl
 refine go ?_;intros
 refine ce (fun w s=>Ls _ _ _ (by omega) (by omega) (by omega) (by omega)) ?_
 refine go ?_;intros
 refine Bf rfl (fun h4=>?_) (fun h4=>?_)
 ·have e1:Ko w tr=Gf w tr:=by unfold Ko;rw [hb,if_pos rfl,if_pos h4]
  have e2:Lo w tr=E6 w tr:=by unfold Lo;rw [hb,if_pos rfl,if_pos h4]
  rw [e1,e2]
  refine Agl [.bool st,.int .i64 ck] [.int .i64 w.next,.slice a1 w.Ao.length c1] [q] ?_
  refine go ?_;intros
  refine cf (Ach w tr g t (o+2) (A++[.bool st,.int .i64 ck]) _ a1 c1 F1 w0_ w1_ t0_ t1_ hw8 hit) fun y hy=>?_
  refine Ar ?_
  obtain ⟨hy1,hy2⟩:=hy
  refine Y9 [.bool st,.int .i64 ck] [.int .i64 y.y.next,.slice y.a y.y.Ao.length y.c] [q] ?_
  rw [show Gf w tr=y.y from hy1.symm,show E6 w tr=y.es from hy2.symm]
  refine go ?_;intros
  refine ret ⟨_,_,_,_,_,_⟩ trivial rfl
 ·have e1:Ko w tr=⟨tr,[]⟩:=by unfold Ko;rw [hb,if_pos rfl,if_neg h4]
  have e2:Lo w tr=[⟨#[33]⟩]:=by unfold Lo;rw [hb,if_pos rfl,if_neg h4]
  rw [e1,e2]
  refine Bx Cg 198 ?_
  refine Kx ?_;intros
  refine Dz (xs:=[(⟨#[33]⟩:ByteArray)]) (Pa _ (by decide)) ?_ (by simp)
  refine go ?_;intros
  refine ret ⟨none,0,[],_,_,_⟩ trivial rfl
structure AwS where
 i:Nat
 a:Option Addr
 c:Nat
 F:List Nat
theorem Ai9 (x:Am) (l:List A4) (st:Bool) (ck D0 d:Int) (g t o:Nat) (A B:List Value) (a1:Option Addr) (c1:Nat) (F1:List Nat) (a2:Option Addr) (c2:Nat) (F2:List Nat) (hg:Df x=true) (hq:Kq l x.next=true) (hf:∀q∈l,H1 x q.Ad=false) (hl:Ca D0=true) (k0:0≤ck) (k1:ck≤9999) (d0:1≤d) (d1:d≤8) :
  Fn prog 257 [Eu g o 0,.int .i64 D0,.int .i64 d] [] [.row g t o A [.bool st,.int .i64 ck,.int .i64 (x).next,.slice a1 (x).Ao.length c1,.slice a2 (l).length c2] B,.ow Cg 198 (.slice a1 (x).Ao.length c1) (x).Ao F1,.ow Az 166 (.slice a2 (l).length c2) (l) F2] (fun (_:OwR)=>True)
   (fun _=>.tuple #[]) (fun s=>[.row g t o A [.bool st,.int .i64 ck,.int .i64 (x).next,.slice a1 (x).Ao.length c1,.slice s.a (Kv x l D0 (ck+d)).length s.c] B,.ow Cg 198 (.slice a1 (x).Ao.length c1) (x).Ao F1,.ow Az 166 (.slice s.a (Kv x l D0 (ck+d)).length s.c) (Kv x l D0 (ck+d)) s.F]):=by
 obtain ⟨w0_,w1_⟩:=Gg hg
 obtain ⟨l0_,l1_⟩:=Ba.1 hl
 have hgb:=In x.next D0
 refine enter func257 rfl ntmps257 fun w0=>?_
 refine go ?_;intros
 refine ce (fun w s=>K8 _ _ _ (by omega) (by omega) (by omega) (by omega)) ?_
 cases hb:Oa x.next D0
 ·have e1:Kv x l D0 (ck+d)=l:=by unfold Kv;rw [hb];rfl
  rw [e1]
  refine go ?_;intros
  refine ret ⟨_,_,_⟩ trivial rfl
 obtain ⟨k,hk⟩:∃k,k=Rn x D0:=⟨_,rfl⟩
 have hk8:k≤8:=by rw [hk];exact N9 _ _
 have hkm:((k:Nat):Int)=min (gp x.next D0) 8:=by rw [hk];unfold Rn;omega
 obtain ⟨N,hN⟩:∃N,N=Lc x k:=⟨_,rfl⟩
 have hNl:N.length≤8:=by have:=Vl x k;rw [hN];omega
 have e1:Kv x l D0 (ck+d)=Ig x.next (ck+d) l N:=by unfold Kv;rw [hb,if_pos rfl,hN,hk]
 rw [e1]
 have Ux:=Hj x.next (min (gp x.next D0) 8)
 have hgp:gp x.next (Bn x.next (min (gp x.next D0) 8))=(k:Nat):=by rw [←hkm];unfold gp Bn;omega
 refine go ?_;intros
 refine Aw [0] [] ?_
 refine dt 0 ?_
 refine dt 1 ?_
 refine dt 2 ?_
 refine dt 3 ?_
 refine dt 4 ?_
 refine dt 5 ?_
 refine dt 6 ?_
 refine dt 12 ?_
 refine dO 7 (by kernel_rfl) (by rw [List.getElem?_toArray];rfl) ?_
 apply At;rfl;kernel_rfl;exact Be
 refine ce (fun w s=>Ls _ _ _ (by omega) (by omega) (by omega) (by omega)) ?_
 refine dk ?_
 refine dt 8 ?_
 refine dO 9 (by kernel_rfl) (by rw [List.getElem?_toArray];rfl) ?_
 apply At;rfl;kernel_rfl;exact Be
 refine ce (fun w s=>N3 _ _ _ (by omega) (by omega)) ?_
 refine dk ?_
 refine dO 10 (by kernel_rfl) (by rw [List.getElem?_toArray];rfl) ?_
 apply At;rfl;kernel_rfl;exact Be
 refine cfr (fun w st=>by obtain ⟨F9,hF9⟩:=Apw (st.get (p:=.ow Cg 198 (.slice a1 (x).Ao.length c1) (x).Ao F1) (by simp));exact ⟨_,H9 hF9,rfl,Aci x _ k _ F9 w0_ w1_ (by omega) (by omega) hgp⟩) (fun m _=>?_)
 refine dk ?_
 refine dt 11 ?_
 refine dd ?_
 rw [←hN]
 refine Ay (E:=Bd) (xs:=N) fun GN=>?_
 refine go ?_;intros
 refine Ck [0,2,6,30,31] (fun s:AwS=>[(32,.int .i64 (s.i:Nat))]) (fun s=>[.row g t o A [.bool st,.int .i64 ck,.int .i64 (x).next,.slice a1 (x).Ao.length c1,.slice s.a (Ig x.next (ck+d) l (N.take s.i)).length s.c] B,.ow Az 166 (.slice s.a (Ig x.next (ck+d) l (N.take s.i)).length s.c) (Ig x.next (ck+d) l (N.take s.i)) s.F]) (fun s=>s.i≤N.length) (fun s=>N.length - s.i) ⟨0,a2,c2,F2⟩ (Nat.zero_le _) fun s hs=>?_
 obtain ⟨i,a3,c3,F3⟩:=s
 dsimp only at hs ⊢
 have hall:=Ni (w:=x) (u:=ck+d) (by omega) (by omega) (N.take i) l (fun n hn=>by
  have:=Nn (w:=x) (n:=n) hk8 (by rw [←hN];exact List.mem_of_mem_take hn)
  exact ⟨this.1,this.2.2⟩) hq hf
 have hLs:∀h:i < N.length,Ig x.next (ck+d) l (N.take (i+1))=Ph x.next (Ig x.next (ck+d) l (N.take i)) N[i] (ck+d):=fun h=>V7 h
 generalize hLd:Ig x.next (ck+d) l (N.take i)=L at *
 have hLq:=hall.1
 have hL8:=(Dr.1 hLq).2.1
 refine go ?_;intros
 refine Bf rfl (fun h4=>?_) (fun h4=>?_)
 ·have hi:i < N.length:=by omega
  have hni:=Nn (w:=x) (n:=N[i]) hk8 (by rw [←hN];exact List.getElem_mem hi)
  refine Je (xs:=N) i ?_
  rintro hi2 b o2 e
  rw [e]
  refine go ?_;intros
  refine Aw [1] [] ?_
  refine dt 0 ?_
  refine dt 1 ?_
  refine dt 2 ?_
  refine dt 3 ?_
  refine dt 4 ?_
  refine dt 5 ?_
  refine dt 6 ?_
  refine dt 7 ?_
  refine dt 8 ?_
  refine dt 9 ?_
  refine dt 10 ?_
  refine dO 11 (by kernel_rfl) (by rw [List.getElem?_toArray];rfl) ?_
  apply At;rfl;kernel_rfl;exact Be
  refine cfr (fun w st=>by obtain ⟨Fq, -,hq9⟩:=(st.get (p:=.ow Az 166 (.slice a3 (L).length c3) (L) F3) (by simp)).2.read;exact ⟨[.sl Az (.slice a3 L.length c3) L Fq],H9 ⟨by decide,hq9⟩,rfl,Aa6 L x.next N[i] ck d a3 c3 Fq hLq hni.1 hni.2.1 k0 k1 d0 d1⟩) (fun u _=>?_)
  refine dk ?_
  refine dt 12 ?_
  refine dt 13 ?_
  refine dt 14 ?_
  refine dt 15 ?_
  refine dt 16 ?_
  refine dd ?_
  refine go ?_;intros
  cases ho:J3 x.next L N[i]
  ·have eA:Ig x.next (ck+d) l (N.take (i+1))=Aba x.next L N[i] (ck+d):=by rw [hLs hi];unfold Ph Aba;rw [ho,decide_eq_true hni.2.1];rfl
   refine go ?_;intros
   rw [←eA]
   refine Ct (⟨i+1,_,_,_⟩:AwS) (by show i+1≤N.length;omega) (by show N.length - (i+1) < N.length - i;omega)
  ·have eA:Ig x.next (ck+d) l (N.take (i+1))=L:=by rw [hLs hi];unfold Ph;rw [ho];rfl
   refine go ?_;intros
   rw [←eA]
   refine Ct (⟨i+1,_,_,_⟩:AwS) (by show i+1≤N.length;omega) (by show N.length - (i+1) < N.length - i;omega)
 have hi:i=N.length:=by omega
 subst hi
 rw [List.take_length] at hLd
 rw [hLd]
 refine go ?_;intros
 refine Q4 ?_
 refine ret (⟨_,_,_⟩:OwR) trivial rfl
theorem Q9 (p:As) (hs:p.data.size≤maxLen):Fn prog 173 [.agg #[.int .i64 p.C2,.int .i64 p.Ad,.int .i64 p.Ak,.int .i64 p.D0,.string p.data]] [] [] (fun (_:Unit)=>True) (fun _=>.bool (Bk p)) (fun _=>[]):=by
 refine enter func173 rfl ntmps173 fun w0=>?_
 refine go ?_;intros
 refine ce (fun w s=>Hz _ _ _ _) ?_
 cases g1:Hq 1 p.C2 5
 ·refine go ?_;intros
  refine ret () trivial ?_
  show Value.bool _=Value.bool _;congr 1;unfold Bk;simp [g1]
 refine go ?_;intros
 refine ce (fun w s=>Gb _ _) ?_
 cases g2:Ca p.Ad
 ·refine go ?_;intros
  refine ret () trivial ?_
  show Value.bool _=Value.bool _;congr 1;unfold Bk;simp [g2]
 refine go ?_;intros
 refine ce (fun w s=>Gb _ _) ?_
 cases g3:Ca p.Ak
 ·refine go ?_;intros
  refine ret () trivial ?_
  show Value.bool _=Value.bool _;congr 1;unfold Bk;simp [g3]
 refine go ?_;intros
 refine ce (fun w s=>Gb _ _) ?_
 cases g4:Ca p.D0
 ·refine go ?_;intros
  refine ret () trivial ?_
  show Value.bool _=Value.bool _;congr 1;unfold Bk;simp [g4]
 refine go ?_;intros
 refine cb (fun w s=>Uk _ _ hs) ?_
 cases g5:N1 p.data
 ·refine go ?_;intros
  refine ret () trivial ?_
  show Value.bool _=Value.bool _;congr 1;unfold Bk;simp [g5]
 obtain ⟨t0,t1⟩:=Ba.1 g3
 obtain ⟨l0,l1⟩:=Ba.1 g4
 refine go ?_;intros
 refine ce (fun w s=>Ls _ _ _ (by omega) (by omega) (by omega) (by omega)) ?_
 refine go ?_;intros
 refine Ee rfl rfl (fun h6=>?_) (fun h6=>?_)
 ·refine go ?_;intros
  refine Ee rfl rfl (fun h7=>?_) (fun h7=>?_)
  ·refine go ?_;intros
   refine ret () trivial ?_
   show Value.bool _=Value.bool _;congr 1;unfold Bk;rw [g1,g2,g3,g4,g5,decide_eq_true h6,decide_eq_true h7];rfl
  refine go ?_;intros
  refine Ee rfl rfl (fun h8=>?_) (fun h8=>?_)
  ·refine go ?_;intros
   refine ret () trivial ?_
   show Value.bool _=Value.bool _;congr 1;unfold Bk;rw [g1,g2,g3,g4,g5,decide_eq_true h6,decide_eq_true h8];simp
  ·refine go ?_;intros
   refine ret () trivial ?_
   show Value.bool _=Value.bool _;congr 1;unfold Bk;rw [g1,g2,g3,g4,g5,decide_eq_true h6,decide_eq_false h7,decide_eq_false h8];rfl
 ·refine go ?_;intros
  refine ret () trivial ?_
  show Value.bool _=Value.bool _;congr 1;unfold Bk;simp [h6]
theorem Aj7 (p:As) (hs:p.data.size≤maxLen):Fn prog 212 [.agg #[.int .i64 p.C2,.int .i64 p.Ad,.int .i64 p.Ak,.int .i64 p.D0,.string p.data]] [] [] (fun (_:Unit)=>True) (fun _=>.bool (Bk p)) (fun _=>[]):=by
 refine enter func212 rfl ntmps212 fun w0=>?_
 refine go ?_;intros
 refine ce (fun w s=>Qr _ _ _ _) ?_
 cases g1:Hq 1 p.C2 5
 ·refine go ?_;intros
  refine ret () trivial ?_
  show Value.bool _=Value.bool _;congr 1;unfold Bk;simp [g1]
 refine go ?_;intros
 refine ce (fun w s=>P5 _ _) ?_
 cases g2:Ca p.Ad
 ·refine go ?_;intros
  refine ret () trivial ?_
  show Value.bool _=Value.bool _;congr 1;unfold Bk;simp [g2]
 refine go ?_;intros
 refine ce (fun w s=>P5 _ _) ?_
 cases g3:Ca p.Ak
 ·refine go ?_;intros
  refine ret () trivial ?_
  show Value.bool _=Value.bool _;congr 1;unfold Bk;simp [g3]
 refine go ?_;intros
 refine ce (fun w s=>P5 _ _) ?_
 cases g4:Ca p.D0
 ·refine go ?_;intros
  refine ret () trivial ?_
  show Value.bool _=Value.bool _;congr 1;unfold Bk;simp [g4]
 obtain ⟨t0,t1⟩:=Ba.1 g3
 obtain ⟨l0,l1⟩:=Ba.1 g4
 refine go ?_;intros
 refine ce (fun w s=>Il _ _ _ (by omega) (by omega)) ?_
 refine go ?_;intros
 refine Ee rfl rfl (fun h6=>?_) (fun h6=>?_)
 ·refine go ?_;intros
  refine ret () trivial ?_
  have h6:¬gp p.Ak p.D0≤32767:=by omega
  show Value.bool _=Value.bool _;congr 1;unfold Bk;simp [h6]
 have h6:gp p.Ak p.D0≤32767:=by omega
 refine go ?_;intros
 refine ce (fun w s=>Ru _ _ _ hs) ?_
 rw [show (decide ((p.data.size:Int)≤8) && Rh p.data.data.toList)=N1 p.data from rfl]
 cases g5:N1 p.data
 ·refine go ?_;intros
  refine ret () trivial ?_
  show Value.bool _=Value.bool _;congr 1;unfold Bk;simp [g5]
 refine go ?_;intros
 refine Ee rfl rfl (fun h7=>?_) (fun h7=>?_)
 ·refine go ?_;intros
  refine ret () trivial ?_
  show Value.bool _=Value.bool _;congr 1;unfold Bk;rw [g1,g2,g3,g4,g5,decide_eq_true h6,decide_eq_true h7];rfl
 refine go ?_;intros
 refine Ee rfl rfl (fun h8=>?_) (fun h8=>?_)
 ·refine go ?_;intros
  refine ret () trivial ?_
  show Value.bool _=Value.bool _;congr 1;unfold Bk;rw [g1,g2,g3,g4,g5,decide_eq_true h6,decide_eq_true h8];simp
 ·refine go ?_;intros
  refine ret () trivial ?_
  show Value.bool _=Value.bool _;congr 1;unfold Bk;rw [g1,g2,g3,g4,g5,decide_eq_true h6,decide_eq_false h7,decide_eq_false h8];rfl
def Zp (x:Am) (q:A4):Bool:=Oa q.Ad x.next || decide (8≤gp x.next q.Ad) || H1 x q.Ad
theorem Am7 {l:List A4} {x:Am}:(l.filter fun q=>!Zp x q)=Dp l x:=by
 unfold Dp Zp
 refine List.filter_congr fun q _=>?_
 have e:decide (8≤gp x.next q.Ad) = !decide (gp x.next q.Ad < 8):=by rw [←decide_not];exact decide_eq_decide.2 (by omega)
 rw [e]
 cases Oa q.Ad x.next <;> cases H1 x q.Ad <;> simp
theorem Am8 (q:A4) (x:Am) (nb gb g o:Nat) (st:Bool) (ck:Int) (qv:Value) (a1:Option Addr) (c1:Nat) (F:List Nat) (w0_:0≤x.next) (w1_:x.next≤65535) (hn:Ca q.Ad=true) :
  Fn prog 256 [.agg #[.int .i64 q.Ad,.int .i64 q.H4,.int .i64 q.Cf,.int .i64 q.Du],Eu nb 0 0,Eu gb 0 0] [.cel nb 0 [.int .i64 x.next],.cel gb 0 [Eu g o 0],.cel g o [.bool st,.int .i64 ck,.int .i64 x.next,.slice a1 x.Ao.length c1,qv],.isv By (.agg #[.int .i64 x.next,.slice a1 x.Ao.length c1]) x F] [] (fun (_:Unit)=>True) (fun _=>.bool (Zp x q)) (fun _=>[]):=by
 obtain ⟨n0,n1⟩:=Ba.1 hn
 have hgb:=In x.next q.Ad
 refine enter func256 rfl ntmps256 fun w0=>?_
 refine go ?_;intros
 cases hb:Oa q.Ad x.next
 rotate_left
 ·rw [show Zp x q=true by unfold Zp;rw [hb];rfl]
  refine Aw [0,1,2,3,4] [] ?_
  refine dt 0 ?_
  refine dt 1 ?_
  refine dt 2 ?_
  refine dO 3 (by kernel_rfl) (by rw [List.getElem?_toArray];rfl) ?_
  apply At;rfl;kernel_rfl;exact Be
  refine ce (fun w s=>K8 _ _ _ (by omega) (by omega) (by omega) (by omega)) ?_
  rw [hb]
  refine dk ?_
  refine dt 4 ?_
  refine ds 5 ?_
  refine ds 6 ?_
  refine ds 7 ?_
  refine ds 8 ?_
  refine ds 9 ?_
  refine dt 10 ?_
  refine dt 11 ?_
  refine ds 12 ?_
  refine ds 13 ?_
  refine ds 14 ?_
  refine ds 15 ?_
  refine ds 16 ?_
  refine ds 17 ?_
  refine ds 18 ?_
  refine dt 19 ?_
  refine dt 20 ?_
  refine dd ?_
  refine go ?_;intros
  refine ret () trivial rfl
 by_cases h8':8≤gp x.next q.Ad
 ·have h8:=decide_eq_true h8'
  rw [show Zp x q=true by unfold Zp;rw [h8];simp]
  refine Aw [0,1,2,3,4] [] ?_
  refine dt 0 ?_
  refine dt 1 ?_
  refine dt 2 ?_
  refine dO 3 (by kernel_rfl) (by rw [List.getElem?_toArray];rfl) ?_
  apply At;rfl;kernel_rfl;exact Be
  refine ce (fun w s=>K8 _ _ _ (by omega) (by omega) (by omega) (by omega)) ?_
  rw [hb]
  refine dk ?_
  refine dt 4 ?_
  refine En 5 ?_
  refine En 6 ?_
  refine En 7 ?_
  refine d1g 8 ?_
  apply On.h
  apply At;rfl;kernel_rfl;exact Be
  refine ce (fun w s=>Ls _ _ _ (by omega) (by omega) (by omega) (by omega)) ?_
  refine dk ?_
  refine En 9 ?_
  rw [h8]
  refine dt 10 ?_
  refine dt 11 ?_
  refine ds 12 ?_
  refine ds 13 ?_
  refine ds 14 ?_
  refine ds 15 ?_
  refine ds 16 ?_
  refine ds 17 ?_
  refine ds 18 ?_
  refine dt 19 ?_
  refine dt 20 ?_
  refine dd ?_
  refine go ?_;intros
  refine ret () trivial rfl
 ·have h8:=decide_eq_false h8'
  rw [show Zp x q=H1 x q.Ad by unfold Zp;rw [hb,h8];rfl]
  refine Aw [0,1,2,3,4] [] ?_
  refine dt 0 ?_
  refine dt 1 ?_
  refine dt 2 ?_
  refine dO 3 (by kernel_rfl) (by rw [List.getElem?_toArray];rfl) ?_
  apply At;rfl;kernel_rfl;exact Be
  refine ce (fun w s=>K8 _ _ _ (by omega) (by omega) (by omega) (by omega)) ?_
  rw [hb]
  refine dk ?_
  refine dt 4 ?_
  refine En 5 ?_
  refine En 6 ?_
  refine En 7 ?_
  refine d1g 8 ?_
  apply On.h
  apply At;rfl;kernel_rfl;exact Be
  refine ce (fun w s=>Ls _ _ _ (by omega) (by omega) (by omega) (by omega)) ?_
  refine dk ?_
  refine En 9 ?_
  rw [h8]
  refine dt 10 ?_
  refine dt 11 ?_
  refine En 12 ?_
  refine En 13 ?_
  refine En 14 ?_
  refine En 15 ?_
  refine En 16 ?_
  refine En 17 ?_
  refine d1g 18 ?_
  apply On.h
  apply At;rfl;kernel_rfl;exact Be
  refine cf (T9 x q.Ad _ F w0_ w1_ n0 n1) fun _ _=>?_
  refine Ar ?_
  refine dk ?_
  refine dt 19 ?_
  refine dt 20 ?_
  refine dd ?_
  refine go ?_;intros
  refine ret () trivial rfl
structure NwS where
 a1:Option Addr
 c1:Nat
 F1:List Nat
 a2:Option Addr
 c2:Nat
 F2:List Nat
 ae:Option Addr
 ce:Nat
 Fe:List Nat
theorem Aa8 (r:Bc) (p:As) (d:Int) (g t o:Nat) (A B:List Value) (a1:Option Addr) (c1:Nat) (F1:List Nat) (a2:Option Addr) (c2:Nat) (F2:List Nat) (hg:I9 r) (hp:Bk p=true) (d0:1≤d) (d1:d≤8) :
  Fn prog 229 [Eu g o 0,.agg #[.int .i64 p.C2,.int .i64 p.Ad,.int .i64 p.Ak,.int .i64 p.D0,.string p.data],.int .i64 d] [] [.row g t o A [.bool r.Bg,.int .i64 r.Ai,.int .i64 (r.Aa).next,.slice a1 (r.Aa).Ao.length c1,.slice a2 (r.Ap).length c2] B,.ow Cg 198 (.slice a1 (r.Aa).Ao.length c1) (r.Aa).Ao F1,.ow Az 166 (.slice a2 (r.Ap).length c2) (r.Ap) F2] (fun (_:NwS)=>True)
   (fun s=>.slice s.ae (Jj r p).length s.ce) (fun s=>[.row g t o A [.bool (Io r p d).Bg,.int .i64 (Io r p d).Ai,.int .i64 ((Io r p d).Aa).next,.slice s.a1 ((Io r p d).Aa).Ao.length s.c1,.slice s.a2 ((Io r p d).Ap).length s.c2] B,.ow Cg 198 (.slice s.a1 ((Io r p d).Aa).Ao.length s.c1) ((Io r p d).Aa).Ao s.F1,.ow Az 166 (.slice s.a2 ((Io r p d).Ap).length s.c2) ((Io r p d).Ap) s.F2,.ow A9 9 (.slice s.ae (Jj r p).length s.ce) (Jj r p) s.Fe]):=by
 have k0:=hg.k0
 have k1:=hg.k1
 obtain ⟨-,q1,q2, -⟩:=Dr.1 hg.q
 have hser:∀q∈r.Ap,Ca q.Ad=true:=fun q hq=>(Yz hg hq).1
 obtain ⟨hsg, -⟩:=M9 hg hp
 obtain ⟨htg, -,htl⟩:=Oz hg hp
 obtain ⟨hng,hnq, -,hnl⟩:=Sj hg hp d0 d1 (by omega)
 obtain ⟨s0_,s1_⟩:=Gg hsg
 obtain ⟨v0_,v1_⟩:=Gg hng
 obtain ⟨hw8,hit⟩:=I5 hsg
 obtain ⟨n0,n1⟩:=H5 hp
 have hp2:=hp
 unfold Bk at hp2
 simp only [Bool.and_eq_true] at hp2
 have htr:Ca p.Ak=true:=hp2.1.1.1.1.2
 have hld:Ca p.D0=true:=hp2.1.1.1.2
 have hps:p.data.size≤8:=Rs hp2.1.1.2
 refine enter func229 rfl ntmps229 fun w0=>?_
 refine go ?_;intros
 rename_i g3 g4
 refine Gc [2,3,4,6] [0,1,4] (fun _:Unit=>[]) (fun _=>[.row g t o A [.bool true,.int .i64 r.Ai,.int .i64 (Dm r p).next,.slice a1 (Dm r p).Ao.length c1,.slice a2 r.Ap.length c2] B,.ow Cg 198 (.slice a1 (Dm r p).Ao.length c1) (Dm r p).Ao F1]) (fun _=>True) ?_ fun _ _=>?_
 ·cases hs:r.Bg
  ·by_cases hk:p.C2=5
   ·have e:Dm r p=⟨p.D0,r.Aa.Ao⟩:=by unfold Dm;rw [hs,if_pos hk];rfl
    have hkd:decide (p.C2=5)=true:=decide_eq_true hk
    rw [e]
    refine go ?_;intros
    refine Bf rfl (fun _=>?_) (fun h=>absurd hk h)
    refine go ?_;intros
    refine Cm () trivial
   ·have e:Dm r p=⟨p.Ad,r.Aa.Ao⟩:=by unfold Dm;rw [hs,if_neg hk];rfl
    rw [e]
    refine go ?_;intros
    refine Bf rfl (fun h=>absurd h hk) (fun _=>?_)
    refine go ?_;intros
    refine Cm () trivial
  ·have e:Dm r p=r.Aa:=by unfold Dm;rw [hs];rfl
   rw [e]
   refine go ?_;intros
   refine Cm () trivial
 refine go ?_;intros
 refine Gc [2,3,4,6] [2,3,4] (fun s:SkS=>[(7,.slice s.ae (Id r p).length s.ce)]) (fun s=>[.row g t o A [.bool true,.int .i64 r.Ai,.int .i64 (D8 r p).next,.slice s.a (D8 r p).Ao.length s.c,.slice a2 r.Ap.length c2] B,.ow Cg 198 (.slice s.a (D8 r p).Ao.length s.c) (D8 r p).Ao s.F,.ow A9 9 (.slice s.ae (Id r p).length s.ce) (Id r p) s.Fe]) (fun _=>True) ?_ fun s _=>?_
 ·by_cases hk:p.C2=5
  ·have e1:D8 r p=Dm r p:=by unfold D8;rw [if_pos hk]
   have e2:Id r p=[]:=by unfold Id;rw [if_pos hk]
   refine Bf rfl (fun h=>absurd hk h) (fun _=>?_)
   rw [e1,e2]
   refine Bx A9 9 ?_
   refine go ?_;intros
   refine Cm (⟨a1,c1,F1,none,0,[]⟩:SkS) trivial
  ·have e1:D8 r p=Ij (Dm r p) p.Ad p.data:=by unfold D8;rw [if_neg hk]
   have e2:Id r p=Ia (Dm r p) p.Ad p.data:=by unfold Id;rw [if_neg hk]
   refine Bf rfl (fun _=>?_) (fun h=>absurd hk h)
   rw [e1,e2]
   refine Agl [.bool true,.int .i64 r.Ai] [.int .i64 (Dm r p).next,.slice a1 (Dm r p).Ao.length c1] [.slice a2 r.Ap.length c2] ?_
   refine go ?_;intros
   refine Aw [2,3] [] ?_
   refine dt 0 ?_
   refine dt 1 ?_
   refine dt 2 ?_
   refine dt 3 ?_
   refine dt 4 ?_
   refine dt 5 ?_
   refine dt 6 ?_
   refine dO 7 (by kernel_rfl) (by rw [List.getElem?_toArray];rfl) ?_
   apply At;rfl;kernel_rfl;exact Be
   refine cf (Ai8 (Dm r p) p.Ad p.data g t (o+2) (A++[.bool true,.int .i64 r.Ai]) _ a1 c1 F1 s0_ s1_ n0 n1 hw8 hit hps) fun y hy=>?_
   refine Ar ?_
   obtain ⟨hy1,hy2⟩:=hy
   refine dk ?_
   refine dt 8 ?_
   refine dt 9 ?_
   refine dt 10 ?_
   refine dt 11 ?_
   refine dd ?_
   refine Y9 [.bool true,.int .i64 r.Ai] [.int .i64 y.y.next,.slice y.a y.y.Ao.length y.c] [.slice a2 r.Ap.length c2] ?_
   rw [←hy1,←hy2]
   refine go ?_;intros
   refine Cm (⟨_,_,_,_,_,_⟩:SkS) trivial
 obtain ⟨a3,c3,F3,ae,ce,Fe⟩:=s
 dsimp only
 refine go ?_;intros
 refine cf (Al7 (D8 r p) true r.Ai p.Ak _ g t o A B a3 c3 F3 htg htr) fun y _=>?_
 refine Ar ?_
 have hsl:(Lo (D8 r p) p.Ak).length≤24:=by unfold Jj at hnl;rw [List.length_append] at hnl;omega
 refine Ay (E:=A9) (xs:=Lo (D8 r p) p.Ak) fun G8=>?_
 refine go ?_;intros
 apply wO
 refine Ku (ys:=Lo (D8 r p) p.Ak) Dh E4 fun a9 c9 F9=>?_
 rw [show Id r p++Lo (D8 r p) p.Ak=Jj r p from rfl,show Ko (D8 r p) p.Ak=Ce r p from rfl]
 refine go ?_;intros
 rename_i g11
 refine Aw [3,6] [9] ?_
 refine dt 0 ?_
 refine dt 1 ?_
 refine dt 2 ?_
 refine dt 3 ?_
 refine dt 4 ?_
 refine dt 5 ?_
 refine dO 6 (by kernel_rfl) (by rw [List.getElem?_toArray];rfl) ?_
 apply At;rfl;kernel_rfl;exact Be
 refine cfm (M:=[.ow Az 166 (.slice a2 r.Ap.length c2) r.Ap F2]) (.cons (by repeat (first|exact .here|apply C1.there)) .nil) (fun w st=>by
   have r1:=st.on (.row g11 3 0 [] [.int .i64 (Ce r p).next] []) (by simp)
   have r2:=st.on (.row g3 178 0 [] [Eu g o 0] []) (by simp)
   have r3:=st.on (.row g t o A [.bool true,.int .i64 r.Ai,.int .i64 (Ce r p).next,.slice y.a (Ce r p).Ao.length y.c,.slice a2 r.Ap.length c2] B) (by simp)
   obtain ⟨Fw,hFw,hw⟩:=(st.on (.ow Cg 198 (.slice y.a (Ce r p).Ao.length y.c) (Ce r p).Ao y.F) (by simp)).2.read
   refine ⟨[.cel g11 0 [.int .i64 (Ce r p).next],.cel g3 0 [Eu g o 0],.cel g o [.bool true,.int .i64 r.Ai,.int .i64 (Ce r p).next,.slice y.a (Ce r p).Ao.length y.c,.slice a2 r.Ap.length c2],.isv By (.agg #[.int .i64 (Ce r p).next,.slice y.a (Ce r p).Ao.length y.c]) (Ce r p) Fw],?_,rfl,?_,Acb 256 [] [Eu g11 0 0,Eu g3 0 0] _ rfl r.Ap a2 c2 F2 (fun q=>Zp (Ce r p) q) (by kernel_rfl) (by omega) (fun q hq w' hA=>(Am8 q (Ce r p) g11 g3 g o true r.Ai _ y.a y.c Fw v0_ v1_ (hser q hq)).val w' hA)⟩
   ·intro q hq
    simp only [List.mem_cons,List.not_mem_nil,or_false] at hq
    rcases hq with rfl|rfl|rfl|rfl
    ·exact ⟨by simp,Fg r1⟩
    ·exact ⟨by simp,Fg r2⟩
    ·exact ⟨by simp,Fg r3⟩
    ·exact ⟨_,rfl,_,rfl,hw⟩
   ·intro q hq b hb
    simp only [List.mem_cons,List.not_mem_nil,or_false] at hq
    rcases hq with rfl|rfl|rfl|rfl
    ·exact ⟨.row g11 3 0 [] [.int .i64 (Ce r p).next] [],by simp,hb⟩
    ·exact ⟨.row g3 178 0 [] [Eu g o 0] [],by simp,hb⟩
    ·exact ⟨.row g t o A [.bool true,.int .i64 r.Ai,.int .i64 (Ce r p).next,.slice y.a (Ce r p).Ao.length y.c,.slice a2 r.Ap.length c2] B,by simp,hb⟩
    ·exact ⟨.ow Cg 198 (.slice y.a (Ce r p).Ao.length y.c) (Ce r p).Ao y.F,by simp,hFw b hb⟩) (fun z _=>?_)
 rw [Am7]
 refine dk ?_
 refine dt 7 ?_
 refine dt 8 ?_
 refine dO 9 (by kernel_rfl) (by rw [List.getElem?_toArray];rfl) ?_
 apply Cu;rfl;rfl;rfl;(first|exact AggC.s|exact OneC.s);rfl;exact Cw;exact Cv;rfl
 refine Mg ?_
 refine dd ?_
 refine go ?_;intros
 refine cf (Ai9 (Ce r p) (Dp r.Ap (Ce r p)) true r.Ai p.D0 d g t o A B y.a y.c y.F z.1 z.2.1 z.2.2 hng hnq L8 hld k0 k1 d0 d1) fun u _=>?_
 refine Ar ?_
 refine go ?_;intros
 refine ret ⟨_,_,_,_,_,_,_,_,_⟩ trivial rfl
structure Al5 where
 g:Nat
 a:Option Addr
 c:Nat
 F:List Nat
theorem P4 (x:Bc) (v:Value) (F:List Nat) (hl:x.Aa.Ao.length≤1000000000) (hl2:x.Ap.length≤1000000000):Fn prog 153 [v] [.isv Cb v x F] [] (fun (_:Value × List Nat)=>True) (fun s=>s.1) (fun s=>[.own Bi s.1 x s.2]):=by
 refine enter func153 rfl ntmps153 fun w0=>?_
 refine Ic ?_
 rintro a1 c1 F1 a2 c2 F2 rfl l1 l2
 refine go ?_;intros
 refine Gc [1,2] [0,1,2,3,4] (fun s:Al5=>[(3,Eu s.g 0 0)]) (fun s=>[.row s.g 52 0 [] [.int .i64 x.Aa.next,.slice s.a x.Aa.Ao.length s.c] [],.ow Cg 198 (.slice s.a x.Aa.Ao.length s.c) x.Aa.Ao s.F]) (fun _=>True) ?_ fun s _=>?_
 ·skip
  refine Aw [1] [] ?_
  refine dt 0 ?_
  refine dt 1 ?_
  refine dt 2 ?_
  refine dt 4 ?_
  refine dt 5 ?_
  refine dt 6 ?_
  refine Ob 3 9 (by kernel_rfl) (by rw [List.getElem?_toArray];rfl) (by rw [List.getElem?_toArray];rfl) ?_ ?_
  ·apply Jk;rfl;intro _
   refine C6 Cg ?_
   refine dk ?_
   refine Ob 7 9 (by kernel_rfl) (by rw [List.getElem?_toArray];rfl) (by rw [List.getElem?_toArray];rfl) ?_ ?_
   ·refine Ku Gn Fc fun a5 c5 F5=>?_
    rw [List.nil_append]
    refine dk ?_
    refine dt 8 ?_
    refine dO 9 (by kernel_rfl) (by rw [List.getElem?_toArray];rfl) ?_
    apply Co;rfl;intro _
    refine dk ?_
    refine dO 10 (by kernel_rfl) (by rw [List.getElem?_toArray];rfl) ?_
    apply Cu;rfl;rfl;rfl;(first|exact AggC.s|exact OneC.s);rfl;exact Cw;exact Cv;rfl
    refine dk ?_
    refine dd ?_
    refine Cm (⟨_,_,_,_⟩:Al5) trivial
   ·apply Co;rfl;intro _
    refine dk ?_
    refine dO 7 (by kernel_rfl) (by rw [List.getElem?_toArray];rfl) ?_
    refine Ku Gn Fc fun a5 c5 F5=>?_
    rw [List.nil_append]
    refine dk ?_
    refine dt 8 ?_
    refine dO 10 (by kernel_rfl) (by rw [List.getElem?_toArray];rfl) ?_
    apply Cu;rfl;rfl;rfl;(first|exact AggC.s|exact OneC.s);rfl;exact Cw;exact Cv;rfl
    refine dk ?_
    refine dd ?_
    refine Cm (⟨_,_,_,_⟩:Al5) trivial
  ·apply Co;rfl;intro _
   refine dk ?_
   refine dO 3 (by kernel_rfl) (by rw [List.getElem?_toArray];rfl) ?_
   apply Jk;rfl;intro _
   refine C6 Cg ?_
   refine dk ?_
   refine dO 7 (by kernel_rfl) (by rw [List.getElem?_toArray];rfl) ?_
   refine Ku Gn Fc fun a5 c5 F5=>?_
   rw [List.nil_append]
   refine dk ?_
   refine dt 8 ?_
   refine dO 10 (by kernel_rfl) (by rw [List.getElem?_toArray];rfl) ?_
   apply Cu;rfl;rfl;rfl;(first|exact AggC.s|exact OneC.s);rfl;exact Cw;exact Cv;rfl
   refine dk ?_
   refine dd ?_
   refine Cm (⟨_,_,_,_⟩:Al5) trivial
 obtain ⟨g3,a5,c5,F5⟩:=s
 dsimp only
 refine go ?_;intros
 refine Aw [0,3] [] ?_
 refine dt 0 ?_
 refine dt 1 ?_
 refine dt 2 ?_
 refine dt 3 ?_
 refine dt 4 ?_
 refine dt 6 ?_
 refine dt 7 ?_
 refine dO 5 (by kernel_rfl) (by rw [List.getElem?_toArray];rfl) ?_
 apply Jk;rfl;intro _
 refine C6 Az ?_
 refine dk ?_
 refine dO 8 (by kernel_rfl) (by rw [List.getElem?_toArray];rfl) ?_
 refine Ku C0 Dk fun a6 c6 F6=>?_
 rw [List.nil_append]
 refine dk ?_
 refine dt 9 ?_
 refine dO 10 (by kernel_rfl) (by rw [List.getElem?_toArray];rfl) ?_
 apply Cu;rfl;rfl;rfl;(first|exact AggC.s|exact OneC.s);rfl;exact Cw;exact Cv;rfl
 refine dk ?_
 refine dd ?_
 refine go ?_;intros
 refine Jg x ?_
 refine ret (_,_) trivial rfl
theorem Wg (l:List A4) (w:Am) (a:Option Addr) (c:Nat) (F:List Nat) (v:Value) (Fw:List Nat) (hl:l.length≤1000000) (hs:∀q∈l,Ca q.Ad=true) (w0_:0≤w.next) (w1_:w.next≤65535):Fn prog 215 [.slice a l.length c,v] [.sl Az (.slice a l.length c) l F,.isv By v w Fw] [] (fun (_:Option Addr × Nat × List Nat)=>True) (fun z=>.slice z.1 (Dp l w).length z.2.1) (fun z=>[.ow Az 166 (.slice z.1 (Dp l w).length z.2.1) (Dp l w) z.2.2]):=by
 refine enter func215 rfl ntmps215 fun w0=>?_
 refine C7 ?_
 rintro a1 c1 F1 rfl l1
 refine go ?_;intros
 refine C6 Az ?_
 refine Ck [0,3,4] (fun s:PkS=>[(6,.int .i64 (s.k:Nat)),(5,.slice s.a (Dp (l.take s.k) w).length s.c)]) (fun s=>[.ow Az 166 (.slice s.a (Dp (l.take s.k) w).length s.c) (Dp (l.take s.k) w) s.F]) (fun s=>s.k≤l.length) (fun s=>l.length - s.k) ⟨0,_,_,_⟩ (Nat.zero_le _) fun s hk=>?_
 obtain ⟨k,a4,c4,F4⟩:=s
 dsimp only at hk ⊢
 refine go ?_;intros
 refine Bf rfl (fun h4=>?_) (fun h4=>?_)
 ·have hk:k < l.length:=by omega
  have hkl:(Dp (l.take k) w).length≤k:=Nat.le_trans (List.length_filter_le _ _) (by rw [List.length_take];omega)
  have hsk:=hs _ (List.getElem_mem hk)
  obtain ⟨n0,n1⟩:=Ba.1 hsk
  have en:∀b,(!(Oa l[k].Ad w.next || H1 w l[k].Ad) && decide (gp w.next l[k].Ad < 8))=b→Dp (l.take (k+1)) w=Dp (l.take k) w++if b then [l[k]] else []:=fun b hb=>by
   unfold Dp
   rw [List.take_add_one,List.getElem?_eq_getElem hk,List.filter_append]
   congr 1
   show ([l[k]].filter _)=_
   rw [List.filter_cons,List.filter_nil,hb]
  refine Kd (xs:=l) k ?_
  rintro hi b o e
  rw [e]
  refine go ?_;intros
  cases g5:(Oa l[k].Ad w.next || H1 w l[k].Ad)
  ·skip
   refine Aw [0,2] [] ?_
   refine dt 0 ?_
   refine dt 1 ?_
   refine dt 2 ?_
   refine dt 3 ?_
   refine dt 4 ?_
   refine dt 5 ?_
   refine dO 6 (by kernel_rfl) (by rw [List.getElem?_toArray];rfl) ?_
   apply At;rfl;kernel_rfl;exact Be
   refine cf (Aaj w l[k].Ad _ Fw w0_ w1_ n0 n1) fun _ _=>?_
   refine Ar ?_
   rw [show Ep w l[k].Ad=(Oa l[k].Ad w.next || H1 w l[k].Ad) from rfl,g5]
   refine dk ?_
   refine dt 7 ?_
   refine dt 8 ?_
   refine En 9 ?_
   refine En 10 ?_
   refine En 11 ?_
   refine En 12 ?_
   refine En 13 ?_
   refine En 14 ?_
   refine En 15 ?_
   refine d1g 16 ?_
   apply On.h
   apply At;rfl;kernel_rfl;exact Be
   refine ce (fun w s=>Il _ _ _ (by omega) (by omega)) ?_
   refine dk ?_
   refine En 17 ?_
   refine dt 18 ?_
   refine dd ?_
   refine go ?_;intros
   refine Bf rfl (fun h6=>?_) (fun h6=>?_)
   ·have e1:=en true (by rw [g5,decide_eq_true h6];rfl)
    refine go ?_;intros
    apply wO
    refine Lh (ys:=[l[k]]) (Kw l[k]) C0 fun a7 c7 F7=>?_
    refine go ?_;intros
    rw [show Dp (l.take k) w++[l[k]]=Dp (l.take (k+1)) w from e1.symm]
    refine Ct (⟨k+1,_,_,_⟩:PkS) (by show k+1≤l.length;omega) (by show l.length - (k+1) < l.length - k;omega)
   ·have e1:=en false (by rw [g5,decide_eq_false h6];rfl)
    refine go ?_;intros
    rw [show Dp (l.take k) w=Dp (l.take (k+1)) w by rw [e1];simp]
    refine Ct (⟨k+1,_,_,_⟩:PkS) (by show k+1≤l.length;omega) (by show l.length - (k+1) < l.length - k;omega)
  ·skip
   refine Aw [0,2] [] ?_
   refine dt 0 ?_
   refine dt 1 ?_
   refine dt 2 ?_
   refine dt 3 ?_
   refine dt 4 ?_
   refine dt 5 ?_
   refine dO 6 (by kernel_rfl) (by rw [List.getElem?_toArray];rfl) ?_
   apply At;rfl;kernel_rfl;exact Be
   refine cf (Aaj w l[k].Ad _ Fw w0_ w1_ n0 n1) fun _ _=>?_
   refine Ar ?_
   rw [show Ep w l[k].Ad=(Oa l[k].Ad w.next || H1 w l[k].Ad) from rfl,g5]
   refine dk ?_
   refine dt 7 ?_
   refine dt 8 ?_
   refine ds 9 ?_
   refine ds 10 ?_
   refine ds 11 ?_
   refine ds 12 ?_
   refine ds 13 ?_
   refine ds 14 ?_
   refine ds 15 ?_
   refine ds 16 ?_
   refine ds 17 ?_
   refine dt 18 ?_
   refine dd ?_
   have e1:=en false (by rw [g5];rfl)
   refine go ?_;intros
   rw [show Dp (l.take k) w=Dp (l.take (k+1)) w by rw [e1];simp]
   refine Ct (⟨k+1,_,_,_⟩:PkS) (by show k+1≤l.length;omega) (by show l.length - (k+1) < l.length - k;omega)
 have hk:k=l.length:=by omega
 subst hk
 rw [List.take_length]
 refine go ?_;intros
 refine ret (_,_,_) trivial rfl
structure GvS where
 g:Nat
 y:U3
theorem Vh (r:Bc) (d:Int) (v:Value) (F:List Nat) (hg:I9 r) (d0:0≤d) (d1:d≤100) (_hx:r.Ai≤99999) :
  Fn prog 156 [v,.int .i64 d] [.isv Cb v r F] [] (fun (_:TkR)=>True) (fun s=>.tuple #[.agg #[.bool (Cj r d).Bg,.int .i64 (Cj r d).Ai,.int .i64 (Cj r d).Aa.next,.slice s.a1 (Cj r d).Aa.Ao.length s.c1,.slice s.a2 (Cj r d).Ap.length s.c2],.slice s.a3 (D9 r).length s.c3,.slice s.a4 (Ev r).length s.c4])
   (fun s=>[.isv Cb (.agg #[.bool (Cj r d).Bg,.int .i64 (Cj r d).Ai,.int .i64 (Cj r d).Aa.next,.slice s.a1 (Cj r d).Aa.Ao.length s.c1,.slice s.a2 (Cj r d).Ap.length s.c2]) (Cj r d) s.F1,.ow Al 108 (.slice s.a3 (D9 r).length s.c3) (D9 r) s.F3,.ow A9 9 (.slice s.a4 (Ev r).length s.c4) (Ev r) s.F4]):=by
 have k0:=hg.k0
 have k1:=hg.k1
 obtain ⟨-,q1,q2, -⟩:=Dr.1 hg.q
 obtain ⟨w0_,w1_⟩:=Gg hg.w
 obtain ⟨hw8,hit⟩:=I5 hg.w
 have hpl:(r.Ap.filterMap (Mz (r.Ai+1))).length≤8:=Nat.le_trans (List.length_filterMap_le _ _) q1
 refine enter func156 rfl ntmps156 fun w0=>?_
 refine Ic (v:=v) (x:=r) (F:=F) ?_
 rintro a1 c1 F1 a2 c2 F2 rfl l1 l2
 refine go ?_;intros
 refine cf (P4 r _ F (by omega) (by omega)) fun u _=>?_
 refine Ar ?_
 refine Hp ?_
 rintro a5 c5 F5 a6 c6 F6 e6 - -
 rw [e6]
 refine Ay (E:=Cg) fun G5=>?_
 refine go ?_;intros
 refine cf (Ahv r.Ap (r.Ai+1) d a2 c2 F2 (by omega) (fun q hq=>⟨(Ea.1 (q2 q hq)).t0,(Ea.1 (q2 q hq)).t1⟩) (by omega) (by omega) (by omega) (by omega)) fun z _=>?_
 refine Ar ?_
 rw [show r.Ap.filterMap (Pn (r.Ai+1))=Cp r from rfl,show r.Ap.filterMap (Pd (r.Ai+1) d)=Kc r d from rfl]
 refine Ay (E:=Bd) (xs:=r.Ap.filterMap (Mz (r.Ai+1))) fun G2=>?_
 refine Ay (E:=Bd) (xs:=Cp r) fun G3=>?_
 refine C6 A9 ?_
 refine C6 Al ?_
 refine go ?_;intros
 refine Ck [2,4,5,6,7,9,11,12] (fun s:PkS=>[(13,.int .i64 (s.k:Nat)),(8,.slice s.a (((r.Ap.filterMap (Mz (r.Ai+1))).take s.k).map (Zu r.Aa.next)).length s.c)]) (fun s=>[.ow Al 108 (.slice s.a (((r.Ap.filterMap (Mz (r.Ai+1))).take s.k).map (Zu r.Aa.next)).length s.c) (((r.Ap.filterMap (Mz (r.Ai+1))).take s.k).map (Zu r.Aa.next)) s.F]) (fun s=>s.k≤(r.Ap.filterMap (Mz (r.Ai+1))).length) (fun s=>(r.Ap.filterMap (Mz (r.Ai+1))).length - s.k) ⟨0,_,_,_⟩ (Nat.zero_le _) fun s hs=>?_
 obtain ⟨k,a4,c4,F4⟩:=s
 dsimp only at hs ⊢
 generalize hsn:r.Ap.filterMap (Mz (r.Ai+1))=sn at *
 refine go ?_;intros
 refine Bf rfl (fun h4=>?_) (fun h4=>?_)
 ·have hk:k < sn.length:=by omega
  have hkl:((sn.take k).map (Zu r.Aa.next)).length≤k:=by simp;omega
  refine Je (xs:=sn) k ?_
  rintro hi b o2 e
  rw [e]
  refine go ?_;intros
  have eo:(sn.take (k+1)).map (Zu r.Aa.next)=(sn.take k).map (Zu r.Aa.next)++[Zu r.Aa.next sn[k]]:=by rw [List.take_add_one,List.getElem?_eq_getElem hk,List.map_append];rfl
  refine Aw [0,10] [] ?_
  refine dt 0 ?_
  refine dt 1 ?_
  refine dt 2 ?_
  refine dt 3 ?_
  refine dt 4 ?_
  refine dt 5 ?_
  refine dt 6 ?_
  refine dt 7 ?_
  refine dt 8 ?_
  refine dt 9 ?_
  refine dt 10 ?_
  refine dt 11 ?_
  refine dO 12 (by kernel_rfl) (by rw [List.getElem?_toArray];rfl) ?_
  apply Hh;rfl;rfl;rfl;rfl;exact Hb;exact Gp;intro _
  refine dk ?_
  refine dO 13 (by kernel_rfl) (by rw [List.getElem?_toArray];rfl) ?_
  refine Lh (ys:=[Zu r.Aa.next sn[k]]) (C4 (Zu r.Aa.next sn[k]) (by show (0:Nat)≤maxLen;exact Nat.zero_le _)) Gz fun a7 c7 F7=>?_
  refine dk ?_
  refine dt 14 ?_
  refine dd ?_
  refine go ?_;intros
  rw [←eo]
  refine Ct (⟨k+1,_,_,_⟩:PkS) (by show k+1≤sn.length;omega) (by show sn.length - (k+1) < sn.length - k;omega)
 have hk:k=sn.length:=by omega
 subst hk
 rw [List.take_length]
 have ep:D9 r=sn.map (Zu r.Aa.next):=by unfold D9;rw [hsn]
 rw [ep]
 refine go ?_;intros
 by_cases hL:Cp r=[]
 ·refine Bf rfl (fun h=>absurd h (by rw [hL];decide)) (fun _=>?_)
  rw [Zc hL,Aeb hL]
  refine go ?_;intros
  refine Ay (E:=Az) fun F8=>?_
  refine Ga (a1:=a5) ⟨r.Bg,r.Ai+1,r.Aa,Kc r d⟩ ?_
  refine ret ⟨_,_,_,_,_,[],_,_,_,_,_,_⟩ trivial rfl
 ·have hl0:=List.length_pos_iff.2 hL
  refine Bf rfl (fun _=>?_) (fun h=>absurd h (by omega))
  rw [V0 hL,Aa4 hL]
  obtain ⟨hs8,hsr⟩:=Xf hg hL
  have hll8:=Zf r
  obtain ⟨hs0,hs1⟩:=Ba.1 hsr
  have hll:=Aao hL
  obtain ⟨l0,l1⟩:=Ba.1 (V1 hg (List.getElem_mem (show (Cp r).length - 1 < (Cp r).length by omega))).1
  have hi1:((Cp r).length:Int) - 1=(((Cp r).length - 1:Nat):Int):=by omega
  refine Cy (a1:=a5) r.Aa ?_
  generalize G5=FW
  refine Je (xs:=Cp r) ((Cp r).length - 1) ?_
  rintro hi b o2 e
  rw [e]
  refine go ?_;intros
  refine Gc [4,5,6,7,8,9] [2,3,6,7,10,14] (fun s:GvS=>[(15,Eu s.g 0 0),(16,.slice s.y.ae s.y.es.length s.y.ce)]) (fun s=>[.row s.g 52 0 [] [.int .i64 s.y.y.next,.slice s.y.a s.y.y.Ao.length s.y.c] [],.isv By (.agg #[.int .i64 s.y.y.next,.slice s.y.a s.y.y.Ao.length s.y.c]) s.y.y s.y.F,.ow A9 9 (.slice s.y.ae s.y.es.length s.y.ce) s.y.es s.y.Fe]) (fun s=>s.y.y=Gf r.Aa (C5 (Cp r))∧s.y.es=E6 r.Aa (C5 (Cp r))) ?_ fun s hy=>?_
  ·skip
   refine Aw [0,7] [] ?_
   refine dt 0 ?_
   refine dt 1 ?_
   refine dt 2 ?_
   refine dt 3 ?_
   refine dt 4 ?_
   rw [hi1]
   refine dt 5 ?_
   refine dt 6 ?_
   refine Ob 7 12 (by kernel_rfl) (by rw [List.getElem?_toArray];rfl) (by rw [List.getElem?_toArray];rfl) ?_ ?_
   ·apply At;rfl;kernel_rfl;exact Be
    refine ce (fun w s=>Ez _ _ _ (by omega) (by omega)) ?_
    rw [←hll]
    refine dk ?_
    refine Ob 8 12 (by kernel_rfl) (by rw [List.getElem?_toArray];rfl) (by rw [List.getElem?_toArray];rfl) ?_ ?_
    ·apply At;rfl;kernel_rfl;exact Be
     refine cf (O9 r.Aa (C5 (Cp r)) _ FW w0_ w1_ hs0 hs1 hw8 hit) fun y hy=>?_
     refine Ar ?_
     refine dk ?_
     refine dt 9 ?_
     refine dt 10 ?_
     refine dt 11 ?_
     refine dO 12 (by kernel_rfl) (by rw [List.getElem?_toArray];rfl) ?_
     apply Co;rfl;intro _
     refine dk ?_
     refine dO 13 (by kernel_rfl) (by rw [List.getElem?_toArray];rfl) ?_
     apply Cu;rfl;rfl;rfl;(first|exact AggC.s|exact OneC.s);rfl;exact Cw;exact Cv;rfl
     refine dk ?_
     refine dt 14 ?_
     refine dd ?_
     refine Cm (⟨_,y⟩:GvS) hy
    ·apply Co;rfl;intro _
     refine dk ?_
     refine dO 8 (by kernel_rfl) (by rw [List.getElem?_toArray];rfl) ?_
     apply At;rfl;kernel_rfl;exact Be
     refine cf (O9 r.Aa (C5 (Cp r)) _ FW w0_ w1_ hs0 hs1 hw8 hit) fun y hy=>?_
     refine Ar ?_
     refine dk ?_
     refine dt 9 ?_
     refine dt 10 ?_
     refine dt 11 ?_
     refine dO 13 (by kernel_rfl) (by rw [List.getElem?_toArray];rfl) ?_
     apply Cu;rfl;rfl;rfl;(first|exact AggC.s|exact OneC.s);rfl;exact Cw;exact Cv;rfl
     refine dk ?_
     refine dt 14 ?_
     refine dd ?_
     refine Cm (⟨_,y⟩:GvS) hy
   ·apply Co;rfl;intro _
    refine dk ?_
    refine dO 7 (by kernel_rfl) (by rw [List.getElem?_toArray];rfl) ?_
    apply At;rfl;kernel_rfl;exact Be
    refine ce (fun w s=>Ez _ _ _ (by omega) (by omega)) ?_
    rw [←hll]
    refine dk ?_
    refine dO 8 (by kernel_rfl) (by rw [List.getElem?_toArray];rfl) ?_
    apply At;rfl;kernel_rfl;exact Be
    refine cf (O9 r.Aa (C5 (Cp r)) _ FW w0_ w1_ hs0 hs1 hw8 hit) fun y hy=>?_
    refine Ar ?_
    refine dk ?_
    refine dt 9 ?_
    refine dt 10 ?_
    refine dt 11 ?_
    refine dO 13 (by kernel_rfl) (by rw [List.getElem?_toArray];rfl) ?_
    apply Cu;rfl;rfl;rfl;(first|exact AggC.s|exact OneC.s);rfl;exact Cw;exact Cv;rfl
    refine dk ?_
    refine dt 14 ?_
    refine dd ?_
    refine Cm (⟨_,y⟩:GvS) hy
  obtain ⟨g15,y⟩:=s
  dsimp only at hy ⊢
  obtain ⟨hy1,hy2⟩:=hy
  have hmv:=Ot (t:=C5 (Cp r)) hg.w
  have hm0:0≤y.y.next:=by rw [hy1,hmv.1];exact (Hj _ _).1
  have hm1:y.y.next≤65535:=by rw [hy1,hmv.1];exact (Hj _ _).2
  have hes:y.es.length≤100:=by rw [hy2];have:=hmv.2.2.1;have:=@Sn r.Aa.next (C5 (Cp r));omega
  refine Ay (E:=A9) (xs:=y.es) fun G8=>?_
  refine go ?_;intros
  apply wO
  refine Ku (ys:=y.es) Dh E4 fun a9 c9 F9=>?_
  rw [List.nil_append]
  refine Ay (E:=Az) (xs:=Kc r d) fun F8=>?_
  refine go ?_;intros
  refine cf (Wg (Kc r d) y.y z.a z.c F8 _ y.F (by have:=V2 r d;omega) (fun q hq=>(Uv hg hq).1) hm0 hm1) fun u2 _=>?_
  refine Ar ?_
  rw [hy1,Ws hg hL,←hy1]
  refine go ?_;intros
  refine C7 (x:=y.y) ?_
  rintro b1 d1 G1 e5 m1
  simp only [Value.agg.injEq,Array.mk.injEq,List.cons.injEq,Value.slice.injEq,true_and,and_true] at e5
  obtain ⟨rfl,rfl⟩:=e5
  refine Ay (E:=Az) (xs:=Sy (Kc r d) y.y.next) fun F10=>?_
  refine Ga ⟨r.Bg,r.Ai+1,y.y,Sy (Kc r d) y.y.next⟩ ?_
  rw [←hy2]
  refine ret ⟨_,_,_,_,_,[],_,_,_,_,_,_⟩ trivial rfl
def Ais (md:Region.Mode) (ops:Array Oper) (X:Nat→Bool) (listed:Array Bool) (i:Nat):Bool:=(List.range ops.size).all fun j=>!X j || listed.getD j false || Oh md ops i ops.size j
section
variable {P:Program} {md:Region.Mode} {ops:Array Oper} {Q:Exit→Act→World→Prop} {S:World→Prop} {X:Nat→Bool}
theorem C3.firstL {i:Nat} {oi:Oper} {v:Value} (hi:ops[i]?=some oi) (hsel:∀(j:Nat) (o:Oper) cs b,ops[j]?=some o→o.op≠.select cs b)
  (hQ:∀c a w,Q (.panic c) (a.put oi.dst v) w→Q (.panic c) a w) :
  ∀(f:Nat) (listed:Array Bool) (a:Act) (w:World),(∀j,j < ops.size→X j=true→listed.getD j false=false→Oh md ops i ops.size j=true) →
   (∀j oj,ops[j]?=some oj→j≠i→listed.getD j true=false→(∀e∈oj.after,Region.binds md e=true→e.on≠i)→oi.apart ops oj=true) →
   Tc md ops listed→i∈Region.ready md ops listed→YieldsIf P ops S oi v a→S w→C3 P md ops Q S X f (listed.setIfInBounds i true) (a.put oi.dst v) w→C3 P md ops Q S X (f+1) listed a w:=by
 intro f
 induction f with
 | zero =>
  intro listed a w _ _ _ hr hy hS H
  refine ⟨fun h=>(by rw [h] at hr;cases hr),fun j hj=>?_⟩
  by_cases hji:j=i
  ·subst hji;exact hy.wpOp hi hS ⟨fun _=>hS,H⟩
  ·have:=ready_mono hj hji
   rw [H.1] at this;cases this
 | succ f ih =>
  intro listed a w hX hfree hcl hr hy hS H
  refine ⟨fun h=>(by rw [h] at hr;cases hr),fun j hj=>?_⟩
  by_cases hji:j=i
  ·subst hji;exact hy.wpOp hi hS ⟨fun _=>hS,H⟩
  ·obtain ⟨hju,oj,hoj,hall⟩:=mem_ready.1 hj
   have hiu:=R9 (mem_ready.1 hr).1
   have hnot:∀e∈oj.after,Region.binds md e=true→e.on≠i:=fun e he hb heq=>by
    have h1:=hall e he hb
    rw [heq,hiu] at h1;cases h1
   have hXj:X j=false:=by
    cases hx:X j
    ·rfl
    ·have h2:=Q6 hcl ops.size j (fun o ho=>by obtain rfl:=Option.some.inj (ho.symm.trans hoj);exact hall) (hX j (Array.getElem?_eq_some_iff.1 hoj).1 hx (R9 hju))
     rw [hiu] at h2;cases h2
   have h2:=wpOp_putIf hoj (hfree j oj hoj hji hju hnot) (fun cs b=>hsel i oi cs b hi) (fun cs b=>hsel j oj cs b hoj) hQ hy (H.2 j (ready_mono hj hji))
   refine wpOp_mono (fun a' w' h3=>⟨fun _=>h3.2.1 hXj,ih (listed.setIfInBounds j true) a' w' (fun k hk hx hun=>hX k hk hx ?_) (fun k ok hk hki hun hno=>hfree k ok hk hki ?_ hno) (hcl.set hj) (ready_mono hr (Ne.symm hji)) h3.1 (h3.2.1 hXj) ?_⟩) h2
   ·by_cases hjk:j=k
    ·subst hjk;exact R9 hju
    ·rw [getD_set_ne false hjk] at hun;exact hun
   ·by_cases hjk:j=k
    ·subst hjk;exact hju
    ·rw [getD_set_ne true hjk] at hun;exact hun
   ·rw [Array.setIfInBounds_comm _ _ hji];exact h3.2.2
end
section
variable {c:Cx} {fr:Fr} {H H0:List Pc} {k:List It} {X:List Nat} {ops:Array Oper} {f:Nat} {listed:Array Bool} {d:Nat} {o:Op} {ty:TypeId} {pos:String} {Bn:Array Edge} {v:Value}
theorem W9 (i:Nat) (h:T c ((d,v)::fr) H (.dx k H0 X ops f (listed.setIfInBounds i true))) (ho:ops[i]?=some ⟨some d,o,ty,pos,Bn,none⟩:=by rw [List.getElem?_toArray];rfl) (hy:Yd c.P c.n fr H0 o ty v:=by exact ydE) (hs:Mc H0 H:=by repeat (first|exact Mc.nil|refine Mc.cons (by exact B8) ?_))
  (h1:Region.noSelect ops=true:=by kernel_rfl) (h2:Region.free .any ops listed i=true:=by kernel_rfl) (h3:(Region.ready .any ops listed).contains i=true:=by kernel_rfl) (h4:Ais .any ops (fun i=>X.contains i) listed i=true:=by kernel_rfl) (h5:N4 .any ops listed=true:=by kernel_rfl) (hR:T8 c:=by exact Wm) (hd:Nat.blt d c.n=true:=by rfl) :
  T c fr H (.dx k H0 X ops (f+1) listed):=.mk fun a w s g =>
 C3.firstL ho (Region.noSelect_spec h1) (fun ch a w hp=>by rw [Jq] at hp ⊢;exact hR _ _ _ _ _ hp) f listed a w (fun j hj hx hl=>by
   have:=List.all_eq_true.1 h4 j (List.mem_range.2 hj)
   dsimp only at this
   rw [hx,hl] at this
   simpa using this) (Region.free_spec ho h2) (Z3 h5) (by simpa using h3) (.inl ⟨rfl,fun w' hw'=>hy.h a w' _ _ _ _ g hw'⟩) (fun p hp=>s.on p (hs.all p hp)) (h.h _ _ s (g.put hd))
end
theorem Al4 (fid:FuncId) (bd caps:List Value) (A:List Pc) (hA:A.all (fun p=>!p.mu)=true) (xs:List As) (a:Option Addr) (c:Nat) (F:List Nat) (p:As→Bool) (hb:N0 prog fid=true) (hl:xs.length≤1000000000)
  (hp:∀x∈xs,∀w,Ms A w→Calls prog fid (bd++[(.agg #[.int .i64 (x).C2,.int .i64 (x).Ad,.int .i64 (x).Ak,.int .i64 (x).D0,.string (x).data]:Value)]++caps).toArray w fun e w'=>e=.returned (.bool (p x))∧Below w.heap.size w w') :
  Fn prog 174 [.slice a xs.length c,.func (.func fid) bd.toArray caps.toArray] (.sl Al (.slice a xs.length c) xs F::A) [] (fun (_:Unit)=>True) (fun _=>.int .i64 (N5 p xs)) (fun _=>[]):=by
 refine enter func174 rfl ntmps174 (fun w0=>?_) rfl (by simpa [Pc.mu] using hA) .nil
 refine go ?_;intros
 refine H2 [0,1,4,7] (fun k:Nat=>[(8,.int .i64 (k:Nat))]) (fun k=>k≤xs.length∧∀j (_:j < k) (hj:j < xs.length),p xs[j]=false) (fun k=>xs.length - k) 0 ⟨Nat.zero_le _,fun j h=>by omega⟩ fun k hk=>?_
 obtain ⟨hk1,hk2⟩:=hk
 refine go ?_;intros
 refine Bf rfl (fun h5=>?_) (fun h5=>?_)
 ·have hh:k < xs.length:=by omega
  refine go ?_;intros
  refine Ok (xs:=xs) k ?_
  rintro hi b o e sz
  rw [e]
  refine go ?_;intros
  apply wO
  refine Un rfl rfl hb Be ?_
  refine cb (fun w st=>hp xs[k] (List.getElem_mem hh) w (fun q hq=>st.on q (by simp [hq]))) ?_
  cases hpk:p xs[k]
  ·refine go ?_;intros
   refine Q3 ?_
   refine Ct (hH:=Ir _) (k+1) ⟨hh,fun j hj h=>?_⟩ (by omega)
   rcases Nat.lt_or_eq_of_le (Nat.lt_succ_iff.1 hj) with h2|rfl
   ·exact hk2 j h2 h
   ·exact hpk
  ·refine go ?_;intros
   refine ret () trivial ?_
   rw [Mh hh hk2 hpk];rfl
 ·obtain rfl:k=xs.length:=by omega
  refine go ?_;intros
  refine ret () trivial ?_
  rw [Lj (fun j hj=>hk2 j hj hj)];rfl
theorem Aft (fid:FuncId) (bd caps:List Value) (A:List Pc) (hA:A.all (fun p=>!p.mu)=true) (xs:List As) (a:Option Addr) (c:Nat) (F:List Nat) (p:As→Bool) (hb:N0 prog fid=true) (hl:xs.length≤1000000000)
  (hp:∀x∈xs,∀w,Ms A w→Calls prog fid (bd++[(.agg #[.int .i64 (x).C2,.int .i64 (x).Ad,.int .i64 (x).Ak,.int .i64 (x).D0,.string (x).data]:Value)]++caps).toArray w fun e w'=>e=.returned (.bool (p x))∧Below w.heap.size w w') :
  Fn prog 118 [.slice a xs.length c,.func (.func fid) bd.toArray caps.toArray] (.sl Al (.slice a xs.length c) xs F::A) [] (fun (_:Unit)=>True) (fun _=>.bool (xs.any p)) (fun _=>[]):=by
 refine enter func118 rfl ntmps118 (fun w0=>?_) rfl (by simpa [Pc.mu] using hA) .nil
 refine go ?_;intros
 refine cb (fun w st=>(Al4 fid bd caps A hA xs a c F p hb hl hp).val w (fun q hq=>st.on q (by simpa using hq)) (by simpa [Pc.mu] using hA)) ?_
 refine go ?_;intros
 refine ret () trivial ?_
 rw [Pu];rfl
theorem Al6 (r:Bc) (p:As) (d:Int) (g t o:Nat) (A B:List Value) (a1:Option Addr) (c1:Nat) (F1:List Nat) (a2:Option Addr) (c2:Nat) (F2:List Nat) (hg:I9 r) (hp:Bk p=true) (d0:1≤d) (d1:d≤8) :
  Fn prog 195 [Eu g o 0,.agg #[.int .i64 p.C2,.int .i64 p.Ad,.int .i64 p.Ak,.int .i64 p.D0,.string p.data],.int .i64 d] [] [.row g t o A [.bool r.Bg,.int .i64 r.Ai,.int .i64 (r.Aa).next,.slice a1 (r.Aa).Ao.length c1,.slice a2 (r.Ap).length c2] B,.ow Cg 198 (.slice a1 (r.Aa).Ao.length c1) (r.Aa).Ao F1,.ow Az 166 (.slice a2 (r.Ap).length c2) (r.Ap) F2] (fun (_:NwS)=>True)
   (fun s=>.slice s.ae (Ff r p).length s.ce) (fun s=>[.row g t o A [.bool (C9 r p d).Bg,.int .i64 (C9 r p d).Ai,.int .i64 ((C9 r p d).Aa).next,.slice s.a1 ((C9 r p d).Aa).Ao.length s.c1,.slice s.a2 ((C9 r p d).Ap).length s.c2] B,.ow Cg 198 (.slice s.a1 ((C9 r p d).Aa).Ao.length s.c1) ((C9 r p d).Aa).Ao s.F1,.ow Az 166 (.slice s.a2 ((C9 r p d).Ap).length s.c2) ((C9 r p d).Ap) s.F2,.ow A9 9 (.slice s.ae (Ff r p).length s.ce) (Ff r p) s.Fe]):=by
 have k0:=hg.k0
 have k1:=hg.k1
 obtain ⟨-,q1,q2, -⟩:=Dr.1 hg.q
 obtain ⟨n0,n1⟩:=H5 hp
 refine enter func195 rfl ntmps195 fun w0=>?_
 refine go ?_;intros
 by_cases hk1:p.C2=1
 ·rw [decide_eq_true hk1]
  rw [show C9 r p d=Io r p d by unfold C9 Ii;simp [hk1],show Ff r p=Jj r p by unfold Ff Ii;simp [hk1]]
  refine go ?_;intros
  refine cf (Aa8 r p d g t o A B a1 c1 F1 a2 c2 F2 hg hp d0 d1) fun s _=>?_
  refine Ar ?_
  refine go ?_;intros
  refine ret ⟨s.a1,s.c1,s.F1,s.a2,s.c2,s.F2,s.ae,s.ce,s.Fe⟩ trivial rfl
 rw [decide_eq_false hk1]
 refine go ?_;intros
 by_cases hk2:p.C2=2
 ·rw [decide_eq_true hk2]
  rw [show C9 r p d=Io r p d by unfold C9 Ii;simp [hk2],show Ff r p=Jj r p by unfold Ff Ii;simp [hk2]]
  refine go ?_;intros
  refine cf (Aa8 r p d g t o A B a1 c1 F1 a2 c2 F2 hg hp d0 d1) fun s _=>?_
  refine Ar ?_
  refine go ?_;intros
  refine ret ⟨s.a1,s.c1,s.F1,s.a2,s.c2,s.F2,s.ae,s.ce,s.Fe⟩ trivial rfl
 rw [decide_eq_false hk2]
 refine go ?_;intros
 by_cases hk5:p.C2=5
 ·rw [decide_eq_true hk5]
  rw [show C9 r p d=Io r p d by unfold C9 Ii;simp [hk5],show Ff r p=Jj r p by unfold Ff Ii;simp [hk5]]
  refine go ?_;intros
  refine cf (Aa8 r p d g t o A B a1 c1 F1 a2 c2 F2 hg hp d0 d1) fun s _=>?_
  refine Ar ?_
  refine go ?_;intros
  refine ret ⟨s.a1,s.c1,s.F1,s.a2,s.c2,s.F2,s.ae,s.ce,s.Fe⟩ trivial rfl
 rw [decide_eq_false hk5]
 refine go ?_;intros
 refine Bx A9 9 ?_
 have eE:Ff r p=[]:=by unfold Ff Ii;simp [hk1,hk2,hk5]
 by_cases hk4:p.C2=4
 ·rw [decide_eq_true hk4]
  cases hs:r.Bg
  ·rw [show C9 r p d=r by unfold C9 Ii;simp [hk1,hk2,hk5,hs],eE,hs]
   refine go ?_;intros
   refine ret ⟨_,_,_,_,_,_,none,0,_⟩ trivial rfl
  ·rw [show C9 r p d=Acs r p by unfold C9 Ii;simp [hk4,hs],eE,show (Acs r p).Bg=true from hs]
   refine go ?_;intros
   refine Aw [0,1,2] [0,18,19,20,21,22] ?_
   refine Pi 0 ?_
   refine W9 1 ?_
   refine W9 2 ?_
   refine W9 3 ?_
   refine W9 4 ?_
   refine W9 5 ?_
   refine W9 6 ?_
   refine W9 7 ?_
   refine W9 8 ?_
   refine W9 9 ?_
   refine W9 10 ?_
   refine W9 11 ?_
   refine W9 12 ?_
   refine W9 13 ?_
   refine W9 14 ?_
   refine W9 15 ?_
   refine dO 16 (by kernel_rfl) (by rw [List.getElem?_toArray];rfl) ?_
   apply At;rfl;kernel_rfl;exact Be
   refine cfr (fun w st=>by obtain ⟨Fq, -,hq9⟩:=(st.get (p:=.ow Az 166 (.slice a2 r.Ap.length c2) r.Ap F2) (by simp)).2.read;exact ⟨[.sl Az (.slice a2 r.Ap.length c2) r.Ap Fq],H9 ⟨by decide,hq9⟩,rfl,Uy r.Ap r.Aa.next p.Ad r.Ai a2 c2 Fq hg.q (Ba.2 ⟨n0,n1⟩) k0 k1⟩) (fun u _=>?_)
   refine dk ?_
   refine W9 17 ?_
   refine Pi 18 ?_
   refine Pi 19 ?_
   refine Pi 20 ?_
   refine Pi 21 ?_
   refine dO 22 (by kernel_rfl) (by rw [List.getElem?_toArray];rfl) ?_
   apply Cu;rfl;rfl;rfl;(first|exact AggC.s|exact OneC.s);rfl;exact Cw;exact Cv;rfl
   refine Mg ?_
   refine dd ?_
   refine go ?_;intros
   refine ret ⟨_,_,_,_,_,_,none,0,_⟩ trivial rfl
 rw [decide_eq_false hk4]
 rw [show C9 r p d=r by unfold C9 Ii;simp [hk1,hk2,hk5,hk4],eE]
 refine go ?_;intros
 refine ret ⟨_,_,_,_,_,_,none,0,_⟩ trivial rfl
structure HaS where
 k:Nat
 a1:Option Addr
 c1:Nat
 F1:List Nat
 a2:Option Addr
 c2:Nat
 F2:List Nat
 ae:Option Addr
 ce:Nat
 Fe:List Nat
section
variable {c:Cx} {fr:Fr} {H:List Pc} {Φ:Gl}
theorem Aar {v:Value} {x:Fa} {F:List Nat} (h:∀(a1:Option Addr) (c1:Nat) (F1:List Nat),v=.agg #[.int .i64 x.Ad,.slice a1 x.Bj.length c1,.int .i64 x.Cf]→x.Bj.length≤maxLen→T c fr (.sl Bd (.slice a1 x.Bj.length c1) x.Bj F1::H) Φ) (hm:.isv Dc v x F∈H:=by exact B8):T c fr H Φ:=.mk fun a w s g=>by
 obtain ⟨cs,rfl,v1,rfl,h1⟩:=s.get hm
 obtain ⟨a1,c1,rfl⟩:=h1.slice;have l1:=h1.len
 have t1:=s.ro (p:=.sl Bd (.slice a1 x.Bj.length c1) x.Bj F) hm rfl rfl ⟨by decide,h1⟩ fun b hb=>hb
 exact (h a1 c1 F rfl  l1).h a w t1 g
theorem Ol (x:Fa) {a1:Option Addr} {c1:Nat} {F1:List Nat}  (h:T c fr (.isv Dc (.agg #[.int .i64 x.Ad,.slice a1 x.Bj.length c1,.int .i64 x.Cf]) x (F1)::H) Φ) (m1:.sl Bd (.slice a1 x.Bj.length c1) x.Bj F1∈H:=by exact B8):T c fr H Φ:=.mk fun a w s g=>by
 have hP:O1 Dc w (.agg #[.int .i64 x.Ad,.slice a1 x.Bj.length c1,.int .i64 x.Cf]) x (F1):=⟨_,rfl,_,rfl,(s.get m1).2⟩
 refine h.h a w (s.add (N:=[.isv Dc (.agg #[.int .i64 x.Ad,.slice a1 x.Bj.length c1,.int .i64 x.Cf]) x (F1)]) (Below.refl _ _) (by intro q hq;simp at hq;subst hq;exact hP) ⟨by simp,trivial⟩ fun q hq b hb=>?_) g
 simp at hq;subst hq
 simp only [Pc.F,List.mem_append] at hb
 exact .inr ⟨rfl,_,m1,rfl,hb⟩
theorem Ts {v:Value} {x:Fa} {F:List Nat} {S:List Pc} (h:∀(a1:Option Addr) (c1:Nat) (F1:List Nat),v=.agg #[.int .i64 x.Ad,.slice a1 x.Bj.length c1,.int .i64 x.Cf]→x.Bj.length≤maxLen→T c fr (.ow Bd 3 (.slice a1 x.Bj.length c1) x.Bj F1::S) Φ) (hp:C1 H (.own D5 v x F) S:=by exact Dy):T c fr H Φ:=.mk fun a w s g=>by
 have z1:=s.pick hp
 obtain ⟨hn,cs,rfl,v1,rfl,h1⟩:=z1.on (.own D5 v x F) (by simp)
 obtain ⟨a1,c1,rfl⟩:=h1.slice;have l1:=h1.len
 refine (h a1 c1 F rfl  l1).h a w (St.turn (M:=[.own D5 (.agg #[.int .i64 x.Ad,.slice a1 x.Bj.length c1,.int .i64 x.Cf]) x _]) (N:=[.ow Bd 3 (.slice a1 x.Bj.length c1) x.Bj F]) z1 (Dt.refl _ w) ?_ ?_ ?_) g
 ·intro q hq;simp at hq;subst hq;exact ⟨hn,h1⟩
 ·exact ⟨by simp,trivial⟩
 ·intro q hq b hb;simp at hq;subst hq;exact .inr (.inl ⟨_,List.mem_singleton.2 rfl,rfl,hb⟩)
theorem L0 (x:Fa) {a1:Option Addr} {c1:Nat} {F1:List Nat} {S1:List Pc}  (h:T c fr (.own D5 (.agg #[.int .i64 x.Ad,.slice a1 x.Bj.length c1,.int .i64 x.Cf]) x (F1)::S1) Φ) (m1:C1 H (.ow Bd 3 (.slice a1 x.Bj.length c1) x.Bj F1) S1:=by exact Dy)  : T c fr H Φ:=.mk fun a w s g=>by
 have z1:St c.G c.D c.w0 ([.ow Bd 3 (.slice a1 x.Bj.length c1) x.Bj F1]++S1) w:=by simpa using (show Ew H [.ow Bd 3 (.slice a1 x.Bj.length c1) x.Bj F1] S1 from Ew.cons m1 (Ew.nil)).st (X:=[]) (by simpa using s)
 obtain ⟨n1,k1⟩:=z1.on (.ow Bd 3 (.slice a1 x.Bj.length c1) x.Bj F1) (by simp)
 have hN:=n1
 refine h.h a w (St.turn (M:=[.ow Bd 3 (.slice a1 x.Bj.length c1) x.Bj F1]) (N:=[.own D5 (.agg #[.int .i64 x.Ad,.slice a1 x.Bj.length c1,.int .i64 x.Cf]) x (F1)]) z1 (Dt.refl _ w) (by intro q hq;simp at hq;subst hq;exact ⟨hN,_,rfl,_,rfl,k1⟩) ⟨by simp,trivial⟩ fun q hq b hb=>?_) g
 simp at hq;subst hq
 simp only [Pc.F,List.mem_append] at hb
 exact .inr (.inl ⟨_,List.mem_singleton.2 rfl,rfl,hb⟩)
theorem Abd {a:Option Addr} {n cp:Nat} {xs:List Fa} {F:List Nat} (i:Nat) (h:∀(hi:i < xs.length) (b o:Nat) (a1:Option Addr) (c1:Nat) (F1:List Nat),a=some ⟨b,o,none⟩→xs[i].Bj.length≤maxLen→T c fr (.cel b (o+i * 3) [.int .i64 xs[i].Ad,.slice a1 xs[i].Bj.length c1,.int .i64 xs[i].Cf]::.sl Bd (.slice a1 xs[i].Bj.length c1) xs[i].Bj F1::H) Φ) (hm:.sl Dc (.slice a n cp) xs F∈H:=by exact B8) (hi:i < xs.length:=by omega):T c fr H Φ:=.mk fun ac w s g=>by
 obtain ⟨b,o,cs,G,ha,hrep,hG,hb,hne,hr⟩:=Rz (s.get hm) i hi
 obtain ⟨v1,rfl,h1⟩:=hrep
 obtain ⟨a1,c1,rfl⟩:=h1.slice;have l1:=h1.len
 have t1:=s.ro (p:=.sl Bd (.slice a1 xs[i].Bj.length c1) xs[i].Bj G) hm rfl rfl ⟨by decide,h1⟩ (by intro b hb;simp only [Pc.F] at hb ⊢;exact hG b (by simp [hb]))
 exact (h hi b o a1 c1 G ha  l1).h ac w (t1.ro (List.mem_cons_of_mem _ hm) rfl rfl ⟨hne,hr⟩ (by intro x hx;simp [Pc.F] at hx;subst hx;exact hb)) g
end
structure EcS where
 k:Nat
 a:Option Addr
 c:Nat
 F:List Nat
theorem Ann {α:Type} {O:Br α} {P:Program} {f:FuncId} {args:List Value} {x:α} {A:List Pc} (h:Fn P f args A [] (fun (_:Value × List Nat)=>True) (fun z=>z.1) (fun z=>[.own O z.1 x z.2])) (hA:A.all (fun p=>!p.mu)=true) {w:World} (hH:Ms A w):Calls P f args.toArray w (Ajb O x w):=by
 refine (h.made w hH (fun _=>rfl) hA).mono ?_
 rintro e w' ⟨z, -,he,hh,hn,hF,hB⟩
 obtain ⟨h1,h2⟩:=hh (.own O z.1 x z.2) (by simp)
 exact ⟨z.1,z.2,he,h2,h1,fun b hb=>hF b (by simpa [fp,Pc.F,Pc.mu] using hb),hB⟩
theorem Ahx (v:Value) (e:Bt) (F:List Nat) (hm:e.Ah.length≤4294967296) (hm2:∀x∈e.Ah,x.Bj.length≤4294967296):Fn prog 152 [v] [.isv Bv v e F] [] (fun (_:Value × List Nat)=>True) (fun z=>z.1) (fun z=>[.own Bm z.1 e z.2]):=by
 refine enter func152 rfl ntmps152 fun w0=>?_
 refine Er ?_
 rintro a1 c1 F1 rfl l1
 refine Bx D5 139 ?_
 refine go ?_;intros
 rename_i g
 refine Ck [1,2,3] (fun y:EcS=>[(4,.int .i64 (y.k:Nat))]) (fun y=>[.row g 96 0 [] [.int .i64 e.Ai,.slice y.a (e.Ah.take y.k).length y.c] [],.ow D5 139 (.slice y.a (e.Ah.take y.k).length y.c) (e.Ah.take y.k) y.F]) (fun y=>y.k≤e.Ah.length) (fun y=>e.Ah.length - y.k) ⟨0,none,0,[]⟩ (Nat.zero_le _) fun y hy0=>?_
 obtain ⟨k,ya,yc,yF⟩:=y
 dsimp only at hy0 ⊢
 have htk:(e.Ah.take k).length=k:=by rw [List.length_take];omega
 refine go ?_;intros
 refine Bf rfl (fun h1=>?_) (fun h1=>?_)
 ·have hk:k < e.Ah.length:=by omega
  have hfl:=hm2 _ (List.getElem_mem hk)
  refine Abd (xs:=e.Ah) k ?_
  rintro hi b8 o8 a8 c8 F8 e8 l8
  rw [e8]
  refine go ?_;intros
  refine Aw [0,3] [13] ?_
  refine dt 0 ?_
  refine dt 1 ?_
  refine dt 2 ?_
  refine dt 3 ?_
  refine dt 4 ?_
  refine dt 5 ?_
  refine dt 7 ?_
  refine dt 8 ?_
  refine dO 6 (by kernel_rfl) (by rw [List.getElem?_toArray];rfl) ?_
  apply At;rfl;kernel_rfl;exact Be
  refine cn (fun w st=>Xe _ e.Ah[k].Bj F8 w (st.get (p:=.sl Bd (.slice a8 e.Ah[k].Bj.length c8) e.Ah[k].Bj F8) (by exact B8)).2 (by omega)) fun a9 c9 F9=>?_
  refine L0 e.Ah[k] ?_
  refine dk ?_
  refine dt 9 ?_
  refine dO 10 (by kernel_rfl) (by rw [List.getElem?_toArray];rfl) ?_
  apply Hh;rfl;rfl;rfl;rfl;exact Hb;exact Gp;intro _
  refine dk ?_
  refine dO 11 (by kernel_rfl) (by rw [List.getElem?_toArray];rfl) ?_
  refine Abb Ou e.Ah[k] rfl fun x4 d4 G4=>?_
  refine dk ?_
  refine dt 12 ?_
  refine dO 13 (by kernel_rfl) (by rw [List.getElem?_toArray];rfl) ?_
  apply Cu;rfl;rfl;rfl;(first|exact AggC.s|exact OneC.s);rfl;exact Cw;exact Cv;rfl
  refine Mg ?_
  refine dd ?_
  rw [←List.take_succ_eq_append_getElem hk]
  refine go ?_;intros
  refine Ct ⟨k+1,x4,d4,G4⟩ hk (by show e.Ah.length - (k+1) < e.Ah.length - k;omega)
 ·rw [show e.Ah.take k=e.Ah from List.take_of_length_le (by omega)]
  refine go ?_;intros
  refine E5 e ?_
  refine ret (_,_) trivial rfl
theorem Ul (v:Value) (e:Bt) (F:List Nat) (w:World) (h:O1 Bv w v e F) (hm:e.Ah.length≤4294967296) (hm2:∀x∈e.Ah,x.Bj.length≤4294967296):Calls prog 152 #[v] w (Ajb Bm e w):=Ann (Ahx v e F hm hm2) rfl (H9 h)
def Dx (e:Bt):Bt:=⟨e.Ai+1,e.Ah.filter fun x=>!decide (x.Cf≤e.Ai+1)⟩
theorem Sl.headIn {α:Type} {E:Br α} {w:World} {b off n cap:Nat} {xs:List α} {F} (h:Sl E w (.slice (some ⟨b,off,none⟩) n cap) xs F) (k:Nat) (hk:k < xs.length):b∈F:=by
 obtain ⟨a',cap',hv,hl,h⟩:=h
 cases hv
 rcases h with ⟨rfl,_⟩|⟨b,off,F',he,_,rfl,hc⟩
 ·simp at hk
 ·cases he;simp
theorem Aal (v:Value) (e:Bt) (F:List Nat) (w:World) (h:O1 Bv w v e F) (hc:Ix e.Ai=true) (hm:e.Ah.length≤4294967296) (hm2:∀x∈e.Ah,x.Bj.length≤4294967296) :
  Calls prog 115 #[v] w (Aq2 Bv (Dx e) w):=by
 have hcb:=Lk.1 hc
 have hm2:=Lib.hid hm2
 have h0:=h
 obtain ⟨_,rfl,v1,rfl,h1⟩:=h
 obtain ⟨a,cap,rfl⟩:=h1.slice
 have hB0:∀A B:Obj,Below w.heap.size w ((w.alloc A).alloc B):=fun A B=>((Below.refl _ _).alloc (Nat.le_refl _) _).alloc (by simp) _
 go_enter func115,ntmps115
 go_wp2_with fail
 refine (Ul _ e F _ (h0.below (hB0 _ _)) hm hm2.out).mono ?_
 rintro e' w1 ⟨_,Fo,rfl,⟨_,rfl,v2,rfl,ho⟩,hn,hFo,hb1⟩
 obtain ⟨a2,cap2,rfl⟩:=ho.slice
 have r0:=Hm.below (g:=w.heap.size) (t:=96) (cs:=[.int .i64 e.Ai,.slice a e.Ah.length cap]) (by simp [Jp] <;> omega) hb1
 have r1:=Hm.below (g:=w.heap.size+1) (t:=96) (cs:=[.int .i64 0,.slice none 0 0]) (by simp [Jp] <;> omega) hb1
 obtain ⟨Fr,hFr,hs⟩:=ho.sl Na
 have hFl:=ho.lt
 have hB:=tr (hB0 _ _) hb1 (Nat.le_refl _)
 have d0:=fun A=>(r0.alloc A).cells
 have c0:=r0.cells
 clear hb1
 go_wp2_with fail
 go_loopw [5] (fun i wr=>∃k:Nat,k≤e.Ah.length∧i=.int .i64 k∧∃oa oc F,Hid (Ow Dc 139 wr (.slice oa ((e.Ah.take k).filter fun x=>!decide (x.Cf≤e.Ai+1)).length oc) ((e.Ah.take k).filter fun x=>!decide (x.Cf≤e.Ai+1)) F)∧Hd F∧(∀b,oa=some b→w1.heap.size+1+1≤b.block)∧(∀c∈F,w.heap.size+2≤c∧c≠w1.heap.size∧c≠w1.heap.size+1) ∧
  Hm wr (w.heap.size+1) 96 [.int .i64 0,.slice none 0 0]∧Hm wr w1.heap.size 96 [.int .i64 e.Ai,.slice a2 e.Ah.length cap2]∧Hm wr (w1.heap.size+1) 96 [.int .i64 (e.Ai+1),.slice oa ((e.Ah.take k).filter fun x=>!decide (x.Cf≤e.Ai+1)).length oc]∧Below w1.heap.size w1 wr) (fun i _=>e.Ah.length - (intOf i).toNat)
 case atStart=>exact ⟨0,Nat.zero_le _,rfl,none,0,[],Lib.hid (.inl ⟨rfl,by simp,rfl⟩),Hd.nil,by simp,by simp,(r1.alloc _).alloc _,by simp [Jp],by simp [Jp],((Below.refl _ _).alloc (Nat.le_refl _) _).alloc (by simp) _⟩
 case round =>
  obtain ⟨k,hk,rfl,oa,oc,F2,hO,hd2,hoa,hF2,hr1,hr2,hr3,hB2⟩:=hrel
  have c1:=hr2.cells;have c2:=hr3.cells;have c4:=hr1.cells;have f4:=hr1.frozens
  by_cases hlt:k < e.Ah.length
  ·obtain ⟨b,off,_,F1,rfl,hx,hFx,ja⟩:=(hs.below (by decide) hB2).at k hlt
   obtain ⟨u1,rfl,hf⟩:=id hx
   obtain ⟨fa,fc,rfl⟩:=hf.slice
   have a0:=ja 0 (by decide)
   have a1:=ja 1 (by decide)
   have a2:=ja 2 (by decide)
   simp only [show Dc.sz=3 from rfl,Nat.add_zero,List.getElem?_cons_zero,List.getElem?_cons_succ] at a0 a1 a2
   clear ja
   by_cases hq:e.Ah[k].Cf > e.Ai+1
   ·have hqf:=Lib.hid (Et (q:=fun x:Fa=>!decide (x.Cf≤e.Ai+1)) hlt (by simp;omega))
    generalize hys:((e.Ah.take k).filter fun x=>!decide (x.Cf≤e.Ai+1))=ys at *
    have hys:=Lib.hid hys
    go_wp2_with fail
    go_quiet (fail)
    go_wp2_with fail
    have D1:=show Hm (wr.drewN nq) _ _ _ from hr1
    have D2:=show Hm (wr.drewN nq) _ _ _ from hr2
    have D3:=show Hm (wr.drewN nq) _ _ _ from hr3
    have DO:=Lib.hid (show Ow Dc 139 (wr.drewN nq) _ _ _ from hO.out.frame fun _ _=>rfl)
    have DX:Dc.Jr (wr.drewN nq) _ _ _:=Dc.frame hx fun _ _=>rfl
    have DB:=Hk hB2 nq
    have b0:(wr.drewN nq).cell? ⟨b,off+k * 3,none⟩=_:=a0
    have b1:(wr.drewN nq).cell? ⟨b,off+k * 3+1,none⟩=_:=a1
    have b2:(wr.drewN nq).cell? ⟨b,off+k * 3+2,none⟩=_:=a2
    clear hr1 hr2 hr3 hO hx hf hB2 a0 a1 a2 c1 c2 c4 f4
    generalize wr.drewN nq=w2 at *
    have hbb:=World.block_lt_of_cell? w2 _ b0
    simp only at hbb
    have DBs:=DB.size
    have t3:=fun A=>(D3.alloc A).cells 1;have t0:=D3.cells 1
    have o0:=D2.cells 1
    simp only [List.getElem?_cons_zero,List.getElem?_cons_succ] at t3 t0 o0
    have hyl:ys.length≤4294967295:=by have:=congrArg List.length hys.out;have:=List.length_filter_le (fun x:Fa=>!decide (x.Cf≤e.Ai+1)) (e.Ah.take k);simp at this;omega
    have hA:=(Below.refl w2.heap.size w2).alloc (Nat.le_refl _) (.cells #[.int .i64 e.Ah[k].Ad,.slice fa e.Ah[k].Bj.length fc,.int .i64 e.Ah[k].Cf] 139)
    have DOd:=Lib.hid ((DO.out.below hA).frame (w':=(w2.alloc (.cells #[.int .i64 e.Ah[k].Ad,.slice fa e.Ah[k].Bj.length fc,.int .i64 e.Ah[k].Cf] 139)).drew) fun _ _=>rfl)
    have DXd:=Dc.frame (w':=(w2.alloc (.cells #[.int .i64 e.Ah[k].Ad,.slice fa e.Ah[k].Bj.length fc,.int .i64 e.Ah[k].Cf] 139)).drew) (Dc.below DX hA) fun _ _=>rfl
    have E0':=kc hA o0;have E0:(w2.alloc (.cells #[.int .i64 e.Ah[k].Ad,.slice fa e.Ah[k].Bj.length fc,.int .i64 e.Ah[k].Cf] 139)).drew.cell? _=_:=E0'
    have E1':=kc hA b0;have E1:(w2.alloc (.cells #[.int .i64 e.Ah[k].Ad,.slice fa e.Ah[k].Bj.length fc,.int .i64 e.Ah[k].Cf] 139)).drew.cell? _=_:=E1'
    have E2':=kc hA b1;have E2:(w2.alloc (.cells #[.int .i64 e.Ah[k].Ad,.slice fa e.Ah[k].Bj.length fc,.int .i64 e.Ah[k].Cf] 139)).drew.cell? _=_:=E2'
    have E3':=kc hA b2;have E3:(w2.alloc (.cells #[.int .i64 e.Ah[k].Ad,.slice fa e.Ah[k].Bj.length fc,.int .i64 e.Ah[k].Cf] 139)).drew.cell? _=_:=E3'
    have nob:∀c∈(Value.slice oa ys.length oc).ownBlock.toList,w1.heap.size+1+1≤c:=fun c hc=>by
     cases oa with
     | none=>simp [Value.ownBlock] at hc
     | some b=>simp [Value.ownBlock] at hc;subst hc;exact hoa b rfl
    have D3a:=show Hm (w2.alloc (.cells #[.int .i64 e.Ah[k].Ad,.slice fa e.Ah[k].Bj.length fc,.int .i64 e.Ah[k].Cf] 139)).drew _ _ _ from D3.alloc (.cells #[.int .i64 e.Ah[k].Ad,.slice fa e.Ah[k].Bj.length fc,.int .i64 e.Ah[k].Cf] 139)
    have hFs:∀c∈F1,c < w1.heap.size:=fun c hc=>hs.lt (by decide) c (hFx c hc)
    have hbw:b < w1.heap.size:=hs.lt (by decide) b (hs.headIn k hlt)
    have hn1:¬b=w1.heap.size+1:=by omega
    have hn2:¬w1.heap.size+1=b:=by omega
    go_region_law (first|((refine Alf Qv (by decide) (by rfl) _ _ _ (by rfl) 139 (.agg #[.int .i64 0,.slice none 0 0,.int .i64 0]) 40 underlying94 Tl rfl (.slice oa ys.length oc) ys F2 (by rfl) DOd.out hd2 (some ⟨w2.heap.size,0,none⟩) [e.Ah[k]] 1 (by rfl) [.int .i64 e.Ah[k].Ad,.slice fa e.Ah[k].Bj.length fc,.int .i64 e.Ah[k].Cf] F1 (Cq.one DXd) (.inr ⟨_,rfl,World.news_of_block (w:=(w2.alloc (.cells #[.int .i64 e.Ah[k].Ad,.slice fa e.Ah[k].Bj.length fc,.int .i64 e.Ah[k].Cf] 139)).drew) (heap_alloc_new w2 _)⟩) (fun c hc he=>by have h1:=nob c (by rw [he];simp);have h2:=hFs c hc;omega) (by unfold maxLen;simp;omega) (by simp;omega) ?_);intro v4 w4 F4 hA4;obtain ⟨oa2,oc2,rfl⟩:=hA4.val;have D4:=D3a.keepK hA4.Af7 (fun hm=>by have:=nob _ hm;omega);have t4:=D4.cells 1;have f4:=D4.frozens 1;simp only [List.getElem?_cons_zero,List.getElem?_cons_succ] at t4))
    all_goals
     have hn4:w1.heap.size+1 ∉ F4:=fun hm=>by
      rcases hA4.mem _ hm with h|h|h
      ·exact (hF2 _ h).2.2 rfl
      ·have:=hFs _ h;omega
      ·have:=D3.lt;simp at h;omega
     have P1:=Lib.hid (hA4.ow.setFar (p:=⟨w1.heap.size+1,1,none⟩) hn4 (.slice oa2 (ys.length+1) oc2))
     have L1:=((show Hm (w2.alloc (.cells #[.int .i64 e.Ah[k].Ad,.slice fa e.Ah[k].Bj.length fc,.int .i64 e.Ah[k].Cf] 139)).drew _ _ _ from D1.alloc (.cells #[.int .i64 e.Ah[k].Ad,.slice fa e.Ah[k].Bj.length fc,.int .i64 e.Ah[k].Cf] 139)).keepK hA4.Af7 (fun hm=>by have:=nob _ hm;have:=r1.lt;omega)).setOther (p:=⟨w1.heap.size+1,1,none⟩) (by have:=r1.lt;simp;omega) (.slice oa2 (ys.length+1) oc2)
     have L2:=((show Hm (w2.alloc (.cells #[.int .i64 e.Ah[k].Ad,.slice fa e.Ah[k].Bj.length fc,.int .i64 e.Ah[k].Cf] 139)).drew _ _ _ from D2.alloc (.cells #[.int .i64 e.Ah[k].Ad,.slice fa e.Ah[k].Bj.length fc,.int .i64 e.Ah[k].Cf] 139)).keepK hA4.Af7 (fun hm=>by have:=nob _ hm;omega)).setOther (p:=⟨w1.heap.size+1,1,none⟩) (by simp) (.slice oa2 (ys.length+1) oc2)
     have L3:=D4.set 1 (.slice oa2 (ys.length+1) oc2)
     have hoa2:∀b,oa2=some b→w1.heap.size+1+1≤b.block:=fun c hc=>by
      subst hc
      rcases hA4.Afd with h|h
      ·simp only [Value.ownBlock] at h;exact nob _ (by cases oa <;> simp_all [Value.ownBlock])
      ·simp [Value.ownBlock] at h;have:=D3.lt;omega
     have hF4:∀c∈F4,w.heap.size+2≤c∧c≠w1.heap.size∧c≠w1.heap.size+1:=fun c hc=>by
      have hs3:=D3.lt
      have hsw:=r1.lt
      rcases hA4.mem _ hc with h|h|h
      ·exact hF2 _ h
      ·have h1:=hFs _ h;have h2:w.heap.size+2≤c:=(by simpa using hFo c (hFr c (hFx c h)));exact ⟨h2,by omega,by omega⟩
      ·simp at h;exact ⟨by omega,by omega,by omega⟩
     have hB5:Below w1.heap.size w1 (w4.setCell ⟨w1.heap.size+1,1,none⟩ (.slice oa2 (ys.length+1) oc2)) :=
      Below.setCell ((Hk (tr DB hA (Nat.le_refl _)) 1).trans (hA4.Af7.below (by simp;omega) (fun b hb=>by have:=nob b hb;omega))) (by simp) _
     have hd4:=hA4.hd
     clear hA4 D1 D2 D3 D4
     go_wp2_with fail
     exact ⟨⟨k+1,by omega,by go_num,oa2,oc2,F4,by rw [hqf.out,List.length_append];exact P1,hd4,hoa2,hF4,L1,L2,by rw [hqf.out,List.length_append];exact L3,hB5⟩,by simp [intOf];omega⟩
   ·have hqf:=Lib.hid (Cz (q:=fun x:Fa=>!decide (x.Cf≤e.Ai+1)) hlt (by simp;omega))
    generalize hys:((e.Ah.take k).filter fun x=>!decide (x.Cf≤e.Ai+1))=ys at *
    have hys:=Lib.hid hys
    go_wp2_with fail
    go_quiet (fail)
    go_wp2_with fail
    refine ⟨⟨k+1,by omega,by go_num,oa,oc,F2,?_,hd2,hoa,hF2,hr1,hr2,?_,Hk hB2 _⟩,by simp [intOf];omega⟩
    ·rw [hqf.out];exact Lib.hid (hO.out.frame fun _ _=>rfl)
    ·rw [hqf.out];exact hr3
  ·have hk:k=e.Ah.length:=by omega
   subst hk
   simp only [List.take_length] at hO hr3 c2
   obtain ⟨F3,hF3,hs3⟩:=hO.out.read
   have hB3:=tr hB hB2 (Nat.le_refl _)
   go_wp2_with fail
   refine bodyPost_ret (v:=.agg #[.int .i64 (e.Ai+1),.slice oa (e.Ah.filter fun x=>!decide (x.Cf≤e.Ai+1)).length oc]) ?_ rfl ?_
   ·simp [results,results115,go_sem,c4,c2,f4]
   ·refine ⟨_,F3,rfl,⟨_,rfl,_,rfl,?_⟩,fun b hb=>by have:=(hF2 b (hF3 b hb)).1;omega,?_⟩
    ·refine hs3.frame fun b hb=>?_
     have h2:=(hF2 b (hF3 b hb)).1
     rw [Below.heap_setCell _ _ _ _ (by simp;omega),Below.heap_setCell _ _ _ _ (by simp;omega)]
    ·repeat refine Below.setCell ?_ (by simp <;> omega) _
     exact hB3
theorem Afb {lo hi:Int} {zs:List Int} (h:Pm lo hi zs=true):(zs.length:Int)≤hi - lo+1∨zs=[]:=by
 by_cases h0:zs=[]
 ·exact .inr h0
 ·left
  have key:∀i (hi':i < zs.length),lo+i≤zs[i]∧zs[i]≤hi:=by
   intro i
   induction i with
   | zero =>
    intro hi'
    have:=Ht h 0 hi'
    rw [Tu hi'] at this
    simp [Hq] at this
    simpa using this
   | succ i ih =>
    intro hi'
    have:=Ht h (i+1) hi'
    rw [Qz hi'] at this
    have:=ih (by omega)
    simp [Hq] at *
    omega
  have hp:=List.length_pos_iff.2 h0
  have:=key (zs.length - 1) (by omega)
  omega
theorem Aab {e:Bt} (h:Bw e=true):Ix e.Ai=true∧e.Ah.length≤5∧∀x∈e.Ah,x.Bj.length≤7:=by
 unfold Bw at h
 simp only [Bool.and_eq_true,decide_eq_true_eq] at h
 refine ⟨h.1.1,h.1.2,fun x hx=>?_⟩
 obtain ⟨i,hi,rfl⟩:=List.getElem_of_mem hx
 have:=Ht h.2 i hi
 rw [Lr hi] at this
 simp [Lw] at this
 rcases Afb this.1.2.2.1 with h|h
 ·omega
 ·rw [h];simp
def Ip (l:List Int) (n:Int):Nat:=(l.takeWhile fun x=>decide (x < n)).length
def Nx (l:List Int) (n:Int):List Int:=if l[Ip l n]?=some n then l else l.take (Ip l n)++n::l.drop (Ip l n)
def Jw (e:Bt) (n:Int):Nat:=e.Ah.findIdx fun x=>x.Ad == n
def Ks (e:Bt) (n f:Int):Bt:=match e.Ah[Jw e n]? with
 | some x=>⟨e.Ai,e.Ah.set (Jw e n) ⟨x.Ad,Nx x.Bj f,x.Cf⟩⟩
 | none=>if e.Ah.length < 5 then ⟨e.Ai,e.Ah++[⟨n,[f],e.Ai+6⟩]⟩ else e
def Vb (e:Bt) (n:Int):Bool:=!e.Ah.any fun x=>x.Ad == n
def Mm (e:Bt) (n:Int):Bt:=match e.Ah[Jw e n]? with
 | some _=>⟨e.Ai,e.Ah.take (Jw e n)++e.Ah.drop (Jw e n+1)⟩
 | none=>e
def Pt (e:Bt) (n:Int) (below:List Int):List Int:=match e.Ah[Jw e n]? with
 | some x=>x.Bj.filter fun f=>decide (f∈below)
 | none=>if e.Ah.length=5 then below else []
theorem Pv (e:Bt) (n:Int):(∃(h:Jw e n < e.Ah.length),N5 (fun x=>x.Ad == n) e.Ah=(Jw e n:Nat)∧e.Ah[Jw e n].Ad=n∧Vb e n=false)∨(N5 (fun x=>x.Ad == n) e.Ah=-1∧e.Ah[Jw e n]?=none∧Vb e n=true∧∀x∈e.Ah,x.Ad≠n):=by
 cases h:e.Ah.any fun x=>x.Ad == n
 ·right
  have h':=List.any_eq_false.1 h
  refine ⟨by unfold N5;rw [h];rfl,?_,by simp [Vb,h],fun x hx=>by have:=h' x hx;simpa using this⟩
  have:Jw e n=e.Ah.length:=List.findIdx_eq_length.2 (fun x hx=>by have:=h' x hx;simpa using this)
  rw [this];simp
 ·left
  have h2:Jw e n < e.Ah.length:=by
   obtain ⟨x,hx,hp⟩:=List.any_eq_true.1 h
   exact List.findIdx_lt_length_of_exists ⟨x,hx,hp⟩
  refine ⟨h2,by unfold N5;rw [h];rfl,?_,by simp [Vb,h]⟩
  have:(e.Ah[Jw e n].Ad == n)=true:=List.findIdx_getElem (p:=fun x:Fa=>x.Ad == n) (xs:=e.Ah) (w:=h2)
  simpa using this
theorem Vt {lo hi:Int} {zs:List Int} (h:Pm lo hi zs=true):zs.Pairwise (· < ·)∧∀z∈zs,lo≤z∧z≤hi:=by
 have hb:∀i (hi':i < zs.length),lo≤zs[i]∧zs[i]≤hi:=fun i hi'=>by
  have:=Ht h i hi'
  unfold Y0 Hq at this
  simp only [Bool.and_eq_true,decide_eq_true_eq] at this
  rw [List.getD_eq_getElem?_getD,List.getElem?_eq_getElem hi'] at this
  simpa using this.1
 refine ⟨?_,fun z hz=>by obtain ⟨i,hi',rfl⟩:=List.getElem_of_mem hz;exact hb i hi'⟩
 have step:∀i (hi:i+1 < zs.length),zs[i] < zs[i+1]:=fun i hi'=>by
  have:=Ht h (i+1) hi'
  rw [Qz hi'] at this
  simp only [Bool.and_eq_true,decide_eq_true_eq] at this
  exact this.2
 refine List.pairwise_iff_getElem.2 fun i j hi' hj hij=>?_
 obtain ⟨d,rfl⟩:∃d,j=i+1+d:=⟨j - i - 1,by omega⟩
 clear hij
 induction d with
 | zero=>exact step i hj
 | succ d ih=>exact Int.lt_trans (ih (by omega)) (step (i+1+d) hj)
theorem Aax {lo hi:Int} {zs:List Int} (h1:zs.Pairwise (· < ·)) (h2:∀z∈zs,lo≤z∧z≤hi):Pm lo hi zs=true:=by
 unfold Pm
 refine Jt fun i hi'=>?_
 have hb:=h2 zs[i] (List.getElem_mem hi')
 cases i with
 | zero=>rw [Tu hi'];simp [Hq,hb]
 | succ i =>
  rw [Qz hi']
  have:=List.pairwise_iff_getElem.1 h1 i (i+1) (by omega) hi' (by omega)
  simp [Hq,hb,this]
theorem Akv:∀{a b:List Int},a.Pairwise (· < ·)→b.Pairwise (· < ·)→(∀x,x∈a↔x∈b)→a=b
 | [],[],_,_,_=>rfl
 | [],y::b,_,_,h=>absurd ((h y).2 (by simp)) (by simp)
 | x::a,[],_,_,h=>absurd ((h x).1 (by simp)) (by simp)
 | x::a,y::b,h1,h2,h=>by
  have a1:=List.pairwise_cons.1 h1
  have b1:=List.pairwise_cons.1 h2
  have e:x=y:=by
   rcases List.mem_cons.1 ((h x).1 (by simp)) with e|m
   ·exact e
   ·rcases List.mem_cons.1 ((h y).2 (by simp)) with e|m2
    ·exact e.symm
    ·have:=b1.1 x m;have:=a1.1 y m2;omega
  subst e
  congr 1
  refine Akv a1.2 b1.2 fun z=>⟨fun hz=>?_,fun hz=>?_⟩
  ·rcases List.mem_cons.1 ((h z).1 (by simp [hz])) with e|m
   ·have:=a1.1 z hz;omega
   ·exact m
  ·rcases List.mem_cons.1 ((h z).2 (by simp [hz])) with e|m
   ·have:=b1.1 z hz;omega
   ·exact m
theorem Ac0 {a b:List Int} (h1:a.Pairwise (· < ·)) (h2:b.Pairwise (· < ·)):(a.filter fun f=>decide (f∈b))=b.filter fun f=>decide (f∈a) :=
 Akv (h1.filter _) (h2.filter _) fun x=>by simp [and_comm]
theorem Amq (x:Fa) (gb:Nat) (n:Int) (u:Value) (G:List Nat):Fn prog 259 [u,Eu gb 0 0] [.isv Dc u x G,.cel gb 0 [.int .i64 n]] [] (fun (_:Unit)=>True) (fun _=>.bool (x.Ad == n)) (fun _=>[]):=by
 refine enter func259 rfl ntmps259 fun w0=>?_
 refine Aar ?_
 rintro a1 c1 F1 rfl l1
 refine go ?_;intros
 refine ret () trivial ?_
 rfl
theorem Afu (e:Bt) (n:Int) (v:Value) (F:List Nat):Fn prog 231 [v,.int .i64 n] [.isv Bv v e F] [] (fun (_:Unit)=>True) (fun _=>.int .i64 (N5 (fun x=>x.Ad == n) e.Ah)) (fun _=>[]):=by
 refine enter func231 rfl ntmps231 fun w0=>?_
 refine Er ?_
 rintro a1 c1 F1 rfl l1
 refine go ?_;intros
 rename_i gb
 refine cb (fun w st=>Nt _ (Qj (by kernel_rfl)) #[Eu gb 0 0] _ e.Ah _ (fun x=>x.Ad == n) w (st.get (p:=.sl Dc (.slice a1 e.Ah.length c1) e.Ah F1) (by simp)).2 (fun k hk wr u G hB hu=>(Amq e.Ah[k] gb n u G).val wr (Qm hu ⟨by simp,Fg ((st.below hB).get (p:=.row gb 3 0 [] [.int .i64 n] []) (by simp))⟩))) ?_
 refine go ?_;intros
 refine ret () trivial rfl
theorem Aak (e:Bt) (n:Int) (v:Value) (F:List Nat):Fn prog 170 [v,.int .i64 n] [.isv Bv v e F] [] (fun (_:Unit)=>True) (fun _=>.int .i64 (N5 (fun x=>x.Ad == n) e.Ah)) (fun _=>[]):=by
 refine enter func170 rfl ntmps170 fun w0=>?_
 refine Er ?_
 rintro a1 c1 F1 rfl l1
 unfold maxLen at l1
 refine go ?_;intros
 refine H2 [1,2,4] (fun k:Nat=>[(5,.int .i64 (k:Nat))]) (fun k=>k≤e.Ah.length∧∀j (_:j < k) (hj:j < e.Ah.length),(e.Ah[j].Ad == n)=false) (fun k=>e.Ah.length - k) 0 ⟨Nat.zero_le _,fun j h=>by omega⟩ fun k hk=>?_
 obtain ⟨hk1,hk2⟩:=hk
 refine go ?_;intros
 refine Bf rfl (fun h1=>?_) (fun h1=>?_)
 ·have hh:k < e.Ah.length:=by omega
  refine go ?_;intros
  refine Abd (xs:=e.Ah) k ?_
  rintro hi b o a3 c3 F3 e1 l3
  rw [e1]
  refine go ?_;intros
  refine Bf rfl (fun h2=>?_) (fun h2=>?_)
  ·refine go ?_;intros
   refine ret () trivial ?_
   rw [Mh hh hk2 (by simpa using h2)];rfl
  ·refine go ?_;intros
   refine Ct (k+1) ⟨hh,fun j hj hl=>?_⟩ (by omega)
   rcases Nat.lt_or_eq_of_le (Nat.lt_succ_iff.1 hj) with h|rfl
   ·exact hk2 j h hl
   ·simpa using h2
 ·obtain rfl:k=e.Ah.length:=by omega
  refine go ?_;intros
  refine ret () trivial ?_
  rw [Lj (fun j hj=>hk2 j hj hj)];rfl
theorem Am0 (l:List Int) (n:Int) (a:Option Addr) (c:Nat) (F:List Nat):Fn prog 219 [.slice a l.length c,.int .i64 n] [.sl Bd (.slice a l.length c) l F] [] (fun (_:Unit)=>True) (fun _=>.bool (decide (n∈l))) (fun _=>[]):=by
 refine enter func219 rfl ntmps219 fun w0=>?_
 refine Wy (xs:=l) ?_
 rintro _ _ _ l2 l3
 refine go ?_;intros
 refine H2 [0,1,4] (fun k:Nat=>[(5,.int .i64 (k:Nat))]) (fun k=>k≤l.length∧n ∉ l.take k) (fun k=>l.length - k) 0 ⟨Nat.zero_le _,by simp⟩ fun k hk=>?_
 obtain ⟨hk1,hk2⟩:=hk
 refine go ?_;intros
 refine Bf rfl (fun h1=>?_) (fun h1=>?_)
 ·have hh:k < l.length:=by omega
  refine go ?_;intros
  refine Je (xs:=l) k ?_
  rintro hi b o e1
  rw [e1]
  refine go ?_;intros
  refine Bf rfl (fun h2=>?_) (fun h2=>?_)
  ·refine go ?_;intros
   refine ret () trivial ?_
   rw [decide_eq_true (h2▸List.getElem_mem hh:n∈l)];rfl
  ·refine go ?_;intros
   refine Ct (k+1) ⟨hh,fun hm=>?_⟩ (by omega)
   rw [List.take_add_one,List.getElem?_eq_getElem hh] at hm
   rcases List.mem_append.1 hm with h|h
   ·exact hk2 h
   ·simp at h;exact h2 h.symm
 ·obtain rfl:k=l.length:=by omega
  rw [List.take_length] at hk2
  refine go ?_;intros
  refine ret () trivial ?_
  rw [decide_eq_false hk2];rfl
theorem Ao9 (n:Int):Fn prog 282 [.int .i64 n] [] [] (fun (_:Unit)=>True) (fun _=>.bool false) (fun _=>[]):=by
 refine enter func282 rfl ntmps282 fun w0=>?_
 refine go ?_;intros
 refine ret () trivial ?_
 simp [Rf]
theorem Ap2 (n:Int):Fn prog 266 [.int .i64 n] [] [] (fun (_:Unit)=>True) (fun _=>.bool false) (fun _=>[]):=by
 refine enter func266 rfl ntmps266 fun w0=>?_
 refine go ?_;intros
 refine ret () trivial ?_
 simp [Rf]
theorem Ami (a b:Int):Fn prog 265 [.int .i64 a,.int .i64 b] [] [] (fun (_:Unit)=>True) (fun _=>.bool (decide (a < b))) (fun _=>[]):=by
 refine enter func265 rfl ntmps265 fun w0=>?_
 refine go ?_;intros
 refine cf (Ao9 a) fun _ _=>?_
 refine Ar ?_
 refine go ?_;intros
 refine ret () trivial rfl
def Ajg (l:List Int) (n:Int):Bool:=decide (l[Ip l n]?=some n)
theorem Vp {l:List Int} {n:Int} {k:Nat} (h1:k≤l.length) (h2:∀j (_:j < k) (h:j < l.length),l[j] < n) (h3:∀h:k < l.length,¬l[k] < n):Ip l n=k:=R8 h1 (fun j hj h=>by simpa using h2 j hj h) (fun h=>by simpa using h3 h)
theorem Amh (xs:List Int) (n:Int) (a:Option Addr) (c:Nat) (F:List Nat) (hs:xs.Pairwise (· < ·)) (hl:xs.length≤1000000):Fn prog 238 [.slice a xs.length c,.int .i64 n] [.sl Bd (.slice a xs.length c) xs F] [] (fun (_:Unit)=>True) (fun _=>.tuple #[.int .i64 (Ip xs n:Nat),.bool (Ajg xs n)]) (fun _=>[]):=by
 have hm:=List.pairwise_iff_getElem.1 hs
 refine enter func238 rfl ntmps238 fun w0=>?_
 refine go ?_;intros
 refine H2 [0,1,4,5,6] (fun s:Nat × Nat=>[(7,.int .i64 (s.1:Nat)),(8,.int .i64 (s.2:Nat))]) (fun s=>s.1≤s.2∧s.2≤xs.length∧(∀j (_:j < s.1) (h:j < xs.length),xs[j] < n)∧(∀j (_:s.2≤j) (h:j < xs.length),¬xs[j] < n)) (fun s=>s.2 - s.1) (0,xs.length) ⟨Nat.zero_le _,Nat.le_refl _,fun j h=>by omega,fun j h1 h2=>by omega⟩ fun s hs=>?_
 obtain ⟨i,j⟩:=s
 obtain ⟨h1,h2,h3,h4⟩:=hs
 dsimp only at h1 h2 h3 h4 ⊢
 refine go ?_;intros
 refine Bf rfl (fun h5=>?_) (fun h5=>?_)
 ·have hh:(i+j) / 2 < xs.length:=by omega
  have e2:((i:Int)+(j:Int)) / 2=(((i+j) / 2:Nat):Int):=by omega
  refine go ?_;intros
  apply wO;apply oc;rfl;exact Afr rfl (by omega) (by omega)
  refine go ?_;intros
  apply wO;apply oc;rfl;exact Ab8 rfl
  rw [e2]
  apply wO;apply oc;rfl;exact Ago rfl (by omega) (by omega)
  generalize hq:(i+j) / 2=q at hh
  refine go ?_;intros
  refine Je (xs:=xs) q ?_
  rintro hi b o e
  rw [e]
  refine go ?_;intros
  refine cf (Ami _ _) fun _ _=>?_
  refine Ar ?_
  refine go ?_;intros
  refine Bf rfl (fun h6=>?_) (fun h6=>?_)
  ·refine go ?_;intros
   refine Q3 ?_
   refine Ct (hH:=Ir _) (q+1,j) ⟨by show q+1≤j;omega,h2,fun k hk h=>?_,h4⟩ (by show j - (q+1) < j - i;omega)
   rcases Nat.lt_or_eq_of_le (Nat.lt_succ_iff.1 (show k < q+1 from hk)) with hk|rfl
   ·have:=hm k q h hh hk;omega
   ·exact h6
  ·refine go ?_;intros
   refine Q3 ?_
   refine Ct (hH:=Ir _) (i,q) ⟨by show i≤q;omega,by show q≤xs.length;omega,h3,fun k hk h hn=>h6 ?_⟩ (by show q - i < j - i;omega)
   rcases Nat.lt_or_eq_of_le (show q≤k from hk) with hk|rfl
   ·have:=hm q k hh h hk;omega
   ·exact hn
 ·have hij:i=j:=by omega
  subst hij
  have hk:Ip xs n=i:=Vp h2 h3 (fun h=>h4 i (Nat.le_refl _) h)
  unfold Ajg
  rw [hk]
  refine go ?_;intros
  refine Ee rfl rfl (fun h6=>?_) (fun h6=>?_)
  ·have hh:i < xs.length:=by omega
   rw [List.getElem?_eq_getElem hh]
   refine go ?_;intros
   refine Je (xs:=xs) i ?_
   rintro hi b o e
   rw [e]
   refine go ?_;intros
   refine Ee rfl rfl (fun h7=>?_) (fun h7=>?_)
   ·refine go ?_;intros
    refine ret () trivial ?_
    rw [decide_eq_true (by simpa using h7)];rfl
   ·refine go ?_;intros
    refine cf (Ap2 _) fun _ _=>?_
    refine Ar ?_
    refine go ?_;intros
    refine ret () trivial ?_
    rw [decide_eq_false (by simpa using h7)];rfl
  ·refine go ?_;intros
   refine ret () trivial ?_
   rw [List.getElem?_eq_none (by omega)];rfl
theorem Apj (xs:List Int) (n:Int) (a:Option Addr) (c:Nat) (F:List Nat):Fn prog 200 [.slice a xs.length c,.int .i64 n] [.sl Bd (.slice a xs.length c) xs F] [] (fun (_:Unit)=>True) (fun _=>.int .i64 (N5 (fun x=>x == n) xs)) (fun _=>[]):=by
 refine enter func200 rfl ntmps200 fun w0=>?_
 refine Wy (xs:=xs) ?_
 rintro _ _ - l2 l3
 refine go ?_;intros
 refine H2 [0,1,4,7] (fun k:Nat=>[(8,.int .i64 (k:Nat))]) (fun k=>k≤xs.length∧∀j (_:j < k) (hj:j < xs.length),(xs[j] == n)=false) (fun k=>xs.length - k) 0 ⟨Nat.zero_le _,fun j h=>by omega⟩ fun k hk=>?_
 obtain ⟨hk1,hk2⟩:=hk
 refine go ?_;intros
 refine Bf rfl (fun h1=>?_) (fun h1=>?_)
 ·have hh:k < xs.length:=by omega
  refine go ?_;intros
  refine Je (xs:=xs) k ?_
  rintro hi b o e1
  rw [e1]
  refine go ?_;intros
  refine Bf rfl (fun h2=>?_) (fun h2=>?_)
  ·refine go ?_;intros
   refine ret () trivial ?_
   rw [Mh hh hk2 (by simpa using h2.symm)];rfl
  ·refine go ?_;intros
   refine Ct (k+1) ⟨hh,fun j hj hl=>?_⟩ (by omega)
   rcases Nat.lt_or_eq_of_le (Nat.lt_succ_iff.1 hj) with h|rfl
   ·exact hk2 j h hl
   ·simpa using fun e=>h2 e.symm
 ·obtain rfl:k=xs.length:=by omega
  refine go ?_;intros
  refine ret () trivial ?_
  rw [Lj (fun j hj=>hk2 j hj hj)];rfl
theorem Ame (l:List Int) (n:Int):(l.any fun x=>x == n)=decide (n∈l):=by
 rw [Bool.eq_iff_iff,List.any_eq_true,decide_eq_true_eq]
 exact ⟨fun ⟨x,hx,h⟩=>by simp at h;exact h▸hx,fun h=>⟨n,h,by simp⟩⟩
theorem Ajk (xs:List Int) (n:Int) (a:Option Addr) (c:Nat) (F:List Nat):Fn prog 139 [.slice a xs.length c,.int .i64 n] [.sl Bd (.slice a xs.length c) xs F] [] (fun (_:Unit)=>True) (fun _=>.bool (decide (n∈xs))) (fun _=>[]):=by
 refine enter func139 rfl ntmps139 fun w0=>?_
 refine go ?_;intros
 refine cf (Apj xs n _ _ F) fun _ _=>?_
 refine Ar ?_
 refine go ?_;intros
 refine ret () trivial ?_
 rw [Pu,Ame];rfl
theorem Akz (y:Int) (w:World):Cq Bd w [.int .i64 y] [y] []:=⟨_,[],[],[],by simp,by simp,⟨rfl,rfl⟩,rfl,rfl⟩
theorem Ai4 (xs:List Int) (y:Int) (i:Nat) (a:Option Addr) (c vb:Nat) (F:List Nat) (hi:i≤xs.length) (hl:xs.length≤1000000) :
  Fn prog 239 [.slice a xs.length c,.int .i64 i,.slice (some ⟨vb,0,none⟩) 1 1] [] [.ow Bd 3 (.slice a xs.length c) xs F,.row vb 3 0 [] [.int .i64 y] []] (fun (_:Option Addr × Nat × List Nat)=>True)
   (fun z=>.slice z.1 (xs.take i++y::xs.drop i).length z.2.1) (fun z=>[.ow Bd 3 (.slice z.1 (xs.take i++y::xs.drop i).length z.2.1) (xs.take i++y::xs.drop i) z.2.2]):=by
 have hone:∀w':World,∀cs:List Value,Cq Bd w' cs xs []→∀u∈cs,u.oneCell'=true:=fun w' cs h=>h.one' Db
 have hy:=Akz y
 have h1y:∀u∈([.int .i64 y]:List Value),u.oneCell'=true:=by intro u hu;simp at hu;rcases hu with rfl|rfl|rfl|rfl <;> rfl
 refine enter func239 rfl ntmps239 fun w0=>?_
 refine Agj (E:=Bd) fun hc1 hc2=>?_
 refine go ?_;intros
 apply wO
 refine Abt rfl rfl rfl rfl hi (fun _=>?_) hc1
 refine go ?_;intros
 refine Bf rfl (fun h1=>?_) (fun h1=>?_)
 ·have hin:i=xs.length:=by omega
  subst hin
  have e:xs.take xs.length++y::xs.drop xs.length=xs++[y]:=by simp
  refine go ?_;intros
  apply wO
  refine Lh hy Db fun a2 c2 F2=>?_
  rw [e]
  refine go ?_;intros
  refine ret (a2,c2,F2) trivial rfl
 ·have hlt:i < xs.length:=by omega
  refine Ab5 (xs:=xs) Dl (by rintro rfl;simp at hlt) ?_
  rintro g cs rest rfl - - - hcl hcr hfl
  rw [show Bd.sz=1 from rfl] at hcl hcr
  have h1c:=hone w0 cs (hfl w0)
  obtain ⟨A,B,hcs,hA,hB⟩:∃A B,cs=A++B∧A=cs.take (i * 1)∧B=cs.drop (i * 1):=⟨_,_,(List.take_append_drop _ _).symm,rfl,rfl⟩
  have hAl:A.length=i * 1:=by rw [hA,List.length_take];omega
  have hBl:B.length=(xs.length - i) * 1:=by rw [hB,List.length_drop];omega
  have hins:∀w,Cq Bd w (A++[.int .i64 y]++B) (xs.take i++y::xs.drop i) []:=fun w=>by rw [hA,hB];exact (hfl w).insL (hy w) i hi
  have h1A:∀u∈A,u.oneCell'=true:=fun u hu=>h1c u (by rw [hcs];simp [hu])
  have h1B:∀u∈B,u.oneCell'=true:=fun u hu=>h1c u (by rw [hcs];simp [hu])
  have hlen:(xs.take i++y::xs.drop i).length=xs.length+1:=by simp;omega
  clear hA hB hfl hone
  subst hcs
  have eA:A=((A++B++rest).drop 0).take (i * 1):=by rw [List.drop_zero,List.append_assoc,List.take_left' hAl]
  have eB:B=((A++B++rest).drop (0+i * 1)).take ((xs.length - i) * 1):=by rw [Nat.zero_add,List.append_assoc,List.drop_left' hAl,List.take_left' hBl]
  rw [hlen]
  refine go ?_;intros
  apply wO;apply oc;rfl;exact Afq rfl
  refine go ?_;intros
  refine Bf rfl (fun h2=>?_) (fun h2=>?_)
  ·refine go ?_;intros
   apply wO;apply oc;rfl;exact Lq (i:=i) rfl rfl rfl (by omega) (by omega)
   refine go ?_;intros
   apply wO
   refine Ae6 (k:=xs.length+1 - i) (olds:=A) rfl rfl rfl (by omega) (Jz (m:=i * 1) (.head _) eA) (by omega) (by decide) (by omega) (by omega) (by omega) (by omega) fun g' cp' Z rest' h3 h4 h5 h6=>?_
   rw [show i+(xs.length+1 - i)=xs.length+1 by omega] at h3 ⊢
   obtain ⟨Z1,Z2,rfl,hZ1,hZ2⟩:∃Z1 Z2,Z=Z1++Z2∧Z1.length=1∧Z2.length=B.length:=⟨Z.take 1,Z.drop 1,(List.take_append_drop _ _).symm,by rw [List.length_take];omega,by rw [List.length_drop];omega⟩
   refine go ?_;intros
   apply wO;apply oc;rfl;exact Ik (i:=i) rfl rfl rfl (by omega) (by omega) (by omega)
   refine go ?_;intros
   apply wO
   refine Rd (cs:=[.int .i64 y]) (L':=A++[.int .i64 y]++(Z2++rest')) rfl rfl rfl (Jz (L:=[.int .i64 y]) (o:=0) (m:=1) (by exact B8) rfl) .here (Wv (M:=Z1) (by simp [List.append_assoc]) (by omega) (by simpa using hZ1)) (by show 1=min 1 (xs.length+1 - i) * 1;omega) (by simp only [List.length_append,List.length_cons,List.length_nil];omega) h1y ?_
   refine go ?_;intros
   refine Aw [] [] ?_
   refine dt 0 ?_
   refine dt 1 ?_
   refine dt 2 ?_
   refine dt 3 ?_
   refine dt 4 ?_ (hy:=Ik (i:=i+1) rfl rfl (by omega) (by omega) (by omega) (by omega))
   refine dt 5 ?_
   refine dt 6 ?_
   refine dt 7 ?_ (hy:=Ik (i:=i) rfl rfl (by omega) (by omega) (by omega) (by omega))
   refine dO 8 (by kernel_rfl) (by rw [List.getElem?_toArray];rfl) ?_
   refine Rd (cs:=B) (L':=A++[.int .i64 y]++B++rest') rfl rfl rfl (Jz (by exact B8) eB) .here (Wv (P:=A++[.int .i64 y]) (M:=Z2) (by simp [List.append_assoc]) (by simp only [List.length_append,List.length_cons,List.length_nil];omega) hZ2) (by rw [hBl];congr 1;show _=min (xs.length - i) (xs.length+1 - (i+1));omega) (by simp only [List.length_append,List.length_cons,List.length_nil];omega) h1B ?_
   refine dk ?_
   refine dd ?_
   refine Vw (cs:=A++[.int .i64 y]++B) (rest:=rest') (xs:=xs.take i++y::xs.drop i) cp' rfl hins (by omega) h4 (by rw [show Bd.sz=1 from rfl];simp only [List.length_append,List.length_cons,List.length_nil] at h6 ⊢;omega) ?_
   rw [hlen]
   refine go ?_;intros
   refine ret (_,cp',[g']) trivial rfl
  ·have hcx:xs.length+1≤c:=by omega
   obtain ⟨X,Y,hXY,hX,hY⟩:=Afg (B:=B) (R:=rest) 1 (by omega)
   refine go ?_;intros
   apply wO;apply oc;rfl;exact Lq (i:=xs.length+1) rfl rfl (by omega) (by omega) (by omega)
   refine go ?_;intros
   apply wO;apply oc;rfl;exact Ik (i:=i+1) rfl rfl (by omega) (by omega) (by omega) (by omega)
   refine Kx ?_;intros
   apply wO
   refine Akl rfl Be (ovl (tS:=24) (tR:=4) (run_callFunc_extern func267 (by kernel_rfl) (by kernel_rfl) (by kernel_rfl) (e:=Extern.SlicesOverlaps.overlaps #[24,24] #[4]) (by kernel_rfl)) (.there .here) (.head _) (by intro e;have:=congrArg List.length e;simp only [List.length_append,List.length_nil] at this;omega)) ?_
   refine go ?_;intros
   refine Aw [] [] ?_
   refine dt 0 ?_
   refine dt 1 ?_
   refine dt 2 ?_
   refine dt 3 ?_
   refine dt 4 ?_ (hy:=Ik (i:=i+1) rfl rfl (by omega) (by omega) (by omega) (by omega))
   refine dt 5 ?_
   refine dt 6 ?_
   refine dt 7 ?_ (hy:=Ik (i:=i) rfl rfl (by omega) (by omega) (by omega) (by omega))
   refine dO 8 (by kernel_rfl) (by rw [List.getElem?_toArray];rfl) ?_
   refine Rd (cs:=B) (L':=A++X++B++rest.drop 1) rfl rfl rfl (Jz (by exact B8) eB) .here (Wv (P:=A++X) (M:=Y) (by rw [List.append_assoc A B rest,hXY];simp [List.append_assoc]) (by simp only [List.length_append];omega) hY) (by rw [hBl];congr 1;show _=min (xs.length+1 - i) (xs.length+1 - (i+1));omega) (by simp only [List.length_append];omega) h1B ?_
   refine dk ?_
   refine dd ?_
   refine go ?_;intros
   apply wO;apply oc;rfl;exact Ik (i:=i) rfl rfl rfl (by omega) (by omega) (by omega)
   refine go ?_;intros
   apply wO
   refine Rd (cs:=[.int .i64 y]) (L':=A++[.int .i64 y]++(B++rest.drop 1)) rfl rfl rfl (Jz (L:=[.int .i64 y]) (o:=0) (m:=1) (by exact B8) rfl) .here (Wv (M:=X) (by simp [List.append_assoc]) (by omega) (by simpa using hX)) (by show 1=min 1 (xs.length+1 - i) * 1;omega) (by simp only [List.length_append,List.length_cons,List.length_nil];omega) h1y ?_
   refine go ?_;intros
   refine Vw (L:=A++[.int .i64 y]++(B++rest.drop 1)) (cs:=A++[.int .i64 y]++B) (rest:=rest.drop 1) (xs:=xs.take i++y::xs.drop i) c (by simp [List.append_assoc]) hins (by omega) (by omega) (by rw [show Bd.sz=1 from rfl];simp only [List.length_append,List.length_cons,List.length_nil,List.length_drop];omega) ?_
   rw [hlen]
   refine ret (_,c,[g]) trivial rfl
theorem Ma (n:Int) (w:World):Cq Bd w [.int .i64 n] [n] []:=⟨_,[],[],[],by simp,by simp,⟨rfl,rfl⟩,rfl,rfl⟩
theorem Ah8 (l:List Int) (n:Int):Ip l n≤l.length:=(Ng (p:=fun x=>decide (x < n)) (xs:=l)).1
structure Ar6 where
 a:Option Addr
 c:Nat
 F:List Nat
theorem Am2 (l:List Int) (n:Int) (a:Option Addr) (c:Nat) (F:List Nat) (hl:l.length≤1000000):Fn prog 171 [.slice a l.length c,.int .i64 n] [] [.ow Bd 3 (.slice a l.length c) l F] (fun (_:Ar6)=>True) (fun s=>.slice s.a (Nx l n).length s.c) (fun s=>[.ow Bd 3 (.slice s.a (Nx l n).length s.c) (Nx l n) s.F]):=by
 refine enter func171 rfl ntmps171 fun w0=>?_
 refine go ?_;intros
 refine H2 [0,1,4] (fun k:Nat=>[(5,.int .i64 (k:Nat))]) (fun k=>k≤l.length∧∀j (_:j < k) (hj:j < l.length),l[j] < n) (fun k=>l.length - k) 0 ⟨Nat.zero_le _,fun j h=>by omega⟩ fun k hk=>?_
 obtain ⟨hk1,hk2⟩:=hk
 refine go ?_;intros
 refine Ee rfl rfl (fun h1=>?_) (fun h1=>?_)
 ·have hh:k < l.length:=by omega
  refine go ?_;intros
  refine Nl (m:=1) Dl k ?_ (by repeat (first|exact .here|apply C1.there)) rfl hh
  rintro _ g A cs B rfl rfl hr hH
  obtain ⟨rfl, -⟩:=hr w0
  refine go ?_;intros
  refine Mr l[k] hH hr ?_
  rw [List.set_getElem_self]
  refine Bf rfl (fun h2=>?_) (fun h2=>?_)
  ·refine go ?_;intros
   refine Ct (k+1) ⟨hh,fun j hj hl=>?_⟩ (by omega)
   rcases Nat.lt_or_eq_of_le (Nat.lt_succ_iff.1 hj) with h|rfl
   ·exact hk2 j h hl
   ·exact h2
  ·have hp:Ip l n=k:=Vp hk1 hk2 (fun _=>h2)
   refine go ?_;intros
   refine Ee rfl rfl (fun h4=>?_) (fun h4=>absurd h1 h4)
   refine go ?_;intros
   refine Nl (m:=1) Dl k ?_ (by repeat (first|exact .here|apply C1.there)) rfl hh
   rintro _ g A cs B e1 - hr hH
   cases e1
   obtain ⟨rfl, -⟩:=hr w0
   refine go ?_;intros
   refine Mr l[k] hH hr ?_
   rw [List.set_getElem_self]
   refine Bf rfl (fun h3=>?_) (fun h3=>?_)
   ·have e:Nx l n=l:=by unfold Nx;rw [hp,List.getElem?_eq_getElem hh,if_pos (by rw [h3])]
    rw [e]
    refine go ?_;intros
    refine ret ⟨_,_,_⟩ trivial rfl
   ·have e:Nx l n=l.take k++[n]++l.drop k:=by unfold Nx;rw [hp,List.getElem?_eq_getElem hh,if_neg (by simpa using h3)];simp
    refine go ?_;intros
    refine Ay fun F5=>?_
    refine Alm k (by omega) fun F6 hc1 hc2=>?_
    refine Aw [] [] ?_
    refine dt 1 ?_
    refine dt 2 ?_
    refine dt 3 ?_ (hy:=Lq (i:=k) rfl rfl rfl (by omega) (by omega))
    refine dt 5 ?_
    refine dt 8 ?_
    refine dt 9 ?_
    refine Aes 10 k fun a6 c6 F6=>?_
    refine Ob 0 6 (by kernel_rfl) (by rw [List.getElem?_toArray];rfl) (by rw [List.getElem?_toArray];rfl) ?_ ?_
    ·apply Jk;rfl;intro _
     refine C6 Bd ?_
     refine dk ?_
     refine Ob 4 6 (by kernel_rfl) (by rw [List.getElem?_toArray];rfl) (by rw [List.getElem?_toArray];rfl) ?_ ?_
     ·refine Ku Db Dl (fun a2 c2 F2=>?_) (hn:=by rw [List.length_take];omega) (h63:=by exact Im) (hby:=by exact Im)
      refine dk ?_
      refine dO 6 (by kernel_rfl) (by rw [List.getElem?_toArray];rfl) ?_
      apply Hh;rfl;rfl;rfl;rfl;exact Hb;exact Gp;intro _
      refine dk ?_
      refine dO 7 (by kernel_rfl) (by rw [List.getElem?_toArray];rfl) ?_
      refine Lh (Ma n) Db (fun a3 c3 F3=>?_) (h63:=by exact Im) (hby:=by exact Im)
      refine dk ?_
      refine dO 11 (by kernel_rfl) (by rw [List.getElem?_toArray];rfl) ?_
      refine Ku Db Dl (fun a4 c4 F4=>?_) (h63:=by exact Im) (hby:=by exact Im)
      refine dk ?_
      refine dt 12 ?_
      refine dd ?_
      rw [e]
      refine go ?_;intros
      refine ret ⟨_,_,_⟩ trivial rfl
     ·apply Hh;rfl;rfl;rfl;rfl;exact Hb;exact Gp;intro _
      refine dk ?_
      refine dO 4 (by kernel_rfl) (by rw [List.getElem?_toArray];rfl) ?_
      refine Ku Db Dl (fun a2 c2 F2=>?_) (hn:=by rw [List.length_take];omega) (h63:=by exact Im) (hby:=by exact Im)
      refine dk ?_
      refine dO 7 (by kernel_rfl) (by rw [List.getElem?_toArray];rfl) ?_
      refine Lh (Ma n) Db (fun a3 c3 F3=>?_) (h63:=by exact Im) (hby:=by exact Im)
      refine dk ?_
      refine dO 11 (by kernel_rfl) (by rw [List.getElem?_toArray];rfl) ?_
      refine Ku Db Dl (fun a4 c4 F4=>?_) (h63:=by exact Im) (hby:=by exact Im)
      refine dk ?_
      refine dt 12 ?_
      refine dd ?_
      rw [e]
      refine go ?_;intros
      refine ret ⟨_,_,_⟩ trivial rfl
    ·apply Hh;rfl;rfl;rfl;rfl;exact Hb;exact Gp;intro _
     refine dk ?_
     refine dO 0 (by kernel_rfl) (by rw [List.getElem?_toArray];rfl) ?_
     apply Jk;rfl;intro _
     refine C6 Bd ?_
     refine dk ?_
     refine dO 4 (by kernel_rfl) (by rw [List.getElem?_toArray];rfl) ?_
     refine Ku Db Dl (fun a2 c2 F2=>?_) (hn:=by rw [List.length_take];omega) (h63:=by exact Im) (hby:=by exact Im)
     refine dk ?_
     refine dO 7 (by kernel_rfl) (by rw [List.getElem?_toArray];rfl) ?_
     refine Lh (Ma n) Db (fun a3 c3 F3=>?_) (h63:=by exact Im) (hby:=by exact Im)
     refine dk ?_
     refine dO 11 (by kernel_rfl) (by rw [List.getElem?_toArray];rfl) ?_
     refine Ku Db Dl (fun a4 c4 F4=>?_) (h63:=by exact Im) (hby:=by exact Im)
     refine dk ?_
     refine dt 12 ?_
     refine dd ?_
     rw [e]
     refine go ?_;intros
     refine ret ⟨_,_,_⟩ trivial rfl
 ·have hp:Ip l n=k:=Vp hk1 hk2 (fun h=>by omega)
  have e:Nx l n=l.take k++[n]++l.drop k:=by unfold Nx;rw [hp,List.getElem?_eq_none (by omega)];simp
  refine go ?_;intros
  refine Ee rfl rfl (fun h4=>absurd h4 h1) (fun h4=>?_)
  refine go ?_;intros
  refine Ay fun F5=>?_
  refine Alm k (by omega) fun F6 hc1 hc2=>?_
  refine Aw [] [] ?_
  refine dt 1 ?_
  refine dt 2 ?_
  refine dt 3 ?_ (hy:=Lq (i:=k) rfl rfl rfl (by omega) (by omega))
  refine dt 5 ?_
  refine dt 8 ?_
  refine dt 9 ?_
  refine Aes 10 k fun a6 c6 F6=>?_
  refine Ob 0 6 (by kernel_rfl) (by rw [List.getElem?_toArray];rfl) (by rw [List.getElem?_toArray];rfl) ?_ ?_
  ·apply Jk;rfl;intro _
   refine C6 Bd ?_
   refine dk ?_
   refine Ob 4 6 (by kernel_rfl) (by rw [List.getElem?_toArray];rfl) (by rw [List.getElem?_toArray];rfl) ?_ ?_
   ·refine Ku Db Dl (fun a2 c2 F2=>?_) (hn:=by rw [List.length_take];omega) (h63:=by exact Im) (hby:=by exact Im)
    refine dk ?_
    refine dO 6 (by kernel_rfl) (by rw [List.getElem?_toArray];rfl) ?_
    apply Hh;rfl;rfl;rfl;rfl;exact Hb;exact Gp;intro _
    refine dk ?_
    refine dO 7 (by kernel_rfl) (by rw [List.getElem?_toArray];rfl) ?_
    refine Lh (Ma n) Db (fun a3 c3 F3=>?_) (h63:=by exact Im) (hby:=by exact Im)
    refine dk ?_
    refine dO 11 (by kernel_rfl) (by rw [List.getElem?_toArray];rfl) ?_
    refine Ku Db Dl (fun a4 c4 F4=>?_) (h63:=by exact Im) (hby:=by exact Im)
    refine dk ?_
    refine dt 12 ?_
    refine dd ?_
    rw [e]
    refine go ?_;intros
    refine ret ⟨_,_,_⟩ trivial rfl
   ·apply Hh;rfl;rfl;rfl;rfl;exact Hb;exact Gp;intro _
    refine dk ?_
    refine dO 4 (by kernel_rfl) (by rw [List.getElem?_toArray];rfl) ?_
    refine Ku Db Dl (fun a2 c2 F2=>?_) (hn:=by rw [List.length_take];omega) (h63:=by exact Im) (hby:=by exact Im)
    refine dk ?_
    refine dO 7 (by kernel_rfl) (by rw [List.getElem?_toArray];rfl) ?_
    refine Lh (Ma n) Db (fun a3 c3 F3=>?_) (h63:=by exact Im) (hby:=by exact Im)
    refine dk ?_
    refine dO 11 (by kernel_rfl) (by rw [List.getElem?_toArray];rfl) ?_
    refine Ku Db Dl (fun a4 c4 F4=>?_) (h63:=by exact Im) (hby:=by exact Im)
    refine dk ?_
    refine dt 12 ?_
    refine dd ?_
    rw [e]
    refine go ?_;intros
    refine ret ⟨_,_,_⟩ trivial rfl
  ·apply Hh;rfl;rfl;rfl;rfl;exact Hb;exact Gp;intro _
   refine dk ?_
   refine dO 0 (by kernel_rfl) (by rw [List.getElem?_toArray];rfl) ?_
   apply Jk;rfl;intro _
   refine C6 Bd ?_
   refine dk ?_
   refine dO 4 (by kernel_rfl) (by rw [List.getElem?_toArray];rfl) ?_
   refine Ku Db Dl (fun a2 c2 F2=>?_) (hn:=by rw [List.length_take];omega) (h63:=by exact Im) (hby:=by exact Im)
   refine dk ?_
   refine dO 7 (by kernel_rfl) (by rw [List.getElem?_toArray];rfl) ?_
   refine Lh (Ma n) Db (fun a3 c3 F3=>?_) (h63:=by exact Im) (hby:=by exact Im)
   refine dk ?_
   refine dO 11 (by kernel_rfl) (by rw [List.getElem?_toArray];rfl) ?_
   refine Ku Db Dl (fun a4 c4 F4=>?_) (h63:=by exact Im) (hby:=by exact Im)
   refine dk ?_
   refine dt 12 ?_
   refine dd ?_
   rw [e]
   refine go ?_;intros
   refine ret ⟨_,_,_⟩ trivial rfl
theorem Agy {c:Cx} {fr:Fr} {H S:List Pc} {Φ:Gl} (x:Bt) {a:Option Addr} {n cp:Nat} {F:List Nat} (hn:n=x.Ah.length) (h:T c fr (.own Bm (.agg #[.int .i64 x.Ai,.slice a n cp]) x F::S) Φ) (hp:C1 H (.ow D5 139 (.slice a n cp) x.Ah F) S:=by exact Dy):T c fr H Φ:=by
 subst hn;exact E5 x h hp
theorem Yy {e:Bt} {n f:Int} (h:Jw e n < e.Ah.length):Ks e n f=⟨e.Ai,e.Ah.set (Jw e n) ⟨e.Ah[Jw e n].Ad,Nx e.Ah[Jw e n].Bj f,e.Ah[Jw e n].Cf⟩⟩:=by unfold Ks;rw [List.getElem?_eq_getElem h]
theorem Yx {e:Bt} {n f:Int} (h:e.Ah[Jw e n]?=none) (hl:e.Ah.length < 5):Ks e n f=⟨e.Ai,e.Ah++[⟨n,[f],e.Ai+6⟩]⟩:=by unfold Ks;rw [h];simp [hl]
theorem Vs {e:Bt} {n f:Int} (h:e.Ah[Jw e n]?=none) (hl:¬e.Ah.length < 5):Ks e n f=e:=by unfold Ks;rw [h];simp [hl]
theorem Qp (e:Bt) (n f:Int) (v:Value) (F:List Nat) (hl:e.Ah.length≤1000000) (hf:∀x∈e.Ah,x.Bj.length≤1000000) (hc0:-1000000≤e.Ai) (hc1:e.Ai≤1000000):Fn prog 116 [v,.int .i64 n,.int .i64 f] [.isv Bv v e F] [] (fun (_:Value × List Nat)=>True) (fun s=>.tuple #[s.1,.bool (Vb e n)]) (fun s=>[.own Bm s.1 (Ks e n f) s.2]):=by
 refine enter func116 rfl ntmps116 fun w0=>?_
 refine Er ?_
 rintro a1 c1 F1 rfl l1
 refine go ?_;intros
 refine cv (fun w st=>Ul _ e _ w (st.get (p:=.isv Bv (.agg #[.int .i64 e.Ai,.slice a1 e.Ah.length c1]) e F) (by simp)) (by omega) (fun x hx=>Nat.le_trans (hf x hx) (by decide))) fun u FU=>?_
 refine Gh ?_
 rintro a2 c2 F2 rfl l2
 refine go ?_;intros
 refine cf (Aak e n _ F) fun _ _=>?_
 refine Ar ?_
 rcases Pv e n with ⟨h,e1,e2,e3⟩|⟨e1,e2,e3,e4⟩
 ·rw [e1,e3,Yy h]
  have hfx:=hf e.Ah[Jw e n] (List.getElem_mem h)
  refine go ?_;intros
  refine Va (m:=3) (Jw e n) ?_ rfl h
  rintro _ g A cs B k1 k2 G1 Gi G2 rfl - hc hH
  refine Ts ?_
  rintro a5 c5 F5 ev l5
  obtain rfl:cs=[.int .i64 e.Ah[Jw e n].Ad,.slice a5 e.Ah[Jw e n].Bj.length c5,.int .i64 e.Ah[Jw e n].Cf]:=by simpa using ev
  refine go ?_;intros
  refine cf (Am2 _ f a5 c5 F5 hfx) fun z _=>?_
  refine Ar ?_
  refine go ?_;intros
  refine L0 ⟨e.Ah[Jw e n].Ad,Nx e.Ah[Jw e n].Bj f,e.Ah[Jw e n].Cf⟩ ?_
  refine Q5 _ hH rfl fun F6=>?_
  refine Agy ⟨e.Ai,_⟩ List.length_set.symm ?_
  refine ret (_,_) trivial rfl
 ·rw [e1,e3]
  refine go ?_;intros
  refine Bf rfl (fun h5=>?_) (fun h5=>?_)
  ·rw [Yx e2 (by omega)]
   refine go ?_;intros
   refine Dz (E:=Bd) (xs:=[f]) (Ma f) ?_ (by simp)
   refine L0 ⟨n,[f],e.Ai+6⟩ ?_
   apply wO
   refine Abb Ou ⟨n,[f],e.Ai+6⟩ rfl fun a3 c3 F3=>?_
   refine go ?_;intros
   refine Agy ⟨e.Ai,_⟩ rfl ?_
   refine ret (_,_) trivial rfl
  ·rw [Vs e2 (by omega)]
   refine go ?_;intros
   refine Agy e rfl ?_
   refine ret (_,_) trivial rfl
def Ue (e:Bt) (n:Int) (below:List Int):List Int:=match e.Ah[Jw e n]? with
 | some x=>below.filter fun f=>decide (f∈x.Bj)
 | none=>if e.Ah.length=5 then below else []
theorem Yu {e:Bt} {n:Int} (h:Jw e n < e.Ah.length):Mm e n=⟨e.Ai,e.Ah.take (Jw e n)++e.Ah.drop (Jw e n+1)⟩:=by unfold Mm;rw [List.getElem?_eq_getElem h]
theorem Aby {e:Bt} {n:Int} (h:e.Ah[Jw e n]?=none):Mm e n=e:=by unfold Mm;rw [h]
theorem Ajs {e:Bt} {n:Int} {l:List Int} (h:Jw e n < e.Ah.length):Ue e n l=l.filter fun f=>decide (f∈e.Ah[Jw e n].Bj):=by unfold Ue;rw [List.getElem?_eq_getElem h]
theorem Amp {e:Bt} {n:Int} {l:List Int} (h:e.Ah[Jw e n]?=none):Ue e n l=if e.Ah.length=5 then l else []:=by unfold Ue;rw [h]
structure Aoz where
 k:Nat
 a:Option Addr
 c:Nat
 F:List Nat
structure Ar7 where
 v:Value
 F:List Nat
 a:Option Addr
 c:Nat
 G:List Nat
theorem Wh (e:Bt) (n:Int) (below:List Int) (v:Value) (F:List Nat) (a0:Option Addr) (c0:Nat) (F0:List Nat) (hl:e.Ah.length≤1000000) (hf:∀x∈e.Ah,x.Bj.length≤1000000) (hb:below.length≤1000000):Fn prog 160 [v,.int .i64 n,.slice a0 below.length c0] [.isv Bv v e F,.sl Bd (.slice a0 below.length c0) below F0] [] (fun (_:Ar7)=>True) (fun s=>.tuple #[s.v,.slice s.a (Ue e n below).length s.c]) (fun s=>[.own Bm s.v (Mm e n) s.F,.ow Bd 3 (.slice s.a (Ue e n below).length s.c) (Ue e n below) s.G]):=by
 refine enter func160 rfl ntmps160 fun w0=>?_
 refine Er ?_
 rintro a1 c1 F1 rfl l1
 refine go ?_;intros
 refine cv (fun w st=>Ul _ e _ w (st.get (p:=.isv Bv (.agg #[.int .i64 e.Ai,.slice a1 e.Ah.length c1]) e F) (by simp)) (by omega) (fun x hx=>Nat.le_trans (hf x hx) (by decide))) fun u FU=>?_
 refine Gh ?_
 rintro a2 c2 F2 rfl l2
 refine go ?_;intros
 refine cf (Aak e n _ F) fun _ _=>?_
 refine Ar ?_
 refine C6 Bd ?_
 rcases Pv e n with ⟨h,e1,e2,e3⟩|⟨e1,e2,e3,e4⟩
 ·rw [e1,Yu h,Ajs h]
  have hfx:=hf e.Ah[Jw e n] (List.getElem_mem h)
  refine go ?_;intros
  refine Abd (xs:=e.Ah) (Jw e n) ?_
  rintro hi b o a5 c5 F5 e6 l5
  generalize Jw e n=i at *
  generalize hx:e.Ah[i]=x at *
  rw [e6]
  refine go ?_;intros
  refine Ck [2,3,6,7,8,10] (fun s:Aoz=>[(11,.int .i64 (s.k:Nat)),(9,.slice s.a ((below.take s.k).filter fun f=>decide (f∈x.Bj)).length s.c)]) (fun s=>[.ow Bd 3 (.slice s.a ((below.take s.k).filter fun f=>decide (f∈x.Bj)).length s.c) ((below.take s.k).filter fun f=>decide (f∈x.Bj)) s.F]) (fun s=>s.k≤below.length) (fun s=>below.length - s.k) ⟨0,_,_,_⟩ (Nat.zero_le _) fun s hs=>?_
  obtain ⟨k,a3,c3,F3⟩:=s
  dsimp only at hs ⊢
  refine go ?_;intros
  refine Bf rfl (fun h6=>?_) (fun h6=>?_)
  ·have hk:k < below.length:=by omega
   refine Je (xs:=below) k ?_
   rintro hi2 b2 o2 e7
   rw [e7]
   have ht:below.take (k+1)=below.take k++[below[k]]:=by rw [List.take_add_one,List.getElem?_eq_getElem hk];rfl
   have hle:((below.take k).filter fun f=>decide (f∈x.Bj)).length≤k:=Nat.le_trans (List.length_filter_le _ _) (by simp;omega)
   refine go ?_;intros
   refine Aw [0,2,7] [] ?_
   refine dt 0 ?_
   refine dt 1 ?_
   refine dt 2 ?_
   refine dt 3 ?_
   refine dt 4 ?_
   refine dt 5 ?_
   refine dt 6 ?_
   refine dt 7 ?_
   refine dt 8 ?_
   refine dt 9 ?_
   refine dO 10 (by kernel_rfl) (by rw [List.getElem?_toArray];rfl) ?_
   apply At;rfl;kernel_rfl;exact Be
   refine cf (Am0 x.Bj below[k] a5 c5 F5) fun _ _=>?_
   refine Ar ?_
   refine dk ?_
   refine dd ?_
   refine go ?_;intros
   refine Bf rfl (fun h7=>?_) (fun h7=>?_)
   ·have e8:(below.take (k+1)).filter (fun f=>decide (f∈x.Bj))=((below.take k).filter fun f=>decide (f∈x.Bj))++[below[k]]:=by rw [ht,List.filter_append];simp [h7]
    refine go ?_;intros
    apply wO
    refine Lh (Ma _) Db fun a6 c6 F6=>?_
    rw [←e8]
    refine go ?_;intros
    refine Ct (⟨k+1,_,_,_⟩:Aoz) hk (by dsimp only;omega)
   ·have e8:(below.take (k+1)).filter (fun f=>decide (f∈x.Bj))=((below.take k).filter fun f=>decide (f∈x.Bj)):=by rw [ht,List.filter_append];simp [h7]
    refine go ?_;intros
    rw [←e8]
    refine Ct (⟨k+1,_,_,_⟩:Aoz) hk (by dsimp only;omega)
  ·have hk:below.take k=below:=List.take_of_length_le (by omega)
   rw [hk]
   refine go ?_;intros
   refine Vx Ou rfl fun ys Fy Gy hyl hym=>?_
   refine Alk i hi hyl hym fun G1 Gi G2=>?_
   refine Ay (E:=EC 3) (xs:=ys) fun Fr=>?_
   refine Alm (E:=EC 3) (xs:=ys) i (by omega) fun F6 hc1 hc2=>?_
   refine Aw [8] [13] ?_
   refine dt 1 ?_
   refine dt 2 ?_
   refine dt 3 ?_
   refine dt 4 ?_ (hy:=Lq (i:=i) rfl rfl rfl (by omega) (by omega))
   refine dt 6 ?_
   refine dt 7 ?_
   refine dt 8 ?_
   refine dt 9 ?_
   refine Aes 10 (i+1) fun a7 c7 F7=>?_
   refine dO 0 (by kernel_rfl) (by rw [List.getElem?_toArray];rfl) ?_
   apply Jk;rfl;intro _
   refine C6 (EC 3) ?_
   refine dk ?_
   refine dO 5 (by kernel_rfl) (by rw [List.getElem?_toArray];rfl) ?_
   refine Ku (Ml 3) (E9 3) (fun a6 c6 F6=>?_) (hn:=by rw [List.length_take];omega) (h63:=by exact Im) (hby:=by exact Im)
   refine dk ?_
   refine dO 11 (by kernel_rfl) (by rw [List.getElem?_toArray];rfl) ?_
   refine Ku (Ml 3) (E9 3) (fun a8 c8 F8=>?_) (h63:=by exact Im) (hby:=by exact Im)
   refine dk ?_
   refine dt 12 ?_
   refine dO 13 (by kernel_rfl) (by rw [List.getElem?_toArray];rfl) ?_
   apply Cu;rfl;rfl;rfl;(first|exact AggC.s|exact OneC.s);rfl;exact Cw;exact Cv;rfl
   refine Mg ?_
   refine dd ?_
   refine Agk (E:=D5) ?_
   refine Ali (E:=D5) (m:=3) (ys:=([]++ys.take i)++ys.drop (i+1)) (cs:=(ys.take i).flatten++(ys.drop (i+1)).flatten) (xs:=e.Ah.take i++e.Ah.drop (i+1)) ?_ rfl (by simp) (by simp [hyl])
   refine go ?_;intros
   refine Agy (n:=(([]++ys.take i)++ys.drop (i+1)).length) ⟨e.Ai,e.Ah.take i++e.Ah.drop (i+1)⟩ (by simp [hyl]) ?_
   refine ret ⟨_,_,_,_,_⟩ trivial rfl
 ·rw [e1,Aby e2,Amp e2]
  refine go ?_;intros
  refine Bf rfl (fun h5=>?_) (fun h5=>?_)
  ·rw [if_pos (by omega)]
   refine go ?_;intros
   apply wO
   refine Ku Db Dl fun a4 c4 F4=>?_
   refine go ?_;intros
   refine Agy e rfl ?_
   refine ret ⟨_,_,_,_,_⟩ trivial rfl
  ·rw [if_neg (by omega)]
   refine go ?_;intros
   refine Agy e rfl ?_
   refine ret ⟨_,_,_,_,_⟩ trivial rfl
theorem Aej (e:Bt) (n f:Int) (g t o:Nat) (A B:List Value) (a:Option Addr) (c:Nat) (F:List Nat) (hl:e.Ah.length≤1000000) (hf:∀x∈e.Ah,x.Bj.length≤1000000∧x.Bj.Pairwise (· < ·)) (hc0:-1000000≤e.Ai) (hc1:e.Ai≤1000000) :
  Fn prog 198 [Eu g o 0,.int .i64 n,.int .i64 f] [] [.row g t o A [.int .i64 e.Ai,.slice a e.Ah.length c] B,.ow D5 139 (.slice a e.Ah.length c) e.Ah F] (fun (_:Option Addr × Nat × List Nat)=>True) (fun _=>.bool (Vb e n)) (fun s=>[.row g t o A [.int .i64 (Ks e n f).Ai,.slice s.1 (Ks e n f).Ah.length s.2.1] B,.ow D5 139 (.slice s.1 (Ks e n f).Ah.length s.2.1) (Ks e n f).Ah s.2.2]):=by
 refine enter func198 rfl ntmps198 fun w0=>?_
 refine go ?_;intros
 refine cb (fun w st=>by
  obtain ⟨F', -,hs⟩:=(st.get (p:=.ow D5 139 (.slice a e.Ah.length c) e.Ah F) (by simp)).2.sl Na
  exact (Afu e n _ F').val w (H9 ⟨_,rfl,_,rfl,hs⟩)) ?_
 rcases Pv e n with ⟨h,e1,e2,e3⟩|⟨e1,e2,e3,e4⟩
 ·rw [e1,e3,Yy h]
  obtain ⟨hfx,hpw⟩:=hf e.Ah[Jw e n] (List.getElem_mem h)
  have hsl:∀y,(e.Ah.set (Jw e n) y).length=e.Ah.length:=fun y=>List.length_set
  refine go ?_;intros
  refine Va (m:=3) (Jw e n) ?_ rfl h
  rintro _ g2 A2 cs B2 k1 k2 G1 Gi G2 rfl - hc hH
  refine Ts ?_
  rintro a5 c5 F5 ev l5
  obtain rfl:cs=[.int .i64 e.Ah[Jw e n].Ad,.slice a5 e.Ah[Jw e n].Bj.length c5,.int .i64 e.Ah[Jw e n].Cf]:=by simpa using ev
  refine go ?_;intros
  refine cb (fun w st=>by
   obtain ⟨F', -,hs⟩:=(st.get (p:=.ow Bd 3 (.slice a5 e.Ah[Jw e n].Bj.length c5) e.Ah[Jw e n].Bj F5) (by simp)).2.read
   exact (Amh _ f a5 c5 F' hpw hfx).val w (H9 ⟨by decide,hs⟩)) ?_
  cases hq:Ajg e.Ah[Jw e n].Bj f
  ·have ep:Nx e.Ah[Jw e n].Bj f=e.Ah[Jw e n].Bj.take (Ip e.Ah[Jw e n].Bj f)++f::e.Ah[Jw e n].Bj.drop (Ip e.Ah[Jw e n].Bj f):=by unfold Nx;rw [if_neg (by simpa [Ajg] using hq)]
   refine go ?_;intros
   refine cf (Ai4 e.Ah[Jw e n].Bj f (Ip e.Ah[Jw e n].Bj f) a5 c5 _ F5 (Ah8 _ _) hfx) fun z _=>?_
   refine Ar ?_
   rw [←ep]
   refine go ?_;intros
   refine L0 ⟨e.Ah[Jw e n].Ad,Nx e.Ah[Jw e n].Bj f,e.Ah[Jw e n].Cf⟩ ?_
   refine Q5 _ hH rfl fun F6=>?_
   dsimp only
   rw [←hsl ⟨e.Ah[Jw e n].Ad,Nx e.Ah[Jw e n].Bj f,e.Ah[Jw e n].Cf⟩]
   refine ret (_,_,_) trivial rfl
  ·have ep:Nx e.Ah[Jw e n].Bj f=e.Ah[Jw e n].Bj:=by unfold Nx;rw [if_pos (by simpa [Ajg] using hq)]
   rw [ep]
   refine go ?_;intros
   refine L0 ⟨e.Ah[Jw e n].Ad,e.Ah[Jw e n].Bj,e.Ah[Jw e n].Cf⟩ ?_
   refine Q5 _ hH rfl fun F6=>?_
   dsimp only
   rw [←hsl ⟨e.Ah[Jw e n].Ad,e.Ah[Jw e n].Bj,e.Ah[Jw e n].Cf⟩]
   refine ret (_,_,_) trivial rfl
 ·rw [e1,e3]
  refine go ?_;intros
  refine Bf rfl (fun h5=>?_) (fun h5=>?_)
  ·rw [Yx e2 (by omega)]
   refine go ?_;intros
   refine Aw [0] [18] ?_
   refine dt 0 ?_
   refine dt 1 ?_
   refine dt 2 ?_
   refine dt 3 ?_
   refine dt 4 ?_
   refine dt 5 ?_
   refine dt 6 ?_
   refine dt 8 ?_
   refine dt 9 ?_
   refine dt 10 ?_
   refine dt 11 ?_
   refine dt 12 ?_
   refine dO 7 (by kernel_rfl) (by rw [List.getElem?_toArray];rfl) ?_
   apply Hh;rfl;rfl;rfl;rfl;exact Hb;exact Gp;intro _
   refine dk ?_
   refine dt 13 ?_
   refine dO 14 (by kernel_rfl) (by rw [List.getElem?_toArray];rfl) ?_
   apply Hh;rfl;rfl;rfl;rfl;exact Hb;exact Gp;intro _
   refine Dz (E:=Bd) (xs:=[f]) (Ma f) ?_ (by simp)
   refine L0 ⟨n,[f],e.Ai+6⟩ ?_
   refine dk ?_
   refine dO 15 (by kernel_rfl) (by rw [List.getElem?_toArray];rfl) ?_
   refine Abb Ou ⟨n,[f],e.Ai+6⟩ rfl fun a3 c3 F3=>?_
   refine dk ?_
   refine dt 16 ?_
   refine dt 17 ?_
   refine dO 18 (by kernel_rfl) (by rw [List.getElem?_toArray];rfl) ?_
   apply Cu;rfl;rfl;rfl;(first|exact AggC.s|exact OneC.s);rfl;exact Cw;exact Cv;rfl
   refine Mg ?_
   refine dd ?_
   refine go ?_;intros
   refine ret (_,_,_) trivial rfl
  ·rw [Vs e2 (by omega)]
   refine go ?_;intros
   refine ret (_,_,_) trivial rfl
theorem Ajr {e:Bt} {n:Int} {l:List Int} (h:Jw e n < e.Ah.length):Pt e n l=e.Ah[Jw e n].Bj.filter fun f=>decide (f∈l):=by unfold Pt;rw [List.getElem?_eq_getElem h]
theorem Amn {e:Bt} {n:Int} {l:List Int} (h:e.Ah[Jw e n]?=none):Pt e n l=if e.Ah.length=5 then l else []:=by unfold Pt;rw [h]
theorem Aie (x:Int) (gb:Nat) (l:List Int) (a:Option Addr) (c:Nat) (F:List Nat):Fn prog 233 [.int .i64 x,Eu gb 0 0] [.cel gb 0 [.slice a l.length c],.sl Bd (.slice a l.length c) l F] [] (fun (_:Unit)=>True) (fun _=>.bool (!decide (x∈l))) (fun _=>[]):=by
 refine enter func233 rfl ntmps233 fun w0=>?_
 refine go ?_;intros
 refine cf (Ajk l x _ _ F) fun _ _=>?_
 refine Ar ?_
 refine go ?_;intros
 refine ret () trivial ?_
 rw [decide_not];rfl
structure Ar8 where
 a:Option Addr
 c:Nat
 F:List Nat
 a2:Option Addr
 c2:Nat
 F2:List Nat
theorem Agr (e:Bt) (n:Int) (below:List Int) (g t o:Nat) (A B:List Value) (a:Option Addr) (c:Nat) (F:List Nat) (a0:Option Addr) (c0:Nat) (F0:List Nat) (hl:e.Ah.length≤1000000) (hf:∀x∈e.Ah,x.Bj.length≤1000000) (hb:below.length≤1000000) :
  Fn prog 196 [Eu g o 0,.int .i64 n,.slice a0 below.length c0] [.sl Bd (.slice a0 below.length c0) below F0] [.row g t o A [.int .i64 e.Ai,.slice a e.Ah.length c] B,.ow D5 139 (.slice a e.Ah.length c) e.Ah F] (fun (_:Ar8)=>True) (fun s=>.slice s.a2 (Pt e n below).length s.c2) (fun s=>[.row g t o A [.int .i64 (Mm e n).Ai,.slice s.a (Mm e n).Ah.length s.c] B,.ow D5 139 (.slice s.a (Mm e n).Ah.length s.c) (Mm e n).Ah s.F,.ow Bd 3 (.slice s.a2 (Pt e n below).length s.c2) (Pt e n below) s.F2]):=by
 refine enter func196 rfl ntmps196 fun w0=>?_
 refine go ?_;intros
 rename_i gb
 refine cb (fun w st=>by
  obtain ⟨F', -,hs⟩:=(st.get (p:=.ow D5 139 (.slice a e.Ah.length c) e.Ah F) (by simp)).2.sl Na
  exact (Afu e n _ F').val w (H9 ⟨_,rfl,_,rfl,hs⟩)) ?_
 refine Ab4 (cs:=[.slice a0 below.length c0]) ?_ (by simp)
 rcases Pv e n with ⟨h,e1,e2,e3⟩|⟨e1,e2,e3,e4⟩
 ·rw [e1,Yu h,Ajr h]
  have hfx:=hf e.Ah[Jw e n] (List.getElem_mem h)
  refine go ?_;intros
  refine Vx Ou rfl fun ys Fy Gy hyl hym=>?_
  generalize Jw e n=i at *
  generalize hx:e.Ah[i]=x at *
  refine Alk i h hyl hym fun G1 Gi G2=>?_
  rw [hx]
  refine Ts ?_
  rintro a5 c5 F5 ev l5
  have hyi:ys[i]=[.int .i64 x.Ad,.slice a5 x.Bj.length c5,.int .i64 x.Cf]:=by simpa using ev
  refine Nl (m:=3) (E9 3) i ?_ (by repeat (first|exact .here|apply C1.there)) rfl (by omega)
  rintro _ g2 A2 cs B2 rfl rfl hr hH
  obtain ⟨rfl, -⟩:=hr w0
  rw [hyi]
  refine go ?_;intros
  refine cf (Aca 233 [] [Eu gb 0 0] [.cel gb 0 [.slice a0 below.length c0],.sl Bd (.slice a0 below.length c0) below F0] rfl x.Bj a5 c5 F5 (fun z=>!decide (z∈below)) (by kernel_rfl) (by omega) (fun z _ w hA=>(Aie z gb below a0 c0 F0).val w hA)) fun z _=>?_
  refine Ar ?_
  have e9:(x.Bj.filter fun z=>!!decide (z∈below))=x.Bj.filter fun z=>decide (z∈below):=by simp only [Bool.not_not]
  rw [e9]
  rw [←hyi]
  refine Mr ys[i] hH hr ?_
  rw [List.set_getElem_self]
  refine go ?_;intros
  refine cf (Aox ys e.Ah.length i _ _ _ _ hyl.symm (by omega) rfl (by omega)) fun q _=>?_
  refine Ar ?_
  refine go ?_;intros
  refine Agk (E:=D5) ?_
  refine Ali (E:=D5) (m:=3) (ys:=ys.take i++ys.drop (i+1)) (cs:=(ys.take i).flatten++(ys.drop (i+1)).flatten) (xs:=e.Ah.take i++e.Ah.drop (i+1)) ?_ rfl (by simp) (by simp [hyl])
  rw [show (ys.take i++ys.drop (i+1)).length=(e.Ah.take i++e.Ah.drop (i+1)).length by simp [hyl]]
  refine ret ⟨_,_,_,_,_,_⟩ trivial rfl
 ·rw [e1,Aby e2,Amn e2]
  refine go ?_;intros
  refine Bf rfl (fun h5=>?_) (fun h5=>?_)
  ·rw [if_pos (by omega)]
   refine go ?_;intros
   refine cn (fun w st=>Po _ below F0 w (st.get (p:=.sl Bd (.slice a0 below.length c0) below F0) (by simp)).2 (by omega)) fun a6 c6 F6=>?_
   refine go ?_;intros
   refine ret ⟨_,_,_,_,_,_⟩ trivial rfl
  ·rw [if_neg (by omega)]
   refine Bx Bd 3 ?_
   refine go ?_;intros
   refine ret ⟨_,_,_,_,_,_⟩ trivial rfl
theorem Pg (t:Mu) (v:Value) (F:List Nat):Fn prog 24 [v] [.isv O5 v t F] [] (fun (_:Unit)=>True) (fun _=>.bool (El t)) (fun _=>[]):=by
 refine enter func24 rfl ntmps24 fun w0=>?_
 refine No ?_
 rintro a1 c1 F1 rfl l1
 unfold maxLen at l1
 refine go ?_;intros
 refine H2 [1,2,6,7] (fun k:Nat=>[(8,.int .i64 (k:Nat))]) (fun k=>k≤t.Ac.length∧∀j,j < k→Wn t.Ac j=true) (fun k=>t.Ac.length - k) 0 ⟨Nat.zero_le _,fun j h=>by omega⟩ fun k hk=>?_
 obtain ⟨hk1,hk2⟩:=hk
 refine go ?_;intros
 refine Bf rfl (fun h1=>?_) (fun h1=>?_)
 ·have hh:k < t.Ac.length:=by omega
  refine Je (xs:=t.Ac) k ?_
  rintro hi b o e1
  rw [e1]
  refine go ?_;intros
  refine Ee rfl rfl (fun h2=>?_) (fun h2=>?_)
  ·obtain rfl:k=0:=by omega
   refine go ?_;intros
   refine Ee rfl rfl (fun h3=>?_) (fun h3=>?_)
   ·refine go ?_;intros
    rw [Uh hh (by rw [M6 hh];exact decide_eq_false h3)]
    refine ret () trivial rfl
   ·refine go ?_;intros
    refine Ct 1 ⟨hh,fun j hj=>by obtain rfl:j=0:=(by omega);rw [M6 hh];exact decide_eq_true (by omega)⟩ (by show t.Ac.length - 1 < t.Ac.length - 0;omega)
  ·refine go ?_;intros
   refine Ee rfl rfl (fun h3=>?_) (fun h3=>?_)
   ·refine go ?_;intros
    refine ce (fun w s=>Hz _ _ _ w) ?_
    cases g:Hq 0 t.Ac[k] ((k:Int) - 1)
    ·refine go ?_;intros
     rw [Uh hh (by rw [Og hh (by omega)];exact g)]
     refine ret () trivial rfl
    ·refine go ?_;intros
     refine Ct (k+1) ⟨hh,fun j hj=>?_⟩ (by show t.Ac.length - (k+1) < t.Ac.length - k;omega)
     rcases Nat.lt_or_eq_of_le (Nat.lt_succ_iff.1 hj) with h|rfl
     ·exact hk2 j h
     ·rw [Og hh (by omega)];exact g
   ·exact absurd h3 (by omega)
 ·obtain rfl:k=t.Ac.length:=by omega
  refine go ?_;intros
  refine ce (fun w s=>Hz _ _ _ w) ?_
  refine go ?_;intros
  refine ret () trivial ?_
  unfold El
  rw [Jt hk2,Bool.and_true];rfl
theorem Adf (t:Mu) (v:Value) (F:List Nat):Fn prog 27 [v] [.isv O5 v t F] [] (fun (_:Unit)=>True) (fun _=>.bool (El t)) (fun _=>[]):=by
 refine enter func27 rfl ntmps27 fun w0=>?_
 refine No ?_
 rintro a1 c1 F1 rfl l1
 unfold maxLen at l1
 refine go ?_;intros
 refine ce (fun w s=>Qr _ _ _ w) ?_
 cases g0:Hq 2 (t.Ac.length:Int) 8
 ·rw [Ag9 g0]
  refine go ?_;intros
  refine ret () trivial rfl
 have hb:2≤t.Ac.length∧t.Ac.length≤8:=by
  unfold Hq at g0
  simp only [Bool.and_eq_true,decide_eq_true_eq] at g0
  omega
 have h0:0 < t.Ac.length:=by omega
 refine Je (xs:=t.Ac) 0 ?_
 rintro hi b o e1
 rw [e1]
 refine go ?_;intros
 refine Bf rfl (fun h2=>?_) (fun h2=>?_)
 ·refine go ?_;intros
  rw [Uh h0 (by rw [M6 h0];exact decide_eq_false h2)]
  refine ret () trivial rfl
 refine go ?_;intros
 refine H2 [1,2,3] (fun k:Nat=>[(4,.int .i64 ((k+1:Nat):Int))]) (fun k=>k+1≤t.Ac.length∧∀j,j < k+1→Wn t.Ac j=true) (fun k=>t.Ac.length - k) 0 ⟨by omega,fun j h=>by obtain rfl:j=0:=(by omega);rw [M6 h0];exact decide_eq_true (by omega)⟩ fun k hk=>?_
 obtain ⟨hk1,hk2⟩:=hk
 refine go ?_;intros
 refine Bf rfl (fun h1=>?_) (fun h1=>?_)
 ·have hh:k+1 < t.Ac.length:=by omega
  refine Je (a:=some ⟨b,o,none⟩) (xs:=t.Ac) (k+1) ?_
  rintro hi2 _ _ e2
  cases e2
  refine go ?_;intros
  refine ce (fun w s=>Qr _ _ _ w) ?_
  cases g:Hq 0 t.Ac[k+1] (((k+1:Nat):Int) - 1)
  ·refine go ?_;intros
   rw [Uh hh (by rw [Og hh (by omega)];exact g)]
   refine ret () trivial rfl
  ·refine go ?_;intros
   refine Ct (k+1) ⟨hh,fun j hj=>?_⟩ (by show t.Ac.length - (k+1) < t.Ac.length - k;omega)
   rcases Nat.lt_or_eq_of_le (Nat.lt_succ_iff.1 hj) with h|rfl
   ·exact hk2 j h
   ·rw [Og hh (by omega)];exact g
 ·have hk:k+1=t.Ac.length:=by omega
  refine go ?_;intros
  refine ret () trivial ?_
  unfold El
  rw [g0,Jt (fun j hj=>hk2 j (by omega))];rfl
structure KiS where
 k:Nat
 a:Option Addr
 c:Nat
 F:List Nat
theorem Mj (t:Mu) (node:Int) (v:Value) (F:List Nat) (hz:Ib t.Ac node 1=[]) (hl:1≤t.Ac.length∧t.Ac.length≤1000000):Fn prog 92 [v,.int .i64 node] [.isv O5 v t F] [] (fun (_:KiS)=>True) (fun z=>.slice z.a (Fv t.Ac node).length z.c) (fun z=>[.ow Bd 3 (.slice z.a (Fv t.Ac node).length z.c) (Fv t.Ac node) z.F]):=by
 refine enter func92 rfl ntmps92 fun w0=>?_
 refine No ?_
 rintro a1 c1 F1 rfl l1
 unfold maxLen at l1
 refine go ?_;intros
 refine C6 Bd ?_
 refine Ck [1,2,4] (fun z:KiS=>[(5,.slice z.a (O8 t.Ac node z.k).length z.c),(6,.int .i64 ((z.k+1:Nat):Int))]) (fun z=>[.ow Bd 3 (.slice z.a (O8 t.Ac node z.k).length z.c) (O8 t.Ac node z.k) z.F]) (fun z=>z.k+1≤t.Ac.length) (fun z=>t.Ac.length - z.k) ⟨0,_,_,_⟩ hl.1 fun z hz2=>?_
 have hkl:=Aai t.Ac node z.k
 have hl2:=hl.2
 refine go ?_;intros
 refine Bf rfl (fun h1=>?_) (fun h1=>?_)
 ·have hh:z.k+1 < t.Ac.length:=by omega
  refine Je (xs:=t.Ac) (z.k+1) ?_
  rintro hi b o e1
  rw [e1]
  refine go ?_;intros
  refine Bf rfl (fun h2=>?_) (fun h2=>?_)
  ·refine Kx ?_;intros
   apply wO
   refine Lh (Ma _) Db fun a9 c9 F9=>?_
   refine go ?_;intros
   rw [←Ahn hh h2]
   refine Ct ⟨z.k+1,a9,c9,F9⟩ (by show z.k+1+1≤t.Ac.length;omega) (by show t.Ac.length - (z.k+1) < t.Ac.length - z.k;omega)
  ·rw [←Aj3 hh h2]
   refine go ?_;intros
   refine Ct ⟨z.k+1,z.a,z.c,z.F⟩ (by show z.k+1+1≤t.Ac.length;omega) (by show t.Ac.length - (z.k+1) < t.Ac.length - z.k;omega)
 ·have hk:z.k+1=t.Ac.length:=by omega
  rw [Aah hz hk]
  refine go ?_;intros
  refine ret z trivial rfl
theorem Yg (t:Mu) (node:Int) (v:Value) (F:List Nat):Fn prog 81 [v,.int .i64 node] [.isv O5 v t F] [] (fun (_:Unit)=>True) (fun _=>.bool (Hw t.Ac node)) (fun _=>[]):=by
 refine enter func81 rfl ntmps81 fun w0=>?_
 refine No ?_
 rintro a1 c1 F1 rfl l1
 refine go ?_;intros
 refine cf (Ajk t.Ac node _ _ F1) fun _ _=>?_
 refine Ar ?_
 refine go ?_;intros
 refine ret () trivial ?_
 unfold Hw
 rw [←decide_not];rfl
theorem Aam (t:Mu) (node:Int) (v:Value) (F:List Nat) (hg:Mw t.Ac) (h0:0 < node):Fn prog 149 [v,.int .i64 node] [.isv O5 v t F] [] (fun (_:Unit)=>True) (fun _=>.bool (Hw t.Ac node)) (fun _=>[]):=by
 refine enter func149 rfl ntmps149 fun w0=>?_
 refine No ?_
 rintro a1 c1 F1 rfl l1
 refine go ?_;intros
 refine Ee rfl rfl (fun h1=>?_) (fun h1=>?_)
 ·refine go ?_;intros
  refine cf (Mj t node _ F (Od hg.z (by omega)) (by have:=hg.n0;have:=hg.n1;omega)) fun q _=>?_
  refine Ar ?_
  refine go ?_;intros
  refine ret () trivial ?_
  rw [Ahz]
  by_cases hk:Fv t.Ac node=[]
  ·rw [hk];rfl
  ·rw [decide_eq_false hk,decide_eq_false fun e=>hk (List.length_eq_zero_iff.1 (by omega))];rfl
 ·exact absurd h0 h1
theorem Acz {e:Bt} (h:Bw e=true) {x:Fa} (hx:x∈e.Ah):x.Bj.Pairwise (· < ·):=by
 unfold Bw at h
 simp only [Bool.and_eq_true] at h
 obtain ⟨i,hi,rfl⟩:=List.getElem_of_mem hx
 have:=Ht h.2 i hi
 rw [Lr hi] at this
 simp only [Lw,Bool.and_eq_true] at this
 exact (Vt this.1.2.2.1).1
theorem Af1 {e:Bt} {n:Int} {l:List Int} (h:Bw e=true) (h2:Pm 1 7 l=true):Ue e n l=Pt e n l:=by
 unfold Ue Pt
 cases hx:e.Ah[Jw e n]? with
 | none=>rfl
 | some x=>exact (Ac0 (Acz h (List.mem_of_getElem? hx)) (Vt h2).1).symm
end Go.Proofs.YtbmlecejkacpnaaGreatDoor
namespace Go.Proofs.YtbmlecejkacpnaaGreatDoor

open Go.RowKit
open Go.RowKit
end Go.Proofs.YtbmlecejkacpnaaGreatDoor
namespace Go.Proofs.YtbmlecejkacpnaaGreatDoor
open Go.RowKit
theorem Akr (l:List Int) (n:Int):(Nx l n).length≤l.length+1:=by
 unfold Nx
 split
 ·omega
 ·simp only [List.length_append,List.length_take,List.length_cons,List.length_drop];omega
theorem Ey {e:Bt}:Bw e=true↔Ix e.Ai=true∧e.Ah.length≤5∧(∀x∈e.Ah,Lw e.Ai x=true)∧e.Ah.Pairwise fun a b=>a.Ad≠b.Ad:=by
 unfold Bw
 simp only [Bool.and_eq_true,decide_eq_true_eq]
 constructor
 ·rintro ⟨⟨h1,h2⟩,h3⟩
  refine ⟨h1,h2,fun x hx=>?_,List.pairwise_iff_getElem.2 fun i j hi hj hij=>?_⟩
  ·obtain ⟨i,hi,rfl⟩:=List.getElem_of_mem hx
   have:=Ht h3 i hi
   rw [Lr hi,Bool.and_eq_true] at this
   exact this.1
  ·have:=Ht h3 j hj
   rw [Lr hj,Bool.and_eq_true,Bool.not_eq_true',List.any_eq_false] at this
   have:=this.2 e.Ah[i] (List.mem_take_iff_getElem.2 ⟨i,by omega,rfl⟩)
   simpa using this
 ·rintro ⟨h1,h2,h3,h4⟩
  refine ⟨⟨h1,h2⟩,Jt fun i hi=>?_⟩
  rw [Lr hi,h3 _ (List.getElem_mem hi),Bool.true_and,Bool.not_eq_true',List.any_eq_false]
  intro x hx
  obtain ⟨j,hj,rfl⟩:=List.mem_take_iff_getElem.1 hx
  have:=List.pairwise_iff_getElem.1 h4 j i (by omega) hi (by omega)
  simpa using this
theorem L9 {c:Int} {x:Fa}:Lw c x=true↔Ca x.Ad=true∧0 < x.Bj.length∧(x.Bj.Pairwise (· < ·)∧∀z∈x.Bj,1≤z∧z≤7)∧c+1≤x.Cf∧x.Cf≤c+6:=by
 unfold Lw Hq
 simp only [Bool.and_eq_true,decide_eq_true_eq]
 exact ⟨fun ⟨a,b,c,d⟩=>⟨a,b,Vt c,d⟩,fun ⟨a,b,c,d⟩=>⟨a,b,Aax c.1 c.2,d⟩⟩
theorem Ads (l:List Int) (n:Int):(∀j (_:j < Ip l n) (h:j < l.length),l[j] < n)∧∀h:Ip l n < l.length,¬l[Ip l n] < n:=by
 have:=Ng (p:=fun x=>decide (x < n)) (xs:=l)
 exact ⟨fun j hj h=>of_decide_eq_true (this.2.1 j hj h),fun h=>of_decide_eq_false (this.2.2 h)⟩
theorem Adu {l:List Int} {n x:Int}:x∈Nx l n↔x=n∨x∈l:=by
 unfold Nx
 split
 ·rename_i h
  have:=List.mem_of_getElem? h
  exact ⟨fun h=>.inr h,fun h=>by rcases h with rfl|h;exact this;exact h⟩
 ·rw [List.mem_append,List.mem_cons]
  constructor
  ·rintro (h|h|h)
   ·exact .inr (List.mem_of_mem_take h)
   ·exact .inl h
   ·exact .inr (List.mem_of_mem_drop h)
  ·rintro (h|h)
   ·exact .inr (.inl h)
   ·rw [←List.take_append_drop (Ip l n) l,List.mem_append] at h
    rcases h with h|h
    ·exact .inl h
    ·exact .inr (.inr h)
theorem Anf {l:List Int} {n:Int} (h:l.Pairwise (· < ·)):(Nx l n).Pairwise (· < ·):=by
 obtain ⟨s1,s2⟩:=Ads l n
 have hp:=List.pairwise_iff_getElem.1 h
 unfold Nx
 split
 ·exact h
 ·rename_i hne
  refine List.pairwise_append.2 ⟨h.sublist (List.take_sublist _ _),List.pairwise_cons.2 ⟨fun z hz=>?_,h.sublist (List.drop_sublist _ _)⟩,fun a ha b hb=>?_⟩
  ·obtain ⟨j,hj,rfl⟩:=List.mem_drop_iff_getElem.1 hz
   have hk:Ip l n < l.length:=by omega
   have h1:=s2 hk
   have h2:l[Ip l n]≠n:=fun e=>hne (by rw [List.getElem?_eq_getElem hk,e])
   rcases Nat.eq_zero_or_pos j with rfl|hj0
   ·simp only [Nat.add_zero];omega
   ·have:=hp (Ip l n) (Ip l n+j) hk (by omega) (by omega)
    omega
  ·obtain ⟨i,hi,rfl⟩:=List.mem_take_iff_getElem.1 ha
   have h1:=s1 i (by omega) (by omega)
   rcases List.mem_cons.1 hb with rfl|hb
   ·exact h1
   ·obtain ⟨j,hj,rfl⟩:=List.mem_drop_iff_getElem.1 hb
    exact hp i (Ip l n+j) (by omega) (by omega) (by omega)
theorem Kh {f:Int}:L6 f=true↔1≤f∧f≤7:=by unfold L6 Hq;simp
theorem Ahf {e:Bt} {n f:Int} (hg:Bw e=true) (hn:Ca n=true) (hf:L6 f=true):Bw (Ks e n f)=true:=by
 obtain ⟨h1,h2,h3,h4⟩:=Ey.1 hg
 obtain ⟨f1,f2⟩:=Kh.1 hf
 rcases Pv e n with ⟨h, -,e2, -⟩|⟨-,e2, -,e4⟩
 ·rw [Yy h]
  have hx:=L9.1 (h3 _ (List.getElem_mem h))
  refine Ey.2 ⟨h1,by simpa using h2,fun x hx'=>?_,?_⟩
  ·rcases List.mem_or_eq_of_mem_set hx' with h'|rfl
   ·exact h3 x h'
   ·refine L9.2 ⟨hx.1,?_,⟨Anf hx.2.2.1.1,fun z hz=>?_⟩,hx.2.2.2⟩
    ·exact List.length_pos_of_mem (Adu.2 (.inl rfl))
    ·rcases Adu.1 hz with rfl|hz
     ·exact ⟨f1,f2⟩
     ·exact hx.2.2.1.2 z hz
  ·refine List.pairwise_iff_getElem.2 fun i j hi hj hij=>?_
   have hp:=List.pairwise_iff_getElem.1 h4 i j (by simpa using hi) (by simpa using hj) hij
   simp only [List.getElem_set]
   split <;> split <;> simp_all
 ·by_cases hl:e.Ah.length < 5
  ·rw [Yx e2 hl]
   refine Ey.2 ⟨h1,by simp;omega,fun x hx=>?_,?_⟩
   ·rcases List.mem_append.1 hx with h'|h'
    ·exact h3 x h'
    ·simp only [List.mem_cons,List.not_mem_nil,or_false] at h'
     subst h'
     exact L9.2 ⟨hn,by simp,⟨by simp,by simp [f1,f2]⟩,by show e.Ai+1≤e.Ai+6;omega,by show e.Ai+6≤e.Ai+6;omega⟩
   ·refine List.pairwise_append.2 ⟨h4,by simp,fun a ha b hb=>?_⟩
    simp only [List.mem_cons,List.not_mem_nil,or_false] at hb
    subst hb
    exact e4 a ha
  ·rw [Vs e2 hl];exact hg
theorem Ahe {e:Bt} {n:Int} (hg:Bw e=true):Bw (Mm e n)=true:=by
 obtain ⟨h1,h2,h3,h4⟩:=Ey.1 hg
 rcases Pv e n with ⟨h, -,e2, -⟩|⟨-,e2, -,e4⟩
 ·rw [Yu h]
  have hs:(e.Ah.take (Jw e n)++e.Ah.drop (Jw e n+1)).Sublist e.Ah:=by
   have:=List.Sublist.append (List.Sublist.refl (e.Ah.take (Jw e n))) (List.drop_sublist_drop_left e.Ah (Nat.le_succ (Jw e n)))
   rwa [List.take_append_drop] at this
  exact Ey.2 ⟨h1,Nat.le_trans hs.length_le h2,fun x hx=>h3 x (hs.subset hx),h4.sublist hs⟩
 ·rw [Aby e2];exact hg
theorem Ud {e:Bt} {n:Int} {l:List Int}:∀z∈Pt e n l,z∈l:=fun z hz=>by
 unfold Pt at hz
 split at hz
 ·have:=(List.mem_filter.1 hz).2;simpa using this
 ·split at hz
  ·exact hz
  ·simp at hz
theorem Afl {r:Bc} {d:Int} (hg:I9 r) (hk:r.Ai < 9999) (d0:1≤d) (d1:d≤8):Kq (Kc r d) r.Aa.next=true∧∀q∈Kc r d,H1 r.Aa q.Ad=false:=by
 have k0:=hg.k0
 obtain ⟨h1,h2,h3,h4⟩:=Dr.1 hg.q
 refine ⟨Dr.2 ⟨h1,Nat.le_trans (V2 r d) h2,fun q hq=>?_,?_⟩,fun q hq=>(Uv hg hq).2.2⟩
 ·obtain ⟨q',hq',h⟩:=List.mem_filterMap.1 hq
  have ho:=Ea.1 (h3 q' hq')
  unfold Pd at h
  split at h
  ·cases h;exact h3 q hq'
  ·split at h
   ·cases h
   ·rename_i hn
    have t0:=ho.t0
    have t1:=ho.t1
    split at h
    ·cases h
     exact Ea.2 ⟨ho.n,ho.g,by show (1:Int)≤2;decide,by show (2:Int)≤3;decide,by show 0≤r.Ai+1+3;omega,by show r.Ai+1+3≤10007;omega,by show 0≤q'.Du+1;omega,by show q'.Du+1≤3;omega⟩
    ·cases h
     exact Ea.2 ⟨ho.n,ho.g,by show (1:Int)≤1;decide,by show (1:Int)≤3;decide,by show 0≤r.Ai+1+d;omega,by show r.Ai+1+d≤10007;omega,t0,t1⟩
 ·unfold Kc
  refine List.Pairwise.filterMap _ (fun a a' h b hb b' hb'=>?_) h4
  rw [Xn hb,Xn hb'];exact h
theorem Aip {r:Bc} {d:Int} (hg:I9 r) (hk:r.Ai < 9999) (d0:1≤d) (d1:d≤8):I9 (Cj r d):=by
 have k0:=hg.k0
 obtain ⟨hq,hf⟩:=Afl hg hk d0 d1
 by_cases hL:Cp r=[]
 ·rw [Zc hL]
  refine ⟨by show 0≤r.Ai+1;omega,by show r.Ai+1≤9999;omega,hg.w,hq,hf,fun hs=>?_⟩
  obtain ⟨e1,e2⟩:=hg.z hs
  refine ⟨e1,?_⟩
  show Kc r d=[]
  unfold Kc;rw [e2];rfl
 ·have hst:r.Bg=true:=by
   cases hs:r.Bg
   ·exfalso;apply hL;unfold Cp;rw [(hg.z hs).2];rfl
   ·rfl
  rw [V0 hL]
  obtain ⟨e1, -,e3, -⟩:=Ot (t:=C5 (Cp r)) hg.w
  have hs8:=(Xf hg hL).1
  have hgp:=@Sn r.Aa.next (C5 (Cp r))
  have hw:Df (Gf r.Aa (C5 (Cp r)))=true:=Wa _ _ hg.w
  rw [←Ws hg hL]
  refine ⟨by show 0≤r.Ai+1;omega,by show r.Ai+1≤9999;omega,hw,Wj (m:=(E6 r.Aa (C5 (Cp r))).length) (by omega) hq hw e1,L8,fun hs=>?_⟩
  have:r.Bg=false:=hs
  rw [hst] at this;cases this
end Go.Proofs.YtbmlecejkacpnaaGreatDoor
namespace Go.Proofs.YtbmlecejkacpnaaGreatDoor

def Aee:Ch:=⟨⟨0,0,[]⟩,0,0,[]⟩
end Go.Proofs.YtbmlecejkacpnaaGreatDoor
namespace Go.Proofs.YtbmlecejkacpnaaGreatDoor
open Go.RowKit
structure Aa9 where
 a:Option Addr
 c:Nat
 a2:Option Addr
 c2:Nat
 F:List Nat
def Aec (x:Ch) (W:Ax):Ch:=⟨W,x.Ai,x.quiet,K9 W x.holds⟩
structure Aqz (x:Ch):Prop where
 w:Do x.Aa=true
 l:x.Aa.Aj.length≤6
 t0:0≤x.Aa.Ak
 t1:x.Aa.Ak≤65535
 k0:0≤x.Ai
 k1:x.Ai≤9999
 m:x.holds.length≤6
 n:∀h∈x.holds,Ca h.Ad=true
 u:∀h∈x.holds,x.Ai+1≤h.Cf
 b:∀h∈x.holds,h.Cf≤x.Ai+3
theorem Mi {x:Ch} (h:Cd x=true):Aqz x:=by
 unfold Cd at h
 simp only [Bool.and_eq_true] at h
 obtain ⟨⟨⟨h1,h2⟩,h3⟩,h4⟩:=h
 obtain ⟨⟨t0,t1⟩,⟨s0,s1⟩,s2, -⟩:=Dw.1 h1
 obtain ⟨k0,k1⟩:=Abe h2
 have hc:∀h∈x.holds,Ca h.Ad=true∧x.Ai+1≤h.Cf∧h.Cf≤x.Ai+3:=fun h hh=>by
  obtain ⟨i,hi,rfl⟩:=List.getElem_of_mem hh
  have:=List.all_eq_true.1 h4 i (by simpa using hi)
  rw [Mf hi] at this
  simp only [Bool.and_eq_true,Hq,decide_eq_true_eq] at this
  exact ⟨this.1.1.1,this.1.2.1,this.1.2.2⟩
 have hg:∀i,(hi:i < x.holds.length)→(i:Int)≤gp x.Aa.Ak x.holds[i].Ad∧gp x.Aa.Ak x.holds[i].Ad < 6:=by
  intro i
  induction i with
  | zero =>
   intro hi
   have:=List.all_eq_true.1 h4 0 (by simpa using hi)
   rw [Mf hi] at this
   simp only [Bool.and_eq_true,Gw,decide_eq_true_eq] at this
   have b:=In x.Aa.Ak x.holds[0].Ad
   exact ⟨by omega,by have:=this.1.1.2;omega⟩
  | succ i ih =>
   intro hi
   have p:=ih (by omega)
   have:=List.all_eq_true.1 h4 (i+1) (by simpa using hi)
   rw [Mf hi] at this
   simp only [Bool.and_eq_true,Gw,decide_eq_true_eq,Bool.or_eq_true,Bool.not_eq_true',decide_eq_false_iff_not] at this
   have q:=this.2
   have q2:=this.1.1.2
   simp only [Nat.add_sub_cancel] at q
   rcases q with q|q
   ·omega
   ·exact ⟨by omega,by omega⟩
 have hm:x.holds.length≤6:=by
  by_cases h0:x.holds.length≤6
  ·exact h0
  ·have:=hg 6 (by omega);omega
 exact ⟨h1,by omega,t0,t1,k0,k1,hm,fun h hh=>(hc h hh).1,fun h hh=>(hc h hh).2.1,fun h hh=>(hc h hh).2.2⟩
def Ta (hs:List G0):Prop:=∀h∈hs, -1≤h.Ad∧h.Ad≤65536
theorem Xo {hs:List G0} (hn:∀h∈hs,Ca h.Ad=true):Ta hs:=fun h hh=>by have:=Ba.1 (hn h hh);omega
def Fm (W:Ax) (cl:Int) (hs:List G0):List G0:=hs.filter fun h=>Gw W h.Ad && decide (cl < h.Cf)
theorem Rt {W:Ax} {cl:Int} {hs:List G0} (h:∀z∈hs,cl+1≤z.Cf):Fm W cl hs=K9 W hs:=by
 unfold Fm K9
 refine List.filter_congr fun z hz=>?_
 rw [decide_eq_true (show cl < z.Cf by have:=h z hz;omega),Bool.and_true]
theorem Ak0 (h:G0) (w:World):Cq Bh w [.int .i64 h.Ad,.int .i64 h.Cf] [h] []:=⟨_,[],[],[],by simp,by simp,⟨rfl,rfl⟩,rfl,rfl⟩
structure HoS where
 k:Nat
 a:Option Addr
 c:Nat
 F:List Nat
theorem Wf (W:Ax) (hs:List G0) (cl:Int) (v:Value) (a2:Option Addr) (c2:Nat) (F G:List Nat) (t0:0≤W.Ak) (t1:W.Ak≤65535) (hl:hs.length≤1000) (hn:Ta hs) :
  Fn prog 169 [.slice a2 hs.length c2,v,.int .i64 cl] [.isv B4 v W F,.sl Bh (.slice a2 hs.length c2) hs G] [] (fun (_:Option Addr × Nat × List Nat)=>True)
   (fun z=>.slice z.1 (Fm W cl hs).length z.2.1) (fun z=>[.ow Bh 137 (.slice z.1 (Fm W cl hs).length z.2.1) (Fm W cl hs) z.2.2]):=by
 refine enter func169 rfl ntmps169 fun w0=>?_
 refine Es ?_
 rintro a1 c1 F1 rfl l1
 refine go ?_;intros
 refine C6 Bh ?_
 refine Ck [0,2,4,6] (fun s:HoS=>[(7,.slice s.a (Fm W cl (hs.take s.k)).length s.c),(8,.int .i64 s.k)]) (fun s=>[.ow Bh 137 (.slice s.a (Fm W cl (hs.take s.k)).length s.c) (Fm W cl (hs.take s.k)) s.F]) (fun s=>s.k≤hs.length) (fun s=>hs.length - s.k) ⟨0,_,0,_⟩ (Nat.zero_le _) fun s hk=>?_
 obtain ⟨k,a5,c5,F5⟩:=s
 dsimp only at hk ⊢
 refine go ?_;intros
 refine Bf rfl (fun h3=>?_) (fun h3=>?_)
 ·have hk3:k < hs.length:=by omega
  obtain ⟨n0,n1⟩:=hn hs[k] (List.getElem_mem hk3)
  have hkl:(Fm W cl (hs.take k)).length≤1000:=by have:=List.length_filter_le (fun h:G0=>Gw W h.Ad && decide (cl < h.Cf)) (hs.take k);unfold Fm;simp only [List.length_take] at this;omega
  refine Rk (xs:=hs) k ?_
  rintro hi b o e
  rw [e]
  cases g5:Gw W hs[k].Ad
  ·refine Kx ?_;intros
   refine Aw [0,2] [] ?_
   refine dt 0 ?_
   refine dt 1 ?_
   refine dt 2 ?_
   refine dt 3 ?_
   refine dt 4 ?_
   refine dt 5 ?_
   refine dO 6 (by kernel_rfl) (by rw [List.getElem?_toArray];rfl) ?_
   apply At;rfl;kernel_rfl;exact Be
   refine cb (fun w st=>(Si W hs[k].Ad _ _ t0 t1 n0 n1).val w (H9 (st.get (p:=.isv B4 (.agg #[.int .i64 W.Ak,.int .i64 W.size,.slice a1 W.Aj.length c1]) W F) (by simp)))) ?_
   rw [g5]
   refine dk ?_
   refine dt 7 ?_
   refine ds 8 ?_
   refine ds 9 ?_
   refine ds 10 ?_
   refine ds 11 ?_
   refine ds 12 ?_
   refine ds 13 ?_
   refine ds 14 ?_
   refine dt 15 ?_
   refine dd ?_
   refine go ?_;intros
   have hf:Fm W cl (hs.take (k+1))=Fm W cl (hs.take k):=Cz hk3 (by rw [g5];rfl)
   rw [←hf]
   refine Ct ⟨k+1,a5,c5,F5⟩ hk3 (by show hs.length - (k+1) < _;omega)
  ·refine Kx ?_;intros
   refine Aw [0,2] [] ?_
   refine dt 0 ?_
   refine dt 1 ?_
   refine dt 2 ?_
   refine dt 3 ?_
   refine dt 4 ?_
   refine dt 5 ?_
   refine dO 6 (by kernel_rfl) (by rw [List.getElem?_toArray];rfl) ?_
   apply At;rfl;kernel_rfl;exact Be
   refine cb (fun w st=>(Si W hs[k].Ad _ _ t0 t1 n0 n1).val w (H9 (st.get (p:=.isv B4 (.agg #[.int .i64 W.Ak,.int .i64 W.size,.slice a1 W.Aj.length c1]) W F) (by simp)))) ?_
   rw [g5]
   refine dk ?_
   refine dt 7 ?_
   refine En 8 ?_
   refine En 9 ?_
   refine En 10 ?_
   refine En 11 ?_
   refine En 12 ?_
   refine En 13 ?_
   refine En 14 ?_
   refine dt 15 ?_
   refine dd ?_
   refine go ?_;intros
   refine Bf rfl (fun h5=>?_) (fun h5=>?_)
   ·refine go ?_;intros
    apply wO
    refine Lh (Ak0 hs[k]) Hl fun a6 c6 F6=>?_
    have hf:Fm W cl (hs.take (k+1))=Fm W cl (hs.take k)++[hs[k]]:=Et hk3 (by rw [g5,decide_eq_true h5];rfl)
    rw [←hf]
    refine go ?_;intros
    refine Ct ⟨k+1,a6,c6,F6⟩ hk3 (by show hs.length - (k+1) < _;omega)
   ·refine go ?_;intros
    have hf:Fm W cl (hs.take (k+1))=Fm W cl (hs.take k):=Cz hk3 (by rw [g5,decide_eq_false h5];rfl)
    rw [←hf]
    refine Ct ⟨k+1,a5,c5,F5⟩ hk3 (by show hs.length - (k+1) < _;omega)
 ·have hkl:k=hs.length:=by omega
  subst hkl
  rw [List.take_length]
  refine go ?_;intros
  refine ret (a5,c5,F5) trivial rfl
def Sb (x:Ch) (W:Ax):Ch:=⟨W,x.Ai,x.quiet,Fm W x.Ai x.holds⟩
theorem Alx {x:Ch} {W:Ax} (h:∀z∈x.holds,x.Ai+1≤z.Cf):Sb x W=Aec x W:=by unfold Sb Aec;rw [Rt h]
theorem Oq (x:Ch) (W:Ax) (v vw:Value) (F Fw:List Nat) (y0:0≤W.Ak) (y1:W.Ak≤65535) (hl:x.holds.length≤1000) (hn:Ta x.holds) :
  Fn prog 150 [v,vw] [.isv Dn v x F,.isv B4 vw W Fw] [] (fun (_:Aa9)=>True) (fun s=>.agg #[.int .i64 W.Ak,.int .i64 W.size,.slice s.a W.Aj.length s.c,.int .i64 x.Ai,.int .i64 x.quiet,.slice s.a2 (Fm W x.Ai x.holds).length s.c2])
   (fun s=>[.isv Dn (.agg #[.int .i64 W.Ak,.int .i64 W.size,.slice s.a W.Aj.length s.c,.int .i64 x.Ai,.int .i64 x.quiet,.slice s.a2 (Fm W x.Ai x.holds).length s.c2]) (Sb x W) s.F]):=by
 refine enter func150 rfl ntmps150 fun w0=>?_
 refine Gj ?_
 rintro a1 c1 F1 a2 c2 F2 rfl l1 l2
 refine Es (x:=W) (F:=Fw) ?_
 rintro a3 c3 F3 rfl l3
 refine go ?_;intros
 refine Aw [1,2] [] ?_
 refine dt 0 ?_
 refine dt 1 ?_
 refine dt 2 ?_
 refine dt 3 ?_
 refine dt 4 ?_
 refine dt 5 ?_
 refine dt 6 ?_
 refine dt 7 ?_
 refine dt 8 ?_
 refine dt 9 ?_
 refine dO 10 (by kernel_rfl) (by rw [List.getElem?_toArray];rfl) ?_
 apply At;rfl;kernel_rfl;exact Be
 refine cf (Wf W x.holds x.Ai _ a2 c2 Fw F2 y0 y1 (by omega) hn) fun z _=>?_
 refine Ar ?_
 refine dk ?_
 refine dt 11 ?_
 refine dO 12 (by kernel_rfl) (by rw [List.getElem?_toArray];rfl) ?_
 apply Cu;rfl;rfl;rfl;(first|exact AggC.s|exact OneC.s);rfl;exact Cw;exact Cv;rfl
 refine dk ?_
 refine dd ?_
 refine go ?_;intros
 refine Ay (E:=Bh) fun F9=>?_
 refine D7 (Sb x W) ?_
 refine ret ⟨_,_,_,_,_⟩ trivial rfl
theorem Ahu (x:Ch) (W:Ax) (v vw:Value) (F Fw:List Nat) (y0:0≤W.Ak) (y1:W.Ak≤65535) (hl:x.holds.length≤1000) (hn:∀h∈x.holds,Ca h.Ad=true) (hu:∀h∈x.holds,x.Ai+1≤h.Cf) :
  Fn prog 150 [v,vw] [.isv Dn v x F,.isv B4 vw W Fw] [] (fun (_:Aa9)=>True) (fun s=>.agg #[.int .i64 W.Ak,.int .i64 W.size,.slice s.a W.Aj.length s.c,.int .i64 x.Ai,.int .i64 x.quiet,.slice s.a2 (K9 W x.holds).length s.c2])
   (fun s=>[.isv Dn (.agg #[.int .i64 W.Ak,.int .i64 W.size,.slice s.a W.Aj.length s.c,.int .i64 x.Ai,.int .i64 x.quiet,.slice s.a2 (K9 W x.holds).length s.c2]) (Aec x W) s.F]):=by
 have h:=Oq x W v vw F Fw y0 y1 hl (Xo hn)
 rw [Alx hu,Rt hu] at h
 exact h
end Go.Proofs.YtbmlecejkacpnaaGreatDoor
namespace Go.Proofs.YtbmlecejkacpnaaGreatDoor

open Go.RowKit Go.Shelf
end Go.Proofs.YtbmlecejkacpnaaGreatDoor
namespace Go.Proofs.YtbmlecejkacpnaaGreatDoor
open Go.RowKit
theorem O1.frame {α:Type} {E:Br α} {w w':World} {v x F} (h:O1 E w v x F) (hF:∀b∈F,w'.heap[b]?=w.heap[b]?):O1 E w' v x F:=by
 obtain ⟨cs,hv,h⟩:=h;exact ⟨cs,hv,E.frame h hF⟩
theorem Afw (t n:Int):Bn (Bn t 1) (n - 1)=Bn t n:=by unfold Bn;omega
def Cr (x:Ax):Ax:=if (x.Aj.length:Int)=x.size then ⟨Bn x.Ak 1,x.size,x.Aj.drop 1⟩ else x
def C8 (x:Ax) (s:ByteArray):Ax:=⟨(Cr x).Ak,x.size,(Cr x).Aj++[s]⟩
def Dg (x:Ax) (s:ByteArray):As:=⟨1,Bn x.Ak x.Aj.length,(Cr x).Ak,Bn (Cr x).Ak ((Cr x).Aj.length+1),s⟩
theorem Iu (t z:Int) (a:Option Addr) (n c:Nat) (w:World) (h0:0≤t) (h1:t≤65535) (hn:n≤4294967296) :
  Calls prog 54 #[.agg #[.int .i64 t,.int .i64 z,.slice a n c]] w fun e w'=>e=.returned (.int .i64 (Bn t n))∧Below w.heap.size w w':=by
 go_enter func54,ntmps54
 go_wp2_with fail
 refine (N3 _ _ _ (by omega) (by omega)).mono ?_
 rintro e w' ⟨rfl,rfl⟩
 go_wp2_with fail
 go_ret
 exact ⟨rfl,(Below.refl _ _).alloc (Nat.le_refl _) _⟩
theorem Rv (t z:Int) (a:Option Addr) (n c:Nat) (w:World) (h0:0≤t) (h1:t≤65535) (hn:n≤4294967296) :
  Calls prog 166 #[.agg #[.int .i64 t,.int .i64 z,.slice a n c]] w fun e w'=>e=.returned (.int .i64 (Bn t n))∧Below w.heap.size w w':=by
 go_enter func166,ntmps166
 go_wp2_with fail
 refine (Ez _ _ _ (by omega) (by omega)).mono ?_
 rintro e w' ⟨rfl,rfl⟩
 go_wp2_with fail
 go_ret
 exact ⟨rfl,(Below.refl _ _).alloc (Nat.le_refl _) _⟩
structure Ar3 where
 Aop:List ByteArray
 Aoi:ByteArray
 Ark:Int
end Go.Proofs.YtbmlecejkacpnaaGreatDoor
namespace Go.Proofs.YtbmlecejkacpnaaGreatDoor

open Go.RowKit Go.Shelf
end Go.Proofs.YtbmlecejkacpnaaGreatDoor
namespace Go.Proofs.YtbmlecejkacpnaaGreatDoor
open Go.RowKit
structure Asl (x:Ar3):Prop where
 l:x.Aop.length≤8
 q:∀s∈x.Aop,s.size≤60
 f:x.Aoi.size≤40
 u0:0≤x.Ark
 u1:x.Ark≤x.Aoi.size
end Go.Proofs.YtbmlecejkacpnaaGreatDoor
namespace Go.Proofs.YtbmlecejkacpnaaGreatDoor

open Go.RowKit Go.Shelf
end Go.Proofs.YtbmlecejkacpnaaGreatDoor
namespace Go.Proofs.YtbmlecejkacpnaaGreatDoor
open Go.RowKit
section
variable {c:Cx} {fr:Fr} {H:List Pc} {Φ:Gl}
end
end Go.Proofs.YtbmlecejkacpnaaGreatDoor
namespace Go.Proofs.YtbmlecejkacpnaaGreatDoor

open Go.RowKit
end Go.Proofs.YtbmlecejkacpnaaGreatDoor
namespace Go.Proofs.YtbmlecejkacpnaaGreatDoor
open Go.RowKit
structure PuS where
 a:Option Addr
 c:Nat
 F:List Nat
theorem M7 {x:Ax} (t0:0≤x.Ak) (t1:x.Ak≤65535):0≤(Cr x).Ak∧(Cr x).Ak≤65535:=by
 unfold Cr
 split
 ·exact Hj _ _
 ·exact ⟨t0,t1⟩
theorem Amb (x:Ax) (k:Nat) (g t o:Nat) (A B:List Value) (r1 r2 r3:Value) (a:Option Addr) (c:Nat) (F:List Nat) (hl:x.Aj.length≤6) (hk:k≤x.Aj.length) (t0:0≤x.Ak) (t1:x.Ak≤65535) :
  Fn prog 192 [Eu g o 0,.int .i64 (k:Nat)] [] [.row g t o A [.int .i64 x.Ak,.int .i64 x.size,.slice a x.Aj.length c,r1,r2,r3] B,.ow A9 9 (.slice a x.Aj.length c) x.Aj F] (fun (_:PuS)=>True) (fun _=>.tuple #[]) (fun z=>[.row g t o A [.int .i64 (Bn x.Ak k),.int .i64 x.size,.slice z.a (x.Aj.drop k).length z.c,r1,r2,r3] B,.ow A9 9 (.slice z.a (x.Aj.drop k).length z.c) (x.Aj.drop k) z.F]):=by
 refine enter func192 rfl ntmps192 fun w0=>?_
 refine Ay (E:=A9) (xs:=x.Aj) fun Fr=>?_
 refine go ?_;intros
 apply wO
 refine sld k fun a2 c2 F2=>?_
 refine go ?_;intros
 refine cn (fun w st=>T4 _ _ _ _ (st.get (p:=.sl A9 (.slice a2 (x.Aj.drop k).length c2) (x.Aj.drop k) F2) (by exact B8)).2 (by rw [List.length_drop];omega)) fun a6 c6 F6=>?_
 refine go ?_;intros
 refine ce (fun w st=>N3 x.Ak k w (by omega) (by omega)) ?_
 refine go ?_;intros
 refine Q4 ?_
 refine ret ⟨a6,c6,F6⟩ trivial rfl
theorem Apu (x:Ax) (s:ByteArray) (g t o:Nat) (A B:List Value) (r1 r2 r3:Value) (a:Option Addr) (c:Nat) (F:List Nat) (hl:x.Aj.length≤6) (ht:Ca x.Ak=true) (hs:s.size≤maxLen) (hz:1≤x.size) :
  Fn prog 131 [Eu g o 0,.string s] [] [.row g t o A [.int .i64 x.Ak,.int .i64 x.size,.slice a x.Aj.length c,r1,r2,r3] B,.ow A9 9 (.slice a x.Aj.length c) x.Aj F] (fun (_:PuS)=>True) (fun _=>.agg #[.int .i64 1,.int .i64 (Dg x s).Ad,.int .i64 (Dg x s).Ak,.int .i64 (Dg x s).D0,.string s])
   (fun z=>[.row g t o A [.int .i64 (C8 x s).Ak,.int .i64 (C8 x s).size,.slice z.a (C8 x s).Aj.length z.c,r1,r2,r3] B,.ow A9 9 (.slice z.a (C8 x s).Aj.length z.c) (C8 x s).Aj z.F]):=by
 obtain ⟨t0,t1⟩:=Ba.1 ht
 obtain ⟨R,hR⟩:∃R,Cr x=R:=⟨_,rfl⟩
 have hb:=M7 t0 t1
 have hRl:R.Aj.length≤6:=by
  rw [←hR];unfold Cr
  split
  ·show (x.Aj.drop 1).length≤6;rw [List.length_drop];omega
  ·exact hl
 have hnum:Bn R.Ak R.Aj.length=Bn x.Ak x.Aj.length:=by
  rw [←hR];unfold Cr
  split
  ·rename_i h
   show Bn (Bn x.Ak 1) ((x.Aj.drop 1).length:Nat)=_
   rw [List.length_drop,show ((x.Aj.length - 1:Nat):Int)=(x.Aj.length:Int) - 1 by omega,Afw]
  ·rfl
 rw [show C8 x s=⟨R.Ak,x.size,R.Aj++[s]⟩ by unfold C8;rw [hR],show Dg x s=⟨1,Bn x.Ak x.Aj.length,R.Ak,Bn R.Ak (R.Aj.length+1),s⟩ by unfold Dg;rw [hR]]
 dsimp only
 rw [hR] at hb
 refine enter func131 rfl ntmps131 fun w0=>?_
 refine go ?_;intros
 refine cb (fun w st=>Iu _ _ _ _ _ w t0 t1 (by omega)) ?_
 refine go ?_;intros
 refine Aw [1] [] ?_
 refine dt 0 ?_
 refine dt 1 ?_
 refine dt 2 ?_
 refine dt 3 ?_
 refine dt 4 ?_
 refine dt 5 ?_
 refine dt 6 ?_
 refine dt 7 ?_
 refine dt 8 ?_
 refine dt 9 ?_
 refine dd ?_
 refine go ?_;intros
 refine Gc [0,1,4,5] [0] (fun _:PuS=>[]) (fun z=>[.row g t o A [.int .i64 R.Ak,.int .i64 x.size,.slice z.a R.Aj.length z.c,r1,r2,r3] B,.ow A9 9 (.slice z.a R.Aj.length z.c) R.Aj z.F]) (fun _=>True) ?_ fun z _=>?_
 ·refine Bf rfl (fun h1=>?_) (fun h1=>?_)
  ·have e:R=⟨Bn x.Ak 1,x.size,x.Aj.drop 1⟩:=by rw [←hR];unfold Cr;rw [if_pos h1]
   rw [e]
   refine go ?_;intros
   refine cf (Amb x 1 g t o A B _ _ _ a c F hl (by omega) t0 t1) fun z _=>?_
   refine Ar ?_
   refine go ?_;intros
   refine Cm z trivial
  ·have e:R=x:=by rw [←hR];unfold Cr;rw [if_neg h1]
   rw [e]
   refine go ?_;intros
   refine Cm ⟨a,c,F⟩ trivial
 refine go ?_;intros
 apply wO
 refine Lh (E:=A9) (ys:=[s]) (fun w=>⟨[.string s],[],[],[],rfl,rfl,⟨rfl,hs,rfl⟩,rfl,rfl⟩) Dh fun a7 c7 F7=>?_
 have hla:((R.Aj++[s]).length:Int)=R.Aj.length+1:=by simp
 refine go ?_;intros
 dsimp only [List.append]
 refine Aw [1] [] ?_
 refine dt 0 ?_
 refine dt 1 ?_
 refine dt 2 ?_
 refine dt 3 ?_
 refine dt 4 ?_
 refine dt 5 ?_
 refine dt 6 ?_
 refine dt 7 ?_
 refine dt 9 ?_
 refine dO 8 (by kernel_rfl) (by rw [List.getElem?_toArray];rfl) ?_
 apply At;rfl;kernel_rfl;exact Be
 refine cb (fun w st=>Iu _ _ _ _ _ w hb.1 hb.2 (by omega)) ?_
 refine dk ?_
 refine dt 10 ?_
 refine dO 11 (by kernel_rfl) (by rw [List.getElem?_toArray];rfl) ?_
 apply Cu;rfl;rfl;rfl;(first|exact AggC.s|exact OneC.s);rfl;exact Cw;exact Cv;rfl
 refine dk ?_
 refine dd ?_
 refine go ?_;intros
 refine ret ⟨a7,c7,F7⟩ trivial ?_
 rw [hla];rfl
theorem Vj (x:Ax) (k:Nat) (v:Value) (F:List Nat) (hl:x.Aj.length≤4294967296) (hk:k≤x.Aj.length) (t0:0≤x.Ak) (t1:x.Ak≤65535) :
  Fn prog 151 [v,.int .i64 (k:Nat)] [.isv B4 v x F] [] (fun (_:PuS)=>True) (fun z=>.agg #[.int .i64 (Bn x.Ak k),.int .i64 x.size,.slice z.a (x.Aj.drop k).length z.c]) (fun z=>[.ow A9 9 (.slice z.a (x.Aj.drop k).length z.c) (x.Aj.drop k) z.F]):=by
 refine enter func151 rfl ntmps151 fun w0=>?_
 refine Es ?_
 rintro a1 c1 F1 rfl l1
 have hdk:(x.Aj.drop k).length=x.Aj.length - k:=List.length_drop
 refine go ?_;intros
 refine Aw [1,2] [] ?_
 refine dt 0 ?_
 refine dt 1 ?_
 refine dt 2 ?_
 refine dt 4 ?_
 refine dt 5 ?_
 refine dt 7 ?_
 refine dt 8 ?_
 refine dt 9 ?_
 refine Aes 10 k fun a5 c5 F5=>?_
 refine Ob 3 6 (by kernel_rfl) (by rw [List.getElem?_toArray];rfl) (by rw [List.getElem?_toArray];rfl) ?_ ?_
 ·apply At;rfl;kernel_rfl;exact Be
  refine ce (fun w st=>Ez x.Ak k w (by omega) (by omega)) ?_
  refine dk ?_
  refine dO 6 (by kernel_rfl) (by rw [List.getElem?_toArray];rfl) ?_
  apply Jk;rfl;intro _
  refine C6 A9 ?_
  refine dk ?_
  refine dO 11 (by kernel_rfl) (by rw [List.getElem?_toArray];rfl) ?_
  refine Ku (E:=A9) (xs:=[]) (ys:=x.Aj.drop k) Dh E4 fun a7 c7 F7=>?_
  rw [List.nil_append]
  refine dk ?_
  refine dt 12 ?_
  refine dO 13 (by kernel_rfl) (by rw [List.getElem?_toArray];rfl) ?_
  apply Cu;rfl;rfl;rfl;(first|exact AggC.s|exact OneC.s);rfl;exact Cw;exact Cv;rfl
  refine dk ?_
  refine dd ?_
  refine go ?_;intros
  refine ret ⟨a7,c7,F7⟩ trivial rfl
 ·apply Jk;rfl;intro _
  refine C6 A9 ?_
  refine dk ?_
  refine dO 3 (by kernel_rfl) (by rw [List.getElem?_toArray];rfl) ?_
  apply At;rfl;kernel_rfl;exact Be
  refine ce (fun w st=>Ez x.Ak k w (by omega) (by omega)) ?_
  refine dk ?_
  refine dO 11 (by kernel_rfl) (by rw [List.getElem?_toArray];rfl) ?_
  refine Ku (E:=A9) (xs:=[]) (ys:=x.Aj.drop k) Dh E4 fun a7 c7 F7=>?_
  rw [List.nil_append]
  refine dk ?_
  refine dt 12 ?_
  refine dO 13 (by kernel_rfl) (by rw [List.getElem?_toArray];rfl) ?_
  apply Cu;rfl;rfl;rfl;(first|exact AggC.s|exact OneC.s);rfl;exact Cw;exact Cv;rfl
  refine dk ?_
  refine dd ?_
  refine go ?_;intros
  refine ret ⟨a7,c7,F7⟩ trivial rfl
theorem Aj8 (x:Ax) (s:ByteArray) (v:Value) (F:List Nat) (hl:x.Aj.length≤6) (t0:0≤x.Ak) (t1:x.Ak≤65535) (hs:s.size≤maxLen) (hz:1≤x.size) :
  Fn prog 154 [v,.string s] [.isv B4 v x F] [] (fun (_:Value × List Nat)=>True) (fun z=>.tuple #[z.1,.agg #[.int .i64 1,.int .i64 (Dg x s).Ad,.int .i64 (Dg x s).Ak,.int .i64 (Dg x s).D0,.string s]]) (fun z=>[.isv B4 z.1 (C8 x s) z.2]):=by
 have e0:Bn x.Ak ((0:Nat):Int)=x.Ak:=by unfold Bn;omega
 obtain ⟨R,hR⟩:∃R,Cr x=R:=⟨_,rfl⟩
 have hb:=M7 t0 t1
 have hRl:R.Aj.length≤6:=by
  rw [←hR];unfold Cr
  split
  ·show (x.Aj.drop 1).length≤6;rw [List.length_drop];omega
  ·exact hl
 have hnum:Bn R.Ak R.Aj.length=Bn x.Ak x.Aj.length:=by
  rw [←hR];unfold Cr
  split
  ·rename_i h
   show Bn (Bn x.Ak 1) ((x.Aj.drop 1).length:Nat)=_
   rw [List.length_drop,show ((x.Aj.length - 1:Nat):Int)=(x.Aj.length:Int) - 1 by omega,Afw]
  ·rfl
 rw [show C8 x s=⟨R.Ak,x.size,R.Aj++[s]⟩ by unfold C8;rw [hR],show Dg x s=⟨1,Bn x.Ak x.Aj.length,R.Ak,Bn R.Ak (R.Aj.length+1),s⟩ by unfold Dg;rw [hR]]
 dsimp only
 rw [hR] at hb
 refine enter func154 rfl ntmps154 fun w0=>?_
 refine Es ?_
 rintro a1 c1 F1 rfl l1
 refine go ?_;intros
 refine cf (Vj x 0 _ F (by omega) (Nat.zero_le _) t0 t1) fun y _=>?_
 refine Ar ?_
 rw [e0,List.drop_zero]
 refine go ?_;intros
 rename_i g
 refine Gc [1,2,4,5,6] [2,3,4,5,6] (fun _:PuS=>[]) (fun z=>[.row g 31 0 [] [.int .i64 R.Ak,.int .i64 x.size,.slice z.a R.Aj.length z.c] [],.ow A9 9 (.slice z.a R.Aj.length z.c) R.Aj z.F]) (fun _=>True) ?_ fun z _=>?_
 ·refine Bf rfl (fun h1=>?_) (fun h1=>?_)
  ·have e:R=⟨Bn x.Ak 1,x.size,x.Aj.drop 1⟩:=by rw [←hR];unfold Cr;rw [if_pos h1]
   rw [e]
   refine go ?_;intros
   refine cf (Vj x 1 _ F (by omega) (by omega) t0 t1) fun z _=>?_
   refine Ar ?_
   refine go ?_;intros
   refine Cm z trivial
  ·have e:R=x:=by rw [←hR];unfold Cr;rw [if_neg h1]
   rw [e]
   refine go ?_;intros
   refine Cm ⟨y.a,y.c,y.F⟩ trivial
 refine go ?_;intros
 refine cb (fun w st=>Rv _ _ _ _ _ w hb.1 hb.2 (by omega)) ?_
 rw [hnum]
 refine go ?_;intros
 apply wO
 refine Lh (E:=A9) (ys:=[s]) (fun w=>⟨[.string s],[],[],[],rfl,rfl,⟨rfl,hs,rfl⟩,rfl,rfl⟩) Dh fun a7 c7 F7=>?_
 have hla:((R.Aj++[s]).length:Int)=R.Aj.length+1:=by simp
 refine go ?_;intros
 dsimp only [List.append]
 refine Aw [1] [] ?_
 refine dt 0 ?_
 refine dt 1 ?_
 refine dt 2 ?_
 refine dt 3 ?_
 refine dt 4 ?_
 refine dt 6 ?_
 refine dO 5 (by kernel_rfl) (by rw [List.getElem?_toArray];rfl) ?_
 apply At;rfl;kernel_rfl;exact Be
 refine cb (fun w st=>Rv _ _ _ _ _ w hb.1 hb.2 (by omega)) ?_
 refine dk ?_
 refine dt 7 ?_
 refine dO 8 (by kernel_rfl) (by rw [List.getElem?_toArray];rfl) ?_
 apply Cu;rfl;rfl;rfl;(first|exact AggC.s|exact OneC.s);rfl;exact Cw;exact Cv;rfl
 refine dk ?_
 refine dO 9 (by kernel_rfl) (by rw [List.getElem?_toArray];rfl) ?_
 apply Cu;rfl;rfl;rfl;(first|exact AggC.s|exact OneC.s);rfl;exact Cw;exact Cv;rfl
 refine dk ?_
 refine dd ?_
 refine Ay (E:=A9) (xs:=R.Aj++[s]) fun F8=>?_
 refine Cn ⟨R.Ak,x.size,R.Aj++[s]⟩ ?_
 refine go ?_;intros
 refine ret (_,_) trivial ?_
 rw [hla];rfl
structure SeS where
 a:Option Addr
 c:Nat
 F:List Nat
 a2:Option Addr
 c2:Nat
 F2:List Nat
theorem Al9 (x:Ax) (s:ByteArray) (hs:List G0) (g t o:Nat) (A B:List Value) (a a2:Option Addr) (c c2:Nat) (cl q:Int) (F F2:List Nat) (hl:x.Aj.length≤6) (t0:0≤x.Ak) (t1:x.Ak≤65535) (hss:s.size≤maxLen) (hz:1≤x.size) (hn:∀h∈hs,Ca h.Ad=true) :
  Fn prog 78 [Eu g o 0,.string s] [] [.row g t o A [.int .i64 x.Ak,.int .i64 x.size,.slice a x.Aj.length c,.int .i64 cl,.int .i64 q,.slice a2 hs.length c2] B,.ow Bh 137 (.slice a2 hs.length c2) hs F2,.ow A9 9 (.slice a x.Aj.length c) x.Aj F] (fun (_:SeS)=>True) (fun _=>.agg #[.int .i64 1,.int .i64 (Dg x s).Ad,.int .i64 (Dg x s).Ak,.int .i64 (Dg x s).D0,.string s])
   (fun z=>[.row g t o A [.int .i64 (C8 x s).Ak,.int .i64 (C8 x s).size,.slice z.a (C8 x s).Aj.length z.c,.int .i64 cl,.int .i64 0,.slice z.a2 (K9 (C8 x s) hs).length z.c2] B,.ow Bh 137 (.slice z.a2 (K9 (C8 x s) hs).length z.c2) (K9 (C8 x s) hs) z.F2,.ow A9 9 (.slice z.a (C8 x s).Aj.length z.c) (C8 x s).Aj z.F]):=by
 have hb:=M7 t0 t1
 refine enter func78 rfl ntmps78 fun w0=>?_
 refine go ?_;intros
 refine cf (Apu x s g t o A B _ _ _ a c F hl (Ba.2 ⟨t0,t1⟩) hss hz) fun z _=>?_
 refine Ar ?_
 refine go ?_;intros
 refine cf (Adb (C8 x s) hs g t o A B z.a a2 z.c c2 cl 0 z.F F2 hb.1 hb.2 hn) fun y _=>?_
 refine Ar ?_
 refine go ?_;intros
 refine ret ⟨z.a,z.c,z.F,y.1,y.2.1,y.2.2⟩ trivial rfl
def Nq (x:Ch) (s:ByteArray):Ch:=⟨C8 x.Aa s,x.Ai,0,K9 (C8 x.Aa s) x.holds⟩
def zPk:As:=⟨0,0,0,0,⟨#[]⟩⟩
def Tr (x:Ax) (s:ByteArray):Bool:=Do x && N1 s
end Go.Proofs.YtbmlecejkacpnaaGreatDoor
namespace Go.Proofs.YtbmlecejkacpnaaGreatDoor

open Go.RowKit
end Go.Proofs.YtbmlecejkacpnaaGreatDoor
namespace Go.Proofs.YtbmlecejkacpnaaGreatDoor
open Go.RowKit
def J4 (x:Ax):Int:=Bn x.Ak x.Aj.length
def Qn (x:Ax) (n:Int):ByteArray:=x.Aj.getD (gp x.Ak n).toNat ⟨#[]⟩
def Akm (x:Ax) (n:Int):Bool:=Do x && Ca n && Gw x n
def Nr (x:Ax):As:=⟨5,x.Ak,x.Ak,J4 x,⟨#[]⟩⟩
def Hx (x:Ax) (p:As):Bool:=Do x && Bk p && decide (p.C2=3) && Gw x p.Ad
def Acm (x:Ax) (n:Int):As:=⟨2,n,x.Ak,J4 x,Qn x n⟩
def Da (x:Ax) (p:As):As × Bool:=if Hx x p then (Acm x p.Ad,true) else (zPk,false)
theorem Akb (x:Ax):0≤J4 x∧J4 x≤65535:=Hj _ _
theorem Ad3 {x:Ax} (h1:1≤x.size):J4 (Cr x)=J4 x:=by
 unfold Cr
 split
 ·rename_i h
  unfold J4
  simp only [List.length_drop]
  unfold Bn
  omega
 ·rfl
theorem Ae7 {x:Ax} {s:ByteArray} (h:Tr x s=true):Do x=true∧Do (C8 x s)=true∧Akm (C8 x s) (Dg x s).Ad=true∧Qn (C8 x s) (Dg x s).Ad=s∧(Dg x s).Ad=J4 x∧gp (J4 x) (J4 (C8 x s))=1∧(Dg x s).D0=J4 (C8 x s)∧(Dg x s).Ak=(C8 x s).Ak:=by
 unfold Tr at h
 simp only [Bool.and_eq_true] at h
 obtain ⟨hg,hs⟩:=h
 obtain ⟨⟨t0,t1⟩,⟨z0,z1⟩,hl,hi⟩:=Dw.1 hg
 have hr:0≤(Cr x).Ak∧(Cr x).Ak≤65535:=M7 t0 t1
 have hn:((Cr x).Aj.length:Int)+1≤x.size∧(Cr x).Aj.all N1=true:=by
  unfold Cr
  split
  ·rename_i h
   refine ⟨by simp only [List.length_drop];omega,?_⟩
   rw [List.all_eq_true] at hi ⊢
   exact fun z hz=>hi z (List.mem_of_mem_drop hz)
  ·exact ⟨by omega,hi⟩
 have hlead:=Ad3 (x:=x) z0
 have hgo:Do (C8 x s)=true:=by
  refine Dw.2 ⟨hr,⟨z0,z1⟩,?_,?_⟩
  ·show (((Cr x).Aj++[s]).length:Int)≤x.size
   simp only [List.length_append,List.length_cons,List.length_nil];omega
  ·show ((Cr x).Aj++[s]).all N1=true
   simp [hn.2,hs]
 have hnum:(Dg x s).Ad=J4 x:=rfl
 have hgap:gp (C8 x s).Ak (J4 x)=((Cr x).Aj.length:Nat):=by
  rw [←hlead]
  show gp (Cr x).Ak (J4 (Cr x))=_
  unfold J4 gp Bn
  omega
 have b:=Akb x
 refine ⟨hg,hgo,?_,?_,rfl,?_,?_,rfl⟩
 ·unfold Akm
  rw [hgo,hnum,Ba.2 b,Gw,hgap]
  show decide (((Cr x).Aj.length:Int) < (((Cr x).Aj++[s]).length:Nat))=true
  simp only [List.length_append,List.length_cons,List.length_nil,decide_eq_true_eq]
  omega
 ·unfold Qn
  rw [hnum,hgap]
  show ((Cr x).Aj++[s]).getD _ _=s
  simp
 ·rw [←hlead]
  show gp (J4 (Cr x)) (Bn (Cr x).Ak (((Cr x).Aj++[s]).length:Nat))=1
  unfold J4 gp Bn
  simp only [List.length_append,List.length_cons,List.length_nil]
  omega
 ·show Bn (Cr x).Ak (((Cr x).Aj.length:Nat)+1)=Bn (Cr x).Ak ((((Cr x).Aj++[s]).length:Nat))
  simp
theorem Ad5 (t z:Int) (a:Option Addr) (n c:Nat) (h0:0≤t) (h1:t≤65535) (hn:n≤4294967296):Fn prog 138 [.agg #[.int .i64 t,.int .i64 z,.slice a n c]] [] [] (fun (_:Unit)=>True) (fun _=>.agg #[.int .i64 5,.int .i64 t,.int .i64 t,.int .i64 (Bn t n),.string ⟨#[]⟩]) (fun _=>[]):=by
 refine enter func138 rfl ntmps138 fun w0=>?_
 refine go ?_;intros
 refine Aw [1] [7] ?_
 refine dt 0 ?_
 refine dt 1 ?_
 refine dt 2 ?_
 refine dt 3 ?_
 refine dt 4 ?_
 refine dO 5 (by kernel_rfl) (by rw [List.getElem?_toArray];rfl) ?_
 apply At;rfl;kernel_rfl;exact Be
 refine cb (fun w _=>Iu t z a n c w h0 h1 hn) ?_
 refine dk ?_
 refine dt 6 ?_
 refine dO 7 (by kernel_rfl) (by rw [List.getElem?_toArray];rfl) ?_
 apply Cu;rfl;rfl;rfl;(first|exact AggC.s|exact OneC.s);rfl;exact Cw;exact Cv;rfl
 refine Mg ?_
 refine dd ?_
 refine go ?_;intros
 refine ret () trivial rfl
theorem Tp (t z:Int) (a:Option Addr) (n c:Nat) (h0:0≤t) (h1:t≤65535) (hn:n≤4294967296):Fn prog 165 [.agg #[.int .i64 t,.int .i64 z,.slice a n c]] [] [] (fun (_:Unit)=>True) (fun _=>.agg #[.int .i64 5,.int .i64 t,.int .i64 t,.int .i64 (Bn t n),.string ⟨#[]⟩]) (fun _=>[]):=by
 refine enter func165 rfl ntmps165 fun w0=>?_
 refine go ?_;intros
 refine Aw [1] [7] ?_
 refine dt 0 ?_
 refine dt 1 ?_
 refine dt 2 ?_
 refine dt 3 ?_
 refine dt 4 ?_
 refine dO 5 (by kernel_rfl) (by rw [List.getElem?_toArray];rfl) ?_
 apply At;rfl;kernel_rfl;exact Be
 refine cb (fun w _=>Rv t z a n c w h0 h1 hn) ?_
 refine dk ?_
 refine dt 6 ?_
 refine dO 7 (by kernel_rfl) (by rw [List.getElem?_toArray];rfl) ?_
 apply Cu;rfl;rfl;rfl;(first|exact AggC.s|exact OneC.s);rfl;exact Cw;exact Cv;rfl
 refine Mg ?_
 refine dd ?_
 refine go ?_;intros
 refine ret () trivial rfl
def P2 (cl:Int) (hs:List G0):List G0:=hs.filter fun h=>!decide (h.Cf≤cl)
def N2 (q:Int):Int:=if q+1 < 4 then q+1 else 0
def Ka (x:Ax) (q:Int):List As:=if q+1 < 4 then [] else [Nr x]
def Jv (x:Ch):Ch:=⟨x.Aa,x.Ai+1,N2 x.quiet,P2 (x.Ai+1) x.holds⟩
theorem Adz {x:Ch} (h:Cd x=true):0≤x.quiet∧x.quiet≤3:=by
 unfold Cd Hq at h
 simp only [Bool.and_eq_true,decide_eq_true_eq] at h
 exact h.1.2
theorem Ahb {x:Ch} (h:Cd x=true):∀z∈x.holds,Gw x.Aa z.Ad=true:=fun z hz=>by
 unfold Cd at h
 simp only [Bool.and_eq_true] at h
 obtain ⟨i,hi,rfl⟩:=List.getElem_of_mem hz
 have:=List.all_eq_true.1 h.2 i (by simpa using hi)
 rw [Mf hi] at this
 simp only [Bool.and_eq_true] at this
 exact this.1.1.2
structure TiS where
 a:Option Addr
 c:Nat
 a2:Option Addr
 c2:Nat
 F:List Nat
 ae:Option Addr
 ce:Nat
 Fe:List Nat
theorem Ant (h:G0) (gb g o:Nat) (u v0 v1 v2 q Hs:Value) (cl:Int) (G:List Nat) :
  Fn prog 137 [u,Eu gb 0 0] [.isv Bh u h G,.cel gb 0 [Eu g o 0],.cel g o [v0,v1,v2,.int .i64 cl,q,Hs]] [] (fun (_:Unit)=>True) (fun _=>.bool (decide (h.Cf≤cl))) (fun _=>[]):=by
 refine enter func137 rfl ntmps137 fun w0=>?_
 refine Ado ?_
 rintro _ rfl
 refine go ?_;intros
 refine Aw [0,2,3] [] ?_
 refine dt 0 ?_
 refine dt 1 ?_
 refine dt 2 ?_
 refine dt 3 ?_
 refine dt 4 ?_
 refine dt 5 ?_
 refine dt 6 ?_
 refine dt 7 ?_
 refine dd ?_
 refine go ?_;intros
 refine ret () trivial rfl
theorem Anu (hs:List G0) (gb tb g t o:Nat) (A B:List Value) (v0 v1 v2:Value) (v3:Value) (a2:Option Addr) (c2:Nat) (cl q:Int) (F2:List Nat) :
  Fn prog 136 [.slice a2 hs.length c2,.func (.func 137) #[] #[Eu gb 0 0]] [] [.ow Bh 137 (.slice a2 hs.length c2) hs F2,.row gb tb 0 [] [Eu g o 0] [],.row g t o A [v0,v1,v2,.int .i64 cl,.int .i64 q,v3] B] (fun (_:Option Addr × Nat × List Nat)=>True)
   (fun z=>.slice z.1 (P2 cl hs).length z.2.1) (fun z=>[.ow Bh 137 (.slice z.1 (P2 cl hs).length z.2.1) (P2 cl hs) z.2.2,.row gb tb 0 [] [Eu g o 0] [],.row g t o A [v0,v1,v2,.int .i64 cl,.int .i64 q,v3] B]):=by
 refine Aev rfl fun w ⟨hnd,ho⟩ _ hk=>?_
 refine (Q8 _ (Qj (by kernel_rfl)) #[Eu gb 0 0] _ hs F2 (fun h=>decide (h.Cf≤cl)) w ho hnd fun k hk2 wr u G hK hu=>?_).mono ?_
 ·have hr:=hk wr hK
  have r1:=hr (.row gb tb 0 [] [Eu g o 0] []) (by simp)
  have r2:=hr (.row g t o A [v0,v1,v2,.int .i64 cl,.int .i64 q,v3] B) (by simp)
  refine (Ant hs[k] gb g o u v0 v1 v2 (.int .i64 q) v3 cl G).val wr ?_
  intro p hp
  simp only [List.mem_cons,List.not_mem_nil,or_false] at hp
  rcases hp with rfl|rfl|rfl
  ·exact hu
  ·exact ⟨by simp,Fg r1⟩
  ·exact ⟨by simp,Fg r2⟩
 ·rintro e w' ⟨v',F',rfl,h1,h2,h3,h4⟩
  have e:(hs.filter fun x=>!(fun h:G0=>decide (h.Cf≤cl)) x)=P2 cl hs:=rfl
  rw [e] at h1
  obtain ⟨a',c',rfl⟩:=h1.slice
  exact ⟨(a',c',F'),trivial,rfl,⟨h2,h1⟩,fun b hb=>.inl (h3 b hb),h4⟩
theorem Ama (W:Ax) (hs:List G0) (g t o:Nat) (A B:List Value) (a a2:Option Addr) (c c2:Nat) (cl q:Int) (F2:List Nat) (t0:0≤W.Ak) (t1:W.Ak≤65535) (hl:W.Aj.length≤6) (k0:0≤cl) (k1:cl≤9999) (q0:0≤q) (q3:q≤3) :
  Fn prog 80 [Eu g o 0] [] [.row g t o A [.int .i64 W.Ak,.int .i64 W.size,.slice a W.Aj.length c,.int .i64 cl,.int .i64 q,.slice a2 hs.length c2] B,.ow Bh 137 (.slice a2 hs.length c2) hs F2] (fun (_:TiS)=>True)
   (fun z=>.slice z.ae (Ka W q).length z.ce) (fun z=>[.row g t o A [.int .i64 W.Ak,.int .i64 W.size,.slice a W.Aj.length c,.int .i64 (cl+1),.int .i64 (N2 q),.slice z.a2 (P2 (cl+1) hs).length z.c2] B,.ow Bh 137 (.slice z.a2 (P2 (cl+1) hs).length z.c2) (P2 (cl+1) hs) z.F,.ow Al 108 (.slice z.ae (Ka W q).length z.ce) (Ka W q) z.Fe]):=by
 refine enter func80 rfl ntmps80 fun w0=>?_
 refine go ?_;intros
 refine Aw [0,1] [9] ?_
 refine dt 0 ?_
 refine dt 1 ?_
 refine dt 2 ?_
 refine dt 3 ?_
 refine dt 4 ?_
 refine dt 5 ?_
 refine dO 6 (by kernel_rfl) (by rw [List.getElem?_toArray];rfl) ?_
 apply At;rfl;kernel_rfl;exact Be
 refine cf (Anu hs _ _ g t o A B _ _ _ _ a2 c2 (cl+1) q F2) fun z _=>?_
 refine Ar ?_
 refine dk ?_
 refine dt 7 ?_
 refine dt 8 ?_
 refine dO 9 (by kernel_rfl) (by rw [List.getElem?_toArray];rfl) ?_
 apply Cu;rfl;rfl;rfl;(first|exact AggC.s|exact OneC.s);rfl;exact Cw;exact Cv;rfl
 refine Mg ?_
 refine dd ?_
 refine go ?_;intros
 refine Bf rfl (fun h1=>?_) (fun h1=>?_)
 ·refine Bx Al 108 ?_
  refine go ?_;intros
  rw [show N2 q=q+1 from if_pos h1,show Ka W q=[] from if_pos h1]
  refine ret ⟨none,0,z.1,z.2.1,z.2.2,none,0,[]⟩ trivial rfl
 ·refine go ?_;intros
  refine cf (Ad5 W.Ak W.size a W.Aj.length c t0 t1 (by omega)) fun _ _=>?_
  refine Ar ?_
  refine go ?_;intros
  refine Dz (xs:=[Nr W]) (C4 _ (by show (⟨#[]⟩:ByteArray).size≤maxLen;decide)) ?_ (by simp)
  rw [show N2 q=0 from if_neg h1,show Ka W q=[Nr W] from if_neg h1]
  refine ret ⟨none,0,z.1,z.2.1,z.2.2,_,_,_⟩ trivial rfl
theorem Oe (x:Ax) (v:Value) (F:List Nat) (t0:0≤x.Ak) (t1:x.Ak≤65535) (hl:x.Aj.length≤4294967296):Fn prog 151 [v,.int .i64 0] [.isv B4 v x F] [] (fun (_:Value × List Nat)=>True) (fun s=>s.1) (fun s=>[.own Nh s.1 x s.2]):=by
 have e0:Bn x.Ak ((0:Nat):Int)=x.Ak:=by unfold Bn;omega
 have h:=Vj x 0 v F hl (Nat.zero_le _) t0 t1
 rw [e0,List.drop_zero] at h
 refine Amr fun w hA=>(h.made w hA (fun _=>rfl)).mono ?_
 rintro e w' ⟨z, -,he,hh,hn,hF,hB⟩
 obtain ⟨h1,h2⟩:=hh (.ow A9 9 (.slice z.a x.Aj.length z.c) x.Aj z.F) (by simp)
 exact ⟨(_,z.F),trivial,he,⟨h1,_,rfl,_,rfl,h2⟩,fun b hb=>hF b (by simpa [fp,Pc.F,Pc.mu] using hb),hB⟩
theorem Amy {W:Ax} {cl:Int} {hs:List G0} (h:∀z∈hs,Gw W z.Ad=true):Fm W cl hs=P2 cl hs:=by
 unfold Fm P2
 refine List.filter_congr fun z hz=>?_
 rw [h z hz,Bool.true_and]
 by_cases hc:cl < z.Cf
 ·rw [decide_eq_true hc,decide_eq_false (by omega)];rfl
 ·rw [decide_eq_false hc,decide_eq_true (by omega)];rfl
def Kb (x:Ch):Ch:=⟨x.Aa,x.Ai+1,N2 x.quiet,Fm x.Aa (x.Ai+1) x.holds⟩
theorem Yi (x:Ch) (v:Value) (F:List Nat) (t0:0≤x.Aa.Ak) (t1:x.Aa.Ak≤65535) (hl:x.Aa.Aj.length≤6) (k0:0≤x.Ai) (k1:x.Ai≤99999) (q0:0≤x.quiet) (q3:x.quiet≤3) (hm:x.holds.length≤1000) (hn:Ta x.holds) :
  Fn prog 112 [v] [.isv Dn v x F] [] (fun (_:TiS)=>True) (fun s=>.tuple #[.agg #[.int .i64 (Kb x).Aa.Ak,.int .i64 (Kb x).Aa.size,.slice s.a (Kb x).Aa.Aj.length s.c,.int .i64 (Kb x).Ai,.int .i64 (Kb x).quiet,.slice s.a2 (Kb x).holds.length s.c2],.slice s.ae (Ka x.Aa x.quiet).length s.ce])
   (fun s=>[.isv Dn (.agg #[.int .i64 (Kb x).Aa.Ak,.int .i64 (Kb x).Aa.size,.slice s.a (Kb x).Aa.Aj.length s.c,.int .i64 (Kb x).Ai,.int .i64 (Kb x).quiet,.slice s.a2 (Kb x).holds.length s.c2]) (Kb x) s.F,.ow Al 108 (.slice s.ae (Ka x.Aa x.quiet).length s.ce) (Ka x.Aa x.quiet) s.Fe]):=by
 refine enter func112 rfl ntmps112 fun w0=>?_
 refine Gj ?_
 rintro a1 c1 F1 a2 c2 F2 rfl l1 l2
 refine Cn x.Aa (a1:=a1) ?_
 refine go ?_;intros
 refine cf (Oe x.Aa _ F1 t0 t1 (by omega)) fun y _=>?_
 refine Ar ?_
 refine H8 ?_
 rintro a5 c5 F5 e5 l5
 rw [e5]
 have hH:=fun v a c F G=>Wf x.Aa x.holds (x.Ai+1) v a c F G t0 t1 (by omega) hn
 refine go ?_;intros
 refine Ay (xs:=x.Aa.Aj) fun F8=>?_
 refine Cn x.Aa (a1:=a5) ?_
 refine Aw [2,4] [] ?_
 refine dt 0 ?_
 refine dt 1 ?_
 refine dt 2 ?_
 refine dt 3 ?_
 refine dt 4 ?_
 refine dt 5 ?_
 refine dt 6 ?_
 refine dt 7 ?_
 refine dt 8 ?_
 refine dt 9 ?_
 refine dt 10 ?_
 refine dt 11 ?_
 refine dt 12 ?_
 refine Ob 13 15 (by kernel_rfl) (by rw [List.getElem?_toArray];rfl) (by rw [List.getElem?_toArray];rfl) ?_ ?_
 ·apply At;rfl;kernel_rfl;exact Be
  refine cf (hH _ a2 c2 _ _) fun z _=>?_
  refine Ar ?_
  refine dk ?_
  refine dt 14 ?_
  refine dO 15 (by kernel_rfl) (by rw [List.getElem?_toArray];rfl) ?_
  apply Co;rfl;intro _
  refine dk ?_
  refine dO 16 (by kernel_rfl) (by rw [List.getElem?_toArray];rfl) ?_
  apply Cu;rfl;rfl;rfl;(first|exact AggC.s|exact OneC.s);rfl;exact Cw;exact Cv;rfl
  refine dk ?_
  refine dd ?_
  refine go ?_;intros
  refine Bf rfl (fun h1=>?_) (fun h1=>?_)
  ·rw [show Kb x=⟨x.Aa,x.Ai+1,0,Fm x.Aa (x.Ai+1) x.holds⟩ from by unfold Kb N2;rw [if_neg (by omega)],show Ka x.Aa x.quiet=[Nr x.Aa] from if_neg (by omega)]
   refine go ?_;intros
   refine Ay (E:=Bh) fun F9=>?_
   refine D7 ⟨x.Aa,x.Ai+1,0,Fm x.Aa (x.Ai+1) x.holds⟩ (a1:=a5) ?_
   refine Aw [2,5] [] ?_
   refine dt 0 ?_
   refine dt 1 ?_
   refine dO 2 (by kernel_rfl) (by rw [List.getElem?_toArray];rfl) ?_
   apply At;rfl;kernel_rfl;exact Be
   refine cf (Tp x.Aa.Ak x.Aa.size _ x.Aa.Aj.length _ t0 t1 (by omega)) fun _ _=>?_
   refine Ar ?_
   refine dk ?_
   refine Ob 3 4 (by kernel_rfl) (by rw [List.getElem?_toArray];rfl) (by rw [List.getElem?_toArray];rfl) ?_ ?_
   ·apply Hh;rfl;rfl;rfl;rfl;exact Hb;exact Gp;intro _
    refine dk ?_
    refine dO 4 (by kernel_rfl) (by rw [List.getElem?_toArray];rfl) ?_
    apply Cu;rfl;rfl;rfl;(first|exact AggC.s|exact OneC.s);rfl;exact Cw;exact Cv;rfl
    refine dk ?_
    refine dt 5 ?_
    refine dd ?_
    refine go ?_;intros
    refine Dz (xs:=[Nr x.Aa]) (C4 _ (by show (⟨#[]⟩:ByteArray).size≤maxLen;decide)) ?_ (by simp)
    refine ret ⟨_,_,_,_,_,_,_,_⟩ trivial rfl
   ·apply Cu;rfl;rfl;rfl;(first|exact AggC.s|exact OneC.s);rfl;exact Cw;exact Cv;rfl
    refine dk ?_
    refine dO 3 (by kernel_rfl) (by rw [List.getElem?_toArray];rfl) ?_
    apply Hh;rfl;rfl;rfl;rfl;exact Hb;exact Gp;intro _
    refine dk ?_
    refine dt 5 ?_
    refine dd ?_
    refine go ?_;intros
    refine Dz (xs:=[Nr x.Aa]) (C4 _ (by show (⟨#[]⟩:ByteArray).size≤maxLen;decide)) ?_ (by simp)
    refine ret ⟨_,_,_,_,_,_,_,_⟩ trivial rfl
  ·rw [show Kb x=⟨x.Aa,x.Ai+1,x.quiet+1,Fm x.Aa (x.Ai+1) x.holds⟩ from by unfold Kb N2;rw [if_pos (by omega)],show Ka x.Aa x.quiet=[] from if_pos (by omega)]
   refine go ?_;intros
   refine C6 Al ?_
   refine Ay (E:=Bh) fun F9=>?_
   refine D7 ⟨x.Aa,x.Ai+1,x.quiet+1,Fm x.Aa (x.Ai+1) x.holds⟩ (a1:=a5) ?_
   refine ret ⟨_,_,_,_,_,_,_,_⟩ trivial rfl
 ·apply Co;rfl;intro _
  refine dk ?_
  refine dO 13 (by kernel_rfl) (by rw [List.getElem?_toArray];rfl) ?_
  apply At;rfl;kernel_rfl;exact Be
  refine cf (hH _ a2 c2 _ _) fun z _=>?_
  refine Ar ?_
  refine dk ?_
  refine dt 14 ?_
  refine dO 16 (by kernel_rfl) (by rw [List.getElem?_toArray];rfl) ?_
  apply Cu;rfl;rfl;rfl;(first|exact AggC.s|exact OneC.s);rfl;exact Cw;exact Cv;rfl
  refine dk ?_
  refine dd ?_
  refine go ?_;intros
  refine Bf rfl (fun h1=>?_) (fun h1=>?_)
  ·rw [show Kb x=⟨x.Aa,x.Ai+1,0,Fm x.Aa (x.Ai+1) x.holds⟩ from by unfold Kb N2;rw [if_neg (by omega)],show Ka x.Aa x.quiet=[Nr x.Aa] from if_neg (by omega)]
   refine go ?_;intros
   refine Ay (E:=Bh) fun F9=>?_
   refine D7 ⟨x.Aa,x.Ai+1,0,Fm x.Aa (x.Ai+1) x.holds⟩ (a1:=a5) ?_
   refine Aw [2,5] [] ?_
   refine dt 0 ?_
   refine dt 1 ?_
   refine dO 2 (by kernel_rfl) (by rw [List.getElem?_toArray];rfl) ?_
   apply At;rfl;kernel_rfl;exact Be
   refine cf (Tp x.Aa.Ak x.Aa.size _ x.Aa.Aj.length _ t0 t1 (by omega)) fun _ _=>?_
   refine Ar ?_
   refine dk ?_
   refine Ob 3 4 (by kernel_rfl) (by rw [List.getElem?_toArray];rfl) (by rw [List.getElem?_toArray];rfl) ?_ ?_
   ·apply Hh;rfl;rfl;rfl;rfl;exact Hb;exact Gp;intro _
    refine dk ?_
    refine dO 4 (by kernel_rfl) (by rw [List.getElem?_toArray];rfl) ?_
    apply Cu;rfl;rfl;rfl;(first|exact AggC.s|exact OneC.s);rfl;exact Cw;exact Cv;rfl
    refine dk ?_
    refine dt 5 ?_
    refine dd ?_
    refine go ?_;intros
    refine Dz (xs:=[Nr x.Aa]) (C4 _ (by show (⟨#[]⟩:ByteArray).size≤maxLen;decide)) ?_ (by simp)
    refine ret ⟨_,_,_,_,_,_,_,_⟩ trivial rfl
   ·apply Cu;rfl;rfl;rfl;(first|exact AggC.s|exact OneC.s);rfl;exact Cw;exact Cv;rfl
    refine dk ?_
    refine dO 3 (by kernel_rfl) (by rw [List.getElem?_toArray];rfl) ?_
    apply Hh;rfl;rfl;rfl;rfl;exact Hb;exact Gp;intro _
    refine dk ?_
    refine dt 5 ?_
    refine dd ?_
    refine go ?_;intros
    refine Dz (xs:=[Nr x.Aa]) (C4 _ (by show (⟨#[]⟩:ByteArray).size≤maxLen;decide)) ?_ (by simp)
    refine ret ⟨_,_,_,_,_,_,_,_⟩ trivial rfl
  ·rw [show Kb x=⟨x.Aa,x.Ai+1,x.quiet+1,Fm x.Aa (x.Ai+1) x.holds⟩ from by unfold Kb N2;rw [if_pos (by omega)],show Ka x.Aa x.quiet=[] from if_pos (by omega)]
   refine go ?_;intros
   refine C6 Al ?_
   refine Ay (E:=Bh) fun F9=>?_
   refine D7 ⟨x.Aa,x.Ai+1,x.quiet+1,Fm x.Aa (x.Ai+1) x.holds⟩ (a1:=a5) ?_
   refine ret ⟨_,_,_,_,_,_,_,_⟩ trivial rfl
theorem Alp {x:Ch} (hg:Cd x=true):Kb x=Jv x:=by unfold Kb Jv;rw [Amy (Ahb hg)]
theorem Aht (x:Ch) (v:Value) (F:List Nat) (hg:Cd x=true) :
  Fn prog 112 [v] [.isv Dn v x F] [] (fun (_:TiS)=>True) (fun s=>.tuple #[.agg #[.int .i64 (Jv x).Aa.Ak,.int .i64 (Jv x).Aa.size,.slice s.a (Jv x).Aa.Aj.length s.c,.int .i64 (Jv x).Ai,.int .i64 (Jv x).quiet,.slice s.a2 (Jv x).holds.length s.c2],.slice s.ae (Ka x.Aa x.quiet).length s.ce])
   (fun s=>[.isv Dn (.agg #[.int .i64 (Jv x).Aa.Ak,.int .i64 (Jv x).Aa.size,.slice s.a (Jv x).Aa.Aj.length s.c,.int .i64 (Jv x).Ai,.int .i64 (Jv x).quiet,.slice s.a2 (Jv x).holds.length s.c2]) (Jv x) s.F,.ow Al 108 (.slice s.ae (Ka x.Aa x.quiet).length s.ce) (Ka x.Aa x.quiet) s.Fe]):=by
 obtain ⟨gw,hl,t0,t1,k0,k1,hm,hn,hu,hb⟩:=Mi hg
 obtain ⟨q0,q3⟩:=Adz hg
 have h:=Yi x v F t0 t1 hl k0 (by omega) q0 q3 (by omega) (Xo hn)
 rw [Alp hg] at h
 exact h
theorem I1 {x:Ax} {p:As} (h:Hx x p=false):Da x p=(zPk,false):=by unfold Da;rw [h];rfl
theorem Sz {x:Ax} {p:As} (h:Hx x p=true):Da x p=(Acm x p.Ad,true):=by unfold Da;rw [h];rfl
theorem Uj {x:Ax} {n:Int} (h:Gw x n=true):(gp x.Ak n).toNat < x.Aj.length:=by
 have b:=In x.Ak n
 unfold Gw at h
 simp only [decide_eq_true_eq] at h
 omega
theorem P0 {x:Ax} {n:Int} (h:(gp x.Ak n).toNat < x.Aj.length):Qn x n=x.Aj[(gp x.Ak n).toNat]:=by
 unfold Qn
 rw [List.getD_eq_getElem?_getD,List.getElem?_eq_getElem h];rfl
theorem Xp (x:Ax) (p:As) (v:Value) (F:List Nat) (hs:p.data.size≤maxLen):Fn prog 237 [v,.agg #[.int .i64 p.C2,.int .i64 p.Ad,.int .i64 p.Ak,.int .i64 p.D0,.string p.data]] [.isv B4 v x F] [] (fun (_:Unit)=>True) (fun _=>.tuple #[.agg #[.int .i64 (Da x p).1.C2,.int .i64 (Da x p).1.Ad,.int .i64 (Da x p).1.Ak,.int .i64 (Da x p).1.D0,.string (Da x p).1.data],.bool (Da x p).2]) (fun _=>[]):=by
 refine enter func237 rfl ntmps237 fun w0=>?_
 refine Es ?_
 rintro a1 c1 F1 rfl l1
 refine go ?_;intros
 refine cb (fun w st=>Nz _ x _ w (st.get (p:=.isv B4 (.agg #[.int .i64 x.Ak,.int .i64 x.size,.slice a1 x.Aj.length c1]) x F) (by simp))) ?_
 cases g1:Do x
 ·refine go ?_;intros
  rw [I1 (by unfold Hx;rw [g1];rfl)]
  refine ret () trivial rfl
 obtain ⟨⟨t0,t1⟩,⟨z0,z1⟩,hl,hi⟩:=Dw.1 g1
 have hl6:x.Aj.length≤6:=by omega
 refine go ?_;intros
 refine cf (Q9 p hs) fun _ _=>?_
 refine Ar ?_
 cases g2:Bk p
 ·refine go ?_;intros
  rw [I1 (by unfold Hx;rw [g1,g2];rfl)]
  refine ret () trivial rfl
 obtain ⟨n0,n1⟩:=H5 g2
 refine go ?_;intros
 refine Ee rfl rfl (fun h3=>?_) (fun h3=>?_)
 ·refine go ?_;intros
  rw [I1 (by unfold Hx;rw [g1,g2,decide_eq_false h3];rfl)]
  refine ret () trivial rfl
 have h3:=Decidable.not_not.1 h3
 refine go ?_;intros
 refine cb (fun w st=>(Rq x p.Ad _ F t0 t1 n0 n1).val w (H9 (st.get (p:=.isv B4 (.agg #[.int .i64 x.Ak,.int .i64 x.size,.slice a1 x.Aj.length c1]) x F) (by simp)))) ?_
 cases g3:Gw x p.Ad
 ·refine go ?_;intros
  rw [I1 (by unfold Hx;rw [g1,g2,g3];simp)]
  refine ret () trivial rfl
 rw [Sz (by unfold Hx;rw [g1,g2,g3,decide_eq_true h3];rfl)]
 have b:=In x.Ak p.Ad
 have hk3:=Uj g3
 rw [show Acm x p.Ad=⟨2,p.Ad,x.Ak,J4 x,x.Aj[(gp x.Ak p.Ad).toNat]⟩ by unfold Acm;rw [P0 hk3]]
 refine Tg (xs:=x.Aj) (gp x.Ak p.Ad).toNat ?_
 rintro hi b2 o2 e s1
 rw [e]
 refine Kx ?_;intros
 refine Aw [0,2,3] [] ?_
 refine dt 0 ?_
 refine dt 1 ?_
 refine dt 2 ?_
 refine dt 3 ?_
 refine dt 4 ?_
 refine dt 6 ?_
 refine dt 7 ?_
 refine dt 8 ?_
 refine dt 9 ?_
 refine dt 10 ?_
 refine dt 11 ?_
 refine dO 5 (by kernel_rfl) (by rw [List.getElem?_toArray];rfl) ?_
 apply At;rfl;kernel_rfl;exact Be
 refine cb (fun w _=>Iu _ _ _ _ _ w t0 t1 (by omega)) ?_
 refine dk ?_
 refine dO 12 (by kernel_rfl) (by rw [List.getElem?_toArray];rfl) ?_
 apply At;rfl;kernel_rfl;exact Be
 refine ce (fun w s=>Ls _ _ _ (by omega) (by omega) (by omega) (by omega)) ?_
 refine dk ?_
 refine dt 13 ?_
 refine dt 14 ?_
 refine dt 15 ?_
 refine dO 16 (by kernel_rfl) (by rw [List.getElem?_toArray];rfl) ?_
 apply Cu;rfl;rfl;rfl;(first|exact AggC.s|exact OneC.s);rfl;exact Cw;exact Cv;rfl
 refine dk ?_
 refine dt 17 ?_
 refine dd ?_
 refine go ?_;intros
 refine ret () trivial rfl
theorem Y5 (x:Ax) (p:As) (v:Value) (F:List Nat) (hs:p.data.size≤maxLen):Fn prog 168 [v,.agg #[.int .i64 p.C2,.int .i64 p.Ad,.int .i64 p.Ak,.int .i64 p.D0,.string p.data]] [.isv B4 v x F] [] (fun (_:Unit)=>True) (fun _=>.tuple #[.agg #[.int .i64 (Da x p).1.C2,.int .i64 (Da x p).1.Ad,.int .i64 (Da x p).1.Ak,.int .i64 (Da x p).1.D0,.string (Da x p).1.data],.bool (Da x p).2]) (fun _=>[]):=by
 refine enter func168 rfl ntmps168 fun w0=>?_
 refine Es ?_
 rintro a1 c1 F1 rfl l1
 refine go ?_;intros
 refine cb (fun w st=>Adg _ x _ w (st.get (p:=.isv B4 (.agg #[.int .i64 x.Ak,.int .i64 x.size,.slice a1 x.Aj.length c1]) x F) (by simp))) ?_
 cases g1:Do x
 ·refine go ?_;intros
  rw [I1 (by unfold Hx;rw [g1];rfl)]
  refine ret () trivial rfl
 obtain ⟨⟨t0,t1⟩,⟨z0,z1⟩,hl,hi⟩:=Dw.1 g1
 have hl6:x.Aj.length≤6:=by omega
 refine go ?_;intros
 refine cf (Aj7 p hs) fun _ _=>?_
 refine Ar ?_
 cases g2:Bk p
 ·refine go ?_;intros
  rw [I1 (by unfold Hx;rw [g1,g2];rfl)]
  refine ret () trivial rfl
 obtain ⟨n0,n1⟩:=H5 g2
 refine go ?_;intros
 refine Ee rfl rfl (fun h3=>?_) (fun h3=>?_)
 ·refine go ?_;intros
  rw [I1 (by unfold Hx;rw [g1,g2,decide_eq_false h3];rfl)]
  refine ret () trivial rfl
 have h3:=Decidable.not_not.1 h3
 refine go ?_;intros
 refine cb (fun w st=>(Adh x p.Ad _ F t0 t1 n0 n1).val w (H9 (st.get (p:=.isv B4 (.agg #[.int .i64 x.Ak,.int .i64 x.size,.slice a1 x.Aj.length c1]) x F) (by simp)))) ?_
 cases g3:Gw x p.Ad
 ·refine go ?_;intros
  rw [I1 (by unfold Hx;rw [g1,g2,g3];simp)]
  refine ret () trivial rfl
 rw [Sz (by unfold Hx;rw [g1,g2,g3,decide_eq_true h3];rfl)]
 have b:=In x.Ak p.Ad
 have hk3:=Uj g3
 rw [show Acm x p.Ad=⟨2,p.Ad,x.Ak,J4 x,x.Aj[(gp x.Ak p.Ad).toNat]⟩ by unfold Acm;rw [P0 hk3]]
 refine Tg (xs:=x.Aj) (gp x.Ak p.Ad).toNat ?_
 rintro hi b2 o2 e s1
 rw [e]
 refine Kx ?_;intros
 refine Aw [0,2,3] [] ?_
 refine dt 0 ?_
 refine dt 1 ?_
 refine dt 2 ?_
 refine dt 3 ?_
 refine dt 4 ?_
 refine dt 6 ?_
 refine dt 7 ?_
 refine dt 8 ?_
 refine dt 9 ?_
 refine dt 10 ?_
 refine dt 11 ?_
 refine dO 5 (by kernel_rfl) (by rw [List.getElem?_toArray];rfl) ?_
 apply At;rfl;kernel_rfl;exact Be
 refine cb (fun w _=>Rv _ _ _ _ _ w t0 t1 (by omega)) ?_
 refine dk ?_
 refine dO 12 (by kernel_rfl) (by rw [List.getElem?_toArray];rfl) ?_
 apply At;rfl;kernel_rfl;exact Be
 refine ce (fun w s=>Il _ _ _ (by omega) (by omega)) ?_
 refine dk ?_
 refine dt 13 ?_
 refine dt 14 ?_
 refine dt 15 ?_
 refine dO 16 (by kernel_rfl) (by rw [List.getElem?_toArray];rfl) ?_
 apply Cu;rfl;rfl;rfl;(first|exact AggC.s|exact OneC.s);rfl;exact Cw;exact Cv;rfl
 refine dk ?_
 refine dt 17 ?_
 refine dd ?_
 refine go ?_;intros
 refine ret () trivial rfl
end Go.Proofs.YtbmlecejkacpnaaGreatDoor
