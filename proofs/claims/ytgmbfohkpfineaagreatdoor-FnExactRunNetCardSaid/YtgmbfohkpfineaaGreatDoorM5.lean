/- Part 5 of the proof: 51 texts, one behind the other. -/
import Derived.BigQuiet
import Derived.Deep.RegionLaw
import Derived.Test.YtgmbfohkpfineaaGreatDoorShelf
import Derived.Lib.RowBridge
import Derived.Test.YtgmbfohkpfineaaGreatDoorM4
set_option maxRecDepth 100000
set_option maxHeartbeats 8000000
set_option linter.all false
set_option linter.unusedVariables false
set_option linter.unusedSimpArgs false
namespace Go.Proofs.YtgmbfohkpfineaaGreatDoor
open Go.RowKit
theorem rep1_Request (y:Request) (w:World):Flat ERequest w [.int .i64 y.number,.int .i64 y.state,.int .i64 y.untl,.int .i64 y.tries] [y] []:=⟨_,[],[],[],by simp,by simp,⟨rfl,rfl⟩,rfl,rfl⟩
theorem InsReq_f (xs:List Request) (y:Request) (i:Nat) (a:Option Addr) (c vb:Nat) (F:List Nat) (hi:i≤xs.length) (hl:xs.length≤1000000) :
  Fn Tryz.prog 356 [.slice a xs.length c,.int .i64 i,.slice (some ⟨vb,0,none⟩) 1 1] [] [.ow ERequest 235 (.slice a xs.length c) xs F,.row vb 235 0 [] [.int .i64 y.number,.int .i64 y.state,.int .i64 y.untl,.int .i64 y.tries] []] (fun (_:Option Addr × Nat × List Nat)=>True)
   (fun z=>.slice z.1 (xs.take i++y::xs.drop i).length z.2.1) (fun z=>[.ow ERequest 235 (.slice z.1 (xs.take i++y::xs.drop i).length z.2.1) (xs.take i++y::xs.drop i) z.2.2]):=by
 have hone:∀w':World,∀cs:List Value,Flat ERequest w' cs xs []→∀u∈cs,u.oneCell'=true:=fun w' cs h=>h.one' one_ERequest
 have hy:=rep1_Request y
 have h1y:∀u∈([.int .i64 y.number,.int .i64 y.state,.int .i64 y.untl,.int .i64 y.tries]:List Value),u.oneCell'=true:=by intro u hu;simp at hu;rcases hu with rfl|rfl|rfl|rfl <;> rfl
 refine enter Tryz.func356 rfl Tryz.ntmps356 fun w0=>?_
 refine t_cap (E:=ERequest) fun hc1 hc2=>?_
 refine go ?_;intros
 apply wO
 refine o_slany rfl rfl rfl rfl hi (fun _=>?_) hc1
 refine go ?_;intros
 refine c_if rfl (fun h1=>?_) (fun h1=>?_)
 ·have hin:i=xs.length:=by omega
  subst hin
  have e:xs.take xs.length++y::xs.drop xs.length=xs++[y]:=by simp
  refine go ?_;intros
  apply wO
  refine ap1 hy one_ERequest fun a2 c2 F2=>?_
  rw [e]
  refine go ?_;intros
  refine ret (a2,c2,F2) trivial rfl
 ·have hlt:i < xs.length:=by omega
  refine t_rowof (xs:=xs) scal_ERequest (by rintro rfl;simp at hlt) ?_
  rintro g cs rest rfl - - - hcl hcr hfl
  rw [show ERequest.sz=4 from rfl] at hcl hcr
  have h1c:=hone w0 cs (hfl w0)
  obtain ⟨A,B,hcs,hA,hB⟩:∃A B,cs=A++B∧A=cs.take (i * 4)∧B=cs.drop (i * 4):=⟨_,_,(List.take_append_drop _ _).symm,rfl,rfl⟩
  have hAl:A.length=i * 4:=by rw [hA,List.length_take];omega
  have hBl:B.length=(xs.length - i) * 4:=by rw [hB,List.length_drop];omega
  have hins:∀w,Flat ERequest w (A++[.int .i64 y.number,.int .i64 y.state,.int .i64 y.untl,.int .i64 y.tries]++B) (xs.take i++y::xs.drop i) []:=fun w=>by rw [hA,hB];exact (hfl w).insL (hy w) i hi
  have h1A:∀u∈A,u.oneCell'=true:=fun u hu=>h1c u (by rw [hcs];simp [hu])
  have h1B:∀u∈B,u.oneCell'=true:=fun u hu=>h1c u (by rw [hcs];simp [hu])
  have hlen:(xs.take i++y::xs.drop i).length=xs.length+1:=by simp;omega
  clear hA hB hfl hone
  subst hcs
  have eA:A=((A++B++rest).drop 0).take (i * 4):=by rw [List.drop_zero,List.append_assoc,List.take_left' hAl]
  have eB:B=((A++B++rest).drop (0+i * 4)).take ((xs.length - i) * 4):=by rw [Nat.zero_add,List.append_assoc,List.drop_left' hAl,List.take_left' hBl]
  rw [hlen]
  refine go ?_;intros
  apply wO;apply oc;rfl;exact yd_cap rfl
  refine go ?_;intros
  refine c_if rfl (fun h2=>?_) (fun h2=>?_)
  ·refine go ?_;intros
   apply wO;apply oc;rfl;exact yd_slt (i:=i) rfl rfl rfl (by omega) (by omega)
   refine go ?_;intros
   apply wO
   refine o_apgz (k:=xs.length+1 - i) (olds:=A) rfl rfl rfl (by omega) (src_row (m:=i * 4) (.head _) eA) (by omega) (by decide) (by omega) (by omega) (by omega) (by omega) fun g' cp' Z rest' h3 h4 h5 h6=>?_
   rw [show i+(xs.length+1 - i)=xs.length+1 by omega] at h3 ⊢
   obtain ⟨Z1,Z2,rfl,hZ1,hZ2⟩:∃Z1 Z2,Z=Z1++Z2∧Z1.length=4∧Z2.length=B.length:=⟨Z.take 4,Z.drop 4,(List.take_append_drop _ _).symm,by rw [List.length_take];omega,by rw [List.length_drop];omega⟩
   refine go ?_;intros
   apply wO;apply oc;rfl;exact yd_slv (i:=i) rfl rfl rfl (by omega) (by omega) (by omega)
   refine go ?_;intros
   apply wO
   refine o_cpy (cs:=[.int .i64 y.number,.int .i64 y.state,.int .i64 y.untl,.int .i64 y.tries]) (L':=A++[.int .i64 y.number,.int .i64 y.state,.int .i64 y.untl,.int .i64 y.tries]++(Z2++rest')) rfl rfl rfl (src_row (L:=[.int .i64 y.number,.int .i64 y.state,.int .i64 y.untl,.int .i64 y.tries]) (o:=0) (m:=4) (by exact memE) rfl) .here (cpyM (M:=Z1) (by simp [List.append_assoc]) (by omega) (by simpa using hZ1)) (by show 4=min 1 (xs.length+1 - i) * 4;omega) (by simp only [List.length_append,List.length_cons,List.length_nil];omega) h1y ?_
   refine go ?_;intros
   refine d_start [] [] ?_
   refine dt4 0 1 2 3 ?_
   refine dt 4 ?_ (hy:=yd_slv (i:=i+1) rfl rfl (by omega) (by omega) (by omega) (by omega))
   refine dt2 5 6 ?_
   refine dt 7 ?_ (hy:=yd_slv (i:=i) rfl rfl (by omega) (by omega) (by omega) (by omega))
   refine dN 8 ?_
   refine o_cpy (cs:=B) (L':=A++[.int .i64 y.number,.int .i64 y.state,.int .i64 y.untl,.int .i64 y.tries]++B++rest') rfl rfl rfl (src_row (by exact memE) eB) .here (cpyM (P:=A++[.int .i64 y.number,.int .i64 y.state,.int .i64 y.untl,.int .i64 y.tries]) (M:=Z2) (by simp [List.append_assoc]) (by simp only [List.length_append,List.length_cons,List.length_nil];omega) hZ2) (by rw [hBl];congr 1;show _=min (xs.length - i) (xs.length+1 - (i+1));omega) (by simp only [List.length_append,List.length_cons,List.length_nil];omega) h1B ?_
   refine dk ?_
   refine dd ?_
   refine t_owof (cs:=A++[.int .i64 y.number,.int .i64 y.state,.int .i64 y.untl,.int .i64 y.tries]++B) (rest:=rest') (xs:=xs.take i++y::xs.drop i) cp' rfl hins (by omega) h4 (by rw [show ERequest.sz=4 from rfl];simp only [List.length_append,List.length_cons,List.length_nil] at h6 ⊢;omega) ?_
   rw [hlen]
   refine go ?_;intros
   refine ret (_,cp',[g']) trivial rfl
  ·have hcx:xs.length+1≤c:=by omega
   obtain ⟨X,Y,hXY,hX,hY⟩:=shiftL (B:=B) (R:=rest) 4 (by omega)
   refine go ?_;intros
   apply wO;apply oc;rfl;exact yd_slt (i:=xs.length+1) rfl rfl (by omega) (by omega) (by omega)
   refine go ?_;intros
   apply wO;apply oc;rfl;exact yd_slv (i:=i+1) rfl rfl (by omega) (by omega) (by omega) (by omega)
   refine goN ?_;intros
   apply wO
   refine o_ext rfl evsE (ovl (tS:=147) (tR:=4) (run_callFunc_extern Tryz.func362 (by kernel_rfl) (by kernel_rfl) (by kernel_rfl) (e:=Extern.SlicesOverlaps.overlaps #[147,147] #[4]) (by kernel_rfl)) (.there .here) (.head _) (by intro e;have:=congrArg List.length e;simp only [List.length_append,List.length_nil] at this;omega)) ?_
   refine go ?_;intros
   refine d_start [] [] ?_
   refine dt4 0 1 2 3 ?_
   refine dt 4 ?_ (hy:=yd_slv (i:=i+1) rfl rfl (by omega) (by omega) (by omega) (by omega))
   refine dt2 5 6 ?_
   refine dt 7 ?_ (hy:=yd_slv (i:=i) rfl rfl (by omega) (by omega) (by omega) (by omega))
   refine dN 8 ?_
   refine o_cpy (cs:=B) (L':=A++X++B++rest.drop 4) rfl rfl rfl (src_row (by exact memE) eB) .here (cpyM (P:=A++X) (M:=Y) (by rw [List.append_assoc A B rest,hXY];simp [List.append_assoc]) (by simp only [List.length_append];omega) hY) (by rw [hBl];congr 1;show _=min (xs.length+1 - i) (xs.length+1 - (i+1));omega) (by simp only [List.length_append];omega) h1B ?_
   refine dk ?_
   refine dd ?_
   refine go ?_;intros
   apply wO;apply oc;rfl;exact yd_slv (i:=i) rfl rfl rfl (by omega) (by omega) (by omega)
   refine go ?_;intros
   apply wO
   refine o_cpy (cs:=[.int .i64 y.number,.int .i64 y.state,.int .i64 y.untl,.int .i64 y.tries]) (L':=A++[.int .i64 y.number,.int .i64 y.state,.int .i64 y.untl,.int .i64 y.tries]++(B++rest.drop 4)) rfl rfl rfl (src_row (L:=[.int .i64 y.number,.int .i64 y.state,.int .i64 y.untl,.int .i64 y.tries]) (o:=0) (m:=4) (by exact memE) rfl) .here (cpyM (M:=X) (by simp [List.append_assoc]) (by omega) (by simpa using hX)) (by show 4=min 1 (xs.length+1 - i) * 4;omega) (by simp only [List.length_append,List.length_cons,List.length_nil];omega) h1y ?_
   refine go ?_;intros
   refine t_owof (L:=A++[.int .i64 y.number,.int .i64 y.state,.int .i64 y.untl,.int .i64 y.tries]++(B++rest.drop 4)) (cs:=A++[.int .i64 y.number,.int .i64 y.state,.int .i64 y.untl,.int .i64 y.tries]++B) (rest:=rest.drop 4) (xs:=xs.take i++y::xs.drop i) c (by simp [List.append_assoc]) hins (by omega) (by omega) (by rw [show ERequest.sz=4 from rfl];simp only [List.length_append,List.length_cons,List.length_nil,List.length_drop];omega) ?_
   rw [hlen]
   refine ret (_,c,[g]) trivial rfl
instance:IntC Tryz.prog 351 .u64:=⟨Tryz.underlying351⟩
theorem SrchReq_f (fid:FuncId) (caps:List Value) (A:List Pc) (hA:A.all (fun p=>!p.mu)=true) (xs:List Request) (a:Option Addr) (c:Nat) (F:List Nat) (tv:Value) (f:Request→Int) (hm:∀i j (_:i≤j) (hj:j < xs.length),f xs[j] < 0→f (xs[i]'(by omega)) < 0) (hb:bodyB Tryz.prog fid=true) (hl:xs.length≤1000000)
  (hp:∀x∈xs,∀w,Hol A w→Calls Tryz.prog fid ([.agg #[.int .i64 x.number,.int .i64 x.state,.int .i64 x.untl,.int .i64 x.tries],tv]++caps).toArray w fun e w'=>e=.returned (.int .i64 (f x))∧Below w.heap.size w w') :
  Fn Tryz.prog 343 [.slice a xs.length c,tv,.func (.func fid) #[] caps.toArray] (.sl ERequest (.slice a xs.length c) xs F::A) [] (fun (_:Unit)=>True) (fun _=>.tuple #[.int .i64 ((xs.takeWhile fun x=>decide (f x < 0)).length:Nat),.bool (hitB f xs[(xs.takeWhile fun x=>decide (f x < 0)).length]?)]) (fun _=>[]):=by
 refine enter Tryz.func343 rfl Tryz.ntmps343 (fun w0=>?_) rfl (by simpa [Pc.mu] using hA) .nil
 refine go ?_;intros
 refine c_loopR [0,1,2,6,7,8] (fun s:Nat × Nat=>[(9,.int .i64 (s.1:Nat)),(10,.int .i64 (s.2:Nat))]) (fun s=>s.1≤s.2∧s.2≤xs.length∧(∀j (_:j < s.1) (h:j < xs.length),f xs[j] < 0)∧(∀j (_:s.2≤j) (h:j < xs.length),¬f xs[j] < 0)) (fun s=>s.2 - s.1) (0,xs.length) ⟨Nat.zero_le _,Nat.le_refl _,fun j h=>by omega,fun j h1 h2=>by omega⟩ fun s hs=>?_
 obtain ⟨i,j⟩:=s
 obtain ⟨h1,h2,h3,h4⟩:=hs
 dsimp only at h1 h2 h3 h4 ⊢
 refine go ?_;intros
 refine c_if rfl (fun h5=>?_) (fun h5=>?_)
 ·have hh:(i+j) / 2 < xs.length:=by omega
  have e2:((i:Int)+(j:Int)) / 2=(((i+j) / 2:Nat):Int):=by omega
  refine go ?_;intros
  apply wO;apply oc;rfl;exact yd_cvu rfl (by omega) (by omega)
  refine go ?_;intros
  apply wO;apply oc;rfl;exact yd_shr1 rfl
  rw [e2]
  apply wO;apply oc;rfl;exact yd_cv rfl (by omega) (by omega)
  generalize hq:(i+j) / 2=q at hh
  refine go ?_;intros
  refine atRequest (xs:=xs) q ?_
  rintro hi b o e
  rw [e]
  refine go ?_;intros
  apply wO
  refine o_callv rfl rfl hb evsE ?_
  refine cb (fun w st=>hp xs[q] (List.getElem_mem hh) w (fun p hp=>st.on p (by simp [hp]))) ?_
  refine go ?_;intros
  refine c_if rfl (fun h6=>?_) (fun h6=>?_)
  ·refine go ?_;intros
   refine t_drop ?_
   refine n_lp (hH:=hsub_refl _) (q+1,j) ⟨by show q+1≤j;omega,h2,fun k hk h=>hm k q (by have:k < q+1:=hk;omega) hh h6,h4⟩ (by show j - (q+1) < j - i;omega)
  ·refine go ?_;intros
   refine t_drop ?_
   refine n_lp (hH:=hsub_refl _) (i,q) ⟨by show i≤q;omega,by show q≤xs.length;omega,h3,fun k hk h hn=>h6 (hm q k hk h hn)⟩ (by show q - i < j - i;omega)
 ·have hij:i=j:=by omega
  subst hij
  have hk:(xs.takeWhile fun x=>decide (f x < 0)).length=i:=tw_len h2 (fun j hj h=>decide_eq_true (h3 j hj h)) (fun h=>decide_eq_false (h4 i (Nat.le_refl _) h))
  rw [hk]
  refine go ?_;intros
  refine wg_if rfl rfl (fun h6=>?_) (fun h6=>?_)
  ·have hh:i < xs.length:=by omega
   rw [List.getElem?_eq_getElem hh]
   refine go ?_;intros
   refine atRequest (xs:=xs) i ?_
   rintro hi b o e
   rw [e]
   refine go ?_;intros
   apply wO
   refine o_callv rfl rfl hb evsE ?_
   refine cb (fun w st=>hp xs[i] (List.getElem_mem hh) w (fun p hp=>st.on p (by simp [hp]))) ?_
   refine go ?_;intros
   refine ret () trivial rfl
  ·rw [List.getElem?_eq_none (by omega)]
   refine go ?_;intros
   refine ret () trivial rfl
theorem srch_ask {base n:Int} {l:List Request} (hser:∀q∈l,isSer q.number=true) (hn:isSer n=true):(l.takeWhile fun x=>decide (gp base x.number - gp base n < 0)).length=askAt base l n ∧
  hitB (fun x:Request=>gp base x.number - gp base n) l[(l.takeWhile fun x=>decide (gp base x.number - gp base n < 0)).length]?=askOn base l n:=by
 have e:(fun x:Request=>decide (gp base x.number - gp base n < 0))=fun h=>decide (gp base h.number < gp base n):=by
  funext x;rw [decide_eq_decide];omega
 have e1:(l.takeWhile fun x=>decide (gp base x.number - gp base n < 0)).length=askAt base l n:=by unfold askAt;rw [e]
 refine ⟨e1,?_⟩
 rw [e1]
 unfold askOn
 cases hq:l[askAt base l n]? with
 | none=>rfl
 | some z =>
  show decide (gp base z.number - gp base n=0)=decide (z.number=n)
  rw [decide_eq_decide]
  exact ⟨fun h=>gpInj (t:=base) (hser z (List.mem_of_getElem? hq)) hn (by omega),fun h=>by rw [h];omega⟩
theorem fr1_f (r:Request) (n t:Int) (gb:Nat) (t0:0≤t) (t1:t≤65535) (n0:0≤n) (n1:n≤65535) (m0:0≤r.number) (m1:r.number≤65535) :
  Fn Tryz.prog 344 [.agg #[.int .i64 r.number,.int .i64 r.state,.int .i64 r.untl,.int .i64 r.tries],.int .i64 n,ptr gb 0 0] [.cel gb 0 [.int .i64 t]] [] (fun (_:Unit)=>True) (fun _=>.int .i64 (gp t r.number - gp t n)) (fun _=>[]):=by
 have b1:=gp_bd t r.number
 have b2:=gp_bd t n
 refine enter Tryz.func344 rfl Tryz.ntmps344 fun w0=>?_
 refine go ?_;intros
 refine d_start [0,1] [] ?_
 refine dt4 0 1 2 4 ?_
 refine dt 5 ?_
 refine dN 3 ?_
 refine oC ?_
 refine ce (fun w s=>gap_c _ _ _ (by omega) (by omega) (by omega) (by omega)) ?_
 refine dk ?_
 refine dN 6 ?_
 refine oC ?_
 refine ce (fun w s=>gap_c _ _ _ (by omega) (by omega) (by omega) (by omega)) ?_
 refine dk ?_
 refine dt2 7 8 ?_
 refine dd ?_
 refine go ?_;intros
 refine ret () trivial rfl
theorem findRequest_f (l:List Request) (base n:Int) (a:Option Addr) (c:Nat) (F:List Nat) (hq:areQ l base=true) (hn:isSer n=true) :
  Fn Tryz.prog 322 [.slice a l.length c,.int .i64 base,.int .i64 n] [.sl ERequest (.slice a l.length c) l F] [] (fun (_:Unit)=>True) (fun _=>.tuple #[.int .i64 (askAt base l n:Nat),.bool (askOn base l n)]) (fun _=>[]):=by
 obtain ⟨q1,q2,q3,q4⟩:=areQ_iff.1 hq
 have hser:∀q∈l,isSer q.number=true:=fun q h=>(okReq_iff.1 (q3 q h)).n
 obtain ⟨b0,b1⟩:=isSer_iff.1 q1
 obtain ⟨n0,n1⟩:=isSer_iff.1 hn
 obtain ⟨e1,e2⟩:=srch_ask (base:=base) hser hn
 refine enter Tryz.func322 rfl Tryz.ntmps322 fun w0=>?_
 refine go ?_;intros
 rename_i gb
 refine cb (fun w st=>by
  have r1:=st.get (p:=.row gb 3 0 [] [.int .i64 base] []) (by simp)
  have hw:=(st.get (p:=.sl ERequest (.slice a l.length c) l F) (by simp)).2
  refine (SrchReq_f 344 [ptr gb 0 0] [.cel gb 0 [.int .i64 base]] rfl l a c F (.int .i64 n) (fun r=>gp base r.number - gp base n) (fun i j hij hj h=>?_) (by kernel_rfl) (by omega) fun x hx w' hA=>?_).val w ?_
  ·rcases Nat.lt_or_eq_of_le hij with h2|rfl
   ·have:=List.pairwise_iff_getElem.1 q4 i j (by omega) hj h2;omega
   ·exact h
  ·obtain ⟨m0,m1⟩:=isSer_iff.1 (hser x hx)
   exact (fr1_f x n base gb b0 b1 n0 n1 m0 m1).val w' hA
  ·intro p hp
   simp only [List.mem_cons,List.not_mem_nil,or_false] at hp
   rcases hp with rfl|rfl
   ·exact st.get (by simp)
   ·exact ⟨by simp,row_range r1⟩) ?_
 rw [e2,e1]
 refine go ?_;intros
 refine ret () trivial rfl
theorem l12Place_f (l:List Request) (base n:Int) (a:Option Addr) (c:Nat) (F:List Nat) (hq:areQ l base=true) (hn:isSer n=true) :
  Fn Tryz.prog 283 [.slice a l.length c,.int .i64 base,.int .i64 n] [.sl ERequest (.slice a l.length c) l F] [] (fun (_:Unit)=>True) (fun _=>.tuple #[.int .i64 (askAt base l n:Nat),.bool (askOn base l n)]) (fun _=>[]):=by
 obtain ⟨q1,q2,q3,q4⟩:=areQ_iff.1 hq
 have hser:∀q∈l,isSer q.number=true:=fun q h=>(okReq_iff.1 (q3 q h)).n
 obtain ⟨b0,b1⟩:=isSer_iff.1 q1
 obtain ⟨n0,n1⟩:=isSer_iff.1 hn
 obtain ⟨t1,t2,t3⟩:=tw_spec (p:=fun r:Request=>decide (gp base r.number < gp base n)) (xs:=l)
 have hle:=askAt_le base l n
 have hb2:=gp_bd base n
 refine enter Tryz.func283 rfl Tryz.ntmps283 fun w0=>?_
 refine go ?_;intros
 refine c_loopS [0,1,2,6,7] (fun k:Nat=>[(8,.int .i64 (k:Nat))]) (fun _=>[]) (fun k=>k≤askAt base l n) (fun k=>l.length - k) 0 (Nat.zero_le _) fun k hk=>?_
 have leaf:∀h:k < l.length,decide (gp base l[k].number < gp base n)=decide (k < askAt base l n):=fun h=>by
  by_cases h2:k < askAt base l n
  ·rw [decide_eq_true h2];exact t2 k h2 h
  ·have e:k=askAt base l n:=by omega
   subst e
   rw [decide_eq_false h2];exact t3 h
 refine go ?_;intros
 refine wg_if rfl rfl (fun h4=>?_) (fun h4=>?_)
 ·have hi:k < l.length:=by omega
  refine go ?_;intros
  refine atRequest (xs:=l) k ?_
  rintro hi b o e
  rw [e]
  refine go ?_;intros
  obtain ⟨m0,m1⟩:=isSer_iff.1 (hser _ (List.getElem_mem hi))
  have hb1:=gp_bd base l[k].number
  refine ce (fun w s=>l2Gap_c _ _ _ (by omega) (by omega)) ?_
  refine go ?_;intros
  refine ce (fun w s=>l2Gap_c _ _ _ (by omega) (by omega)) ?_
  have lf:=leaf hi
  refine go ?_;intros
  refine c_if rfl (fun h5=>?_) (fun h5=>?_)
  ·have h6:k < askAt base l n:=by rw [decide_eq_true h5] at lf;simpa using lf.symm
   refine go ?_;intros
   refine n_lp (k+1) (by show k+1≤askAt base l n;omega) (by show l.length - (k+1) < l.length - k;omega)
  ·have h6:k=askAt base l n:=by rw [decide_eq_false h5] at lf;have:¬k < askAt base l n:=by simpa using lf.symm
                                omega
   refine go ?_;intros
   refine d_start [0] [] ?_
   refine dt4 0 1 2 3 ?_
   refine dt 4 ?_
   rw [decide_eq_true h4]
   refine dt 5 ?_
   refine dtg 6 ?_
   refine dtg 7 ?_
   refine dtg 8 ?_
   refine dtg 9 ?_
   refine dtg 10 ?_
   refine dtg 11 ?_
   refine dtg 12 ?_
   refine dt2 13 14 ?_
   refine dt 15 ?_
   refine dd ?_
   rw [askOn_at (by omega)]
   subst h6
   refine go ?_;intros
   refine ret () trivial rfl
 ·have h6:k=askAt base l n:=by omega
  refine go ?_;intros
  refine d_start [0] [] ?_
  refine dt4 0 1 2 3 ?_
  refine dt 4 ?_
  rw [decide_eq_false h4]
  refine dt 5 ?_
  refine ds 6 ?_
  refine ds 7 ?_
  refine ds 8 ?_
  refine ds 9 ?_
  refine ds 10 ?_
  refine ds 11 ?_
  refine ds 12 ?_
  refine dt2 13 14 ?_
  refine dt 15 ?_
  refine dd ?_
  rw [askOn_end (by omega)]
  subst h6
  refine go ?_;intros
  refine ret () trivial rfl
def addL (base:Int) (l:List Request) (n u:Int):List Request:=if askOn base l n then [] else insQ base l n u
structure OwR where
 a:Option Addr
 c:Nat
 F:List Nat
theorem AddRequest_f (l:List Request) (base n ck d:Int) (a:Option Addr) (c:Nat) (F:List Nat) (hq:areQ l base=true) (hn:isSer n=true) (h8:gp base n < 8) (k0:0≤ck) (k1:ck≤9999) (d0:1≤d) (d1:d≤8) :
  Fn Tryz.prog 342 [.slice a l.length c,.int .i64 base,.int .i64 n,.int .i64 ck,.int .i64 d] [.sl ERequest (.slice a l.length c) l F] [] (fun (_:OwR)=>True) (fun s=>.tuple #[.slice s.a (addL base l n (ck+d)).length s.c,.bool (!askOn base l n)]) (fun s=>[.ow ERequest 235 (.slice s.a (addL base l n (ck+d)).length s.c) (addL base l n (ck+d)) s.F]):=by
 have hle:=askAt_le base l n
 obtain ⟨q1,q2,q3,q4⟩:=areQ_iff.1 hq
 have hck:isClk ck=true:=by unfold isClk btw;simp;omega
 have hdl:isDel d=true:=by unfold isDel btw;simp;omega
 refine enter Tryz.func342 rfl Tryz.ntmps342 fun w0=>?_
 refine go ?_;intros
 refine cf (AreRequests_f l base _ F) fun _ _=>?_
 refine t_app ?_
 rw [hq]
 refine go ?_;intros
 refine ce (fun w s=>IsSerial_c _ _) ?_
 rw [hn]
 refine go ?_;intros
 refine ce (fun w s=>isClock_c _ _) ?_
 rw [hck]
 refine go ?_;intros
 refine cf (isDelay_f d) fun _ _=>?_
 refine t_app ?_
 rw [hdl]
 refine go ?_;intros
 refine cf (findRequest_f l base n a c F hq hn) fun _ _=>?_
 refine t_app ?_
 cases ho:askOn base l n
 ·rw [show addL base l n (ck+d)=insQ base l n (ck+d) by unfold addL;rw [ho];rfl]
  have hln:=insQ_len base l n (ck+d)
  refine go ?_;intros
  refine cf (ClRequest_f l a c F (by omega)) fun z _=>?_
  refine t_app ?_
  refine go ?_;intros
  refine cf (InsReq_f l ⟨n,1,ck+d,0⟩ (askAt base l n) z.1 z.2.1 _ z.2.2 hle (by omega)) fun y _=>?_
  refine t_app ?_
  rw [show l.take (askAt base l n)++(⟨n,1,ck+d,0⟩:Request)::l.drop (askAt base l n)=insQ base l n (ck+d) from rfl]
  refine go ?_;intros
  refine cb (fun w st=>by obtain ⟨Fw, -,hw⟩:=(st.get (p:=.ow ERequest 235 (.slice y.1 (insQ base l n (ck+d)).length y.2.1) (insQ base l n (ck+d)) y.2.2) (by simp)).2.read;exact (AreRequests_f (insQ base l n (ck+d)) base _ Fw).val w (hol1 ⟨by decide,hw⟩)) ?_
  rw [insQ_good hq hn h8 (by omega) (by omega) ho]
  refine go ?_;intros
  refine ret ⟨_,_,_⟩ trivial rfl
 ·rw [show addL base l n (ck+d)=[] by unfold addL;rw [ho];rfl]
  refine go ?_;intros
  refine t_nilow ERequest 235 ?_
  refine ret ⟨none,0,[]⟩ trivial rfl
theorem l12Add_f (l:List Request) (base n ck d:Int) (a:Option Addr) (c:Nat) (F:List Nat) (hq:areQ l base=true) (hn:isSer n=true) (k0:0≤ck) (k1:ck≤9999) (d0:1≤d) (d1:d≤8) :
  Fn Tryz.prog 288 [.slice a l.length c,.int .i64 base,.int .i64 n,.int .i64 ck,.int .i64 d] [.sl ERequest (.slice a l.length c) l F] [] (fun (_:OwR)=>True) (fun s=>.slice s.a (addQ base l n (ck+d)).length s.c) (fun s=>[.ow ERequest 235 (.slice s.a (addQ base l n (ck+d)).length s.c) (addQ base l n (ck+d)) s.F]):=by
 have hle:=askAt_le base l n
 obtain ⟨q1,q2,q3,q4⟩:=areQ_iff.1 hq
 obtain ⟨b0,b1⟩:=isSer_iff.1 q1
 obtain ⟨n0,n1⟩:=isSer_iff.1 hn
 have hbd:=gp_bd base n
 refine enter Tryz.func288 rfl Tryz.ntmps288 fun w0=>?_
 refine go ?_;intros
 refine cf (l12Place_f l base n a c F hq hn) fun _ _=>?_
 refine t_app ?_
 cases ho:askOn base l n
 rotate_left
 ·rw [show addQ base l n (ck+d)=l by unfold addQ;rw [ho];rfl]
  refine goN ?_;intros
  refine t_emp ERequest ?_
  refine go ?_;intros
  apply wO
  refine aps one_ERequest scal_ERequest fun a5 c5 F5=>?_
  rw [List.nil_append]
  refine go ?_;intros
  refine ret ⟨_,_,_⟩ trivial rfl
 refine go ?_;intros
 refine ce (fun w s=>l2Gap_c _ _ _ (by omega) (by omega)) ?_
 refine go ?_;intros
 refine c_if rfl (fun h4=>?_) (fun h4=>?_)
 ·rw [show addQ base l n (ck+d)=l by unfold addQ;rw [ho,decide_eq_false (show ¬gp base n < 8 by omega)];rfl]
  refine goN ?_;intros
  refine t_emp ERequest ?_
  refine go ?_;intros
  apply wO
  refine aps one_ERequest scal_ERequest fun a5 c5 F5=>?_
  rw [List.nil_append]
  refine go ?_;intros
  refine ret ⟨_,_,_⟩ trivial rfl
 rw [show addQ base l n (ck+d)=insQ base l n (ck+d) by unfold addQ;rw [ho,decide_eq_true (show gp base n < 8 by omega)];rfl]
 refine t_sl (E:=ERequest) (xs:=l) ?_
 rintro _ _ e8 c0 c1
 cases e8
 refine t_rtake (E:=ERequest) (xs:=l) (askAt base l n) (fun FT=>?_) hle
 obtain ⟨T1,hT1⟩:∃T1,T1=l.take (askAt base l n):=⟨_,rfl⟩
 have hT1l:T1.length=askAt base l n:=by rw [hT1,List.length_take];omega
 rw [←hT1]
 have hAdd:T1++[(⟨n,1,ck+d,0⟩:Request)]++l.drop (askAt base l n)=insQ base l n (ck+d):=by rw [hT1];unfold insQ newQ;simp
 refine go ?_;intros
 refine d_start [0,1] [] ?_
 refine dt2 1 2 ?_
 refine dt 3 ?_ (hy:=yd_slt (i:=T1.length) rfl rfl (by rw [hT1l]) (by omega) (by omega))
 refine dt2 5 8 ?_
 refine dt 9 ?_
 refine dsld 10 (askAt base l n) (fun a6 c6 F6=>?_)
 refine dM 0 6 ?_ ?_
 ·apply o_bs0;rfl;intro _
  refine t_emp ERequest ?_
  refine dk ?_
  refine dM 4 6 ?_ ?_
  ·refine aps (ys:=T1) one_ERequest scal_ERequest fun a7 c7 F7=>?_
   rw [List.nil_append]
   refine dk ?_
   refine dN 6 ?_
   apply o_bs;rfl;rfl;rfl;rfl;exact rptE;exact filE;intro _
   refine dk ?_
   refine dN 7 ?_
   refine ap1 (rep1_Request ⟨n,1,ck+d,0⟩) one_ERequest fun a8 c8 F8=>?_
   refine dk ?_
   refine dN 11 ?_
   refine aps (ys:=l.drop (askAt base l n)) one_ERequest scal_ERequest (h63:=by simp;omega) (hby:=by simp;omega) fun a9 c9 F9=>?_
   refine dk ?_
   refine dt 12 ?_
   refine dd ?_
   rw [hAdd]
   refine go ?_;intros
   refine ret ⟨_,_,_⟩ trivial rfl
  ·apply o_bs;rfl;rfl;rfl;rfl;exact rptE;exact filE;intro _
   refine dk ?_
   refine dN 4 ?_
   refine aps (ys:=T1) one_ERequest scal_ERequest fun a7 c7 F7=>?_
   rw [List.nil_append]
   refine dk ?_
   refine dN 7 ?_
   refine ap1 (rep1_Request ⟨n,1,ck+d,0⟩) one_ERequest fun a8 c8 F8=>?_
   refine dk ?_
   refine dN 11 ?_
   refine aps (ys:=l.drop (askAt base l n)) one_ERequest scal_ERequest (h63:=by simp;omega) (hby:=by simp;omega) fun a9 c9 F9=>?_
   refine dk ?_
   refine dt 12 ?_
   refine dd ?_
   rw [hAdd]
   refine go ?_;intros
   refine ret ⟨_,_,_⟩ trivial rfl
 ·apply o_bs;rfl;rfl;rfl;rfl;exact rptE;exact filE;intro _
  refine dk ?_
  refine dN 0 ?_
  apply o_bs0;rfl;intro _
  refine t_emp ERequest ?_
  refine dk ?_
  refine dN 4 ?_
  refine aps (ys:=T1) one_ERequest scal_ERequest fun a7 c7 F7=>?_
  rw [List.nil_append]
  refine dk ?_
  refine dN 7 ?_
  refine ap1 (rep1_Request ⟨n,1,ck+d,0⟩) one_ERequest fun a8 c8 F8=>?_
  refine dk ?_
  refine dN 11 ?_
  refine aps (ys:=l.drop (askAt base l n)) one_ERequest scal_ERequest (h63:=by simp;omega) (hby:=by simp;omega) fun a9 c9 F9=>?_
  refine dk ?_
  refine dt 12 ?_
  refine dd ?_
  rw [hAdd]
  refine go ?_;intros
  refine ret ⟨_,_,_⟩ trivial rfl
theorem ConfirmRequest_f (l:List Request) (base n ck:Int) (a:Option Addr) (c:Nat) (F:List Nat) (hq:areQ l base=true) (hn:isSer n=true) (k0:0≤ck) (k1:ck≤9999) :
  Fn Tryz.prog 301 [.slice a l.length c,.int .i64 base,.int .i64 n,.int .i64 ck] [.sl ERequest (.slice a l.length c) l F] [] (fun (_:OwR)=>True) (fun s=>.tuple #[.slice s.a (confQ base l n (ck+4)).length s.c,.bool true]) (fun s=>[.ow ERequest 235 (.slice s.a (confQ base l n (ck+4)).length s.c) (confQ base l n (ck+4)) s.F]):=by
 have hle:=askAt_le base l n
 obtain ⟨q1,q2,q3,q4⟩:=areQ_iff.1 hq
 have hck:isClk ck=true:=by unfold isClk btw;simp;omega
 refine enter Tryz.func301 rfl Tryz.ntmps301 fun w0=>?_
 refine go ?_;intros
 refine cf (AreRequests_f l base _ F) fun _ _=>?_
 refine t_app ?_
 rw [hq]
 refine go ?_;intros
 refine ce (fun w s=>IsSerial_c _ _) ?_
 rw [hn]
 refine go ?_;intros
 refine ce (fun w s=>isClock_c _ _) ?_
 rw [hck]
 refine go ?_;intros
 refine cf (ClRequest_f l a c F (by omega)) fun z _=>?_
 refine t_app ?_
 refine go ?_;intros
 refine cb (fun w st=>by obtain ⟨Fw, -,hw⟩:=(st.get (p:=.ow ERequest 235 (.slice z.1 (l).length z.2.1) (l) z.2.2) (by simp)).2.read;exact (findRequest_f l base n z.1 z.2.1 Fw hq hn).val w (hol1 ⟨by decide,hw⟩)) ?_
 have hcl:=confQ_len base l n (ck+4)
 cases ho:askOn base l n
 ·rw [confQ_no ho]
  refine go ?_;intros
  refine ret ⟨_,_,_⟩ trivial rfl
 ·have hlt:=askOn_lt ho
  refine go ?_;intros
  refine focRequest (xs:=l) (askAt base l n) ?_ (hi:=hlt)
  rintro hi g A B ha hF hh
  rw [ha]
  refine go ?_;intros
  refine unfF (⟨n,3,ck+4,l[askAt base l n].tries⟩:Request) hh (fun w=>?_) ?_
  ·rw [askOn_at hi] at ho
   have e:l[askAt base l n].number=n:=by simpa using ho
   rw [e];exact ⟨rfl,rfl⟩
  rw [←confQ_yes ho]
  refine go ?_;intros
  rw [show l.length=(confQ base l n (ck+4)).length from hcl.symm]
  refine ret ⟨_,_,_⟩ trivial rfl
theorem l12Confirm_f (l:List Request) (base n ck:Int) (a:Option Addr) (c:Nat) (F:List Nat) (hq:areQ l base=true) (hn:isSer n=true) (k0:0≤ck) (k1:ck≤9999) :
  Fn Tryz.prog 228 [.slice a l.length c,.int .i64 base,.int .i64 n,.int .i64 ck] [.sl ERequest (.slice a l.length c) l F] [] (fun (_:OwR)=>True) (fun s=>.slice s.a (confQ base l n (ck+4)).length s.c) (fun s=>[.ow ERequest 235 (.slice s.a (confQ base l n (ck+4)).length s.c) (confQ base l n (ck+4)) s.F]):=by
 have hle:=askAt_le base l n
 obtain ⟨q1,q2,q3,q4⟩:=areQ_iff.1 hq
 have hcl:=confQ_len base l n (ck+4)
 refine enter Tryz.func228 rfl Tryz.ntmps228 fun w0=>?_
 refine goN ?_;intros
 refine t_emp ERequest ?_
 refine go ?_;intros
 apply wO
 refine aps one_ERequest scal_ERequest fun a5 c5 F5=>?_
 rw [List.nil_append]
 refine go ?_;intros
 refine cf (l12Place_f l base n a c F hq hn) fun _ _=>?_
 refine t_app ?_
 cases ho:askOn base l n
 ·rw [confQ_no ho]
  refine go ?_;intros
  refine ret ⟨_,_,_⟩ trivial rfl
 ·have hlt:=askOn_lt ho
  refine go ?_;intros
  refine atRequest (xs:=l) (askAt base l n) ?_
  rintro hi b o e
  rw [e]
  refine focRequest (xs:=l) (a:=a5) (askAt base l n) ?_ (hi:=hlt)
  rintro hi g A B ha hF hh
  rw [ha]
  refine go ?_;intros
  refine unfF (⟨n,3,ck+4,l[askAt base l n].tries⟩:Request) hh (fun w=>⟨rfl,rfl⟩) ?_
  rw [←confQ_yes ho]
  refine go ?_;intros
  rw [show l.length=(confQ base l n (ck+4)).length from hcl.symm]
  refine ret ⟨_,_,_⟩ trivial rfl
structure SkS where
 a:Option Addr
 c:Nat
 F:List Nat
 ae:Option Addr
 ce:Nat
 Fe:List Nat
theorem Rskip_f (w:ReceiveWindow) (st:Bool) (ck tr:Int) (q:Value) (g t o:Nat) (A B:List Value) (a1:Option Addr) (c1:Nat) (F1:List Nat) (hg:goodRW w=true) (ht:isSer tr=true) :
  Fn Tryz.prog 319 [ptr g o 0,.int .i64 tr] [] [.row g t o A [.bool st,.int .i64 ck,.int .i64 (w).next,.slice a1 (w).slots.length c1,q] B,.ow ESlot 247 (.slice a1 (w).slots.length c1) (w).slots F1] (fun (_:SkS)=>True)
   (fun s=>.slice s.ae (skipE w tr).length s.ce) (fun s=>[.row g t o A [.bool st,.int .i64 ck,.int .i64 (skipW w tr).next,.slice s.a (skipW w tr).slots.length s.c,q] B,.ow ESlot 247 (.slice s.a (skipW w tr).slots.length s.c) (skipW w tr).slots s.F,.ow EStr 9 (.slice s.ae (skipE w tr).length s.ce) (skipE w tr) s.Fe]):=by
 obtain ⟨w0_,w1_⟩:=next_ser hg
 obtain ⟨t0_,t1_⟩:=isSer_iff.1 ht
 obtain ⟨hw8,hit⟩:=good_items hg
 have hgb:=gp_bd w.next tr
 refine enter Tryz.func319 rfl Tryz.ntmps319 fun w0=>?_
 refine go ?_;intros
 refine ce (fun w s=>isBefore_c _ _ _ (by omega) (by omega) (by omega) (by omega)) ?_
 cases hb:bef w.next tr
 ·have e1:skipW w tr=w:=by unfold skipW;rw [hb];rfl
  have e2:skipE w tr=[]:=by unfold skipE;rw [hb];rfl
  rw [e1,e2]
  refine t_nilow EStr 9 ?_
  refine go ?_;intros
  refine ret ⟨_,_,_,_,_,_⟩ trivial rfl
 refine go ?_;intros
 refine ce (fun w s=>gap_c _ _ _ (by omega) (by omega) (by omega) (by omega)) ?_
 refine go ?_;intros
 refine c_if rfl (fun h4=>?_) (fun h4=>?_)
 ·have e1:skipW w tr=movedW w tr:=by unfold skipW;rw [hb,if_pos rfl,if_pos h4]
  have e2:skipE w tr=movedE w tr:=by unfold skipE;rw [hb,if_pos rfl,if_pos h4]
  rw [e1,e2]
  refine t_rin [.bool st,.int .i64 ck] [.int .i64 w.next,.slice a1 w.slots.length c1] [q] ?_
  refine go ?_;intros
  refine cf (RWgive_f w tr g t (o+2) (A++[.bool st,.int .i64 ck]) _ a1 c1 F1 w0_ w1_ t0_ t1_ hw8 hit) fun y hy=>?_
  refine t_app ?_
  obtain ⟨hy1,hy2⟩:=hy
  refine t_rout [.bool st,.int .i64 ck] [.int .i64 y.y.next,.slice y.a y.y.slots.length y.c] [q] ?_
  rw [show movedW w tr=y.y from hy1.symm,show movedE w tr=y.es from hy2.symm]
  refine go ?_;intros
  refine ret ⟨_,_,_,_,_,_⟩ trivial rfl
 ·have e1:skipW w tr=⟨tr,[]⟩:=by unfold skipW;rw [hb,if_pos rfl,if_neg h4]
  have e2:skipE w tr=[⟨#[33]⟩]:=by unfold skipE;rw [hb,if_pos rfl,if_neg h4]
  rw [e1,e2]
  refine t_nilow ESlot 247 ?_
  refine goN ?_;intros
  refine t_row (xs:=[(⟨#[33]⟩:ByteArray)]) (rep_str _ (by decide)) ?_ (by simp)
  refine go ?_;intros
  refine ret ⟨none,0,[],_,_,_⟩ trivial rfl
structure AwS where
 i:Nat
 a:Option Addr
 c:Nat
 F:List Nat
theorem Rawait_f (x:ReceiveWindow) (l:List Request) (st:Bool) (ck lead d:Int) (g t o:Nat) (A B:List Value) (a1:Option Addr) (c1:Nat) (F1:List Nat) (a2:Option Addr) (c2:Nat) (F2:List Nat) (hg:goodRW x=true) (hq:areQ l x.next=true) (hf:∀q∈l,hasB x q.number=false) (hl:isSer lead=true) (k0:0≤ck) (k1:ck≤9999) (d0:1≤d) (d1:d≤8) :
  Fn Tryz.prog 321 [ptr g o 0,.int .i64 lead,.int .i64 d] [] [.row g t o A [.bool st,.int .i64 ck,.int .i64 (x).next,.slice a1 (x).slots.length c1,.slice a2 (l).length c2] B,.ow ESlot 247 (.slice a1 (x).slots.length c1) (x).slots F1,.ow ERequest 235 (.slice a2 (l).length c2) (l) F2] (fun (_:OwR)=>True)
   (fun _=>.tuple #[]) (fun s=>[.row g t o A [.bool st,.int .i64 ck,.int .i64 (x).next,.slice a1 (x).slots.length c1,.slice s.a (awaitQ x l lead (ck+d)).length s.c] B,.ow ESlot 247 (.slice a1 (x).slots.length c1) (x).slots F1,.ow ERequest 235 (.slice s.a (awaitQ x l lead (ck+d)).length s.c) (awaitQ x l lead (ck+d)) s.F]):=by
 obtain ⟨w0_,w1_⟩:=next_ser hg
 obtain ⟨l0_,l1_⟩:=isSer_iff.1 hl
 have hgb:=gp_bd x.next lead
 refine enter Tryz.func321 rfl Tryz.ntmps321 fun w0=>?_
 refine go ?_;intros
 refine ce (fun w s=>isBefore_c _ _ _ (by omega) (by omega) (by omega) (by omega)) ?_
 cases hb:bef x.next lead
 ·have e1:awaitQ x l lead (ck+d)=l:=by unfold awaitQ;rw [hb];rfl
  rw [e1]
  refine go ?_;intros
  refine ret ⟨_,_,_⟩ trivial rfl
 obtain ⟨k,hk⟩:∃k,k=awaitN x lead:=⟨_,rfl⟩
 have hk8:k≤8:=by rw [hk];exact awaitN_le _ _
 have hkm:((k:Nat):Int)=min (gp x.next lead) 8:=by rw [hk];unfold awaitN;omega
 obtain ⟨N,hN⟩:∃N,N=missL x k:=⟨_,rfl⟩
 have hNl:N.length≤8:=by have:=missL_len x k;rw [hN];omega
 have e1:awaitQ x l lead (ck+d)=addAll x.next (ck+d) l N:=by unfold awaitQ;rw [hb,if_pos rfl,hN,hk]
 rw [e1]
 have hav:=aft_bd x.next (min (gp x.next lead) 8)
 have hgp:gp x.next (aft x.next (min (gp x.next lead) 8))=(k:Nat):=by rw [←hkm];unfold gp aft;omega
 refine go ?_;intros
 refine d_start [0] [] ?_
 refine dt4 0 1 2 3 ?_
 refine dt4 4 5 6 12 ?_
 refine dN 7 ?_
 refine oC ?_
 refine ce (fun w s=>gap_c _ _ _ (by omega) (by omega) (by omega) (by omega)) ?_
 refine dk ?_
 refine dt 8 ?_
 refine dN 9 ?_
 refine oC ?_
 refine ce (fun w s=>after_c _ _ _ (by omega) (by omega)) ?_
 refine dk ?_
 refine dN 10 ?_
 refine oC ?_
 refine cfr (fun w st=>by obtain ⟨F9,hF9⟩:=rdRW (st.get (p:=.ow ESlot 247 (.slice a1 (x).slots.length c1) (x).slots F1) (by simp));exact ⟨_,hol1 hF9,rfl,RWmissing_f x _ k _ F9 w0_ w1_ (by omega) (by omega) hgp⟩) (fun m _=>?_)
 refine dk ?_
 refine dt 11 ?_
 refine dd ?_
 rw [←hN]
 refine t_read (E:=EInt) (xs:=N) fun GN=>?_
 refine go ?_;intros
 refine c_loopS [0,2,6,30,31] (fun s:AwS=>[(32,.int .i64 (s.i:Nat))]) (fun s=>[.row g t o A [.bool st,.int .i64 ck,.int .i64 (x).next,.slice a1 (x).slots.length c1,.slice s.a (addAll x.next (ck+d) l (N.take s.i)).length s.c] B,.ow ERequest 235 (.slice s.a (addAll x.next (ck+d) l (N.take s.i)).length s.c) (addAll x.next (ck+d) l (N.take s.i)) s.F]) (fun s=>s.i≤N.length) (fun s=>N.length - s.i) ⟨0,a2,c2,F2⟩ (Nat.zero_le _) fun s hs=>?_
 obtain ⟨i,a3,c3,F3⟩:=s
 dsimp only at hs ⊢
 have hall:=addAll_good (w:=x) (u:=ck+d) (by omega) (by omega) (N.take i) l (fun n hn=>by
  have:=missL_at (w:=x) (n:=n) hk8 (by rw [←hN];exact List.mem_of_mem_take hn)
  exact ⟨this.1,this.2.2⟩) hq hf
 have hLs:∀h:i < N.length,addAll x.next (ck+d) l (N.take (i+1))=addQ x.next (addAll x.next (ck+d) l (N.take i)) N[i] (ck+d):=fun h=>addAll_succ h
 generalize hLd:addAll x.next (ck+d) l (N.take i)=L at *
 have hLq:=hall.1
 have hL8:=(areQ_iff.1 hLq).2.1
 refine go ?_;intros
 refine c_if rfl (fun h4=>?_) (fun h4=>?_)
 ·have hi:i < N.length:=by omega
  have hni:=missL_at (w:=x) (n:=N[i]) hk8 (by rw [←hN];exact List.getElem_mem hi)
  refine at_int (xs:=N) i ?_
  rintro hi2 b o2 e
  rw [e]
  refine go ?_;intros
  refine d_start [1] [] ?_
  refine dt4 0 1 2 3 ?_
  refine dt4 4 5 6 7 ?_
  refine dt2 8 9 ?_
  refine dt 10 ?_
  refine dN 11 ?_
  refine oC ?_
  refine cfr (fun w st=>by obtain ⟨Fq, -,hq9⟩:=(st.get (p:=.ow ERequest 235 (.slice a3 (L).length c3) (L) F3) (by simp)).2.read;exact ⟨[.sl ERequest (.slice a3 L.length c3) L Fq],hol1 ⟨by decide,hq9⟩,rfl,AddRequest_f L x.next N[i] ck d a3 c3 Fq hLq hni.1 hni.2.1 k0 k1 d0 d1⟩) (fun u _=>?_)
  refine dk ?_
  refine dt4 12 13 14 15 ?_
  refine dt 16 ?_
  refine dd ?_
  refine go ?_;intros
  cases ho:askOn x.next L N[i]
  ·have eA:addAll x.next (ck+d) l (N.take (i+1))=addL x.next L N[i] (ck+d):=by rw [hLs hi];unfold addQ addL;rw [ho,decide_eq_true hni.2.1];rfl
   refine go ?_;intros
   rw [←eA]
   refine n_lp (⟨i+1,_,_,_⟩:AwS) (by show i+1≤N.length;omega) (by show N.length - (i+1) < N.length - i;omega)
  ·have eA:addAll x.next (ck+d) l (N.take (i+1))=L:=by rw [hLs hi];unfold addQ;rw [ho];rfl
   refine go ?_;intros
   rw [←eA]
   refine n_lp (⟨i+1,_,_,_⟩:AwS) (by show i+1≤N.length;omega) (by show N.length - (i+1) < N.length - i;omega)
 have hi:i=N.length:=by omega
 subst hi
 rw [List.take_length] at hLd
 rw [hLd]
 refine go ?_;intros
 refine t_fall ?_
 refine ret (⟨_,_,_⟩:OwR) trivial rfl
theorem IsValidPacket_f (p:Packet) (hs:p.data.size≤maxLen):Fn Tryz.prog 240 [.agg #[.int .i64 p.kind,.int .i64 p.number,.int .i64 p.trail,.int .i64 p.lead,.string p.data]] [] [] (fun (_:Unit)=>True) (fun _=>.bool (goodPk p)) (fun _=>[]):=by
 refine enter Tryz.func240 rfl Tryz.ntmps240 fun w0=>?_
 refine go ?_;intros
 refine ce (fun w s=>within_c _ _ _ _) ?_
 cases g1:btw 1 p.kind 5
 ·refine go ?_;intros
  refine ret () trivial ?_
  show Value.bool _=Value.bool _;congr 1;unfold goodPk;simp [g1]
 refine go ?_;intros
 refine ce (fun w s=>IsSerial_c _ _) ?_
 cases g2:isSer p.number
 ·refine go ?_;intros
  refine ret () trivial ?_
  show Value.bool _=Value.bool _;congr 1;unfold goodPk;simp [g2]
 refine go ?_;intros
 refine ce (fun w s=>IsSerial_c _ _) ?_
 cases g3:isSer p.trail
 ·refine go ?_;intros
  refine ret () trivial ?_
  show Value.bool _=Value.bool _;congr 1;unfold goodPk;simp [g3]
 refine go ?_;intros
 refine ce (fun w s=>IsSerial_c _ _) ?_
 cases g4:isSer p.lead
 ·refine go ?_;intros
  refine ret () trivial ?_
  show Value.bool _=Value.bool _;congr 1;unfold goodPk;simp [g4]
 refine go ?_;intros
 refine cb (fun w s=>isItem_c _ _ hs) ?_
 cases g5:itm p.data
 ·refine go ?_;intros
  refine ret () trivial ?_
  show Value.bool _=Value.bool _;congr 1;unfold goodPk;simp [g5]
 obtain ⟨t0,t1⟩:=isSer_iff.1 g3
 obtain ⟨l0,l1⟩:=isSer_iff.1 g4
 refine go ?_;intros
 refine ce (fun w s=>gap_c _ _ _ (by omega) (by omega) (by omega) (by omega)) ?_
 refine go ?_;intros
 refine wg_if rfl rfl (fun h6=>?_) (fun h6=>?_)
 ·refine go ?_;intros
  refine wg_if rfl rfl (fun h7=>?_) (fun h7=>?_)
  ·refine go ?_;intros
   refine ret () trivial ?_
   show Value.bool _=Value.bool _;congr 1;unfold goodPk;rw [g1,g2,g3,g4,g5,decide_eq_true h6,decide_eq_true h7];rfl
  refine go ?_;intros
  refine wg_if rfl rfl (fun h8=>?_) (fun h8=>?_)
  ·refine go ?_;intros
   refine ret () trivial ?_
   show Value.bool _=Value.bool _;congr 1;unfold goodPk;rw [g1,g2,g3,g4,g5,decide_eq_true h6,decide_eq_true h8];simp
  ·refine go ?_;intros
   refine ret () trivial ?_
   show Value.bool _=Value.bool _;congr 1;unfold goodPk;rw [g1,g2,g3,g4,g5,decide_eq_true h6,decide_eq_false h7,decide_eq_false h8];rfl
 ·refine go ?_;intros
  refine ret () trivial ?_
  show Value.bool _=Value.bool _;congr 1;unfold goodPk;simp [h6]
theorem l4Good_f (p:Packet) (hs:p.data.size≤maxLen):Fn Tryz.prog 221 [.agg #[.int .i64 p.kind,.int .i64 p.number,.int .i64 p.trail,.int .i64 p.lead,.string p.data]] [] [] (fun (_:Unit)=>True) (fun _=>.bool (goodPk p)) (fun _=>[]):=by
 refine enter Tryz.func221 rfl Tryz.ntmps221 fun w0=>?_
 refine go ?_;intros
 refine ce (fun w s=>l1In_c _ _ _ _) ?_
 cases g1:btw 1 p.kind 5
 ·refine go ?_;intros
  refine ret () trivial ?_
  show Value.bool _=Value.bool _;congr 1;unfold goodPk;simp [g1]
 refine go ?_;intros
 refine ce (fun w s=>l2Good_c _ _) ?_
 cases g2:isSer p.number
 ·refine go ?_;intros
  refine ret () trivial ?_
  show Value.bool _=Value.bool _;congr 1;unfold goodPk;simp [g2]
 refine go ?_;intros
 refine ce (fun w s=>l2Good_c _ _) ?_
 cases g3:isSer p.trail
 ·refine go ?_;intros
  refine ret () trivial ?_
  show Value.bool _=Value.bool _;congr 1;unfold goodPk;simp [g3]
 refine go ?_;intros
 refine ce (fun w s=>l2Good_c _ _) ?_
 cases g4:isSer p.lead
 ·refine go ?_;intros
  refine ret () trivial ?_
  show Value.bool _=Value.bool _;congr 1;unfold goodPk;simp [g4]
 obtain ⟨t0,t1⟩:=isSer_iff.1 g3
 obtain ⟨l0,l1⟩:=isSer_iff.1 g4
 refine go ?_;intros
 refine ce (fun w s=>l2Gap_c _ _ _ (by omega) (by omega)) ?_
 refine go ?_;intros
 refine wg_if rfl rfl (fun h6=>?_) (fun h6=>?_)
 ·refine go ?_;intros
  refine ret () trivial ?_
  have h6:¬gp p.trail p.lead≤32767:=by omega
  show Value.bool _=Value.bool _;congr 1;unfold goodPk;simp [h6]
 have h6:gp p.trail p.lead≤32767:=by omega
 refine go ?_;intros
 refine ce (fun w s=>l4Letters_c _ _ _ hs) ?_
 rw [show (decide ((p.data.size:Int)≤8) && lows p.data.data.toList)=itm p.data from rfl]
 cases g5:itm p.data
 ·refine go ?_;intros
  refine ret () trivial ?_
  show Value.bool _=Value.bool _;congr 1;unfold goodPk;simp [g5]
 refine go ?_;intros
 refine wg_if rfl rfl (fun h7=>?_) (fun h7=>?_)
 ·refine go ?_;intros
  refine ret () trivial ?_
  show Value.bool _=Value.bool _;congr 1;unfold goodPk;rw [g1,g2,g3,g4,g5,decide_eq_true h6,decide_eq_true h7];rfl
 refine go ?_;intros
 refine wg_if rfl rfl (fun h8=>?_) (fun h8=>?_)
 ·refine go ?_;intros
  refine ret () trivial ?_
  show Value.bool _=Value.bool _;congr 1;unfold goodPk;rw [g1,g2,g3,g4,g5,decide_eq_true h6,decide_eq_true h8];simp
 ·refine go ?_;intros
  refine ret () trivial ?_
  show Value.bool _=Value.bool _;congr 1;unfold goodPk;rw [g1,g2,g3,g4,g5,decide_eq_true h6,decide_eq_false h7,decide_eq_false h8];rfl
def delB (x:ReceiveWindow) (q:Request):Bool:=bef q.number x.next || decide (8≤gp x.next q.number) || hasB x q.number
theorem need_eq {l:List Request} {x:ReceiveWindow}:(l.filter fun q=>!delB x q)=needed l x:=by
 unfold needed delB
 refine List.filter_congr fun q _=>?_
 have e:decide (8≤gp x.next q.number) = !decide (gp x.next q.number < 8):=by rw [←decide_not];exact decide_eq_decide.2 (by omega)
 rw [e]
 cases bef q.number x.next <;> cases hasB x q.number <;> simp
theorem news1_f (q:Request) (x:ReceiveWindow) (nb gb g o:Nat) (st:Bool) (ck:Int) (qv:Value) (a1:Option Addr) (c1:Nat) (F:List Nat) (w0_:0≤x.next) (w1_:x.next≤65535) (hn:isSer q.number=true) :
  Fn Tryz.prog 320 [.agg #[.int .i64 q.number,.int .i64 q.state,.int .i64 q.untl,.int .i64 q.tries],ptr nb 0 0,ptr gb 0 0] [.cel nb 0 [.int .i64 x.next],.cel gb 0 [ptr g o 0],.cel g o [.bool st,.int .i64 ck,.int .i64 x.next,.slice a1 x.slots.length c1,qv],.isv EReceiveWindow (.agg #[.int .i64 x.next,.slice a1 x.slots.length c1]) x F] [] (fun (_:Unit)=>True) (fun _=>.bool (delB x q)) (fun _=>[]):=by
 obtain ⟨n0,n1⟩:=isSer_iff.1 hn
 have hgb:=gp_bd x.next q.number
 refine enter Tryz.func320 rfl Tryz.ntmps320 fun w0=>?_
 refine go ?_;intros
 cases hb:bef q.number x.next
 rotate_left
 ·rw [show delB x q=true by unfold delB;rw [hb];rfl]
  refine d_start [0,1,2,3,4] [] ?_
  refine dt2 0 1 ?_
  refine dt 2 ?_
  refine dN 3 ?_
  refine oC ?_
  refine ce (fun w s=>isBefore_c _ _ _ (by omega) (by omega) (by omega) (by omega)) ?_
  rw [hb]
  refine dk ?_
  refine dt 4 ?_
  refine ds 5 ?_
  refine ds 6 ?_
  refine ds 7 ?_
  refine ds 8 ?_
  refine ds 9 ?_
  refine dt2 10 11 ?_
  refine ds 12 ?_
  refine ds 13 ?_
  refine ds 14 ?_
  refine ds 15 ?_
  refine ds 16 ?_
  refine ds 17 ?_
  refine ds 18 ?_
  refine dt2 19 20 ?_
  refine dd ?_
  refine go ?_;intros
  refine ret () trivial rfl
 by_cases h8':8≤gp x.next q.number
 ·have h8:=decide_eq_true h8'
  rw [show delB x q=true by unfold delB;rw [h8];simp]
  refine d_start [0,1,2,3,4] [] ?_
  refine dt2 0 1 ?_
  refine dt 2 ?_
  refine dN 3 ?_
  refine oC ?_
  refine ce (fun w s=>isBefore_c _ _ _ (by omega) (by omega) (by omega) (by omega)) ?_
  rw [hb]
  refine dk ?_
  refine dt 4 ?_
  refine dtg 5 ?_
  refine dtg 6 ?_
  refine dtg 7 ?_
  refine d1g 8 ?_
  apply On.h
  refine oC ?_
  refine ce (fun w s=>gap_c _ _ _ (by omega) (by omega) (by omega) (by omega)) ?_
  refine dk ?_
  refine dtg 9 ?_
  rw [h8]
  refine dt2 10 11 ?_
  refine ds 12 ?_
  refine ds 13 ?_
  refine ds 14 ?_
  refine ds 15 ?_
  refine ds 16 ?_
  refine ds 17 ?_
  refine ds 18 ?_
  refine dt2 19 20 ?_
  refine dd ?_
  refine go ?_;intros
  refine ret () trivial rfl
 ·have h8:=decide_eq_false h8'
  rw [show delB x q=hasB x q.number by unfold delB;rw [hb,h8];rfl]
  refine d_start [0,1,2,3,4] [] ?_
  refine dt2 0 1 ?_
  refine dt 2 ?_
  refine dN 3 ?_
  refine oC ?_
  refine ce (fun w s=>isBefore_c _ _ _ (by omega) (by omega) (by omega) (by omega)) ?_
  rw [hb]
  refine dk ?_
  refine dt 4 ?_
  refine dtg 5 ?_
  refine dtg 6 ?_
  refine dtg 7 ?_
  refine d1g 8 ?_
  apply On.h
  refine oC ?_
  refine ce (fun w s=>gap_c _ _ _ (by omega) (by omega) (by omega) (by omega)) ?_
  refine dk ?_
  refine dtg 9 ?_
  rw [h8]
  refine dt2 10 11 ?_
  refine dtg 12 ?_
  refine dtg 13 ?_
  refine dtg 14 ?_
  refine dtg 15 ?_
  refine dtg 16 ?_
  refine dtg 17 ?_
  refine d1g 18 ?_
  apply On.h
  refine oC ?_
  refine cf (RWhas_f x q.number _ F w0_ w1_ n0 n1) fun _ _=>?_
  refine t_app ?_
  refine dk ?_
  refine dt2 19 20 ?_
  refine dd ?_
  refine go ?_;intros
  refine ret () trivial rfl
structure NwS where
 a1:Option Addr
 c1:Nat
 F1:List Nat
 a2:Option Addr
 c2:Nat
 F2:List Nat
 ae:Option Addr
 ce:Nat
 Fe:List Nat
theorem Rnews_f (r:Receiver) (p:Packet) (d:Int) (g t o:Nat) (A B:List Value) (a1:Option Addr) (c1:Nat) (F1:List Nat) (a2:Option Addr) (c2:Nat) (F2:List Nat) (hg:GoodR r) (hp:goodPk p=true) (d0:1≤d) (d1:d≤8) :
  Fn Tryz.prog 300 [ptr g o 0,.agg #[.int .i64 p.kind,.int .i64 p.number,.int .i64 p.trail,.int .i64 p.lead,.string p.data],.int .i64 d] [] [.row g t o A [.bool r.started,.int .i64 r.clock,.int .i64 (r.window).next,.slice a1 (r.window).slots.length c1,.slice a2 (r.requests).length c2] B,.ow ESlot 247 (.slice a1 (r.window).slots.length c1) (r.window).slots F1,.ow ERequest 235 (.slice a2 (r.requests).length c2) (r.requests) F2] (fun (_:NwS)=>True)
   (fun s=>.slice s.ae (newsE r p).length s.ce) (fun s=>[.row g t o A [.bool (newsR r p d).started,.int .i64 (newsR r p d).clock,.int .i64 ((newsR r p d).window).next,.slice s.a1 ((newsR r p d).window).slots.length s.c1,.slice s.a2 ((newsR r p d).requests).length s.c2] B,.ow ESlot 247 (.slice s.a1 ((newsR r p d).window).slots.length s.c1) ((newsR r p d).window).slots s.F1,.ow ERequest 235 (.slice s.a2 ((newsR r p d).requests).length s.c2) ((newsR r p d).requests) s.F2,.ow EStr 9 (.slice s.ae (newsE r p).length s.ce) (newsE r p) s.Fe]):=by
 have k0:=hg.k0
 have k1:=hg.k1
 obtain ⟨-,q1,q2, -⟩:=areQ_iff.1 hg.q
 have hser:∀q∈r.requests,isSer q.number=true:=fun q hq=>(req_at hg hq).1
 obtain ⟨hsg, -⟩:=start_good hg hp
 obtain ⟨htg, -,htl⟩:=taken_good hg hp
 obtain ⟨hng,hnq, -,hnl⟩:=news_good hg hp d0 d1 (by omega)
 obtain ⟨s0_,s1_⟩:=next_ser hsg
 obtain ⟨v0_,v1_⟩:=next_ser hng
 obtain ⟨hw8,hit⟩:=good_items hsg
 obtain ⟨n0,n1⟩:=goodPk_num hp
 have hp2:=hp
 unfold goodPk at hp2
 simp only [Bool.and_eq_true] at hp2
 have htr:isSer p.trail=true:=hp2.1.1.1.1.2
 have hld:isSer p.lead=true:=hp2.1.1.1.2
 have hps:p.data.size≤8:=itm_size hp2.1.1.2
 refine enter Tryz.func300 rfl Tryz.ntmps300 fun w0=>?_
 refine go ?_;intros
 rename_i g3 g4
 refine c_joinS [2,3,4,6] [0,1,4] (fun _:Unit=>[]) (fun _=>[.row g t o A [.bool true,.int .i64 r.clock,.int .i64 (startW r p).next,.slice a1 (startW r p).slots.length c1,.slice a2 r.requests.length c2] B,.ow ESlot 247 (.slice a1 (startW r p).slots.length c1) (startW r p).slots F1]) (fun _=>True) ?_ fun _ _=>?_
 ·cases hs:r.started
  ·by_cases hk:p.kind=5
   ·have e:startW r p=⟨p.lead,r.window.slots⟩:=by unfold startW;rw [hs,if_pos hk];rfl
    have hkd:decide (p.kind=5)=true:=decide_eq_true hk
    rw [e]
    refine go ?_;intros
    refine c_if rfl (fun _=>?_) (fun h=>absurd hk h)
    refine go ?_;intros
    refine n_join () trivial
   ·have e:startW r p=⟨p.number,r.window.slots⟩:=by unfold startW;rw [hs,if_neg hk];rfl
    rw [e]
    refine go ?_;intros
    refine c_if rfl (fun h=>absurd h hk) (fun _=>?_)
    refine go ?_;intros
    refine n_join () trivial
  ·have e:startW r p=r.window:=by unfold startW;rw [hs];rfl
   rw [e]
   refine go ?_;intros
   refine n_join () trivial
 refine go ?_;intros
 refine c_joinS [2,3,4,6] [2,3,4] (fun s:SkS=>[(7,.slice s.ae (takenE r p).length s.ce)]) (fun s=>[.row g t o A [.bool true,.int .i64 r.clock,.int .i64 (takenW r p).next,.slice s.a (takenW r p).slots.length s.c,.slice a2 r.requests.length c2] B,.ow ESlot 247 (.slice s.a (takenW r p).slots.length s.c) (takenW r p).slots s.F,.ow EStr 9 (.slice s.ae (takenE r p).length s.ce) (takenE r p) s.Fe]) (fun _=>True) ?_ fun s _=>?_
 ·by_cases hk:p.kind=5
  ·have e1:takenW r p=startW r p:=by unfold takenW;rw [if_pos hk]
   have e2:takenE r p=[]:=by unfold takenE;rw [if_pos hk]
   refine c_if rfl (fun h=>absurd hk h) (fun _=>?_)
   rw [e1,e2]
   refine t_nilow EStr 9 ?_
   refine go ?_;intros
   refine n_join (⟨a1,c1,F1,none,0,[]⟩:SkS) trivial
  ·have e1:takenW r p=takeW (startW r p) p.number p.data:=by unfold takenW;rw [if_neg hk]
   have e2:takenE r p=takeE (startW r p) p.number p.data:=by unfold takenE;rw [if_neg hk]
   refine c_if rfl (fun _=>?_) (fun h=>absurd hk h)
   rw [e1,e2]
   refine t_rin [.bool true,.int .i64 r.clock] [.int .i64 (startW r p).next,.slice a1 (startW r p).slots.length c1] [.slice a2 r.requests.length c2] ?_
   refine go ?_;intros
   refine d_start [2,3] [] ?_
   refine dt4 0 1 2 3 ?_
   refine dt2 4 5 ?_
   refine dt 6 ?_
   refine dN 7 ?_
   refine oC ?_
   refine cf (RWtake_f (startW r p) p.number p.data g t (o+2) (A++[.bool true,.int .i64 r.clock]) _ a1 c1 F1 s0_ s1_ n0 n1 hw8 hit hps) fun y hy=>?_
   refine t_app ?_
   obtain ⟨hy1,hy2⟩:=hy
   refine dk ?_
   refine dt4 8 9 10 11 ?_
   refine dd ?_
   refine t_rout [.bool true,.int .i64 r.clock] [.int .i64 y.y.next,.slice y.a y.y.slots.length y.c] [.slice a2 r.requests.length c2] ?_
   rw [←hy1,←hy2]
   refine go ?_;intros
   refine n_join (⟨_,_,_,_,_,_⟩:SkS) trivial
 obtain ⟨a3,c3,F3,ae,ce,Fe⟩:=s
 dsimp only
 refine go ?_;intros
 refine cf (Rskip_f (takenW r p) true r.clock p.trail _ g t o A B a3 c3 F3 htg htr) fun y _=>?_
 refine t_app ?_
 have hsl:(skipE (takenW r p) p.trail).length≤24:=by unfold newsE at hnl;rw [List.length_append] at hnl;omega
 refine t_read (E:=EStr) (xs:=skipE (takenW r p) p.trail) fun G8=>?_
 refine go ?_;intros
 apply wO
 refine aps (ys:=skipE (takenW r p) p.trail) one_EStr scal_EStr fun a9 c9 F9=>?_
 rw [show takenE r p++skipE (takenW r p) p.trail=newsE r p from rfl,show skipW (takenW r p) p.trail=newsW r p from rfl]
 refine go ?_;intros
 rename_i g11
 refine d_start [3,6] [9] ?_
 refine dt4 0 1 2 3 ?_
 refine dt2 4 5 ?_
 refine dN 6 ?_
 refine oC ?_
 refine cfm (M:=[.ow ERequest 235 (.slice a2 r.requests.length c2) r.requests F2]) (.cons (by repeat (first|exact .here|apply Pick.there)) .nil) (fun w st=>by
   have r1:=st.on (.row g11 3 0 [] [.int .i64 (newsW r p).next] []) (by simp)
   have r2:=st.on (.row g3 255 0 [] [ptr g o 0] []) (by simp)
   have r3:=st.on (.row g t o A [.bool true,.int .i64 r.clock,.int .i64 (newsW r p).next,.slice y.a (newsW r p).slots.length y.c,.slice a2 r.requests.length c2] B) (by simp)
   obtain ⟨Fw,hFw,hw⟩:=(st.on (.ow ESlot 247 (.slice y.a (newsW r p).slots.length y.c) (newsW r p).slots y.F) (by simp)).2.read
   refine ⟨[.cel g11 0 [.int .i64 (newsW r p).next],.cel g3 0 [ptr g o 0],.cel g o [.bool true,.int .i64 r.clock,.int .i64 (newsW r p).next,.slice y.a (newsW r p).slots.length y.c,.slice a2 r.requests.length c2],.isv EReceiveWindow (.agg #[.int .i64 (newsW r p).next,.slice y.a (newsW r p).slots.length y.c]) (newsW r p) Fw],?_,rfl,?_,DelReq_f 320 [] [ptr g11 0 0,ptr g3 0 0] _ rfl r.requests a2 c2 F2 (fun q=>delB (newsW r p) q) (by kernel_rfl) (by omega) (fun q hq w' hA=>(news1_f q (newsW r p) g11 g3 g o true r.clock _ y.a y.c Fw v0_ v1_ (hser q hq)).val w' hA)⟩
   ·intro q hq
    simp only [List.mem_cons,List.not_mem_nil,or_false] at hq
    rcases hq with rfl|rfl|rfl|rfl
    ·exact ⟨by simp,row_range r1⟩
    ·exact ⟨by simp,row_range r2⟩
    ·exact ⟨by simp,row_range r3⟩
    ·exact ⟨_,rfl,_,rfl,hw⟩
   ·intro q hq b hb
    simp only [List.mem_cons,List.not_mem_nil,or_false] at hq
    rcases hq with rfl|rfl|rfl|rfl
    ·exact ⟨.row g11 3 0 [] [.int .i64 (newsW r p).next] [],by simp,hb⟩
    ·exact ⟨.row g3 255 0 [] [ptr g o 0] [],by simp,hb⟩
    ·exact ⟨.row g t o A [.bool true,.int .i64 r.clock,.int .i64 (newsW r p).next,.slice y.a (newsW r p).slots.length y.c,.slice a2 r.requests.length c2] B,by simp,hb⟩
    ·exact ⟨.ow ESlot 247 (.slice y.a (newsW r p).slots.length y.c) (newsW r p).slots y.F,by simp,hFw b hb⟩) (fun z _=>?_)
 rw [need_eq]
 refine dk ?_
 refine dt2 7 8 ?_
 refine dN 9 ?_
 refine oS ?_
 refine dkx ?_
 refine dd ?_
 refine go ?_;intros
 refine cf (Rawait_f (newsW r p) (needed r.requests (newsW r p)) true r.clock p.lead d g t o A B y.a y.c y.F z.1 z.2.1 z.2.2 hng hnq needed_free hld k0 k1 d0 d1) fun u _=>?_
 refine t_app ?_
 refine go ?_;intros
 refine ret ⟨_,_,_,_,_,_,_,_,_⟩ trivial rfl
structure OwnS where
 g:Nat
 a:Option Addr
 c:Nat
 F:List Nat
theorem l13Own_f (x:Receiver) (v:Value) (F:List Nat) (hl:x.window.slots.length≤1000000000) (hl2:x.requests.length≤1000000000):Fn Tryz.prog 138 [v] [.isv EReceiver v x F] [] (fun (_:Value × List Nat)=>True) (fun s=>s.1) (fun s=>[.own OReceiver s.1 x s.2]):=by
 refine enter Tryz.func138 rfl Tryz.ntmps138 fun w0=>?_
 refine openReceiver ?_
 rintro a1 c1 F1 a2 c2 F2 rfl l1 l2
 refine go ?_;intros
 refine c_joinS [1,2] [0,1,2,3,4] (fun s:OwnS=>[(3,ptr s.g 0 0)]) (fun s=>[.row s.g 146 0 [] [.int .i64 x.window.next,.slice s.a x.window.slots.length s.c] [],.ow ESlot 247 (.slice s.a x.window.slots.length s.c) x.window.slots s.F]) (fun _=>True) ?_ fun s _=>?_
 ·skip
  refine d_start [1] [] ?_
  refine dt4 0 1 2 4 ?_
  refine dt2 5 6 ?_
  refine dM 3 9 ?_ ?_
  ·apply o_bs0;rfl;intro _
   refine t_emp ESlot ?_
   refine dk ?_
   refine dM 7 9 ?_ ?_
   ·refine aps one_ESlot scal_ESlot fun a5 c5 F5=>?_
    rw [List.nil_append]
    refine dk ?_
    refine dt 8 ?_
    refine dN 9 ?_
    apply o_alloc;rfl;intro _
    refine dk ?_
    refine dN 10 ?_
    refine oS ?_
    refine dk ?_
    refine dd ?_
    refine n_join (⟨_,_,_,_⟩:OwnS) trivial
   ·apply o_alloc;rfl;intro _
    refine dk ?_
    refine dN 7 ?_
    refine aps one_ESlot scal_ESlot fun a5 c5 F5=>?_
    rw [List.nil_append]
    refine dk ?_
    refine dt 8 ?_
    refine dN 10 ?_
    refine oS ?_
    refine dk ?_
    refine dd ?_
    refine n_join (⟨_,_,_,_⟩:OwnS) trivial
  ·apply o_alloc;rfl;intro _
   refine dk ?_
   refine dN 3 ?_
   apply o_bs0;rfl;intro _
   refine t_emp ESlot ?_
   refine dk ?_
   refine dN 7 ?_
   refine aps one_ESlot scal_ESlot fun a5 c5 F5=>?_
   rw [List.nil_append]
   refine dk ?_
   refine dt 8 ?_
   refine dN 10 ?_
   refine oS ?_
   refine dk ?_
   refine dd ?_
   refine n_join (⟨_,_,_,_⟩:OwnS) trivial
 obtain ⟨g3,a5,c5,F5⟩:=s
 dsimp only
 refine go ?_;intros
 refine d_start [0,3] [] ?_
 refine dt4 0 1 2 3 ?_
 refine dt2 4 6 ?_
 refine dt 7 ?_
 refine dN 5 ?_
 apply o_bs0;rfl;intro _
 refine t_emp ERequest ?_
 refine dk ?_
 refine dN 8 ?_
 refine aps one_ERequest scal_ERequest fun a6 c6 F6=>?_
 rw [List.nil_append]
 refine dk ?_
 refine dt 9 ?_
 refine dN 10 ?_
 refine oS ?_
 refine dk ?_
 refine dd ?_
 refine go ?_;intros
 refine closeOReceiver x ?_
 refine ret (_,_) trivial rfl
theorem l13Needed_f (l:List Request) (w:ReceiveWindow) (a:Option Addr) (c:Nat) (F:List Nat) (v:Value) (Fw:List Nat) (hl:l.length≤1000000) (hs:∀q∈l,isSer q.number=true) (w0_:0≤w.next) (w1_:w.next≤65535):Fn Tryz.prog 226 [.slice a l.length c,v] [.sl ERequest (.slice a l.length c) l F,.isv EReceiveWindow v w Fw] [] (fun (_:Option Addr × Nat × List Nat)=>True) (fun z=>.slice z.1 (needed l w).length z.2.1) (fun z=>[.ow ERequest 235 (.slice z.1 (needed l w).length z.2.1) (needed l w) z.2.2]):=by
 refine enter Tryz.func226 rfl Tryz.ntmps226 fun w0=>?_
 refine openReceiveWindow ?_
 rintro a1 c1 F1 rfl l1
 refine go ?_;intros
 refine t_emp ERequest ?_
 refine c_loopS [0,3,4] (fun s:PkS=>[(6,.int .i64 (s.k:Nat)),(5,.slice s.a (needed (l.take s.k) w).length s.c)]) (fun s=>[.ow ERequest 235 (.slice s.a (needed (l.take s.k) w).length s.c) (needed (l.take s.k) w) s.F]) (fun s=>s.k≤l.length) (fun s=>l.length - s.k) ⟨0,_,_,_⟩ (Nat.zero_le _) fun s hk=>?_
 obtain ⟨k,a4,c4,F4⟩:=s
 dsimp only at hk ⊢
 refine go ?_;intros
 refine c_if rfl (fun h4=>?_) (fun h4=>?_)
 ·have hk:k < l.length:=by omega
  have hkl:(needed (l.take k) w).length≤k:=Nat.le_trans (List.length_filter_le _ _) (by rw [List.length_take];omega)
  have hsk:=hs _ (List.getElem_mem hk)
  obtain ⟨n0,n1⟩:=isSer_iff.1 hsk
  have en:∀b,(!(bef l[k].number w.next || hasB w l[k].number) && decide (gp w.next l[k].number < 8))=b→needed (l.take (k+1)) w=needed (l.take k) w++if b then [l[k]] else []:=fun b hb=>by
   unfold needed
   rw [List.take_add_one,List.getElem?_eq_getElem hk,List.filter_append]
   congr 1
   show ([l[k]].filter _)=_
   rw [List.filter_cons,List.filter_nil,hb]
  refine atRequest (xs:=l) k ?_
  rintro hi b o e
  rw [e]
  refine go ?_;intros
  cases g5:(bef l[k].number w.next || hasB w l[k].number)
  ·skip
   refine d_start [0,2] [] ?_
   refine dt4 0 1 2 3 ?_
   refine dt2 4 5 ?_
   refine dN 6 ?_
   refine oC ?_
   refine cf (l10Have_f w l[k].number _ Fw w0_ w1_ n0 n1) fun _ _=>?_
   refine t_app ?_
   rw [show takeNo w l[k].number=(bef l[k].number w.next || hasB w l[k].number) from rfl,g5]
   refine dk ?_
   refine dt2 7 8 ?_
   refine dtg 9 ?_
   refine dtg 10 ?_
   refine dtg 11 ?_
   refine dtg 12 ?_
   refine dtg 13 ?_
   refine dtg 14 ?_
   refine dtg 15 ?_
   refine d1g 16 ?_
   apply On.h
   refine oC ?_
   refine ce (fun w s=>l2Gap_c _ _ _ (by omega) (by omega)) ?_
   refine dk ?_
   refine dtg 17 ?_
   refine dt 18 ?_
   refine dd ?_
   refine go ?_;intros
   refine c_if rfl (fun h6=>?_) (fun h6=>?_)
   ·have e1:=en true (by rw [g5,decide_eq_true h6];rfl)
    refine go ?_;intros
    apply wO
    refine ap1 (ys:=[l[k]]) (flatRequest l[k]) one_ERequest fun a7 c7 F7=>?_
    refine go ?_;intros
    rw [show needed (l.take k) w++[l[k]]=needed (l.take (k+1)) w from e1.symm]
    refine n_lp (⟨k+1,_,_,_⟩:PkS) (by show k+1≤l.length;omega) (by show l.length - (k+1) < l.length - k;omega)
   ·have e1:=en false (by rw [g5,decide_eq_false h6];rfl)
    refine go ?_;intros
    rw [show needed (l.take k) w=needed (l.take (k+1)) w by rw [e1];simp]
    refine n_lp (⟨k+1,_,_,_⟩:PkS) (by show k+1≤l.length;omega) (by show l.length - (k+1) < l.length - k;omega)
  ·skip
   refine d_start [0,2] [] ?_
   refine dt4 0 1 2 3 ?_
   refine dt2 4 5 ?_
   refine dN 6 ?_
   refine oC ?_
   refine cf (l10Have_f w l[k].number _ Fw w0_ w1_ n0 n1) fun _ _=>?_
   refine t_app ?_
   rw [show takeNo w l[k].number=(bef l[k].number w.next || hasB w l[k].number) from rfl,g5]
   refine dk ?_
   refine dt2 7 8 ?_
   refine ds 9 ?_
   refine ds 10 ?_
   refine ds 11 ?_
   refine ds 12 ?_
   refine ds 13 ?_
   refine ds 14 ?_
   refine ds 15 ?_
   refine ds 16 ?_
   refine ds 17 ?_
   refine dt 18 ?_
   refine dd ?_
   have e1:=en false (by rw [g5];rfl)
   refine go ?_;intros
   rw [show needed (l.take k) w=needed (l.take (k+1)) w by rw [e1];simp]
   refine n_lp (⟨k+1,_,_,_⟩:PkS) (by show k+1≤l.length;omega) (by show l.length - (k+1) < l.length - k;omega)
 have hk:k=l.length:=by omega
 subst hk
 rw [List.take_length]
 refine go ?_;intros
 refine ret (_,_,_) trivial rfl
structure GvS where
 g:Nat
 y:RelS
theorem l13Tick_f (r:Receiver) (d:Int) (v:Value) (F:List Nat) (hg:GoodR r) (d0:0≤d) (d1:d≤100) (_hx:r.clock≤99999) :
  Fn Tryz.prog 159 [v,.int .i64 d] [.isv EReceiver v r F] [] (fun (_:TkR)=>True) (fun s=>.tuple #[.agg #[.bool (tickRec r d).started,.int .i64 (tickRec r d).clock,.int .i64 (tickRec r d).window.next,.slice s.a1 (tickRec r d).window.slots.length s.c1,.slice s.a2 (tickRec r d).requests.length s.c2],.slice s.a3 (tickPk r).length s.c3,.slice s.a4 (tickEv r).length s.c4])
   (fun s=>[.isv EReceiver (.agg #[.bool (tickRec r d).started,.int .i64 (tickRec r d).clock,.int .i64 (tickRec r d).window.next,.slice s.a1 (tickRec r d).window.slots.length s.c1,.slice s.a2 (tickRec r d).requests.length s.c2]) (tickRec r d) s.F1,.ow EPacket 127 (.slice s.a3 (tickPk r).length s.c3) (tickPk r) s.F3,.ow EStr 9 (.slice s.a4 (tickEv r).length s.c4) (tickEv r) s.F4]):=by
 have k0:=hg.k0
 have k1:=hg.k1
 obtain ⟨-,q1,q2, -⟩:=areQ_iff.1 hg.q
 obtain ⟨w0_,w1_⟩:=next_ser hg.w
 obtain ⟨hw8,hit⟩:=good_items hg.w
 have hpl:(r.requests.filterMap (tkS (r.clock+1))).length≤8:=Nat.le_trans (List.length_filterMap_le _ _) q1
 refine enter Tryz.func159 rfl Tryz.ntmps159 fun w0=>?_
 refine openReceiver (v:=v) (x:=r) (F:=F) ?_
 rintro a1 c1 F1 a2 c2 F2 rfl l1 l2
 refine go ?_;intros
 refine cf (l13Own_f r _ F (by omega) (by omega)) fun u _=>?_
 refine t_app ?_
 refine openOReceiver ?_
 rintro a5 c5 F5 a6 c6 F6 e6 - -
 rw [e6]
 refine t_read (E:=ESlot) fun G5=>?_
 refine go ?_;intros
 refine cf (l12Tick_f r.requests (r.clock+1) d a2 c2 F2 (by omega) (fun q hq=>⟨(okReq_iff.1 (q2 q hq)).t0,(okReq_iff.1 (q2 q hq)).t1⟩) (by omega) (by omega) (by omega) (by omega)) fun z _=>?_
 refine t_app ?_
 rw [show r.requests.filterMap (tkL (r.clock+1))=tkLost r from rfl,show r.requests.filterMap (tkO (r.clock+1) d)=tkReq r d from rfl]
 refine t_read (E:=EInt) (xs:=r.requests.filterMap (tkS (r.clock+1))) fun G2=>?_
 refine t_read (E:=EInt) (xs:=tkLost r) fun G3=>?_
 refine t_emp EStr ?_
 refine t_emp EPacket ?_
 refine go ?_;intros
 refine c_loopS [2,4,5,6,7,9,11,12] (fun s:PkS=>[(13,.int .i64 (s.k:Nat)),(8,.slice s.a (((r.requests.filterMap (tkS (r.clock+1))).take s.k).map (pkR r.window.next)).length s.c)]) (fun s=>[.ow EPacket 127 (.slice s.a (((r.requests.filterMap (tkS (r.clock+1))).take s.k).map (pkR r.window.next)).length s.c) (((r.requests.filterMap (tkS (r.clock+1))).take s.k).map (pkR r.window.next)) s.F]) (fun s=>s.k≤(r.requests.filterMap (tkS (r.clock+1))).length) (fun s=>(r.requests.filterMap (tkS (r.clock+1))).length - s.k) ⟨0,_,_,_⟩ (Nat.zero_le _) fun s hs=>?_
 obtain ⟨k,a4,c4,F4⟩:=s
 dsimp only at hs ⊢
 generalize hsn:r.requests.filterMap (tkS (r.clock+1))=sn at *
 refine go ?_;intros
 refine c_if rfl (fun h4=>?_) (fun h4=>?_)
 ·have hk:k < sn.length:=by omega
  have hkl:((sn.take k).map (pkR r.window.next)).length≤k:=by simp;omega
  refine at_int (xs:=sn) k ?_
  rintro hi b o2 e
  rw [e]
  refine go ?_;intros
  have eo:(sn.take (k+1)).map (pkR r.window.next)=(sn.take k).map (pkR r.window.next)++[pkR r.window.next sn[k]]:=by rw [List.take_add_one,List.getElem?_eq_getElem hk,List.map_append];rfl
  refine d_start [0,10] [] ?_
  refine dt4 0 1 2 3 ?_
  refine dt4 4 5 6 7 ?_
  refine dt4 8 9 10 11 ?_
  refine dN 12 ?_
  apply o_bs;rfl;rfl;rfl;rfl;exact rptE;exact filE;intro _
  refine dk ?_
  refine dN 13 ?_
  refine ap1 (ys:=[pkR r.window.next sn[k]]) (flatPacket (pkR r.window.next sn[k]) (by show (0:Nat)≤maxLen;exact Nat.zero_le _)) one_EPacket fun a7 c7 F7=>?_
  refine dk ?_
  refine dt 14 ?_
  refine dd ?_
  refine go ?_;intros
  rw [←eo]
  refine n_lp (⟨k+1,_,_,_⟩:PkS) (by show k+1≤sn.length;omega) (by show sn.length - (k+1) < sn.length - k;omega)
 have hk:k=sn.length:=by omega
 subst hk
 rw [List.take_length]
 have ep:tickPk r=sn.map (pkR r.window.next):=by unfold tickPk;rw [hsn]
 rw [ep]
 refine go ?_;intros
 by_cases hL:tkLost r=[]
 ·refine c_if rfl (fun h=>absurd h (by rw [hL];decide)) (fun _=>?_)
  rw [tickR_no hL,tickE_no hL]
  refine go ?_;intros
  refine t_read (E:=ERequest) fun F8=>?_
  refine closeReceiver (a1:=a5) ⟨r.started,r.clock+1,r.window,tkReq r d⟩ ?_
  refine ret ⟨_,_,_,_,_,[],_,_,_,_,_,_⟩ trivial rfl
 ·have hl0:=List.length_pos_iff.2 hL
  refine c_if rfl (fun _=>?_) (fun h=>absurd h (by omega))
  rw [tickR_yes hL,tickE_yes hL]
  obtain ⟨hs8,hsr⟩:=lost_gp hg hL
  have hll8:=tkLost_len r
  obtain ⟨hs0,hs1⟩:=isSer_iff.1 hsr
  have hll:=lost_last hL
  obtain ⟨l0,l1⟩:=isSer_iff.1 (tkLost_at hg (List.getElem_mem (show (tkLost r).length - 1 < (tkLost r).length by omega))).1
  have hi1:((tkLost r).length:Int) - 1=(((tkLost r).length - 1:Nat):Int):=by omega
  refine closeReceiveWindow (a1:=a5) r.window ?_
  generalize G5=FW
  refine at_int (xs:=tkLost r) ((tkLost r).length - 1) ?_
  rintro hi b o2 e
  rw [e]
  refine go ?_;intros
  refine c_joinS [4,5,6,7,8,9] [2,3,6,7,10,14] (fun s:GvS=>[(15,ptr s.g 0 0),(16,.slice s.y.ae s.y.es.length s.y.ce)]) (fun s=>[.row s.g 146 0 [] [.int .i64 s.y.y.next,.slice s.y.a s.y.y.slots.length s.y.c] [],.isv EReceiveWindow (.agg #[.int .i64 s.y.y.next,.slice s.y.a s.y.y.slots.length s.y.c]) s.y.y s.y.F,.ow EStr 9 (.slice s.y.ae s.y.es.length s.y.ce) s.y.es s.y.Fe]) (fun s=>s.y.y=movedW r.window (lostTrail (tkLost r))∧s.y.es=movedE r.window (lostTrail (tkLost r))) ?_ fun s hy=>?_
  ·skip
   refine d_start [0,7] [] ?_
   refine dt4 0 1 2 3 ?_
   refine dt 4 ?_
   rw [hi1]
   refine dt2 5 6 ?_
   refine dM 7 12 ?_ ?_
   ·refine oC ?_
    refine ce (fun w s=>l2After_c _ _ _ (by omega) (by omega)) ?_
    rw [←hll]
    refine dk ?_
    refine dM 8 12 ?_ ?_
    ·refine oC ?_
     refine cf (l10GiveUp_f r.window (lostTrail (tkLost r)) _ FW w0_ w1_ hs0 hs1 hw8 hit) fun y hy=>?_
     refine t_app ?_
     refine dk ?_
     refine dt2 9 10 ?_
     refine dt 11 ?_
     refine dN 12 ?_
     apply o_alloc;rfl;intro _
     refine dk ?_
     refine dN 13 ?_
     refine oS ?_
     refine dk ?_
     refine dt 14 ?_
     refine dd ?_
     refine n_join (⟨_,y⟩:GvS) hy
    ·apply o_alloc;rfl;intro _
     refine dk ?_
     refine dN 8 ?_
     refine oC ?_
     refine cf (l10GiveUp_f r.window (lostTrail (tkLost r)) _ FW w0_ w1_ hs0 hs1 hw8 hit) fun y hy=>?_
     refine t_app ?_
     refine dk ?_
     refine dt2 9 10 ?_
     refine dt 11 ?_
     refine dN 13 ?_
     refine oS ?_
     refine dk ?_
     refine dt 14 ?_
     refine dd ?_
     refine n_join (⟨_,y⟩:GvS) hy
   ·apply o_alloc;rfl;intro _
    refine dk ?_
    refine dN 7 ?_
    refine oC ?_
    refine ce (fun w s=>l2After_c _ _ _ (by omega) (by omega)) ?_
    rw [←hll]
    refine dk ?_
    refine dN 8 ?_
    refine oC ?_
    refine cf (l10GiveUp_f r.window (lostTrail (tkLost r)) _ FW w0_ w1_ hs0 hs1 hw8 hit) fun y hy=>?_
    refine t_app ?_
    refine dk ?_
    refine dt2 9 10 ?_
    refine dt 11 ?_
    refine dN 13 ?_
    refine oS ?_
    refine dk ?_
    refine dt 14 ?_
    refine dd ?_
    refine n_join (⟨_,y⟩:GvS) hy
  obtain ⟨g15,y⟩:=s
  dsimp only at hy ⊢
  obtain ⟨hy1,hy2⟩:=hy
  have hmv:=moved_at (t:=lostTrail (tkLost r)) hg.w
  have hm0:0≤y.y.next:=by rw [hy1,hmv.1];exact (aft_bd _ _).1
  have hm1:y.y.next≤65535:=by rw [hy1,hmv.1];exact (aft_bd _ _).2
  have hes:y.es.length≤100:=by rw [hy2];have:=hmv.2.2.1;have:=@stepsN_gp r.window.next (lostTrail (tkLost r));omega
  refine t_read (E:=EStr) (xs:=y.es) fun G8=>?_
  refine go ?_;intros
  apply wO
  refine aps (ys:=y.es) one_EStr scal_EStr fun a9 c9 F9=>?_
  rw [List.nil_append]
  refine t_read (E:=ERequest) (xs:=tkReq r d) fun F8=>?_
  refine go ?_;intros
  refine cf (l13Needed_f (tkReq r d) y.y z.a z.c F8 _ y.F (by have:=tkReq_len r d;omega) (fun q hq=>(tkReq_at hg hq).1) hm0 hm1) fun u2 _=>?_
  refine t_app ?_
  rw [hy1,tick_needed hg hL,←hy1]
  refine go ?_;intros
  refine openReceiveWindow (x:=y.y) ?_
  rintro b1 d1 G1 e5 m1
  simp only [Value.agg.injEq,Array.mk.injEq,List.cons.injEq,Value.slice.injEq,true_and,and_true] at e5
  obtain ⟨rfl,rfl⟩:=e5
  refine t_read (E:=ERequest) (xs:=noBef (tkReq r d) y.y.next) fun F10=>?_
  refine closeReceiver ⟨r.started,r.clock+1,y.y,noBef (tkReq r d) y.y.next⟩ ?_
  rw [←hy2]
  refine ret ⟨_,_,_,_,_,[],_,_,_,_,_,_⟩ trivial rfl
def waitsAllL (md:Region.Mode) (ops:Array Oper) (X:Nat→Bool) (listed:Array Bool) (i:Nat):Bool:=(List.range ops.size).all fun j=>!X j || listed.getD j false || waitsFor' md ops i ops.size j
section
variable {P:Program} {md:Region.Mode} {ops:Array Oper} {Q:Exit→Act→World→Prop} {S:World→Prop} {X:Nat→Bool}
theorem AnyX.firstL {i:Nat} {oi:Oper} {v:Value} (hi:ops[i]?=some oi) (hsel:∀(j:Nat) (o:Oper) cs b,ops[j]?=some o→o.op≠.select cs b)
  (hQ:∀c a w,Q (.panic c) (a.put oi.dst v) w→Q (.panic c) a w) :
  ∀(f:Nat) (listed:Array Bool) (a:Act) (w:World),(∀j,j < ops.size→X j=true→listed.getD j false=false→waitsFor' md ops i ops.size j=true) →
   (∀j oj,ops[j]?=some oj→j≠i→listed.getD j true=false→(∀e∈oj.after,Region.binds md e=true→e.on≠i)→oi.apart ops oj=true) →
   Closed md ops listed→i∈Region.ready md ops listed→YieldsIf P ops S oi v a→S w→AnyX P md ops Q S X f (listed.setIfInBounds i true) (a.put oi.dst v) w→AnyX P md ops Q S X (f+1) listed a w:=by
 intro f
 induction f with
 | zero =>
  intro listed a w _ _ _ hr hy hS H
  refine ⟨fun h=>(by rw [h] at hr;cases hr),fun j hj=>?_⟩
  by_cases hji:j=i
  ·subst hji;exact hy.wpOp hi hS ⟨fun _=>hS,H⟩
  ·have:=ready_mono hj hji
   rw [H.1] at this;cases this
 | succ f ih =>
  intro listed a w hX hfree hcl hr hy hS H
  refine ⟨fun h=>(by rw [h] at hr;cases hr),fun j hj=>?_⟩
  by_cases hji:j=i
  ·subst hji;exact hy.wpOp hi hS ⟨fun _=>hS,H⟩
  ·obtain ⟨hju,oj,hoj,hall⟩:=mem_ready.1 hj
   have hiu:=unlisted (mem_ready.1 hr).1
   have hnot:∀e∈oj.after,Region.binds md e=true→e.on≠i:=fun e he hb heq=>by
    have h1:=hall e he hb
    rw [heq,hiu] at h1;cases h1
   have hXj:X j=false:=by
    cases hx:X j
    ·rfl
    ·have h2:=waits_listed hcl ops.size j (fun o ho=>by obtain rfl:=Option.some.inj (ho.symm.trans hoj);exact hall) (hX j (Array.getElem?_eq_some_iff.1 hoj).1 hx (unlisted hju))
     rw [hiu] at h2;cases h2
   have h2:=wpOp_putIf hoj (hfree j oj hoj hji hju hnot) (fun cs b=>hsel i oi cs b hi) (fun cs b=>hsel j oj cs b hoj) hQ hy (H.2 j (ready_mono hj hji))
   refine wpOp_mono (fun a' w' h3=>⟨fun _=>h3.2.1 hXj,ih (listed.setIfInBounds j true) a' w' (fun k hk hx hun=>hX k hk hx ?_) (fun k ok hk hki hun hno=>hfree k ok hk hki ?_ hno) (hcl.set hj) (ready_mono hr (Ne.symm hji)) h3.1 (h3.2.1 hXj) ?_⟩) h2
   ·by_cases hjk:j=k
    ·subst hjk;exact unlisted hju
    ·rw [getD_set_ne false hjk] at hun;exact hun
   ·by_cases hjk:j=k
    ·subst hjk;exact hju
    ·rw [getD_set_ne true hjk] at hun;exact hun
   ·rw [Array.setIfInBounds_comm _ _ hji];exact h3.2.2
end
section
variable {c:Cx} {fr:Fr} {H H0:List Pc} {k:List It} {X:List Nat} {ops:Array Oper} {f:Nat} {listed:Array Bool} {d:Nat} {o:Op} {ty:TypeId} {pos:String} {aft:Array Edge} {v:Value}
theorem dtl (i:Nat) (h:T c ((d,v)::fr) H (.dx k H0 X ops f (listed.setIfInBounds i true))) (ho:ops[i]?=some ⟨some d,o,ty,pos,aft,none⟩:=by rw [List.getElem?_toArray];rfl) (hy:Yd c.P c.n fr H0 o ty v:=by exact ydE) (hs:Mems H0 H:=by repeat (first|exact Mems.nil|refine Mems.cons (by (repeat (first|exact .head _|apply List.Mem.tail));first|done|fail) ?_))
  (h1:Region.noSelect ops=true:=by kernel_rfl) (h2:Region.free .any ops listed i=true:=by kernel_rfl) (h3:(Region.ready .any ops listed).contains i=true:=by kernel_rfl) (h4:waitsAllL .any ops (fun i=>X.contains i) listed i=true:=by kernel_rfl) (h5:closedB .any ops listed=true:=by kernel_rfl) (hR:PanOk c:=by exact panOk) (hd:Nat.blt d c.n=true:=by rfl) :
  T c fr H (.dx k H0 X ops (f+1) listed):=.mk fun a w s g =>
 AnyX.firstL ho (Region.noSelect_spec h1) (fun ch a w hp=>by rw [run_panic] at hp ⊢;exact hR _ _ _ _ _ hp) f listed a w (fun j hj hx hl=>by
   have:=List.all_eq_true.1 h4 j (List.mem_range.2 hj)
   dsimp only at this
   rw [hx,hl] at this
   simpa using this) (Region.free_spec ho h2) (closed_of h5) (by simpa using h3) (.inl ⟨rfl,fun w' hw'=>hy.h a w' _ _ _ _ g hw'⟩) (fun p hp=>s.on p (hs.all p hp)) (h.h _ _ s (g.put hd))
end
theorem IdxPk_f (fid:FuncId) (bd caps:List Value) (A:List Pc) (hA:A.all (fun p=>!p.mu)=true) (xs:List Packet) (a:Option Addr) (c:Nat) (F:List Nat) (p:Packet→Bool) (hb:bodyB Tryz.prog fid=true) (hl:xs.length≤1000000000)
  (hp:∀x∈xs,∀w,Hol A w→Calls Tryz.prog fid (bd++[(.agg #[.int .i64 (x).kind,.int .i64 (x).number,.int .i64 (x).trail,.int .i64 (x).lead,.string (x).data]:Value)]++caps).toArray w fun e w'=>e=.returned (.bool (p x))∧Below w.heap.size w w') :
  Fn Tryz.prog 241 [.slice a xs.length c,.func (.func fid) bd.toArray caps.toArray] (.sl EPacket (.slice a xs.length c) xs F::A) [] (fun (_:Unit)=>True) (fun _=>.int .i64 (fidx p xs)) (fun _=>[]):=by
 refine enter Tryz.func241 rfl Tryz.ntmps241 (fun w0=>?_) rfl (by simpa [Pc.mu] using hA) .nil
 refine go ?_;intros
 refine c_loopR [0,1,4,7] (fun k:Nat=>[(8,.int .i64 (k:Nat))]) (fun k=>k≤xs.length∧∀j (_:j < k) (hj:j < xs.length),p xs[j]=false) (fun k=>xs.length - k) 0 ⟨Nat.zero_le _,fun j h=>by omega⟩ fun k hk=>?_
 obtain ⟨hk1,hk2⟩:=hk
 refine go ?_;intros
 refine c_if rfl (fun h5=>?_) (fun h5=>?_)
 ·have hh:k < xs.length:=by omega
  refine go ?_;intros
  refine atPacket (xs:=xs) k ?_
  rintro hi b o e sz
  rw [e]
  refine go ?_;intros
  apply wO
  refine o_callb rfl rfl hb evsE ?_
  refine cb (fun w st=>hp xs[k] (List.getElem_mem hh) w (fun q hq=>st.on q (by simp [hq]))) ?_
  cases hpk:p xs[k]
  ·refine go ?_;intros
   refine t_drop ?_
   refine n_lp (hH:=hsub_refl _) (k+1) ⟨hh,fun j hj h=>?_⟩ (by omega)
   rcases Nat.lt_or_eq_of_le (Nat.lt_succ_iff.1 hj) with h2|rfl
   ·exact hk2 j h2 h
   ·exact hpk
  ·refine go ?_;intros
   refine ret () trivial ?_
   rw [fidx_hit hh hk2 hpk];rfl
 ·obtain rfl:k=xs.length:=by omega
  refine go ?_;intros
  refine ret () trivial ?_
  rw [fidx_none (fun j hj=>hk2 j hj hj)];rfl
theorem ConPk_f (fid:FuncId) (bd caps:List Value) (A:List Pc) (hA:A.all (fun p=>!p.mu)=true) (xs:List Packet) (a:Option Addr) (c:Nat) (F:List Nat) (p:Packet→Bool) (hb:bodyB Tryz.prog fid=true) (hl:xs.length≤1000000000)
  (hp:∀x∈xs,∀w,Hol A w→Calls Tryz.prog fid (bd++[(.agg #[.int .i64 (x).kind,.int .i64 (x).number,.int .i64 (x).trail,.int .i64 (x).lead,.string (x).data]:Value)]++caps).toArray w fun e w'=>e=.returned (.bool (p x))∧Below w.heap.size w w') :
  Fn Tryz.prog 178 [.slice a xs.length c,.func (.func fid) bd.toArray caps.toArray] (.sl EPacket (.slice a xs.length c) xs F::A) [] (fun (_:Unit)=>True) (fun _=>.bool (xs.any p)) (fun _=>[]):=by
 refine enter Tryz.func178 rfl Tryz.ntmps178 (fun w0=>?_) rfl (by simpa [Pc.mu] using hA) .nil
 refine go ?_;intros
 refine cb (fun w st=>(IdxPk_f fid bd caps A hA xs a c F p hb hl hp).val w (fun q hq=>st.on q (by simpa using hq)) (by simpa [Pc.mu] using hA)) ?_
 refine go ?_;intros
 refine ret () trivial ?_
 rw [fidx_any];rfl
theorem Rhear_f (r:Receiver) (p:Packet) (d:Int) (g t o:Nat) (A B:List Value) (a1:Option Addr) (c1:Nat) (F1:List Nat) (a2:Option Addr) (c2:Nat) (F2:List Nat) (hg:GoodR r) (hp:goodPk p=true) (d0:1≤d) (d1:d≤8) :
  Fn Tryz.prog 263 [ptr g o 0,.agg #[.int .i64 p.kind,.int .i64 p.number,.int .i64 p.trail,.int .i64 p.lead,.string p.data],.int .i64 d] [] [.row g t o A [.bool r.started,.int .i64 r.clock,.int .i64 (r.window).next,.slice a1 (r.window).slots.length c1,.slice a2 (r.requests).length c2] B,.ow ESlot 247 (.slice a1 (r.window).slots.length c1) (r.window).slots F1,.ow ERequest 235 (.slice a2 (r.requests).length c2) (r.requests) F2] (fun (_:NwS)=>True)
   (fun s=>.slice s.ae (hearE r p).length s.ce) (fun s=>[.row g t o A [.bool (hearR r p d).started,.int .i64 (hearR r p d).clock,.int .i64 ((hearR r p d).window).next,.slice s.a1 ((hearR r p d).window).slots.length s.c1,.slice s.a2 ((hearR r p d).requests).length s.c2] B,.ow ESlot 247 (.slice s.a1 ((hearR r p d).window).slots.length s.c1) ((hearR r p d).window).slots s.F1,.ow ERequest 235 (.slice s.a2 ((hearR r p d).requests).length s.c2) ((hearR r p d).requests) s.F2,.ow EStr 9 (.slice s.ae (hearE r p).length s.ce) (hearE r p) s.Fe]):=by
 have k0:=hg.k0
 have k1:=hg.k1
 obtain ⟨-,q1,q2, -⟩:=areQ_iff.1 hg.q
 obtain ⟨n0,n1⟩:=goodPk_num hp
 refine enter Tryz.func263 rfl Tryz.ntmps263 fun w0=>?_
 refine go ?_;intros
 by_cases hk1:p.kind=1
 ·rw [decide_eq_true hk1]
  rw [show hearR r p d=newsR r p d by unfold hearR isNews;simp [hk1],show hearE r p=newsE r p by unfold hearE isNews;simp [hk1]]
  refine go ?_;intros
  refine cf (Rnews_f r p d g t o A B a1 c1 F1 a2 c2 F2 hg hp d0 d1) fun s _=>?_
  refine t_app ?_
  refine go ?_;intros
  refine ret ⟨s.a1,s.c1,s.F1,s.a2,s.c2,s.F2,s.ae,s.ce,s.Fe⟩ trivial rfl
 rw [decide_eq_false hk1]
 refine go ?_;intros
 by_cases hk2:p.kind=2
 ·rw [decide_eq_true hk2]
  rw [show hearR r p d=newsR r p d by unfold hearR isNews;simp [hk2],show hearE r p=newsE r p by unfold hearE isNews;simp [hk2]]
  refine go ?_;intros
  refine cf (Rnews_f r p d g t o A B a1 c1 F1 a2 c2 F2 hg hp d0 d1) fun s _=>?_
  refine t_app ?_
  refine go ?_;intros
  refine ret ⟨s.a1,s.c1,s.F1,s.a2,s.c2,s.F2,s.ae,s.ce,s.Fe⟩ trivial rfl
 rw [decide_eq_false hk2]
 refine go ?_;intros
 by_cases hk5:p.kind=5
 ·rw [decide_eq_true hk5]
  rw [show hearR r p d=newsR r p d by unfold hearR isNews;simp [hk5],show hearE r p=newsE r p by unfold hearE isNews;simp [hk5]]
  refine go ?_;intros
  refine cf (Rnews_f r p d g t o A B a1 c1 F1 a2 c2 F2 hg hp d0 d1) fun s _=>?_
  refine t_app ?_
  refine go ?_;intros
  refine ret ⟨s.a1,s.c1,s.F1,s.a2,s.c2,s.F2,s.ae,s.ce,s.Fe⟩ trivial rfl
 rw [decide_eq_false hk5]
 refine go ?_;intros
 refine t_nilow EStr 9 ?_
 have eE:hearE r p=[]:=by unfold hearE isNews;simp [hk1,hk2,hk5]
 by_cases hk4:p.kind=4
 ·rw [decide_eq_true hk4]
  cases hs:r.started
  ·rw [show hearR r p d=r by unfold hearR isNews;simp [hk1,hk2,hk5,hs],eE,hs]
   refine go ?_;intros
   refine ret ⟨_,_,_,_,_,_,none,0,_⟩ trivial rfl
  ·rw [show hearR r p d=confR r p by unfold hearR isNews;simp [hk4,hs],eE,show (confR r p).started=true from hs]
   refine go ?_;intros
   refine d_start [0,1,2] [0,18,19,20,21,22] ?_
   refine dtp 0 ?_
   refine dtl 1 ?_
   refine dtl 2 ?_
   refine dtl 3 ?_
   refine dtl 4 ?_
   refine dtl 5 ?_
   refine dtl 6 ?_
   refine dtl 7 ?_
   refine dtl 8 ?_
   refine dtl 9 ?_
   refine dtl 10 ?_
   refine dtl 11 ?_
   refine dtl 12 ?_
   refine dtl 13 ?_
   refine dtl 14 ?_
   refine dtl 15 ?_
   refine dN 16 ?_
   refine oC ?_
   refine cfr (fun w st=>by obtain ⟨Fq, -,hq9⟩:=(st.get (p:=.ow ERequest 235 (.slice a2 r.requests.length c2) r.requests F2) (by simp)).2.read;exact ⟨[.sl ERequest (.slice a2 r.requests.length c2) r.requests Fq],hol1 ⟨by decide,hq9⟩,rfl,ConfirmRequest_f r.requests r.window.next p.number r.clock a2 c2 Fq hg.q (isSer_iff.2 ⟨n0,n1⟩) k0 k1⟩) (fun u _=>?_)
   refine dk ?_
   refine dtl 17 ?_
   refine dtp 18 ?_
   refine dtp 19 ?_
   refine dtp 20 ?_
   refine dtp 21 ?_
   refine dN 22 ?_
   refine oS ?_
   refine dkx ?_
   refine dd ?_
   refine go ?_;intros
   refine ret ⟨_,_,_,_,_,_,none,0,_⟩ trivial rfl
 rw [decide_eq_false hk4]
 rw [show hearR r p d=r by unfold hearR isNews;simp [hk1,hk2,hk5,hk4],eE]
 refine go ?_;intros
 refine ret ⟨_,_,_,_,_,_,none,0,_⟩ trivial rfl
structure HaS where
 k:Nat
 a1:Option Addr
 c1:Nat
 F1:List Nat
 a2:Option Addr
 c2:Nat
 F2:List Nat
 ae:Option Addr
 ce:Nat
 Fe:List Nat
section
variable {c:Cx} {fr:Fr} {H:List Pc} {Φ:Gl}
theorem openEntry {v:Value} {x:Entry} {F:List Nat} (h:∀(a1:Option Addr) (c1:Nat) (F1:List Nat),v=.agg #[.int .i64 x.number,.slice a1 x.faces.length c1,.int .i64 x.untl]→x.faces.length≤maxLen→T c fr (.sl EInt (.slice a1 x.faces.length c1) x.faces F1::H) Φ) (hm:.isv EEntry v x F∈H:=by (repeat (first|exact .head _|apply List.Mem.tail));first|done|fail):T c fr H Φ:=.mk fun a w s g=>by
 obtain ⟨cs,rfl,v1,rfl,h1⟩:=s.get hm
 obtain ⟨a1,c1,rfl⟩:=h1.slice;have l1:=h1.len
 have t1:=s.ro (p:=.sl EInt (.slice a1 x.faces.length c1) x.faces F) hm rfl rfl ⟨by decide,h1⟩ fun b hb=>hb
 exact (h a1 c1 F rfl  l1).h a w t1 g
theorem openOEntry {v:Value} {x:Entry} {F:List Nat} {S:List Pc} (h:∀(a1:Option Addr) (c1:Nat) (F1:List Nat),v=.agg #[.int .i64 x.number,.slice a1 x.faces.length c1,.int .i64 x.untl]→x.faces.length≤maxLen→T c fr (.ow EInt 3 (.slice a1 x.faces.length c1) x.faces F1::S) Φ) (hp:Pick H (.own OEntry v x F) S:=by (repeat (first|exact .here|apply Pick.there));first|done|fail):T c fr H Φ:=.mk fun a w s g=>by
 have z1:=s.pick hp
 obtain ⟨hn,cs,rfl,v1,rfl,h1⟩:=z1.on (.own OEntry v x F) (by simp)
 obtain ⟨a1,c1,rfl⟩:=h1.slice;have l1:=h1.len
 refine (h a1 c1 F rfl  l1).h a w (St.turn (M:=[.own OEntry (.agg #[.int .i64 x.number,.slice a1 x.faces.length c1,.int .i64 x.untl]) x _]) (N:=[.ow EInt 3 (.slice a1 x.faces.length c1) x.faces F]) z1 (Keep.refl _ w) ?_ ?_ ?_) g
 ·intro q hq;simp at hq;subst hq;exact ⟨hn,h1⟩
 ·exact ⟨by simp,trivial⟩
 ·intro q hq b hb;simp at hq;subst hq;exact .inr (.inl ⟨_,List.mem_singleton.2 rfl,rfl,hb⟩)
theorem closeOEntry (x:Entry) {a1:Option Addr} {c1:Nat} {F1:List Nat} {S1:List Pc}  (h:T c fr (.own OEntry (.agg #[.int .i64 x.number,.slice a1 x.faces.length c1,.int .i64 x.untl]) x (F1)::S1) Φ) (m1:Pick H (.ow EInt 3 (.slice a1 x.faces.length c1) x.faces F1) S1:=by (repeat (first|exact .here|apply Pick.there));first|done|fail)  : T c fr H Φ:=.mk fun a w s g=>by
 have z1:St c.G c.D c.w0 ([.ow EInt 3 (.slice a1 x.faces.length c1) x.faces F1]++S1) w:=by simpa using (show Picks H [.ow EInt 3 (.slice a1 x.faces.length c1) x.faces F1] S1 from Picks.cons m1 (Picks.nil)).st (X:=[]) (by simpa using s)
 obtain ⟨n1,k1⟩:=z1.on (.ow EInt 3 (.slice a1 x.faces.length c1) x.faces F1) (by simp)
 have hN:=n1
 refine h.h a w (St.turn (M:=[.ow EInt 3 (.slice a1 x.faces.length c1) x.faces F1]) (N:=[.own OEntry (.agg #[.int .i64 x.number,.slice a1 x.faces.length c1,.int .i64 x.untl]) x (F1)]) z1 (Keep.refl _ w) (by intro q hq;simp at hq;subst hq;exact ⟨hN,_,rfl,_,rfl,k1⟩) ⟨by simp,trivial⟩ fun q hq b hb=>?_) g
 simp at hq;subst hq
 simp only [Pc.F,List.mem_append] at hb
 exact .inr (.inl ⟨_,List.mem_singleton.2 rfl,rfl,hb⟩)
theorem atEntry {a:Option Addr} {n cp:Nat} {xs:List Entry} {F:List Nat} (i:Nat) (h:∀(hi:i < xs.length) (b o:Nat) (a1:Option Addr) (c1:Nat) (F1:List Nat),a=some ⟨b,o,none⟩→xs[i].faces.length≤maxLen→T c fr (.cel b (o+i * 3) [.int .i64 xs[i].number,.slice a1 xs[i].faces.length c1,.int .i64 xs[i].untl]::.sl EInt (.slice a1 xs[i].faces.length c1) xs[i].faces F1::H) Φ) (hm:.sl EEntry (.slice a n cp) xs F∈H:=by (repeat (first|exact .head _|apply List.Mem.tail));first|done|fail) (hi:i < xs.length:=by omega):T c fr H Φ:=.mk fun ac w s g=>by
 obtain ⟨b,o,cs,G,ha,hrep,hG,hb,hne,hr⟩:=sl_at (s.get hm) i hi
 obtain ⟨v1,rfl,h1⟩:=hrep
 obtain ⟨a1,c1,rfl⟩:=h1.slice;have l1:=h1.len
 have t1:=s.ro (p:=.sl EInt (.slice a1 xs[i].faces.length c1) xs[i].faces G) hm rfl rfl ⟨by decide,h1⟩ (by intro b hb;simp only [Pc.F] at hb ⊢;exact hG b (by simp [hb]))
 exact (h hi b o a1 c1 G ha  l1).h ac w (t1.ro (List.mem_cons_of_mem _ hm) rfl rfl ⟨hne,hr⟩ (by intro x hx;simp [Pc.F] at hx;subst hx;exact hb)) g
end
structure EcS where
 k:Nat
 a:Option Addr
 c:Nat
 F:List Nat
theorem retV_of {α:Type} {O:Elem α} {P:Program} {f:FuncId} {args:List Value} {x:α} {A:List Pc} (h:Fn P f args A [] (fun (_:Value × List Nat)=>True) (fun z=>z.1) (fun z=>[.own O z.1 x z.2])) (hA:A.all (fun p=>!p.mu)=true) {w:World} (hH:Hol A w):Calls P f args.toArray w (RetV O x w):=by
 refine (h.made w hH (fun _=>rfl) hA).mono ?_
 rintro e w' ⟨z, -,he,hh,hn,hF,hB⟩
 obtain ⟨h1,h2⟩:=hh (.own O z.1 x z.2) (by simp)
 exact ⟨z.1,z.2,he,h2,h1,fun b hb=>hF b (by simpa [fp,Pc.F,Pc.mu] using hb),hB⟩
theorem l14OwnE_f (v:Value) (e:Element) (F:List Nat) (hm:e.entries.length≤4294967296) (hm2:∀x∈e.entries,x.faces.length≤4294967296):Fn Tryz.prog 137 [v] [.isv EElement v e F] [] (fun (_:Value × List Nat)=>True) (fun z=>z.1) (fun z=>[.own OElement z.1 e z.2]):=by
 refine enter Tryz.func137 rfl Tryz.ntmps137 fun w0=>?_
 refine openElement ?_
 rintro a1 c1 F1 rfl l1
 refine t_nilow OEntry 231 ?_
 refine go ?_;intros
 rename_i g
 refine c_loopS [1,2,3] (fun y:EcS=>[(4,.int .i64 (y.k:Nat))]) (fun y=>[.row g 142 0 [] [.int .i64 e.clock,.slice y.a (e.entries.take y.k).length y.c] [],.ow OEntry 231 (.slice y.a (e.entries.take y.k).length y.c) (e.entries.take y.k) y.F]) (fun y=>y.k≤e.entries.length) (fun y=>e.entries.length - y.k) ⟨0,none,0,[]⟩ (Nat.zero_le _) fun y hy0=>?_
 obtain ⟨k,ya,yc,yF⟩:=y
 dsimp only at hy0 ⊢
 have htk:(e.entries.take k).length=k:=by rw [List.length_take];omega
 refine go ?_;intros
 refine c_if rfl (fun h1=>?_) (fun h1=>?_)
 ·have hk:k < e.entries.length:=by omega
  have hfl:=hm2 _ (List.getElem_mem hk)
  refine atEntry (xs:=e.entries) k ?_
  rintro hi b8 o8 a8 c8 F8 e8 l8
  rw [e8]
  refine go ?_;intros
  refine d_start [0,3] [13] ?_
  refine dt4 0 1 2 3 ?_
  refine dt4 4 5 7 8 ?_
  refine dN 6 ?_
  refine oC ?_
  refine cn (fun w st=>l1Own_c _ e.entries[k].faces F8 w (st.get (p:=.sl EInt (.slice a8 e.entries[k].faces.length c8) e.entries[k].faces F8) (by exact memE)).2 (by omega)) fun a9 c9 F9=>?_
  refine closeOEntry e.entries[k] ?_
  refine dk ?_
  refine dt 9 ?_
  refine dN 10 ?_
  apply o_bs;rfl;rfl;rfl;rfl;exact rptE;exact filE;intro _
  refine dk ?_
  refine dN 11 ?_
  refine ap1o one_OEntry e.entries[k] rfl fun x4 d4 G4=>?_
  refine dk ?_
  refine dt 12 ?_
  refine dN 13 ?_
  refine oS ?_
  refine dkx ?_
  refine dd ?_
  rw [←List.take_succ_eq_append_getElem hk]
  refine go ?_;intros
  refine n_lp ⟨k+1,x4,d4,G4⟩ hk (by show e.entries.length - (k+1) < e.entries.length - k;omega)
 ·rw [show e.entries.take k=e.entries from List.take_of_length_le (by omega)]
  refine go ?_;intros
  refine closeOElement e ?_
  refine ret (_,_) trivial rfl
theorem l14Own_c (v:Value) (e:Element) (F:List Nat) (w:World) (h:IsV EElement w v e F) (hm:e.entries.length≤4294967296) (hm2:∀x∈e.entries,x.faces.length≤4294967296):Calls Tryz.prog 137 #[v] w (RetV OElement e w):=retV_of (l14OwnE_f v e F hm hm2) rfl (hol1 h)
def tickElement (e:Element):Element:=⟨e.clock+1,e.entries.filter fun x=>!decide (x.untl≤e.clock+1)⟩
theorem Sl.headIn {α:Type} {E:Elem α} {w:World} {b off n cap:Nat} {xs:List α} {F} (h:Sl E w (.slice (some ⟨b,off,none⟩) n cap) xs F) (k:Nat) (hk:k < xs.length):b∈F:=by
 obtain ⟨a',cap',hv,hl,h⟩:=h
 cases hv
 rcases h with ⟨rfl,_⟩|⟨b,off,F',he,_,rfl,hc⟩
 ·simp at hk
 ·cases he;simp
theorem l14Tick_c (v:Value) (e:Element) (F:List Nat) (w:World) (h:IsV EElement w v e F) (hc:isClk e.clock=true) (hm:e.entries.length≤4294967296) (hm2:∀x∈e.entries,x.faces.length≤4294967296) :
  Calls Tryz.prog 158 #[v] w (RetR EElement (tickElement e) w):=by
 have hcb:=isClk_iff.1 hc
 have hm2:=Lib.hid hm2
 have h0:=h
 obtain ⟨_,rfl,v1,rfl,h1⟩:=h
 obtain ⟨a,cap,rfl⟩:=h1.slice
 have hB0:∀A B:Obj,Below w.heap.size w ((w.alloc A).alloc B):=fun A B=>((Below.refl _ _).alloc (Nat.le_refl _) _).alloc (by simp) _
 go_enter Tryz.func158,Tryz.ntmps158
 go_wp2_with fail
 refine (l14Own_c _ e F _ (h0.below (hB0 _ _)) hm hm2.out).mono ?_
 rintro e' w1 ⟨_,Fo,rfl,⟨_,rfl,v2,rfl,ho⟩,hn,hFo,hb1⟩
 obtain ⟨a2,cap2,rfl⟩:=ho.slice
 have r0:=Row.below (g:=w.heap.size) (t:=142) (cs:=[.int .i64 e.clock,.slice a e.entries.length cap]) (by simp [row_alloc] <;> omega) hb1
 have r1:=Row.below (g:=w.heap.size+1) (t:=142) (cs:=[.int .i64 0,.slice none 0 0]) (by simp [row_alloc] <;> omega) hb1
 obtain ⟨Fr,hFr,hs⟩:=ho.sl weak_Entry
 have hFl:=ho.lt
 have hB:=tr (hB0 _ _) hb1 (Nat.le_refl _)
 have d0:=fun A=>(r0.alloc A).cells
 have c0:=r0.cells
 clear hb1
 go_wp2_with fail
 go_loopw [5] (fun i wr=>∃k:Nat,k≤e.entries.length∧i=.int .i64 k∧∃oa oc F,Hid (Ow EEntry 231 wr (.slice oa ((e.entries.take k).filter fun x=>!decide (x.untl≤e.clock+1)).length oc) ((e.entries.take k).filter fun x=>!decide (x.untl≤e.clock+1)) F)∧Hd F∧(∀b,oa=some b→w1.heap.size+1+1≤b.block)∧(∀c∈F,w.heap.size+2≤c∧c≠w1.heap.size∧c≠w1.heap.size+1) ∧
  Row wr (w.heap.size+1) 142 [.int .i64 0,.slice none 0 0]∧Row wr w1.heap.size 142 [.int .i64 e.clock,.slice a2 e.entries.length cap2]∧Row wr (w1.heap.size+1) 142 [.int .i64 (e.clock+1),.slice oa ((e.entries.take k).filter fun x=>!decide (x.untl≤e.clock+1)).length oc]∧Below w1.heap.size w1 wr) (fun i _=>e.entries.length - (intOf i).toNat)
 case atStart=>exact ⟨0,Nat.zero_le _,rfl,none,0,[],Lib.hid (.inl ⟨rfl,by simp,rfl⟩),Hd.nil,by simp,by simp,(r1.alloc _).alloc _,by simp [row_alloc],by simp [row_alloc],((Below.refl _ _).alloc (Nat.le_refl _) _).alloc (by simp) _⟩
 case round =>
  obtain ⟨k,hk,rfl,oa,oc,F2,hO,hd2,hoa,hF2,hr1,hr2,hr3,hB2⟩:=hrel
  have c1:=hr2.cells;have c2:=hr3.cells;have c4:=hr1.cells;have f4:=hr1.frozens
  by_cases hlt:k < e.entries.length
  ·obtain ⟨b,off,_,F1,rfl,hx,hFx,ja⟩:=(hs.below (by decide) hB2).at k hlt
   obtain ⟨u1,rfl,hf⟩:=id hx
   obtain ⟨fa,fc,rfl⟩:=hf.slice
   have a0:=ja 0 (by decide)
   have a1:=ja 1 (by decide)
   have a2:=ja 2 (by decide)
   simp only [show EEntry.sz=3 from rfl,Nat.add_zero,List.getElem?_cons_zero,List.getElem?_cons_succ] at a0 a1 a2
   clear ja
   by_cases hq:e.entries[k].untl > e.clock+1
   ·have hqf:=Lib.hid (filter_take_yes (q:=fun x:Entry=>!decide (x.untl≤e.clock+1)) hlt (by simp;omega))
    generalize hys:((e.entries.take k).filter fun x=>!decide (x.untl≤e.clock+1))=ys at *
    have hys:=Lib.hid hys
    go_wp2_with fail
    go_quiet (fail)
    go_wp2_with fail
    have D1:=show Row (wr.drewN nq) _ _ _ from hr1
    have D2:=show Row (wr.drewN nq) _ _ _ from hr2
    have D3:=show Row (wr.drewN nq) _ _ _ from hr3
    have DO:=Lib.hid (show Ow EEntry 231 (wr.drewN nq) _ _ _ from hO.out.frame fun _ _=>rfl)
    have DX:EEntry.rep (wr.drewN nq) _ _ _:=EEntry.frame hx fun _ _=>rfl
    have DB:=belowDrewN hB2 nq
    have b0:(wr.drewN nq).cell? ⟨b,off+k * 3,none⟩=_:=a0
    have b1:(wr.drewN nq).cell? ⟨b,off+k * 3+1,none⟩=_:=a1
    have b2:(wr.drewN nq).cell? ⟨b,off+k * 3+2,none⟩=_:=a2
    clear hr1 hr2 hr3 hO hx hf hB2 a0 a1 a2 c1 c2 c4 f4
    generalize wr.drewN nq=w2 at *
    have hbb:=World.block_lt_of_cell? w2 _ b0
    simp only at hbb
    have DBs:=DB.size
    have t3:=fun A=>(D3.alloc A).cells 1;have t0:=D3.cells 1
    have o0:=D2.cells 1
    simp only [List.getElem?_cons_zero,List.getElem?_cons_succ] at t3 t0 o0
    have hyl:ys.length≤4294967295:=by have:=congrArg List.length hys.out;have:=List.length_filter_le (fun x:Entry=>!decide (x.untl≤e.clock+1)) (e.entries.take k);simp at this;omega
    have hA:=(Below.refl w2.heap.size w2).alloc (Nat.le_refl _) (.cells #[.int .i64 e.entries[k].number,.slice fa e.entries[k].faces.length fc,.int .i64 e.entries[k].untl] 231)
    have DOd:=Lib.hid ((DO.out.below hA).frame (w':=(w2.alloc (.cells #[.int .i64 e.entries[k].number,.slice fa e.entries[k].faces.length fc,.int .i64 e.entries[k].untl] 231)).drew) fun _ _=>rfl)
    have DXd:=EEntry.frame (w':=(w2.alloc (.cells #[.int .i64 e.entries[k].number,.slice fa e.entries[k].faces.length fc,.int .i64 e.entries[k].untl] 231)).drew) (EEntry.below DX hA) fun _ _=>rfl
    have E0':=kc hA o0;have E0:(w2.alloc (.cells #[.int .i64 e.entries[k].number,.slice fa e.entries[k].faces.length fc,.int .i64 e.entries[k].untl] 231)).drew.cell? _=_:=E0'
    have E1':=kc hA b0;have E1:(w2.alloc (.cells #[.int .i64 e.entries[k].number,.slice fa e.entries[k].faces.length fc,.int .i64 e.entries[k].untl] 231)).drew.cell? _=_:=E1'
    have E2':=kc hA b1;have E2:(w2.alloc (.cells #[.int .i64 e.entries[k].number,.slice fa e.entries[k].faces.length fc,.int .i64 e.entries[k].untl] 231)).drew.cell? _=_:=E2'
    have E3':=kc hA b2;have E3:(w2.alloc (.cells #[.int .i64 e.entries[k].number,.slice fa e.entries[k].faces.length fc,.int .i64 e.entries[k].untl] 231)).drew.cell? _=_:=E3'
    have nob:∀c∈(Value.slice oa ys.length oc).ownBlock.toList,w1.heap.size+1+1≤c:=fun c hc=>by
     cases oa with
     | none=>simp [Value.ownBlock] at hc
     | some b=>simp [Value.ownBlock] at hc;subst hc;exact hoa b rfl
    have D3a:=show Row (w2.alloc (.cells #[.int .i64 e.entries[k].number,.slice fa e.entries[k].faces.length fc,.int .i64 e.entries[k].untl] 231)).drew _ _ _ from D3.alloc (.cells #[.int .i64 e.entries[k].number,.slice fa e.entries[k].faces.length fc,.int .i64 e.entries[k].untl] 231)
    have hFs:∀c∈F1,c < w1.heap.size:=fun c hc=>hs.lt (by decide) c (hFx c hc)
    have hbw:b < w1.heap.size:=hs.lt (by decide) b (hs.headIn k hlt)
    have hn1:¬b=w1.heap.size+1:=by omega
    have hn2:¬w1.heap.size+1=b:=by omega
    go_region_law (first|((refine step_apd one_EEntry (by decide) (by rfl) _ _ _ (by rfl) 231 (.agg #[.int .i64 0,.slice none 0 0,.int .i64 0]) 40 Tryz.underlying140 info_Entry rfl (.slice oa ys.length oc) ys F2 (by rfl) DOd.out hd2 (some ⟨w2.heap.size,0,none⟩) [e.entries[k]] 1 (by rfl) [.int .i64 e.entries[k].number,.slice fa e.entries[k].faces.length fc,.int .i64 e.entries[k].untl] F1 (Flat.one DXd) (.inr ⟨_,rfl,World.news_of_block (w:=(w2.alloc (.cells #[.int .i64 e.entries[k].number,.slice fa e.entries[k].faces.length fc,.int .i64 e.entries[k].untl] 231)).drew) (heap_alloc_new w2 _)⟩) (fun c hc he=>by have h1:=nob c (by rw [he];simp);have h2:=hFs c hc;omega) (by unfold maxLen;simp;omega) (by simp;omega) ?_);intro v4 w4 F4 hA4;obtain ⟨oa2,oc2,rfl⟩:=hA4.val;have D4:=D3a.keepK hA4.keep1 (fun hm=>by have:=nob _ hm;omega);have t4:=D4.cells 1;have f4:=D4.frozens 1;simp only [List.getElem?_cons_zero,List.getElem?_cons_succ] at t4))
    all_goals
     have hn4:w1.heap.size+1 ∉ F4:=fun hm=>by
      rcases hA4.mem _ hm with h|h|h
      ·exact (hF2 _ h).2.2 rfl
      ·have:=hFs _ h;omega
      ·have:=D3.lt;simp at h;omega
     have P1:=Lib.hid (hA4.ow.setFar (p:=⟨w1.heap.size+1,1,none⟩) hn4 (.slice oa2 (ys.length+1) oc2))
     have L1:=((show Row (w2.alloc (.cells #[.int .i64 e.entries[k].number,.slice fa e.entries[k].faces.length fc,.int .i64 e.entries[k].untl] 231)).drew _ _ _ from D1.alloc (.cells #[.int .i64 e.entries[k].number,.slice fa e.entries[k].faces.length fc,.int .i64 e.entries[k].untl] 231)).keepK hA4.keep1 (fun hm=>by have:=nob _ hm;have:=r1.lt;omega)).setOther (p:=⟨w1.heap.size+1,1,none⟩) (by have:=r1.lt;simp;omega) (.slice oa2 (ys.length+1) oc2)
     have L2:=((show Row (w2.alloc (.cells #[.int .i64 e.entries[k].number,.slice fa e.entries[k].faces.length fc,.int .i64 e.entries[k].untl] 231)).drew _ _ _ from D2.alloc (.cells #[.int .i64 e.entries[k].number,.slice fa e.entries[k].faces.length fc,.int .i64 e.entries[k].untl] 231)).keepK hA4.keep1 (fun hm=>by have:=nob _ hm;omega)).setOther (p:=⟨w1.heap.size+1,1,none⟩) (by simp) (.slice oa2 (ys.length+1) oc2)
     have L3:=D4.set 1 (.slice oa2 (ys.length+1) oc2)
     have hoa2:∀b,oa2=some b→w1.heap.size+1+1≤b.block:=fun c hc=>by
      subst hc
      rcases hA4.same with h|h
      ·simp only [Value.ownBlock] at h;exact nob _ (by cases oa <;> simp_all [Value.ownBlock])
      ·simp [Value.ownBlock] at h;have:=D3.lt;omega
     have hF4:∀c∈F4,w.heap.size+2≤c∧c≠w1.heap.size∧c≠w1.heap.size+1:=fun c hc=>by
      have hs3:=D3.lt
      have hsw:=r1.lt
      rcases hA4.mem _ hc with h|h|h
      ·exact hF2 _ h
      ·have h1:=hFs _ h;have h2:w.heap.size+2≤c:=(by simpa using hFo c (hFr c (hFx c h)));exact ⟨h2,by omega,by omega⟩
      ·simp at h;exact ⟨by omega,by omega,by omega⟩
     have hB5:Below w1.heap.size w1 (w4.setCell ⟨w1.heap.size+1,1,none⟩ (.slice oa2 (ys.length+1) oc2)) :=
      Below.setCell ((belowDrewN (tr DB hA (Nat.le_refl _)) 1).trans (hA4.keep1.below (by simp;omega) (fun b hb=>by have:=nob b hb;omega))) (by simp) _
     have hd4:=hA4.hd
     clear hA4 D1 D2 D3 D4
     go_wp2_with fail
     exact ⟨⟨k+1,by omega,by go_num,oa2,oc2,F4,by rw [hqf.out,List.length_append];exact P1,hd4,hoa2,hF4,L1,L2,by rw [hqf.out,List.length_append];exact L3,hB5⟩,by simp [intOf];omega⟩
   ·have hqf:=Lib.hid (filter_take_no (q:=fun x:Entry=>!decide (x.untl≤e.clock+1)) hlt (by simp;omega))
    generalize hys:((e.entries.take k).filter fun x=>!decide (x.untl≤e.clock+1))=ys at *
    have hys:=Lib.hid hys
    go_wp2_with fail
    go_quiet (fail)
    go_wp2_with fail
    refine ⟨⟨k+1,by omega,by go_num,oa,oc,F2,?_,hd2,hoa,hF2,hr1,hr2,?_,belowDrewN hB2 _⟩,by simp [intOf];omega⟩
    ·rw [hqf.out];exact Lib.hid (hO.out.frame fun _ _=>rfl)
    ·rw [hqf.out];exact hr3
  ·have hk:k=e.entries.length:=by omega
   subst hk
   simp only [List.take_length] at hO hr3 c2
   obtain ⟨F3,hF3,hs3⟩:=hO.out.read
   have hB3:=tr hB hB2 (Nat.le_refl _)
   go_wp2_with fail
   refine bodyPost_ret (v:=.agg #[.int .i64 (e.clock+1),.slice oa (e.entries.filter fun x=>!decide (x.untl≤e.clock+1)).length oc]) ?_ rfl ?_
   ·simp [results,Tryz.results158,go_sem,c4,c2,f4]
   ·refine ⟨_,F3,rfl,⟨_,rfl,_,rfl,?_⟩,fun b hb=>by have:=(hF2 b (hF3 b hb)).1;omega,?_⟩
    ·refine hs3.frame fun b hb=>?_
     have h2:=(hF2 b (hF3 b hb)).1
     rw [Below.heap_setCell _ _ _ _ (by simp;omega),Below.heap_setCell _ _ _ _ (by simp;omega)]
    ·repeat refine Below.setCell ?_ (by simp <;> omega) _
     exact hB3
theorem rising_len {lo hi:Int} {zs:List Int} (h:rising lo hi zs=true):(zs.length:Int)≤hi - lo+1∨zs=[]:=by
 by_cases h0:zs=[]
 ·exact .inr h0
 ·left
  have key:∀i (hi':i < zs.length),lo+i≤zs[i]∧zs[i]≤hi:=by
   intro i
   induction i with
   | zero =>
    intro hi'
    have:=allUpTo_get h 0 hi'
    rw [risAt_zero hi'] at this
    simp [btw] at this
    simpa using this
   | succ i ih =>
    intro hi'
    have:=allUpTo_get h (i+1) hi'
    rw [risAt_succ hi'] at this
    have:=ih (by omega)
    simp [btw] at *
    omega
  have hp:=List.length_pos_iff.2 h0
  have:=key (zs.length - 1) (by omega)
  omega
theorem good_room {e:Element} (h:goodElement e=true):isClk e.clock=true∧e.entries.length≤5∧∀x∈e.entries,x.faces.length≤7:=by
 unfold goodElement at h
 simp only [Bool.and_eq_true,decide_eq_true_eq] at h
 refine ⟨h.1.1,h.1.2,fun x hx=>?_⟩
 obtain ⟨i,hi,rfl⟩:=List.getElem_of_mem hx
 have:=allUpTo_get h.2 i hi
 rw [entAt_of hi] at this
 simp [okEntry] at this
 rcases rising_len this.1.2.2.1 with h|h
 ·omega
 ·rw [h];simp
def placeI (l:List Int) (n:Int):Nat:=(l.takeWhile fun x=>decide (x < n)).length
def putI (l:List Int) (n:Int):List Int:=if l[placeI l n]?=some n then l else l.take (placeI l n)++n::l.drop (placeI l n)
def atE (e:Element) (n:Int):Nat:=e.entries.findIdx fun x=>x.number == n
def reqE (e:Element) (n f:Int):Element:=match e.entries[atE e n]? with
 | some x=>⟨e.clock,e.entries.set (atE e n) ⟨x.number,putI x.faces f,x.untl⟩⟩
 | none=>if e.entries.length < 5 then ⟨e.clock,e.entries++[⟨n,[f],e.clock+6⟩]⟩ else e
def fwdE (e:Element) (n:Int):Bool:=!e.entries.any fun x=>x.number == n
def repE (e:Element) (n:Int):Element:=match e.entries[atE e n]? with
 | some _=>⟨e.clock,e.entries.take (atE e n)++e.entries.drop (atE e n+1)⟩
 | none=>e
def facE (e:Element) (n:Int) (below:List Int):List Int:=match e.entries[atE e n]? with
 | some x=>x.faces.filter fun f=>decide (f∈below)
 | none=>if e.entries.length=5 then below else []
theorem findE_or (e:Element) (n:Int):(∃(h:atE e n < e.entries.length),fidx (fun x=>x.number == n) e.entries=(atE e n:Nat)∧e.entries[atE e n].number=n∧fwdE e n=false)∨(fidx (fun x=>x.number == n) e.entries=-1∧e.entries[atE e n]?=none∧fwdE e n=true∧∀x∈e.entries,x.number≠n):=by
 cases h:e.entries.any fun x=>x.number == n
 ·right
  have h':=List.any_eq_false.1 h
  refine ⟨by unfold fidx;rw [h];rfl,?_,by simp [fwdE,h],fun x hx=>by have:=h' x hx;simpa using this⟩
  have:atE e n=e.entries.length:=List.findIdx_eq_length.2 (fun x hx=>by have:=h' x hx;simpa using this)
  rw [this];simp
 ·left
  have h2:atE e n < e.entries.length:=by
   obtain ⟨x,hx,hp⟩:=List.any_eq_true.1 h
   exact List.findIdx_lt_length_of_exists ⟨x,hx,hp⟩
  refine ⟨h2,by unfold fidx;rw [h];rfl,?_,by simp [fwdE,h]⟩
  have:(e.entries[atE e n].number == n)=true:=List.findIdx_getElem (p:=fun x:Entry=>x.number == n) (xs:=e.entries) (w:=h2)
  simpa using this
theorem rising_pw {lo hi:Int} {zs:List Int} (h:rising lo hi zs=true):zs.Pairwise (· < ·)∧∀z∈zs,lo≤z∧z≤hi:=by
 have hb:∀i (hi':i < zs.length),lo≤zs[i]∧zs[i]≤hi:=fun i hi'=>by
  have:=allUpTo_get h i hi'
  unfold risAt btw at this
  simp only [Bool.and_eq_true,decide_eq_true_eq] at this
  rw [List.getD_eq_getElem?_getD,List.getElem?_eq_getElem hi'] at this
  simpa using this.1
 refine ⟨?_,fun z hz=>by obtain ⟨i,hi',rfl⟩:=List.getElem_of_mem hz;exact hb i hi'⟩
 have step:∀i (hi:i+1 < zs.length),zs[i] < zs[i+1]:=fun i hi'=>by
  have:=allUpTo_get h (i+1) hi'
  rw [risAt_succ hi'] at this
  simp only [Bool.and_eq_true,decide_eq_true_eq] at this
  exact this.2
 refine List.pairwise_iff_getElem.2 fun i j hi' hj hij=>?_
 obtain ⟨d,rfl⟩:∃d,j=i+1+d:=⟨j - i - 1,by omega⟩
 clear hij
 induction d with
 | zero=>exact step i hj
 | succ d ih=>exact Int.lt_trans (ih (by omega)) (step (i+1+d) hj)
theorem pw_rising {lo hi:Int} {zs:List Int} (h1:zs.Pairwise (· < ·)) (h2:∀z∈zs,lo≤z∧z≤hi):rising lo hi zs=true:=by
 unfold rising
 refine allUpTo_yes fun i hi'=>?_
 have hb:=h2 zs[i] (List.getElem_mem hi')
 cases i with
 | zero=>rw [risAt_zero hi'];simp [btw,hb]
 | succ i =>
  rw [risAt_succ hi']
  have:=List.pairwise_iff_getElem.1 h1 i (i+1) (by omega) hi' (by omega)
  simp [btw,hb,this]
theorem pw_ext:∀{a b:List Int},a.Pairwise (· < ·)→b.Pairwise (· < ·)→(∀x,x∈a↔x∈b)→a=b
 | [],[],_,_,_=>rfl
 | [],y::b,_,_,h=>absurd ((h y).2 (by simp)) (by simp)
 | x::a,[],_,_,h=>absurd ((h x).1 (by simp)) (by simp)
 | x::a,y::b,h1,h2,h=>by
  have a1:=List.pairwise_cons.1 h1
  have b1:=List.pairwise_cons.1 h2
  have e:x=y:=by
   rcases List.mem_cons.1 ((h x).1 (by simp)) with e|m
   ·exact e
   ·rcases List.mem_cons.1 ((h y).2 (by simp)) with e|m2
    ·exact e.symm
    ·have:=b1.1 x m;have:=a1.1 y m2;omega
  subst e
  congr 1
  refine pw_ext a1.2 b1.2 fun z=>⟨fun hz=>?_,fun hz=>?_⟩
  ·rcases List.mem_cons.1 ((h z).1 (by simp [hz])) with e|m
   ·have:=a1.1 z hz;omega
   ·exact m
  ·rcases List.mem_cons.1 ((h z).2 (by simp [hz])) with e|m
   ·have:=b1.1 z hz;omega
   ·exact m
theorem filter_swap {a b:List Int} (h1:a.Pairwise (· < ·)) (h2:b.Pairwise (· < ·)):(a.filter fun f=>decide (f∈b))=b.filter fun f=>decide (f∈a) :=
 pw_ext (h1.filter _) (h2.filter _) fun x=>by simp [and_comm]
theorem find1_f (x:Entry) (gb:Nat) (n:Int) (u:Value) (G:List Nat):Fn Tryz.prog 323 [u,ptr gb 0 0] [.isv EEntry u x G,.cel gb 0 [.int .i64 n]] [] (fun (_:Unit)=>True) (fun _=>.bool (x.number == n)) (fun _=>[]):=by
 refine enter Tryz.func323 rfl Tryz.ntmps323 fun w0=>?_
 refine openEntry ?_
 rintro a1 c1 F1 rfl l1
 refine go ?_;intros
 refine ret () trivial ?_
 rfl
theorem Efind_f (e:Element) (n:Int) (v:Value) (F:List Nat):Fn Tryz.prog 302 [v,.int .i64 n] [.isv EElement v e F] [] (fun (_:Unit)=>True) (fun _=>.int .i64 (fidx (fun x=>x.number == n) e.entries)) (fun _=>[]):=by
 refine enter Tryz.func302 rfl Tryz.ntmps302 fun w0=>?_
 refine openElement ?_
 rintro a1 c1 F1 rfl l1
 refine go ?_;intros
 rename_i gb
 refine cb (fun w st=>IndexFunc_Entry _ (body_of (by kernel_rfl)) #[ptr gb 0 0] _ e.entries _ (fun x=>x.number == n) w (st.get (p:=.sl EEntry (.slice a1 e.entries.length c1) e.entries F1) (by simp)).2 (fun k hk wr u G hB hu=>(find1_f e.entries[k] gb n u G).val wr (hol2 hu ⟨by simp,row_range ((st.below hB).get (p:=.row gb 3 0 [] [.int .i64 n] []) (by simp))⟩))) ?_
 refine go ?_;intros
 refine ret () trivial rfl
theorem l14Find_f (e:Element) (n:Int) (v:Value) (F:List Nat):Fn Tryz.prog 230 [v,.int .i64 n] [.isv EElement v e F] [] (fun (_:Unit)=>True) (fun _=>.int .i64 (fidx (fun x=>x.number == n) e.entries)) (fun _=>[]):=by
 refine enter Tryz.func230 rfl Tryz.ntmps230 fun w0=>?_
 refine openElement ?_
 rintro a1 c1 F1 rfl l1
 unfold maxLen at l1
 refine go ?_;intros
 refine c_loopR [1,2,4] (fun k:Nat=>[(5,.int .i64 (k:Nat))]) (fun k=>k≤e.entries.length∧∀j (_:j < k) (hj:j < e.entries.length),(e.entries[j].number == n)=false) (fun k=>e.entries.length - k) 0 ⟨Nat.zero_le _,fun j h=>by omega⟩ fun k hk=>?_
 obtain ⟨hk1,hk2⟩:=hk
 refine go ?_;intros
 refine c_if rfl (fun h1=>?_) (fun h1=>?_)
 ·have hh:k < e.entries.length:=by omega
  refine go ?_;intros
  refine atEntry (xs:=e.entries) k ?_
  rintro hi b o a3 c3 F3 e1 l3
  rw [e1]
  refine go ?_;intros
  refine c_if rfl (fun h2=>?_) (fun h2=>?_)
  ·refine go ?_;intros
   refine ret () trivial ?_
   rw [fidx_hit hh hk2 (by simpa using h2)];rfl
  ·refine go ?_;intros
   refine n_lp (k+1) ⟨hh,fun j hj hl=>?_⟩ (by omega)
   rcases Nat.lt_or_eq_of_le (Nat.lt_succ_iff.1 hj) with h|rfl
   ·exact hk2 j h hl
   ·simpa using h2
 ·obtain rfl:k=e.entries.length:=by omega
  refine go ?_;intros
  refine ret () trivial ?_
  rw [fidx_none (fun j hj=>hk2 j hj hj)];rfl
theorem l1Has_f (l:List Int) (n:Int) (a:Option Addr) (c:Nat) (F:List Nat):Fn Tryz.prog 231 [.slice a l.length c,.int .i64 n] [.sl EInt (.slice a l.length c) l F] [] (fun (_:Unit)=>True) (fun _=>.bool (decide (n∈l))) (fun _=>[]):=by
 refine enter Tryz.func231 rfl Tryz.ntmps231 fun w0=>?_
 refine t_sl (xs:=l) ?_
 rintro _ _ _ l2 l3
 refine go ?_;intros
 refine c_loopR [0,1,4] (fun k:Nat=>[(5,.int .i64 (k:Nat))]) (fun k=>k≤l.length∧n ∉ l.take k) (fun k=>l.length - k) 0 ⟨Nat.zero_le _,by simp⟩ fun k hk=>?_
 obtain ⟨hk1,hk2⟩:=hk
 refine go ?_;intros
 refine c_if rfl (fun h1=>?_) (fun h1=>?_)
 ·have hh:k < l.length:=by omega
  refine go ?_;intros
  refine at_int (xs:=l) k ?_
  rintro hi b o e1
  rw [e1]
  refine go ?_;intros
  refine c_if rfl (fun h2=>?_) (fun h2=>?_)
  ·refine go ?_;intros
   refine ret () trivial ?_
   rw [decide_eq_true (h2▸List.getElem_mem hh:n∈l)];rfl
  ·refine go ?_;intros
   refine n_lp (k+1) ⟨hh,fun hm=>?_⟩ (by omega)
   rw [List.take_add_one,List.getElem?_eq_getElem hh] at hm
   rcases List.mem_append.1 hm with h|h
   ·exact hk2 h
   ·simp at h;exact h2 h.symm
 ·obtain rfl:k=l.length:=by omega
  rw [List.take_length] at hk2
  refine go ?_;intros
  refine ret () trivial ?_
  rw [decide_eq_false hk2];rfl
theorem cNaN_f (n:Int):Fn Tryz.prog 346 [.int .i64 n] [] [] (fun (_:Unit)=>True) (fun _=>.bool false) (fun _=>[]):=by
 refine enter Tryz.func346 rfl Tryz.ntmps346 fun w0=>?_
 refine go ?_;intros
 refine ret () trivial ?_
 simp [tup]
theorem sNaN_f (n:Int):Fn Tryz.prog 330 [.int .i64 n] [] [] (fun (_:Unit)=>True) (fun _=>.bool false) (fun _=>[]):=by
 refine enter Tryz.func330 rfl Tryz.ntmps330 fun w0=>?_
 refine go ?_;intros
 refine ret () trivial ?_
 simp [tup]
theorem cLess_f (a b:Int):Fn Tryz.prog 329 [.int .i64 a,.int .i64 b] [] [] (fun (_:Unit)=>True) (fun _=>.bool (decide (a < b))) (fun _=>[]):=by
 refine enter Tryz.func329 rfl Tryz.ntmps329 fun w0=>?_
 refine go ?_;intros
 refine cf (cNaN_f a) fun _ _=>?_
 refine t_app ?_
 refine go ?_;intros
 refine ret () trivial rfl
def atPl (l:List Int) (n:Int):Bool:=decide (l[placeI l n]?=some n)
theorem placeI_eq {l:List Int} {n:Int} {k:Nat} (h1:k≤l.length) (h2:∀j (_:j < k) (h:j < l.length),l[j] < n) (h3:∀h:k < l.length,¬l[k] < n):placeI l n=k:=tw_len h1 (fun j hj h=>by simpa using h2 j hj h) (fun h=>by simpa using h3 h)
theorem bsInt_f (xs:List Int) (n:Int) (a:Option Addr) (c:Nat) (F:List Nat) (hs:xs.Pairwise (· < ·)) (hl:xs.length≤1000000):Fn Tryz.prog 309 [.slice a xs.length c,.int .i64 n] [.sl EInt (.slice a xs.length c) xs F] [] (fun (_:Unit)=>True) (fun _=>.tuple #[.int .i64 (placeI xs n:Nat),.bool (atPl xs n)]) (fun _=>[]):=by
 have hm:=List.pairwise_iff_getElem.1 hs
 refine enter Tryz.func309 rfl Tryz.ntmps309 fun w0=>?_
 refine go ?_;intros
 refine c_loopR [0,1,4,5,6] (fun s:Nat × Nat=>[(7,.int .i64 (s.1:Nat)),(8,.int .i64 (s.2:Nat))]) (fun s=>s.1≤s.2∧s.2≤xs.length∧(∀j (_:j < s.1) (h:j < xs.length),xs[j] < n)∧(∀j (_:s.2≤j) (h:j < xs.length),¬xs[j] < n)) (fun s=>s.2 - s.1) (0,xs.length) ⟨Nat.zero_le _,Nat.le_refl _,fun j h=>by omega,fun j h1 h2=>by omega⟩ fun s hs=>?_
 obtain ⟨i,j⟩:=s
 obtain ⟨h1,h2,h3,h4⟩:=hs
 dsimp only at h1 h2 h3 h4 ⊢
 refine go ?_;intros
 refine c_if rfl (fun h5=>?_) (fun h5=>?_)
 ·have hh:(i+j) / 2 < xs.length:=by omega
  have e2:((i:Int)+(j:Int)) / 2=(((i+j) / 2:Nat):Int):=by omega
  refine go ?_;intros
  apply wO;apply oc;rfl;exact yd_cvu rfl (by omega) (by omega)
  refine go ?_;intros
  apply wO;apply oc;rfl;exact yd_shr1 rfl
  rw [e2]
  apply wO;apply oc;rfl;exact yd_cv rfl (by omega) (by omega)
  generalize hq:(i+j) / 2=q at hh
  refine go ?_;intros
  refine at_int (xs:=xs) q ?_
  rintro hi b o e
  rw [e]
  refine go ?_;intros
  refine cf (cLess_f _ _) fun _ _=>?_
  refine t_app ?_
  refine go ?_;intros
  refine c_if rfl (fun h6=>?_) (fun h6=>?_)
  ·refine go ?_;intros
   refine t_drop ?_
   refine n_lp (hH:=hsub_refl _) (q+1,j) ⟨by show q+1≤j;omega,h2,fun k hk h=>?_,h4⟩ (by show j - (q+1) < j - i;omega)
   rcases Nat.lt_or_eq_of_le (Nat.lt_succ_iff.1 (show k < q+1 from hk)) with hk|rfl
   ·have:=hm k q h hh hk;omega
   ·exact h6
  ·refine go ?_;intros
   refine t_drop ?_
   refine n_lp (hH:=hsub_refl _) (i,q) ⟨by show i≤q;omega,by show q≤xs.length;omega,h3,fun k hk h hn=>h6 ?_⟩ (by show q - i < j - i;omega)
   rcases Nat.lt_or_eq_of_le (show q≤k from hk) with hk|rfl
   ·have:=hm q k hh h hk;omega
   ·exact hn
 ·have hij:i=j:=by omega
  subst hij
  have hk:placeI xs n=i:=placeI_eq h2 h3 (fun h=>h4 i (Nat.le_refl _) h)
  unfold atPl
  rw [hk]
  refine go ?_;intros
  refine wg_if rfl rfl (fun h6=>?_) (fun h6=>?_)
  ·have hh:i < xs.length:=by omega
   rw [List.getElem?_eq_getElem hh]
   refine go ?_;intros
   refine at_int (xs:=xs) i ?_
   rintro hi b o e
   rw [e]
   refine go ?_;intros
   refine wg_if rfl rfl (fun h7=>?_) (fun h7=>?_)
   ·refine go ?_;intros
    refine ret () trivial ?_
    rw [decide_eq_true (by simpa using h7)];rfl
   ·refine go ?_;intros
    refine cf (sNaN_f _) fun _ _=>?_
    refine t_app ?_
    refine go ?_;intros
    refine ret () trivial ?_
    rw [decide_eq_false (by simpa using h7)];rfl
  ·refine go ?_;intros
   refine ret () trivial ?_
   rw [List.getElem?_eq_none (by omega)];rfl
theorem idxI_f (xs:List Int) (n:Int) (a:Option Addr) (c:Nat) (F:List Nat):Fn Tryz.prog 271 [.slice a xs.length c,.int .i64 n] [.sl EInt (.slice a xs.length c) xs F] [] (fun (_:Unit)=>True) (fun _=>.int .i64 (fidx (fun x=>x == n) xs)) (fun _=>[]):=by
 refine enter Tryz.func271 rfl Tryz.ntmps271 fun w0=>?_
 refine t_sl (xs:=xs) ?_
 rintro _ _ - l2 l3
 refine go ?_;intros
 refine c_loopR [0,1,4,7] (fun k:Nat=>[(8,.int .i64 (k:Nat))]) (fun k=>k≤xs.length∧∀j (_:j < k) (hj:j < xs.length),(xs[j] == n)=false) (fun k=>xs.length - k) 0 ⟨Nat.zero_le _,fun j h=>by omega⟩ fun k hk=>?_
 obtain ⟨hk1,hk2⟩:=hk
 refine go ?_;intros
 refine c_if rfl (fun h1=>?_) (fun h1=>?_)
 ·have hh:k < xs.length:=by omega
  refine go ?_;intros
  refine at_int (xs:=xs) k ?_
  rintro hi b o e1
  rw [e1]
  refine go ?_;intros
  refine c_if rfl (fun h2=>?_) (fun h2=>?_)
  ·refine go ?_;intros
   refine ret () trivial ?_
   rw [fidx_hit hh hk2 (by simpa using h2.symm)];rfl
  ·refine go ?_;intros
   refine n_lp (k+1) ⟨hh,fun j hj hl=>?_⟩ (by omega)
   rcases Nat.lt_or_eq_of_le (Nat.lt_succ_iff.1 hj) with h|rfl
   ·exact hk2 j h hl
   ·simpa using fun e=>h2 e.symm
 ·obtain rfl:k=xs.length:=by omega
  refine go ?_;intros
  refine ret () trivial ?_
  rw [fidx_none (fun j hj=>hk2 j hj hj)];rfl
theorem any_mem (l:List Int) (n:Int):(l.any fun x=>x == n)=decide (n∈l):=by
 rw [Bool.eq_iff_iff,List.any_eq_true,decide_eq_true_eq]
 exact ⟨fun ⟨x,hx,h⟩=>by simp at h;exact h▸hx,fun h=>⟨n,h,by simp⟩⟩
theorem conI_f (xs:List Int) (n:Int) (a:Option Addr) (c:Nat) (F:List Nat):Fn Tryz.prog 204 [.slice a xs.length c,.int .i64 n] [.sl EInt (.slice a xs.length c) xs F] [] (fun (_:Unit)=>True) (fun _=>.bool (decide (n∈xs))) (fun _=>[]):=by
 refine enter Tryz.func204 rfl Tryz.ntmps204 fun w0=>?_
 refine go ?_;intros
 refine cf (idxI_f xs n _ _ F) fun _ _=>?_
 refine t_app ?_
 refine go ?_;intros
 refine ret () trivial ?_
 rw [fidx_any,any_mem];rfl
theorem rep1_Int (y:Int) (w:World):Flat EInt w [.int .i64 y] [y] []:=⟨_,[],[],[],by simp,by simp,⟨rfl,rfl⟩,rfl,rfl⟩
theorem InsInt_f (xs:List Int) (y:Int) (i:Nat) (a:Option Addr) (c vb:Nat) (F:List Nat) (hi:i≤xs.length) (hl:xs.length≤1000000) :
  Fn Tryz.prog 310 [.slice a xs.length c,.int .i64 i,.slice (some ⟨vb,0,none⟩) 1 1] [] [.ow EInt 3 (.slice a xs.length c) xs F,.row vb 3 0 [] [.int .i64 y] []] (fun (_:Option Addr × Nat × List Nat)=>True)
   (fun z=>.slice z.1 (xs.take i++y::xs.drop i).length z.2.1) (fun z=>[.ow EInt 3 (.slice z.1 (xs.take i++y::xs.drop i).length z.2.1) (xs.take i++y::xs.drop i) z.2.2]):=by
 have hone:∀w':World,∀cs:List Value,Flat EInt w' cs xs []→∀u∈cs,u.oneCell'=true:=fun w' cs h=>h.one' one_EInt
 have hy:=rep1_Int y
 have h1y:∀u∈([.int .i64 y]:List Value),u.oneCell'=true:=by intro u hu;simp at hu;rcases hu with rfl|rfl|rfl|rfl <;> rfl
 refine enter Tryz.func310 rfl Tryz.ntmps310 fun w0=>?_
 refine t_cap (E:=EInt) fun hc1 hc2=>?_
 refine go ?_;intros
 apply wO
 refine o_slany rfl rfl rfl rfl hi (fun _=>?_) hc1
 refine go ?_;intros
 refine c_if rfl (fun h1=>?_) (fun h1=>?_)
 ·have hin:i=xs.length:=by omega
  subst hin
  have e:xs.take xs.length++y::xs.drop xs.length=xs++[y]:=by simp
  refine go ?_;intros
  apply wO
  refine ap1 hy one_EInt fun a2 c2 F2=>?_
  rw [e]
  refine go ?_;intros
  refine ret (a2,c2,F2) trivial rfl
 ·have hlt:i < xs.length:=by omega
  refine t_rowof (xs:=xs) scal_EInt (by rintro rfl;simp at hlt) ?_
  rintro g cs rest rfl - - - hcl hcr hfl
  rw [show EInt.sz=1 from rfl] at hcl hcr
  have h1c:=hone w0 cs (hfl w0)
  obtain ⟨A,B,hcs,hA,hB⟩:∃A B,cs=A++B∧A=cs.take (i * 1)∧B=cs.drop (i * 1):=⟨_,_,(List.take_append_drop _ _).symm,rfl,rfl⟩
  have hAl:A.length=i * 1:=by rw [hA,List.length_take];omega
  have hBl:B.length=(xs.length - i) * 1:=by rw [hB,List.length_drop];omega
  have hins:∀w,Flat EInt w (A++[.int .i64 y]++B) (xs.take i++y::xs.drop i) []:=fun w=>by rw [hA,hB];exact (hfl w).insL (hy w) i hi
  have h1A:∀u∈A,u.oneCell'=true:=fun u hu=>h1c u (by rw [hcs];simp [hu])
  have h1B:∀u∈B,u.oneCell'=true:=fun u hu=>h1c u (by rw [hcs];simp [hu])
  have hlen:(xs.take i++y::xs.drop i).length=xs.length+1:=by simp;omega
  clear hA hB hfl hone
  subst hcs
  have eA:A=((A++B++rest).drop 0).take (i * 1):=by rw [List.drop_zero,List.append_assoc,List.take_left' hAl]
  have eB:B=((A++B++rest).drop (0+i * 1)).take ((xs.length - i) * 1):=by rw [Nat.zero_add,List.append_assoc,List.drop_left' hAl,List.take_left' hBl]
  rw [hlen]
  refine go ?_;intros
  apply wO;apply oc;rfl;exact yd_cap rfl
  refine go ?_;intros
  refine c_if rfl (fun h2=>?_) (fun h2=>?_)
  ·refine go ?_;intros
   apply wO;apply oc;rfl;exact yd_slt (i:=i) rfl rfl rfl (by omega) (by omega)
   refine go ?_;intros
   apply wO
   refine o_apgz (k:=xs.length+1 - i) (olds:=A) rfl rfl rfl (by omega) (src_row (m:=i * 1) (.head _) eA) (by omega) (by decide) (by omega) (by omega) (by omega) (by omega) fun g' cp' Z rest' h3 h4 h5 h6=>?_
   rw [show i+(xs.length+1 - i)=xs.length+1 by omega] at h3 ⊢
   obtain ⟨Z1,Z2,rfl,hZ1,hZ2⟩:∃Z1 Z2,Z=Z1++Z2∧Z1.length=1∧Z2.length=B.length:=⟨Z.take 1,Z.drop 1,(List.take_append_drop _ _).symm,by rw [List.length_take];omega,by rw [List.length_drop];omega⟩
   refine go ?_;intros
   apply wO;apply oc;rfl;exact yd_slv (i:=i) rfl rfl rfl (by omega) (by omega) (by omega)
   refine go ?_;intros
   apply wO
   refine o_cpy (cs:=[.int .i64 y]) (L':=A++[.int .i64 y]++(Z2++rest')) rfl rfl rfl (src_row (L:=[.int .i64 y]) (o:=0) (m:=1) (by exact memE) rfl) .here (cpyM (M:=Z1) (by simp [List.append_assoc]) (by omega) (by simpa using hZ1)) (by show 1=min 1 (xs.length+1 - i) * 1;omega) (by simp only [List.length_append,List.length_cons,List.length_nil];omega) h1y ?_
   refine go ?_;intros
   refine d_start [] [] ?_
   refine dt4 0 1 2 3 ?_
   refine dt 4 ?_ (hy:=yd_slv (i:=i+1) rfl rfl (by omega) (by omega) (by omega) (by omega))
   refine dt2 5 6 ?_
   refine dt 7 ?_ (hy:=yd_slv (i:=i) rfl rfl (by omega) (by omega) (by omega) (by omega))
   refine dN 8 ?_
   refine o_cpy (cs:=B) (L':=A++[.int .i64 y]++B++rest') rfl rfl rfl (src_row (by exact memE) eB) .here (cpyM (P:=A++[.int .i64 y]) (M:=Z2) (by simp [List.append_assoc]) (by simp only [List.length_append,List.length_cons,List.length_nil];omega) hZ2) (by rw [hBl];congr 1;show _=min (xs.length - i) (xs.length+1 - (i+1));omega) (by simp only [List.length_append,List.length_cons,List.length_nil];omega) h1B ?_
   refine dk ?_
   refine dd ?_
   refine t_owof (cs:=A++[.int .i64 y]++B) (rest:=rest') (xs:=xs.take i++y::xs.drop i) cp' rfl hins (by omega) h4 (by rw [show EInt.sz=1 from rfl];simp only [List.length_append,List.length_cons,List.length_nil] at h6 ⊢;omega) ?_
   rw [hlen]
   refine go ?_;intros
   refine ret (_,cp',[g']) trivial rfl
  ·have hcx:xs.length+1≤c:=by omega
   obtain ⟨X,Y,hXY,hX,hY⟩:=shiftL (B:=B) (R:=rest) 1 (by omega)
   refine go ?_;intros
   apply wO;apply oc;rfl;exact yd_slt (i:=xs.length+1) rfl rfl (by omega) (by omega) (by omega)
   refine go ?_;intros
   apply wO;apply oc;rfl;exact yd_slv (i:=i+1) rfl rfl (by omega) (by omega) (by omega) (by omega)
   refine goN ?_;intros
   apply wO
   refine o_ext rfl evsE (ovl (tS:=22) (tR:=4) (run_callFunc_extern Tryz.func331 (by kernel_rfl) (by kernel_rfl) (by kernel_rfl) (e:=Extern.SlicesOverlaps.overlaps #[22,22] #[4]) (by kernel_rfl)) (.there .here) (.head _) (by intro e;have:=congrArg List.length e;simp only [List.length_append,List.length_nil] at this;omega)) ?_
   refine go ?_;intros
   refine d_start [] [] ?_
   refine dt4 0 1 2 3 ?_
   refine dt 4 ?_ (hy:=yd_slv (i:=i+1) rfl rfl (by omega) (by omega) (by omega) (by omega))
   refine dt2 5 6 ?_
   refine dt 7 ?_ (hy:=yd_slv (i:=i) rfl rfl (by omega) (by omega) (by omega) (by omega))
   refine dN 8 ?_
   refine o_cpy (cs:=B) (L':=A++X++B++rest.drop 1) rfl rfl rfl (src_row (by exact memE) eB) .here (cpyM (P:=A++X) (M:=Y) (by rw [List.append_assoc A B rest,hXY];simp [List.append_assoc]) (by simp only [List.length_append];omega) hY) (by rw [hBl];congr 1;show _=min (xs.length+1 - i) (xs.length+1 - (i+1));omega) (by simp only [List.length_append];omega) h1B ?_
   refine dk ?_
   refine dd ?_
   refine go ?_;intros
   apply wO;apply oc;rfl;exact yd_slv (i:=i) rfl rfl rfl (by omega) (by omega) (by omega)
   refine go ?_;intros
   apply wO
   refine o_cpy (cs:=[.int .i64 y]) (L':=A++[.int .i64 y]++(B++rest.drop 1)) rfl rfl rfl (src_row (L:=[.int .i64 y]) (o:=0) (m:=1) (by exact memE) rfl) .here (cpyM (M:=X) (by simp [List.append_assoc]) (by omega) (by simpa using hX)) (by show 1=min 1 (xs.length+1 - i) * 1;omega) (by simp only [List.length_append,List.length_cons,List.length_nil];omega) h1y ?_
   refine go ?_;intros
   refine t_owof (L:=A++[.int .i64 y]++(B++rest.drop 1)) (cs:=A++[.int .i64 y]++B) (rest:=rest.drop 1) (xs:=xs.take i++y::xs.drop i) c (by simp [List.append_assoc]) hins (by omega) (by omega) (by rw [show EInt.sz=1 from rfl];simp only [List.length_append,List.length_cons,List.length_nil,List.length_drop];omega) ?_
   rw [hlen]
   refine ret (_,c,[g]) trivial rfl
theorem rep_i (n:Int) (w:World):Flat EInt w [.int .i64 n] [n] []:=⟨_,[],[],[],by simp,by simp,⟨rfl,rfl⟩,rfl,rfl⟩
theorem placeI_le (l:List Int) (n:Int):placeI l n≤l.length:=(tw_spec (p:=fun x=>decide (x < n)) (xs:=l)).1
structure PutS where
 a:Option Addr
 c:Nat
 F:List Nat
theorem l1Put_f (l:List Int) (n:Int) (a:Option Addr) (c:Nat) (F:List Nat) (hl:l.length≤1000000):Fn Tryz.prog 234 [.slice a l.length c,.int .i64 n] [] [.ow EInt 3 (.slice a l.length c) l F] (fun (_:PutS)=>True) (fun s=>.slice s.a (putI l n).length s.c) (fun s=>[.ow EInt 3 (.slice s.a (putI l n).length s.c) (putI l n) s.F]):=by
 refine enter Tryz.func234 rfl Tryz.ntmps234 fun w0=>?_
 refine go ?_;intros
 refine c_loopR [0,1,4] (fun k:Nat=>[(5,.int .i64 (k:Nat))]) (fun k=>k≤l.length∧∀j (_:j < k) (hj:j < l.length),l[j] < n) (fun k=>l.length - k) 0 ⟨Nat.zero_le _,fun j h=>by omega⟩ fun k hk=>?_
 obtain ⟨hk1,hk2⟩:=hk
 refine go ?_;intros
 refine wg_if rfl rfl (fun h1=>?_) (fun h1=>?_)
 ·have hh:k < l.length:=by omega
  refine go ?_;intros
  refine focF (m:=1) scal_EInt k ?_ (by repeat (first|exact .here|apply Pick.there)) rfl hh
  rintro _ g A cs B rfl rfl hr hH
  obtain ⟨rfl, -⟩:=hr w0
  refine go ?_;intros
  refine unfF l[k] hH hr ?_
  rw [List.set_getElem_self]
  refine c_if rfl (fun h2=>?_) (fun h2=>?_)
  ·refine go ?_;intros
   refine n_lp (k+1) ⟨hh,fun j hj hl=>?_⟩ (by omega)
   rcases Nat.lt_or_eq_of_le (Nat.lt_succ_iff.1 hj) with h|rfl
   ·exact hk2 j h hl
   ·exact h2
  ·have hp:placeI l n=k:=placeI_eq hk1 hk2 (fun _=>h2)
   refine go ?_;intros
   refine wg_if rfl rfl (fun h4=>?_) (fun h4=>absurd h1 h4)
   refine go ?_;intros
   refine focF (m:=1) scal_EInt k ?_ (by repeat (first|exact .here|apply Pick.there)) rfl hh
   rintro _ g A cs B e1 - hr hH
   cases e1
   obtain ⟨rfl, -⟩:=hr w0
   refine go ?_;intros
   refine unfF l[k] hH hr ?_
   rw [List.set_getElem_self]
   refine c_if rfl (fun h3=>?_) (fun h3=>?_)
   ·have e:putI l n=l:=by unfold putI;rw [hp,List.getElem?_eq_getElem hh,if_pos (by rw [h3])]
    rw [e]
    refine go ?_;intros
    refine ret ⟨_,_,_⟩ trivial rfl
   ·have e:putI l n=l.take k++[n]++l.drop k:=by unfold putI;rw [hp,List.getElem?_eq_getElem hh,if_neg (by simpa using h3)];simp
    refine go ?_;intros
    refine t_read fun F5=>?_
    refine t_stk k (by omega) fun F6 hc1 hc2=>?_
    refine d_start [] [] ?_
    refine dt2 1 2 ?_
    refine dt 3 ?_ (hy:=yd_slt (i:=k) rfl rfl rfl (by omega) (by omega))
    refine dt2 5 8 ?_
    refine dt 9 ?_
    refine dsld 10 k fun a6 c6 F6=>?_
    refine dM 0 6 ?_ ?_
    ·apply o_bs0;rfl;intro _
     refine t_emp EInt ?_
     refine dk ?_
     refine dM 4 6 ?_ ?_
     ·refine aps one_EInt scal_EInt (fun a2 c2 F2=>?_) (hn:=by rw [List.length_take];omega) (h63:=by exact lenE) (hby:=by exact lenE)
      refine dk ?_
      refine dN 6 ?_
      apply o_bs;rfl;rfl;rfl;rfl;exact rptE;exact filE;intro _
      refine dk ?_
      refine dN 7 ?_
      refine ap1 (rep_i n) one_EInt (fun a3 c3 F3=>?_) (h63:=by exact lenE) (hby:=by exact lenE)
      refine dk ?_
      refine dN 11 ?_
      refine aps one_EInt scal_EInt (fun a4 c4 F4=>?_) (h63:=by exact lenE) (hby:=by exact lenE)
      refine dk ?_
      refine dt 12 ?_
      refine dd ?_
      rw [e]
      refine go ?_;intros
      refine ret ⟨_,_,_⟩ trivial rfl
     ·apply o_bs;rfl;rfl;rfl;rfl;exact rptE;exact filE;intro _
      refine dk ?_
      refine dN 4 ?_
      refine aps one_EInt scal_EInt (fun a2 c2 F2=>?_) (hn:=by rw [List.length_take];omega) (h63:=by exact lenE) (hby:=by exact lenE)
      refine dk ?_
      refine dN 7 ?_
      refine ap1 (rep_i n) one_EInt (fun a3 c3 F3=>?_) (h63:=by exact lenE) (hby:=by exact lenE)
      refine dk ?_
      refine dN 11 ?_
      refine aps one_EInt scal_EInt (fun a4 c4 F4=>?_) (h63:=by exact lenE) (hby:=by exact lenE)
      refine dk ?_
      refine dt 12 ?_
      refine dd ?_
      rw [e]
      refine go ?_;intros
      refine ret ⟨_,_,_⟩ trivial rfl
    ·apply o_bs;rfl;rfl;rfl;rfl;exact rptE;exact filE;intro _
     refine dk ?_
     refine dN 0 ?_
     apply o_bs0;rfl;intro _
     refine t_emp EInt ?_
     refine dk ?_
     refine dN 4 ?_
     refine aps one_EInt scal_EInt (fun a2 c2 F2=>?_) (hn:=by rw [List.length_take];omega) (h63:=by exact lenE) (hby:=by exact lenE)
     refine dk ?_
     refine dN 7 ?_
     refine ap1 (rep_i n) one_EInt (fun a3 c3 F3=>?_) (h63:=by exact lenE) (hby:=by exact lenE)
     refine dk ?_
     refine dN 11 ?_
     refine aps one_EInt scal_EInt (fun a4 c4 F4=>?_) (h63:=by exact lenE) (hby:=by exact lenE)
     refine dk ?_
     refine dt 12 ?_
     refine dd ?_
     rw [e]
     refine go ?_;intros
     refine ret ⟨_,_,_⟩ trivial rfl
 ·have hp:placeI l n=k:=placeI_eq hk1 hk2 (fun h=>by omega)
  have e:putI l n=l.take k++[n]++l.drop k:=by unfold putI;rw [hp,List.getElem?_eq_none (by omega)];simp
  refine go ?_;intros
  refine wg_if rfl rfl (fun h4=>absurd h4 h1) (fun h4=>?_)
  refine go ?_;intros
  refine t_read fun F5=>?_
  refine t_stk k (by omega) fun F6 hc1 hc2=>?_
  refine d_start [] [] ?_
  refine dt2 1 2 ?_
  refine dt 3 ?_ (hy:=yd_slt (i:=k) rfl rfl rfl (by omega) (by omega))
  refine dt2 5 8 ?_
  refine dt 9 ?_
  refine dsld 10 k fun a6 c6 F6=>?_
  refine dM 0 6 ?_ ?_
  ·apply o_bs0;rfl;intro _
   refine t_emp EInt ?_
   refine dk ?_
   refine dM 4 6 ?_ ?_
   ·refine aps one_EInt scal_EInt (fun a2 c2 F2=>?_) (hn:=by rw [List.length_take];omega) (h63:=by exact lenE) (hby:=by exact lenE)
    refine dk ?_
    refine dN 6 ?_
    apply o_bs;rfl;rfl;rfl;rfl;exact rptE;exact filE;intro _
    refine dk ?_
    refine dN 7 ?_
    refine ap1 (rep_i n) one_EInt (fun a3 c3 F3=>?_) (h63:=by exact lenE) (hby:=by exact lenE)
    refine dk ?_
    refine dN 11 ?_
    refine aps one_EInt scal_EInt (fun a4 c4 F4=>?_) (h63:=by exact lenE) (hby:=by exact lenE)
    refine dk ?_
    refine dt 12 ?_
    refine dd ?_
    rw [e]
    refine go ?_;intros
    refine ret ⟨_,_,_⟩ trivial rfl
   ·apply o_bs;rfl;rfl;rfl;rfl;exact rptE;exact filE;intro _
    refine dk ?_
    refine dN 4 ?_
    refine aps one_EInt scal_EInt (fun a2 c2 F2=>?_) (hn:=by rw [List.length_take];omega) (h63:=by exact lenE) (hby:=by exact lenE)
    refine dk ?_
    refine dN 7 ?_
    refine ap1 (rep_i n) one_EInt (fun a3 c3 F3=>?_) (h63:=by exact lenE) (hby:=by exact lenE)
    refine dk ?_
    refine dN 11 ?_
    refine aps one_EInt scal_EInt (fun a4 c4 F4=>?_) (h63:=by exact lenE) (hby:=by exact lenE)
    refine dk ?_
    refine dt 12 ?_
    refine dd ?_
    rw [e]
    refine go ?_;intros
    refine ret ⟨_,_,_⟩ trivial rfl
  ·apply o_bs;rfl;rfl;rfl;rfl;exact rptE;exact filE;intro _
   refine dk ?_
   refine dN 0 ?_
   apply o_bs0;rfl;intro _
   refine t_emp EInt ?_
   refine dk ?_
   refine dN 4 ?_
   refine aps one_EInt scal_EInt (fun a2 c2 F2=>?_) (hn:=by rw [List.length_take];omega) (h63:=by exact lenE) (hby:=by exact lenE)
   refine dk ?_
   refine dN 7 ?_
   refine ap1 (rep_i n) one_EInt (fun a3 c3 F3=>?_) (h63:=by exact lenE) (hby:=by exact lenE)
   refine dk ?_
   refine dN 11 ?_
   refine aps one_EInt scal_EInt (fun a4 c4 F4=>?_) (h63:=by exact lenE) (hby:=by exact lenE)
   refine dk ?_
   refine dt 12 ?_
   refine dd ?_
   rw [e]
   refine go ?_;intros
   refine ret ⟨_,_,_⟩ trivial rfl
theorem clOE {c:Cx} {fr:Fr} {H S:List Pc} {Φ:Gl} (x:Element) {a:Option Addr} {n cp:Nat} {F:List Nat} (hn:n=x.entries.length) (h:T c fr (.own OElement (.agg #[.int .i64 x.clock,.slice a n cp]) x F::S) Φ) (hp:Pick H (.ow OEntry 231 (.slice a n cp) x.entries F) S:=by (repeat (first|exact .here|apply Pick.there));first|done|fail):T c fr H Φ:=by
 subst hn;exact closeOElement x h hp
theorem reqE_yes {e:Element} {n f:Int} (h:atE e n < e.entries.length):reqE e n f=⟨e.clock,e.entries.set (atE e n) ⟨e.entries[atE e n].number,putI e.entries[atE e n].faces f,e.entries[atE e n].untl⟩⟩:=by unfold reqE;rw [List.getElem?_eq_getElem h]
theorem reqE_new {e:Element} {n f:Int} (h:e.entries[atE e n]?=none) (hl:e.entries.length < 5):reqE e n f=⟨e.clock,e.entries++[⟨n,[f],e.clock+6⟩]⟩:=by unfold reqE;rw [h];simp [hl]
theorem reqE_full {e:Element} {n f:Int} (h:e.entries[atE e n]?=none) (hl:¬e.entries.length < 5):reqE e n f=e:=by unfold reqE;rw [h];simp [hl]
theorem l14Request_f (e:Element) (n f:Int) (v:Value) (F:List Nat) (hl:e.entries.length≤1000000) (hf:∀x∈e.entries,x.faces.length≤1000000) (hc0:-1000000≤e.clock) (hc1:e.clock≤1000000):Fn Tryz.prog 165 [v,.int .i64 n,.int .i64 f] [.isv EElement v e F] [] (fun (_:Value × List Nat)=>True) (fun s=>.tuple #[s.1,.bool (fwdE e n)]) (fun s=>[.own OElement s.1 (reqE e n f) s.2]):=by
 refine enter Tryz.func165 rfl Tryz.ntmps165 fun w0=>?_
 refine openElement ?_
 rintro a1 c1 F1 rfl l1
 refine go ?_;intros
 refine cv (fun w st=>l14Own_c _ e _ w (st.get (p:=.isv EElement (.agg #[.int .i64 e.clock,.slice a1 e.entries.length c1]) e F) (by simp)) (by omega) (fun x hx=>Nat.le_trans (hf x hx) (by decide))) fun u FU=>?_
 refine openOElement ?_
 rintro a2 c2 F2 rfl l2
 refine go ?_;intros
 refine cf (l14Find_f e n _ F) fun _ _=>?_
 refine t_app ?_
 rcases findE_or e n with ⟨h,e1,e2,e3⟩|⟨e1,e2,e3,e4⟩
 ·rw [e1,e3,reqE_yes h]
  have hfx:=hf e.entries[atE e n] (List.getElem_mem h)
  refine go ?_;intros
  refine focO (m:=3) (atE e n) ?_ rfl h
  rintro _ g A cs B k1 k2 G1 Gi G2 rfl - hc hH
  refine openOEntry ?_
  rintro a5 c5 F5 ev l5
  obtain rfl:cs=[.int .i64 e.entries[atE e n].number,.slice a5 e.entries[atE e n].faces.length c5,.int .i64 e.entries[atE e n].untl]:=by simpa using ev
  refine go ?_;intros
  refine cf (l1Put_f _ f a5 c5 F5 hfx) fun z _=>?_
  refine t_app ?_
  refine go ?_;intros
  refine closeOEntry ⟨e.entries[atE e n].number,putI e.entries[atE e n].faces f,e.entries[atE e n].untl⟩ ?_
  refine unfO _ hH rfl fun F6=>?_
  refine clOE ⟨e.clock,_⟩ List.length_set.symm ?_
  refine ret (_,_) trivial rfl
 ·rw [e1,e3]
  refine go ?_;intros
  refine c_if rfl (fun h5=>?_) (fun h5=>?_)
  ·rw [reqE_new e2 (by omega)]
   refine go ?_;intros
   refine t_row (E:=EInt) (xs:=[f]) (rep_i f) ?_ (by simp)
   refine closeOEntry ⟨n,[f],e.clock+6⟩ ?_
   apply wO
   refine ap1o one_OEntry ⟨n,[f],e.clock+6⟩ rfl fun a3 c3 F3=>?_
   refine go ?_;intros
   refine clOE ⟨e.clock,_⟩ rfl ?_
   refine ret (_,_) trivial rfl
  ·rw [reqE_full e2 (by omega)]
   refine go ?_;intros
   refine clOE e rfl ?_
   refine ret (_,_) trivial rfl
def facS (e:Element) (n:Int) (below:List Int):List Int:=match e.entries[atE e n]? with
 | some x=>below.filter fun f=>decide (f∈x.faces)
 | none=>if e.entries.length=5 then below else []
theorem repE_yes {e:Element} {n:Int} (h:atE e n < e.entries.length):repE e n=⟨e.clock,e.entries.take (atE e n)++e.entries.drop (atE e n+1)⟩:=by unfold repE;rw [List.getElem?_eq_getElem h]
theorem repE_no {e:Element} {n:Int} (h:e.entries[atE e n]?=none):repE e n=e:=by unfold repE;rw [h]
theorem facS_yes {e:Element} {n:Int} {l:List Int} (h:atE e n < e.entries.length):facS e n l=l.filter fun f=>decide (f∈e.entries[atE e n].faces):=by unfold facS;rw [List.getElem?_eq_getElem h]
theorem facS_no {e:Element} {n:Int} {l:List Int} (h:e.entries[atE e n]?=none):facS e n l=if e.entries.length=5 then l else []:=by unfold facS;rw [h]
structure FacS where
 k:Nat
 a:Option Addr
 c:Nat
 F:List Nat
structure RepS where
 v:Value
 F:List Nat
 a:Option Addr
 c:Nat
 G:List Nat
theorem l14Repair_f (e:Element) (n:Int) (below:List Int) (v:Value) (F:List Nat) (a0:Option Addr) (c0:Nat) (F0:List Nat) (hl:e.entries.length≤1000000) (hf:∀x∈e.entries,x.faces.length≤1000000) (hb:below.length≤1000000):Fn Tryz.prog 163 [v,.int .i64 n,.slice a0 below.length c0] [.isv EElement v e F,.sl EInt (.slice a0 below.length c0) below F0] [] (fun (_:RepS)=>True) (fun s=>.tuple #[s.v,.slice s.a (facS e n below).length s.c]) (fun s=>[.own OElement s.v (repE e n) s.F,.ow EInt 3 (.slice s.a (facS e n below).length s.c) (facS e n below) s.G]):=by
 refine enter Tryz.func163 rfl Tryz.ntmps163 fun w0=>?_
 refine openElement ?_
 rintro a1 c1 F1 rfl l1
 refine go ?_;intros
 refine cv (fun w st=>l14Own_c _ e _ w (st.get (p:=.isv EElement (.agg #[.int .i64 e.clock,.slice a1 e.entries.length c1]) e F) (by simp)) (by omega) (fun x hx=>Nat.le_trans (hf x hx) (by decide))) fun u FU=>?_
 refine openOElement ?_
 rintro a2 c2 F2 rfl l2
 refine go ?_;intros
 refine cf (l14Find_f e n _ F) fun _ _=>?_
 refine t_app ?_
 refine t_emp EInt ?_
 rcases findE_or e n with ⟨h,e1,e2,e3⟩|⟨e1,e2,e3,e4⟩
 ·rw [e1,repE_yes h,facS_yes h]
  have hfx:=hf e.entries[atE e n] (List.getElem_mem h)
  refine go ?_;intros
  refine atEntry (xs:=e.entries) (atE e n) ?_
  rintro hi b o a5 c5 F5 e6 l5
  generalize atE e n=i at *
  generalize hx:e.entries[i]=x at *
  rw [e6]
  refine go ?_;intros
  refine c_loopS [2,3,6,7,8,10] (fun s:FacS=>[(11,.int .i64 (s.k:Nat)),(9,.slice s.a ((below.take s.k).filter fun f=>decide (f∈x.faces)).length s.c)]) (fun s=>[.ow EInt 3 (.slice s.a ((below.take s.k).filter fun f=>decide (f∈x.faces)).length s.c) ((below.take s.k).filter fun f=>decide (f∈x.faces)) s.F]) (fun s=>s.k≤below.length) (fun s=>below.length - s.k) ⟨0,_,_,_⟩ (Nat.zero_le _) fun s hs=>?_
  obtain ⟨k,a3,c3,F3⟩:=s
  dsimp only at hs ⊢
  refine go ?_;intros
  refine c_if rfl (fun h6=>?_) (fun h6=>?_)
  ·have hk:k < below.length:=by omega
   refine at_int (xs:=below) k ?_
   rintro hi2 b2 o2 e7
   rw [e7]
   have ht:below.take (k+1)=below.take k++[below[k]]:=by rw [List.take_add_one,List.getElem?_eq_getElem hk];rfl
   have hle:((below.take k).filter fun f=>decide (f∈x.faces)).length≤k:=Nat.le_trans (List.length_filter_le _ _) (by simp;omega)
   refine go ?_;intros
   refine d_start [0,2,7] [] ?_
   refine dt4 0 1 2 3 ?_
   refine dt4 4 5 6 7 ?_
   refine dt2 8 9 ?_
   refine dN 10 ?_
   refine oC ?_
   refine cf (l1Has_f x.faces below[k] a5 c5 F5) fun _ _=>?_
   refine t_app ?_
   refine dk ?_
   refine dd ?_
   refine go ?_;intros
   refine c_if rfl (fun h7=>?_) (fun h7=>?_)
   ·have e8:(below.take (k+1)).filter (fun f=>decide (f∈x.faces))=((below.take k).filter fun f=>decide (f∈x.faces))++[below[k]]:=by rw [ht,List.filter_append];simp [h7]
    refine go ?_;intros
    apply wO
    refine ap1 (rep_i _) one_EInt fun a6 c6 F6=>?_
    rw [←e8]
    refine go ?_;intros
    refine n_lp (⟨k+1,_,_,_⟩:FacS) hk (by dsimp only;omega)
   ·have e8:(below.take (k+1)).filter (fun f=>decide (f∈x.faces))=((below.take k).filter fun f=>decide (f∈x.faces)):=by rw [ht,List.filter_append];simp [h7]
    refine go ?_;intros
    rw [←e8]
    refine n_lp (⟨k+1,_,_,_⟩:FacS) hk (by dsimp only;omega)
  ·have hk:below.take k=below:=List.take_of_length_le (by omega)
   rw [hk]
   refine go ?_;intros
   refine t_shal one_OEntry rfl fun ys Fy Gy hyl hym=>?_
   refine t_fcut i hi hyl hym fun G1 Gi G2=>?_
   refine t_read (E:=EC 3) (xs:=ys) fun Fr=>?_
   refine t_stk (E:=EC 3) (xs:=ys) i (by omega) fun F6 hc1 hc2=>?_
   refine d_start [8] [13] ?_
   refine dt2 1 2 ?_
   refine dt 3 ?_
   refine dt 4 ?_ (hy:=yd_slt (i:=i) rfl rfl rfl (by omega) (by omega))
   refine dt4 6 7 8 9 ?_
   refine dsld 10 (i+1) fun a7 c7 F7=>?_
   refine dN 0 ?_
   apply o_bs0;rfl;intro _
   refine t_emp (EC 3) ?_
   refine dk ?_
   refine dN 5 ?_
   refine aps (one_EC 3) (scal_EC 3) (fun a6 c6 F6=>?_) (hn:=by rw [List.length_take];omega) (h63:=by exact lenE) (hby:=by exact lenE)
   refine dk ?_
   refine dN 11 ?_
   refine aps (one_EC 3) (scal_EC 3) (fun a8 c8 F8=>?_) (h63:=by exact lenE) (hby:=by exact lenE)
   refine dk ?_
   refine dt 12 ?_
   refine dN 13 ?_
   refine oS ?_
   refine dkx ?_
   refine dd ?_
   refine t_fjoin (E:=OEntry) ?_
   refine t_deep (E:=OEntry) (m:=3) (ys:=([]++ys.take i)++ys.drop (i+1)) (cs:=(ys.take i).flatten++(ys.drop (i+1)).flatten) (xs:=e.entries.take i++e.entries.drop (i+1)) ?_ rfl (by simp) (by simp [hyl])
   refine go ?_;intros
   refine clOE (n:=(([]++ys.take i)++ys.drop (i+1)).length) ⟨e.clock,e.entries.take i++e.entries.drop (i+1)⟩ (by simp [hyl]) ?_
   refine ret ⟨_,_,_,_,_⟩ trivial rfl
 ·rw [e1,repE_no e2,facS_no e2]
  refine go ?_;intros
  refine c_if rfl (fun h5=>?_) (fun h5=>?_)
  ·rw [if_pos (by omega)]
   refine go ?_;intros
   apply wO
   refine aps one_EInt scal_EInt fun a4 c4 F4=>?_
   refine go ?_;intros
   refine clOE e rfl ?_
   refine ret ⟨_,_,_,_,_⟩ trivial rfl
  ·rw [if_neg (by omega)]
   refine go ?_;intros
   refine clOE e rfl ?_
   refine ret ⟨_,_,_,_,_⟩ trivial rfl
theorem Erequest_f (e:Element) (n f:Int) (g t o:Nat) (A B:List Value) (a:Option Addr) (c:Nat) (F:List Nat) (hl:e.entries.length≤1000000) (hf:∀x∈e.entries,x.faces.length≤1000000∧x.faces.Pairwise (· < ·)) (hc0:-1000000≤e.clock) (hc1:e.clock≤1000000) :
  Fn Tryz.prog 266 [ptr g o 0,.int .i64 n,.int .i64 f] [] [.row g t o A [.int .i64 e.clock,.slice a e.entries.length c] B,.ow OEntry 231 (.slice a e.entries.length c) e.entries F] (fun (_:Option Addr × Nat × List Nat)=>True) (fun _=>.bool (fwdE e n)) (fun s=>[.row g t o A [.int .i64 (reqE e n f).clock,.slice s.1 (reqE e n f).entries.length s.2.1] B,.ow OEntry 231 (.slice s.1 (reqE e n f).entries.length s.2.1) (reqE e n f).entries s.2.2]):=by
 refine enter Tryz.func266 rfl Tryz.ntmps266 fun w0=>?_
 refine go ?_;intros
 refine cb (fun w st=>by
  obtain ⟨F', -,hs⟩:=(st.get (p:=.ow OEntry 231 (.slice a e.entries.length c) e.entries F) (by simp)).2.sl weak_Entry
  exact (Efind_f e n _ F').val w (hol1 ⟨_,rfl,_,rfl,hs⟩)) ?_
 rcases findE_or e n with ⟨h,e1,e2,e3⟩|⟨e1,e2,e3,e4⟩
 ·rw [e1,e3,reqE_yes h]
  obtain ⟨hfx,hpw⟩:=hf e.entries[atE e n] (List.getElem_mem h)
  have hsl:∀y,(e.entries.set (atE e n) y).length=e.entries.length:=fun y=>List.length_set
  refine go ?_;intros
  refine focO (m:=3) (atE e n) ?_ rfl h
  rintro _ g2 A2 cs B2 k1 k2 G1 Gi G2 rfl - hc hH
  refine openOEntry ?_
  rintro a5 c5 F5 ev l5
  obtain rfl:cs=[.int .i64 e.entries[atE e n].number,.slice a5 e.entries[atE e n].faces.length c5,.int .i64 e.entries[atE e n].untl]:=by simpa using ev
  refine go ?_;intros
  refine cb (fun w st=>by
   obtain ⟨F', -,hs⟩:=(st.get (p:=.ow EInt 3 (.slice a5 e.entries[atE e n].faces.length c5) e.entries[atE e n].faces F5) (by simp)).2.read
   exact (bsInt_f _ f a5 c5 F' hpw hfx).val w (hol1 ⟨by decide,hs⟩)) ?_
  cases hq:atPl e.entries[atE e n].faces f
  ·have ep:putI e.entries[atE e n].faces f=e.entries[atE e n].faces.take (placeI e.entries[atE e n].faces f)++f::e.entries[atE e n].faces.drop (placeI e.entries[atE e n].faces f):=by unfold putI;rw [if_neg (by simpa [atPl] using hq)]
   refine go ?_;intros
   refine cf (InsInt_f e.entries[atE e n].faces f (placeI e.entries[atE e n].faces f) a5 c5 _ F5 (placeI_le _ _) hfx) fun z _=>?_
   refine t_app ?_
   rw [←ep]
   refine go ?_;intros
   refine closeOEntry ⟨e.entries[atE e n].number,putI e.entries[atE e n].faces f,e.entries[atE e n].untl⟩ ?_
   refine unfO _ hH rfl fun F6=>?_
   dsimp only
   rw [←hsl ⟨e.entries[atE e n].number,putI e.entries[atE e n].faces f,e.entries[atE e n].untl⟩]
   refine ret (_,_,_) trivial rfl
  ·have ep:putI e.entries[atE e n].faces f=e.entries[atE e n].faces:=by unfold putI;rw [if_pos (by simpa [atPl] using hq)]
   rw [ep]
   refine go ?_;intros
   refine closeOEntry ⟨e.entries[atE e n].number,e.entries[atE e n].faces,e.entries[atE e n].untl⟩ ?_
   refine unfO _ hH rfl fun F6=>?_
   dsimp only
   rw [←hsl ⟨e.entries[atE e n].number,e.entries[atE e n].faces,e.entries[atE e n].untl⟩]
   refine ret (_,_,_) trivial rfl
 ·rw [e1,e3]
  refine go ?_;intros
  refine c_if rfl (fun h5=>?_) (fun h5=>?_)
  ·rw [reqE_new e2 (by omega)]
   refine go ?_;intros
   refine d_start [0] [18] ?_
   refine dt4 0 1 2 3 ?_
   refine dt4 4 5 6 8 ?_
   refine dt4 9 10 11 12 ?_
   refine dN 7 ?_
   apply o_bs;rfl;rfl;rfl;rfl;exact rptE;exact filE;intro _
   refine dk ?_
   refine dt 13 ?_
   refine dN 14 ?_
   apply o_bs;rfl;rfl;rfl;rfl;exact rptE;exact filE;intro _
   refine t_row (E:=EInt) (xs:=[f]) (rep_i f) ?_ (by simp)
   refine closeOEntry ⟨n,[f],e.clock+6⟩ ?_
   refine dk ?_
   refine dN 15 ?_
   refine ap1o one_OEntry ⟨n,[f],e.clock+6⟩ rfl fun a3 c3 F3=>?_
   refine dk ?_
   refine dt2 16 17 ?_
   refine dN 18 ?_
   refine oS ?_
   refine dkx ?_
   refine dd ?_
   refine go ?_;intros
   refine ret (_,_,_) trivial rfl
  ·rw [reqE_full e2 (by omega)]
   refine go ?_;intros
   refine ret (_,_,_) trivial rfl
theorem facE_yes {e:Element} {n:Int} {l:List Int} (h:atE e n < e.entries.length):facE e n l=e.entries[atE e n].faces.filter fun f=>decide (f∈l):=by unfold facE;rw [List.getElem?_eq_getElem h]
theorem facE_no {e:Element} {n:Int} {l:List Int} (h:e.entries[atE e n]?=none):facE e n l=if e.entries.length=5 then l else []:=by unfold facE;rw [h]
theorem repair1_f (x:Int) (gb:Nat) (l:List Int) (a:Option Addr) (c:Nat) (F:List Nat):Fn Tryz.prog 304 [.int .i64 x,ptr gb 0 0] [.cel gb 0 [.slice a l.length c],.sl EInt (.slice a l.length c) l F] [] (fun (_:Unit)=>True) (fun _=>.bool (!decide (x∈l))) (fun _=>[]):=by
 refine enter Tryz.func304 rfl Tryz.ntmps304 fun w0=>?_
 refine go ?_;intros
 refine cf (conI_f l x _ _ F) fun _ _=>?_
 refine t_app ?_
 refine go ?_;intros
 refine ret () trivial ?_
 rw [decide_not];rfl
structure RpIS where
 a:Option Addr
 c:Nat
 F:List Nat
 a2:Option Addr
 c2:Nat
 F2:List Nat
theorem Erepair_f (e:Element) (n:Int) (below:List Int) (g t o:Nat) (A B:List Value) (a:Option Addr) (c:Nat) (F:List Nat) (a0:Option Addr) (c0:Nat) (F0:List Nat) (hl:e.entries.length≤1000000) (hf:∀x∈e.entries,x.faces.length≤1000000) (hb:below.length≤1000000) :
  Fn Tryz.prog 264 [ptr g o 0,.int .i64 n,.slice a0 below.length c0] [.sl EInt (.slice a0 below.length c0) below F0] [.row g t o A [.int .i64 e.clock,.slice a e.entries.length c] B,.ow OEntry 231 (.slice a e.entries.length c) e.entries F] (fun (_:RpIS)=>True) (fun s=>.slice s.a2 (facE e n below).length s.c2) (fun s=>[.row g t o A [.int .i64 (repE e n).clock,.slice s.a (repE e n).entries.length s.c] B,.ow OEntry 231 (.slice s.a (repE e n).entries.length s.c) (repE e n).entries s.F,.ow EInt 3 (.slice s.a2 (facE e n below).length s.c2) (facE e n below) s.F2]):=by
 refine enter Tryz.func264 rfl Tryz.ntmps264 fun w0=>?_
 refine go ?_;intros
 rename_i gb
 refine cb (fun w st=>by
  obtain ⟨F', -,hs⟩:=(st.get (p:=.ow OEntry 231 (.slice a e.entries.length c) e.entries F) (by simp)).2.sl weak_Entry
  exact (Efind_f e n _ F').val w (hol1 ⟨_,rfl,_,rfl,hs⟩)) ?_
 refine t_rocel (cs:=[.slice a0 below.length c0]) ?_ (by simp)
 rcases findE_or e n with ⟨h,e1,e2,e3⟩|⟨e1,e2,e3,e4⟩
 ·rw [e1,repE_yes h,facE_yes h]
  have hfx:=hf e.entries[atE e n] (List.getElem_mem h)
  refine go ?_;intros
  refine t_shal one_OEntry rfl fun ys Fy Gy hyl hym=>?_
  generalize atE e n=i at *
  generalize hx:e.entries[i]=x at *
  refine t_fcut i h hyl hym fun G1 Gi G2=>?_
  rw [hx]
  refine openOEntry ?_
  rintro a5 c5 F5 ev l5
  have hyi:ys[i]=[.int .i64 x.number,.slice a5 x.faces.length c5,.int .i64 x.untl]:=by simpa using ev
  refine focF (m:=3) (scal_EC 3) i ?_ (by repeat (first|exact .here|apply Pick.there)) rfl (by omega)
  rintro _ g2 A2 cs B2 rfl rfl hr hH
  obtain ⟨rfl, -⟩:=hr w0
  rw [hyi]
  refine go ?_;intros
  refine cf (DelInt_f 304 [] [ptr gb 0 0] [.cel gb 0 [.slice a0 below.length c0],.sl EInt (.slice a0 below.length c0) below F0] rfl x.faces a5 c5 F5 (fun z=>!decide (z∈below)) (by kernel_rfl) (by omega) (fun z _ w hA=>(repair1_f z gb below a0 c0 F0).val w hA)) fun z _=>?_
  refine t_app ?_
  have e9:(x.faces.filter fun z=>!!decide (z∈below))=x.faces.filter fun z=>decide (z∈below):=by simp only [Bool.not_not]
  rw [e9]
  rw [←hyi]
  refine unfF ys[i] hH hr ?_
  rw [List.set_getElem_self]
  refine go ?_;intros
  refine cf (DelE_f ys e.entries.length i _ _ _ _ hyl.symm (by omega) rfl (by omega)) fun q _=>?_
  refine t_app ?_
  refine go ?_;intros
  refine t_fjoin (E:=OEntry) ?_
  refine t_deep (E:=OEntry) (m:=3) (ys:=ys.take i++ys.drop (i+1)) (cs:=(ys.take i).flatten++(ys.drop (i+1)).flatten) (xs:=e.entries.take i++e.entries.drop (i+1)) ?_ rfl (by simp) (by simp [hyl])
  rw [show (ys.take i++ys.drop (i+1)).length=(e.entries.take i++e.entries.drop (i+1)).length by simp [hyl]]
  refine ret ⟨_,_,_,_,_,_⟩ trivial rfl
 ·rw [e1,repE_no e2,facE_no e2]
  refine go ?_;intros
  refine c_if rfl (fun h5=>?_) (fun h5=>?_)
  ·rw [if_pos (by omega)]
   refine go ?_;intros
   refine cn (fun w st=>Clone_Int _ below F0 w (st.get (p:=.sl EInt (.slice a0 below.length c0) below F0) (by simp)).2 (by omega)) fun a6 c6 F6=>?_
   refine go ?_;intros
   refine ret ⟨_,_,_,_,_,_⟩ trivial rfl
  ·rw [if_neg (by omega)]
   refine t_nilow EInt 3 ?_
   refine go ?_;intros
   refine ret ⟨_,_,_,_,_,_⟩ trivial rfl
theorem IsValidTree_f (t:Tree) (v:Value) (F:List Nat):Fn Tryz.prog 92 [v] [.isv ETree v t F] [] (fun (_:Unit)=>True) (fun _=>.bool (goodTree t)) (fun _=>[]):=by
 refine enter Tryz.func92 rfl Tryz.ntmps92 fun w0=>?_
 refine openTree ?_
 rintro a1 c1 F1 rfl l1
 unfold maxLen at l1
 refine go ?_;intros
 refine c_loopR [1,2,6,7] (fun k:Nat=>[(8,.int .i64 (k:Nat))]) (fun k=>k≤t.parent.length∧∀j,j < k→parAt t.parent j=true) (fun k=>t.parent.length - k) 0 ⟨Nat.zero_le _,fun j h=>by omega⟩ fun k hk=>?_
 obtain ⟨hk1,hk2⟩:=hk
 refine go ?_;intros
 refine c_if rfl (fun h1=>?_) (fun h1=>?_)
 ·have hh:k < t.parent.length:=by omega
  refine at_int (xs:=t.parent) k ?_
  rintro hi b o e1
  rw [e1]
  refine go ?_;intros
  refine wg_if rfl rfl (fun h2=>?_) (fun h2=>?_)
  ·obtain rfl:k=0:=by omega
   refine go ?_;intros
   refine wg_if rfl rfl (fun h3=>?_) (fun h3=>?_)
   ·refine go ?_;intros
    rw [goodT_at hh (by rw [parAt_zero hh];exact decide_eq_false h3)]
    refine ret () trivial rfl
   ·refine go ?_;intros
    refine n_lp 1 ⟨hh,fun j hj=>by obtain rfl:j=0:=(by omega);rw [parAt_zero hh];exact decide_eq_true (by omega)⟩ (by show t.parent.length - 1 < t.parent.length - 0;omega)
  ·refine go ?_;intros
   refine wg_if rfl rfl (fun h3=>?_) (fun h3=>?_)
   ·refine go ?_;intros
    refine ce (fun w s=>within_c _ _ _ w) ?_
    cases g:btw 0 t.parent[k] ((k:Int) - 1)
    ·refine go ?_;intros
     rw [goodT_at hh (by rw [parAt_pos hh (by omega)];exact g)]
     refine ret () trivial rfl
    ·refine go ?_;intros
     refine n_lp (k+1) ⟨hh,fun j hj=>?_⟩ (by show t.parent.length - (k+1) < t.parent.length - k;omega)
     rcases Nat.lt_or_eq_of_le (Nat.lt_succ_iff.1 hj) with h|rfl
     ·exact hk2 j h
     ·rw [parAt_pos hh (by omega)];exact g
   ·exact absurd h3 (by omega)
 ·obtain rfl:k=t.parent.length:=by omega
  refine go ?_;intros
  refine ce (fun w s=>within_c _ _ _ w) ?_
  refine go ?_;intros
  refine ret () trivial ?_
  unfold goodTree
  rw [allUpTo_yes hk2,Bool.and_true];rfl
theorem l6Good_f (t:Tree) (v:Value) (F:List Nat):Fn Tryz.prog 76 [v] [.isv ETree v t F] [] (fun (_:Unit)=>True) (fun _=>.bool (goodTree t)) (fun _=>[]):=by
 refine enter Tryz.func76 rfl Tryz.ntmps76 fun w0=>?_
 refine openTree ?_
 rintro a1 c1 F1 rfl l1
 unfold maxLen at l1
 refine go ?_;intros
 refine ce (fun w s=>l1In_c _ _ _ w) ?_
 cases g0:btw 2 (t.parent.length:Int) 8
 ·rw [goodT_len g0]
  refine go ?_;intros
  refine ret () trivial rfl
 have hb:2≤t.parent.length∧t.parent.length≤8:=by
  unfold btw at g0
  simp only [Bool.and_eq_true,decide_eq_true_eq] at g0
  omega
 have h0:0 < t.parent.length:=by omega
 refine at_int (xs:=t.parent) 0 ?_
 rintro hi b o e1
 rw [e1]
 refine go ?_;intros
 refine c_if rfl (fun h2=>?_) (fun h2=>?_)
 ·refine go ?_;intros
  rw [goodT_at h0 (by rw [parAt_zero h0];exact decide_eq_false h2)]
  refine ret () trivial rfl
 refine go ?_;intros
 refine c_loopR [1,2,3] (fun k:Nat=>[(4,.int .i64 ((k+1:Nat):Int))]) (fun k=>k+1≤t.parent.length∧∀j,j < k+1→parAt t.parent j=true) (fun k=>t.parent.length - k) 0 ⟨by omega,fun j h=>by obtain rfl:j=0:=(by omega);rw [parAt_zero h0];exact decide_eq_true (by omega)⟩ fun k hk=>?_
 obtain ⟨hk1,hk2⟩:=hk
 refine go ?_;intros
 refine c_if rfl (fun h1=>?_) (fun h1=>?_)
 ·have hh:k+1 < t.parent.length:=by omega
  refine at_int (a:=some ⟨b,o,none⟩) (xs:=t.parent) (k+1) ?_
  rintro hi2 _ _ e2
  cases e2
  refine go ?_;intros
  refine ce (fun w s=>l1In_c _ _ _ w) ?_
  cases g:btw 0 t.parent[k+1] (((k+1:Nat):Int) - 1)
  ·refine go ?_;intros
   rw [goodT_at hh (by rw [parAt_pos hh (by omega)];exact g)]
   refine ret () trivial rfl
  ·refine go ?_;intros
   refine n_lp (k+1) ⟨hh,fun j hj=>?_⟩ (by show t.parent.length - (k+1) < t.parent.length - k;omega)
   rcases Nat.lt_or_eq_of_le (Nat.lt_succ_iff.1 hj) with h|rfl
   ·exact hk2 j h
   ·rw [parAt_pos hh (by omega)];exact g
 ·have hk:k+1=t.parent.length:=by omega
  refine go ?_;intros
  refine ret () trivial ?_
  unfold goodTree
  rw [g0,allUpTo_yes (fun j hj=>hk2 j (by omega))];rfl
structure KiS where
 k:Nat
 a:Option Addr
 c:Nat
 F:List Nat
theorem l6Children_f (t:Tree) (node:Int) (v:Value) (F:List Nat) (hz:kidsTo t.parent node 1=[]) (hl:1≤t.parent.length∧t.parent.length≤1000000):Fn Tryz.prog 82 [v,.int .i64 node] [.isv ETree v t F] [] (fun (_:KiS)=>True) (fun z=>.slice z.a (kids t.parent node).length z.c) (fun z=>[.ow EInt 3 (.slice z.a (kids t.parent node).length z.c) (kids t.parent node) z.F]):=by
 refine enter Tryz.func82 rfl Tryz.ntmps82 fun w0=>?_
 refine openTree ?_
 rintro a1 c1 F1 rfl l1
 unfold maxLen at l1
 refine go ?_;intros
 refine t_emp EInt ?_
 refine c_loopS [1,2,4] (fun z:KiS=>[(5,.slice z.a (kids1 t.parent node z.k).length z.c),(6,.int .i64 ((z.k+1:Nat):Int))]) (fun z=>[.ow EInt 3 (.slice z.a (kids1 t.parent node z.k).length z.c) (kids1 t.parent node z.k) z.F]) (fun z=>z.k+1≤t.parent.length) (fun z=>t.parent.length - z.k) ⟨0,_,_,_⟩ hl.1 fun z hz2=>?_
 have hkl:=kids1_len t.parent node z.k
 have hl2:=hl.2
 refine go ?_;intros
 refine c_if rfl (fun h1=>?_) (fun h1=>?_)
 ·have hh:z.k+1 < t.parent.length:=by omega
  refine at_int (xs:=t.parent) (z.k+1) ?_
  rintro hi b o e1
  rw [e1]
  refine go ?_;intros
  refine c_if rfl (fun h2=>?_) (fun h2=>?_)
  ·refine goN ?_;intros
   apply wO
   refine ap1 (rep_i _) one_EInt fun a9 c9 F9=>?_
   refine go ?_;intros
   rw [←kids1_yes hh h2]
   refine n_lp ⟨z.k+1,a9,c9,F9⟩ (by show z.k+1+1≤t.parent.length;omega) (by show t.parent.length - (z.k+1) < t.parent.length - z.k;omega)
  ·rw [←kids1_no hh h2]
   refine go ?_;intros
   refine n_lp ⟨z.k+1,z.a,z.c,z.F⟩ (by show z.k+1+1≤t.parent.length;omega) (by show t.parent.length - (z.k+1) < t.parent.length - z.k;omega)
 ·have hk:z.k+1=t.parent.length:=by omega
  rw [kids1_all hz hk]
  refine go ?_;intros
  refine ret z trivial rfl
theorem isLeaf_f (t:Tree) (node:Int) (v:Value) (F:List Nat):Fn Tryz.prog 128 [v,.int .i64 node] [.isv ETree v t F] [] (fun (_:Unit)=>True) (fun _=>.bool (leafT t.parent node)) (fun _=>[]):=by
 refine enter Tryz.func128 rfl Tryz.ntmps128 fun w0=>?_
 refine openTree ?_
 rintro a1 c1 F1 rfl l1
 refine go ?_;intros
 refine cf (conI_f t.parent node _ _ F1) fun _ _=>?_
 refine t_app ?_
 refine go ?_;intros
 refine ret () trivial ?_
 unfold leafT
 rw [←decide_not];rfl
theorem l15Leaf_f (t:Tree) (node:Int) (v:Value) (F:List Nat) (hg:GoodT t.parent) (h0:0 < node):Fn Tryz.prog 154 [v,.int .i64 node] [.isv ETree v t F] [] (fun (_:Unit)=>True) (fun _=>.bool (leafT t.parent node)) (fun _=>[]):=by
 refine enter Tryz.func154 rfl Tryz.ntmps154 fun w0=>?_
 refine openTree ?_
 rintro a1 c1 F1 rfl l1
 refine go ?_;intros
 refine wg_if rfl rfl (fun h1=>?_) (fun h1=>?_)
 ·refine go ?_;intros
  refine cf (l6Children_f t node _ F (kids_zero hg.z (by omega)) (by have:=hg.n0;have:=hg.n1;omega)) fun q _=>?_
  refine t_app ?_
  refine go ?_;intros
  refine ret () trivial ?_
  rw [leaf_kids]
  by_cases hk:kids t.parent node=[]
  ·rw [hk];rfl
  ·rw [decide_eq_false hk,decide_eq_false fun e=>hk (List.length_eq_zero_iff.1 (by omega))];rfl
 ·exact absurd h0 h1
theorem faces_pw {e:Element} (h:goodElement e=true) {x:Entry} (hx:x∈e.entries):x.faces.Pairwise (· < ·):=by
 unfold goodElement at h
 simp only [Bool.and_eq_true] at h
 obtain ⟨i,hi,rfl⟩:=List.getElem_of_mem hx
 have:=allUpTo_get h.2 i hi
 rw [entAt_of hi] at this
 simp only [okEntry,Bool.and_eq_true] at this
 exact (rising_pw this.1.2.2.1).1
theorem facS_eq {e:Element} {n:Int} {l:List Int} (h:goodElement e=true) (h2:rising 1 7 l=true):facS e n l=facE e n l:=by
 unfold facS facE
 cases hx:e.entries[atE e n]? with
 | none=>rfl
 | some x=>exact (filter_swap (faces_pw h (List.mem_of_getElem? hx)) (rising_pw h2).1).symm
end Go.Proofs.YtgmbfohkpfineaaGreatDoor
namespace Go.Proofs.YtgmbfohkpfineaaGreatDoor

open Go.RowKit
open Go.RowKit
theorem cntL_bd {α:Type} (f:α→Nat) (B:Nat):∀xs:List α,(∀x∈xs,f x≤B)→cntL f xs≤xs.length * B
 | [],_=>by simp [cntL]
 | x::r,h=>by
  have h1:=h x (by simp)
  have h2:=cntL_bd f B r fun y hy=>h y (by simp [hy])
  have e:cntL f (x::r)=f x+cntL f r:=by simp [cntL]
  rw [e,List.length_cons,Nat.add_mul];omega
open Go.RowKit
end Go.Proofs.YtgmbfohkpfineaaGreatDoor
namespace Go.Proofs.YtgmbfohkpfineaaGreatDoor
open Go.RowKit
theorem goodE_iff {e:Element}:goodElement e=true↔isClk e.clock=true∧e.entries.length≤5∧(∀x∈e.entries,okEntry e.clock x=true)∧e.entries.Pairwise fun a b=>a.number≠b.number:=by
 unfold goodElement
 simp only [Bool.and_eq_true,decide_eq_true_eq]
 constructor
 ·rintro ⟨⟨h1,h2⟩,h3⟩
  refine ⟨h1,h2,fun x hx=>?_,List.pairwise_iff_getElem.2 fun i j hi hj hij=>?_⟩
  ·obtain ⟨i,hi,rfl⟩:=List.getElem_of_mem hx
   have:=allUpTo_get h3 i hi
   rw [entAt_of hi,Bool.and_eq_true] at this
   exact this.1
  ·have:=allUpTo_get h3 j hj
   rw [entAt_of hj,Bool.and_eq_true,Bool.not_eq_true',List.any_eq_false] at this
   have:=this.2 e.entries[i] (List.mem_take_iff_getElem.2 ⟨i,by omega,rfl⟩)
   simpa using this
 ·rintro ⟨h1,h2,h3,h4⟩
  refine ⟨⟨h1,h2⟩,allUpTo_yes fun i hi=>?_⟩
  rw [entAt_of hi,h3 _ (List.getElem_mem hi),Bool.true_and,Bool.not_eq_true',List.any_eq_false]
  intro x hx
  obtain ⟨j,hj,rfl⟩:=List.mem_take_iff_getElem.1 hx
  have:=List.pairwise_iff_getElem.1 h4 j i (by omega) hi (by omega)
  simpa using this
theorem okEntry_iff {c:Int} {x:Entry}:okEntry c x=true↔isSer x.number=true∧0 < x.faces.length∧(x.faces.Pairwise (· < ·)∧∀z∈x.faces,1≤z∧z≤7)∧c+1≤x.untl∧x.untl≤c+6:=by
 unfold okEntry btw
 simp only [Bool.and_eq_true,decide_eq_true_eq]
 exact ⟨fun ⟨a,b,c,d⟩=>⟨a,b,rising_pw c,d⟩,fun ⟨a,b,c,d⟩=>⟨a,b,pw_rising c.1 c.2,d⟩⟩
theorem placeI_spec (l:List Int) (n:Int):(∀j (_:j < placeI l n) (h:j < l.length),l[j] < n)∧∀h:placeI l n < l.length,¬l[placeI l n] < n:=by
 have:=tw_spec (p:=fun x=>decide (x < n)) (xs:=l)
 exact ⟨fun j hj h=>of_decide_eq_true (this.2.1 j hj h),fun h=>of_decide_eq_false (this.2.2 h)⟩
theorem putI_mem {l:List Int} {n x:Int}:x∈putI l n↔x=n∨x∈l:=by
 unfold putI
 split
 ·rename_i h
  have:=List.mem_of_getElem? h
  exact ⟨fun h=>.inr h,fun h=>by rcases h with rfl|h;exact this;exact h⟩
 ·rw [List.mem_append,List.mem_cons]
  constructor
  ·rintro (h|h|h)
   ·exact .inr (List.mem_of_mem_take h)
   ·exact .inl h
   ·exact .inr (List.mem_of_mem_drop h)
  ·rintro (h|h)
   ·exact .inr (.inl h)
   ·rw [←List.take_append_drop (placeI l n) l,List.mem_append] at h
    rcases h with h|h
    ·exact .inl h
    ·exact .inr (.inr h)
theorem putI_pw {l:List Int} {n:Int} (h:l.Pairwise (· < ·)):(putI l n).Pairwise (· < ·):=by
 obtain ⟨s1,s2⟩:=placeI_spec l n
 have hp:=List.pairwise_iff_getElem.1 h
 unfold putI
 split
 ·exact h
 ·rename_i hne
  refine List.pairwise_append.2 ⟨h.sublist (List.take_sublist _ _),List.pairwise_cons.2 ⟨fun z hz=>?_,h.sublist (List.drop_sublist _ _)⟩,fun a ha b hb=>?_⟩
  ·obtain ⟨j,hj,rfl⟩:=List.mem_drop_iff_getElem.1 hz
   have hk:placeI l n < l.length:=by omega
   have h1:=s2 hk
   have h2:l[placeI l n]≠n:=fun e=>hne (by rw [List.getElem?_eq_getElem hk,e])
   rcases Nat.eq_zero_or_pos j with rfl|hj0
   ·simp only [Nat.add_zero];omega
   ·have:=hp (placeI l n) (placeI l n+j) hk (by omega) (by omega)
    omega
  ·obtain ⟨i,hi,rfl⟩:=List.mem_take_iff_getElem.1 ha
   have h1:=s1 i (by omega) (by omega)
   rcases List.mem_cons.1 hb with rfl|hb
   ·exact h1
   ·obtain ⟨j,hj,rfl⟩:=List.mem_drop_iff_getElem.1 hb
    exact hp i (placeI l n+j) (by omega) (by omega) (by omega)
theorem isFac_iff {f:Int}:isFac f=true↔1≤f∧f≤7:=by unfold isFac btw;simp
theorem good_reqE {e:Element} {n f:Int} (hg:goodElement e=true) (hn:isSer n=true) (hf:isFac f=true):goodElement (reqE e n f)=true:=by
 obtain ⟨h1,h2,h3,h4⟩:=goodE_iff.1 hg
 obtain ⟨f1,f2⟩:=isFac_iff.1 hf
 rcases findE_or e n with ⟨h, -,e2, -⟩|⟨-,e2, -,e4⟩
 ·rw [reqE_yes h]
  have hx:=okEntry_iff.1 (h3 _ (List.getElem_mem h))
  refine goodE_iff.2 ⟨h1,by simpa using h2,fun x hx'=>?_,?_⟩
  ·rcases List.mem_or_eq_of_mem_set hx' with h'|rfl
   ·exact h3 x h'
   ·refine okEntry_iff.2 ⟨hx.1,?_,⟨putI_pw hx.2.2.1.1,fun z hz=>?_⟩,hx.2.2.2⟩
    ·exact List.length_pos_of_mem (putI_mem.2 (.inl rfl))
    ·rcases putI_mem.1 hz with rfl|hz
     ·exact ⟨f1,f2⟩
     ·exact hx.2.2.1.2 z hz
  ·refine List.pairwise_iff_getElem.2 fun i j hi hj hij=>?_
   have hp:=List.pairwise_iff_getElem.1 h4 i j (by simpa using hi) (by simpa using hj) hij
   simp only [List.getElem_set]
   split <;> split <;> simp_all
 ·by_cases hl:e.entries.length < 5
  ·rw [reqE_new e2 hl]
   refine goodE_iff.2 ⟨h1,by simp;omega,fun x hx=>?_,?_⟩
   ·rcases List.mem_append.1 hx with h'|h'
    ·exact h3 x h'
    ·simp only [List.mem_cons,List.not_mem_nil,or_false] at h'
     subst h'
     exact okEntry_iff.2 ⟨hn,by simp,⟨by simp,by simp [f1,f2]⟩,by show e.clock+1≤e.clock+6;omega,by show e.clock+6≤e.clock+6;omega⟩
   ·refine List.pairwise_append.2 ⟨h4,by simp,fun a ha b hb=>?_⟩
    simp only [List.mem_cons,List.not_mem_nil,or_false] at hb
    subst hb
    exact e4 a ha
  ·rw [reqE_full e2 hl];exact hg
theorem good_repE {e:Element} {n:Int} (hg:goodElement e=true):goodElement (repE e n)=true:=by
 obtain ⟨h1,h2,h3,h4⟩:=goodE_iff.1 hg
 rcases findE_or e n with ⟨h, -,e2, -⟩|⟨-,e2, -,e4⟩
 ·rw [repE_yes h]
  have hs:(e.entries.take (atE e n)++e.entries.drop (atE e n+1)).Sublist e.entries:=by
   have:=List.Sublist.append (List.Sublist.refl (e.entries.take (atE e n))) (List.drop_sublist_drop_left e.entries (Nat.le_succ (atE e n)))
   rwa [List.take_append_drop] at this
  exact goodE_iff.2 ⟨h1,Nat.le_trans hs.length_le h2,fun x hx=>h3 x (hs.subset hx),h4.sublist hs⟩
 ·rw [repE_no e2];exact hg
theorem facE_sub {e:Element} {n:Int} {l:List Int}:∀z∈facE e n l,z∈l:=fun z hz=>by
 unfold facE at hz
 split at hz
 ·have:=(List.mem_filter.1 hz).2;simpa using this
 ·split at hz
  ·exact hz
  ·simp at hz
theorem tkReq_good {r:Receiver} {d:Int} (hg:GoodR r) (hk:r.clock < 9999) (d0:1≤d) (d1:d≤8):areQ (tkReq r d) r.window.next=true∧∀q∈tkReq r d,hasB r.window q.number=false:=by
 have k0:=hg.k0
 obtain ⟨h1,h2,h3,h4⟩:=areQ_iff.1 hg.q
 refine ⟨areQ_iff.2 ⟨h1,Nat.le_trans (tkReq_len r d) h2,fun q hq=>?_,?_⟩,fun q hq=>(tkReq_at hg hq).2.2⟩
 ·obtain ⟨q',hq',h⟩:=List.mem_filterMap.1 hq
  have ho:=okReq_iff.1 (h3 q' hq')
  unfold tkO at h
  split at h
  ·cases h;exact h3 q hq'
  ·split at h
   ·cases h
   ·rename_i hn
    have t0:=ho.t0
    have t1:=ho.t1
    split at h
    ·cases h
     exact okReq_iff.2 ⟨ho.n,ho.g,by show (1:Int)≤2;decide,by show (2:Int)≤3;decide,by show 0≤r.clock+1+3;omega,by show r.clock+1+3≤10007;omega,by show 0≤q'.tries+1;omega,by show q'.tries+1≤3;omega⟩
    ·cases h
     exact okReq_iff.2 ⟨ho.n,ho.g,by show (1:Int)≤1;decide,by show (1:Int)≤3;decide,by show 0≤r.clock+1+d;omega,by show r.clock+1+d≤10007;omega,t0,t1⟩
 ·unfold tkReq
  refine List.Pairwise.filterMap _ (fun a a' h b hb b' hb'=>?_) h4
  rw [tkO_num hb,tkO_num hb'];exact h
theorem tick_good {r:Receiver} {d:Int} (hg:GoodR r) (hk:r.clock < 9999) (d0:1≤d) (d1:d≤8):GoodR (tickRec r d):=by
 have k0:=hg.k0
 obtain ⟨hq,hf⟩:=tkReq_good hg hk d0 d1
 by_cases hL:tkLost r=[]
 ·rw [tickR_no hL]
  refine ⟨by show 0≤r.clock+1;omega,by show r.clock+1≤9999;omega,hg.w,hq,hf,fun hs=>?_⟩
  obtain ⟨e1,e2⟩:=hg.z hs
  refine ⟨e1,?_⟩
  show tkReq r d=[]
  unfold tkReq;rw [e2];rfl
 ·have hst:r.started=true:=by
   cases hs:r.started
   ·exfalso;apply hL;unfold tkLost;rw [(hg.z hs).2];rfl
   ·rfl
  rw [tickR_yes hL]
  obtain ⟨e1, -,e3, -⟩:=moved_at (t:=lostTrail (tkLost r)) hg.w
  have hs8:=(lost_gp hg hL).1
  have hgp:=@stepsN_gp r.window.next (lostTrail (tkLost r))
  have hw:goodRW (movedW r.window (lostTrail (tkLost r)))=true:=giveUp_good _ _ hg.w
  rw [←tick_needed hg hL]
  refine ⟨by show 0≤r.clock+1;omega,by show r.clock+1≤9999;omega,hw,needed_good (m:=(movedE r.window (lostTrail (tkLost r))).length) (by omega) hq hw e1,needed_free,fun hs=>?_⟩
  have:r.started=false:=hs
  rw [hst] at this;cases this
end Go.Proofs.YtgmbfohkpfineaaGreatDoor
namespace Go.Proofs.YtgmbfohkpfineaaGreatDoor

def zSrc:Source:=⟨⟨0,0,[]⟩,0,0,[]⟩
end Go.Proofs.YtgmbfohkpfineaaGreatDoor
namespace Go.Proofs.YtgmbfohkpfineaaGreatDoor
open Go.RowKit
structure SrcS where
 a:Option Addr
 c:Nat
 a2:Option Addr
 c2:Nat
 F:List Nat
def withW (x:Source) (W:SendWindow):Source:=⟨W,x.clock,x.quiet,keepH W x.holds⟩
structure GoodS (x:Source):Prop where
 w:goodWin x.window=true
 l:x.window.items.length≤6
 t0:0≤x.window.trail
 t1:x.window.trail≤65535
 k0:0≤x.clock
 k1:x.clock≤9999
 m:x.holds.length≤6
 n:∀h∈x.holds,isSer h.number=true
 u:∀h∈x.holds,x.clock+1≤h.untl
 b:∀h∈x.holds,h.untl≤x.clock+3
theorem goodS_of {x:Source} (h:goodSrc x=true):GoodS x:=by
 unfold goodSrc at h
 simp only [Bool.and_eq_true] at h
 obtain ⟨⟨⟨h1,h2⟩,h3⟩,h4⟩:=h
 obtain ⟨⟨t0,t1⟩,⟨s0,s1⟩,s2, -⟩:=goodWin_iff.1 h1
 obtain ⟨k0,k1⟩:=clk_bd h2
 have hc:∀h∈x.holds,isSer h.number=true∧x.clock+1≤h.untl∧h.untl≤x.clock+3:=fun h hh=>by
  obtain ⟨i,hi,rfl⟩:=List.getElem_of_mem hh
  have:=List.all_eq_true.1 h4 i (by simpa using hi)
  rw [chkH_at hi] at this
  simp only [Bool.and_eq_true,btw,decide_eq_true_eq] at this
  exact ⟨this.1.1.1,this.1.2.1,this.1.2.2⟩
 have hg:∀i,(hi:i < x.holds.length)→(i:Int)≤gp x.window.trail x.holds[i].number∧gp x.window.trail x.holds[i].number < 6:=by
  intro i
  induction i with
  | zero =>
   intro hi
   have:=List.all_eq_true.1 h4 0 (by simpa using hi)
   rw [chkH_at hi] at this
   simp only [Bool.and_eq_true,heldB,decide_eq_true_eq] at this
   have b:=gp_bd x.window.trail x.holds[0].number
   exact ⟨by omega,by have:=this.1.1.2;omega⟩
  | succ i ih =>
   intro hi
   have p:=ih (by omega)
   have:=List.all_eq_true.1 h4 (i+1) (by simpa using hi)
   rw [chkH_at hi] at this
   simp only [Bool.and_eq_true,heldB,decide_eq_true_eq,Bool.or_eq_true,Bool.not_eq_true',decide_eq_false_iff_not] at this
   have q:=this.2
   have q2:=this.1.1.2
   simp only [Nat.add_sub_cancel] at q
   rcases q with q|q
   ·omega
   ·exact ⟨by omega,by omega⟩
 have hm:x.holds.length≤6:=by
  by_cases h0:x.holds.length≤6
  ·exact h0
  ·have:=hg 6 (by omega);omega
 exact ⟨h1,by omega,t0,t1,k0,k1,hm,fun h hh=>(hc h hh).1,fun h hh=>(hc h hh).2.1,fun h hh=>(hc h hh).2.2⟩
def wideH (hs:List Hold):Prop:=∀h∈hs, -1≤h.number∧h.number≤65536
theorem wide_of {hs:List Hold} (hn:∀h∈hs,isSer h.number=true):wideH hs:=fun h hh=>by have:=isSer_iff.1 (hn h hh);omega
def keepU (W:SendWindow) (cl:Int) (hs:List Hold):List Hold:=hs.filter fun h=>heldB W h.number && decide (cl < h.untl)
theorem keepU_eq {W:SendWindow} {cl:Int} {hs:List Hold} (h:∀z∈hs,cl+1≤z.untl):keepU W cl hs=keepH W hs:=by
 unfold keepU keepH
 refine List.filter_congr fun z hz=>?_
 rw [decide_eq_true (show cl < z.untl by have:=h z hz;omega),Bool.and_true]
theorem rep_hold (h:Hold) (w:World):Flat EHold w [.int .i64 h.number,.int .i64 h.untl] [h] []:=⟨_,[],[],[],by simp,by simp,⟨rfl,rfl⟩,rfl,rfl⟩
structure HoS where
 k:Nat
 a:Option Addr
 c:Nat
 F:List Nat
theorem l11HoldsU_f (W:SendWindow) (hs:List Hold) (cl:Int) (v:Value) (a2:Option Addr) (c2:Nat) (F G:List Nat) (t0:0≤W.trail) (t1:W.trail≤65535) (hl:hs.length≤1000) (hn:wideH hs) :
  Fn Tryz.prog 212 [.slice a2 hs.length c2,v,.int .i64 cl] [.isv ESendWindow v W F,.sl EHold (.slice a2 hs.length c2) hs G] [] (fun (_:Option Addr × Nat × List Nat)=>True)
   (fun z=>.slice z.1 (keepU W cl hs).length z.2.1) (fun z=>[.ow EHold 194 (.slice z.1 (keepU W cl hs).length z.2.1) (keepU W cl hs) z.2.2]):=by
 refine enter Tryz.func212 rfl Tryz.ntmps212 fun w0=>?_
 refine openSendWindow ?_
 rintro a1 c1 F1 rfl l1
 refine go ?_;intros
 refine t_emp EHold ?_
 refine c_loopS [0,2,4,6] (fun s:HoS=>[(7,.slice s.a (keepU W cl (hs.take s.k)).length s.c),(8,.int .i64 s.k)]) (fun s=>[.ow EHold 194 (.slice s.a (keepU W cl (hs.take s.k)).length s.c) (keepU W cl (hs.take s.k)) s.F]) (fun s=>s.k≤hs.length) (fun s=>hs.length - s.k) ⟨0,_,0,_⟩ (Nat.zero_le _) fun s hk=>?_
 obtain ⟨k,a5,c5,F5⟩:=s
 dsimp only at hk ⊢
 refine go ?_;intros
 refine c_if rfl (fun h3=>?_) (fun h3=>?_)
 ·have hk3:k < hs.length:=by omega
  obtain ⟨n0,n1⟩:=hn hs[k] (List.getElem_mem hk3)
  have hkl:(keepU W cl (hs.take k)).length≤1000:=by have:=List.length_filter_le (fun h:Hold=>heldB W h.number && decide (cl < h.untl)) (hs.take k);unfold keepU;simp only [List.length_take] at this;omega
  refine atHold (xs:=hs) k ?_
  rintro hi b o e
  rw [e]
  cases g5:heldB W hs[k].number
  ·refine goN ?_;intros
   refine d_start [0,2] [] ?_
   refine dt4 0 1 2 3 ?_
   refine dt2 4 5 ?_
   refine dN 6 ?_
   refine oC ?_
   refine cb (fun w st=>(l9HeldW_f W hs[k].number _ _ t0 t1 n0 n1).val w (hol1 (st.get (p:=.isv ESendWindow (.agg #[.int .i64 W.trail,.int .i64 W.size,.slice a1 W.items.length c1]) W F) (by simp)))) ?_
   rw [g5]
   refine dk ?_
   refine dt 7 ?_
   refine ds 8 ?_
   refine ds 9 ?_
   refine ds 10 ?_
   refine ds 11 ?_
   refine ds 12 ?_
   refine ds 13 ?_
   refine ds 14 ?_
   refine dt 15 ?_
   refine dd ?_
   refine go ?_;intros
   have hf:keepU W cl (hs.take (k+1))=keepU W cl (hs.take k):=filter_take_no hk3 (by rw [g5];rfl)
   rw [←hf]
   refine n_lp ⟨k+1,a5,c5,F5⟩ hk3 (by show hs.length - (k+1) < _;omega)
  ·refine goN ?_;intros
   refine d_start [0,2] [] ?_
   refine dt4 0 1 2 3 ?_
   refine dt2 4 5 ?_
   refine dN 6 ?_
   refine oC ?_
   refine cb (fun w st=>(l9HeldW_f W hs[k].number _ _ t0 t1 n0 n1).val w (hol1 (st.get (p:=.isv ESendWindow (.agg #[.int .i64 W.trail,.int .i64 W.size,.slice a1 W.items.length c1]) W F) (by simp)))) ?_
   rw [g5]
   refine dk ?_
   refine dt 7 ?_
   refine dtg 8 ?_
   refine dtg 9 ?_
   refine dtg 10 ?_
   refine dtg 11 ?_
   refine dtg 12 ?_
   refine dtg 13 ?_
   refine dtg 14 ?_
   refine dt 15 ?_
   refine dd ?_
   refine go ?_;intros
   refine c_if rfl (fun h5=>?_) (fun h5=>?_)
   ·refine go ?_;intros
    apply wO
    refine ap1 (rep_hold hs[k]) one_EHold fun a6 c6 F6=>?_
    have hf:keepU W cl (hs.take (k+1))=keepU W cl (hs.take k)++[hs[k]]:=filter_take_yes hk3 (by rw [g5,decide_eq_true h5];rfl)
    rw [←hf]
    refine go ?_;intros
    refine n_lp ⟨k+1,a6,c6,F6⟩ hk3 (by show hs.length - (k+1) < _;omega)
   ·refine go ?_;intros
    have hf:keepU W cl (hs.take (k+1))=keepU W cl (hs.take k):=filter_take_no hk3 (by rw [g5,decide_eq_false h5];rfl)
    rw [←hf]
    refine n_lp ⟨k+1,a5,c5,F5⟩ hk3 (by show hs.length - (k+1) < _;omega)
 ·have hkl:k=hs.length:=by omega
  subst hkl
  rw [List.take_length]
  refine go ?_;intros
  refine ret (a5,c5,F5) trivial rfl
def withU (x:Source) (W:SendWindow):Source:=⟨W,x.clock,x.quiet,keepU W x.clock x.holds⟩
theorem withU_eq {x:Source} {W:SendWindow} (h:∀z∈x.holds,x.clock+1≤z.untl):withU x W=withW x W:=by unfold withU withW;rw [keepU_eq h]
theorem l11WithU_f (x:Source) (W:SendWindow) (v vw:Value) (F Fw:List Nat) (y0:0≤W.trail) (y1:W.trail≤65535) (hl:x.holds.length≤1000) (hn:wideH x.holds) :
  Fn Tryz.prog 135 [v,vw] [.isv ESource v x F,.isv ESendWindow vw W Fw] [] (fun (_:SrcS)=>True) (fun s=>.agg #[.int .i64 W.trail,.int .i64 W.size,.slice s.a W.items.length s.c,.int .i64 x.clock,.int .i64 x.quiet,.slice s.a2 (keepU W x.clock x.holds).length s.c2])
   (fun s=>[.isv ESource (.agg #[.int .i64 W.trail,.int .i64 W.size,.slice s.a W.items.length s.c,.int .i64 x.clock,.int .i64 x.quiet,.slice s.a2 (keepU W x.clock x.holds).length s.c2]) (withU x W) s.F]):=by
 refine enter Tryz.func135 rfl Tryz.ntmps135 fun w0=>?_
 refine openSource ?_
 rintro a1 c1 F1 a2 c2 F2 rfl l1 l2
 refine openSendWindow (x:=W) (F:=Fw) ?_
 rintro a3 c3 F3 rfl l3
 refine go ?_;intros
 refine d_start [1,2] [] ?_
 refine dt4 0 1 2 3 ?_
 refine dt4 4 5 6 7 ?_
 refine dt2 8 9 ?_
 refine dN 10 ?_
 refine oC ?_
 refine cf (l11HoldsU_f W x.holds x.clock _ a2 c2 Fw F2 y0 y1 (by omega) hn) fun z _=>?_
 refine t_app ?_
 refine dk ?_
 refine dt 11 ?_
 refine dN 12 ?_
 refine oS ?_
 refine dk ?_
 refine dd ?_
 refine go ?_;intros
 refine t_read (E:=EHold) fun F9=>?_
 refine closeSource (withU x W) ?_
 refine ret ⟨_,_,_,_,_⟩ trivial rfl
theorem l11With_f (x:Source) (W:SendWindow) (v vw:Value) (F Fw:List Nat) (y0:0≤W.trail) (y1:W.trail≤65535) (hl:x.holds.length≤1000) (hn:∀h∈x.holds,isSer h.number=true) (hu:∀h∈x.holds,x.clock+1≤h.untl) :
  Fn Tryz.prog 135 [v,vw] [.isv ESource v x F,.isv ESendWindow vw W Fw] [] (fun (_:SrcS)=>True) (fun s=>.agg #[.int .i64 W.trail,.int .i64 W.size,.slice s.a W.items.length s.c,.int .i64 x.clock,.int .i64 x.quiet,.slice s.a2 (keepH W x.holds).length s.c2])
   (fun s=>[.isv ESource (.agg #[.int .i64 W.trail,.int .i64 W.size,.slice s.a W.items.length s.c,.int .i64 x.clock,.int .i64 x.quiet,.slice s.a2 (keepH W x.holds).length s.c2]) (withW x W) s.F]):=by
 have h:=l11WithU_f x W v vw F Fw y0 y1 hl (wide_of hn)
 rw [withU_eq hu,keepU_eq hu] at h
 exact h
end Go.Proofs.YtgmbfohkpfineaaGreatDoor
namespace Go.Proofs.YtgmbfohkpfineaaGreatDoor

open Go.RowKit Go.Shelf
end Go.Proofs.YtgmbfohkpfineaaGreatDoor
namespace Go.Proofs.YtgmbfohkpfineaaGreatDoor
open Go.RowKit
theorem IsV.frame {α:Type} {E:Elem α} {w w':World} {v x F} (h:IsV E w v x F) (hF:∀b∈F,w'.heap[b]?=w.heap[b]?):IsV E w' v x F:=by
 obtain ⟨cs,hv,h⟩:=h;exact ⟨cs,hv,E.frame h hF⟩
theorem aft_aft (t n:Int):aft (aft t 1) (n - 1)=aft t n:=by unfold aft;omega
def roomed (x:SendWindow):SendWindow:=if (x.items.length:Int)=x.size then ⟨aft x.trail 1,x.size,x.items.drop 1⟩ else x
def pushedW (x:SendWindow) (s:ByteArray):SendWindow:=⟨(roomed x).trail,x.size,(roomed x).items++[s]⟩
def pushedP (x:SendWindow) (s:ByteArray):Packet:=⟨1,aft x.trail x.items.length,(roomed x).trail,aft (roomed x).trail ((roomed x).items.length+1),s⟩
theorem SendWindow_lead_c (t z:Int) (a:Option Addr) (n c:Nat) (w:World) (h0:0≤t) (h1:t≤65535) (hn:n≤4294967296) :
  Calls Tryz.prog 259 #[.agg #[.int .i64 t,.int .i64 z,.slice a n c]] w fun e w'=>e=.returned (.int .i64 (aft t n))∧Below w.heap.size w w':=by
 go_enter Tryz.func259,Tryz.ntmps259
 go_wp2_with fail
 refine (after_c _ _ _ (by omega) (by omega)).mono ?_
 rintro e w' ⟨rfl,rfl⟩
 go_wp2_with fail
 go_ret
 exact ⟨rfl,(Below.refl _ _).alloc (Nat.le_refl _) _⟩
theorem l9Lead_c (t z:Int) (a:Option Addr) (n c:Nat) (w:World) (h0:0≤t) (h1:t≤65535) (hn:n≤4294967296) :
  Calls Tryz.prog 222 #[.agg #[.int .i64 t,.int .i64 z,.slice a n c]] w fun e w'=>e=.returned (.int .i64 (aft t n))∧Below w.heap.size w w':=by
 go_enter Tryz.func222,Tryz.ntmps222
 go_wp2_with fail
 refine (l2After_c _ _ _ (by omega) (by omega)).mono ?_
 rintro e w' ⟨rfl,rfl⟩
 go_wp2_with fail
 go_ret
 exact ⟨rfl,(Below.refl _ _).alloc (Nat.le_refl _) _⟩
structure Link where
 queue:List ByteArray
 fates:ByteArray
 used:Int
end Go.Proofs.YtgmbfohkpfineaaGreatDoor
namespace Go.Proofs.YtgmbfohkpfineaaGreatDoor

open Go.RowKit Go.Shelf
end Go.Proofs.YtgmbfohkpfineaaGreatDoor
namespace Go.Proofs.YtgmbfohkpfineaaGreatDoor
open Go.RowKit
structure GoodL (x:Link):Prop where
 l:x.queue.length≤8
 q:∀s∈x.queue,s.size≤60
 f:x.fates.size≤40
 u0:0≤x.used
 u1:x.used≤x.fates.size
end Go.Proofs.YtgmbfohkpfineaaGreatDoor
namespace Go.Proofs.YtgmbfohkpfineaaGreatDoor

open Go.RowKit Go.Shelf
end Go.Proofs.YtgmbfohkpfineaaGreatDoor
namespace Go.Proofs.YtgmbfohkpfineaaGreatDoor
open Go.RowKit
section
variable {c:Cx} {fr:Fr} {H:List Pc} {Φ:Gl}
end
end Go.Proofs.YtgmbfohkpfineaaGreatDoor
namespace Go.Proofs.YtgmbfohkpfineaaGreatDoor

open Go.RowKit
end Go.Proofs.YtgmbfohkpfineaaGreatDoor
namespace Go.Proofs.YtgmbfohkpfineaaGreatDoor
open Go.RowKit
structure PuS where
 a:Option Addr
 c:Nat
 F:List Nat
theorem roomed_bd {x:SendWindow} (t0:0≤x.trail) (t1:x.trail≤65535):0≤(roomed x).trail∧(roomed x).trail≤65535:=by
 unfold roomed
 split
 ·exact aft_bd _ _
 ·exact ⟨t0,t1⟩
theorem Wdrop_f (x:SendWindow) (k:Nat) (g t o:Nat) (A B:List Value) (r1 r2 r3:Value) (a:Option Addr) (c:Nat) (F:List Nat) (hl:x.items.length≤6) (hk:k≤x.items.length) (t0:0≤x.trail) (t1:x.trail≤65535) :
  Fn Tryz.prog 260 [ptr g o 0,.int .i64 (k:Nat)] [] [.row g t o A [.int .i64 x.trail,.int .i64 x.size,.slice a x.items.length c,r1,r2,r3] B,.ow EStr 9 (.slice a x.items.length c) x.items F] (fun (_:PuS)=>True) (fun _=>.tuple #[]) (fun z=>[.row g t o A [.int .i64 (aft x.trail k),.int .i64 x.size,.slice z.a (x.items.drop k).length z.c,r1,r2,r3] B,.ow EStr 9 (.slice z.a (x.items.drop k).length z.c) (x.items.drop k) z.F]):=by
 refine enter Tryz.func260 rfl Tryz.ntmps260 fun w0=>?_
 refine t_read (E:=EStr) (xs:=x.items) fun Fr=>?_
 refine go ?_;intros
 apply wO
 refine sld k fun a2 c2 F2=>?_
 refine go ?_;intros
 refine cn (fun w st=>Clone_String _ _ _ _ (st.get (p:=.sl EStr (.slice a2 (x.items.drop k).length c2) (x.items.drop k) F2) (by exact memE)).2 (by rw [List.length_drop];omega)) fun a6 c6 F6=>?_
 refine go ?_;intros
 refine ce (fun w st=>after_c x.trail k w (by omega) (by omega)) ?_
 refine go ?_;intros
 refine t_fall ?_
 refine ret ⟨a6,c6,F6⟩ trivial rfl
theorem push_f (x:SendWindow) (s:ByteArray) (g t o:Nat) (A B:List Value) (r1 r2 r3:Value) (a:Option Addr) (c:Nat) (F:List Nat) (hl:x.items.length≤6) (ht:isSer x.trail=true) (hs:s.size≤maxLen) (hz:1≤x.size) :
  Fn Tryz.prog 191 [ptr g o 0,.string s] [] [.row g t o A [.int .i64 x.trail,.int .i64 x.size,.slice a x.items.length c,r1,r2,r3] B,.ow EStr 9 (.slice a x.items.length c) x.items F] (fun (_:PuS)=>True) (fun _=>.agg #[.int .i64 1,.int .i64 (pushedP x s).number,.int .i64 (pushedP x s).trail,.int .i64 (pushedP x s).lead,.string s])
   (fun z=>[.row g t o A [.int .i64 (pushedW x s).trail,.int .i64 (pushedW x s).size,.slice z.a (pushedW x s).items.length z.c,r1,r2,r3] B,.ow EStr 9 (.slice z.a (pushedW x s).items.length z.c) (pushedW x s).items z.F]):=by
 obtain ⟨t0,t1⟩:=isSer_iff.1 ht
 obtain ⟨R,hR⟩:∃R,roomed x=R:=⟨_,rfl⟩
 have hb:=roomed_bd t0 t1
 have hRl:R.items.length≤6:=by
  rw [←hR];unfold roomed
  split
  ·show (x.items.drop 1).length≤6;rw [List.length_drop];omega
  ·exact hl
 have hnum:aft R.trail R.items.length=aft x.trail x.items.length:=by
  rw [←hR];unfold roomed
  split
  ·rename_i h
   show aft (aft x.trail 1) ((x.items.drop 1).length:Nat)=_
   rw [List.length_drop,show ((x.items.length - 1:Nat):Int)=(x.items.length:Int) - 1 by omega,aft_aft]
  ·rfl
 rw [show pushedW x s=⟨R.trail,x.size,R.items++[s]⟩ by unfold pushedW;rw [hR],show pushedP x s=⟨1,aft x.trail x.items.length,R.trail,aft R.trail (R.items.length+1),s⟩ by unfold pushedP;rw [hR]]
 dsimp only
 rw [hR] at hb
 refine enter Tryz.func191 rfl Tryz.ntmps191 fun w0=>?_
 refine go ?_;intros
 refine cb (fun w st=>SendWindow_lead_c _ _ _ _ _ w t0 t1 (by omega)) ?_
 refine go ?_;intros
 refine d_start [1] [] ?_
 refine dt4 0 1 2 3 ?_
 refine dt4 4 5 6 7 ?_
 refine dt2 8 9 ?_
 refine dd ?_
 refine go ?_;intros
 refine c_joinS [0,1,4,5] [0] (fun _:PuS=>[]) (fun z=>[.row g t o A [.int .i64 R.trail,.int .i64 x.size,.slice z.a R.items.length z.c,r1,r2,r3] B,.ow EStr 9 (.slice z.a R.items.length z.c) R.items z.F]) (fun _=>True) ?_ fun z _=>?_
 ·refine c_if rfl (fun h1=>?_) (fun h1=>?_)
  ·have e:R=⟨aft x.trail 1,x.size,x.items.drop 1⟩:=by rw [←hR];unfold roomed;rw [if_pos h1]
   rw [e]
   refine go ?_;intros
   refine cf (Wdrop_f x 1 g t o A B _ _ _ a c F hl (by omega) t0 t1) fun z _=>?_
   refine t_app ?_
   refine go ?_;intros
   refine n_join z trivial
  ·have e:R=x:=by rw [←hR];unfold roomed;rw [if_neg h1]
   rw [e]
   refine go ?_;intros
   refine n_join ⟨a,c,F⟩ trivial
 refine go ?_;intros
 apply wO
 refine ap1 (E:=EStr) (ys:=[s]) (fun w=>⟨[.string s],[],[],[],rfl,rfl,⟨rfl,hs,rfl⟩,rfl,rfl⟩) one_EStr fun a7 c7 F7=>?_
 have hla:((R.items++[s]).length:Int)=R.items.length+1:=by simp
 refine go ?_;intros
 dsimp only [List.append]
 refine d_start [1] [] ?_
 refine dt4 0 1 2 3 ?_
 refine dt4 4 5 6 7 ?_
 refine dt 9 ?_
 refine dN 8 ?_
 refine oC ?_
 refine cb (fun w st=>SendWindow_lead_c _ _ _ _ _ w hb.1 hb.2 (by omega)) ?_
 refine dk ?_
 refine dt 10 ?_
 refine dN 11 ?_
 refine oS ?_
 refine dk ?_
 refine dd ?_
 refine go ?_;intros
 refine ret ⟨a7,c7,F7⟩ trivial ?_
 rw [hla];rfl
theorem l9DropO_f (x:SendWindow) (k:Nat) (v:Value) (F:List Nat) (hl:x.items.length≤4294967296) (hk:k≤x.items.length) (t0:0≤x.trail) (t1:x.trail≤65535) :
  Fn Tryz.prog 136 [v,.int .i64 (k:Nat)] [.isv ESendWindow v x F] [] (fun (_:PuS)=>True) (fun z=>.agg #[.int .i64 (aft x.trail k),.int .i64 x.size,.slice z.a (x.items.drop k).length z.c]) (fun z=>[.ow EStr 9 (.slice z.a (x.items.drop k).length z.c) (x.items.drop k) z.F]):=by
 refine enter Tryz.func136 rfl Tryz.ntmps136 fun w0=>?_
 refine openSendWindow ?_
 rintro a1 c1 F1 rfl l1
 have hdk:(x.items.drop k).length=x.items.length - k:=List.length_drop
 refine go ?_;intros
 refine d_start [1,2] [] ?_
 refine dt4 0 1 2 4 ?_
 refine dt4 5 7 8 9 ?_
 refine dsld 10 k fun a5 c5 F5=>?_
 refine dM 3 6 ?_ ?_
 ·refine oC ?_
  refine ce (fun w st=>l2After_c x.trail k w (by omega) (by omega)) ?_
  refine dk ?_
  refine dN 6 ?_
  apply o_bs0;rfl;intro _
  refine t_emp EStr ?_
  refine dk ?_
  refine dN 11 ?_
  refine aps (E:=EStr) (xs:=[]) (ys:=x.items.drop k) one_EStr scal_EStr fun a7 c7 F7=>?_
  rw [List.nil_append]
  refine dk ?_
  refine dt 12 ?_
  refine dN 13 ?_
  refine oS ?_
  refine dk ?_
  refine dd ?_
  refine go ?_;intros
  refine ret ⟨a7,c7,F7⟩ trivial rfl
 ·apply o_bs0;rfl;intro _
  refine t_emp EStr ?_
  refine dk ?_
  refine dN 3 ?_
  refine oC ?_
  refine ce (fun w st=>l2After_c x.trail k w (by omega) (by omega)) ?_
  refine dk ?_
  refine dN 11 ?_
  refine aps (E:=EStr) (xs:=[]) (ys:=x.items.drop k) one_EStr scal_EStr fun a7 c7 F7=>?_
  rw [List.nil_append]
  refine dk ?_
  refine dt 12 ?_
  refine dN 13 ?_
  refine oS ?_
  refine dk ?_
  refine dd ?_
  refine go ?_;intros
  refine ret ⟨a7,c7,F7⟩ trivial rfl
theorem l9Push_f (x:SendWindow) (s:ByteArray) (v:Value) (F:List Nat) (hl:x.items.length≤6) (t0:0≤x.trail) (t1:x.trail≤65535) (hs:s.size≤maxLen) (hz:1≤x.size) :
  Fn Tryz.prog 155 [v,.string s] [.isv ESendWindow v x F] [] (fun (_:Value × List Nat)=>True) (fun z=>.tuple #[z.1,.agg #[.int .i64 1,.int .i64 (pushedP x s).number,.int .i64 (pushedP x s).trail,.int .i64 (pushedP x s).lead,.string s]]) (fun z=>[.isv ESendWindow z.1 (pushedW x s) z.2]):=by
 have e0:aft x.trail ((0:Nat):Int)=x.trail:=by unfold aft;omega
 obtain ⟨R,hR⟩:∃R,roomed x=R:=⟨_,rfl⟩
 have hb:=roomed_bd t0 t1
 have hRl:R.items.length≤6:=by
  rw [←hR];unfold roomed
  split
  ·show (x.items.drop 1).length≤6;rw [List.length_drop];omega
  ·exact hl
 have hnum:aft R.trail R.items.length=aft x.trail x.items.length:=by
  rw [←hR];unfold roomed
  split
  ·rename_i h
   show aft (aft x.trail 1) ((x.items.drop 1).length:Nat)=_
   rw [List.length_drop,show ((x.items.length - 1:Nat):Int)=(x.items.length:Int) - 1 by omega,aft_aft]
  ·rfl
 rw [show pushedW x s=⟨R.trail,x.size,R.items++[s]⟩ by unfold pushedW;rw [hR],show pushedP x s=⟨1,aft x.trail x.items.length,R.trail,aft R.trail (R.items.length+1),s⟩ by unfold pushedP;rw [hR]]
 dsimp only
 rw [hR] at hb
 refine enter Tryz.func155 rfl Tryz.ntmps155 fun w0=>?_
 refine openSendWindow ?_
 rintro a1 c1 F1 rfl l1
 refine go ?_;intros
 refine cf (l9DropO_f x 0 _ F (by omega) (Nat.zero_le _) t0 t1) fun y _=>?_
 refine t_app ?_
 rw [e0,List.drop_zero]
 refine go ?_;intros
 rename_i g
 refine c_joinS [1,2,4,5,6] [2,3,4,5,6] (fun _:PuS=>[]) (fun z=>[.row g 41 0 [] [.int .i64 R.trail,.int .i64 x.size,.slice z.a R.items.length z.c] [],.ow EStr 9 (.slice z.a R.items.length z.c) R.items z.F]) (fun _=>True) ?_ fun z _=>?_
 ·refine c_if rfl (fun h1=>?_) (fun h1=>?_)
  ·have e:R=⟨aft x.trail 1,x.size,x.items.drop 1⟩:=by rw [←hR];unfold roomed;rw [if_pos h1]
   rw [e]
   refine go ?_;intros
   refine cf (l9DropO_f x 1 _ F (by omega) (by omega) t0 t1) fun z _=>?_
   refine t_app ?_
   refine go ?_;intros
   refine n_join z trivial
  ·have e:R=x:=by rw [←hR];unfold roomed;rw [if_neg h1]
   rw [e]
   refine go ?_;intros
   refine n_join ⟨y.a,y.c,y.F⟩ trivial
 refine go ?_;intros
 refine cb (fun w st=>l9Lead_c _ _ _ _ _ w hb.1 hb.2 (by omega)) ?_
 rw [hnum]
 refine go ?_;intros
 apply wO
 refine ap1 (E:=EStr) (ys:=[s]) (fun w=>⟨[.string s],[],[],[],rfl,rfl,⟨rfl,hs,rfl⟩,rfl,rfl⟩) one_EStr fun a7 c7 F7=>?_
 have hla:((R.items++[s]).length:Int)=R.items.length+1:=by simp
 refine go ?_;intros
 dsimp only [List.append]
 refine d_start [1] [] ?_
 refine dt4 0 1 2 3 ?_
 refine dt2 4 6 ?_
 refine dN 5 ?_
 refine oC ?_
 refine cb (fun w st=>l9Lead_c _ _ _ _ _ w hb.1 hb.2 (by omega)) ?_
 refine dk ?_
 refine dt 7 ?_
 refine dN 8 ?_
 refine oS ?_
 refine dk ?_
 refine dN 9 ?_
 refine oS ?_
 refine dk ?_
 refine dd ?_
 refine t_read (E:=EStr) (xs:=R.items++[s]) fun F8=>?_
 refine closeSendWindow ⟨R.trail,x.size,R.items++[s]⟩ ?_
 refine go ?_;intros
 refine ret (_,_) trivial ?_
 rw [hla];rfl
structure SeS where
 a:Option Addr
 c:Nat
 F:List Nat
 a2:Option Addr
 c2:Nat
 F2:List Nat
theorem Ssend_f (x:SendWindow) (s:ByteArray) (hs:List Hold) (g t o:Nat) (A B:List Value) (a a2:Option Addr) (c c2:Nat) (cl q:Int) (F F2:List Nat) (hl:x.items.length≤6) (t0:0≤x.trail) (t1:x.trail≤65535) (hss:s.size≤maxLen) (hz:1≤x.size) (hn:∀h∈hs,isSer h.number=true) :
  Fn Tryz.prog 104 [ptr g o 0,.string s] [] [.row g t o A [.int .i64 x.trail,.int .i64 x.size,.slice a x.items.length c,.int .i64 cl,.int .i64 q,.slice a2 hs.length c2] B,.ow EHold 194 (.slice a2 hs.length c2) hs F2,.ow EStr 9 (.slice a x.items.length c) x.items F] (fun (_:SeS)=>True) (fun _=>.agg #[.int .i64 1,.int .i64 (pushedP x s).number,.int .i64 (pushedP x s).trail,.int .i64 (pushedP x s).lead,.string s])
   (fun z=>[.row g t o A [.int .i64 (pushedW x s).trail,.int .i64 (pushedW x s).size,.slice z.a (pushedW x s).items.length z.c,.int .i64 cl,.int .i64 0,.slice z.a2 (keepH (pushedW x s) hs).length z.c2] B,.ow EHold 194 (.slice z.a2 (keepH (pushedW x s) hs).length z.c2) (keepH (pushedW x s) hs) z.F2,.ow EStr 9 (.slice z.a (pushedW x s).items.length z.c) (pushedW x s).items z.F]):=by
 have hb:=roomed_bd t0 t1
 refine enter Tryz.func104 rfl Tryz.ntmps104 fun w0=>?_
 refine go ?_;intros
 refine cf (push_f x s g t o A B _ _ _ a c F hl (isSer_iff.2 ⟨t0,t1⟩) hss hz) fun z _=>?_
 refine t_app ?_
 refine go ?_;intros
 refine cf (keepHolds_f (pushedW x s) hs g t o A B z.a a2 z.c c2 cl 0 z.F F2 hb.1 hb.2 hn) fun y _=>?_
 refine t_app ?_
 refine go ?_;intros
 refine ret ⟨z.a,z.c,z.F,y.1,y.2.1,y.2.2⟩ trivial rfl
def sentS (x:Source) (s:ByteArray):Source:=⟨pushedW x.window s,x.clock,0,keepH (pushedW x.window s) x.holds⟩
def zPk:Packet:=⟨0,0,0,0,⟨#[]⟩⟩
def okPushItem (x:SendWindow) (s:ByteArray):Bool:=goodWin x && itm s
end Go.Proofs.YtgmbfohkpfineaaGreatDoor
namespace Go.Proofs.YtgmbfohkpfineaaGreatDoor

open Go.RowKit
end Go.Proofs.YtgmbfohkpfineaaGreatDoor
namespace Go.Proofs.YtgmbfohkpfineaaGreatDoor
open Go.RowKit
def leadW (x:SendWindow):Int:=aft x.trail x.items.length
def itemAt (x:SendWindow) (n:Int):ByteArray:=x.items.getD (gp x.trail n).toNat ⟨#[]⟩
def okHeld (x:SendWindow) (n:Int):Bool:=goodWin x && isSer n && heldB x n
def statP (x:SendWindow):Packet:=⟨5,x.trail,x.trail,leadW x,⟨#[]⟩⟩
def okAnswer (x:SendWindow) (p:Packet):Bool:=goodWin x && goodPk p && decide (p.kind=3) && heldB x p.number
def ansP (x:SendWindow) (n:Int):Packet:=⟨2,n,x.trail,leadW x,itemAt x n⟩
def resAnswer (x:SendWindow) (p:Packet):Packet × Bool:=if okAnswer x p then (ansP x p.number,true) else (zPk,false)
theorem leadW_bd (x:SendWindow):0≤leadW x∧leadW x≤65535:=aft_bd _ _
theorem roomed_lead {x:SendWindow} (h1:1≤x.size):leadW (roomed x)=leadW x:=by
 unfold roomed
 split
 ·rename_i h
  unfold leadW
  simp only [List.length_drop]
  unfold aft
  omega
 ·rfl
theorem pushed_law {x:SendWindow} {s:ByteArray} (h:okPushItem x s=true):goodWin x=true∧goodWin (pushedW x s)=true∧okHeld (pushedW x s) (pushedP x s).number=true∧itemAt (pushedW x s) (pushedP x s).number=s∧(pushedP x s).number=leadW x∧gp (leadW x) (leadW (pushedW x s))=1∧(pushedP x s).lead=leadW (pushedW x s)∧(pushedP x s).trail=(pushedW x s).trail:=by
 unfold okPushItem at h
 simp only [Bool.and_eq_true] at h
 obtain ⟨hg,hs⟩:=h
 obtain ⟨⟨t0,t1⟩,⟨z0,z1⟩,hl,hi⟩:=goodWin_iff.1 hg
 have hr:0≤(roomed x).trail∧(roomed x).trail≤65535:=roomed_bd t0 t1
 have hn:((roomed x).items.length:Int)+1≤x.size∧(roomed x).items.all itm=true:=by
  unfold roomed
  split
  ·rename_i h
   refine ⟨by simp only [List.length_drop];omega,?_⟩
   rw [List.all_eq_true] at hi ⊢
   exact fun z hz=>hi z (List.mem_of_mem_drop hz)
  ·exact ⟨by omega,hi⟩
 have hlead:=roomed_lead (x:=x) z0
 have hgo:goodWin (pushedW x s)=true:=by
  refine goodWin_iff.2 ⟨hr,⟨z0,z1⟩,?_,?_⟩
  ·show (((roomed x).items++[s]).length:Int)≤x.size
   simp only [List.length_append,List.length_cons,List.length_nil];omega
  ·show ((roomed x).items++[s]).all itm=true
   simp [hn.2,hs]
 have hnum:(pushedP x s).number=leadW x:=rfl
 have hgap:gp (pushedW x s).trail (leadW x)=((roomed x).items.length:Nat):=by
  rw [←hlead]
  show gp (roomed x).trail (leadW (roomed x))=_
  unfold leadW gp aft
  omega
 have b:=leadW_bd x
 refine ⟨hg,hgo,?_,?_,rfl,?_,?_,rfl⟩
 ·unfold okHeld
  rw [hgo,hnum,isSer_iff.2 b,heldB,hgap]
  show decide (((roomed x).items.length:Int) < (((roomed x).items++[s]).length:Nat))=true
  simp only [List.length_append,List.length_cons,List.length_nil,decide_eq_true_eq]
  omega
 ·unfold itemAt
  rw [hnum,hgap]
  show ((roomed x).items++[s]).getD _ _=s
  simp
 ·rw [←hlead]
  show gp (leadW (roomed x)) (aft (roomed x).trail (((roomed x).items++[s]).length:Nat))=1
  unfold leadW gp aft
  simp only [List.length_append,List.length_cons,List.length_nil]
  omega
 ·show aft (roomed x).trail (((roomed x).items.length:Nat)+1)=aft (roomed x).trail ((((roomed x).items++[s]).length:Nat))
  simp
theorem status_f (t z:Int) (a:Option Addr) (n c:Nat) (h0:0≤t) (h1:t≤65535) (hn:n≤4294967296):Fn Tryz.prog 203 [.agg #[.int .i64 t,.int .i64 z,.slice a n c]] [] [] (fun (_:Unit)=>True) (fun _=>.agg #[.int .i64 5,.int .i64 t,.int .i64 t,.int .i64 (aft t n),.string ⟨#[]⟩]) (fun _=>[]):=by
 refine enter Tryz.func203 rfl Tryz.ntmps203 fun w0=>?_
 refine go ?_;intros
 refine d_start [1] [7] ?_
 refine dt4 0 1 2 3 ?_
 refine dt 4 ?_
 refine dN 5 ?_
 refine oC ?_
 refine cb (fun w _=>SendWindow_lead_c t z a n c w h0 h1 hn) ?_
 refine dk ?_
 refine dt 6 ?_
 refine dN 7 ?_
 refine oS ?_
 refine dkx ?_
 refine dd ?_
 refine go ?_;intros
 refine ret () trivial rfl
theorem l9Status_f (t z:Int) (a:Option Addr) (n c:Nat) (h0:0≤t) (h1:t≤65535) (hn:n≤4294967296):Fn Tryz.prog 223 [.agg #[.int .i64 t,.int .i64 z,.slice a n c]] [] [] (fun (_:Unit)=>True) (fun _=>.agg #[.int .i64 5,.int .i64 t,.int .i64 t,.int .i64 (aft t n),.string ⟨#[]⟩]) (fun _=>[]):=by
 refine enter Tryz.func223 rfl Tryz.ntmps223 fun w0=>?_
 refine go ?_;intros
 refine d_start [1] [7] ?_
 refine dt4 0 1 2 3 ?_
 refine dt 4 ?_
 refine dN 5 ?_
 refine oC ?_
 refine cb (fun w _=>l9Lead_c t z a n c w h0 h1 hn) ?_
 refine dk ?_
 refine dt 6 ?_
 refine dN 7 ?_
 refine oS ?_
 refine dkx ?_
 refine dd ?_
 refine go ?_;intros
 refine ret () trivial rfl
def keepT (cl:Int) (hs:List Hold):List Hold:=hs.filter fun h=>!decide (h.untl≤cl)
def tickQ (q:Int):Int:=if q+1 < 4 then q+1 else 0
def tickP (x:SendWindow) (q:Int):List Packet:=if q+1 < 4 then [] else [statP x]
def tickS (x:Source):Source:=⟨x.window,x.clock+1,tickQ x.quiet,keepT (x.clock+1) x.holds⟩
theorem quiet_bd {x:Source} (h:goodSrc x=true):0≤x.quiet∧x.quiet≤3:=by
 unfold goodSrc btw at h
 simp only [Bool.and_eq_true,decide_eq_true_eq] at h
 exact h.1.2
theorem good_held {x:Source} (h:goodSrc x=true):∀z∈x.holds,heldB x.window z.number=true:=fun z hz=>by
 unfold goodSrc at h
 simp only [Bool.and_eq_true] at h
 obtain ⟨i,hi,rfl⟩:=List.getElem_of_mem hz
 have:=List.all_eq_true.1 h.2 i (by simpa using hi)
 rw [chkH_at hi] at this
 simp only [Bool.and_eq_true] at this
 exact this.1.1.2
structure TiS where
 a:Option Addr
 c:Nat
 a2:Option Addr
 c2:Nat
 F:List Nat
 ae:Option Addr
 ce:Nat
 Fe:List Nat
theorem tick1_f (h:Hold) (gb g o:Nat) (u v0 v1 v2 q Hs:Value) (cl:Int) (G:List Nat) :
  Fn Tryz.prog 202 [u,ptr gb 0 0] [.isv EHold u h G,.cel gb 0 [ptr g o 0],.cel g o [v0,v1,v2,.int .i64 cl,q,Hs]] [] (fun (_:Unit)=>True) (fun _=>.bool (decide (h.untl≤cl))) (fun _=>[]):=by
 refine enter Tryz.func202 rfl Tryz.ntmps202 fun w0=>?_
 refine openHold ?_
 rintro _ rfl
 refine go ?_;intros
 refine d_start [0,2,3] [] ?_
 refine dt4 0 1 2 3 ?_
 refine dt4 4 5 6 7 ?_
 refine dd ?_
 refine go ?_;intros
 refine ret () trivial rfl
theorem tickD_f (hs:List Hold) (gb tb g t o:Nat) (A B:List Value) (v0 v1 v2:Value) (v3:Value) (a2:Option Addr) (c2:Nat) (cl q:Int) (F2:List Nat) :
  Fn Tryz.prog 201 [.slice a2 hs.length c2,.func (.func 202) #[] #[ptr gb 0 0]] [] [.ow EHold 194 (.slice a2 hs.length c2) hs F2,.row gb tb 0 [] [ptr g o 0] [],.row g t o A [v0,v1,v2,.int .i64 cl,.int .i64 q,v3] B] (fun (_:Option Addr × Nat × List Nat)=>True)
   (fun z=>.slice z.1 (keepT cl hs).length z.2.1) (fun z=>[.ow EHold 194 (.slice z.1 (keepT cl hs).length z.2.1) (keepT cl hs) z.2.2,.row gb tb 0 [] [ptr g o 0] [],.row g t o A [v0,v1,v2,.int .i64 cl,.int .i64 q,v3] B]):=by
 refine fn_lib rfl fun w ⟨hnd,ho⟩ _ hk=>?_
 refine (DeleteFunc_Hold _ (body_of (by kernel_rfl)) #[ptr gb 0 0] _ hs F2 (fun h=>decide (h.untl≤cl)) w ho hnd fun k hk2 wr u G hK hu=>?_).mono ?_
 ·have hr:=hk wr hK
  have r1:=hr (.row gb tb 0 [] [ptr g o 0] []) (by simp)
  have r2:=hr (.row g t o A [v0,v1,v2,.int .i64 cl,.int .i64 q,v3] B) (by simp)
  refine (tick1_f hs[k] gb g o u v0 v1 v2 (.int .i64 q) v3 cl G).val wr ?_
  intro p hp
  simp only [List.mem_cons,List.not_mem_nil,or_false] at hp
  rcases hp with rfl|rfl|rfl
  ·exact hu
  ·exact ⟨by simp,row_range r1⟩
  ·exact ⟨by simp,row_range r2⟩
 ·rintro e w' ⟨v',F',rfl,h1,h2,h3,h4⟩
  have e:(hs.filter fun x=>!(fun h:Hold=>decide (h.untl≤cl)) x)=keepT cl hs:=rfl
  rw [e] at h1
  obtain ⟨a',c',rfl⟩:=h1.slice
  exact ⟨(a',c',F'),trivial,rfl,⟨h2,h1⟩,fun b hb=>.inl (h3 b hb),h4⟩
theorem Stick_f (W:SendWindow) (hs:List Hold) (g t o:Nat) (A B:List Value) (a a2:Option Addr) (c c2:Nat) (cl q:Int) (F2:List Nat) (t0:0≤W.trail) (t1:W.trail≤65535) (hl:W.items.length≤6) (k0:0≤cl) (k1:cl≤9999) (q0:0≤q) (q3:q≤3) :
  Fn Tryz.prog 127 [ptr g o 0] [] [.row g t o A [.int .i64 W.trail,.int .i64 W.size,.slice a W.items.length c,.int .i64 cl,.int .i64 q,.slice a2 hs.length c2] B,.ow EHold 194 (.slice a2 hs.length c2) hs F2] (fun (_:TiS)=>True)
   (fun z=>.slice z.ae (tickP W q).length z.ce) (fun z=>[.row g t o A [.int .i64 W.trail,.int .i64 W.size,.slice a W.items.length c,.int .i64 (cl+1),.int .i64 (tickQ q),.slice z.a2 (keepT (cl+1) hs).length z.c2] B,.ow EHold 194 (.slice z.a2 (keepT (cl+1) hs).length z.c2) (keepT (cl+1) hs) z.F,.ow EPacket 127 (.slice z.ae (tickP W q).length z.ce) (tickP W q) z.Fe]):=by
 refine enter Tryz.func127 rfl Tryz.ntmps127 fun w0=>?_
 refine go ?_;intros
 refine d_start [0,1] [9] ?_
 refine dt4 0 1 2 3 ?_
 refine dt2 4 5 ?_
 refine dN 6 ?_
 refine oC ?_
 refine cf (tickD_f hs _ _ g t o A B _ _ _ _ a2 c2 (cl+1) q F2) fun z _=>?_
 refine t_app ?_
 refine dk ?_
 refine dt2 7 8 ?_
 refine dN 9 ?_
 refine oS ?_
 refine dkx ?_
 refine dd ?_
 refine go ?_;intros
 refine c_if rfl (fun h1=>?_) (fun h1=>?_)
 ·refine t_nilow EPacket 127 ?_
  refine go ?_;intros
  rw [show tickQ q=q+1 from if_pos h1,show tickP W q=[] from if_pos h1]
  refine ret ⟨none,0,z.1,z.2.1,z.2.2,none,0,[]⟩ trivial rfl
 ·refine go ?_;intros
  refine cf (status_f W.trail W.size a W.items.length c t0 t1 (by omega)) fun _ _=>?_
  refine t_app ?_
  refine go ?_;intros
  refine t_row (xs:=[statP W]) (flatPacket _ (by show (⟨#[]⟩:ByteArray).size≤maxLen;decide)) ?_ (by simp)
  rw [show tickQ q=0 from if_neg h1,show tickP W q=[statP W] from if_neg h1]
  refine ret ⟨none,0,z.1,z.2.1,z.2.2,_,_,_⟩ trivial rfl
theorem l9Drop0_f (x:SendWindow) (v:Value) (F:List Nat) (t0:0≤x.trail) (t1:x.trail≤65535) (hl:x.items.length≤4294967296):Fn Tryz.prog 136 [v,.int .i64 0] [.isv ESendWindow v x F] [] (fun (_:Value × List Nat)=>True) (fun s=>s.1) (fun s=>[.own OSendWindow s.1 x s.2]):=by
 have e0:aft x.trail ((0:Nat):Int)=x.trail:=by unfold aft;omega
 have h:=l9DropO_f x 0 v F hl (Nat.zero_le _) t0 t1
 rw [e0,List.drop_zero] at h
 refine fn_made fun w hA=>(h.made w hA (fun _=>rfl)).mono ?_
 rintro e w' ⟨z, -,he,hh,hn,hF,hB⟩
 obtain ⟨h1,h2⟩:=hh (.ow EStr 9 (.slice z.a x.items.length z.c) x.items z.F) (by simp)
 exact ⟨(_,z.F),trivial,he,⟨h1,_,rfl,_,rfl,h2⟩,fun b hb=>hF b (by simpa [fp,Pc.F,Pc.mu] using hb),hB⟩
theorem keepU_T {W:SendWindow} {cl:Int} {hs:List Hold} (h:∀z∈hs,heldB W z.number=true):keepU W cl hs=keepT cl hs:=by
 unfold keepU keepT
 refine List.filter_congr fun z hz=>?_
 rw [h z hz,Bool.true_and]
 by_cases hc:cl < z.untl
 ·rw [decide_eq_true hc,decide_eq_false (by omega)];rfl
 ·rw [decide_eq_false hc,decide_eq_true (by omega)];rfl
def tickU (x:Source):Source:=⟨x.window,x.clock+1,tickQ x.quiet,keepU x.window (x.clock+1) x.holds⟩
theorem l11TickU_f (x:Source) (v:Value) (F:List Nat) (t0:0≤x.window.trail) (t1:x.window.trail≤65535) (hl:x.window.items.length≤6) (k0:0≤x.clock) (k1:x.clock≤99999) (q0:0≤x.quiet) (q3:x.quiet≤3) (hm:x.holds.length≤1000) (hn:wideH x.holds) :
  Fn Tryz.prog 157 [v] [.isv ESource v x F] [] (fun (_:TiS)=>True) (fun s=>.tuple #[.agg #[.int .i64 (tickU x).window.trail,.int .i64 (tickU x).window.size,.slice s.a (tickU x).window.items.length s.c,.int .i64 (tickU x).clock,.int .i64 (tickU x).quiet,.slice s.a2 (tickU x).holds.length s.c2],.slice s.ae (tickP x.window x.quiet).length s.ce])
   (fun s=>[.isv ESource (.agg #[.int .i64 (tickU x).window.trail,.int .i64 (tickU x).window.size,.slice s.a (tickU x).window.items.length s.c,.int .i64 (tickU x).clock,.int .i64 (tickU x).quiet,.slice s.a2 (tickU x).holds.length s.c2]) (tickU x) s.F,.ow EPacket 127 (.slice s.ae (tickP x.window x.quiet).length s.ce) (tickP x.window x.quiet) s.Fe]):=by
 refine enter Tryz.func157 rfl Tryz.ntmps157 fun w0=>?_
 refine openSource ?_
 rintro a1 c1 F1 a2 c2 F2 rfl l1 l2
 refine closeSendWindow x.window (a1:=a1) ?_
 refine go ?_;intros
 refine cf (l9Drop0_f x.window _ F1 t0 t1 (by omega)) fun y _=>?_
 refine t_app ?_
 refine openOSendWindow ?_
 rintro a5 c5 F5 e5 l5
 rw [e5]
 have hH:=fun v a c F G=>l11HoldsU_f x.window x.holds (x.clock+1) v a c F G t0 t1 (by omega) hn
 refine go ?_;intros
 refine t_read (xs:=x.window.items) fun F8=>?_
 refine closeSendWindow x.window (a1:=a5) ?_
 refine d_start [2,4] [] ?_
 refine dt4 0 1 2 3 ?_
 refine dt4 4 5 6 7 ?_
 refine dt4 8 9 10 11 ?_
 refine dt 12 ?_
 refine dM 13 15 ?_ ?_
 ·refine oC ?_
  refine cf (hH _ a2 c2 _ _) fun z _=>?_
  refine t_app ?_
  refine dk ?_
  refine dt 14 ?_
  refine dN 15 ?_
  apply o_alloc;rfl;intro _
  refine dk ?_
  refine dN 16 ?_
  refine oS ?_
  refine dk ?_
  refine dd ?_
  refine go ?_;intros
  refine c_if rfl (fun h1=>?_) (fun h1=>?_)
  ·rw [show tickU x=⟨x.window,x.clock+1,0,keepU x.window (x.clock+1) x.holds⟩ from by unfold tickU tickQ;rw [if_neg (by omega)],show tickP x.window x.quiet=[statP x.window] from if_neg (by omega)]
   refine go ?_;intros
   refine t_read (E:=EHold) fun F9=>?_
   refine closeSource ⟨x.window,x.clock+1,0,keepU x.window (x.clock+1) x.holds⟩ (a1:=a5) ?_
   refine d_start [2,5] [] ?_
   refine dt2 0 1 ?_
   refine dN 2 ?_
   refine oC ?_
   refine cf (l9Status_f x.window.trail x.window.size _ x.window.items.length _ t0 t1 (by omega)) fun _ _=>?_
   refine t_app ?_
   refine dk ?_
   refine dM 3 4 ?_ ?_
   ·apply o_bs;rfl;rfl;rfl;rfl;exact rptE;exact filE;intro _
    refine dk ?_
    refine dN 4 ?_
    refine oS ?_
    refine dk ?_
    refine dt 5 ?_
    refine dd ?_
    refine go ?_;intros
    refine t_row (xs:=[statP x.window]) (flatPacket _ (by show (⟨#[]⟩:ByteArray).size≤maxLen;decide)) ?_ (by simp)
    refine ret ⟨_,_,_,_,_,_,_,_⟩ trivial rfl
   ·refine oS ?_
    refine dk ?_
    refine dN 3 ?_
    apply o_bs;rfl;rfl;rfl;rfl;exact rptE;exact filE;intro _
    refine dk ?_
    refine dt 5 ?_
    refine dd ?_
    refine go ?_;intros
    refine t_row (xs:=[statP x.window]) (flatPacket _ (by show (⟨#[]⟩:ByteArray).size≤maxLen;decide)) ?_ (by simp)
    refine ret ⟨_,_,_,_,_,_,_,_⟩ trivial rfl
  ·rw [show tickU x=⟨x.window,x.clock+1,x.quiet+1,keepU x.window (x.clock+1) x.holds⟩ from by unfold tickU tickQ;rw [if_pos (by omega)],show tickP x.window x.quiet=[] from if_pos (by omega)]
   refine go ?_;intros
   refine t_emp EPacket ?_
   refine t_read (E:=EHold) fun F9=>?_
   refine closeSource ⟨x.window,x.clock+1,x.quiet+1,keepU x.window (x.clock+1) x.holds⟩ (a1:=a5) ?_
   refine ret ⟨_,_,_,_,_,_,_,_⟩ trivial rfl
 ·apply o_alloc;rfl;intro _
  refine dk ?_
  refine dN 13 ?_
  refine oC ?_
  refine cf (hH _ a2 c2 _ _) fun z _=>?_
  refine t_app ?_
  refine dk ?_
  refine dt 14 ?_
  refine dN 16 ?_
  refine oS ?_
  refine dk ?_
  refine dd ?_
  refine go ?_;intros
  refine c_if rfl (fun h1=>?_) (fun h1=>?_)
  ·rw [show tickU x=⟨x.window,x.clock+1,0,keepU x.window (x.clock+1) x.holds⟩ from by unfold tickU tickQ;rw [if_neg (by omega)],show tickP x.window x.quiet=[statP x.window] from if_neg (by omega)]
   refine go ?_;intros
   refine t_read (E:=EHold) fun F9=>?_
   refine closeSource ⟨x.window,x.clock+1,0,keepU x.window (x.clock+1) x.holds⟩ (a1:=a5) ?_
   refine d_start [2,5] [] ?_
   refine dt2 0 1 ?_
   refine dN 2 ?_
   refine oC ?_
   refine cf (l9Status_f x.window.trail x.window.size _ x.window.items.length _ t0 t1 (by omega)) fun _ _=>?_
   refine t_app ?_
   refine dk ?_
   refine dM 3 4 ?_ ?_
   ·apply o_bs;rfl;rfl;rfl;rfl;exact rptE;exact filE;intro _
    refine dk ?_
    refine dN 4 ?_
    refine oS ?_
    refine dk ?_
    refine dt 5 ?_
    refine dd ?_
    refine go ?_;intros
    refine t_row (xs:=[statP x.window]) (flatPacket _ (by show (⟨#[]⟩:ByteArray).size≤maxLen;decide)) ?_ (by simp)
    refine ret ⟨_,_,_,_,_,_,_,_⟩ trivial rfl
   ·refine oS ?_
    refine dk ?_
    refine dN 3 ?_
    apply o_bs;rfl;rfl;rfl;rfl;exact rptE;exact filE;intro _
    refine dk ?_
    refine dt 5 ?_
    refine dd ?_
    refine go ?_;intros
    refine t_row (xs:=[statP x.window]) (flatPacket _ (by show (⟨#[]⟩:ByteArray).size≤maxLen;decide)) ?_ (by simp)
    refine ret ⟨_,_,_,_,_,_,_,_⟩ trivial rfl
  ·rw [show tickU x=⟨x.window,x.clock+1,x.quiet+1,keepU x.window (x.clock+1) x.holds⟩ from by unfold tickU tickQ;rw [if_pos (by omega)],show tickP x.window x.quiet=[] from if_pos (by omega)]
   refine go ?_;intros
   refine t_emp EPacket ?_
   refine t_read (E:=EHold) fun F9=>?_
   refine closeSource ⟨x.window,x.clock+1,x.quiet+1,keepU x.window (x.clock+1) x.holds⟩ (a1:=a5) ?_
   refine ret ⟨_,_,_,_,_,_,_,_⟩ trivial rfl
theorem tickU_eq {x:Source} (hg:goodSrc x=true):tickU x=tickS x:=by unfold tickU tickS;rw [keepU_T (good_held hg)]
theorem l11Tick_f (x:Source) (v:Value) (F:List Nat) (hg:goodSrc x=true) :
  Fn Tryz.prog 157 [v] [.isv ESource v x F] [] (fun (_:TiS)=>True) (fun s=>.tuple #[.agg #[.int .i64 (tickS x).window.trail,.int .i64 (tickS x).window.size,.slice s.a (tickS x).window.items.length s.c,.int .i64 (tickS x).clock,.int .i64 (tickS x).quiet,.slice s.a2 (tickS x).holds.length s.c2],.slice s.ae (tickP x.window x.quiet).length s.ce])
   (fun s=>[.isv ESource (.agg #[.int .i64 (tickS x).window.trail,.int .i64 (tickS x).window.size,.slice s.a (tickS x).window.items.length s.c,.int .i64 (tickS x).clock,.int .i64 (tickS x).quiet,.slice s.a2 (tickS x).holds.length s.c2]) (tickS x) s.F,.ow EPacket 127 (.slice s.ae (tickP x.window x.quiet).length s.ce) (tickP x.window x.quiet) s.Fe]):=by
 obtain ⟨gw,hl,t0,t1,k0,k1,hm,hn,hu,hb⟩:=goodS_of hg
 obtain ⟨q0,q3⟩:=quiet_bd hg
 have h:=l11TickU_f x v F t0 t1 hl k0 (by omega) q0 q3 (by omega) (wide_of hn)
 rw [tickU_eq hg] at h
 exact h
theorem resAnswer_no {x:SendWindow} {p:Packet} (h:okAnswer x p=false):resAnswer x p=(zPk,false):=by unfold resAnswer;rw [h];rfl
theorem resAnswer_yes {x:SendWindow} {p:Packet} (h:okAnswer x p=true):resAnswer x p=(ansP x p.number,true):=by unfold resAnswer;rw [h];rfl
theorem held_lt {x:SendWindow} {n:Int} (h:heldB x n=true):(gp x.trail n).toNat < x.items.length:=by
 have b:=gp_bd x.trail n
 unfold heldB at h
 simp only [decide_eq_true_eq] at h
 omega
theorem itemAt_lt {x:SendWindow} {n:Int} (h:(gp x.trail n).toNat < x.items.length):itemAt x n=x.items[(gp x.trail n).toNat]:=by
 unfold itemAt
 rw [List.getD_eq_getElem?_getD,List.getElem?_eq_getElem h];rfl
theorem AnswerTo_f (x:SendWindow) (p:Packet) (v:Value) (F:List Nat) (hs:p.data.size≤maxLen):Fn Tryz.prog 308 [v,.agg #[.int .i64 p.kind,.int .i64 p.number,.int .i64 p.trail,.int .i64 p.lead,.string p.data]] [.isv ESendWindow v x F] [] (fun (_:Unit)=>True) (fun _=>.tuple #[.agg #[.int .i64 (resAnswer x p).1.kind,.int .i64 (resAnswer x p).1.number,.int .i64 (resAnswer x p).1.trail,.int .i64 (resAnswer x p).1.lead,.string (resAnswer x p).1.data],.bool (resAnswer x p).2]) (fun _=>[]):=by
 refine enter Tryz.func308 rfl Tryz.ntmps308 fun w0=>?_
 refine openSendWindow ?_
 rintro a1 c1 F1 rfl l1
 refine go ?_;intros
 refine cb (fun w st=>IsValidSendWindow_c _ x _ w (st.get (p:=.isv ESendWindow (.agg #[.int .i64 x.trail,.int .i64 x.size,.slice a1 x.items.length c1]) x F) (by simp))) ?_
 cases g1:goodWin x
 ·refine go ?_;intros
  rw [resAnswer_no (by unfold okAnswer;rw [g1];rfl)]
  refine ret () trivial rfl
 obtain ⟨⟨t0,t1⟩,⟨z0,z1⟩,hl,hi⟩:=goodWin_iff.1 g1
 have hl6:x.items.length≤6:=by omega
 refine go ?_;intros
 refine cf (IsValidPacket_f p hs) fun _ _=>?_
 refine t_app ?_
 cases g2:goodPk p
 ·refine go ?_;intros
  rw [resAnswer_no (by unfold okAnswer;rw [g1,g2];rfl)]
  refine ret () trivial rfl
 obtain ⟨n0,n1⟩:=goodPk_num g2
 refine go ?_;intros
 refine wg_if rfl rfl (fun h3=>?_) (fun h3=>?_)
 ·refine go ?_;intros
  rw [resAnswer_no (by unfold okAnswer;rw [g1,g2,decide_eq_false h3];rfl)]
  refine ret () trivial rfl
 have h3:=Decidable.not_not.1 h3
 refine go ?_;intros
 refine cb (fun w st=>(isHeld_f x p.number _ F t0 t1 n0 n1).val w (hol1 (st.get (p:=.isv ESendWindow (.agg #[.int .i64 x.trail,.int .i64 x.size,.slice a1 x.items.length c1]) x F) (by simp)))) ?_
 cases g3:heldB x p.number
 ·refine go ?_;intros
  rw [resAnswer_no (by unfold okAnswer;rw [g1,g2,g3];simp)]
  refine ret () trivial rfl
 rw [resAnswer_yes (by unfold okAnswer;rw [g1,g2,g3,decide_eq_true h3];rfl)]
 have b:=gp_bd x.trail p.number
 have hk3:=held_lt g3
 rw [show ansP x p.number=⟨2,p.number,x.trail,leadW x,x.items[(gp x.trail p.number).toNat]⟩ by unfold ansP;rw [itemAt_lt hk3]]
 refine at_str (xs:=x.items) (gp x.trail p.number).toNat ?_
 rintro hi b2 o2 e s1
 rw [e]
 refine goN ?_;intros
 refine d_start [0,2,3] [] ?_
 refine dt4 0 1 2 3 ?_
 refine dt4 4 6 7 8 ?_
 refine dt2 9 10 ?_
 refine dt 11 ?_
 refine dN 5 ?_
 refine oC ?_
 refine cb (fun w _=>SendWindow_lead_c _ _ _ _ _ w t0 t1 (by omega)) ?_
 refine dk ?_
 refine dN 12 ?_
 refine oC ?_
 refine ce (fun w s=>gap_c _ _ _ (by omega) (by omega) (by omega) (by omega)) ?_
 refine dk ?_
 refine dt2 13 14 ?_
 refine dt 15 ?_
 refine dN 16 ?_
 refine oS ?_
 refine dk ?_
 refine dt 17 ?_
 refine dd ?_
 refine go ?_;intros
 refine ret () trivial rfl
theorem specAnswerTo_f (x:SendWindow) (p:Packet) (v:Value) (F:List Nat) (hs:p.data.size≤maxLen):Fn Tryz.prog 233 [v,.agg #[.int .i64 p.kind,.int .i64 p.number,.int .i64 p.trail,.int .i64 p.lead,.string p.data]] [.isv ESendWindow v x F] [] (fun (_:Unit)=>True) (fun _=>.tuple #[.agg #[.int .i64 (resAnswer x p).1.kind,.int .i64 (resAnswer x p).1.number,.int .i64 (resAnswer x p).1.trail,.int .i64 (resAnswer x p).1.lead,.string (resAnswer x p).1.data],.bool (resAnswer x p).2]) (fun _=>[]):=by
 refine enter Tryz.func233 rfl Tryz.ntmps233 fun w0=>?_
 refine openSendWindow ?_
 rintro a1 c1 F1 rfl l1
 refine go ?_;intros
 refine cb (fun w st=>l9Good_c _ x _ w (st.get (p:=.isv ESendWindow (.agg #[.int .i64 x.trail,.int .i64 x.size,.slice a1 x.items.length c1]) x F) (by simp))) ?_
 cases g1:goodWin x
 ·refine go ?_;intros
  rw [resAnswer_no (by unfold okAnswer;rw [g1];rfl)]
  refine ret () trivial rfl
 obtain ⟨⟨t0,t1⟩,⟨z0,z1⟩,hl,hi⟩:=goodWin_iff.1 g1
 have hl6:x.items.length≤6:=by omega
 refine go ?_;intros
 refine cf (l4Good_f p hs) fun _ _=>?_
 refine t_app ?_
 cases g2:goodPk p
 ·refine go ?_;intros
  rw [resAnswer_no (by unfold okAnswer;rw [g1,g2];rfl)]
  refine ret () trivial rfl
 obtain ⟨n0,n1⟩:=goodPk_num g2
 refine go ?_;intros
 refine wg_if rfl rfl (fun h3=>?_) (fun h3=>?_)
 ·refine go ?_;intros
  rw [resAnswer_no (by unfold okAnswer;rw [g1,g2,decide_eq_false h3];rfl)]
  refine ret () trivial rfl
 have h3:=Decidable.not_not.1 h3
 refine go ?_;intros
 refine cb (fun w st=>(l9Held_f x p.number _ F t0 t1 n0 n1).val w (hol1 (st.get (p:=.isv ESendWindow (.agg #[.int .i64 x.trail,.int .i64 x.size,.slice a1 x.items.length c1]) x F) (by simp)))) ?_
 cases g3:heldB x p.number
 ·refine go ?_;intros
  rw [resAnswer_no (by unfold okAnswer;rw [g1,g2,g3];simp)]
  refine ret () trivial rfl
 rw [resAnswer_yes (by unfold okAnswer;rw [g1,g2,g3,decide_eq_true h3];rfl)]
 have b:=gp_bd x.trail p.number
 have hk3:=held_lt g3
 rw [show ansP x p.number=⟨2,p.number,x.trail,leadW x,x.items[(gp x.trail p.number).toNat]⟩ by unfold ansP;rw [itemAt_lt hk3]]
 refine at_str (xs:=x.items) (gp x.trail p.number).toNat ?_
 rintro hi b2 o2 e s1
 rw [e]
 refine goN ?_;intros
 refine d_start [0,2,3] [] ?_
 refine dt4 0 1 2 3 ?_
 refine dt4 4 6 7 8 ?_
 refine dt2 9 10 ?_
 refine dt 11 ?_
 refine dN 5 ?_
 refine oC ?_
 refine cb (fun w _=>l9Lead_c _ _ _ _ _ w t0 t1 (by omega)) ?_
 refine dk ?_
 refine dN 12 ?_
 refine oC ?_
 refine ce (fun w s=>l2Gap_c _ _ _ (by omega) (by omega)) ?_
 refine dk ?_
 refine dt2 13 14 ?_
 refine dt 15 ?_
 refine dN 16 ?_
 refine oS ?_
 refine dk ?_
 refine dt 17 ?_
 refine dd ?_
 refine go ?_;intros
 refine ret () trivial rfl
theorem gp_inj {t a b:Int} (ha:0≤a∧a≤65535) (hb:0≤b∧b≤65535) (h:gp t a=gp t b):a=b:=by unfold gp at h;omega
def srt (t:Int) (hs:List Hold):Prop:=hs.Pairwise fun a b=>gp t a.number < gp t b.number
theorem goodSrc_iff {x:Source}:goodSrc x=true↔goodWin x.window=true∧isClk x.clock=true∧btw 0 x.quiet 3=true∧(∀h∈x.holds,isSer h.number=true∧heldB x.window h.number=true∧btw (x.clock+1) h.untl (x.clock+3)=true)∧srt x.window.trail x.holds:=by
 unfold goodSrc
 simp only [Bool.and_eq_true,List.all_eq_true,List.mem_range]
 constructor
 ·rintro ⟨⟨⟨h1,h2⟩,h3⟩,h4⟩
  refine ⟨h1,h2,h3,fun h hh=>?_,?_⟩
  ·obtain ⟨i,hi,rfl⟩:=List.getElem_of_mem hh
   have:=h4 i hi
   rw [chkH_at hi] at this
   simp only [Bool.and_eq_true] at this
   exact ⟨this.1.1.1,this.1.1.2,this.1.2⟩
  ·have step:∀i (hi:i+1 < x.holds.length),gp x.window.trail x.holds[i].number < gp x.window.trail x.holds[i+1].number:=fun i hi=>by
    have:=h4 (i+1) hi
    rw [chkH_at hi] at this
    simp only [Bool.and_eq_true,Bool.or_eq_true,decide_eq_true_eq,Bool.not_eq_true',decide_eq_false_iff_not] at this
    have h:=this.2
    rcases h with h|h
    ·omega
    ·simpa using h
   refine List.pairwise_iff_getElem.2 fun i j hi hj hij=>?_
   obtain ⟨d,rfl⟩:∃d,j=i+1+d:=⟨j - i - 1,by omega⟩
   clear hij
   induction d with
   | zero=>exact step i hj
   | succ d ih=>exact Int.lt_trans (ih (by omega)) (step (i+1+d) hj)
 ·rintro ⟨h1,h2,h3,h4,h5⟩
  refine ⟨⟨⟨h1,h2⟩,h3⟩,fun i hi=>?_⟩
  rw [chkH_at hi]
  obtain ⟨a,b,c⟩:=h4 x.holds[i] (List.getElem_mem hi)
  rw [a,b,c]
  simp only [Bool.true_and,Bool.or_eq_true,decide_eq_true_eq,Bool.not_eq_true',decide_eq_false_iff_not]
  rcases Nat.eq_zero_or_pos i with h0|h0
  ·exact .inl h0
  ·have:=List.pairwise_iff_getElem.1 h5 (i - 1) i (by omega) hi (by omega)
   right;omega
def holdAt (t:Int) (hs:List Hold) (n:Int):Nat:=(hs.takeWhile fun h=>decide (gp t h.number < gp t n)).length
def thereB (t:Int) (hs:List Hold) (n:Int):Bool:=match hs[holdAt t hs n]? with|some h=>decide (h.number=n)|none=>false
def onB (hs:List Hold) (n:Int):Bool:=hs.any fun h=>decide (h.number=n)
def addHold (hs:List Hold) (k:Nat) (h:Hold):List Hold:=hs.take k++h::hs.drop k
def confP (W:SendWindow) (n:Int):Packet:=⟨4,n,W.trail,leadW W,⟨#[]⟩⟩
def reqSU (x:Source) (n:Int):Source:=if heldB x.window n && !thereB x.window.trail x.holds n then ⟨x.window,x.clock,x.quiet,addHold x.holds (holdAt x.window.trail x.holds n) ⟨n,x.clock+3⟩⟩ else withU x x.window
def reqP (x:Source) (p:Packet):List Packet:=if heldB x.window p.number then (if thereB x.window.trail x.holds p.number then [confP x.window p.number] else [confP x.window p.number,(resAnswer x.window p).1]) else [statP x.window]
def reqS (x:Source) (n:Int):Source:=if heldB x.window n && !thereB x.window.trail x.holds n then ⟨x.window,x.clock,x.quiet,addHold x.holds (holdAt x.window.trail x.holds n) ⟨n,x.clock+3⟩⟩ else x
theorem keepU_same {x:Source} (hg:goodSrc x=true):keepU x.window x.clock x.holds=x.holds:=by
 obtain ⟨-, -, -,h4, -⟩:=goodSrc_iff.1 hg
 unfold keepU
 refine List.filter_eq_self.2 fun h hh=>?_
 obtain ⟨a,b,c⟩:=h4 h hh
 unfold btw at c
 simp only [Bool.and_eq_true,decide_eq_true_eq] at c
 rw [b,decide_eq_true (by omega)];rfl
theorem reqSU_eq {x:Source} (hg:goodSrc x=true) (n:Int):reqSU x n=reqS x n:=by
 unfold reqSU reqS withU
 rw [keepU_same hg]
theorem holdAt_le (t:Int) (hs:List Hold) (n:Int):holdAt t hs n≤hs.length:=tw_spec.1
theorem there_on {t n:Int} {hs:List Hold} (hn:0≤n∧n≤65535) (hser:∀h∈hs,isSer h.number=true) (hs':srt t hs):thereB t hs n=onB hs n:=by
 obtain ⟨h1,h2,h3⟩:=tw_spec (p:=fun h:Hold=>decide (gp t h.number < gp t n)) (xs:=hs)
 unfold thereB onB
 have hle:=holdAt_le t hs n
 rw [Bool.eq_iff_iff,List.any_eq_true]
 constructor
 ·intro h
  split at h
  ·rename_i z hz
   exact ⟨z,List.mem_of_getElem? hz,h⟩
  ·cases h
 ·rintro ⟨z,hz,he⟩
  simp only [decide_eq_true_eq] at he
  obtain ⟨i,hi,rfl⟩:=List.getElem_of_mem hz
  have hk:holdAt t hs n=i:=by
   refine tw_len (by omega) (fun j hj h=>?_) (fun h=>?_)
   ·have:=List.pairwise_iff_getElem.1 hs' j i h hi hj
    simp only [decide_eq_true_eq];rw [←he];exact this
   ·simp only [decide_eq_false_iff_not];rw [he];omega
  rw [hk,List.getElem?_eq_getElem hi]
  simpa using he
theorem srt_add {t n:Int} {hs:List Hold} (u:Int) (hn:0≤n∧n≤65535) (hser:∀h∈hs,isSer h.number=true) (hs':srt t hs) (ht:thereB t hs n=false):srt t (addHold hs (holdAt t hs n) ⟨n,u⟩):=by
 obtain ⟨h1,h2,h3⟩:=tw_spec (p:=fun h:Hold=>decide (gp t h.number < gp t n)) (xs:=hs)
 have hle:=holdAt_le t hs n
 have hon:onB hs n=false:=by rw [←there_on hn hser hs'];exact ht
 have hne:∀h∈hs,gp t h.number≠gp t n:=fun h hh e=>by
  have:=gp_inj (isSer_iff.1 (hser h hh)) hn e
  have h0:onB hs n=true:=List.any_eq_true.2 ⟨h,hh,by simp [this]⟩
  rw [hon] at h0;cases h0
 unfold addHold srt
 rw [List.pairwise_append]
 refine ⟨hs'.sublist (List.take_sublist _ _),?_,?_⟩
 ·rw [List.pairwise_cons]
  refine ⟨fun b hb=>?_,hs'.sublist (List.drop_sublist _ _)⟩
  obtain ⟨j,hj,rfl⟩:=List.getElem_of_mem hb
  rw [List.getElem_drop]
  rw [List.length_drop] at hj
  have hk:holdAt t hs n < hs.length:=by omega
  have h0:=h3 hk
  simp only [decide_eq_false_iff_not,Int.not_lt] at h0
  have h00:gp t n≤gp t (hs[holdAt t hs n]'hk).number:=h0
  have hd:=hne _ (List.getElem_mem hk)
  rcases Nat.eq_zero_or_pos j with e|e
  ·subst e;show gp t n < gp t (hs[holdAt t hs n+0]).number;simp only [Nat.add_zero];omega
  ·have h5:=List.pairwise_iff_getElem.1 hs' (holdAt t hs n) (holdAt t hs n+j) hk (by omega) (by omega)
   show gp t n < _;omega
 ·intro a ha b hb
  obtain ⟨i,hi,rfl⟩:=List.getElem_of_mem ha
  rw [List.length_take] at hi
  rw [List.getElem_take]
  have ha2:=h2 i (by show i < holdAt t hs n;omega) (by omega)
  simp only [decide_eq_true_eq] at ha2
  rcases List.mem_cons.1 hb with rfl|hb
  ·exact ha2
  ·obtain ⟨j,hj,rfl⟩:=List.getElem_of_mem hb
   rw [List.getElem_drop]
   rw [List.length_drop] at hj
   exact List.pairwise_iff_getElem.1 hs' i _ (by omega) (by omega) (by omega)
theorem good_req {x:Source} {n:Int} (hg:goodSrc x=true) (hn:0≤n∧n≤65535):goodSrc (reqS x n)=true:=by
 unfold reqS
 split
 ·rename_i h
  simp only [Bool.and_eq_true,Bool.not_eq_true'] at h
  obtain ⟨hh,ht⟩:=h
  obtain ⟨h1,h2,h3,h4,h5⟩:=goodSrc_iff.1 hg
  refine goodSrc_iff.2 ⟨h1,h2,h3,fun z hz=>?_,srt_add _ hn (fun z hz=>(h4 z hz).1) h5 ht⟩
  have:z∈x.holds∨z=⟨n,x.clock+3⟩:=by
   unfold addHold at hz
   simp only [List.mem_append,List.mem_cons] at hz
   rcases hz with h|h|h
   ·exact .inl (List.mem_of_mem_take h)
   ·exact .inr h
   ·exact .inl (List.mem_of_mem_drop h)
  rcases this with h|rfl
  ·exact h4 z h
  ·exact ⟨isSer_iff.2 hn,hh,by unfold btw;simp⟩
 ·exact hg
theorem good_tick {x:Source} (hg:goodSrc x=true) (hc:x.clock < 9999):goodSrc (tickS x)=true:=by
 obtain ⟨h1,h2,h3,h4,h5⟩:=goodSrc_iff.1 hg
 have hk:=clk_bd h2
 refine goodSrc_iff.2 ⟨h1,?_,?_,fun z hz=>?_,h5.sublist (List.filter_sublist)⟩
 ·unfold tickS isClk btw;simp;omega
 ·unfold btw at h3
  simp only [Bool.and_eq_true,decide_eq_true_eq] at h3
  unfold tickS tickQ btw
  dsimp only
  split <;> simp <;> omega
 ·unfold tickS keepT at hz
  simp only [List.mem_filter] at hz
  obtain ⟨z1,z2⟩:=hz
  obtain ⟨a,b,c⟩:=h4 z z1
  refine ⟨a,b,?_⟩
  unfold btw at c ⊢
  simp only [Bool.and_eq_true,decide_eq_true_eq,Bool.not_eq_true',decide_eq_false_iff_not] at c z2 ⊢
  show x.clock+1+1≤z.untl∧z.untl≤x.clock+1+3
  omega
theorem good_moved {x:Source} {W:SendWindow} (k:Nat) (q:Int) (hg:goodSrc x=true) (hw:goodWin W=true) (hq:btw 0 q 3=true) (hk:k≤6) (ht:W.trail=aft x.window.trail k):goodSrc ⟨W,x.clock,q,keepH W x.holds⟩=true:=by
 obtain ⟨h1,h2,h3,h4,h5⟩:=goodSrc_iff.1 hg
 obtain ⟨-,⟨z0,z1⟩,hl, -⟩:=goodWin_iff.1 hw
 have key:∀n,heldB W n=true→gp x.window.trail n=gp W.trail n+k:=fun n hn=>by
  unfold heldB at hn
  simp only [decide_eq_true_eq] at hn
  rw [ht] at hn ⊢
  have:=gp_bd (aft x.window.trail k) n
  unfold gp aft at *
  omega
 refine goodSrc_iff.2 ⟨hw,h2,hq,fun z hz=>?_,?_⟩
 ·unfold keepH at hz
  simp only [List.mem_filter] at hz
  obtain ⟨a,b,c⟩:=h4 z hz.1
  exact ⟨a,hz.2,c⟩
 ·unfold keepH srt
  show List.Pairwise (fun a b=>gp W.trail a.number < gp W.trail b.number) (x.holds.filter fun h=>heldB W h.number)
  have hp:List.Pairwise (fun a b=>gp x.window.trail a.number < gp x.window.trail b.number) (x.holds.filter fun h=>heldB W h.number):=h5.sublist (List.filter_sublist)
  refine List.Pairwise.imp_of_mem (fun {a b} ha hb h=>?_) hp
  simp only [List.mem_filter] at ha hb
  have e1:=key _ ha.2
  have e2:=key _ hb.2
  omega
theorem good_sent {x:Source} {s:ByteArray} (hg:goodSrc x=true) (hs:itm s=true):goodSrc (sentS x s)=true:=by
 have hw:=(goodSrc_iff.1 hg).1
 obtain ⟨-,hw2, -⟩:=pushed_law (x:=x.window) (s:=s) (by unfold okPushItem;rw [hw,hs];rfl)
 obtain ⟨⟨t0,t1⟩, -⟩:=goodWin_iff.1 hw
 by_cases h:(x.window.items.length:Int)=x.window.size
 ·refine good_moved 1 0 hg hw2 (by decide) (by omega) ?_
  show (roomed x.window).trail=_
  unfold roomed;rw [if_pos h];rfl
 ·refine good_moved 0 0 hg hw2 (by decide) (by omega) ?_
  show (roomed x.window).trail=_
  unfold roomed aft;rw [if_neg h];omega
end Go.Proofs.YtgmbfohkpfineaaGreatDoor
