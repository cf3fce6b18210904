/- Part 5 of the proof: 53 texts, one behind the other. -/
import Derived.Test.YtgmbfohkpfineaaGreatDoorShelf
import Derived.Lib.RowBridge
import Derived.Test.YtgmbfohkpfineaaGreatDoorM4
set_option maxRecDepth 100000
set_option maxHeartbeats 8000000
set_option linter.all false
set_option linter.unusedVariables false
set_option linter.unusedSimpArgs false
namespace Go.Proofs.YtgmbfohkpfineaaGreatDoor
open Go.RowKit
theorem clOE {c:Cx} {fr:Fr} {H S:List Pc} {Φ:Gl} (x:Element) {a:Option Addr} {n cp:Nat} {F:List Nat} (hn:n=x.entries.length) (h:T c fr (.own OElement (.agg #[.int .i64 x.clock,.slice a n cp]) x F::S) Φ) (hp:Pick H (.ow OEntry 231 (.slice a n cp) x.entries F) S:=by (repeat (first|exact .here|apply Pick.there));first|done|fail):T c fr H Φ:=by
 subst hn;exact closeOElement x h hp
theorem reqE_yes {e:Element} {n f:Int} (h:atE e n < e.entries.length):reqE e n f=⟨e.clock,e.entries.set (atE e n) ⟨e.entries[atE e n].number,putI e.entries[atE e n].faces f,e.entries[atE e n].untl⟩⟩:=by unfold reqE;rw [List.getElem?_eq_getElem h]
theorem reqE_new {e:Element} {n f:Int} (h:e.entries[atE e n]?=none) (hl:e.entries.length < 5):reqE e n f=⟨e.clock,e.entries++[⟨n,[f],e.clock+6⟩]⟩:=by unfold reqE;rw [h];simp [hl]
theorem reqE_full {e:Element} {n f:Int} (h:e.entries[atE e n]?=none) (hl:¬e.entries.length < 5):reqE e n f=e:=by unfold reqE;rw [h];simp [hl]
theorem l14Request_f (e:Element) (n f:Int) (v:Value) (F:List Nat) (hl:e.entries.length≤1000000) (hf:∀x∈e.entries,x.faces.length≤1000000) (hc0:-1000000≤e.clock) (hc1:e.clock≤1000000):Fn Tryz.prog 165 [v,.int .i64 n,.int .i64 f] [.isv EElement v e F] [] (fun (_:Value × List Nat)=>True) (fun s=>.tuple #[s.1,.bool (fwdE e n)]) (fun s=>[.own OElement s.1 (reqE e n f) s.2]):=by
 refine enter Tryz.func165 rfl Tryz.ntmps165 fun w0=>?_
 refine openElement ?_
 rintro a1 c1 F1 rfl l1
 refine go ?_;intros
 refine cv (fun w st=>l14Own_c _ e _ w (st.get (p:=.isv EElement (.agg #[.int .i64 e.clock,.slice a1 e.entries.length c1]) e F) (by simp)) (by omega) (fun x hx=>Nat.le_trans (hf x hx) (by decide))) fun u FU=>?_
 refine openOElement ?_
 rintro a2 c2 F2 rfl l2
 refine go ?_;intros
 refine cf (l14Find_f e n _ F) fun _ _=>?_
 refine t_app ?_
 rcases findE_or e n with ⟨h,e1,e2,e3⟩|⟨e1,e2,e3,e4⟩
 ·rw [e1,e3,reqE_yes h]
  have hfx:=hf e.entries[atE e n] (List.getElem_mem h)
  refine go ?_;intros
  refine focO (m:=3) (atE e n) ?_ rfl h
  rintro _ g A cs B k1 k2 G1 Gi G2 rfl - hc hH
  refine openOEntry ?_
  rintro a5 c5 F5 ev l5
  obtain rfl:cs=[.int .i64 e.entries[atE e n].number,.slice a5 e.entries[atE e n].faces.length c5,.int .i64 e.entries[atE e n].untl]:=by simpa using ev
  refine go ?_;intros
  refine cf (l1Put_f _ f a5 c5 F5 hfx) fun z _=>?_
  refine t_app ?_
  refine go ?_;intros
  refine closeOEntry ⟨e.entries[atE e n].number,putI e.entries[atE e n].faces f,e.entries[atE e n].untl⟩ ?_
  refine unfO _ hH rfl fun F6=>?_
  refine clOE ⟨e.clock,_⟩ List.length_set.symm ?_
  refine ret (_,_) trivial rfl
 ·rw [e1,e3]
  refine go ?_;intros
  refine c_if rfl (fun h5=>?_) (fun h5=>?_)
  ·rw [reqE_new e2 (by omega)]
   refine go ?_;intros
   refine t_row (E:=EInt) (xs:=[f]) (rep_i f) ?_ (by simp)
   refine closeOEntry ⟨n,[f],e.clock+6⟩ ?_
   apply wO
   refine ap1o one_OEntry ⟨n,[f],e.clock+6⟩ rfl fun a3 c3 F3=>?_
   refine go ?_;intros
   refine clOE ⟨e.clock,_⟩ rfl ?_
   refine ret (_,_) trivial rfl
  ·rw [reqE_full e2 (by omega)]
   refine go ?_;intros
   refine clOE e rfl ?_
   refine ret (_,_) trivial rfl
def facS (e:Element) (n:Int) (below:List Int):List Int:=match e.entries[atE e n]? with
 | some x=>below.filter fun f=>decide (f∈x.faces)
 | none=>if e.entries.length=5 then below else []
theorem repE_yes {e:Element} {n:Int} (h:atE e n < e.entries.length):repE e n=⟨e.clock,e.entries.take (atE e n)++e.entries.drop (atE e n+1)⟩:=by unfold repE;rw [List.getElem?_eq_getElem h]
theorem repE_no {e:Element} {n:Int} (h:e.entries[atE e n]?=none):repE e n=e:=by unfold repE;rw [h]
theorem facS_yes {e:Element} {n:Int} {l:List Int} (h:atE e n < e.entries.length):facS e n l=l.filter fun f=>decide (f∈e.entries[atE e n].faces):=by unfold facS;rw [List.getElem?_eq_getElem h]
theorem facS_no {e:Element} {n:Int} {l:List Int} (h:e.entries[atE e n]?=none):facS e n l=if e.entries.length=5 then l else []:=by unfold facS;rw [h]
structure FacS where
 k:Nat
 a:Option Addr
 c:Nat
 F:List Nat
structure RepS where
 v:Value
 F:List Nat
 a:Option Addr
 c:Nat
 G:List Nat
theorem l14Repair_f (e:Element) (n:Int) (below:List Int) (v:Value) (F:List Nat) (a0:Option Addr) (c0:Nat) (F0:List Nat) (hl:e.entries.length≤1000000) (hf:∀x∈e.entries,x.faces.length≤1000000) (hb:below.length≤1000000):Fn Tryz.prog 163 [v,.int .i64 n,.slice a0 below.length c0] [.isv EElement v e F,.sl EInt (.slice a0 below.length c0) below F0] [] (fun (_:RepS)=>True) (fun s=>.tuple #[s.v,.slice s.a (facS e n below).length s.c]) (fun s=>[.own OElement s.v (repE e n) s.F,.ow EInt 3 (.slice s.a (facS e n below).length s.c) (facS e n below) s.G]):=by
 refine enter Tryz.func163 rfl Tryz.ntmps163 fun w0=>?_
 refine openElement ?_
 rintro a1 c1 F1 rfl l1
 refine go ?_;intros
 refine cv (fun w st=>l14Own_c _ e _ w (st.get (p:=.isv EElement (.agg #[.int .i64 e.clock,.slice a1 e.entries.length c1]) e F) (by simp)) (by omega) (fun x hx=>Nat.le_trans (hf x hx) (by decide))) fun u FU=>?_
 refine openOElement ?_
 rintro a2 c2 F2 rfl l2
 refine go ?_;intros
 refine cf (l14Find_f e n _ F) fun _ _=>?_
 refine t_app ?_
 refine t_emp EInt ?_
 rcases findE_or e n with ⟨h,e1,e2,e3⟩|⟨e1,e2,e3,e4⟩
 ·rw [e1,repE_yes h,facS_yes h]
  have hfx:=hf e.entries[atE e n] (List.getElem_mem h)
  refine go ?_;intros
  refine atEntry (xs:=e.entries) (atE e n) ?_
  rintro hi b o a5 c5 F5 e6 l5
  generalize atE e n=i at *
  generalize hx:e.entries[i]=x at *
  rw [e6]
  refine go ?_;intros
  refine c_loopS [2,3,6,7,8,10] (fun s:FacS=>[(11,.int .i64 (s.k:Nat)),(9,.slice s.a ((below.take s.k).filter fun f=>decide (f∈x.faces)).length s.c)]) (fun s=>[.ow EInt 3 (.slice s.a ((below.take s.k).filter fun f=>decide (f∈x.faces)).length s.c) ((below.take s.k).filter fun f=>decide (f∈x.faces)) s.F]) (fun s=>s.k≤below.length) (fun s=>below.length - s.k) ⟨0,_,_,_⟩ (Nat.zero_le _) fun s hs=>?_
  obtain ⟨k,a3,c3,F3⟩:=s
  dsimp only at hs ⊢
  refine go ?_;intros
  refine c_if rfl (fun h6=>?_) (fun h6=>?_)
  ·have hk:k < below.length:=by omega
   refine at_int (xs:=below) k ?_
   rintro hi2 b2 o2 e7
   rw [e7]
   have ht:below.take (k+1)=below.take k++[below[k]]:=by rw [List.take_add_one,List.getElem?_eq_getElem hk];rfl
   have hle:((below.take k).filter fun f=>decide (f∈x.faces)).length≤k:=Nat.le_trans (List.length_filter_le _ _) (by simp;omega)
   refine go ?_;intros
   refine d_start [0,2,7] [] ?_
   refine dt4 0 1 2 3 ?_
   refine dt4 4 5 6 7 ?_
   refine dt2 8 9 ?_
   refine dN 10 ?_
   refine oC ?_
   refine cf (l1Has_f x.faces below[k] a5 c5 F5) fun _ _=>?_
   refine t_app ?_
   refine dk ?_
   refine dd ?_
   refine go ?_;intros
   refine c_if rfl (fun h7=>?_) (fun h7=>?_)
   ·have e8:(below.take (k+1)).filter (fun f=>decide (f∈x.faces))=((below.take k).filter fun f=>decide (f∈x.faces))++[below[k]]:=by rw [ht,List.filter_append];simp [h7]
    refine go ?_;intros
    apply wO
    refine ap1 (rep_i _) one_EInt fun a6 c6 F6=>?_
    rw [←e8]
    refine go ?_;intros
    refine n_lp (⟨k+1,_,_,_⟩:FacS) hk (by dsimp only;omega)
   ·have e8:(below.take (k+1)).filter (fun f=>decide (f∈x.faces))=((below.take k).filter fun f=>decide (f∈x.faces)):=by rw [ht,List.filter_append];simp [h7]
    refine go ?_;intros
    rw [←e8]
    refine n_lp (⟨k+1,_,_,_⟩:FacS) hk (by dsimp only;omega)
  ·have hk:below.take k=below:=List.take_of_length_le (by omega)
   rw [hk]
   refine go ?_;intros
   refine t_shal one_OEntry rfl fun ys Fy Gy hyl hym=>?_
   refine t_fcut i hi hyl hym fun G1 Gi G2=>?_
   refine t_read (E:=EC 3) (xs:=ys) fun Fr=>?_
   refine t_stk (E:=EC 3) (xs:=ys) i (by omega) fun F6 hc1 hc2=>?_
   refine d_start [8] [13] ?_
   refine dt2 1 2 ?_
   refine dt 3 ?_
   refine dt 4 ?_ (hy:=yd_slt (i:=i) rfl rfl rfl (by omega) (by omega))
   refine dt4 6 7 8 9 ?_
   refine dsld 10 (i+1) fun a7 c7 F7=>?_
   refine dN 0 ?_
   apply o_bs0;rfl;intro _
   refine t_emp (EC 3) ?_
   refine dk ?_
   refine dN 5 ?_
   refine aps (one_EC 3) (scal_EC 3) (fun a6 c6 F6=>?_) (hn:=by rw [List.length_take];omega) (h63:=by exact lenE) (hby:=by exact lenE)
   refine dk ?_
   refine dN 11 ?_
   refine aps (one_EC 3) (scal_EC 3) (fun a8 c8 F8=>?_) (h63:=by exact lenE) (hby:=by exact lenE)
   refine dk ?_
   refine dt 12 ?_
   refine dN 13 ?_
   refine oS ?_
   refine dkx ?_
   refine dd ?_
   refine t_fjoin (E:=OEntry) ?_
   refine t_deep (E:=OEntry) (m:=3) (ys:=([]++ys.take i)++ys.drop (i+1)) (cs:=(ys.take i).flatten++(ys.drop (i+1)).flatten) (xs:=e.entries.take i++e.entries.drop (i+1)) ?_ rfl (by simp) (by simp [hyl])
   refine go ?_;intros
   refine clOE (n:=(([]++ys.take i)++ys.drop (i+1)).length) ⟨e.clock,e.entries.take i++e.entries.drop (i+1)⟩ (by simp [hyl]) ?_
   refine ret ⟨_,_,_,_,_⟩ trivial rfl
 ·rw [e1,repE_no e2,facS_no e2]
  refine go ?_;intros
  refine c_if rfl (fun h5=>?_) (fun h5=>?_)
  ·rw [if_pos (by omega)]
   refine go ?_;intros
   apply wO
   refine aps one_EInt scal_EInt fun a4 c4 F4=>?_
   refine go ?_;intros
   refine clOE e rfl ?_
   refine ret ⟨_,_,_,_,_⟩ trivial rfl
  ·rw [if_neg (by omega)]
   refine go ?_;intros
   refine clOE e rfl ?_
   refine ret ⟨_,_,_,_,_⟩ trivial rfl
theorem Erequest_f (e:Element) (n f:Int) (g t o:Nat) (A B:List Value) (a:Option Addr) (c:Nat) (F:List Nat) (hl:e.entries.length≤1000000) (hf:∀x∈e.entries,x.faces.length≤1000000∧x.faces.Pairwise (· < ·)) (hc0:-1000000≤e.clock) (hc1:e.clock≤1000000) :
  Fn Tryz.prog 266 [ptr g o 0,.int .i64 n,.int .i64 f] [] [.row g t o A [.int .i64 e.clock,.slice a e.entries.length c] B,.ow OEntry 231 (.slice a e.entries.length c) e.entries F] (fun (_:Option Addr × Nat × List Nat)=>True) (fun _=>.bool (fwdE e n)) (fun s=>[.row g t o A [.int .i64 (reqE e n f).clock,.slice s.1 (reqE e n f).entries.length s.2.1] B,.ow OEntry 231 (.slice s.1 (reqE e n f).entries.length s.2.1) (reqE e n f).entries s.2.2]):=by
 refine enter Tryz.func266 rfl Tryz.ntmps266 fun w0=>?_
 refine go ?_;intros
 refine cb (fun w st=>by
  obtain ⟨F', -,hs⟩:=(st.get (p:=.ow OEntry 231 (.slice a e.entries.length c) e.entries F) (by simp)).2.sl weak_Entry
  exact (Efind_f e n _ F').val w (hol1 ⟨_,rfl,_,rfl,hs⟩)) ?_
 rcases findE_or e n with ⟨h,e1,e2,e3⟩|⟨e1,e2,e3,e4⟩
 ·rw [e1,e3,reqE_yes h]
  obtain ⟨hfx,hpw⟩:=hf e.entries[atE e n] (List.getElem_mem h)
  have hsl:∀y,(e.entries.set (atE e n) y).length=e.entries.length:=fun y=>List.length_set
  refine go ?_;intros
  refine focO (m:=3) (atE e n) ?_ rfl h
  rintro _ g2 A2 cs B2 k1 k2 G1 Gi G2 rfl - hc hH
  refine openOEntry ?_
  rintro a5 c5 F5 ev l5
  obtain rfl:cs=[.int .i64 e.entries[atE e n].number,.slice a5 e.entries[atE e n].faces.length c5,.int .i64 e.entries[atE e n].untl]:=by simpa using ev
  refine go ?_;intros
  refine cb (fun w st=>by
   obtain ⟨F', -,hs⟩:=(st.get (p:=.ow EInt 3 (.slice a5 e.entries[atE e n].faces.length c5) e.entries[atE e n].faces F5) (by simp)).2.read
   exact (bsInt_f _ f a5 c5 F' hpw hfx).val w (hol1 ⟨by decide,hs⟩)) ?_
  cases hq:atPl e.entries[atE e n].faces f
  ·have ep:putI e.entries[atE e n].faces f=e.entries[atE e n].faces.take (placeI e.entries[atE e n].faces f)++f::e.entries[atE e n].faces.drop (placeI e.entries[atE e n].faces f):=by unfold putI;rw [if_neg (by simpa [atPl] using hq)]
   refine go ?_;intros
   refine cf (InsInt_f e.entries[atE e n].faces f (placeI e.entries[atE e n].faces f) a5 c5 _ F5 (placeI_le _ _) hfx) fun z _=>?_
   refine t_app ?_
   rw [←ep]
   refine go ?_;intros
   refine closeOEntry ⟨e.entries[atE e n].number,putI e.entries[atE e n].faces f,e.entries[atE e n].untl⟩ ?_
   refine unfO _ hH rfl fun F6=>?_
   dsimp only
   rw [←hsl ⟨e.entries[atE e n].number,putI e.entries[atE e n].faces f,e.entries[atE e n].untl⟩]
   refine ret (_,_,_) trivial rfl
  ·have ep:putI e.entries[atE e n].faces f=e.entries[atE e n].faces:=by unfold putI;rw [if_pos (by simpa [atPl] using hq)]
   rw [ep]
   refine go ?_;intros
   refine closeOEntry ⟨e.entries[atE e n].number,e.entries[atE e n].faces,e.entries[atE e n].untl⟩ ?_
   refine unfO _ hH rfl fun F6=>?_
   dsimp only
   rw [←hsl ⟨e.entries[atE e n].number,e.entries[atE e n].faces,e.entries[atE e n].untl⟩]
   refine ret (_,_,_) trivial rfl
 ·rw [e1,e3]
  refine go ?_;intros
  refine c_if rfl (fun h5=>?_) (fun h5=>?_)
  ·rw [reqE_new e2 (by omega)]
   refine go ?_;intros
   refine d_start [0] [18] ?_
   refine dt4 0 1 2 3 ?_
   refine dt4 4 5 6 8 ?_
   refine dt4 9 10 11 12 ?_
   refine dN 7 ?_
   apply o_bs;rfl;rfl;rfl;rfl;exact rptE;exact filE;intro _
   refine dk ?_
   refine dt 13 ?_
   refine dN 14 ?_
   apply o_bs;rfl;rfl;rfl;rfl;exact rptE;exact filE;intro _
   refine t_row (E:=EInt) (xs:=[f]) (rep_i f) ?_ (by simp)
   refine closeOEntry ⟨n,[f],e.clock+6⟩ ?_
   refine dk ?_
   refine dN 15 ?_
   refine ap1o one_OEntry ⟨n,[f],e.clock+6⟩ rfl fun a3 c3 F3=>?_
   refine dk ?_
   refine dt2 16 17 ?_
   refine dN 18 ?_
   refine oS ?_
   refine dkx ?_
   refine dd ?_
   refine go ?_;intros
   refine ret (_,_,_) trivial rfl
  ·rw [reqE_full e2 (by omega)]
   refine go ?_;intros
   refine ret (_,_,_) trivial rfl
theorem facE_yes {e:Element} {n:Int} {l:List Int} (h:atE e n < e.entries.length):facE e n l=e.entries[atE e n].faces.filter fun f=>decide (f∈l):=by unfold facE;rw [List.getElem?_eq_getElem h]
theorem facE_no {e:Element} {n:Int} {l:List Int} (h:e.entries[atE e n]?=none):facE e n l=if e.entries.length=5 then l else []:=by unfold facE;rw [h]
theorem repair1_f (x:Int) (gb:Nat) (l:List Int) (a:Option Addr) (c:Nat) (F:List Nat):Fn Tryz.prog 304 [.int .i64 x,ptr gb 0 0] [.cel gb 0 [.slice a l.length c],.sl EInt (.slice a l.length c) l F] [] (fun (_:Unit)=>True) (fun _=>.bool (!decide (x∈l))) (fun _=>[]):=by
 refine enter Tryz.func304 rfl Tryz.ntmps304 fun w0=>?_
 refine go ?_;intros
 refine cf (conI_f l x _ _ F) fun _ _=>?_
 refine t_app ?_
 refine go ?_;intros
 refine ret () trivial ?_
 rw [decide_not];rfl
structure RpIS where
 a:Option Addr
 c:Nat
 F:List Nat
 a2:Option Addr
 c2:Nat
 F2:List Nat
theorem Erepair_f (e:Element) (n:Int) (below:List Int) (g t o:Nat) (A B:List Value) (a:Option Addr) (c:Nat) (F:List Nat) (a0:Option Addr) (c0:Nat) (F0:List Nat) (hl:e.entries.length≤1000000) (hf:∀x∈e.entries,x.faces.length≤1000000) (hb:below.length≤1000000) :
  Fn Tryz.prog 264 [ptr g o 0,.int .i64 n,.slice a0 below.length c0] [.sl EInt (.slice a0 below.length c0) below F0] [.row g t o A [.int .i64 e.clock,.slice a e.entries.length c] B,.ow OEntry 231 (.slice a e.entries.length c) e.entries F] (fun (_:RpIS)=>True) (fun s=>.slice s.a2 (facE e n below).length s.c2) (fun s=>[.row g t o A [.int .i64 (repE e n).clock,.slice s.a (repE e n).entries.length s.c] B,.ow OEntry 231 (.slice s.a (repE e n).entries.length s.c) (repE e n).entries s.F,.ow EInt 3 (.slice s.a2 (facE e n below).length s.c2) (facE e n below) s.F2]):=by
 refine enter Tryz.func264 rfl Tryz.ntmps264 fun w0=>?_
 refine go ?_;intros
 rename_i gb
 refine cb (fun w st=>by
  obtain ⟨F', -,hs⟩:=(st.get (p:=.ow OEntry 231 (.slice a e.entries.length c) e.entries F) (by simp)).2.sl weak_Entry
  exact (Efind_f e n _ F').val w (hol1 ⟨_,rfl,_,rfl,hs⟩)) ?_
 refine t_rocel (cs:=[.slice a0 below.length c0]) ?_ (by simp)
 rcases findE_or e n with ⟨h,e1,e2,e3⟩|⟨e1,e2,e3,e4⟩
 ·rw [e1,repE_yes h,facE_yes h]
  have hfx:=hf e.entries[atE e n] (List.getElem_mem h)
  refine go ?_;intros
  refine t_shal one_OEntry rfl fun ys Fy Gy hyl hym=>?_
  generalize atE e n=i at *
  generalize hx:e.entries[i]=x at *
  refine t_fcut i h hyl hym fun G1 Gi G2=>?_
  rw [hx]
  refine openOEntry ?_
  rintro a5 c5 F5 ev l5
  have hyi:ys[i]=[.int .i64 x.number,.slice a5 x.faces.length c5,.int .i64 x.untl]:=by simpa using ev
  refine focF (m:=3) (scal_EC 3) i ?_ (by repeat (first|exact .here|apply Pick.there)) rfl (by omega)
  rintro _ g2 A2 cs B2 rfl rfl hr hH
  obtain ⟨rfl, -⟩:=hr w0
  rw [hyi]
  refine go ?_;intros
  refine cf (DelInt_f 304 [] [ptr gb 0 0] [.cel gb 0 [.slice a0 below.length c0],.sl EInt (.slice a0 below.length c0) below F0] rfl x.faces a5 c5 F5 (fun z=>!decide (z∈below)) (by kernel_rfl) (by omega) (fun z _ w hA=>(repair1_f z gb below a0 c0 F0).val w hA)) fun z _=>?_
  refine t_app ?_
  have e9:(x.faces.filter fun z=>!!decide (z∈below))=x.faces.filter fun z=>decide (z∈below):=by simp only [Bool.not_not]
  rw [e9]
  rw [←hyi]
  refine unfF ys[i] hH hr ?_
  rw [List.set_getElem_self]
  refine go ?_;intros
  refine cf (DelE_f ys e.entries.length i _ _ _ _ hyl.symm (by omega) rfl (by omega)) fun q _=>?_
  refine t_app ?_
  refine go ?_;intros
  refine t_fjoin (E:=OEntry) ?_
  refine t_deep (E:=OEntry) (m:=3) (ys:=ys.take i++ys.drop (i+1)) (cs:=(ys.take i).flatten++(ys.drop (i+1)).flatten) (xs:=e.entries.take i++e.entries.drop (i+1)) ?_ rfl (by simp) (by simp [hyl])
  rw [show (ys.take i++ys.drop (i+1)).length=(e.entries.take i++e.entries.drop (i+1)).length by simp [hyl]]
  refine ret ⟨_,_,_,_,_,_⟩ trivial rfl
 ·rw [e1,repE_no e2,facE_no e2]
  refine go ?_;intros
  refine c_if rfl (fun h5=>?_) (fun h5=>?_)
  ·rw [if_pos (by omega)]
   refine go ?_;intros
   refine cn (fun w st=>Clone_Int _ below F0 w (st.get (p:=.sl EInt (.slice a0 below.length c0) below F0) (by simp)).2 (by omega)) fun a6 c6 F6=>?_
   refine go ?_;intros
   refine ret ⟨_,_,_,_,_,_⟩ trivial rfl
  ·rw [if_neg (by omega)]
   refine t_nilow EInt 3 ?_
   refine go ?_;intros
   refine ret ⟨_,_,_,_,_,_⟩ trivial rfl
theorem IsValidTree_f (t:Tree) (v:Value) (F:List Nat):Fn Tryz.prog 92 [v] [.isv ETree v t F] [] (fun (_:Unit)=>True) (fun _=>.bool (goodTree t)) (fun _=>[]):=by
 refine enter Tryz.func92 rfl Tryz.ntmps92 fun w0=>?_
 refine openTree ?_
 rintro a1 c1 F1 rfl l1
 unfold maxLen at l1
 refine go ?_;intros
 refine c_loopR [1,2,6,7] (fun k:Nat=>[(8,.int .i64 (k:Nat))]) (fun k=>k≤t.parent.length∧∀j,j < k→parAt t.parent j=true) (fun k=>t.parent.length - k) 0 ⟨Nat.zero_le _,fun j h=>by omega⟩ fun k hk=>?_
 obtain ⟨hk1,hk2⟩:=hk
 refine go ?_;intros
 refine c_if rfl (fun h1=>?_) (fun h1=>?_)
 ·have hh:k < t.parent.length:=by omega
  refine at_int (xs:=t.parent) k ?_
  rintro hi b o e1
  rw [e1]
  refine go ?_;intros
  refine wg_if rfl rfl (fun h2=>?_) (fun h2=>?_)
  ·obtain rfl:k=0:=by omega
   refine go ?_;intros
   refine wg_if rfl rfl (fun h3=>?_) (fun h3=>?_)
   ·refine go ?_;intros
    rw [goodT_at hh (by rw [parAt_zero hh];exact decide_eq_false h3)]
    refine ret () trivial rfl
   ·refine go ?_;intros
    refine n_lp 1 ⟨hh,fun j hj=>by obtain rfl:j=0:=(by omega);rw [parAt_zero hh];exact decide_eq_true (by omega)⟩ (by show t.parent.length - 1 < t.parent.length - 0;omega)
  ·refine go ?_;intros
   refine wg_if rfl rfl (fun h3=>?_) (fun h3=>?_)
   ·refine go ?_;intros
    refine ce (fun w s=>within_c _ _ _ w) ?_
    cases g:btw 0 t.parent[k] ((k:Int) - 1)
    ·refine go ?_;intros
     rw [goodT_at hh (by rw [parAt_pos hh (by omega)];exact g)]
     refine ret () trivial rfl
    ·refine go ?_;intros
     refine n_lp (k+1) ⟨hh,fun j hj=>?_⟩ (by show t.parent.length - (k+1) < t.parent.length - k;omega)
     rcases Nat.lt_or_eq_of_le (Nat.lt_succ_iff.1 hj) with h|rfl
     ·exact hk2 j h
     ·rw [parAt_pos hh (by omega)];exact g
   ·exact absurd h3 (by omega)
 ·obtain rfl:k=t.parent.length:=by omega
  refine go ?_;intros
  refine ce (fun w s=>within_c _ _ _ w) ?_
  refine go ?_;intros
  refine ret () trivial ?_
  unfold goodTree
  rw [allUpTo_yes hk2,Bool.and_true];rfl
theorem l6Good_f (t:Tree) (v:Value) (F:List Nat):Fn Tryz.prog 76 [v] [.isv ETree v t F] [] (fun (_:Unit)=>True) (fun _=>.bool (goodTree t)) (fun _=>[]):=by
 refine enter Tryz.func76 rfl Tryz.ntmps76 fun w0=>?_
 refine openTree ?_
 rintro a1 c1 F1 rfl l1
 unfold maxLen at l1
 refine go ?_;intros
 refine ce (fun w s=>l1In_c _ _ _ w) ?_
 cases g0:btw 2 (t.parent.length:Int) 8
 ·rw [goodT_len g0]
  refine go ?_;intros
  refine ret () trivial rfl
 have hb:2≤t.parent.length∧t.parent.length≤8:=by
  unfold btw at g0
  simp only [Bool.and_eq_true,decide_eq_true_eq] at g0
  omega
 have h0:0 < t.parent.length:=by omega
 refine at_int (xs:=t.parent) 0 ?_
 rintro hi b o e1
 rw [e1]
 refine go ?_;intros
 refine c_if rfl (fun h2=>?_) (fun h2=>?_)
 ·refine go ?_;intros
  rw [goodT_at h0 (by rw [parAt_zero h0];exact decide_eq_false h2)]
  refine ret () trivial rfl
 refine go ?_;intros
 refine c_loopR [1,2,3] (fun k:Nat=>[(4,.int .i64 ((k+1:Nat):Int))]) (fun k=>k+1≤t.parent.length∧∀j,j < k+1→parAt t.parent j=true) (fun k=>t.parent.length - k) 0 ⟨by omega,fun j h=>by obtain rfl:j=0:=(by omega);rw [parAt_zero h0];exact decide_eq_true (by omega)⟩ fun k hk=>?_
 obtain ⟨hk1,hk2⟩:=hk
 refine go ?_;intros
 refine c_if rfl (fun h1=>?_) (fun h1=>?_)
 ·have hh:k+1 < t.parent.length:=by omega
  refine at_int (a:=some ⟨b,o,none⟩) (xs:=t.parent) (k+1) ?_
  rintro hi2 _ _ e2
  cases e2
  refine go ?_;intros
  refine ce (fun w s=>l1In_c _ _ _ w) ?_
  cases g:btw 0 t.parent[k+1] (((k+1:Nat):Int) - 1)
  ·refine go ?_;intros
   rw [goodT_at hh (by rw [parAt_pos hh (by omega)];exact g)]
   refine ret () trivial rfl
  ·refine go ?_;intros
   refine n_lp (k+1) ⟨hh,fun j hj=>?_⟩ (by show t.parent.length - (k+1) < t.parent.length - k;omega)
   rcases Nat.lt_or_eq_of_le (Nat.lt_succ_iff.1 hj) with h|rfl
   ·exact hk2 j h
   ·rw [parAt_pos hh (by omega)];exact g
 ·have hk:k+1=t.parent.length:=by omega
  refine go ?_;intros
  refine ret () trivial ?_
  unfold goodTree
  rw [g0,allUpTo_yes (fun j hj=>hk2 j (by omega))];rfl
structure KiS where
 k:Nat
 a:Option Addr
 c:Nat
 F:List Nat
theorem l6Children_f (t:Tree) (node:Int) (v:Value) (F:List Nat) (hz:kidsTo t.parent node 1=[]) (hl:1≤t.parent.length∧t.parent.length≤1000000):Fn Tryz.prog 82 [v,.int .i64 node] [.isv ETree v t F] [] (fun (_:KiS)=>True) (fun z=>.slice z.a (kids t.parent node).length z.c) (fun z=>[.ow EInt 3 (.slice z.a (kids t.parent node).length z.c) (kids t.parent node) z.F]):=by
 refine enter Tryz.func82 rfl Tryz.ntmps82 fun w0=>?_
 refine openTree ?_
 rintro a1 c1 F1 rfl l1
 unfold maxLen at l1
 refine go ?_;intros
 refine t_emp EInt ?_
 refine c_loopS [1,2,4] (fun z:KiS=>[(5,.slice z.a (kids1 t.parent node z.k).length z.c),(6,.int .i64 ((z.k+1:Nat):Int))]) (fun z=>[.ow EInt 3 (.slice z.a (kids1 t.parent node z.k).length z.c) (kids1 t.parent node z.k) z.F]) (fun z=>z.k+1≤t.parent.length) (fun z=>t.parent.length - z.k) ⟨0,_,_,_⟩ hl.1 fun z hz2=>?_
 have hkl:=kids1_len t.parent node z.k
 have hl2:=hl.2
 refine go ?_;intros
 refine c_if rfl (fun h1=>?_) (fun h1=>?_)
 ·have hh:z.k+1 < t.parent.length:=by omega
  refine at_int (xs:=t.parent) (z.k+1) ?_
  rintro hi b o e1
  rw [e1]
  refine go ?_;intros
  refine c_if rfl (fun h2=>?_) (fun h2=>?_)
  ·refine goN ?_;intros
   apply wO
   refine ap1 (rep_i _) one_EInt fun a9 c9 F9=>?_
   refine go ?_;intros
   rw [←kids1_yes hh h2]
   refine n_lp ⟨z.k+1,a9,c9,F9⟩ (by show z.k+1+1≤t.parent.length;omega) (by show t.parent.length - (z.k+1) < t.parent.length - z.k;omega)
  ·rw [←kids1_no hh h2]
   refine go ?_;intros
   refine n_lp ⟨z.k+1,z.a,z.c,z.F⟩ (by show z.k+1+1≤t.parent.length;omega) (by show t.parent.length - (z.k+1) < t.parent.length - z.k;omega)
 ·have hk:z.k+1=t.parent.length:=by omega
  rw [kids1_all hz hk]
  refine go ?_;intros
  refine ret z trivial rfl
theorem isLeaf_f (t:Tree) (node:Int) (v:Value) (F:List Nat):Fn Tryz.prog 128 [v,.int .i64 node] [.isv ETree v t F] [] (fun (_:Unit)=>True) (fun _=>.bool (leafT t.parent node)) (fun _=>[]):=by
 refine enter Tryz.func128 rfl Tryz.ntmps128 fun w0=>?_
 refine openTree ?_
 rintro a1 c1 F1 rfl l1
 refine go ?_;intros
 refine cf (conI_f t.parent node _ _ F1) fun _ _=>?_
 refine t_app ?_
 refine go ?_;intros
 refine ret () trivial ?_
 unfold leafT
 rw [←decide_not];rfl
theorem l15Leaf_f (t:Tree) (node:Int) (v:Value) (F:List Nat) (hg:GoodT t.parent) (h0:0 < node):Fn Tryz.prog 154 [v,.int .i64 node] [.isv ETree v t F] [] (fun (_:Unit)=>True) (fun _=>.bool (leafT t.parent node)) (fun _=>[]):=by
 refine enter Tryz.func154 rfl Tryz.ntmps154 fun w0=>?_
 refine openTree ?_
 rintro a1 c1 F1 rfl l1
 refine go ?_;intros
 refine wg_if rfl rfl (fun h1=>?_) (fun h1=>?_)
 ·refine go ?_;intros
  refine cf (l6Children_f t node _ F (kids_zero hg.z (by omega)) (by have:=hg.n0;have:=hg.n1;omega)) fun q _=>?_
  refine t_app ?_
  refine go ?_;intros
  refine ret () trivial ?_
  rw [leaf_kids]
  by_cases hk:kids t.parent node=[]
  ·rw [hk];rfl
  ·rw [decide_eq_false hk,decide_eq_false fun e=>hk (List.length_eq_zero_iff.1 (by omega))];rfl
 ·exact absurd h0 h1
theorem faces_pw {e:Element} (h:goodElement e=true) {x:Entry} (hx:x∈e.entries):x.faces.Pairwise (· < ·):=by
 unfold goodElement at h
 simp only [Bool.and_eq_true] at h
 obtain ⟨i,hi,rfl⟩:=List.getElem_of_mem hx
 have:=allUpTo_get h.2 i hi
 rw [entAt_of hi] at this
 simp only [okEntry,Bool.and_eq_true] at this
 exact (rising_pw this.1.2.2.1).1
theorem facS_eq {e:Element} {n:Int} {l:List Int} (h:goodElement e=true) (h2:rising 1 7 l=true):facS e n l=facE e n l:=by
 unfold facS facE
 cases hx:e.entries[atE e n]? with
 | none=>rfl
 | some x=>exact (filter_swap (faces_pw h (List.mem_of_getElem? hx)) (rising_pw h2).1).symm
end Go.Proofs.YtgmbfohkpfineaaGreatDoor
namespace Go.Proofs.YtgmbfohkpfineaaGreatDoor

open Go.RowKit
open Go.RowKit
theorem cntL_bd {α:Type} (f:α→Nat) (B:Nat):∀xs:List α,(∀x∈xs,f x≤B)→cntL f xs≤xs.length * B
 | [],_=>by simp [cntL]
 | x::r,h=>by
  have h1:=h x (by simp)
  have h2:=cntL_bd f B r fun y hy=>h y (by simp [hy])
  have e:cntL f (x::r)=f x+cntL f r:=by simp [cntL]
  rw [e,List.length_cons,Nat.add_mul];omega
open Go.RowKit
end Go.Proofs.YtgmbfohkpfineaaGreatDoor
namespace Go.Proofs.YtgmbfohkpfineaaGreatDoor
open Go.RowKit
theorem goodE_iff {e:Element}:goodElement e=true↔isClk e.clock=true∧e.entries.length≤5∧(∀x∈e.entries,okEntry e.clock x=true)∧e.entries.Pairwise fun a b=>a.number≠b.number:=by
 unfold goodElement
 simp only [Bool.and_eq_true,decide_eq_true_eq]
 constructor
 ·rintro ⟨⟨h1,h2⟩,h3⟩
  refine ⟨h1,h2,fun x hx=>?_,List.pairwise_iff_getElem.2 fun i j hi hj hij=>?_⟩
  ·obtain ⟨i,hi,rfl⟩:=List.getElem_of_mem hx
   have:=allUpTo_get h3 i hi
   rw [entAt_of hi,Bool.and_eq_true] at this
   exact this.1
  ·have:=allUpTo_get h3 j hj
   rw [entAt_of hj,Bool.and_eq_true,Bool.not_eq_true',List.any_eq_false] at this
   have:=this.2 e.entries[i] (List.mem_take_iff_getElem.2 ⟨i,by omega,rfl⟩)
   simpa using this
 ·rintro ⟨h1,h2,h3,h4⟩
  refine ⟨⟨h1,h2⟩,allUpTo_yes fun i hi=>?_⟩
  rw [entAt_of hi,h3 _ (List.getElem_mem hi),Bool.true_and,Bool.not_eq_true',List.any_eq_false]
  intro x hx
  obtain ⟨j,hj,rfl⟩:=List.mem_take_iff_getElem.1 hx
  have:=List.pairwise_iff_getElem.1 h4 j i (by omega) hi (by omega)
  simpa using this
theorem okEntry_iff {c:Int} {x:Entry}:okEntry c x=true↔isSer x.number=true∧0 < x.faces.length∧(x.faces.Pairwise (· < ·)∧∀z∈x.faces,1≤z∧z≤7)∧c+1≤x.untl∧x.untl≤c+6:=by
 unfold okEntry btw
 simp only [Bool.and_eq_true,decide_eq_true_eq]
 exact ⟨fun ⟨a,b,c,d⟩=>⟨a,b,rising_pw c,d⟩,fun ⟨a,b,c,d⟩=>⟨a,b,pw_rising c.1 c.2,d⟩⟩
theorem placeI_spec (l:List Int) (n:Int):(∀j (_:j < placeI l n) (h:j < l.length),l[j] < n)∧∀h:placeI l n < l.length,¬l[placeI l n] < n:=by
 have:=tw_spec (p:=fun x=>decide (x < n)) (xs:=l)
 exact ⟨fun j hj h=>of_decide_eq_true (this.2.1 j hj h),fun h=>of_decide_eq_false (this.2.2 h)⟩
theorem putI_mem {l:List Int} {n x:Int}:x∈putI l n↔x=n∨x∈l:=by
 unfold putI
 split
 ·rename_i h
  have:=List.mem_of_getElem? h
  exact ⟨fun h=>.inr h,fun h=>by rcases h with rfl|h;exact this;exact h⟩
 ·rw [List.mem_append,List.mem_cons]
  constructor
  ·rintro (h|h|h)
   ·exact .inr (List.mem_of_mem_take h)
   ·exact .inl h
   ·exact .inr (List.mem_of_mem_drop h)
  ·rintro (h|h)
   ·exact .inr (.inl h)
   ·rw [←List.take_append_drop (placeI l n) l,List.mem_append] at h
    rcases h with h|h
    ·exact .inl h
    ·exact .inr (.inr h)
theorem putI_pw {l:List Int} {n:Int} (h:l.Pairwise (· < ·)):(putI l n).Pairwise (· < ·):=by
 obtain ⟨s1,s2⟩:=placeI_spec l n
 have hp:=List.pairwise_iff_getElem.1 h
 unfold putI
 split
 ·exact h
 ·rename_i hne
  refine List.pairwise_append.2 ⟨h.sublist (List.take_sublist _ _),List.pairwise_cons.2 ⟨fun z hz=>?_,h.sublist (List.drop_sublist _ _)⟩,fun a ha b hb=>?_⟩
  ·obtain ⟨j,hj,rfl⟩:=List.mem_drop_iff_getElem.1 hz
   have hk:placeI l n < l.length:=by omega
   have h1:=s2 hk
   have h2:l[placeI l n]≠n:=fun e=>hne (by rw [List.getElem?_eq_getElem hk,e])
   rcases Nat.eq_zero_or_pos j with rfl|hj0
   ·simp only [Nat.add_zero];omega
   ·have:=hp (placeI l n) (placeI l n+j) hk (by omega) (by omega)
    omega
  ·obtain ⟨i,hi,rfl⟩:=List.mem_take_iff_getElem.1 ha
   have h1:=s1 i (by omega) (by omega)
   rcases List.mem_cons.1 hb with rfl|hb
   ·exact h1
   ·obtain ⟨j,hj,rfl⟩:=List.mem_drop_iff_getElem.1 hb
    exact hp i (placeI l n+j) (by omega) (by omega) (by omega)
theorem isFac_iff {f:Int}:isFac f=true↔1≤f∧f≤7:=by unfold isFac btw;simp
theorem good_reqE {e:Element} {n f:Int} (hg:goodElement e=true) (hn:isSer n=true) (hf:isFac f=true):goodElement (reqE e n f)=true:=by
 obtain ⟨h1,h2,h3,h4⟩:=goodE_iff.1 hg
 obtain ⟨f1,f2⟩:=isFac_iff.1 hf
 rcases findE_or e n with ⟨h, -,e2, -⟩|⟨-,e2, -,e4⟩
 ·rw [reqE_yes h]
  have hx:=okEntry_iff.1 (h3 _ (List.getElem_mem h))
  refine goodE_iff.2 ⟨h1,by simpa using h2,fun x hx'=>?_,?_⟩
  ·rcases List.mem_or_eq_of_mem_set hx' with h'|rfl
   ·exact h3 x h'
   ·refine okEntry_iff.2 ⟨hx.1,?_,⟨putI_pw hx.2.2.1.1,fun z hz=>?_⟩,hx.2.2.2⟩
    ·exact List.length_pos_of_mem (putI_mem.2 (.inl rfl))
    ·rcases putI_mem.1 hz with rfl|hz
     ·exact ⟨f1,f2⟩
     ·exact hx.2.2.1.2 z hz
  ·refine List.pairwise_iff_getElem.2 fun i j hi hj hij=>?_
   have hp:=List.pairwise_iff_getElem.1 h4 i j (by simpa using hi) (by simpa using hj) hij
   simp only [List.getElem_set]
   split <;> split <;> simp_all
 ·by_cases hl:e.entries.length < 5
  ·rw [reqE_new e2 hl]
   refine goodE_iff.2 ⟨h1,by simp;omega,fun x hx=>?_,?_⟩
   ·rcases List.mem_append.1 hx with h'|h'
    ·exact h3 x h'
    ·simp only [List.mem_cons,List.not_mem_nil,or_false] at h'
     subst h'
     exact okEntry_iff.2 ⟨hn,by simp,⟨by simp,by simp [f1,f2]⟩,by show e.clock+1≤e.clock+6;omega,by show e.clock+6≤e.clock+6;omega⟩
   ·refine List.pairwise_append.2 ⟨h4,by simp,fun a ha b hb=>?_⟩
    simp only [List.mem_cons,List.not_mem_nil,or_false] at hb
    subst hb
    exact e4 a ha
  ·rw [reqE_full e2 hl];exact hg
theorem good_repE {e:Element} {n:Int} (hg:goodElement e=true):goodElement (repE e n)=true:=by
 obtain ⟨h1,h2,h3,h4⟩:=goodE_iff.1 hg
 rcases findE_or e n with ⟨h, -,e2, -⟩|⟨-,e2, -,e4⟩
 ·rw [repE_yes h]
  have hs:(e.entries.take (atE e n)++e.entries.drop (atE e n+1)).Sublist e.entries:=by
   have:=List.Sublist.append (List.Sublist.refl (e.entries.take (atE e n))) (List.drop_sublist_drop_left e.entries (Nat.le_succ (atE e n)))
   rwa [List.take_append_drop] at this
  exact goodE_iff.2 ⟨h1,Nat.le_trans hs.length_le h2,fun x hx=>h3 x (hs.subset hx),h4.sublist hs⟩
 ·rw [repE_no e2];exact hg
theorem facE_sub {e:Element} {n:Int} {l:List Int}:∀z∈facE e n l,z∈l:=fun z hz=>by
 unfold facE at hz
 split at hz
 ·have:=(List.mem_filter.1 hz).2;simpa using this
 ·split at hz
  ·exact hz
  ·simp at hz
theorem tkReq_good {r:Receiver} {d:Int} (hg:GoodR r) (hk:r.clock < 9999) (d0:1≤d) (d1:d≤8):areQ (tkReq r d) r.window.next=true∧∀q∈tkReq r d,hasB r.window q.number=false:=by
 have k0:=hg.k0
 obtain ⟨h1,h2,h3,h4⟩:=areQ_iff.1 hg.q
 refine ⟨areQ_iff.2 ⟨h1,Nat.le_trans (tkReq_len r d) h2,fun q hq=>?_,?_⟩,fun q hq=>(tkReq_at hg hq).2.2⟩
 ·obtain ⟨q',hq',h⟩:=List.mem_filterMap.1 hq
  have ho:=okReq_iff.1 (h3 q' hq')
  unfold tkO at h
  split at h
  ·cases h;exact h3 q hq'
  ·split at h
   ·cases h
   ·rename_i hn
    have t0:=ho.t0
    have t1:=ho.t1
    split at h
    ·cases h
     exact okReq_iff.2 ⟨ho.n,ho.g,by show (1:Int)≤2;decide,by show (2:Int)≤3;decide,by show 0≤r.clock+1+3;omega,by show r.clock+1+3≤10007;omega,by show 0≤q'.tries+1;omega,by show q'.tries+1≤3;omega⟩
    ·cases h
     exact okReq_iff.2 ⟨ho.n,ho.g,by show (1:Int)≤1;decide,by show (1:Int)≤3;decide,by show 0≤r.clock+1+d;omega,by show r.clock+1+d≤10007;omega,t0,t1⟩
 ·unfold tkReq
  refine List.Pairwise.filterMap _ (fun a a' h b hb b' hb'=>?_) h4
  rw [tkO_num hb,tkO_num hb'];exact h
theorem tick_good {r:Receiver} {d:Int} (hg:GoodR r) (hk:r.clock < 9999) (d0:1≤d) (d1:d≤8):GoodR (tickRec r d):=by
 have k0:=hg.k0
 obtain ⟨hq,hf⟩:=tkReq_good hg hk d0 d1
 by_cases hL:tkLost r=[]
 ·rw [tickR_no hL]
  refine ⟨by show 0≤r.clock+1;omega,by show r.clock+1≤9999;omega,hg.w,hq,hf,fun hs=>?_⟩
  obtain ⟨e1,e2⟩:=hg.z hs
  refine ⟨e1,?_⟩
  show tkReq r d=[]
  unfold tkReq;rw [e2];rfl
 ·have hst:r.started=true:=by
   cases hs:r.started
   ·exfalso;apply hL;unfold tkLost;rw [(hg.z hs).2];rfl
   ·rfl
  rw [tickR_yes hL]
  obtain ⟨e1, -,e3, -⟩:=moved_at (t:=lostTrail (tkLost r)) hg.w
  have hs8:=(lost_gp hg hL).1
  have hgp:=@stepsN_gp r.window.next (lostTrail (tkLost r))
  have hw:goodRW (movedW r.window (lostTrail (tkLost r)))=true:=giveUp_good _ _ hg.w
  rw [←tick_needed hg hL]
  refine ⟨by show 0≤r.clock+1;omega,by show r.clock+1≤9999;omega,hw,needed_good (m:=(movedE r.window (lostTrail (tkLost r))).length) (by omega) hq hw e1,needed_free,fun hs=>?_⟩
  have:r.started=false:=hs
  rw [hst] at this;cases this
end Go.Proofs.YtgmbfohkpfineaaGreatDoor
namespace Go.Proofs.YtgmbfohkpfineaaGreatDoor

def zSrc:Source:=⟨⟨0,0,[]⟩,0,0,[]⟩
end Go.Proofs.YtgmbfohkpfineaaGreatDoor
namespace Go.Proofs.YtgmbfohkpfineaaGreatDoor
open Go.RowKit
structure SrcS where
 a:Option Addr
 c:Nat
 a2:Option Addr
 c2:Nat
 F:List Nat
def withW (x:Source) (W:SendWindow):Source:=⟨W,x.clock,x.quiet,keepH W x.holds⟩
structure GoodS (x:Source):Prop where
 w:goodWin x.window=true
 l:x.window.items.length≤6
 t0:0≤x.window.trail
 t1:x.window.trail≤65535
 k0:0≤x.clock
 k1:x.clock≤9999
 m:x.holds.length≤6
 n:∀h∈x.holds,isSer h.number=true
 u:∀h∈x.holds,x.clock+1≤h.untl
 b:∀h∈x.holds,h.untl≤x.clock+3
theorem goodS_of {x:Source} (h:goodSrc x=true):GoodS x:=by
 unfold goodSrc at h
 simp only [Bool.and_eq_true] at h
 obtain ⟨⟨⟨h1,h2⟩,h3⟩,h4⟩:=h
 obtain ⟨⟨t0,t1⟩,⟨s0,s1⟩,s2, -⟩:=goodWin_iff.1 h1
 obtain ⟨k0,k1⟩:=clk_bd h2
 have hc:∀h∈x.holds,isSer h.number=true∧x.clock+1≤h.untl∧h.untl≤x.clock+3:=fun h hh=>by
  obtain ⟨i,hi,rfl⟩:=List.getElem_of_mem hh
  have:=List.all_eq_true.1 h4 i (by simpa using hi)
  rw [chkH_at hi] at this
  simp only [Bool.and_eq_true,btw,decide_eq_true_eq] at this
  exact ⟨this.1.1.1,this.1.2.1,this.1.2.2⟩
 have hg:∀i,(hi:i < x.holds.length)→(i:Int)≤gp x.window.trail x.holds[i].number∧gp x.window.trail x.holds[i].number < 6:=by
  intro i
  induction i with
  | zero =>
   intro hi
   have:=List.all_eq_true.1 h4 0 (by simpa using hi)
   rw [chkH_at hi] at this
   simp only [Bool.and_eq_true,heldB,decide_eq_true_eq] at this
   have b:=gp_bd x.window.trail x.holds[0].number
   exact ⟨by omega,by have:=this.1.1.2;omega⟩
  | succ i ih =>
   intro hi
   have p:=ih (by omega)
   have:=List.all_eq_true.1 h4 (i+1) (by simpa using hi)
   rw [chkH_at hi] at this
   simp only [Bool.and_eq_true,heldB,decide_eq_true_eq,Bool.or_eq_true,Bool.not_eq_true',decide_eq_false_iff_not] at this
   have q:=this.2
   have q2:=this.1.1.2
   simp only [Nat.add_sub_cancel] at q
   rcases q with q|q
   ·omega
   ·exact ⟨by omega,by omega⟩
 have hm:x.holds.length≤6:=by
  by_cases h0:x.holds.length≤6
  ·exact h0
  ·have:=hg 6 (by omega);omega
 exact ⟨h1,by omega,t0,t1,k0,k1,hm,fun h hh=>(hc h hh).1,fun h hh=>(hc h hh).2.1,fun h hh=>(hc h hh).2.2⟩
def wideH (hs:List Hold):Prop:=∀h∈hs, -1≤h.number∧h.number≤65536
theorem wide_of {hs:List Hold} (hn:∀h∈hs,isSer h.number=true):wideH hs:=fun h hh=>by have:=isSer_iff.1 (hn h hh);omega
def keepU (W:SendWindow) (cl:Int) (hs:List Hold):List Hold:=hs.filter fun h=>heldB W h.number && decide (cl < h.untl)
theorem keepU_eq {W:SendWindow} {cl:Int} {hs:List Hold} (h:∀z∈hs,cl+1≤z.untl):keepU W cl hs=keepH W hs:=by
 unfold keepU keepH
 refine List.filter_congr fun z hz=>?_
 rw [decide_eq_true (show cl < z.untl by have:=h z hz;omega),Bool.and_true]
theorem rep_hold (h:Hold) (w:World):Flat EHold w [.int .i64 h.number,.int .i64 h.untl] [h] []:=⟨_,[],[],[],by simp,by simp,⟨rfl,rfl⟩,rfl,rfl⟩
structure HoS where
 k:Nat
 a:Option Addr
 c:Nat
 F:List Nat
theorem l11HoldsU_f (W:SendWindow) (hs:List Hold) (cl:Int) (v:Value) (a2:Option Addr) (c2:Nat) (F G:List Nat) (t0:0≤W.trail) (t1:W.trail≤65535) (hl:hs.length≤1000) (hn:wideH hs) :
  Fn Tryz.prog 212 [.slice a2 hs.length c2,v,.int .i64 cl] [.isv ESendWindow v W F,.sl EHold (.slice a2 hs.length c2) hs G] [] (fun (_:Option Addr × Nat × List Nat)=>True)
   (fun z=>.slice z.1 (keepU W cl hs).length z.2.1) (fun z=>[.ow EHold 194 (.slice z.1 (keepU W cl hs).length z.2.1) (keepU W cl hs) z.2.2]):=by
 refine enter Tryz.func212 rfl Tryz.ntmps212 fun w0=>?_
 refine openSendWindow ?_
 rintro a1 c1 F1 rfl l1
 refine go ?_;intros
 refine t_emp EHold ?_
 refine c_loopS [0,2,4,6] (fun s:HoS=>[(7,.slice s.a (keepU W cl (hs.take s.k)).length s.c),(8,.int .i64 s.k)]) (fun s=>[.ow EHold 194 (.slice s.a (keepU W cl (hs.take s.k)).length s.c) (keepU W cl (hs.take s.k)) s.F]) (fun s=>s.k≤hs.length) (fun s=>hs.length - s.k) ⟨0,_,0,_⟩ (Nat.zero_le _) fun s hk=>?_
 obtain ⟨k,a5,c5,F5⟩:=s
 dsimp only at hk ⊢
 refine go ?_;intros
 refine c_if rfl (fun h3=>?_) (fun h3=>?_)
 ·have hk3:k < hs.length:=by omega
  obtain ⟨n0,n1⟩:=hn hs[k] (List.getElem_mem hk3)
  have hkl:(keepU W cl (hs.take k)).length≤1000:=by have:=List.length_filter_le (fun h:Hold=>heldB W h.number && decide (cl < h.untl)) (hs.take k);unfold keepU;simp only [List.length_take] at this;omega
  refine atHold (xs:=hs) k ?_
  rintro hi b o e
  rw [e]
  cases g5:heldB W hs[k].number
  ·refine goN ?_;intros
   refine d_start [0,2] [] ?_
   refine dt4 0 1 2 3 ?_
   refine dt2 4 5 ?_
   refine dN 6 ?_
   refine oC ?_
   refine cb (fun w st=>(l9HeldW_f W hs[k].number _ _ t0 t1 n0 n1).val w (hol1 (st.get (p:=.isv ESendWindow (.agg #[.int .i64 W.trail,.int .i64 W.size,.slice a1 W.items.length c1]) W F) (by simp)))) ?_
   rw [g5]
   refine dk ?_
   refine dt 7 ?_
   refine ds 8 ?_
   refine ds 9 ?_
   refine ds 10 ?_
   refine ds 11 ?_
   refine ds 12 ?_
   refine ds 13 ?_
   refine ds 14 ?_
   refine dt 15 ?_
   refine dd ?_
   refine go ?_;intros
   have hf:keepU W cl (hs.take (k+1))=keepU W cl (hs.take k):=filter_take_no hk3 (by rw [g5];rfl)
   rw [←hf]
   refine n_lp ⟨k+1,a5,c5,F5⟩ hk3 (by show hs.length - (k+1) < _;omega)
  ·refine goN ?_;intros
   refine d_start [0,2] [] ?_
   refine dt4 0 1 2 3 ?_
   refine dt2 4 5 ?_
   refine dN 6 ?_
   refine oC ?_
   refine cb (fun w st=>(l9HeldW_f W hs[k].number _ _ t0 t1 n0 n1).val w (hol1 (st.get (p:=.isv ESendWindow (.agg #[.int .i64 W.trail,.int .i64 W.size,.slice a1 W.items.length c1]) W F) (by simp)))) ?_
   rw [g5]
   refine dk ?_
   refine dt 7 ?_
   refine dtg 8 ?_
   refine dtg 9 ?_
   refine dtg 10 ?_
   refine dtg 11 ?_
   refine dtg 12 ?_
   refine dtg 13 ?_
   refine dtg 14 ?_
   refine dt 15 ?_
   refine dd ?_
   refine go ?_;intros
   refine c_if rfl (fun h5=>?_) (fun h5=>?_)
   ·refine go ?_;intros
    apply wO
    refine ap1 (rep_hold hs[k]) one_EHold fun a6 c6 F6=>?_
    have hf:keepU W cl (hs.take (k+1))=keepU W cl (hs.take k)++[hs[k]]:=filter_take_yes hk3 (by rw [g5,decide_eq_true h5];rfl)
    rw [←hf]
    refine go ?_;intros
    refine n_lp ⟨k+1,a6,c6,F6⟩ hk3 (by show hs.length - (k+1) < _;omega)
   ·refine go ?_;intros
    have hf:keepU W cl (hs.take (k+1))=keepU W cl (hs.take k):=filter_take_no hk3 (by rw [g5,decide_eq_false h5];rfl)
    rw [←hf]
    refine n_lp ⟨k+1,a5,c5,F5⟩ hk3 (by show hs.length - (k+1) < _;omega)
 ·have hkl:k=hs.length:=by omega
  subst hkl
  rw [List.take_length]
  refine go ?_;intros
  refine ret (a5,c5,F5) trivial rfl
def withU (x:Source) (W:SendWindow):Source:=⟨W,x.clock,x.quiet,keepU W x.clock x.holds⟩
theorem withU_eq {x:Source} {W:SendWindow} (h:∀z∈x.holds,x.clock+1≤z.untl):withU x W=withW x W:=by unfold withU withW;rw [keepU_eq h]
theorem l11WithU_f (x:Source) (W:SendWindow) (v vw:Value) (F Fw:List Nat) (y0:0≤W.trail) (y1:W.trail≤65535) (hl:x.holds.length≤1000) (hn:wideH x.holds) :
  Fn Tryz.prog 135 [v,vw] [.isv ESource v x F,.isv ESendWindow vw W Fw] [] (fun (_:SrcS)=>True) (fun s=>.agg #[.int .i64 W.trail,.int .i64 W.size,.slice s.a W.items.length s.c,.int .i64 x.clock,.int .i64 x.quiet,.slice s.a2 (keepU W x.clock x.holds).length s.c2])
   (fun s=>[.isv ESource (.agg #[.int .i64 W.trail,.int .i64 W.size,.slice s.a W.items.length s.c,.int .i64 x.clock,.int .i64 x.quiet,.slice s.a2 (keepU W x.clock x.holds).length s.c2]) (withU x W) s.F]):=by
 refine enter Tryz.func135 rfl Tryz.ntmps135 fun w0=>?_
 refine openSource ?_
 rintro a1 c1 F1 a2 c2 F2 rfl l1 l2
 refine openSendWindow (x:=W) (F:=Fw) ?_
 rintro a3 c3 F3 rfl l3
 refine go ?_;intros
 refine d_start [1,2] [] ?_
 refine dt4 0 1 2 3 ?_
 refine dt4 4 5 6 7 ?_
 refine dt2 8 9 ?_
 refine dN 10 ?_
 refine oC ?_
 refine cf (l11HoldsU_f W x.holds x.clock _ a2 c2 Fw F2 y0 y1 (by omega) hn) fun z _=>?_
 refine t_app ?_
 refine dk ?_
 refine dt 11 ?_
 refine dN 12 ?_
 refine oS ?_
 refine dk ?_
 refine dd ?_
 refine go ?_;intros
 refine t_read (E:=EHold) fun F9=>?_
 refine closeSource (withU x W) ?_
 refine ret ⟨_,_,_,_,_⟩ trivial rfl
theorem l11With_f (x:Source) (W:SendWindow) (v vw:Value) (F Fw:List Nat) (y0:0≤W.trail) (y1:W.trail≤65535) (hl:x.holds.length≤1000) (hn:∀h∈x.holds,isSer h.number=true) (hu:∀h∈x.holds,x.clock+1≤h.untl) :
  Fn Tryz.prog 135 [v,vw] [.isv ESource v x F,.isv ESendWindow vw W Fw] [] (fun (_:SrcS)=>True) (fun s=>.agg #[.int .i64 W.trail,.int .i64 W.size,.slice s.a W.items.length s.c,.int .i64 x.clock,.int .i64 x.quiet,.slice s.a2 (keepH W x.holds).length s.c2])
   (fun s=>[.isv ESource (.agg #[.int .i64 W.trail,.int .i64 W.size,.slice s.a W.items.length s.c,.int .i64 x.clock,.int .i64 x.quiet,.slice s.a2 (keepH W x.holds).length s.c2]) (withW x W) s.F]):=by
 have h:=l11WithU_f x W v vw F Fw y0 y1 hl (wide_of hn)
 rw [withU_eq hu,keepU_eq hu] at h
 exact h
end Go.Proofs.YtgmbfohkpfineaaGreatDoor
namespace Go.Proofs.YtgmbfohkpfineaaGreatDoor

open Go.RowKit Go.Shelf
end Go.Proofs.YtgmbfohkpfineaaGreatDoor
namespace Go.Proofs.YtgmbfohkpfineaaGreatDoor
open Go.RowKit
theorem IsV.frame {α:Type} {E:Elem α} {w w':World} {v x F} (h:IsV E w v x F) (hF:∀b∈F,w'.heap[b]?=w.heap[b]?):IsV E w' v x F:=by
 obtain ⟨cs,hv,h⟩:=h;exact ⟨cs,hv,E.frame h hF⟩
theorem aft_aft (t n:Int):aft (aft t 1) (n - 1)=aft t n:=by unfold aft;omega
def roomed (x:SendWindow):SendWindow:=if (x.items.length:Int)=x.size then ⟨aft x.trail 1,x.size,x.items.drop 1⟩ else x
def pushedW (x:SendWindow) (s:ByteArray):SendWindow:=⟨(roomed x).trail,x.size,(roomed x).items++[s]⟩
def pushedP (x:SendWindow) (s:ByteArray):Packet:=⟨1,aft x.trail x.items.length,(roomed x).trail,aft (roomed x).trail ((roomed x).items.length+1),s⟩
theorem SendWindow_lead_c (t z:Int) (a:Option Addr) (n c:Nat) (w:World) (h0:0≤t) (h1:t≤65535) (hn:n≤4294967296) :
  Calls Tryz.prog 259 #[.agg #[.int .i64 t,.int .i64 z,.slice a n c]] w fun e w'=>e=.returned (.int .i64 (aft t n))∧Below w.heap.size w w':=by
 go_enter Tryz.func259,Tryz.ntmps259
 go_wp2_with fail
 refine (after_c _ _ _ (by omega) (by omega)).mono ?_
 rintro e w' ⟨rfl,rfl⟩
 go_wp2_with fail
 go_ret
 exact ⟨rfl,(Below.refl _ _).alloc (Nat.le_refl _) _⟩
theorem l9Lead_c (t z:Int) (a:Option Addr) (n c:Nat) (w:World) (h0:0≤t) (h1:t≤65535) (hn:n≤4294967296) :
  Calls Tryz.prog 222 #[.agg #[.int .i64 t,.int .i64 z,.slice a n c]] w fun e w'=>e=.returned (.int .i64 (aft t n))∧Below w.heap.size w w':=by
 go_enter Tryz.func222,Tryz.ntmps222
 go_wp2_with fail
 refine (l2After_c _ _ _ (by omega) (by omega)).mono ?_
 rintro e w' ⟨rfl,rfl⟩
 go_wp2_with fail
 go_ret
 exact ⟨rfl,(Below.refl _ _).alloc (Nat.le_refl _) _⟩
structure Link where
 queue:List ByteArray
 fates:ByteArray
 used:Int
end Go.Proofs.YtgmbfohkpfineaaGreatDoor
namespace Go.Proofs.YtgmbfohkpfineaaGreatDoor

open Go.RowKit Go.Shelf
end Go.Proofs.YtgmbfohkpfineaaGreatDoor
namespace Go.Proofs.YtgmbfohkpfineaaGreatDoor
open Go.RowKit
structure GoodL (x:Link):Prop where
 l:x.queue.length≤8
 q:∀s∈x.queue,s.size≤60
 f:x.fates.size≤40
 u0:0≤x.used
 u1:x.used≤x.fates.size
end Go.Proofs.YtgmbfohkpfineaaGreatDoor
namespace Go.Proofs.YtgmbfohkpfineaaGreatDoor

open Go.RowKit Go.Shelf
end Go.Proofs.YtgmbfohkpfineaaGreatDoor
namespace Go.Proofs.YtgmbfohkpfineaaGreatDoor
open Go.RowKit
section
variable {c:Cx} {fr:Fr} {H:List Pc} {Φ:Gl}
end
end Go.Proofs.YtgmbfohkpfineaaGreatDoor
namespace Go.Proofs.YtgmbfohkpfineaaGreatDoor

open Go.RowKit
end Go.Proofs.YtgmbfohkpfineaaGreatDoor
namespace Go.Proofs.YtgmbfohkpfineaaGreatDoor
open Go.RowKit
structure PuS where
 a:Option Addr
 c:Nat
 F:List Nat
theorem roomed_bd {x:SendWindow} (t0:0≤x.trail) (t1:x.trail≤65535):0≤(roomed x).trail∧(roomed x).trail≤65535:=by
 unfold roomed
 split
 ·exact aft_bd _ _
 ·exact ⟨t0,t1⟩
theorem Wdrop_f (x:SendWindow) (k:Nat) (g t o:Nat) (A B:List Value) (r1 r2 r3:Value) (a:Option Addr) (c:Nat) (F:List Nat) (hl:x.items.length≤6) (hk:k≤x.items.length) (t0:0≤x.trail) (t1:x.trail≤65535) :
  Fn Tryz.prog 260 [ptr g o 0,.int .i64 (k:Nat)] [] [.row g t o A [.int .i64 x.trail,.int .i64 x.size,.slice a x.items.length c,r1,r2,r3] B,.ow EStr 9 (.slice a x.items.length c) x.items F] (fun (_:PuS)=>True) (fun _=>.tuple #[]) (fun z=>[.row g t o A [.int .i64 (aft x.trail k),.int .i64 x.size,.slice z.a (x.items.drop k).length z.c,r1,r2,r3] B,.ow EStr 9 (.slice z.a (x.items.drop k).length z.c) (x.items.drop k) z.F]):=by
 refine enter Tryz.func260 rfl Tryz.ntmps260 fun w0=>?_
 refine t_read (E:=EStr) (xs:=x.items) fun Fr=>?_
 refine go ?_;intros
 apply wO
 refine sld k fun a2 c2 F2=>?_
 refine go ?_;intros
 refine cn (fun w st=>Clone_String _ _ _ _ (st.get (p:=.sl EStr (.slice a2 (x.items.drop k).length c2) (x.items.drop k) F2) (by exact memE)).2 (by rw [List.length_drop];omega)) fun a6 c6 F6=>?_
 refine go ?_;intros
 refine ce (fun w st=>after_c x.trail k w (by omega) (by omega)) ?_
 refine go ?_;intros
 refine t_fall ?_
 refine ret ⟨a6,c6,F6⟩ trivial rfl
theorem push_f (x:SendWindow) (s:ByteArray) (g t o:Nat) (A B:List Value) (r1 r2 r3:Value) (a:Option Addr) (c:Nat) (F:List Nat) (hl:x.items.length≤6) (ht:isSer x.trail=true) (hs:s.size≤maxLen) (hz:1≤x.size) :
  Fn Tryz.prog 191 [ptr g o 0,.string s] [] [.row g t o A [.int .i64 x.trail,.int .i64 x.size,.slice a x.items.length c,r1,r2,r3] B,.ow EStr 9 (.slice a x.items.length c) x.items F] (fun (_:PuS)=>True) (fun _=>.agg #[.int .i64 1,.int .i64 (pushedP x s).number,.int .i64 (pushedP x s).trail,.int .i64 (pushedP x s).lead,.string s])
   (fun z=>[.row g t o A [.int .i64 (pushedW x s).trail,.int .i64 (pushedW x s).size,.slice z.a (pushedW x s).items.length z.c,r1,r2,r3] B,.ow EStr 9 (.slice z.a (pushedW x s).items.length z.c) (pushedW x s).items z.F]):=by
 obtain ⟨t0,t1⟩:=isSer_iff.1 ht
 obtain ⟨R,hR⟩:∃R,roomed x=R:=⟨_,rfl⟩
 have hb:=roomed_bd t0 t1
 have hRl:R.items.length≤6:=by
  rw [←hR];unfold roomed
  split
  ·show (x.items.drop 1).length≤6;rw [List.length_drop];omega
  ·exact hl
 have hnum:aft R.trail R.items.length=aft x.trail x.items.length:=by
  rw [←hR];unfold roomed
  split
  ·rename_i h
   show aft (aft x.trail 1) ((x.items.drop 1).length:Nat)=_
   rw [List.length_drop,show ((x.items.length - 1:Nat):Int)=(x.items.length:Int) - 1 by omega,aft_aft]
  ·rfl
 rw [show pushedW x s=⟨R.trail,x.size,R.items++[s]⟩ by unfold pushedW;rw [hR],show pushedP x s=⟨1,aft x.trail x.items.length,R.trail,aft R.trail (R.items.length+1),s⟩ by unfold pushedP;rw [hR]]
 dsimp only
 rw [hR] at hb
 refine enter Tryz.func191 rfl Tryz.ntmps191 fun w0=>?_
 refine go ?_;intros
 refine cb (fun w st=>SendWindow_lead_c _ _ _ _ _ w t0 t1 (by omega)) ?_
 refine go ?_;intros
 refine d_start [1] [] ?_
 refine dt4 0 1 2 3 ?_
 refine dt4 4 5 6 7 ?_
 refine dt2 8 9 ?_
 refine dd ?_
 refine go ?_;intros
 refine c_joinS [0,1,4,5] [0] (fun _:PuS=>[]) (fun z=>[.row g t o A [.int .i64 R.trail,.int .i64 x.size,.slice z.a R.items.length z.c,r1,r2,r3] B,.ow EStr 9 (.slice z.a R.items.length z.c) R.items z.F]) (fun _=>True) ?_ fun z _=>?_
 ·refine c_if rfl (fun h1=>?_) (fun h1=>?_)
  ·have e:R=⟨aft x.trail 1,x.size,x.items.drop 1⟩:=by rw [←hR];unfold roomed;rw [if_pos h1]
   rw [e]
   refine go ?_;intros
   refine cf (Wdrop_f x 1 g t o A B _ _ _ a c F hl (by omega) t0 t1) fun z _=>?_
   refine t_app ?_
   refine go ?_;intros
   refine n_join z trivial
  ·have e:R=x:=by rw [←hR];unfold roomed;rw [if_neg h1]
   rw [e]
   refine go ?_;intros
   refine n_join ⟨a,c,F⟩ trivial
 refine go ?_;intros
 apply wO
 refine ap1 (E:=EStr) (ys:=[s]) (fun w=>⟨[.string s],[],[],[],rfl,rfl,⟨rfl,hs,rfl⟩,rfl,rfl⟩) one_EStr fun a7 c7 F7=>?_
 have hla:((R.items++[s]).length:Int)=R.items.length+1:=by simp
 refine go ?_;intros
 dsimp only [List.append]
 refine d_start [1] [] ?_
 refine dt4 0 1 2 3 ?_
 refine dt4 4 5 6 7 ?_
 refine dt 9 ?_
 refine dN 8 ?_
 refine oC ?_
 refine cb (fun w st=>SendWindow_lead_c _ _ _ _ _ w hb.1 hb.2 (by omega)) ?_
 refine dk ?_
 refine dt 10 ?_
 refine dN 11 ?_
 refine oS ?_
 refine dk ?_
 refine dd ?_
 refine go ?_;intros
 refine ret ⟨a7,c7,F7⟩ trivial ?_
 rw [hla];rfl
theorem l9DropO_f (x:SendWindow) (k:Nat) (v:Value) (F:List Nat) (hl:x.items.length≤4294967296) (hk:k≤x.items.length) (t0:0≤x.trail) (t1:x.trail≤65535) :
  Fn Tryz.prog 136 [v,.int .i64 (k:Nat)] [.isv ESendWindow v x F] [] (fun (_:PuS)=>True) (fun z=>.agg #[.int .i64 (aft x.trail k),.int .i64 x.size,.slice z.a (x.items.drop k).length z.c]) (fun z=>[.ow EStr 9 (.slice z.a (x.items.drop k).length z.c) (x.items.drop k) z.F]):=by
 refine enter Tryz.func136 rfl Tryz.ntmps136 fun w0=>?_
 refine openSendWindow ?_
 rintro a1 c1 F1 rfl l1
 have hdk:(x.items.drop k).length=x.items.length - k:=List.length_drop
 refine go ?_;intros
 refine d_start [1,2] [] ?_
 refine dt4 0 1 2 4 ?_
 refine dt4 5 7 8 9 ?_
 refine dsld 10 k fun a5 c5 F5=>?_
 refine dM 3 6 ?_ ?_
 ·refine oC ?_
  refine ce (fun w st=>l2After_c x.trail k w (by omega) (by omega)) ?_
  refine dk ?_
  refine dN 6 ?_
  apply o_bs0;rfl;intro _
  refine t_emp EStr ?_
  refine dk ?_
  refine dN 11 ?_
  refine aps (E:=EStr) (xs:=[]) (ys:=x.items.drop k) one_EStr scal_EStr fun a7 c7 F7=>?_
  rw [List.nil_append]
  refine dk ?_
  refine dt 12 ?_
  refine dN 13 ?_
  refine oS ?_
  refine dk ?_
  refine dd ?_
  refine go ?_;intros
  refine ret ⟨a7,c7,F7⟩ trivial rfl
 ·apply o_bs0;rfl;intro _
  refine t_emp EStr ?_
  refine dk ?_
  refine dN 3 ?_
  refine oC ?_
  refine ce (fun w st=>l2After_c x.trail k w (by omega) (by omega)) ?_
  refine dk ?_
  refine dN 11 ?_
  refine aps (E:=EStr) (xs:=[]) (ys:=x.items.drop k) one_EStr scal_EStr fun a7 c7 F7=>?_
  rw [List.nil_append]
  refine dk ?_
  refine dt 12 ?_
  refine dN 13 ?_
  refine oS ?_
  refine dk ?_
  refine dd ?_
  refine go ?_;intros
  refine ret ⟨a7,c7,F7⟩ trivial rfl
theorem l9Push_f (x:SendWindow) (s:ByteArray) (v:Value) (F:List Nat) (hl:x.items.length≤6) (t0:0≤x.trail) (t1:x.trail≤65535) (hs:s.size≤maxLen) (hz:1≤x.size) :
  Fn Tryz.prog 155 [v,.string s] [.isv ESendWindow v x F] [] (fun (_:Value × List Nat)=>True) (fun z=>.tuple #[z.1,.agg #[.int .i64 1,.int .i64 (pushedP x s).number,.int .i64 (pushedP x s).trail,.int .i64 (pushedP x s).lead,.string s]]) (fun z=>[.isv ESendWindow z.1 (pushedW x s) z.2]):=by
 have e0:aft x.trail ((0:Nat):Int)=x.trail:=by unfold aft;omega
 obtain ⟨R,hR⟩:∃R,roomed x=R:=⟨_,rfl⟩
 have hb:=roomed_bd t0 t1
 have hRl:R.items.length≤6:=by
  rw [←hR];unfold roomed
  split
  ·show (x.items.drop 1).length≤6;rw [List.length_drop];omega
  ·exact hl
 have hnum:aft R.trail R.items.length=aft x.trail x.items.length:=by
  rw [←hR];unfold roomed
  split
  ·rename_i h
   show aft (aft x.trail 1) ((x.items.drop 1).length:Nat)=_
   rw [List.length_drop,show ((x.items.length - 1:Nat):Int)=(x.items.length:Int) - 1 by omega,aft_aft]
  ·rfl
 rw [show pushedW x s=⟨R.trail,x.size,R.items++[s]⟩ by unfold pushedW;rw [hR],show pushedP x s=⟨1,aft x.trail x.items.length,R.trail,aft R.trail (R.items.length+1),s⟩ by unfold pushedP;rw [hR]]
 dsimp only
 rw [hR] at hb
 refine enter Tryz.func155 rfl Tryz.ntmps155 fun w0=>?_
 refine openSendWindow ?_
 rintro a1 c1 F1 rfl l1
 refine go ?_;intros
 refine cf (l9DropO_f x 0 _ F (by omega) (Nat.zero_le _) t0 t1) fun y _=>?_
 refine t_app ?_
 rw [e0,List.drop_zero]
 refine go ?_;intros
 rename_i g
 refine c_joinS [1,2,4,5,6] [2,3,4,5,6] (fun _:PuS=>[]) (fun z=>[.row g 41 0 [] [.int .i64 R.trail,.int .i64 x.size,.slice z.a R.items.length z.c] [],.ow EStr 9 (.slice z.a R.items.length z.c) R.items z.F]) (fun _=>True) ?_ fun z _=>?_
 ·refine c_if rfl (fun h1=>?_) (fun h1=>?_)
  ·have e:R=⟨aft x.trail 1,x.size,x.items.drop 1⟩:=by rw [←hR];unfold roomed;rw [if_pos h1]
   rw [e]
   refine go ?_;intros
   refine cf (l9DropO_f x 1 _ F (by omega) (by omega) t0 t1) fun z _=>?_
   refine t_app ?_
   refine go ?_;intros
   refine n_join z trivial
  ·have e:R=x:=by rw [←hR];unfold roomed;rw [if_neg h1]
   rw [e]
   refine go ?_;intros
   refine n_join ⟨y.a,y.c,y.F⟩ trivial
 refine go ?_;intros
 refine cb (fun w st=>l9Lead_c _ _ _ _ _ w hb.1 hb.2 (by omega)) ?_
 rw [hnum]
 refine go ?_;intros
 apply wO
 refine ap1 (E:=EStr) (ys:=[s]) (fun w=>⟨[.string s],[],[],[],rfl,rfl,⟨rfl,hs,rfl⟩,rfl,rfl⟩) one_EStr fun a7 c7 F7=>?_
 have hla:((R.items++[s]).length:Int)=R.items.length+1:=by simp
 refine go ?_;intros
 dsimp only [List.append]
 refine d_start [1] [] ?_
 refine dt4 0 1 2 3 ?_
 refine dt2 4 6 ?_
 refine dN 5 ?_
 refine oC ?_
 refine cb (fun w st=>l9Lead_c _ _ _ _ _ w hb.1 hb.2 (by omega)) ?_
 refine dk ?_
 refine dt 7 ?_
 refine dN 8 ?_
 refine oS ?_
 refine dk ?_
 refine dN 9 ?_
 refine oS ?_
 refine dk ?_
 refine dd ?_
 refine t_read (E:=EStr) (xs:=R.items++[s]) fun F8=>?_
 refine closeSendWindow ⟨R.trail,x.size,R.items++[s]⟩ ?_
 refine go ?_;intros
 refine ret (_,_) trivial ?_
 rw [hla];rfl
structure SeS where
 a:Option Addr
 c:Nat
 F:List Nat
 a2:Option Addr
 c2:Nat
 F2:List Nat
theorem Ssend_f (x:SendWindow) (s:ByteArray) (hs:List Hold) (g t o:Nat) (A B:List Value) (a a2:Option Addr) (c c2:Nat) (cl q:Int) (F F2:List Nat) (hl:x.items.length≤6) (t0:0≤x.trail) (t1:x.trail≤65535) (hss:s.size≤maxLen) (hz:1≤x.size) (hn:∀h∈hs,isSer h.number=true) :
  Fn Tryz.prog 104 [ptr g o 0,.string s] [] [.row g t o A [.int .i64 x.trail,.int .i64 x.size,.slice a x.items.length c,.int .i64 cl,.int .i64 q,.slice a2 hs.length c2] B,.ow EHold 194 (.slice a2 hs.length c2) hs F2,.ow EStr 9 (.slice a x.items.length c) x.items F] (fun (_:SeS)=>True) (fun _=>.agg #[.int .i64 1,.int .i64 (pushedP x s).number,.int .i64 (pushedP x s).trail,.int .i64 (pushedP x s).lead,.string s])
   (fun z=>[.row g t o A [.int .i64 (pushedW x s).trail,.int .i64 (pushedW x s).size,.slice z.a (pushedW x s).items.length z.c,.int .i64 cl,.int .i64 0,.slice z.a2 (keepH (pushedW x s) hs).length z.c2] B,.ow EHold 194 (.slice z.a2 (keepH (pushedW x s) hs).length z.c2) (keepH (pushedW x s) hs) z.F2,.ow EStr 9 (.slice z.a (pushedW x s).items.length z.c) (pushedW x s).items z.F]):=by
 have hb:=roomed_bd t0 t1
 refine enter Tryz.func104 rfl Tryz.ntmps104 fun w0=>?_
 refine go ?_;intros
 refine cf (push_f x s g t o A B _ _ _ a c F hl (isSer_iff.2 ⟨t0,t1⟩) hss hz) fun z _=>?_
 refine t_app ?_
 refine go ?_;intros
 refine cf (keepHolds_f (pushedW x s) hs g t o A B z.a a2 z.c c2 cl 0 z.F F2 hb.1 hb.2 hn) fun y _=>?_
 refine t_app ?_
 refine go ?_;intros
 refine ret ⟨z.a,z.c,z.F,y.1,y.2.1,y.2.2⟩ trivial rfl
def sentS (x:Source) (s:ByteArray):Source:=⟨pushedW x.window s,x.clock,0,keepH (pushedW x.window s) x.holds⟩
def zPk:Packet:=⟨0,0,0,0,⟨#[]⟩⟩
def okPushItem (x:SendWindow) (s:ByteArray):Bool:=goodWin x && itm s
end Go.Proofs.YtgmbfohkpfineaaGreatDoor
namespace Go.Proofs.YtgmbfohkpfineaaGreatDoor

open Go.RowKit
end Go.Proofs.YtgmbfohkpfineaaGreatDoor
namespace Go.Proofs.YtgmbfohkpfineaaGreatDoor
open Go.RowKit
def leadW (x:SendWindow):Int:=aft x.trail x.items.length
def itemAt (x:SendWindow) (n:Int):ByteArray:=x.items.getD (gp x.trail n).toNat ⟨#[]⟩
def okHeld (x:SendWindow) (n:Int):Bool:=goodWin x && isSer n && heldB x n
def statP (x:SendWindow):Packet:=⟨5,x.trail,x.trail,leadW x,⟨#[]⟩⟩
def okAnswer (x:SendWindow) (p:Packet):Bool:=goodWin x && goodPk p && decide (p.kind=3) && heldB x p.number
def ansP (x:SendWindow) (n:Int):Packet:=⟨2,n,x.trail,leadW x,itemAt x n⟩
def resAnswer (x:SendWindow) (p:Packet):Packet × Bool:=if okAnswer x p then (ansP x p.number,true) else (zPk,false)
theorem leadW_bd (x:SendWindow):0≤leadW x∧leadW x≤65535:=aft_bd _ _
theorem roomed_lead {x:SendWindow} (h1:1≤x.size):leadW (roomed x)=leadW x:=by
 unfold roomed
 split
 ·rename_i h
  unfold leadW
  simp only [List.length_drop]
  unfold aft
  omega
 ·rfl
theorem pushed_law {x:SendWindow} {s:ByteArray} (h:okPushItem x s=true):goodWin x=true∧goodWin (pushedW x s)=true∧okHeld (pushedW x s) (pushedP x s).number=true∧itemAt (pushedW x s) (pushedP x s).number=s∧(pushedP x s).number=leadW x∧gp (leadW x) (leadW (pushedW x s))=1∧(pushedP x s).lead=leadW (pushedW x s)∧(pushedP x s).trail=(pushedW x s).trail:=by
 unfold okPushItem at h
 simp only [Bool.and_eq_true] at h
 obtain ⟨hg,hs⟩:=h
 obtain ⟨⟨t0,t1⟩,⟨z0,z1⟩,hl,hi⟩:=goodWin_iff.1 hg
 have hr:0≤(roomed x).trail∧(roomed x).trail≤65535:=roomed_bd t0 t1
 have hn:((roomed x).items.length:Int)+1≤x.size∧(roomed x).items.all itm=true:=by
  unfold roomed
  split
  ·rename_i h
   refine ⟨by simp only [List.length_drop];omega,?_⟩
   rw [List.all_eq_true] at hi ⊢
   exact fun z hz=>hi z (List.mem_of_mem_drop hz)
  ·exact ⟨by omega,hi⟩
 have hlead:=roomed_lead (x:=x) z0
 have hgo:goodWin (pushedW x s)=true:=by
  refine goodWin_iff.2 ⟨hr,⟨z0,z1⟩,?_,?_⟩
  ·show (((roomed x).items++[s]).length:Int)≤x.size
   simp only [List.length_append,List.length_cons,List.length_nil];omega
  ·show ((roomed x).items++[s]).all itm=true
   simp [hn.2,hs]
 have hnum:(pushedP x s).number=leadW x:=rfl
 have hgap:gp (pushedW x s).trail (leadW x)=((roomed x).items.length:Nat):=by
  rw [←hlead]
  show gp (roomed x).trail (leadW (roomed x))=_
  unfold leadW gp aft
  omega
 have b:=leadW_bd x
 refine ⟨hg,hgo,?_,?_,rfl,?_,?_,rfl⟩
 ·unfold okHeld
  rw [hgo,hnum,isSer_iff.2 b,heldB,hgap]
  show decide (((roomed x).items.length:Int) < (((roomed x).items++[s]).length:Nat))=true
  simp only [List.length_append,List.length_cons,List.length_nil,decide_eq_true_eq]
  omega
 ·unfold itemAt
  rw [hnum,hgap]
  show ((roomed x).items++[s]).getD _ _=s
  simp
 ·rw [←hlead]
  show gp (leadW (roomed x)) (aft (roomed x).trail (((roomed x).items++[s]).length:Nat))=1
  unfold leadW gp aft
  simp only [List.length_append,List.length_cons,List.length_nil]
  omega
 ·show aft (roomed x).trail (((roomed x).items.length:Nat)+1)=aft (roomed x).trail ((((roomed x).items++[s]).length:Nat))
  simp
theorem status_f (t z:Int) (a:Option Addr) (n c:Nat) (h0:0≤t) (h1:t≤65535) (hn:n≤4294967296):Fn Tryz.prog 203 [.agg #[.int .i64 t,.int .i64 z,.slice a n c]] [] [] (fun (_:Unit)=>True) (fun _=>.agg #[.int .i64 5,.int .i64 t,.int .i64 t,.int .i64 (aft t n),.string ⟨#[]⟩]) (fun _=>[]):=by
 refine enter Tryz.func203 rfl Tryz.ntmps203 fun w0=>?_
 refine go ?_;intros
 refine d_start [1] [7] ?_
 refine dt4 0 1 2 3 ?_
 refine dt 4 ?_
 refine dN 5 ?_
 refine oC ?_
 refine cb (fun w _=>SendWindow_lead_c t z a n c w h0 h1 hn) ?_
 refine dk ?_
 refine dt 6 ?_
 refine dN 7 ?_
 refine oS ?_
 refine dkx ?_
 refine dd ?_
 refine go ?_;intros
 refine ret () trivial rfl
theorem l9Status_f (t z:Int) (a:Option Addr) (n c:Nat) (h0:0≤t) (h1:t≤65535) (hn:n≤4294967296):Fn Tryz.prog 223 [.agg #[.int .i64 t,.int .i64 z,.slice a n c]] [] [] (fun (_:Unit)=>True) (fun _=>.agg #[.int .i64 5,.int .i64 t,.int .i64 t,.int .i64 (aft t n),.string ⟨#[]⟩]) (fun _=>[]):=by
 refine enter Tryz.func223 rfl Tryz.ntmps223 fun w0=>?_
 refine go ?_;intros
 refine d_start [1] [7] ?_
 refine dt4 0 1 2 3 ?_
 refine dt 4 ?_
 refine dN 5 ?_
 refine oC ?_
 refine cb (fun w _=>l9Lead_c t z a n c w h0 h1 hn) ?_
 refine dk ?_
 refine dt 6 ?_
 refine dN 7 ?_
 refine oS ?_
 refine dkx ?_
 refine dd ?_
 refine go ?_;intros
 refine ret () trivial rfl
def keepT (cl:Int) (hs:List Hold):List Hold:=hs.filter fun h=>!decide (h.untl≤cl)
def tickQ (q:Int):Int:=if q+1 < 4 then q+1 else 0
def tickP (x:SendWindow) (q:Int):List Packet:=if q+1 < 4 then [] else [statP x]
def tickS (x:Source):Source:=⟨x.window,x.clock+1,tickQ x.quiet,keepT (x.clock+1) x.holds⟩
theorem quiet_bd {x:Source} (h:goodSrc x=true):0≤x.quiet∧x.quiet≤3:=by
 unfold goodSrc btw at h
 simp only [Bool.and_eq_true,decide_eq_true_eq] at h
 exact h.1.2
theorem good_held {x:Source} (h:goodSrc x=true):∀z∈x.holds,heldB x.window z.number=true:=fun z hz=>by
 unfold goodSrc at h
 simp only [Bool.and_eq_true] at h
 obtain ⟨i,hi,rfl⟩:=List.getElem_of_mem hz
 have:=List.all_eq_true.1 h.2 i (by simpa using hi)
 rw [chkH_at hi] at this
 simp only [Bool.and_eq_true] at this
 exact this.1.1.2
structure TiS where
 a:Option Addr
 c:Nat
 a2:Option Addr
 c2:Nat
 F:List Nat
 ae:Option Addr
 ce:Nat
 Fe:List Nat
theorem tick1_f (h:Hold) (gb g o:Nat) (u v0 v1 v2 q Hs:Value) (cl:Int) (G:List Nat) :
  Fn Tryz.prog 202 [u,ptr gb 0 0] [.isv EHold u h G,.cel gb 0 [ptr g o 0],.cel g o [v0,v1,v2,.int .i64 cl,q,Hs]] [] (fun (_:Unit)=>True) (fun _=>.bool (decide (h.untl≤cl))) (fun _=>[]):=by
 refine enter Tryz.func202 rfl Tryz.ntmps202 fun w0=>?_
 refine openHold ?_
 rintro _ rfl
 refine go ?_;intros
 refine d_start [0,2,3] [] ?_
 refine dt4 0 1 2 3 ?_
 refine dt4 4 5 6 7 ?_
 refine dd ?_
 refine go ?_;intros
 refine ret () trivial rfl
theorem tickD_f (hs:List Hold) (gb tb g t o:Nat) (A B:List Value) (v0 v1 v2:Value) (v3:Value) (a2:Option Addr) (c2:Nat) (cl q:Int) (F2:List Nat) :
  Fn Tryz.prog 201 [.slice a2 hs.length c2,.func (.func 202) #[] #[ptr gb 0 0]] [] [.ow EHold 194 (.slice a2 hs.length c2) hs F2,.row gb tb 0 [] [ptr g o 0] [],.row g t o A [v0,v1,v2,.int .i64 cl,.int .i64 q,v3] B] (fun (_:Option Addr × Nat × List Nat)=>True)
   (fun z=>.slice z.1 (keepT cl hs).length z.2.1) (fun z=>[.ow EHold 194 (.slice z.1 (keepT cl hs).length z.2.1) (keepT cl hs) z.2.2,.row gb tb 0 [] [ptr g o 0] [],.row g t o A [v0,v1,v2,.int .i64 cl,.int .i64 q,v3] B]):=by
 refine fn_lib rfl fun w ⟨hnd,ho⟩ _ hk=>?_
 refine (DeleteFunc_Hold _ (body_of (by kernel_rfl)) #[ptr gb 0 0] _ hs F2 (fun h=>decide (h.untl≤cl)) w ho hnd fun k hk2 wr u G hK hu=>?_).mono ?_
 ·have hr:=hk wr hK
  have r1:=hr (.row gb tb 0 [] [ptr g o 0] []) (by simp)
  have r2:=hr (.row g t o A [v0,v1,v2,.int .i64 cl,.int .i64 q,v3] B) (by simp)
  refine (tick1_f hs[k] gb g o u v0 v1 v2 (.int .i64 q) v3 cl G).val wr ?_
  intro p hp
  simp only [List.mem_cons,List.not_mem_nil,or_false] at hp
  rcases hp with rfl|rfl|rfl
  ·exact hu
  ·exact ⟨by simp,row_range r1⟩
  ·exact ⟨by simp,row_range r2⟩
 ·rintro e w' ⟨v',F',rfl,h1,h2,h3,h4⟩
  have e:(hs.filter fun x=>!(fun h:Hold=>decide (h.untl≤cl)) x)=keepT cl hs:=rfl
  rw [e] at h1
  obtain ⟨a',c',rfl⟩:=h1.slice
  exact ⟨(a',c',F'),trivial,rfl,⟨h2,h1⟩,fun b hb=>.inl (h3 b hb),h4⟩
theorem Stick_f (W:SendWindow) (hs:List Hold) (g t o:Nat) (A B:List Value) (a a2:Option Addr) (c c2:Nat) (cl q:Int) (F2:List Nat) (t0:0≤W.trail) (t1:W.trail≤65535) (hl:W.items.length≤6) (k0:0≤cl) (k1:cl≤9999) (q0:0≤q) (q3:q≤3) :
  Fn Tryz.prog 127 [ptr g o 0] [] [.row g t o A [.int .i64 W.trail,.int .i64 W.size,.slice a W.items.length c,.int .i64 cl,.int .i64 q,.slice a2 hs.length c2] B,.ow EHold 194 (.slice a2 hs.length c2) hs F2] (fun (_:TiS)=>True)
   (fun z=>.slice z.ae (tickP W q).length z.ce) (fun z=>[.row g t o A [.int .i64 W.trail,.int .i64 W.size,.slice a W.items.length c,.int .i64 (cl+1),.int .i64 (tickQ q),.slice z.a2 (keepT (cl+1) hs).length z.c2] B,.ow EHold 194 (.slice z.a2 (keepT (cl+1) hs).length z.c2) (keepT (cl+1) hs) z.F,.ow EPacket 127 (.slice z.ae (tickP W q).length z.ce) (tickP W q) z.Fe]):=by
 refine enter Tryz.func127 rfl Tryz.ntmps127 fun w0=>?_
 refine go ?_;intros
 refine d_start [0,1] [9] ?_
 refine dt4 0 1 2 3 ?_
 refine dt2 4 5 ?_
 refine dN 6 ?_
 refine oC ?_
 refine cf (tickD_f hs _ _ g t o A B _ _ _ _ a2 c2 (cl+1) q F2) fun z _=>?_
 refine t_app ?_
 refine dk ?_
 refine dt2 7 8 ?_
 refine dN 9 ?_
 refine oS ?_
 refine dkx ?_
 refine dd ?_
 refine go ?_;intros
 refine c_if rfl (fun h1=>?_) (fun h1=>?_)
 ·refine t_nilow EPacket 127 ?_
  refine go ?_;intros
  rw [show tickQ q=q+1 from if_pos h1,show tickP W q=[] from if_pos h1]
  refine ret ⟨none,0,z.1,z.2.1,z.2.2,none,0,[]⟩ trivial rfl
 ·refine go ?_;intros
  refine cf (status_f W.trail W.size a W.items.length c t0 t1 (by omega)) fun _ _=>?_
  refine t_app ?_
  refine go ?_;intros
  refine t_row (xs:=[statP W]) (flatPacket _ (by show (⟨#[]⟩:ByteArray).size≤maxLen;decide)) ?_ (by simp)
  rw [show tickQ q=0 from if_neg h1,show tickP W q=[statP W] from if_neg h1]
  refine ret ⟨none,0,z.1,z.2.1,z.2.2,_,_,_⟩ trivial rfl
theorem l9Drop0_f (x:SendWindow) (v:Value) (F:List Nat) (t0:0≤x.trail) (t1:x.trail≤65535) (hl:x.items.length≤4294967296):Fn Tryz.prog 136 [v,.int .i64 0] [.isv ESendWindow v x F] [] (fun (_:Value × List Nat)=>True) (fun s=>s.1) (fun s=>[.own OSendWindow s.1 x s.2]):=by
 have e0:aft x.trail ((0:Nat):Int)=x.trail:=by unfold aft;omega
 have h:=l9DropO_f x 0 v F hl (Nat.zero_le _) t0 t1
 rw [e0,List.drop_zero] at h
 refine fn_made fun w hA=>(h.made w hA (fun _=>rfl)).mono ?_
 rintro e w' ⟨z, -,he,hh,hn,hF,hB⟩
 obtain ⟨h1,h2⟩:=hh (.ow EStr 9 (.slice z.a x.items.length z.c) x.items z.F) (by simp)
 exact ⟨(_,z.F),trivial,he,⟨h1,_,rfl,_,rfl,h2⟩,fun b hb=>hF b (by simpa [fp,Pc.F,Pc.mu] using hb),hB⟩
theorem keepU_T {W:SendWindow} {cl:Int} {hs:List Hold} (h:∀z∈hs,heldB W z.number=true):keepU W cl hs=keepT cl hs:=by
 unfold keepU keepT
 refine List.filter_congr fun z hz=>?_
 rw [h z hz,Bool.true_and]
 by_cases hc:cl < z.untl
 ·rw [decide_eq_true hc,decide_eq_false (by omega)];rfl
 ·rw [decide_eq_false hc,decide_eq_true (by omega)];rfl
def tickU (x:Source):Source:=⟨x.window,x.clock+1,tickQ x.quiet,keepU x.window (x.clock+1) x.holds⟩
theorem l11TickU_f (x:Source) (v:Value) (F:List Nat) (t0:0≤x.window.trail) (t1:x.window.trail≤65535) (hl:x.window.items.length≤6) (k0:0≤x.clock) (k1:x.clock≤99999) (q0:0≤x.quiet) (q3:x.quiet≤3) (hm:x.holds.length≤1000) (hn:wideH x.holds) :
  Fn Tryz.prog 157 [v] [.isv ESource v x F] [] (fun (_:TiS)=>True) (fun s=>.tuple #[.agg #[.int .i64 (tickU x).window.trail,.int .i64 (tickU x).window.size,.slice s.a (tickU x).window.items.length s.c,.int .i64 (tickU x).clock,.int .i64 (tickU x).quiet,.slice s.a2 (tickU x).holds.length s.c2],.slice s.ae (tickP x.window x.quiet).length s.ce])
   (fun s=>[.isv ESource (.agg #[.int .i64 (tickU x).window.trail,.int .i64 (tickU x).window.size,.slice s.a (tickU x).window.items.length s.c,.int .i64 (tickU x).clock,.int .i64 (tickU x).quiet,.slice s.a2 (tickU x).holds.length s.c2]) (tickU x) s.F,.ow EPacket 127 (.slice s.ae (tickP x.window x.quiet).length s.ce) (tickP x.window x.quiet) s.Fe]):=by
 refine enter Tryz.func157 rfl Tryz.ntmps157 fun w0=>?_
 refine openSource ?_
 rintro a1 c1 F1 a2 c2 F2 rfl l1 l2
 refine closeSendWindow x.window (a1:=a1) ?_
 refine go ?_;intros
 refine cf (l9Drop0_f x.window _ F1 t0 t1 (by omega)) fun y _=>?_
 refine t_app ?_
 refine openOSendWindow ?_
 rintro a5 c5 F5 e5 l5
 rw [e5]
 have hH:=fun v a c F G=>l11HoldsU_f x.window x.holds (x.clock+1) v a c F G t0 t1 (by omega) hn
 refine go ?_;intros
 refine t_read (xs:=x.window.items) fun F8=>?_
 refine closeSendWindow x.window (a1:=a5) ?_
 refine d_start [2,4] [] ?_
 refine dt4 0 1 2 3 ?_
 refine dt4 4 5 6 7 ?_
 refine dt4 8 9 10 11 ?_
 refine dt 12 ?_
 refine dM 13 15 ?_ ?_
 ·refine oC ?_
  refine cf (hH _ a2 c2 _ _) fun z _=>?_
  refine t_app ?_
  refine dk ?_
  refine dt 14 ?_
  refine dN 15 ?_
  apply o_alloc;rfl;intro _
  refine dk ?_
  refine dN 16 ?_
  refine oS ?_
  refine dk ?_
  refine dd ?_
  refine go ?_;intros
  refine c_if rfl (fun h1=>?_) (fun h1=>?_)
  ·rw [show tickU x=⟨x.window,x.clock+1,0,keepU x.window (x.clock+1) x.holds⟩ from by unfold tickU tickQ;rw [if_neg (by omega)],show tickP x.window x.quiet=[statP x.window] from if_neg (by omega)]
   refine go ?_;intros
   refine t_read (E:=EHold) fun F9=>?_
   refine closeSource ⟨x.window,x.clock+1,0,keepU x.window (x.clock+1) x.holds⟩ (a1:=a5) ?_
   refine d_start [2,5] [] ?_
   refine dt2 0 1 ?_
   refine dN 2 ?_
   refine oC ?_
   refine cf (l9Status_f x.window.trail x.window.size _ x.window.items.length _ t0 t1 (by omega)) fun _ _=>?_
   refine t_app ?_
   refine dk ?_
   refine dM 3 4 ?_ ?_
   ·apply o_bs;rfl;rfl;rfl;rfl;exact rptE;exact filE;intro _
    refine dk ?_
    refine dN 4 ?_
    refine oS ?_
    refine dk ?_
    refine dt 5 ?_
    refine dd ?_
    refine go ?_;intros
    refine t_row (xs:=[statP x.window]) (flatPacket _ (by show (⟨#[]⟩:ByteArray).size≤maxLen;decide)) ?_ (by simp)
    refine ret ⟨_,_,_,_,_,_,_,_⟩ trivial rfl
   ·refine oS ?_
    refine dk ?_
    refine dN 3 ?_
    apply o_bs;rfl;rfl;rfl;rfl;exact rptE;exact filE;intro _
    refine dk ?_
    refine dt 5 ?_
    refine dd ?_
    refine go ?_;intros
    refine t_row (xs:=[statP x.window]) (flatPacket _ (by show (⟨#[]⟩:ByteArray).size≤maxLen;decide)) ?_ (by simp)
    refine ret ⟨_,_,_,_,_,_,_,_⟩ trivial rfl
  ·rw [show tickU x=⟨x.window,x.clock+1,x.quiet+1,keepU x.window (x.clock+1) x.holds⟩ from by unfold tickU tickQ;rw [if_pos (by omega)],show tickP x.window x.quiet=[] from if_pos (by omega)]
   refine go ?_;intros
   refine t_emp EPacket ?_
   refine t_read (E:=EHold) fun F9=>?_
   refine closeSource ⟨x.window,x.clock+1,x.quiet+1,keepU x.window (x.clock+1) x.holds⟩ (a1:=a5) ?_
   refine ret ⟨_,_,_,_,_,_,_,_⟩ trivial rfl
 ·apply o_alloc;rfl;intro _
  refine dk ?_
  refine dN 13 ?_
  refine oC ?_
  refine cf (hH _ a2 c2 _ _) fun z _=>?_
  refine t_app ?_
  refine dk ?_
  refine dt 14 ?_
  refine dN 16 ?_
  refine oS ?_
  refine dk ?_
  refine dd ?_
  refine go ?_;intros
  refine c_if rfl (fun h1=>?_) (fun h1=>?_)
  ·rw [show tickU x=⟨x.window,x.clock+1,0,keepU x.window (x.clock+1) x.holds⟩ from by unfold tickU tickQ;rw [if_neg (by omega)],show tickP x.window x.quiet=[statP x.window] from if_neg (by omega)]
   refine go ?_;intros
   refine t_read (E:=EHold) fun F9=>?_
   refine closeSource ⟨x.window,x.clock+1,0,keepU x.window (x.clock+1) x.holds⟩ (a1:=a5) ?_
   refine d_start [2,5] [] ?_
   refine dt2 0 1 ?_
   refine dN 2 ?_
   refine oC ?_
   refine cf (l9Status_f x.window.trail x.window.size _ x.window.items.length _ t0 t1 (by omega)) fun _ _=>?_
   refine t_app ?_
   refine dk ?_
   refine dM 3 4 ?_ ?_
   ·apply o_bs;rfl;rfl;rfl;rfl;exact rptE;exact filE;intro _
    refine dk ?_
    refine dN 4 ?_
    refine oS ?_
    refine dk ?_
    refine dt 5 ?_
    refine dd ?_
    refine go ?_;intros
    refine t_row (xs:=[statP x.window]) (flatPacket _ (by show (⟨#[]⟩:ByteArray).size≤maxLen;decide)) ?_ (by simp)
    refine ret ⟨_,_,_,_,_,_,_,_⟩ trivial rfl
   ·refine oS ?_
    refine dk ?_
    refine dN 3 ?_
    apply o_bs;rfl;rfl;rfl;rfl;exact rptE;exact filE;intro _
    refine dk ?_
    refine dt 5 ?_
    refine dd ?_
    refine go ?_;intros
    refine t_row (xs:=[statP x.window]) (flatPacket _ (by show (⟨#[]⟩:ByteArray).size≤maxLen;decide)) ?_ (by simp)
    refine ret ⟨_,_,_,_,_,_,_,_⟩ trivial rfl
  ·rw [show tickU x=⟨x.window,x.clock+1,x.quiet+1,keepU x.window (x.clock+1) x.holds⟩ from by unfold tickU tickQ;rw [if_pos (by omega)],show tickP x.window x.quiet=[] from if_pos (by omega)]
   refine go ?_;intros
   refine t_emp EPacket ?_
   refine t_read (E:=EHold) fun F9=>?_
   refine closeSource ⟨x.window,x.clock+1,x.quiet+1,keepU x.window (x.clock+1) x.holds⟩ (a1:=a5) ?_
   refine ret ⟨_,_,_,_,_,_,_,_⟩ trivial rfl
theorem tickU_eq {x:Source} (hg:goodSrc x=true):tickU x=tickS x:=by unfold tickU tickS;rw [keepU_T (good_held hg)]
theorem l11Tick_f (x:Source) (v:Value) (F:List Nat) (hg:goodSrc x=true) :
  Fn Tryz.prog 157 [v] [.isv ESource v x F] [] (fun (_:TiS)=>True) (fun s=>.tuple #[.agg #[.int .i64 (tickS x).window.trail,.int .i64 (tickS x).window.size,.slice s.a (tickS x).window.items.length s.c,.int .i64 (tickS x).clock,.int .i64 (tickS x).quiet,.slice s.a2 (tickS x).holds.length s.c2],.slice s.ae (tickP x.window x.quiet).length s.ce])
   (fun s=>[.isv ESource (.agg #[.int .i64 (tickS x).window.trail,.int .i64 (tickS x).window.size,.slice s.a (tickS x).window.items.length s.c,.int .i64 (tickS x).clock,.int .i64 (tickS x).quiet,.slice s.a2 (tickS x).holds.length s.c2]) (tickS x) s.F,.ow EPacket 127 (.slice s.ae (tickP x.window x.quiet).length s.ce) (tickP x.window x.quiet) s.Fe]):=by
 obtain ⟨gw,hl,t0,t1,k0,k1,hm,hn,hu,hb⟩:=goodS_of hg
 obtain ⟨q0,q3⟩:=quiet_bd hg
 have h:=l11TickU_f x v F t0 t1 hl k0 (by omega) q0 q3 (by omega) (wide_of hn)
 rw [tickU_eq hg] at h
 exact h
theorem resAnswer_no {x:SendWindow} {p:Packet} (h:okAnswer x p=false):resAnswer x p=(zPk,false):=by unfold resAnswer;rw [h];rfl
theorem resAnswer_yes {x:SendWindow} {p:Packet} (h:okAnswer x p=true):resAnswer x p=(ansP x p.number,true):=by unfold resAnswer;rw [h];rfl
theorem held_lt {x:SendWindow} {n:Int} (h:heldB x n=true):(gp x.trail n).toNat < x.items.length:=by
 have b:=gp_bd x.trail n
 unfold heldB at h
 simp only [decide_eq_true_eq] at h
 omega
theorem itemAt_lt {x:SendWindow} {n:Int} (h:(gp x.trail n).toNat < x.items.length):itemAt x n=x.items[(gp x.trail n).toNat]:=by
 unfold itemAt
 rw [List.getD_eq_getElem?_getD,List.getElem?_eq_getElem h];rfl
theorem AnswerTo_f (x:SendWindow) (p:Packet) (v:Value) (F:List Nat) (hs:p.data.size≤maxLen):Fn Tryz.prog 308 [v,.agg #[.int .i64 p.kind,.int .i64 p.number,.int .i64 p.trail,.int .i64 p.lead,.string p.data]] [.isv ESendWindow v x F] [] (fun (_:Unit)=>True) (fun _=>.tuple #[.agg #[.int .i64 (resAnswer x p).1.kind,.int .i64 (resAnswer x p).1.number,.int .i64 (resAnswer x p).1.trail,.int .i64 (resAnswer x p).1.lead,.string (resAnswer x p).1.data],.bool (resAnswer x p).2]) (fun _=>[]):=by
 refine enter Tryz.func308 rfl Tryz.ntmps308 fun w0=>?_
 refine openSendWindow ?_
 rintro a1 c1 F1 rfl l1
 refine go ?_;intros
 refine cb (fun w st=>IsValidSendWindow_c _ x _ w (st.get (p:=.isv ESendWindow (.agg #[.int .i64 x.trail,.int .i64 x.size,.slice a1 x.items.length c1]) x F) (by simp))) ?_
 cases g1:goodWin x
 ·refine go ?_;intros
  rw [resAnswer_no (by unfold okAnswer;rw [g1];rfl)]
  refine ret () trivial rfl
 obtain ⟨⟨t0,t1⟩,⟨z0,z1⟩,hl,hi⟩:=goodWin_iff.1 g1
 have hl6:x.items.length≤6:=by omega
 refine go ?_;intros
 refine cf (IsValidPacket_f p hs) fun _ _=>?_
 refine t_app ?_
 cases g2:goodPk p
 ·refine go ?_;intros
  rw [resAnswer_no (by unfold okAnswer;rw [g1,g2];rfl)]
  refine ret () trivial rfl
 obtain ⟨n0,n1⟩:=goodPk_num g2
 refine go ?_;intros
 refine wg_if rfl rfl (fun h3=>?_) (fun h3=>?_)
 ·refine go ?_;intros
  rw [resAnswer_no (by unfold okAnswer;rw [g1,g2,decide_eq_false h3];rfl)]
  refine ret () trivial rfl
 have h3:=Decidable.not_not.1 h3
 refine go ?_;intros
 refine cb (fun w st=>(isHeld_f x p.number _ F t0 t1 n0 n1).val w (hol1 (st.get (p:=.isv ESendWindow (.agg #[.int .i64 x.trail,.int .i64 x.size,.slice a1 x.items.length c1]) x F) (by simp)))) ?_
 cases g3:heldB x p.number
 ·refine go ?_;intros
  rw [resAnswer_no (by unfold okAnswer;rw [g1,g2,g3];simp)]
  refine ret () trivial rfl
 rw [resAnswer_yes (by unfold okAnswer;rw [g1,g2,g3,decide_eq_true h3];rfl)]
 have b:=gp_bd x.trail p.number
 have hk3:=held_lt g3
 rw [show ansP x p.number=⟨2,p.number,x.trail,leadW x,x.items[(gp x.trail p.number).toNat]⟩ by unfold ansP;rw [itemAt_lt hk3]]
 refine at_str (xs:=x.items) (gp x.trail p.number).toNat ?_
 rintro hi b2 o2 e s1
 rw [e]
 refine goN ?_;intros
 refine d_start [0,2,3] [] ?_
 refine dt4 0 1 2 3 ?_
 refine dt4 4 6 7 8 ?_
 refine dt2 9 10 ?_
 refine dt 11 ?_
 refine dN 5 ?_
 refine oC ?_
 refine cb (fun w _=>SendWindow_lead_c _ _ _ _ _ w t0 t1 (by omega)) ?_
 refine dk ?_
 refine dN 12 ?_
 refine oC ?_
 refine ce (fun w s=>gap_c _ _ _ (by omega) (by omega) (by omega) (by omega)) ?_
 refine dk ?_
 refine dt2 13 14 ?_
 refine dt 15 ?_
 refine dN 16 ?_
 refine oS ?_
 refine dk ?_
 refine dt 17 ?_
 refine dd ?_
 refine go ?_;intros
 refine ret () trivial rfl
theorem specAnswerTo_f (x:SendWindow) (p:Packet) (v:Value) (F:List Nat) (hs:p.data.size≤maxLen):Fn Tryz.prog 233 [v,.agg #[.int .i64 p.kind,.int .i64 p.number,.int .i64 p.trail,.int .i64 p.lead,.string p.data]] [.isv ESendWindow v x F] [] (fun (_:Unit)=>True) (fun _=>.tuple #[.agg #[.int .i64 (resAnswer x p).1.kind,.int .i64 (resAnswer x p).1.number,.int .i64 (resAnswer x p).1.trail,.int .i64 (resAnswer x p).1.lead,.string (resAnswer x p).1.data],.bool (resAnswer x p).2]) (fun _=>[]):=by
 refine enter Tryz.func233 rfl Tryz.ntmps233 fun w0=>?_
 refine openSendWindow ?_
 rintro a1 c1 F1 rfl l1
 refine go ?_;intros
 refine cb (fun w st=>l9Good_c _ x _ w (st.get (p:=.isv ESendWindow (.agg #[.int .i64 x.trail,.int .i64 x.size,.slice a1 x.items.length c1]) x F) (by simp))) ?_
 cases g1:goodWin x
 ·refine go ?_;intros
  rw [resAnswer_no (by unfold okAnswer;rw [g1];rfl)]
  refine ret () trivial rfl
 obtain ⟨⟨t0,t1⟩,⟨z0,z1⟩,hl,hi⟩:=goodWin_iff.1 g1
 have hl6:x.items.length≤6:=by omega
 refine go ?_;intros
 refine cf (l4Good_f p hs) fun _ _=>?_
 refine t_app ?_
 cases g2:goodPk p
 ·refine go ?_;intros
  rw [resAnswer_no (by unfold okAnswer;rw [g1,g2];rfl)]
  refine ret () trivial rfl
 obtain ⟨n0,n1⟩:=goodPk_num g2
 refine go ?_;intros
 refine wg_if rfl rfl (fun h3=>?_) (fun h3=>?_)
 ·refine go ?_;intros
  rw [resAnswer_no (by unfold okAnswer;rw [g1,g2,decide_eq_false h3];rfl)]
  refine ret () trivial rfl
 have h3:=Decidable.not_not.1 h3
 refine go ?_;intros
 refine cb (fun w st=>(l9Held_f x p.number _ F t0 t1 n0 n1).val w (hol1 (st.get (p:=.isv ESendWindow (.agg #[.int .i64 x.trail,.int .i64 x.size,.slice a1 x.items.length c1]) x F) (by simp)))) ?_
 cases g3:heldB x p.number
 ·refine go ?_;intros
  rw [resAnswer_no (by unfold okAnswer;rw [g1,g2,g3];simp)]
  refine ret () trivial rfl
 rw [resAnswer_yes (by unfold okAnswer;rw [g1,g2,g3,decide_eq_true h3];rfl)]
 have b:=gp_bd x.trail p.number
 have hk3:=held_lt g3
 rw [show ansP x p.number=⟨2,p.number,x.trail,leadW x,x.items[(gp x.trail p.number).toNat]⟩ by unfold ansP;rw [itemAt_lt hk3]]
 refine at_str (xs:=x.items) (gp x.trail p.number).toNat ?_
 rintro hi b2 o2 e s1
 rw [e]
 refine goN ?_;intros
 refine d_start [0,2,3] [] ?_
 refine dt4 0 1 2 3 ?_
 refine dt4 4 6 7 8 ?_
 refine dt2 9 10 ?_
 refine dt 11 ?_
 refine dN 5 ?_
 refine oC ?_
 refine cb (fun w _=>l9Lead_c _ _ _ _ _ w t0 t1 (by omega)) ?_
 refine dk ?_
 refine dN 12 ?_
 refine oC ?_
 refine ce (fun w s=>l2Gap_c _ _ _ (by omega) (by omega)) ?_
 refine dk ?_
 refine dt2 13 14 ?_
 refine dt 15 ?_
 refine dN 16 ?_
 refine oS ?_
 refine dk ?_
 refine dt 17 ?_
 refine dd ?_
 refine go ?_;intros
 refine ret () trivial rfl
theorem gp_inj {t a b:Int} (ha:0≤a∧a≤65535) (hb:0≤b∧b≤65535) (h:gp t a=gp t b):a=b:=by unfold gp at h;omega
def srt (t:Int) (hs:List Hold):Prop:=hs.Pairwise fun a b=>gp t a.number < gp t b.number
theorem goodSrc_iff {x:Source}:goodSrc x=true↔goodWin x.window=true∧isClk x.clock=true∧btw 0 x.quiet 3=true∧(∀h∈x.holds,isSer h.number=true∧heldB x.window h.number=true∧btw (x.clock+1) h.untl (x.clock+3)=true)∧srt x.window.trail x.holds:=by
 unfold goodSrc
 simp only [Bool.and_eq_true,List.all_eq_true,List.mem_range]
 constructor
 ·rintro ⟨⟨⟨h1,h2⟩,h3⟩,h4⟩
  refine ⟨h1,h2,h3,fun h hh=>?_,?_⟩
  ·obtain ⟨i,hi,rfl⟩:=List.getElem_of_mem hh
   have:=h4 i hi
   rw [chkH_at hi] at this
   simp only [Bool.and_eq_true] at this
   exact ⟨this.1.1.1,this.1.1.2,this.1.2⟩
  ·have step:∀i (hi:i+1 < x.holds.length),gp x.window.trail x.holds[i].number < gp x.window.trail x.holds[i+1].number:=fun i hi=>by
    have:=h4 (i+1) hi
    rw [chkH_at hi] at this
    simp only [Bool.and_eq_true,Bool.or_eq_true,decide_eq_true_eq,Bool.not_eq_true',decide_eq_false_iff_not] at this
    have h:=this.2
    rcases h with h|h
    ·omega
    ·simpa using h
   refine List.pairwise_iff_getElem.2 fun i j hi hj hij=>?_
   obtain ⟨d,rfl⟩:∃d,j=i+1+d:=⟨j - i - 1,by omega⟩
   clear hij
   induction d with
   | zero=>exact step i hj
   | succ d ih=>exact Int.lt_trans (ih (by omega)) (step (i+1+d) hj)
 ·rintro ⟨h1,h2,h3,h4,h5⟩
  refine ⟨⟨⟨h1,h2⟩,h3⟩,fun i hi=>?_⟩
  rw [chkH_at hi]
  obtain ⟨a,b,c⟩:=h4 x.holds[i] (List.getElem_mem hi)
  rw [a,b,c]
  simp only [Bool.true_and,Bool.or_eq_true,decide_eq_true_eq,Bool.not_eq_true',decide_eq_false_iff_not]
  rcases Nat.eq_zero_or_pos i with h0|h0
  ·exact .inl h0
  ·have:=List.pairwise_iff_getElem.1 h5 (i - 1) i (by omega) hi (by omega)
   right;omega
def holdAt (t:Int) (hs:List Hold) (n:Int):Nat:=(hs.takeWhile fun h=>decide (gp t h.number < gp t n)).length
def thereB (t:Int) (hs:List Hold) (n:Int):Bool:=match hs[holdAt t hs n]? with|some h=>decide (h.number=n)|none=>false
def onB (hs:List Hold) (n:Int):Bool:=hs.any fun h=>decide (h.number=n)
def addHold (hs:List Hold) (k:Nat) (h:Hold):List Hold:=hs.take k++h::hs.drop k
def confP (W:SendWindow) (n:Int):Packet:=⟨4,n,W.trail,leadW W,⟨#[]⟩⟩
def reqSU (x:Source) (n:Int):Source:=if heldB x.window n && !thereB x.window.trail x.holds n then ⟨x.window,x.clock,x.quiet,addHold x.holds (holdAt x.window.trail x.holds n) ⟨n,x.clock+3⟩⟩ else withU x x.window
def reqP (x:Source) (p:Packet):List Packet:=if heldB x.window p.number then (if thereB x.window.trail x.holds p.number then [confP x.window p.number] else [confP x.window p.number,(resAnswer x.window p).1]) else [statP x.window]
def reqS (x:Source) (n:Int):Source:=if heldB x.window n && !thereB x.window.trail x.holds n then ⟨x.window,x.clock,x.quiet,addHold x.holds (holdAt x.window.trail x.holds n) ⟨n,x.clock+3⟩⟩ else x
theorem keepU_same {x:Source} (hg:goodSrc x=true):keepU x.window x.clock x.holds=x.holds:=by
 obtain ⟨-, -, -,h4, -⟩:=goodSrc_iff.1 hg
 unfold keepU
 refine List.filter_eq_self.2 fun h hh=>?_
 obtain ⟨a,b,c⟩:=h4 h hh
 unfold btw at c
 simp only [Bool.and_eq_true,decide_eq_true_eq] at c
 rw [b,decide_eq_true (by omega)];rfl
theorem reqSU_eq {x:Source} (hg:goodSrc x=true) (n:Int):reqSU x n=reqS x n:=by
 unfold reqSU reqS withU
 rw [keepU_same hg]
theorem holdAt_le (t:Int) (hs:List Hold) (n:Int):holdAt t hs n≤hs.length:=tw_spec.1
theorem there_on {t n:Int} {hs:List Hold} (hn:0≤n∧n≤65535) (hser:∀h∈hs,isSer h.number=true) (hs':srt t hs):thereB t hs n=onB hs n:=by
 obtain ⟨h1,h2,h3⟩:=tw_spec (p:=fun h:Hold=>decide (gp t h.number < gp t n)) (xs:=hs)
 unfold thereB onB
 have hle:=holdAt_le t hs n
 rw [Bool.eq_iff_iff,List.any_eq_true]
 constructor
 ·intro h
  split at h
  ·rename_i z hz
   exact ⟨z,List.mem_of_getElem? hz,h⟩
  ·cases h
 ·rintro ⟨z,hz,he⟩
  simp only [decide_eq_true_eq] at he
  obtain ⟨i,hi,rfl⟩:=List.getElem_of_mem hz
  have hk:holdAt t hs n=i:=by
   refine tw_len (by omega) (fun j hj h=>?_) (fun h=>?_)
   ·have:=List.pairwise_iff_getElem.1 hs' j i h hi hj
    simp only [decide_eq_true_eq];rw [←he];exact this
   ·simp only [decide_eq_false_iff_not];rw [he];omega
  rw [hk,List.getElem?_eq_getElem hi]
  simpa using he
theorem srt_add {t n:Int} {hs:List Hold} (u:Int) (hn:0≤n∧n≤65535) (hser:∀h∈hs,isSer h.number=true) (hs':srt t hs) (ht:thereB t hs n=false):srt t (addHold hs (holdAt t hs n) ⟨n,u⟩):=by
 obtain ⟨h1,h2,h3⟩:=tw_spec (p:=fun h:Hold=>decide (gp t h.number < gp t n)) (xs:=hs)
 have hle:=holdAt_le t hs n
 have hon:onB hs n=false:=by rw [←there_on hn hser hs'];exact ht
 have hne:∀h∈hs,gp t h.number≠gp t n:=fun h hh e=>by
  have:=gp_inj (isSer_iff.1 (hser h hh)) hn e
  have h0:onB hs n=true:=List.any_eq_true.2 ⟨h,hh,by simp [this]⟩
  rw [hon] at h0;cases h0
 unfold addHold srt
 rw [List.pairwise_append]
 refine ⟨hs'.sublist (List.take_sublist _ _),?_,?_⟩
 ·rw [List.pairwise_cons]
  refine ⟨fun b hb=>?_,hs'.sublist (List.drop_sublist _ _)⟩
  obtain ⟨j,hj,rfl⟩:=List.getElem_of_mem hb
  rw [List.getElem_drop]
  rw [List.length_drop] at hj
  have hk:holdAt t hs n < hs.length:=by omega
  have h0:=h3 hk
  simp only [decide_eq_false_iff_not,Int.not_lt] at h0
  have h00:gp t n≤gp t (hs[holdAt t hs n]'hk).number:=h0
  have hd:=hne _ (List.getElem_mem hk)
  rcases Nat.eq_zero_or_pos j with e|e
  ·subst e;show gp t n < gp t (hs[holdAt t hs n+0]).number;simp only [Nat.add_zero];omega
  ·have h5:=List.pairwise_iff_getElem.1 hs' (holdAt t hs n) (holdAt t hs n+j) hk (by omega) (by omega)
   show gp t n < _;omega
 ·intro a ha b hb
  obtain ⟨i,hi,rfl⟩:=List.getElem_of_mem ha
  rw [List.length_take] at hi
  rw [List.getElem_take]
  have ha2:=h2 i (by show i < holdAt t hs n;omega) (by omega)
  simp only [decide_eq_true_eq] at ha2
  rcases List.mem_cons.1 hb with rfl|hb
  ·exact ha2
  ·obtain ⟨j,hj,rfl⟩:=List.getElem_of_mem hb
   rw [List.getElem_drop]
   rw [List.length_drop] at hj
   exact List.pairwise_iff_getElem.1 hs' i _ (by omega) (by omega) (by omega)
theorem good_req {x:Source} {n:Int} (hg:goodSrc x=true) (hn:0≤n∧n≤65535):goodSrc (reqS x n)=true:=by
 unfold reqS
 split
 ·rename_i h
  simp only [Bool.and_eq_true,Bool.not_eq_true'] at h
  obtain ⟨hh,ht⟩:=h
  obtain ⟨h1,h2,h3,h4,h5⟩:=goodSrc_iff.1 hg
  refine goodSrc_iff.2 ⟨h1,h2,h3,fun z hz=>?_,srt_add _ hn (fun z hz=>(h4 z hz).1) h5 ht⟩
  have:z∈x.holds∨z=⟨n,x.clock+3⟩:=by
   unfold addHold at hz
   simp only [List.mem_append,List.mem_cons] at hz
   rcases hz with h|h|h
   ·exact .inl (List.mem_of_mem_take h)
   ·exact .inr h
   ·exact .inl (List.mem_of_mem_drop h)
  rcases this with h|rfl
  ·exact h4 z h
  ·exact ⟨isSer_iff.2 hn,hh,by unfold btw;simp⟩
 ·exact hg
theorem good_tick {x:Source} (hg:goodSrc x=true) (hc:x.clock < 9999):goodSrc (tickS x)=true:=by
 obtain ⟨h1,h2,h3,h4,h5⟩:=goodSrc_iff.1 hg
 have hk:=clk_bd h2
 refine goodSrc_iff.2 ⟨h1,?_,?_,fun z hz=>?_,h5.sublist (List.filter_sublist)⟩
 ·unfold tickS isClk btw;simp;omega
 ·unfold btw at h3
  simp only [Bool.and_eq_true,decide_eq_true_eq] at h3
  unfold tickS tickQ btw
  dsimp only
  split <;> simp <;> omega
 ·unfold tickS keepT at hz
  simp only [List.mem_filter] at hz
  obtain ⟨z1,z2⟩:=hz
  obtain ⟨a,b,c⟩:=h4 z z1
  refine ⟨a,b,?_⟩
  unfold btw at c ⊢
  simp only [Bool.and_eq_true,decide_eq_true_eq,Bool.not_eq_true',decide_eq_false_iff_not] at c z2 ⊢
  show x.clock+1+1≤z.untl∧z.untl≤x.clock+1+3
  omega
theorem good_moved {x:Source} {W:SendWindow} (k:Nat) (q:Int) (hg:goodSrc x=true) (hw:goodWin W=true) (hq:btw 0 q 3=true) (hk:k≤6) (ht:W.trail=aft x.window.trail k):goodSrc ⟨W,x.clock,q,keepH W x.holds⟩=true:=by
 obtain ⟨h1,h2,h3,h4,h5⟩:=goodSrc_iff.1 hg
 obtain ⟨-,⟨z0,z1⟩,hl, -⟩:=goodWin_iff.1 hw
 have key:∀n,heldB W n=true→gp x.window.trail n=gp W.trail n+k:=fun n hn=>by
  unfold heldB at hn
  simp only [decide_eq_true_eq] at hn
  rw [ht] at hn ⊢
  have:=gp_bd (aft x.window.trail k) n
  unfold gp aft at *
  omega
 refine goodSrc_iff.2 ⟨hw,h2,hq,fun z hz=>?_,?_⟩
 ·unfold keepH at hz
  simp only [List.mem_filter] at hz
  obtain ⟨a,b,c⟩:=h4 z hz.1
  exact ⟨a,hz.2,c⟩
 ·unfold keepH srt
  show List.Pairwise (fun a b=>gp W.trail a.number < gp W.trail b.number) (x.holds.filter fun h=>heldB W h.number)
  have hp:List.Pairwise (fun a b=>gp x.window.trail a.number < gp x.window.trail b.number) (x.holds.filter fun h=>heldB W h.number):=h5.sublist (List.filter_sublist)
  refine List.Pairwise.imp_of_mem (fun {a b} ha hb h=>?_) hp
  simp only [List.mem_filter] at ha hb
  have e1:=key _ ha.2
  have e2:=key _ hb.2
  omega
theorem good_sent {x:Source} {s:ByteArray} (hg:goodSrc x=true) (hs:itm s=true):goodSrc (sentS x s)=true:=by
 have hw:=(goodSrc_iff.1 hg).1
 obtain ⟨-,hw2, -⟩:=pushed_law (x:=x.window) (s:=s) (by unfold okPushItem;rw [hw,hs];rfl)
 obtain ⟨⟨t0,t1⟩, -⟩:=goodWin_iff.1 hw
 by_cases h:(x.window.items.length:Int)=x.window.size
 ·refine good_moved 1 0 hg hw2 (by decide) (by omega) ?_
  show (roomed x.window).trail=_
  unfold roomed;rw [if_pos h];rfl
 ·refine good_moved 0 0 hg hw2 (by decide) (by omega) ?_
  show (roomed x.window).trail=_
  unfold roomed aft;rw [if_neg h];omega
def elAt (n:Net) (i:Nat):Element:=n.elements.getD i ⟨0,[]⟩
def rcAt (n:Net) (i:Nat):Receiver:=n.receivers.getD i zRec
def kidsN (n:Net) (i:Nat):List Int:=kids n.tree.parent ((i:Nat):Int)
def facN (n:Net) (i:Nat) (p:Packet):List Int:=if p.kind=2 then facE (elAt n i) p.number (kidsN n i) else kidsN n i
def delivN (n:Net) (i:Nat) (p:Packet):Net × List ByteArray :=
 if leafT n.tree.parent ((i:Nat):Int) then (⟨n.tree,n.source,n.elements,n.receivers.set i (hearR (rcAt n i) p (dly i)),n.down,n.up⟩,tell i (hearE (rcAt n i) p))
 else (⟨n.tree,n.source,if p.kind=2 then n.elements.set i (repE (elAt n i) p.number) else n.elements,n.receivers,spread n.down (facN n i p) [p],n.up⟩,[])
def parN (n:Net) (i:Nat):Nat:=(n.tree.parent.getD i 0).toNat
def cnfP (p:Packet):Packet:=⟨4,p.number,p.trail,p.lead,⟨#[]⟩⟩
def upN (n:Net) (i:Nat) (p:Packet):Net :=
 if parN n i=0 then ⟨n.tree,reqS n.source p.number,n.elements,n.receivers,spread n.down [((i:Nat):Int)] (reqP n.source p),n.up⟩
 else ⟨n.tree,n.source,n.elements.set (parN n i) (reqE (elAt n (parN n i)) p.number ((i:Nat):Int)),n.receivers,spread n.down [((i:Nat):Int)] [cnfP p],if fwdE (elAt n (parN n i)) p.number then n.up.modify (parN n i) fun q=>putQ q [p] else n.up⟩
def tick1 (n:Net) (i:Nat):Net × List ByteArray :=
 if leafT n.tree.parent ((i:Nat):Int) then (⟨n.tree,n.source,n.elements,n.receivers.set i (tickRec (rcAt n i) (dly i)),n.down,n.up.modify i fun q=>putQ q (tickPk (rcAt n i))⟩,tell i (tickEv (rcAt n i)))
 else (⟨n.tree,n.source,n.elements.set i (tickElement (elAt n i)),n.receivers,n.down,n.up⟩,[])
def tick0 (n:Net):Net:=⟨n.tree,tickS n.source,n.elements,n.receivers,spread n.down (kidsN n 0) (tickP n.source.window n.source.quiet),n.up⟩
def tickTo (n:Net):Nat→Net × List ByteArray
 | 0=>(tick0 n,[])
 | k+1=>((tick1 (tickTo n k).1 (k+1)).1,(tickTo n k).2++(tick1 (tickTo n k).1 (k+1)).2)
def tickN (n:Net):Net × List ByteArray:=tickTo n (n.tree.parent.length - 1)
def sendN (n:Net) (s:ByteArray):Net:=⟨n.tree,sentS n.source s,n.elements,n.receivers,spread n.down (kidsN n 0) [pushedP n.source.window s],n.up⟩
def popD (n:Net) (i:Nat):Net:=⟨n.tree,n.source,n.elements,n.receivers,n.down.modify i (·.drop 1),n.up⟩
def popU (n:Net) (i:Nat):Net:=⟨n.tree,n.source,n.elements,n.receivers,n.down,n.up.modify i (·.drop 1)⟩
structure GN (ck:Nat→Int) (n:Net):Prop where
 t:goodTree n.tree=true
 s:goodSrc n.source=true
 l:lensN n=true
 a:∀i (h1:i < n.elements.length) (h2:i < n.receivers.length) (h3:i < n.down.length) (h4:i < n.up.length),rightN n.tree.parent (ck i) i n.elements[i] n.receivers[i] n.down[i] n.up[i]=true
theorem goodNet_GN {n:Net}:goodNet n=true↔GN (fun _=>n.source.clock) n:=by
 rw [goodNet_iff]
 constructor
 ·rintro ⟨h1,h2,h3,h4⟩
  obtain ⟨q1,q2,q3,q4⟩:=lensN_iff.1 h3
  exact ⟨h1,h2,h3,fun i a b c d=>by rw [←atNode_at a b c d];exact h4 i (by omega)⟩
 ·rintro ⟨h1,h2,h3,h4⟩
  obtain ⟨q1,q2,q3,q4⟩:=lensN_iff.1 h3
  exact ⟨h1,h2,h3,fun i hi=>by rw [atNode_at (by omega) (by omega) (by omega) (by omega)];exact h4 i _ _ _ _⟩
def updC (ck:Nat→Int) (i:Nat) (c:Int):Nat→Int:=fun j=>if j=i then c else ck j
structure RN (par:List Int) (clk:Int) (i:Nat) (e:Element) (r:Receiver) (d u:List Packet):Prop where
 hd:goodQ d=true
 hu:goodQ u=true
 hk:upQ u=true
 hz:i=0→zElem e=true∧zRecv r=true∧d.length=0∧u.length=0
 hf:i≠0→leafT par ((i:Nat):Int)=true→zElem e=true∧goodRec r=true∧r.clock=clk
 hn:i≠0→leafT par ((i:Nat):Int)=false→goodElement e=true∧e.clock=clk∧zRecv r=true
theorem rightN_iff {par:List Int} {clk:Int} {i:Nat} {e:Element} {r:Receiver} {d u:List Packet}:rightN par clk i e r d u=true↔RN par clk i e r d u:=by
 unfold rightN
 constructor
 ·intro h
  simp only [Bool.and_eq_true] at h
  obtain ⟨⟨⟨h1,h2⟩,h3⟩,h4⟩:=h
  refine ⟨h1,h2,h3,fun e=>?_,fun e l=>?_,fun e l=>?_⟩
  ·rw [if_pos e] at h4
   simp only [Bool.and_eq_true,decide_eq_true_eq] at h4
   exact ⟨h4.1.1.1,h4.1.1.2,h4.1.2,h4.2⟩
  ·rw [if_neg e,if_pos l] at h4
   simp only [Bool.and_eq_true,decide_eq_true_eq] at h4
   exact ⟨h4.1.1,h4.1.2,h4.2⟩
  ·rw [if_neg e,if_neg (by rw [l];decide)] at h4
   simp only [Bool.and_eq_true,decide_eq_true_eq] at h4
   exact ⟨h4.1.1,h4.1.2,h4.2⟩
 ·intro h
  rw [h.hd,h.hu,h.hk,Bool.true_and,Bool.true_and,Bool.true_and]
  by_cases e:i=0
  ·rw [if_pos e]
   obtain ⟨a,b,c,d⟩:=h.hz e
   rw [a,b,decide_eq_true c,decide_eq_true d];rfl
  ·rw [if_neg e]
   cases l:leafT par ((i:Nat):Int)
   ·obtain ⟨a,b,c⟩:=h.hn e l
    rw [if_neg (by decide),a,decide_eq_true b,c];rfl
   ·obtain ⟨a,b,c⟩:=h.hf e l
    rw [if_pos rfl,a,b,decide_eq_true c];rfl
theorem GN.rn {ck:Nat→Int} {n:Net} (h:GN ck n) {i:Nat} (hi:i < n.tree.parent.length):∃(h1:i < n.elements.length) (h2:i < n.receivers.length) (h3:i < n.down.length) (h4:i < n.up.length),RN n.tree.parent (ck i) i n.elements[i] n.receivers[i] n.down[i] n.up[i]:=by
 obtain ⟨q1,q2,q3,q4⟩:=lensN_iff.1 h.l
 exact ⟨by omega,by omega,by omega,by omega,rightN_iff.1 (h.a i _ _ _ _)⟩
theorem GN.mk' {ck:Nat→Int} {n:Net} (h1:goodTree n.tree=true) (h2:goodSrc n.source=true) (h3:lensN n=true) (h4:∀i (h1:i < n.elements.length) (h2:i < n.receivers.length) (h3:i < n.down.length) (h4:i < n.up.length),RN n.tree.parent (ck i) i n.elements[i] n.receivers[i] n.down[i] n.up[i]):GN ck n :=
 ⟨h1,h2,h3,fun i a b c d=>rightN_iff.2 (h4 i a b c d)⟩
theorem GN.src {ck:Nat→Int} {n:Net} {s:Source} (h:GN ck n) (hs:goodSrc s=true):GN ck ⟨n.tree,s,n.elements,n.receivers,n.down,n.up⟩:=⟨h.t,hs,h.l,h.a⟩
theorem GN.el {ck:Nat→Int} {n:Net} {i:Nat} {e:Element} (h:GN ck n) (h0:i≠0) (hl:leafT n.tree.parent ((i:Nat):Int)=false) (he:goodElement e=true):GN (updC ck i e.clock) ⟨n.tree,n.source,n.elements.set i e,n.receivers,n.down,n.up⟩:=by
 obtain ⟨q1,q2,q3,q4⟩:=lensN_iff.1 h.l
 refine .mk' h.t h.s (lensN_iff.2 ⟨by simpa using q1,q2,q3,q4⟩) fun j h1 h2 h3 h4=>?_
 have h1':j < n.elements.length:=by simpa using h1
 have r:=rightN_iff.1 (h.a j h1' h2 h3 h4)
 refine ⟨r.hd,r.hu,r.hk,fun e0=>?_,fun e0 l=>?_,fun e0 l=>?_⟩
 ·have:=r.hz e0
  rwa [List.getElem_set_ne (by omega)]
 ·have hne:i≠j:=fun e1=>by subst e1;rw [hl] at l;cases l
  have:=r.hf e0 l
  rw [List.getElem_set_ne hne]
  unfold updC;rw [if_neg (Ne.symm hne)];exact this
 ·have:=r.hn e0 l
  by_cases e1:i=j
  ·subst e1
   rw [List.getElem_set_self]
   unfold updC;rw [if_pos rfl];exact ⟨he,rfl,this.2.2⟩
  ·rw [List.getElem_set_ne e1]
   unfold updC;rw [if_neg (Ne.symm e1)];exact this
theorem GN.rc {ck:Nat→Int} {n:Net} {i:Nat} {x:Receiver} (h:GN ck n) (h0:i≠0) (hl:leafT n.tree.parent ((i:Nat):Int)=true) (he:goodRec x=true):GN (updC ck i x.clock) ⟨n.tree,n.source,n.elements,n.receivers.set i x,n.down,n.up⟩:=by
 obtain ⟨q1,q2,q3,q4⟩:=lensN_iff.1 h.l
 refine .mk' h.t h.s (lensN_iff.2 ⟨q1,by simpa using q2,q3,q4⟩) fun j h1 h2 h3 h4=>?_
 have h2':j < n.receivers.length:=by simpa using h2
 have r:=rightN_iff.1 (h.a j h1 h2' h3 h4)
 refine ⟨r.hd,r.hu,r.hk,fun e0=>?_,fun e0 l=>?_,fun e0 l=>?_⟩
 ·have:=r.hz e0
  rwa [List.getElem_set_ne (by omega)]
 ·have:=r.hf e0 l
  by_cases e1:i=j
  ·subst e1
   rw [List.getElem_set_self]
   unfold updC;rw [if_pos rfl];exact ⟨this.1,he,rfl⟩
  ·rw [List.getElem_set_ne e1]
   unfold updC;rw [if_neg (Ne.symm e1)];exact this
 ·have hne:i≠j:=fun e1=>by subst e1;rw [hl] at l;cases l
  have:=r.hn e0 l
  rw [List.getElem_set_ne hne]
  unfold updC;rw [if_neg (Ne.symm hne)];exact this
theorem putQ_up {q ps:List Packet} (hq:upQ q=true) (hp:∀p∈ps,p.kind=3):upQ (putQ q ps)=true:=by
 unfold upQ putQ at *
 rw [List.all_append,hq,Bool.true_and,List.all_eq_true]
 exact fun p h=>decide_eq_true (hp p (List.mem_of_mem_take h))
theorem GN.dn {ck:Nat→Int} {n:Net} (h:GN ck n) (i:Nat) (f:List Packet→List Packet) (h0:i=0→f []=[]) (hf:∀q,goodQ q=true→goodQ (f q)=true):GN ck ⟨n.tree,n.source,n.elements,n.receivers,n.down.modify i f,n.up⟩:=by
 obtain ⟨q1,q2,q3,q4⟩:=lensN_iff.1 h.l
 refine .mk' h.t h.s (lensN_iff.2 ⟨q1,q2,by simpa using q3,q4⟩) fun j h1 h2 h3 h4=>?_
 have h3':j < n.down.length:=by simpa using h3
 have r:=rightN_iff.1 (h.a j h1 h2 h3' h4)
 by_cases e1:i=j
 ·subst e1
  simp only [List.getElem_modify_eq]
  refine ⟨hf _ r.hd,r.hu,r.hk,fun e0=>?_,r.hf,r.hn⟩
  obtain ⟨a,b,c,d⟩:=r.hz e0
  refine ⟨a,b,?_,d⟩
  rw [List.length_eq_zero_iff.1 c,h0 e0];rfl
 ·simp only [List.getElem_modify,if_neg e1]
  exact r
theorem GN.un {ck:Nat→Int} {n:Net} (h:GN ck n) (i:Nat) (f:List Packet→List Packet) (h0:i=0→f []=[]) (hf:∀q,goodQ q=true→upQ q=true→goodQ (f q)=true∧upQ (f q)=true):GN ck ⟨n.tree,n.source,n.elements,n.receivers,n.down,n.up.modify i f⟩:=by
 obtain ⟨q1,q2,q3,q4⟩:=lensN_iff.1 h.l
 refine .mk' h.t h.s (lensN_iff.2 ⟨q1,q2,q3,by simpa using q4⟩) fun j h1 h2 h3 h4=>?_
 have h4':j < n.up.length:=by simpa using h4
 have r:=rightN_iff.1 (h.a j h1 h2 h3 h4')
 by_cases e1:i=j
 ·subst e1
  simp only [List.getElem_modify_eq]
  refine ⟨r.hd,(hf _ r.hu r.hk).1,(hf _ r.hu r.hk).2,fun e0=>?_,r.hf,r.hn⟩
  obtain ⟨a,b,c,d⟩:=r.hz e0
  refine ⟨a,b,c,?_⟩
  rw [List.length_eq_zero_iff.1 d,h0 e0];rfl
 ·simp only [List.getElem_modify,if_neg e1]
  exact r
theorem GN.sp {ck:Nat→Int} {ps:List Packet} (hp:∀p∈ps,goodPk p=true):∀{nodes:List Int} {n:Net},GN ck n→(∀x∈nodes,x.toNat≠0)→GN ck ⟨n.tree,n.source,n.elements,n.receivers,spread n.down nodes ps,n.up⟩
 | [],_,h,_=>h
 | x::r,n,h,hx=>GN.sp hp (nodes:=r) (n:=⟨n.tree,n.source,n.elements,n.receivers,n.down.modify x.toNat fun q=>putQ q ps,n.up⟩) (h.dn x.toNat _ (fun e=>absurd e (hx x (by simp))) fun q hq=>putQ_good hq hp) fun y hy=>hx y (by simp [hy])
theorem goodQ_drop {q:List Packet} (h:goodQ q=true):goodQ (q.drop 1)=true:=by
 unfold goodQ at *
 simp only [Bool.and_eq_true,decide_eq_true_eq,List.all_eq_true] at h ⊢
 exact ⟨by rw [List.length_drop];omega,fun p hp=>h.2 p (List.mem_of_mem_drop hp)⟩
theorem upQ_drop {q:List Packet} (h:upQ q=true):upQ (q.drop 1)=true:=by
 unfold upQ at *
 simp only [List.all_eq_true] at h ⊢
 exact fun p hp=>h p (List.mem_of_mem_drop hp)
theorem GN.pd {ck:Nat→Int} {n:Net} (h:GN ck n) (i:Nat):GN ck (popD n i):=h.dn i _ (fun _=>rfl) fun _=>goodQ_drop
theorem GN.pu {ck:Nat→Int} {n:Net} (h:GN ck n) (i:Nat):GN ck (popU n i):=h.un i _ (fun _=>rfl) fun _ a b=>⟨goodQ_drop a,upQ_drop b⟩
def smallL (l:List Slot):Prop:=∀s∈l,s.item.size≤8
theorem plus_size {s:ByteArray} (h:s.size≤8):(plus s).size≤9:=by
 unfold plus
 have:(⟨#[43]⟩:ByteArray).size=1:=rfl
 rw [ByteArray.size_append];omega
theorem shiftEv_sm {l:List Slot} (h:smallL l):(shiftEv l).size≤9:=by
 unfold shiftEv
 cases l with
 | nil=>decide
 | cons s r =>
  dsimp only
  split
  ·exact plus_size (h s (by simp))
  ·decide
theorem rel_sm:∀(l:List Slot) (n:Int),smallL l→∀e∈(rel n l).2.2,e.size≤9
 | [],_,_,e,he=>by simp [rel] at he
 | s::r,n,h,e,he=>by
  unfold rel at he
  split at he
  ·rcases List.mem_cons.1 he with rfl|he
   ·exact plus_size (h s (by simp))
   ·exact rel_sm r _ (fun x hx=>h x (by simp [hx])) e he
  ·simp at he
theorem relE_sm {w:ReceiveWindow} (h:smallL w.slots):∀e∈relE w,e.size≤9:=rel_sm w.slots w.next h
theorem give_sm:∀(k:Nat) (w:ReceiveWindow),smallL w.slots→(∀e∈giveE k w,e.size≤9)∧smallL (giveW k w).slots
 | 0,w,h=>⟨fun e he=>by simp [giveE] at he,h⟩
 | k+1,w,h=>by
  have ih:=give_sm k (shW w) fun s hs=>h s (List.mem_of_mem_drop hs)
  refine ⟨fun e he=>?_,ih.2⟩
  unfold giveE at he
  rcases List.mem_cons.1 he with rfl|he
  ·exact shiftEv_sm h
  ·exact ih.1 e he
theorem small_good {w:ReceiveWindow} (h:goodRW w=true):smallL w.slots:=fun s hs=>by
 obtain ⟨n0,n1,hl,hit⟩:=good_of h
 exact hit s hs
theorem moved_sm {w:ReceiveWindow} {t:Int} (h:smallL w.slots):∀e∈movedE w t,e.size≤9:=fun e he=>by
 have hg:=give_sm (stepsN w.next t) w h
 unfold movedE at he
 rcases List.mem_append.1 he with he|he
 ·exact hg.1 e he
 ·exact relE_sm hg.2 e he
theorem moved_few {w:ReceiveWindow} {t:Int} (h:goodRW w=true):(movedE w t).length≤40000:=by
 have h1:=(moved_at (t:=t) h).2.2.1
 have h2:stepsN w.next t≤32767:=by
  unfold stepsN
  split
  ·rename_i hb
   unfold bef btw at hb
   simp only [Bool.and_eq_true,decide_eq_true_eq] at hb
   omega
  ·omega
 omega
theorem putL_sm {x:ReceiveWindow} {k:Nat} {s:Slot} (h:smallL x.slots) (hs:s.item.size≤8):smallL (putL x k s):=fun y hy=>by
 unfold putL at hy
 rcases List.mem_or_eq_of_mem_set hy with hy|rfl
 ·unfold padL at hy
  rcases List.mem_append.1 hy with hy|hy
  ·exact h y hy
  ·rw [List.eq_of_mem_replicate hy];decide
 ·exact hs
theorem hear_sm {r:Receiver} {p:Packet} (hg:GoodR r) (hp:goodPk p=true):∀e∈hearE r p,e.size≤1000000:=fun e he=>by
 have hd:p.data.size≤8:=by
  unfold goodPk itm at hp
  simp only [Bool.and_eq_true,decide_eq_true_eq] at hp
  omega
 have hst:=(start_good hg hp).1
 have htk:=(taken_good hg hp).1
 unfold hearE at he
 split at he
 ·unfold newsE at he
  rcases List.mem_append.1 he with he|he
  ·unfold takenE at he
   split at he
   ·simp at he
   ·unfold takeE at he
    split at he
    ·simp at he
    ·have:=relE_sm (w:=putW (startW r p) p.number p.data) (putL_sm (s:=⟨true,p.data⟩) (small_good hst) hd) e he;omega
  ·unfold skipE at he
   split at he
   ·split at he
    ·have:=moved_sm (small_good htk) e he;omega
    ·rw [List.mem_singleton] at he;subst he;decide
   ·simp at he
 ·simp at he
theorem tickEv_sm {r:Receiver} (hg:GoodR r):(∀e∈tickEv r,e.size≤1000000)∧(tickEv r).length≤40000:=by
 unfold tickEv
 split
 ·exact ⟨fun e he=>by simp at he,by simp⟩
 ·exact ⟨fun e he=>by have:=moved_sm (small_good hg.w) e he;omega,moved_few hg.w⟩
theorem rdTree {w:World} {t:TypeId} {a:Option Addr} {c:Nat} {l:List Int} {F:List Nat} (h:(Pc.ow EInt t (.slice a l.length c) l F).P w):∃F',(Pc.isv ETree (.agg #[.slice a l.length c]) ⟨l⟩ F').P w:=by
 obtain ⟨F', -,hs⟩:=h.2.read
 exact ⟨F',_,rfl,_,rfl,hs⟩
theorem children_f (t:Tree) (node:Int) (v:Value) (F:List Nat) (hl:t.parent.length≤1000000):Fn Tryz.prog 103 [v,.int .i64 node] [.isv ETree v t F] [] (fun (_:KiS)=>True) (fun z=>.slice z.a (kids t.parent node).length z.c) (fun z=>[.ow EInt 3 (.slice z.a (kids t.parent node).length z.c) (kids t.parent node) z.F]):=by
 refine enter Tryz.func103 rfl Tryz.ntmps103 fun w0=>?_
 refine openTree ?_
 rintro a1 c1 F1 rfl l1
 refine t_nilow EInt 3 ?_
 refine go ?_;intros
 refine c_loopS [1,4,9,10] (fun z:KiS=>[(5,.slice z.a (kidsTo t.parent node z.k).length z.c),(11,.int .i64 (z.k:Nat))]) (fun z=>[.ow EInt 3 (.slice z.a (kidsTo t.parent node z.k).length z.c) (kidsTo t.parent node z.k) z.F]) (fun z=>z.k≤t.parent.length) (fun z=>t.parent.length - z.k) ⟨0,_,_,_⟩ (Nat.zero_le _) fun z hz=>?_
 have hkl:=kidsTo_len t.parent node z.k
 refine go ?_;intros
 refine c_if rfl (fun h1=>?_) (fun h1=>?_)
 ·have hh:z.k < t.parent.length:=by omega
  refine at_int (xs:=t.parent) z.k ?_
  rintro hi b o e1
  rw [e1]
  refine go ?_;intros
  refine c_if rfl (fun h2=>?_) (fun h2=>?_)
  ·refine goN ?_;intros
   apply wO
   refine ap1 (rep_i _) one_EInt fun a9 c9 F9=>?_
   refine go ?_;intros
   rw [←kidsTo_yes hh h2]
   refine n_lp ⟨z.k+1,a9,c9,F9⟩ (by show z.k+1≤t.parent.length;omega) (by show t.parent.length - (z.k+1) < t.parent.length - z.k;omega)
  ·rw [←kidsTo_no hh h2]
   refine go ?_;intros
   refine n_lp ⟨z.k+1,z.a,z.c,z.F⟩ (by show z.k+1≤t.parent.length;omega) (by show t.parent.length - (z.k+1) < t.parent.length - z.k;omega)
 ·rw [show kidsTo t.parent node z.k=kids t.parent node by unfold kids;rw [show z.k=t.parent.length by omega]]
  refine go ?_;intros
  refine ret z trivial rfl
theorem hearE_size {r:Receiver} {p:Packet} (hg:GoodR r) (hp:goodPk p=true):∀e∈hearE r p,e.size≤1000000:=hear_sm hg hp
theorem inc_len:∀(l:List Int) (lo:Int),l.Pairwise (· < ·)→(∀z∈l,lo≤z∧z≤7)→(l.length:Int)≤max 0 (8 - lo)
 | [],_,_,_=>by simp;omega
 | x::r,lo,hp,hb=>by
  rw [List.pairwise_cons] at hp
  have:=inc_len r (x+1) hp.2 fun z hz=>⟨by have:=hp.1 z hz;omega,(hb z (by simp [hz])).2⟩
  have:=hb x (by simp)
  rw [List.length_cons];omega
theorem faces_len {e:Element} (hg:goodElement e=true) {x:Entry} (hx:x∈e.entries):x.faces.length≤7:=by
 have h:=(okEntry_iff.1 ((goodE_iff.1 hg).2.2.1 x hx)).2.2.1
 have:=inc_len x.faces 1 h.1 h.2
 omega
theorem dly_bd {i:Nat}:1≤dly i∧dly i≤8:=by unfold dly;omega
theorem rcAt_get {n:Net} {i:Nat} (h:i < n.receivers.length):rcAt n i=n.receivers[i]:=getN h _
theorem elAt_get {n:Net} {i:Nat} (h:i < n.elements.length):elAt n i=n.elements[i]:=getN h _
theorem deliver_f (n:Net) (i:Nat) (p:Packet) (g:Nat) (a1:Option Addr) (c1:Nat) (F1:List Nat) (a2:Option Addr) (c2:Nat) (F2:List Nat) (a3:Option Addr) (c3:Nat) (F3:List Nat) (a4:Option Addr) (c4:Nat) (F4:List Nat) (a5:Option Addr) (c5:Nat) (F5:List Nat) (a6:Option Addr) (c6:Nat) (F6:List Nat) (a7:Option Addr) (c7:Nat) (F7:List Nat) (FT:List Nat) (hl:lensN n=true) (hi:i < n.tree.parent.length) (h8:GoodT n.tree.parent) (hr:leafT n.tree.parent (i:Nat)=true→goodRec (rcAt n i)=true) (he:leafT n.tree.parent (i:Nat)=false→goodElement (elAt n i)=true) (hp:goodPk p=true) (hps:p.data.size≤maxLen) :
  Fn Tryz.prog 194 [ptr g 0 0,.int .i64 (i:Nat),.agg #[.int .i64 (p).kind,.int .i64 (p).number,.int .i64 (p).trail,.int .i64 (p).lead,.string (p).data]] [EnvP FT] [.row g 49 0 [] [.slice a1 n.tree.parent.length c1,.int .i64 n.source.window.trail,.int .i64 n.source.window.size,.slice a2 n.source.window.items.length c2,.int .i64 n.source.clock,.int .i64 n.source.quiet,.slice a3 n.source.holds.length c3,.slice a4 n.elements.length c4,.slice a5 n.receivers.length c5,.slice a6 n.down.length c6,.slice a7 n.up.length c7] [],.ow EInt 3 (.slice a1 n.tree.parent.length c1) n.tree.parent F1,.ow EStr 9 (.slice a2 n.source.window.items.length c2) n.source.window.items F2,.ow EHold 194 (.slice a3 n.source.holds.length c3) n.source.holds F3,.ow OElement 142 (.slice a4 n.elements.length c4) n.elements F4,.ow OReceiver 149 (.slice a5 n.receivers.length c5) n.receivers F5,.ow (OSl EPacket 127) 132 (.slice a6 n.down.length c6) n.down F6,.ow (OSl EPacket 127) 132 (.slice a7 n.up.length c7) n.up F7] (fun (_:NV × KA)=>True) (fun z=>.slice z.2.a (delivN n i p).2.length z.2.c) (fun z=>[.row g 49 0 [] [.slice z.1.a1 n.tree.parent.length z.1.c1,.int .i64 (delivN n i p).1.source.window.trail,.int .i64 (delivN n i p).1.source.window.size,.slice z.1.a2 (delivN n i p).1.source.window.items.length z.1.c2,.int .i64 (delivN n i p).1.source.clock,.int .i64 (delivN n i p).1.source.quiet,.slice z.1.a3 (delivN n i p).1.source.holds.length z.1.c3,.slice z.1.a4 n.elements.length z.1.c4,.slice z.1.a5 n.receivers.length z.1.c5,.slice z.1.a6 n.down.length z.1.c6,.slice z.1.a7 n.up.length z.1.c7] [],.ow EInt 3 (.slice z.1.a1 n.tree.parent.length z.1.c1) (delivN n i p).1.tree.parent z.1.F1,.ow EStr 9 (.slice z.1.a2 (delivN n i p).1.source.window.items.length z.1.c2) (delivN n i p).1.source.window.items z.1.F2,.ow EHold 194 (.slice z.1.a3 (delivN n i p).1.source.holds.length z.1.c3) (delivN n i p).1.source.holds z.1.F3,.ow OElement 142 (.slice z.1.a4 n.elements.length z.1.c4) (delivN n i p).1.elements z.1.F4,.ow OReceiver 149 (.slice z.1.a5 n.receivers.length z.1.c5) (delivN n i p).1.receivers z.1.F5,.ow (OSl EPacket 127) 132 (.slice z.1.a6 n.down.length z.1.c6) (delivN n i p).1.down z.1.F6,.ow (OSl EPacket 127) 132 (.slice z.1.a7 n.up.length z.1.c7) (delivN n i p).1.up z.1.F7,.ow EStr 9 (.slice z.2.a (delivN n i p).2.length z.2.c) (delivN n i p).2 z.2.F]):=by
 obtain ⟨q1,q2,q3,q4⟩:=lensN_iff.1 hl
 have hn8:=h8.n1
 obtain ⟨d0,d1_⟩:=dly_bd (i:=i)
 refine enter Tryz.func194 rfl Tryz.ntmps194 fun w0=>?_
 refine go ?_;intros
 refine cfr (fun w st=>by obtain ⟨Fq,hq⟩:=rdTree (st.get (p:=.ow EInt 3 (.slice a1 n.tree.parent.length c1) n.tree.parent F1) (by exact memE));exact ⟨_,hol1 hq,rfl,isLeaf_f n.tree i _ Fq⟩) (fun _ _=>?_)
 refine t_app ?_
 cases hlf:leafT n.tree.parent (i:Nat)
 rotate_left
 ·have hir:i < n.receivers.length:=by omega
  have hgr:=goodR_iff.1 (rcAt_get hir▸hr hlf)
  have hev:=(hear_good (d:=dly i) hgr hp d0 d1_).2
  rw [show delivN n i p=(⟨n.tree,n.source,n.elements,n.receivers.set i (hearR n.receivers[i] p (dly i)),n.down,n.up⟩,tell i (hearE n.receivers[i] p)) by unfold delivN;rw [if_pos hlf,rcAt_get hir]]
  refine go ?_;intros
  refine focO (xs:=n.receivers) (m:=5) i ?_ rfl hir
  rintro _ g5 A5 cs B5 k1 k2 J1 Ji J2 rfl - hc5 hH5
  refine openOReceiver ?_
  rintro b1 d1 G1 b2 d2 G2 ev l1 l2
  obtain rfl:cs=[.bool n.receivers[i].started,.int .i64 n.receivers[i].clock,.int .i64 n.receivers[i].window.next,.slice b1 n.receivers[i].window.slots.length d1,.slice b2 n.receivers[i].requests.length d2]:=by simpa using ev
  refine d_start [5,6] [] ?_
  refine dt4 0 1 2 3 ?_
  refine dt4 4 5 6 7 ?_
  refine dt 8 ?_
  refine dN 9 ?_
  refine oC ?_
  refine cf (delayOf_f i (by omega)) fun _ _=>?_
  refine t_app ?_
  refine dk ?_
  refine dN 10 ?_
  refine oC ?_
  refine cf (Rhear_f n.receivers[i] p (dly i) g5 149 (0+i * 5) A5 B5 b1 d1 G1 b2 d2 G2 hgr hp d0 d1_) fun s _=>?_
  refine t_app ?_
  refine dk ?_
  refine dN 11 ?_
  refine oC ?_
  refine cfr (fun w st=>by obtain ⟨Fq, -,hq⟩:=(st.get (p:=.ow EStr 9 (.slice s.ae (hearE n.receivers[i] p).length s.ce) (hearE n.receivers[i] p) s.Fe) (by exact memE)).2.read;exact ⟨[.sl EStr (.slice s.ae (hearE n.receivers[i] p).length s.ce) (hearE n.receivers[i] p) Fq,EnvP FT],hol2 ⟨by decide,hq⟩ (st.get (p:=EnvP FT) (by exact memE)),rfl,told_f i _ _ _ Fq FT (by omega) (by omega) (hearE_size hgr hp)⟩) (fun u _=>?_)
  refine t_app ?_
  refine dk ?_
  refine dt 12 ?_
  refine dd ?_
  refine go ?_;intros
  refine closeOReceiver (hearR n.receivers[i] p (dly i)) ?_
  refine unfO _ hH5 rfl fun J5=>?_
  refine ret (⟨a1,c1,F1,a2,c2,F2,a3,c3,F3,a4,c4,F4,_,c5,J5,a6,c6,F6,a7,c7,F7⟩,⟨0,_,_,_⟩) trivial rfl
 ·have hir:i < n.elements.length:=by omega
  have hge:goodElement n.elements[i]=true:=elAt_get hir▸he hlf
  have hel:=(goodE_iff.1 hge).2.1
  have hkl:=kids_len n.tree.parent ((i:Nat):Int)
  have hkx:∀x∈kids n.tree.parent ((i:Nat):Int),0≤x∧x.toNat < n.down.length:=fun x hx=>by have:=kids_behind h8 hx;omega
  refine go ?_;intros
  refine cfr (fun w st=>by obtain ⟨Fq,hq⟩:=rdTree (st.get (p:=.ow EInt 3 (.slice a1 n.tree.parent.length c1) n.tree.parent F1) (by exact memE));exact ⟨_,hol1 hq,rfl,children_f n.tree ((i:Nat):Int) _ Fq (by show n.tree.parent.length≤1000000;omega)⟩) (fun u _=>?_)
  refine t_app ?_
  refine t_read (E:=EInt) (xs:=kids n.tree.parent ((i:Nat):Int)) fun Fk=>?_
  refine t_nilow EStr 9 ?_
  refine go ?_;intros
  refine c_if rfl (fun hk=>?_) (fun hk=>?_)
  ·rw [show delivN n i p=(⟨n.tree,n.source,n.elements.set i (repE n.elements[i] p.number),n.receivers,spread n.down (facE n.elements[i] p.number (kids n.tree.parent ((i:Nat):Int))) [p],n.up⟩,[]) by unfold delivN facN kidsN;rw [if_neg (by rw [hlf];decide),if_pos hk,if_pos hk,elAt_get hir]]
   refine go ?_;intros
   refine focO (xs:=n.elements) (m:=2) i ?_ rfl hir
   rintro _ g5 A5 cs B5 k1 k2 J1 Ji J2 rfl - hc5 hH5
   refine openOElement ?_
   rintro b1 d1 G1 ev l1
   obtain rfl:cs=[.int .i64 n.elements[i].clock,.slice b1 n.elements[i].entries.length d1]:=by simpa using ev
   refine d_start [6,7] [] ?_
   refine dt4 0 1 2 3 ?_
   refine dt4 4 5 6 7 ?_
   refine dt 8 ?_
   refine dN 9 ?_
   refine oC ?_
   refine cf (Erepair_f n.elements[i] p.number (kids n.tree.parent ((i:Nat):Int)) g5 142 (0+i * 2) A5 B5 b1 d1 G1 u.a u.c Fk (by omega) (fun x hx=>by have:=faces_len hge hx;omega) (by omega)) fun s _=>?_
   refine t_app ?_
   refine dk ?_
   refine dt 10 ?_
   refine dd ?_
   refine closeOElement (repE n.elements[i] p.number) ?_
   refine unfO _ hH5 rfl fun J5=>?_
   refine t_read (E:=EInt) (xs:=facE n.elements[i] p.number (kids n.tree.parent ((i:Nat):Int))) fun Fk2=>?_
   refine goN ?_;intros
   refine t_row (E:=EPacket) (xs:=[p]) (flatPacket p hps) ?_ (by simp)
   refine t_read (E:=EPacket) (xs:=[p]) fun Fp=>?_
   refine go ?_;intros
   refine cf (down_f n.down (facE n.elements[i] p.number (kids n.tree.parent ((i:Nat):Int))) [p] g _ _ _ _ _ _ _ _ _ _ a6 _ c6 F6 _ _ Fk2 _ _ Fp rfl (fun x hx=>hkx x (facE_sub x hx))) fun J6 _=>?_
   refine t_app ?_
   refine go ?_;intros
   refine ret (⟨a1,c1,F1,a2,c2,F2,a3,c3,F3,_,c4,J5,a5,c5,F5,a6,c6,J6,a7,c7,F7⟩,⟨0,none,0,[]⟩) trivial rfl
  ·rw [show delivN n i p=(⟨n.tree,n.source,n.elements,n.receivers,spread n.down (kids n.tree.parent ((i:Nat):Int)) [p],n.up⟩,[]) by unfold delivN facN kidsN;rw [if_neg (by rw [hlf];decide),if_neg hk,if_neg hk]]
   refine goN ?_;intros
   refine t_row (E:=EPacket) (xs:=[p]) (flatPacket p hps) ?_ (by simp)
   refine t_read (E:=EPacket) (xs:=[p]) fun Fp=>?_
   refine go ?_;intros
   refine cf (down_f n.down (kids n.tree.parent ((i:Nat):Int)) [p] g _ _ _ _ _ _ _ _ _ _ a6 _ c6 F6 _ _ Fk _ _ Fp rfl hkx) fun J6 _=>?_
   refine t_app ?_
   refine go ?_;intros
   refine ret (⟨a1,c1,F1,a2,c2,F2,a3,c3,F3,a4,c4,F4,a5,c5,F5,a6,c6,J6,a7,c7,F7⟩,⟨0,none,0,[]⟩) trivial rfl
theorem rep1_Hold (y:Hold) (w:World):Flat EHold w [.int .i64 y.number,.int .i64 y.untl] [y] []:=⟨_,[],[],[],by simp,by simp,⟨rfl,rfl⟩,rfl,rfl⟩
theorem InsHold_f (xs:List Hold) (y:Hold) (i:Nat) (a:Option Addr) (c vb:Nat) (F:List Nat) (hi:i≤xs.length) (hl:xs.length≤1000000) :
  Fn Tryz.prog 307 [.slice a xs.length c,.int .i64 i,.slice (some ⟨vb,0,none⟩) 1 1] [] [.ow EHold 194 (.slice a xs.length c) xs F,.row vb 194 0 [] [.int .i64 y.number,.int .i64 y.untl] []] (fun (_:Option Addr × Nat × List Nat)=>True)
   (fun z=>.slice z.1 (xs.take i++y::xs.drop i).length z.2.1) (fun z=>[.ow EHold 194 (.slice z.1 (xs.take i++y::xs.drop i).length z.2.1) (xs.take i++y::xs.drop i) z.2.2]):=by
 have hone:∀w':World,∀cs:List Value,Flat EHold w' cs xs []→∀u∈cs,u.oneCell'=true:=fun w' cs h=>h.one' one_EHold
 have hy:=rep1_Hold y
 have h1y:∀u∈([.int .i64 y.number,.int .i64 y.untl]:List Value),u.oneCell'=true:=by intro u hu;simp at hu;rcases hu with rfl|rfl|rfl|rfl <;> rfl
 refine enter Tryz.func307 rfl Tryz.ntmps307 fun w0=>?_
 refine t_cap (E:=EHold) fun hc1 hc2=>?_
 refine go ?_;intros
 apply wO
 refine o_slany rfl rfl rfl rfl hi (fun _=>?_) hc1
 refine go ?_;intros
 refine c_if rfl (fun h1=>?_) (fun h1=>?_)
 ·have hin:i=xs.length:=by omega
  subst hin
  have e:xs.take xs.length++y::xs.drop xs.length=xs++[y]:=by simp
  refine go ?_;intros
  apply wO
  refine ap1 hy one_EHold fun a2 c2 F2=>?_
  rw [e]
  refine go ?_;intros
  refine ret (a2,c2,F2) trivial rfl
 ·have hlt:i < xs.length:=by omega
  refine t_rowof (xs:=xs) scal_EHold (by rintro rfl;simp at hlt) ?_
  rintro g cs rest rfl - - - hcl hcr hfl
  rw [show EHold.sz=2 from rfl] at hcl hcr
  have h1c:=hone w0 cs (hfl w0)
  obtain ⟨A,B,hcs,hA,hB⟩:∃A B,cs=A++B∧A=cs.take (i * 2)∧B=cs.drop (i * 2):=⟨_,_,(List.take_append_drop _ _).symm,rfl,rfl⟩
  have hAl:A.length=i * 2:=by rw [hA,List.length_take];omega
  have hBl:B.length=(xs.length - i) * 2:=by rw [hB,List.length_drop];omega
  have hins:∀w,Flat EHold w (A++[.int .i64 y.number,.int .i64 y.untl]++B) (xs.take i++y::xs.drop i) []:=fun w=>by rw [hA,hB];exact (hfl w).insL (hy w) i hi
  have h1A:∀u∈A,u.oneCell'=true:=fun u hu=>h1c u (by rw [hcs];simp [hu])
  have h1B:∀u∈B,u.oneCell'=true:=fun u hu=>h1c u (by rw [hcs];simp [hu])
  have hlen:(xs.take i++y::xs.drop i).length=xs.length+1:=by simp;omega
  clear hA hB hfl hone
  subst hcs
  have eA:A=((A++B++rest).drop 0).take (i * 2):=by rw [List.drop_zero,List.append_assoc,List.take_left' hAl]
  have eB:B=((A++B++rest).drop (0+i * 2)).take ((xs.length - i) * 2):=by rw [Nat.zero_add,List.append_assoc,List.drop_left' hAl,List.take_left' hBl]
  rw [hlen]
  refine go ?_;intros
  apply wO;apply oc;rfl;exact yd_cap rfl
  refine go ?_;intros
  refine c_if rfl (fun h2=>?_) (fun h2=>?_)
  ·refine go ?_;intros
   apply wO;apply oc;rfl;exact yd_slt (i:=i) rfl rfl rfl (by omega) (by omega)
   refine go ?_;intros
   apply wO
   refine o_apgz (k:=xs.length+1 - i) (olds:=A) rfl rfl rfl (by omega) (src_row (m:=i * 2) (.head _) eA) (by omega) (by decide) (by omega) (by omega) (by omega) (by omega) fun g' cp' Z rest' h3 h4 h5 h6=>?_
   rw [show i+(xs.length+1 - i)=xs.length+1 by omega] at h3 ⊢
   obtain ⟨Z1,Z2,rfl,hZ1,hZ2⟩:∃Z1 Z2,Z=Z1++Z2∧Z1.length=2∧Z2.length=B.length:=⟨Z.take 2,Z.drop 2,(List.take_append_drop _ _).symm,by rw [List.length_take];omega,by rw [List.length_drop];omega⟩
   refine go ?_;intros
   apply wO;apply oc;rfl;exact yd_slv (i:=i) rfl rfl rfl (by omega) (by omega) (by omega)
   refine go ?_;intros
   apply wO
   refine o_cpy (cs:=[.int .i64 y.number,.int .i64 y.untl]) (L':=A++[.int .i64 y.number,.int .i64 y.untl]++(Z2++rest')) rfl rfl rfl (src_row (L:=[.int .i64 y.number,.int .i64 y.untl]) (o:=0) (m:=2) (by exact memE) rfl) .here (cpyM (M:=Z1) (by simp [List.append_assoc]) (by omega) (by simpa using hZ1)) (by show 2=min 1 (xs.length+1 - i) * 2;omega) (by simp only [List.length_append,List.length_cons,List.length_nil];omega) h1y ?_
   refine go ?_;intros
   refine d_start [] [] ?_
   refine dt4 0 1 2 3 ?_
   refine dt 4 ?_ (hy:=yd_slv (i:=i+1) rfl rfl (by omega) (by omega) (by omega) (by omega))
   refine dt2 5 6 ?_
   refine dt 7 ?_ (hy:=yd_slv (i:=i) rfl rfl (by omega) (by omega) (by omega) (by omega))
   refine dN 8 ?_
   refine o_cpy (cs:=B) (L':=A++[.int .i64 y.number,.int .i64 y.untl]++B++rest') rfl rfl rfl (src_row (by exact memE) eB) .here (cpyM (P:=A++[.int .i64 y.number,.int .i64 y.untl]) (M:=Z2) (by simp [List.append_assoc]) (by simp only [List.length_append,List.length_cons,List.length_nil];omega) hZ2) (by rw [hBl];congr 1;show _=min (xs.length - i) (xs.length+1 - (i+1));omega) (by simp only [List.length_append,List.length_cons,List.length_nil];omega) h1B ?_
   refine dk ?_
   refine dd ?_
   refine t_owof (cs:=A++[.int .i64 y.number,.int .i64 y.untl]++B) (rest:=rest') (xs:=xs.take i++y::xs.drop i) cp' rfl hins (by omega) h4 (by rw [show EHold.sz=2 from rfl];simp only [List.length_append,List.length_cons,List.length_nil] at h6 ⊢;omega) ?_
   rw [hlen]
   refine go ?_;intros
   refine ret (_,cp',[g']) trivial rfl
  ·have hcx:xs.length+1≤c:=by omega
   obtain ⟨X,Y,hXY,hX,hY⟩:=shiftL (B:=B) (R:=rest) 2 (by omega)
   refine go ?_;intros
   apply wO;apply oc;rfl;exact yd_slt (i:=xs.length+1) rfl rfl (by omega) (by omega) (by omega)
   refine go ?_;intros
   apply wO;apply oc;rfl;exact yd_slv (i:=i+1) rfl rfl (by omega) (by omega) (by omega) (by omega)
   refine goN ?_;intros
   apply wO
   refine o_ext rfl evsE (ovl (tS:=42) (tR:=4) (run_callFunc_extern Tryz.func327 (by kernel_rfl) (by kernel_rfl) (by kernel_rfl) (e:=Extern.SlicesOverlaps.overlaps #[42,42] #[4]) (by kernel_rfl)) (.there .here) (.head _) (by intro e;have:=congrArg List.length e;simp only [List.length_append,List.length_nil] at this;omega)) ?_
   refine go ?_;intros
   refine d_start [] [] ?_
   refine dt4 0 1 2 3 ?_
   refine dt 4 ?_ (hy:=yd_slv (i:=i+1) rfl rfl (by omega) (by omega) (by omega) (by omega))
   refine dt2 5 6 ?_
   refine dt 7 ?_ (hy:=yd_slv (i:=i) rfl rfl (by omega) (by omega) (by omega) (by omega))
   refine dN 8 ?_
   refine o_cpy (cs:=B) (L':=A++X++B++rest.drop 2) rfl rfl rfl (src_row (by exact memE) eB) .here (cpyM (P:=A++X) (M:=Y) (by rw [List.append_assoc A B rest,hXY];simp [List.append_assoc]) (by simp only [List.length_append];omega) hY) (by rw [hBl];congr 1;show _=min (xs.length+1 - i) (xs.length+1 - (i+1));omega) (by simp only [List.length_append];omega) h1B ?_
   refine dk ?_
   refine dd ?_
   refine go ?_;intros
   apply wO;apply oc;rfl;exact yd_slv (i:=i) rfl rfl rfl (by omega) (by omega) (by omega)
   refine go ?_;intros
   apply wO
   refine o_cpy (cs:=[.int .i64 y.number,.int .i64 y.untl]) (L':=A++[.int .i64 y.number,.int .i64 y.untl]++(B++rest.drop 2)) rfl rfl rfl (src_row (L:=[.int .i64 y.number,.int .i64 y.untl]) (o:=0) (m:=2) (by exact memE) rfl) .here (cpyM (M:=X) (by simp [List.append_assoc]) (by omega) (by simpa using hX)) (by show 2=min 1 (xs.length+1 - i) * 2;omega) (by simp only [List.length_append,List.length_cons,List.length_nil];omega) h1y ?_
   refine go ?_;intros
   refine t_owof (L:=A++[.int .i64 y.number,.int .i64 y.untl]++(B++rest.drop 2)) (cs:=A++[.int .i64 y.number,.int .i64 y.untl]++B) (rest:=rest.drop 2) (xs:=xs.take i++y::xs.drop i) c (by simp [List.append_assoc]) hins (by omega) (by omega) (by rw [show EHold.sz=2 from rfl];simp only [List.length_append,List.length_cons,List.length_nil,List.length_drop];omega) ?_
   rw [hlen]
   refine ret (_,c,[g]) trivial rfl
instance:IntC Tryz.prog 351 .u64:=⟨Tryz.underlying351⟩
theorem SrchHold_f (fid:FuncId) (caps:List Value) (A:List Pc) (hA:A.all (fun p=>!p.mu)=true) (xs:List Hold) (a:Option Addr) (c:Nat) (F:List Nat) (tv:Value) (f:Hold→Int) (hm:∀i j (_:i≤j) (hj:j < xs.length),f xs[j] < 0→f (xs[i]'(by omega)) < 0) (hb:bodyB Tryz.prog fid=true) (hl:xs.length≤1000000)
  (hp:∀x∈xs,∀w,Hol A w→Calls Tryz.prog fid ([.agg #[.int .i64 x.number,.int .i64 x.untl],tv]++caps).toArray w fun e w'=>e=.returned (.int .i64 (f x))∧Below w.heap.size w w') :
  Fn Tryz.prog 325 [.slice a xs.length c,tv,.func (.func fid) #[] caps.toArray] (.sl EHold (.slice a xs.length c) xs F::A) [] (fun (_:Unit)=>True) (fun _=>.tuple #[.int .i64 ((xs.takeWhile fun x=>decide (f x < 0)).length:Nat),.bool (hitB f xs[(xs.takeWhile fun x=>decide (f x < 0)).length]?)]) (fun _=>[]):=by
 refine enter Tryz.func325 rfl Tryz.ntmps325 (fun w0=>?_) rfl (by simpa [Pc.mu] using hA) .nil
 refine go ?_;intros
 refine c_loopR [0,1,2,6,7,8] (fun s:Nat × Nat=>[(9,.int .i64 (s.1:Nat)),(10,.int .i64 (s.2:Nat))]) (fun s=>s.1≤s.2∧s.2≤xs.length∧(∀j (_:j < s.1) (h:j < xs.length),f xs[j] < 0)∧(∀j (_:s.2≤j) (h:j < xs.length),¬f xs[j] < 0)) (fun s=>s.2 - s.1) (0,xs.length) ⟨Nat.zero_le _,Nat.le_refl _,fun j h=>by omega,fun j h1 h2=>by omega⟩ fun s hs=>?_
 obtain ⟨i,j⟩:=s
 obtain ⟨h1,h2,h3,h4⟩:=hs
 dsimp only at h1 h2 h3 h4 ⊢
 refine go ?_;intros
 refine c_if rfl (fun h5=>?_) (fun h5=>?_)
 ·have hh:(i+j) / 2 < xs.length:=by omega
  have e2:((i:Int)+(j:Int)) / 2=(((i+j) / 2:Nat):Int):=by omega
  refine go ?_;intros
  apply wO;apply oc;rfl;exact yd_cvu rfl (by omega) (by omega)
  refine go ?_;intros
  apply wO;apply oc;rfl;exact yd_shr1 rfl
  rw [e2]
  apply wO;apply oc;rfl;exact yd_cv rfl (by omega) (by omega)
  generalize hq:(i+j) / 2=q at hh
  refine go ?_;intros
  refine atHold (xs:=xs) q ?_
  rintro hi b o e
  rw [e]
  refine go ?_;intros
  apply wO
  refine o_callv rfl rfl hb evsE ?_
  refine cb (fun w st=>hp xs[q] (List.getElem_mem hh) w (fun p hp=>st.on p (by simp [hp]))) ?_
  refine go ?_;intros
  refine c_if rfl (fun h6=>?_) (fun h6=>?_)
  ·refine go ?_;intros
   refine t_drop ?_
   refine n_lp (hH:=hsub_refl _) (q+1,j) ⟨by show q+1≤j;omega,h2,fun k hk h=>hm k q (by have:k < q+1:=hk;omega) hh h6,h4⟩ (by show j - (q+1) < j - i;omega)
  ·refine go ?_;intros
   refine t_drop ?_
   refine n_lp (hH:=hsub_refl _) (i,q) ⟨by show i≤q;omega,by show q≤xs.length;omega,h3,fun k hk h hn=>h6 (hm q k hk h hn)⟩ (by show q - i < j - i;omega)
 ·have hij:i=j:=by omega
  subst hij
  have hk:(xs.takeWhile fun x=>decide (f x < 0)).length=i:=tw_len h2 (fun j hj h=>decide_eq_true (h3 j hj h)) (fun h=>decide_eq_false (h4 i (Nat.le_refl _) h))
  rw [hk]
  refine go ?_;intros
  refine wg_if rfl rfl (fun h6=>?_) (fun h6=>?_)
  ·have hh:i < xs.length:=by omega
   rw [List.getElem?_eq_getElem hh]
   refine go ?_;intros
   refine atHold (xs:=xs) i ?_
   rintro hi b o e
   rw [e]
   refine go ?_;intros
   apply wO
   refine o_callv rfl rfl hb evsE ?_
   refine cb (fun w st=>hp xs[i] (List.getElem_mem hh) w (fun p hp=>st.on p (by simp [hp]))) ?_
   refine go ?_;intros
   refine ret () trivial rfl
  ·rw [List.getElem?_eq_none (by omega)]
   refine go ?_;intros
   refine ret () trivial rfl
theorem ans_size {W:SendWindow} {p:Packet} (hg:goodWin W=true):(resAnswer W p).1.data.size≤maxLen:=by
 unfold resAnswer
 split
 ·rename_i h
  unfold okAnswer at h
  simp only [Bool.and_eq_true] at h
  have hk:=held_lt h.2
  show (itemAt W p.number).size≤maxLen
  rw [itemAt_lt hk]
  have:=List.all_eq_true.1 (goodWin_iff.1 hg).2.2.2 _ (List.getElem_mem hk)
  unfold itm at this
  simp only [Bool.and_eq_true,decide_eq_true_eq] at this
  unfold maxLen
  omega
 ·decide
theorem srch_hold {t n:Int} {hs:List Hold} (hser:∀h∈hs,isSer h.number=true) (hn:0≤n∧n≤65535):(hs.takeWhile fun x=>decide (gp t x.number - gp t n < 0)).length=holdAt t hs n ∧
  hitB (fun x:Hold=>gp t x.number - gp t n) hs[(hs.takeWhile fun x=>decide (gp t x.number - gp t n < 0)).length]?=thereB t hs n:=by
 have e:(fun x:Hold=>decide (gp t x.number - gp t n < 0))=fun h=>decide (gp t h.number < gp t n):=by
  funext x;rw [decide_eq_decide];omega
 have e1:(hs.takeWhile fun x=>decide (gp t x.number - gp t n < 0)).length=holdAt t hs n:=by unfold holdAt;rw [e]
 refine ⟨e1,?_⟩
 rw [e1]
 unfold thereB
 cases hq:hs[holdAt t hs n]? with
 | none=>rfl
 | some z =>
  show decide (gp t z.number - gp t n=0)=decide (z.number=n)
  rw [decide_eq_decide]
  have hz:=isSer_iff.1 (hser z (List.mem_of_getElem? hq))
  exact ⟨fun h=>gp_inj (t:=t) hz hn (by omega),fun h=>by rw [h];omega⟩
theorem fh1_f (h:Hold) (n t:Int) (gb g o:Nat) (v1 v2 v3 v4 v5:Value) (t0:0≤t) (t1:t≤65535) (n0:0≤n) (n1:n≤65535) (m0:0≤h.number) (m1:h.number≤65535) :
  Fn Tryz.prog 326 [.agg #[.int .i64 h.number,.int .i64 h.untl],.int .i64 n,ptr gb 0 0] [.cel gb 0 [ptr g o 0],.cel g o [.int .i64 t,v1,v2,v3,v4,v5]] [] (fun (_:Unit)=>True) (fun _=>.int .i64 (gp t h.number - gp t n)) (fun _=>[]):=by
 have b1:=gp_bd t h.number
 have b2:=gp_bd t n
 refine enter Tryz.func326 rfl Tryz.ntmps326 fun w0=>?_
 refine go ?_;intros
 refine d_start [0,1,2] [] ?_
 refine dt4 0 1 2 3 ?_
 refine dt4 4 5 6 8 ?_
 refine dt4 9 10 11 12 ?_
 refine dt 13 ?_
 refine dN 7 ?_
 refine oC ?_
 refine ce (fun w s=>gap_c _ _ _ (by omega) (by omega) (by omega) (by omega)) ?_
 refine dk ?_
 refine dN 14 ?_
 refine oC ?_
 refine ce (fun w s=>gap_c _ _ _ (by omega) (by omega) (by omega) (by omega)) ?_
 refine dk ?_
 refine dt2 15 16 ?_
 refine dd ?_
 refine go ?_;intros
 refine ret () trivial rfl
theorem findHold_f (W:SendWindow) (hs:List Hold) (n:Int) (g t o:Nat) (A B:List Value) (a a2:Option Addr) (c c2:Nat) (cl q:Int) (F2:List Nat) (t0:0≤W.trail) (t1:W.trail≤65535) (n0:0≤n) (n1:n≤65535) (hser:∀h∈hs,isSer h.number=true) (hsr:srt W.trail hs) (hl:hs.length≤1000000) :
  Fn Tryz.prog 306 [ptr g o 0,.int .i64 n] [] [.row g t o A [.int .i64 W.trail,.int .i64 W.size,.slice a W.items.length c,.int .i64 cl,.int .i64 q,.slice a2 hs.length c2] B,.ow EHold 194 (.slice a2 hs.length c2) hs F2] (fun (_:Unit)=>True) (fun _=>.tuple #[.int .i64 (holdAt W.trail hs n:Nat),.bool (thereB W.trail hs n)]) (fun _=>[.row g t o A [.int .i64 W.trail,.int .i64 W.size,.slice a W.items.length c,.int .i64 cl,.int .i64 q,.slice a2 hs.length c2] B,.ow EHold 194 (.slice a2 hs.length c2) hs F2]):=by
 have hs1:=srch_hold (t:=W.trail) hser ⟨n0,n1⟩
 refine enter Tryz.func306 rfl Tryz.ntmps306 fun w0=>?_
 refine go ?_;intros
 rename_i gb
 refine cb (fun w st=>by
  have r1:=st.get (p:=.row gb 236 0 [] [ptr g o 0] []) (by simp)
  have r2:=st.get (p:=.row g t o A [.int .i64 W.trail,.int .i64 W.size,.slice a W.items.length c,.int .i64 cl,.int .i64 q,.slice a2 hs.length c2] B) (by simp)
  obtain ⟨Fw, -,hw⟩:=(st.get (p:=.ow EHold 194 (.slice a2 hs.length c2) hs F2) (by simp)).2.read
  refine (SrchHold_f 326 [ptr gb 0 0] [.cel gb 0 [ptr g o 0],.cel g o [.int .i64 W.trail,.int .i64 W.size,.slice a W.items.length c,.int .i64 cl,.int .i64 q,.slice a2 hs.length c2]] rfl hs a2 c2 Fw (.int .i64 n) (fun h=>gp W.trail h.number - gp W.trail n) (fun i j hij hj h=>?_) (by kernel_rfl) hl fun x hx w' hA=>?_).val w ?_
  ·rcases Nat.lt_or_eq_of_le hij with h2|rfl
   ·have:=List.pairwise_iff_getElem.1 hsr i j (by omega) hj h2;omega
   ·exact h
  ·obtain ⟨m0,m1⟩:=isSer_iff.1 (hser x hx)
   exact (fh1_f x n W.trail gb g o _ _ _ _ _ t0 t1 n0 n1 m0 m1).val w' hA
  ·intro p hp
   simp only [List.mem_cons,List.not_mem_nil,or_false] at hp
   rcases hp with rfl|rfl|rfl
   ·exact ⟨by decide,hw⟩
   ·exact ⟨by simp,row_range r1⟩
   ·exact ⟨by simp,row_range r2⟩) ?_
 rw [hs1.2]
 rw [hs1.1]
 refine go ?_;intros
 refine ret () trivial rfl
structure ReS where
 a:Option Addr
 c:Nat
 a2:Option Addr
 c2:Nat
 F:List Nat
 ae:Option Addr
 ce:Nat
 Fe:List Nat
theorem Srequest_f (W:SendWindow) (hs:List Hold) (p:Packet) (g t o:Nat) (A B:List Value) (a a2:Option Addr) (c c2:Nat) (cl q:Int) (F F2:List Nat) (hg:goodSrc ⟨W,cl,q,hs⟩=true) (n0:0≤p.number) (n1:p.number≤65535) (hps:p.data.size≤maxLen) :
  Fn Tryz.prog 265 [ptr g o 0,.agg #[.int .i64 p.kind,.int .i64 p.number,.int .i64 p.trail,.int .i64 p.lead,.string p.data]] [] [.row g t o A [.int .i64 W.trail,.int .i64 W.size,.slice a W.items.length c,.int .i64 cl,.int .i64 q,.slice a2 hs.length c2] B,.ow EHold 194 (.slice a2 hs.length c2) hs F2,.ow EStr 9 (.slice a W.items.length c) W.items F] (fun (_:ReS)=>True)
   (fun z=>.slice z.ae (reqP ⟨W,cl,q,hs⟩ p).length z.ce) (fun z=>[.row g t o A [.int .i64 W.trail,.int .i64 W.size,.slice a W.items.length c,.int .i64 cl,.int .i64 q,.slice z.a2 (reqS ⟨W,cl,q,hs⟩ p.number).holds.length z.c2] B,.ow EHold 194 (.slice z.a2 (reqS ⟨W,cl,q,hs⟩ p.number).holds.length z.c2) (reqS ⟨W,cl,q,hs⟩ p.number).holds z.F,.ow EStr 9 (.slice a W.items.length c) W.items F,.ow EPacket 127 (.slice z.ae (reqP ⟨W,cl,q,hs⟩ p).length z.ce) (reqP ⟨W,cl,q,hs⟩ p) z.Fe]):=by
 obtain ⟨gw,hl,t0,t1,k0,k1,hm,hn,hu,hbb⟩:=goodS_of hg
 have hsr:=(goodSrc_iff.1 hg).2.2.2.2
 dsimp only at gw hl t0 t1 k0 k1 hm hn hu hbb hsr
 have hl2:hs.length≤1000000:=by omega
 have hW:goodWin W=true:=gw
 refine enter Tryz.func265 rfl Tryz.ntmps265 fun w0=>?_
 cases hb:heldB W p.number
 ·have e1:reqS ⟨W,cl,q,hs⟩ p.number=⟨W,cl,q,hs⟩:=by unfold reqS;dsimp only;rw [hb];rfl
  have e2:reqP ⟨W,cl,q,hs⟩ p=[statP W]:=by unfold reqP;dsimp only;rw [hb];rfl
  rw [e1,e2]
  refine go ?_;intros
  refine d_start [0,1] [] ?_
  refine dt4 0 1 2 3 ?_
  refine dt2 4 5 ?_
  refine dN 6 ?_
  refine oC ?_
  refine cb (fun w st=>by obtain ⟨Fw, -,hw⟩:=(st.get (p:=.ow EStr 9 (.slice a W.items.length c) W.items F) (by simp)).2.read;exact (isHeld_f W p.number (.agg #[.int .i64 W.trail,.int .i64 W.size,.slice a W.items.length c]) Fw t0 t1 n0 n1).val w (hol1 ⟨_,rfl,_,rfl,hw⟩)) ?_
  rw [hb]
  refine dk ?_
  refine dt 7 ?_
  refine dd ?_
  refine go ?_;intros
  refine cf (status_f W.trail W.size a W.items.length c t0 t1 (by omega)) fun _ _=>?_
  refine t_app ?_
  refine go ?_;intros
  refine t_row (xs:=[statP W]) (flatPacket _ (by show (⟨#[]⟩:ByteArray).size≤maxLen;decide)) ?_ (by simp)
  refine ret ⟨a,c,a2,c2,F2,_,_,_⟩ trivial rfl
 refine go ?_;intros
 refine d_start [0,1] [] ?_
 refine dt4 0 1 2 3 ?_
 refine dt2 4 5 ?_
 refine dN 6 ?_
 refine oC ?_
 refine cb (fun w st=>by obtain ⟨Fw, -,hw⟩:=(st.get (p:=.ow EStr 9 (.slice a W.items.length c) W.items F) (by simp)).2.read;exact (isHeld_f W p.number (.agg #[.int .i64 W.trail,.int .i64 W.size,.slice a W.items.length c]) Fw t0 t1 n0 n1).val w (hol1 ⟨_,rfl,_,rfl,hw⟩)) ?_
 rw [hb]
 refine dk ?_
 refine dt 7 ?_
 refine dd ?_
 refine go ?_;intros
 refine d_start [0,1] [] ?_
 refine dt4 0 1 2 3 ?_
 refine dt4 4 5 6 7 ?_
 refine dt2 8 9 ?_
 refine dt 10 ?_
 refine dN 11 ?_
 refine oC ?_
 refine cb (fun w _=>SendWindow_lead_c _ _ _ _ _ w t0 t1 (by omega)) ?_
 refine dk ?_
 refine dt 12 ?_
 refine dN 13 ?_
 apply o_bs;rfl;rfl;rfl;rfl;exact rptE;exact filE;intro _
 refine dk ?_
 refine dt 14 ?_
 refine dd ?_
 refine goN ?_;intros
 refine t_row (xs:=[confP W p.number]) (flatPacket _ (by show (⟨#[]⟩:ByteArray).size≤maxLen;decide)) ?_ (by simp)
 refine go ?_;intros
 refine cf (findHold_f W hs p.number g t o A B a a2 c c2 cl q F2 t0 t1 n0 n1 hn hsr hl2) fun _ _=>?_
 refine t_app ?_
 cases ht:thereB W.trail hs p.number
 ·have e1:reqS ⟨W,cl,q,hs⟩ p.number=⟨W,cl,q,addHold hs (holdAt W.trail hs p.number) ⟨p.number,cl+3⟩⟩:=by unfold reqS;dsimp only;rw [hb,ht];rfl
  have e2:reqP ⟨W,cl,q,hs⟩ p=[confP W p.number]++[(resAnswer W p).1]:=by unfold reqP;dsimp only;rw [hb,ht];rfl
  rw [e1,e2]
  refine go ?_;intros
  refine d_start [0,3] [18] ?_
  refine dt4 0 1 2 3 ?_
  refine dt4 4 5 6 7 ?_
  refine dt4 8 9 10 11 ?_
  refine dt2 12 13 ?_
  refine dN 14 ?_
  apply o_bs;rfl;rfl;rfl;rfl;exact rptE;exact filE;intro _
  refine dk ?_
  refine dN 15 ?_
  refine oC ?_
  refine cf (InsHold_f hs ⟨p.number,cl+3⟩ (holdAt W.trail hs p.number) a2 c2 _ F2 (holdAt_le _ _ _) hl2) fun z _=>?_
  refine t_app ?_
  refine dk ?_
  refine dt2 16 17 ?_
  refine dN 18 ?_
  refine oS ?_
  refine dkx ?_
  refine dd ?_
  refine go ?_;intros
  refine d_start [1,3] [] ?_
  refine dt4 0 1 2 3 ?_
  refine dt 4 ?_
  refine dM 5 9 ?_ ?_
  ·refine oC ?_
   refine cb (fun w st=>by obtain ⟨Fw, -,hw⟩:=(st.get (p:=.ow EStr 9 (.slice a W.items.length c) W.items F) (by simp)).2.read;exact (AnswerTo_f W p (.agg #[.int .i64 W.trail,.int .i64 W.size,.slice a W.items.length c]) Fw hps).val w (hol1 ⟨_,rfl,_,rfl,hw⟩)) ?_
   refine dk ?_
   refine dt2 6 7 ?_
   refine dt 8 ?_
   refine dN 9 ?_
   apply o_alloc;rfl;intro _
   refine dk ?_
   refine dN 10 ?_
   refine oS ?_
   refine dk ?_
   refine dt 11 ?_
   refine dd ?_
   refine go ?_;intros
   apply wO
   refine ap1 (flatPacket (resAnswer W p).1 (ans_size hW)) one_EPacket fun a9 c9 F9=>?_
   refine go ?_;intros
   refine ret ⟨a,c,z.1,z.2.1,_,a9,c9,F9⟩ trivial rfl
  ·apply o_alloc;rfl;intro _
   refine dk ?_
   refine dN 5 ?_
   refine oC ?_
   refine cb (fun w st=>by obtain ⟨Fw, -,hw⟩:=(st.get (p:=.ow EStr 9 (.slice a W.items.length c) W.items F) (by simp)).2.read;exact (AnswerTo_f W p (.agg #[.int .i64 W.trail,.int .i64 W.size,.slice a W.items.length c]) Fw hps).val w (hol1 ⟨_,rfl,_,rfl,hw⟩)) ?_
   refine dk ?_
   refine dt2 6 7 ?_
   refine dt 8 ?_
   refine dN 10 ?_
   refine oS ?_
   refine dk ?_
   refine dt 11 ?_
   refine dd ?_
   refine go ?_;intros
   apply wO
   refine ap1 (flatPacket (resAnswer W p).1 (ans_size hW)) one_EPacket fun a9 c9 F9=>?_
   refine go ?_;intros
   refine ret ⟨a,c,z.1,z.2.1,_,a9,c9,F9⟩ trivial rfl
 ·have e1:reqS ⟨W,cl,q,hs⟩ p.number=⟨W,cl,q,hs⟩:=by unfold reqS;dsimp only;rw [hb,ht];rfl
  have e2:reqP ⟨W,cl,q,hs⟩ p=[confP W p.number]:=by unfold reqP;dsimp only;rw [hb,ht];rfl
  rw [e1,e2]
  refine go ?_;intros
  refine ret ⟨a,c,a2,c2,F2,_,_,_⟩ trivial rfl
theorem reqS_w (x:Source) (n:Int):(reqS x n).window=x.window:=by unfold reqS;split <;> rfl
theorem reqS_c (x:Source) (n:Int):(reqS x n).clock=x.clock:=by unfold reqS;split <;> rfl
theorem reqS_q (x:Source) (n:Int):(reqS x n).quiet=x.quiet:=by unfold reqS;split <;> rfl
theorem par_get {n:Net} {i k:Nat} (hg:GoodT n.tree.parent) (hi:i < n.tree.parent.length) (h0:i≠0) (h:parN n i=k):n.tree.parent[i]=((k:Nat):Int)∧k < i∧leafT n.tree.parent ((k:Nat):Int)=false:=by
 have h1:=hg.p i hi (by omega)
 have e:n.tree.parent.getD i 0=n.tree.parent[i]:=getN hi 0
 unfold parN at h
 rw [e] at h
 have e2:n.tree.parent[i]=((k:Nat):Int):=by omega
 refine ⟨e2,by omega,?_⟩
 unfold leafT
 rw [←e2,decide_eq_true (List.getElem_mem hi)];rfl
theorem upward_f (n:Net) (i:Nat) (p:Packet) (g:Nat) (a1:Option Addr) (c1:Nat) (F1:List Nat) (a2:Option Addr) (c2:Nat) (F2:List Nat) (a3:Option Addr) (c3:Nat) (F3:List Nat) (a4:Option Addr) (c4:Nat) (F4:List Nat) (a5:Option Addr) (c5:Nat) (F5:List Nat) (a6:Option Addr) (c6:Nat) (F6:List Nat) (a7:Option Addr) (c7:Nat) (F7:List Nat) (hl:lensN n=true) (h0:i≠0) (hi:i < n.tree.parent.length) (h8:GoodT n.tree.parent) (hsrc:goodSrc n.source=true) (he:∀k,k≠0→k < n.tree.parent.length→leafT n.tree.parent (k:Nat)=false→goodElement (elAt n k)=true) (hp:goodPk p=true) (hps:p.data.size≤maxLen) :
  Fn Tryz.prog 195 [ptr g 0 0,.int .i64 (i:Nat),.agg #[.int .i64 (p).kind,.int .i64 (p).number,.int .i64 (p).trail,.int .i64 (p).lead,.string (p).data]] [] [.row g 49 0 [] [.slice a1 n.tree.parent.length c1,.int .i64 n.source.window.trail,.int .i64 n.source.window.size,.slice a2 n.source.window.items.length c2,.int .i64 n.source.clock,.int .i64 n.source.quiet,.slice a3 n.source.holds.length c3,.slice a4 n.elements.length c4,.slice a5 n.receivers.length c5,.slice a6 n.down.length c6,.slice a7 n.up.length c7] [],.ow EInt 3 (.slice a1 n.tree.parent.length c1) n.tree.parent F1,.ow EStr 9 (.slice a2 n.source.window.items.length c2) n.source.window.items F2,.ow EHold 194 (.slice a3 n.source.holds.length c3) n.source.holds F3,.ow OElement 142 (.slice a4 n.elements.length c4) n.elements F4,.ow OReceiver 149 (.slice a5 n.receivers.length c5) n.receivers F5,.ow (OSl EPacket 127) 132 (.slice a6 n.down.length c6) n.down F6,.ow (OSl EPacket 127) 132 (.slice a7 n.up.length c7) n.up F7] (fun (_:NV)=>True) (fun _=>.tuple #[]) (fun z=>[.row g 49 0 [] [.slice z.a1 n.tree.parent.length z.c1,.int .i64 (upN n i p).source.window.trail,.int .i64 (upN n i p).source.window.size,.slice z.a2 (upN n i p).source.window.items.length z.c2,.int .i64 (upN n i p).source.clock,.int .i64 (upN n i p).source.quiet,.slice z.a3 (upN n i p).source.holds.length z.c3,.slice z.a4 n.elements.length z.c4,.slice z.a5 n.receivers.length z.c5,.slice z.a6 n.down.length z.c6,.slice z.a7 n.up.length z.c7] [],.ow EInt 3 (.slice z.a1 n.tree.parent.length z.c1) (upN n i p).tree.parent z.F1,.ow EStr 9 (.slice z.a2 (upN n i p).source.window.items.length z.c2) (upN n i p).source.window.items z.F2,.ow EHold 194 (.slice z.a3 (upN n i p).source.holds.length z.c3) (upN n i p).source.holds z.F3,.ow OElement 142 (.slice z.a4 n.elements.length z.c4) (upN n i p).elements z.F4,.ow OReceiver 149 (.slice z.a5 n.receivers.length z.c5) (upN n i p).receivers z.F5,.ow (OSl EPacket 127) 132 (.slice z.a6 n.down.length z.c6) (upN n i p).down z.F6,.ow (OSl EPacket 127) 132 (.slice z.a7 n.up.length z.c7) (upN n i p).up z.F7]):=by
 obtain ⟨q1,q2,q3,q4⟩:=lensN_iff.1 hl
 have hn8:=h8.n1
 obtain ⟨n0,n1⟩:=goodPk_num hp
 have hone:∀x∈[((i:Nat):Int)],0≤x∧x.toNat < n.down.length:=fun x hx=>by
  rw [List.mem_singleton] at hx;subst hx;omega
 obtain ⟨k,hk⟩:∃k,parN n i=k:=⟨_,rfl⟩
 obtain ⟨e1,e2,e3⟩:=par_get h8 hi h0 hk
 refine enter Tryz.func195 rfl Tryz.ntmps195 fun w0=>?_
 refine focF (xs:=n.tree.parent) (m:=1) scal_EInt i ?_ (by repeat (first|exact .here|apply Pick.there)) rfl hi
 rintro _ gp A0 cs B0 rfl rfl hr hH
 obtain ⟨rfl, -⟩:=hr w0
 rw [e1]
 refine go ?_;intros
 refine unfF ((k:Nat):Int) hH (fun w=>⟨rfl,rfl⟩) ?_
 rw [show n.tree.parent.set i ((k:Nat):Int)=n.tree.parent by rw [←e1,List.set_getElem_self]]
 refine c_if rfl (fun h5=>?_) (fun h5=>?_)
 ·obtain rfl:k=0:=by omega
  rw [show upN n i p=⟨n.tree,reqS n.source p.number,n.elements,n.receivers,spread n.down [((i:Nat):Int)] (reqP n.source p),n.up⟩ by unfold upN;rw [if_pos hk]]
  dsimp only
  rw [reqS_w,reqS_c,reqS_q]
  refine go ?_;intros
  refine t_rin [.slice (some ⟨gp,0,none⟩) n.tree.parent.length c1] [.int .i64 n.source.window.trail,.int .i64 n.source.window.size,.slice a2 n.source.window.items.length c2,.int .i64 n.source.clock,.int .i64 n.source.quiet,.slice a3 n.source.holds.length c3] [.slice a4 n.elements.length c4,.slice a5 n.receivers.length c5,.slice a6 n.down.length c6,.slice a7 n.up.length c7] ?_
  refine d_start [2] [] ?_
  refine dt4 0 1 3 4 ?_
  refine dt2 5 6 ?_
  refine dM 2 7 ?_ ?_
  ·apply o_bs;rfl;rfl;rfl;rfl;exact rptE;exact filE;intro _
   refine t_row (E:=EInt) (xs:=[((i:Nat):Int)]) (rep_i _) ?_ (by simp)
   refine t_read (E:=EInt) (xs:=[((i:Nat):Int)]) fun Fo=>?_
   refine dk ?_
   refine dN 7 ?_
   refine oC ?_
   refine cf (Srequest_f n.source.window n.source.holds p g 49 (0+1) _ _ a2 a3 c2 c3 n.source.clock n.source.quiet F2 F3 hsrc n0 n1 hps) fun z _=>?_
   refine t_app ?_
   refine t_rout [.slice (some ⟨gp,0,none⟩) n.tree.parent.length c1] [.int .i64 n.source.window.trail,.int .i64 n.source.window.size,.slice a2 n.source.window.items.length c2,.int .i64 n.source.clock,.int .i64 n.source.quiet,.slice z.a2 (reqS n.source p.number).holds.length z.c2] [.slice a4 n.elements.length c4,.slice a5 n.receivers.length c5,.slice a6 n.down.length c6,.slice a7 n.up.length c7] ?_
   refine t_read (E:=EPacket) (xs:=reqP n.source p) fun Fq=>?_
   refine dk ?_
   refine dN 8 ?_
   refine oC ?_
   refine cf (down_f n.down [((i:Nat):Int)] (reqP n.source p) g _ _ _ _ _ _ _ _ _ _ a6 _ c6 F6 _ _ Fo _ _ Fq rfl hone) fun J6 _=>?_
   refine t_app ?_
   refine dk ?_
   refine dd ?_
   refine go ?_;intros
   refine ret (⟨some ⟨gp,0,none⟩,c1,[gp],a2,c2,F2,z.a2,z.c2,z.F,a4,c4,F4,a5,c5,F5,a6,c6,J6,a7,c7,F7⟩:NV) trivial rfl
  ·refine oC ?_
   refine cf (Srequest_f n.source.window n.source.holds p g 49 (0+1) _ _ a2 a3 c2 c3 n.source.clock n.source.quiet F2 F3 hsrc n0 n1 hps) fun z _=>?_
   refine t_app ?_
   refine t_rout [.slice (some ⟨gp,0,none⟩) n.tree.parent.length c1] [.int .i64 n.source.window.trail,.int .i64 n.source.window.size,.slice a2 n.source.window.items.length c2,.int .i64 n.source.clock,.int .i64 n.source.quiet,.slice z.a2 (reqS n.source p.number).holds.length z.c2] [.slice a4 n.elements.length c4,.slice a5 n.receivers.length c5,.slice a6 n.down.length c6,.slice a7 n.up.length c7] ?_
   refine t_read (E:=EPacket) (xs:=reqP n.source p) fun Fq=>?_
   refine dk ?_
   refine dN 2 ?_
   apply o_bs;rfl;rfl;rfl;rfl;exact rptE;exact filE;intro _
   refine t_row (E:=EInt) (xs:=[((i:Nat):Int)]) (rep_i _) ?_ (by simp)
   refine t_read (E:=EInt) (xs:=[((i:Nat):Int)]) fun Fo=>?_
   refine dk ?_
   refine dN 8 ?_
   refine oC ?_
   refine cf (down_f n.down [((i:Nat):Int)] (reqP n.source p) g _ _ _ _ _ _ _ _ _ _ a6 _ c6 F6 _ _ Fo _ _ Fq rfl hone) fun J6 _=>?_
   refine t_app ?_
   refine dk ?_
   refine dd ?_
   refine go ?_;intros
   refine ret (⟨some ⟨gp,0,none⟩,c1,[gp],a2,c2,F2,z.a2,z.c2,z.F,a4,c4,F4,a5,c5,F5,a6,c6,J6,a7,c7,F7⟩:NV) trivial rfl
 have h6:k≠0:=by omega
 have hkl:k < n.elements.length:=by omega
 have hku:k < n.up.length:=by omega
 have hge:goodElement n.elements[k]=true:=elAt_get hkl▸he k h6 (by omega) e3
 have hel:=(goodE_iff.1 hge).2.1
 obtain ⟨hc0,hc1⟩:=isClk_iff.1 (goodE_iff.1 hge).1
 rw [show upN n i p=⟨n.tree,n.source,n.elements.set k (reqE n.elements[k] p.number ((i:Nat):Int)),n.receivers,spread n.down [((i:Nat):Int)] [cnfP p],if fwdE n.elements[k] p.number then n.up.modify k fun q=>putQ q [p] else n.up⟩ by unfold upN;rw [if_neg (by omega),hk,elAt_get hkl]]
 refine go ?_;intros
 refine focO (xs:=n.elements) (m:=2) k ?_ rfl hkl
 rintro _ g5 A5 cs B5 k1 k2 J1 Ji J2 rfl - hc5 hH5
 refine openOElement ?_
 rintro b1 d1 G1 ev l1
 obtain rfl:cs=[.int .i64 n.elements[k].clock,.slice b1 n.elements[k].entries.length d1]:=by simpa using ev
 refine d_start [5,6] [] ?_
 refine dt4 0 1 2 3 ?_
 refine dt4 4 5 6 7 ?_
 refine dt 8 ?_
 refine dN 9 ?_
 refine oC ?_
 refine cf (Erequest_f n.elements[k] p.number ((i:Nat):Int) g5 142 (0+k * 2) A5 B5 b1 d1 G1 (by omega) (fun x hx=>⟨by have:=faces_len hge hx;omega,faces_pw hge hx⟩) (by omega) (by omega)) fun s _=>?_
 refine t_app ?_
 refine dk ?_
 refine dt 10 ?_
 refine dd ?_
 refine closeOElement (reqE n.elements[k] p.number ((i:Nat):Int)) ?_
 refine unfO _ hH5 rfl fun J5=>?_
 refine goN ?_;intros
 refine t_row (E:=EInt) (xs:=[((i:Nat):Int)]) (rep_i _) ?_ (by simp)
 refine t_read (E:=EInt) (xs:=[((i:Nat):Int)]) fun Fo=>?_
 refine t_row (E:=EPacket) (xs:=[cnfP p]) (flatPacket (cnfP p) (Nat.zero_le _)) ?_ (by simp)
 refine t_read (E:=EPacket) (xs:=[cnfP p]) fun Fp=>?_
 refine go ?_;intros
 refine cf (down_f n.down [((i:Nat):Int)] [cnfP p] g _ _ _ _ _ _ _ _ _ _ a6 _ c6 F6 _ _ Fo _ _ Fp rfl hone) fun J6 _=>?_
 refine t_app ?_
 cases hf:fwdE n.elements[k] p.number
 ·rw [if_neg (by decide)]
  refine go ?_;intros
  refine t_fall ?_
  refine ret (⟨some ⟨gp,0,none⟩,c1,[gp],a2,c2,F2,a3,c3,F3,_,c4,J5,a5,c5,F5,a6,c6,J6,a7,c7,F7⟩:NV) trivial rfl
 ·rw [if_pos rfl,show (n.up.modify k fun q=>putQ q [p])=n.up.set k (pushQ n.up[k] p) by rw [modify_set hku,putQ_one]]
  refine go ?_;intros
  refine d_start [0,6] [] ?_
  refine dt4 0 1 2 3 ?_
  refine dt2 4 5 ?_
  refine dN 6 ?_
  refine oC ?_
  refine cf (netPush_f n.up k p a7 _ c7 F7 rfl hku hps) fun J7 _=>?_
  refine t_app ?_
  refine dk ?_
  refine dd ?_
  refine go ?_;intros
  refine t_fall ?_
  refine ret (⟨some ⟨gp,0,none⟩,c1,[gp],a2,c2,F2,a3,c3,F3,_,c4,J5,a5,c5,F5,a6,c6,J6,a7,c7,J7⟩:NV) trivial rfl
def liveE (es:List Entry) (ck:Int):List Entry:=es.filter fun x=>!decide (x.untl≤ck)
theorem etick1_f (x:Entry) (ck:Int) (gb g o:Nat) (u q:Value) (G:List Nat):Fn Tryz.prog 206 [u,ptr gb 0 0] [.isv EEntry u x G,.cel gb 0 [ptr g o 0],.cel g o [.int .i64 ck,q]] [] (fun (_:Unit)=>True) (fun _=>.bool (decide (x.untl≤ck))) (fun _=>[]):=by
 refine enter Tryz.func206 rfl Tryz.ntmps206 fun w0=>?_
 refine openEntry ?_
 rintro a1 c1 F1 rfl l1
 refine go ?_;intros
 refine d_start [0,3,4] [] ?_
 refine dt4 0 1 2 3 ?_
 refine dt4 4 5 6 7 ?_
 refine dd ?_
 refine go ?_;intros
 refine ret () trivial rfl
theorem etickD_f (es:List Entry) (ck:Int) (gb tb g t o:Nat) (A B:List Value) (a:Option Addr) (c:Nat) (F:List Nat) :
  Fn Tryz.prog 205 [.slice a es.length c,.func (.func 206) #[] #[ptr gb 0 0]] [] [.ow OEntry 231 (.slice a es.length c) es F,.row gb tb 0 [] [ptr g o 0] [],.row g t o A [.int .i64 ck,.slice a es.length c] B] (fun (_:Option Addr × Nat × List Nat)=>True)
   (fun z=>.slice z.1 (liveE es ck).length z.2.1) (fun z=>[.ow OEntry 231 (.slice z.1 (liveE es ck).length z.2.1) (liveE es ck) z.2.2,.row gb tb 0 [] [ptr g o 0] [],.row g t o A [.int .i64 ck,.slice a es.length c] B]):=by
 refine fn_lib rfl fun w ⟨hnd,ho⟩ _ hk=>?_
 refine (DeleteFunc_Entry _ (body_of (by kernel_rfl)) #[ptr gb 0 0] _ es F (fun x=>decide (x.untl≤ck)) w ho hnd fun k hk2 wr u G hK hu=>?_).mono ?_
 ·have hr:=hk wr hK
  have r1:=hr (.row gb tb 0 [] [ptr g o 0] []) (by simp)
  have r2:=hr (.row g t o A [.int .i64 ck,.slice a es.length c] B) (by simp)
  refine (etick1_f es[k] ck gb g o u (.slice a es.length c) G).val wr ?_
  intro p hp
  simp only [List.mem_cons,List.not_mem_nil,or_false] at hp
  rcases hp with rfl|rfl|rfl
  ·exact hu
  ·exact ⟨by simp,row_range r1⟩
  ·exact ⟨by simp,row_range r2⟩
 ·rintro e w' ⟨v',F',rfl,h1,h2,h3,h4⟩
  obtain ⟨a',c',rfl⟩:=h1.slice
  exact ⟨(a',c',F'),trivial,rfl,⟨h2,h1⟩,fun b hb=>.inl (h3 b hb),h4⟩
theorem Etick_f (e:Element) (g t o:Nat) (A B:List Value) (a:Option Addr) (c:Nat) (F:List Nat) (h0:-1000000≤e.clock) (h1:e.clock≤1000000) :
  Fn Tryz.prog 129 [ptr g o 0] [] [.row g t o A [.int .i64 e.clock,.slice a e.entries.length c] B,.ow OEntry 231 (.slice a e.entries.length c) e.entries F] (fun (_:Option Addr × Nat × List Nat)=>True)
   (fun _=>.tuple #[]) (fun z=>[.row g t o A [.int .i64 (tickElement e).clock,.slice z.1 (tickElement e).entries.length z.2.1] B,.ow OEntry 231 (.slice z.1 (tickElement e).entries.length z.2.1) (tickElement e).entries z.2.2]):=by
 refine enter Tryz.func129 rfl Tryz.ntmps129 fun w0=>?_
 refine go ?_;intros
 refine d_start [0,1] [9] ?_
 refine dt4 0 1 2 3 ?_
 refine dt2 4 5 ?_
 refine dN 6 ?_
 refine oC ?_
 refine cf (etickD_f e.entries (e.clock+1) _ _ g t o A B a c F) fun z _=>?_
 refine t_app ?_
 refine dk ?_
 refine dt2 7 8 ?_
 refine dN 9 ?_
 refine oS ?_
 refine dkx ?_
 refine dd ?_
 refine t_fall ?_
 refine ret (_,_,_) trivial rfl
theorem good_tickE {e:Element} (h:goodElement e=true) (hc:e.clock < 9999):goodElement (tickElement e)=true:=by
 obtain ⟨h1,h2,h3,h4⟩:=goodE_iff.1 h
 have h5:=isClk_iff.1 h1
 unfold tickElement
 refine goodE_iff.2 ⟨isClk_iff.2 ⟨by show 0≤e.clock+1;omega,by show e.clock+1≤9999;omega⟩,Nat.le_trans (List.length_filter_le _ _) h2,fun x hx=>?_,h4.filter _⟩
 obtain ⟨hx1,hx2⟩:=List.mem_filter.1 hx
 obtain ⟨a,b,c,d,f⟩:=okEntry_iff.1 (h3 x hx1)
 simp only [Bool.not_eq_true',decide_eq_false_iff_not] at hx2
 exact okEntry_iff.2 ⟨a,b,c,by show e.clock+1+1≤x.untl;omega,by show x.untl≤e.clock+1+6;omega⟩
theorem mkPk {k n t l:Int} {s:ByteArray} (hk:1≤k∧k≤5) (hn:isSer n=true) (ht:isSer t=true) (hl:isSer l=true) (hg:gp t l≤32767) (hs:itm s=true) (he:s=⟨#[]⟩∨k≤2):goodPk ⟨k,n,t,l,s⟩=true:=by
 unfold goodPk btw
 simp only [Bool.and_eq_true,Bool.or_eq_true,decide_eq_true_eq]
 refine ⟨⟨⟨⟨⟨⟨hk,hn⟩,ht⟩,hl⟩,hs⟩,hg⟩,?_⟩
 rcases he with h|h
 ·exact .inl (.inl h)
 ·by_cases h1:k=1
  ·exact .inl (.inr h1)
  ·exact .inr (by omega)
theorem nil_itm:itm ⟨#[]⟩=true:=by decide
theorem lead_gp {x:SendWindow} (h:goodWin x=true):isSer x.trail=true∧isSer (leadW x)=true∧gp x.trail (leadW x)≤32767:=by
 obtain ⟨⟨t0,t1⟩,⟨s0,s1⟩,hl, -⟩:=goodWin_iff.1 h
 refine ⟨isSer_iff.2 ⟨t0,t1⟩,aft_ser _ _,?_⟩
 unfold leadW gp aft
 omega
theorem stat_good {x:SendWindow} (h:goodWin x=true):goodPk (statP x)=true:=by
 obtain ⟨a,b,c⟩:=lead_gp h
 exact mkPk (by decide) a a b c nil_itm (.inl rfl)
theorem tickP_good {x:SendWindow} {q:Int} (h:goodWin x=true):∀p∈tickP x q,goodPk p=true:=fun p hp=>by
 unfold tickP at hp
 split at hp
 ·simp at hp
 ·rw [List.mem_singleton] at hp;subst hp;exact stat_good h
theorem ans_good {x:SendWindow} {n:Int} (h:goodWin x=true) (hn:isSer n=true) (hh:heldB x n=true):goodPk (ansP x n)=true:=by
 obtain ⟨a,b,c⟩:=lead_gp h
 have hi:=(goodWin_iff.1 h).2.2.2
 have hl:=held_lt hh
 exact mkPk (by decide) hn a b c (by rw [itemAt_lt hl];exact List.all_eq_true.1 hi _ (List.getElem_mem hl)) (.inr (by decide))
theorem conf_good {x:SendWindow} {n:Int} (h:goodWin x=true) (hn:isSer n=true):goodPk (confP x n)=true:=by
 obtain ⟨a,b,c⟩:=lead_gp h
 exact mkPk (by decide) hn a b c nil_itm (.inl rfl)
theorem reqP_good {x:Source} {p:Packet} (h:goodWin x.window=true) (hp:goodPk p=true) (hk:p.kind=3):∀r∈reqP x p,goodPk r=true:=fun r hr=>by
 have hn:=isSer_iff.2 (goodPk_num hp)
 unfold reqP at hr
 split at hr
 ·rename_i hh
  split at hr
  ·rw [List.mem_singleton] at hr;subst hr;exact conf_good h hn
  ·simp only [List.mem_cons,List.not_mem_nil,or_false] at hr
   rcases hr with rfl|rfl
   ·exact conf_good h hn
   ·rw [show resAnswer x.window p=(ansP x.window p.number,true) by unfold resAnswer okAnswer;rw [h,hp,hh,decide_eq_true hk];rfl]
    exact ans_good h hn hh
 ·rw [List.mem_singleton] at hr;subst hr;exact stat_good h
theorem push_good {x:SendWindow} {s:ByteArray} (h:goodWin x=true) (hs:itm s=true):goodPk (pushedP x s)=true:=by
 obtain ⟨⟨t0,t1⟩,⟨s0,s1⟩,hl, -⟩:=goodWin_iff.1 h
 have hr:=roomed_bd t0 t1
 have hrl:(roomed x).items.length≤6:=by
  unfold roomed
  split
  ·show (x.items.drop 1).length≤6
   rw [List.length_drop];omega
  ·omega
 refine mkPk (by decide) (aft_ser _ _) (isSer_iff.2 hr) (aft_ser _ _) ?_ hs (.inr (by decide))
 unfold gp aft
 omega
theorem cnf_good {p:Packet} (h:goodPk p=true):goodPk (cnfP p)=true:=by
 unfold goodPk at h
 simp only [Bool.and_eq_true,decide_eq_true_eq] at h
 exact mkPk (by decide) h.1.1.1.1.1.2 h.1.1.1.1.2 h.1.1.1.2 h.1.2 nil_itm (.inl rfl)
theorem tickPk_good {r:Receiver} (h:GoodR r):∀p∈tickPk r,goodPk p=true∧p.kind=3:=fun p hp=>by
 unfold tickPk at hp
 obtain ⟨k,hk,rfl⟩:=List.mem_map.1 hp
 obtain ⟨q,hq,hs⟩:=List.mem_filterMap.1 hk
 obtain ⟨-, -,q2, -⟩:=areQ_iff.1 h.q
 have hn:=(okReq_iff.1 (q2 q hq)).n
 have hw:=good_of h.w
 have e:k=q.number:=by
  unfold tkS at hs
  split at hs
  ·cases hs
  ·split at hs
   ·cases hs
   ·split at hs
    ·exact (Option.some.inj hs).symm
    ·cases hs
 subst e
 have hx:=isSer_iff.2 ⟨hw.n0,hw.n1⟩
 exact ⟨mkPk (by decide) hn hx hx (by unfold gp;omega) nil_itm (.inl rfl),rfl⟩
theorem GN.ck {ck ck':Nat→Int} {n:Net} (h:GN ck n) (he:∀i,i≠0→i < n.tree.parent.length→ck i=ck' i):GN ck' n:=by
 obtain ⟨q1,q2,q3,q4⟩:=lensN_iff.1 h.l
 refine .mk' h.t h.s h.l fun i h1 h2 h3 h4=>?_
 have r:=rightN_iff.1 (h.a i h1 h2 h3 h4)
 exact ⟨r.hd,r.hu,r.hk,r.hz,fun e0 l=>by rw [←he i e0 (by omega)];exact r.hf e0 l,fun e0 l=>by rw [←he i e0 (by omega)];exact r.hn e0 l⟩
theorem kids_nz {l:List Int} (hg:GoodT l) (i:Nat):∀x∈kids l ((i:Nat):Int),x.toNat≠0:=fun x hx=>by have:=kids_behind hg hx;omega
theorem tick1_good {ck:Nat→Int} {n:Net} {i:Nat} (h:GN ck n) (h0:i≠0) (hi:i < n.tree.parent.length) (hc:ck i < 9999):GN (updC ck i (ck i+1)) (tick1 n i).1:=by
 obtain ⟨h1,h2,h3,h4,r⟩:=h.rn hi
 obtain ⟨d0,d1⟩:1≤dly i∧dly i≤8:=by unfold dly;omega
 unfold tick1
 cases hl:leafT n.tree.parent ((i:Nat):Int)
 ·rw [if_neg (by decide)]
  obtain ⟨he,e2,e3⟩:=r.hn h0 hl
  have e:elAt n i=n.elements[i]:=by unfold elAt;rw [List.getD_eq_getElem?_getD,List.getElem?_eq_getElem h1];rfl
  have:=h.el h0 hl (good_tickE (e:=n.elements[i]) he (by omega))
  rw [show (tickElement n.elements[i]).clock=ck i+1 by rw [←e2];rfl] at this
  rw [e];exact this
 ·rw [if_pos rfl]
  obtain ⟨he,e2,e3⟩:=r.hf h0 hl
  have e:rcAt n i=n.receivers[i]:=by unfold rcAt;rw [List.getD_eq_getElem?_getD,List.getElem?_eq_getElem h2];rfl
  have hg:=goodR_iff.1 e2
  have ht:=tick_good hg (by omega) d0 d1
  have:=h.rc h0 hl (goodR_iff.2 ht)
  rw [show (tickRec n.receivers[i] (dly i)).clock=ck i+1 by unfold tickRec;split <;> (show n.receivers[i].clock+1=_;rw [e3])] at this
  rw [e]
  exact this.un i _ (fun e=>absurd e h0) fun q a b=>⟨putQ_good a fun p hp=>(tickPk_good hg p hp).1,putQ_up b fun p hp=>(tickPk_good hg p hp).2⟩
theorem tick1_tree (n:Net) (i:Nat):(tick1 n i).1.tree=n.tree∧(tick1 n i).1.source=n.source:=by unfold tick1;split <;> exact ⟨rfl,rfl⟩
def ckT (c:Int) (k:Nat):Nat→Int:=fun j=>if j≤k then c+1 else c
theorem tickTo_good {n:Net} (hg:goodNet n=true) (hc:n.source.clock < 9999):∀k,k+1≤n.tree.parent.length→GN (ckT n.source.clock k) (tickTo n k).1∧(tickTo n k).1.tree=n.tree∧(tickTo n k).1.source=tickS n.source
 | 0,_=>by
  have h:=goodNet_GN.1 hg
  have ht:=goodT h.t
  refine ⟨?_,rfl,rfl⟩
  have h2:=((h.src (good_tick h.s hc)).sp (tickP_good (q:=n.source.quiet) (goodSrc_iff.1 h.s).1) (kids_nz ht 0)).ck (ck':=ckT n.source.clock 0) fun i h0 _=>by unfold ckT;rw [if_neg (by omega)]
  exact h2
 | k+1,hk=>by
  obtain ⟨h1,h2,h3⟩:=tickTo_good hg hc k (by omega)
  obtain ⟨t1,t2⟩:=tick1_tree (tickTo n k).1 (k+1)
  have e:ckT n.source.clock k (k+1)=n.source.clock:=by unfold ckT;rw [if_neg (by omega)]
  have:=tick1_good h1 (i:=k+1) (by omega) (by rw [h2];omega) (by rw [e];exact hc)
  refine ⟨this.ck fun i h0 hi=>?_,t1.trans h2,t2.trans h3⟩
  rw [e]
  unfold updC ckT
  by_cases c1:i=k+1
  ·rw [if_pos c1,if_pos (by omega)]
  ·rw [if_neg c1]
   by_cases c2:i≤k
   ·rw [if_pos c2,if_pos (by omega)]
   ·rw [if_neg c2,if_neg (by omega)]
theorem tickN_good {n:Net} (hg:goodNet n=true) (hc:n.source.clock < 9999):goodNet (tickN n).1=true:=by
 have h:=goodNet_GN.1 hg
 have ht:=goodT h.t
 have:=ht.n0
 obtain ⟨h1,h2,h3⟩:=tickTo_good hg hc (n.tree.parent.length - 1) (by omega)
 refine goodNet_GN.2 ?_
 show GN (fun _=>(tickTo n (n.tree.parent.length - 1)).1.source.clock) _
 rw [h3]
 exact h1.ck fun i h0 hi=>by rw [h2] at hi;unfold ckT;rw [if_pos (by omega)];rfl
theorem row_in {g t o k:Nat} {A B X cs Y:List Value} (hk:X.length=k) {w:World}:(Pc.row g t (o+k) (A++X) cs (Y++B)).P w↔(Pc.row g t o A (X++cs++Y) B).P w:=by
 show ((A++X).length=o+k∧Row w g t (A++X++cs++(Y++B)))↔(A.length=o∧Row w g t (A++(X++cs++Y)++B))
 rw [List.length_append,hk]
 have e:A++X++cs++(Y++B)=A++(X++cs++Y)++B:=by simp [List.append_assoc]
 rw [e]
 exact ⟨fun h=>⟨by omega,h.2⟩,fun h=>⟨by omega,h.2⟩⟩
theorem hol_hd {p q:Pc} {R:List Pc} {w:World} (h:p.P w→q.P w) (hH:Hol (p::R) w):Hol (q::R) w:=fun x hx=>by
 rcases List.mem_cons.1 hx with rfl|hx
 ·exact h (hH p (by simp))
 ·exact hH x (by simp [hx])
theorem sep_hd {p q:Pc} {R:List Pc} (hm:p.mu=q.mu) (hF:p.F=q.F) (hS:Sep (p::R)):Sep (q::R):=⟨fun x hx hmu b hb=>hS.1 x hx (by rw [hm];exact hmu) b (by rw [hF];exact hb),hS.2⟩
theorem fn_rin {P:Program} {f:FuncId} {args:List Value} {A M':List Pc} {g t o k:Nat} {A' B X cs Y L:List Value} {σ:Type} {C:σ→Prop} {v:σ→Value} {cs' L':σ→List Value} {N':σ→List Pc}
  (h:Fn P f args A (.row g t (o+k) (A'++X) cs (Y++B)::M') C v (fun s=>.row g t (o+k) (A'++X) (cs' s) (Y++B)::N' s)) (hk:X.length=k) (hL:L=X++cs++Y) (hL':∀s,L' s=X++cs' s++Y) :
  Fn P f args A (.row g t o A' L B::M') C v (fun s=>.row g t o A' (L' s) B::N' s):=fun w hH hS=>by
 subst hL
 refine (h w (hol_hd (row_in hk).2 hH) (sep_hd rfl rfl hS)).mono ?_
 rintro e w' ⟨s,hC,he,h1,h2,h3,h4⟩
 refine ⟨s,hC,he,?_,sep_hd rfl rfl h2,?_,?_⟩
 ·show Hol (.row g t o A' (L' s) B::N' s) w'
  rw [hL' s]
  exact hol_hd (row_in hk).1 h1
 ·simpa [fp,Pc.mu,Pc.F] using h3
 ·intro p hp b hb
  have hp':∃q∈(Pc.row g t (o+k) (A'++X) (cs' s) (Y++B)::N' s),q.mu=p.mu∧b∈q.F:=by
   rcases List.mem_cons.1 hp with rfl|hp
   ·exact ⟨_,.head _,rfl,hb⟩
   ·exact ⟨p,.tail _ hp,rfl,hb⟩
  obtain ⟨q,hq,hm,hbq⟩:=hp'
  rcases h4 q hq b hbq with h|⟨x,hx,hbx⟩|⟨hm2,x,hx,hbx⟩
  ·exact .inl h
  ·refine .inr (.inl ?_)
   rcases List.mem_cons.1 hx with rfl|hx
   ·exact ⟨_,.head _,hbx⟩
   ·exact ⟨x,.tail _ hx,hbx⟩
  ·exact .inr (.inr ⟨by rw [←hm];exact hm2,x,hx,hbx⟩)
section
variable {c:Cx} {fr:Fr} {H:List Pc} {k:List It} {Φ:Gl} {ops:Array Oper} {o:Op} {d:Nat} {v:Value} {ty:TypeId} {pos:String} {aft:Array Edge} {H0:List Pc} {X:List Nat} {f:Nat} {listed:Array Bool}
theorem dsI {id:Nat} {l:List Oper} (H0:List Pc) (X:List Nat) (h:T c fr H (.dx k H0 X l.toArray l.length (Array.replicate l.length false))) (hm:c.P.follows .mixedOrders=true:=by kernel_rfl):T c fr H (.code k (Code.region id l.toArray true)):=.mk fun a w s g=>by
 refine AnyX.start (S:=Hol H0) (X:=fun i=>X.contains i) hm ?_
 have:=h.h a w.drew (s.below (belowDrewN (Below.refl _ _) 1)) g
 simpa [Gl.sem] using this
theorem dtI (i:Nat) (hI:∀w,Hol H w→Hol H0 w) (h:T c ((d,v)::fr) H (.dx k H0 X ops f (listed.setIfInBounds i true))) (ho:ops[i]?=some ⟨some d,o,ty,pos,aft,none⟩:=by rw [List.getElem?_toArray];rfl) (hy:Yd c.P c.n fr H0 o ty v:=by exact ydE)
  (h1:Region.noSelect ops=true:=by kernel_rfl) (h2:Region.free .any ops listed i=true:=by kernel_rfl) (h3:(Region.ready .any ops listed).contains i=true:=by kernel_rfl) (h4:waitsAll .any ops (fun i=>X.contains i) i=true:=by kernel_rfl) (h5:closedB .any ops listed=true:=by kernel_rfl) (hR:PanOk c:=by exact panOk) (hd:Nat.blt d c.n=true:=by rfl) :
  T c fr H (.dx k H0 X ops (f+1) listed):=.mk fun a w s g =>
 AnyX.take (v:=v) ho h1 h2 h3 h4 h5 (fun ch a w hp=>by rw [run_panic] at hp ⊢;exact hR _ _ _ _ _ hp) (.inl ⟨rfl,fun w' hw'=>hy.h a w' _ _ _ _ g hw'⟩) (hI w s.on) (h.h _ _ s (g.put hd))
theorem dkI {i:Nat} (hI:∀w,Hol H w→Hol H0 w) (h:T c fr H (.dx k H0 X ops f listed)):T c fr H (.dk i k H0 X ops f listed):=.mk fun a w s g=>⟨fun _=>hI w s.on,h.h a w s g⟩
end
theorem row_cel {g t:Nat} {x:Value} {r:List Value} {w:World} (h:(Pc.row g t 0 [] (x::r) []).P w):(Pc.cel g 0 [x]).P w:=⟨by simp,fun j u hu=>by
 cases j with
 | zero=>exact row_range h 0 u (by simpa using hu)
 | succ j=>simp at hu⟩
structure TkN where
 k:Nat
 z:NV
 a:Option Addr
 c:Nat
 F:List Nat
theorem Ntick_f (n:Net) (g:Nat) (a1:Option Addr) (c1:Nat) (F1:List Nat) (a2:Option Addr) (c2:Nat) (F2:List Nat) (a3:Option Addr) (c3:Nat) (F3:List Nat) (a4:Option Addr) (c4:Nat) (F4:List Nat) (a5:Option Addr) (c5:Nat) (F5:List Nat) (a6:Option Addr) (c6:Nat) (F6:List Nat) (a7:Option Addr) (c7:Nat) (F7:List Nat) (FT:List Nat) (hg:goodNet n=true) (hc:n.source.clock < 9999) :
  Fn Tryz.prog 66 [ptr g 0 0] [EnvP FT] [.row g 49 0 [] [.slice a1 n.tree.parent.length c1,.int .i64 n.source.window.trail,.int .i64 n.source.window.size,.slice a2 n.source.window.items.length c2,.int .i64 n.source.clock,.int .i64 n.source.quiet,.slice a3 n.source.holds.length c3,.slice a4 n.elements.length c4,.slice a5 n.receivers.length c5,.slice a6 n.down.length c6,.slice a7 n.up.length c7] [],.ow EInt 3 (.slice a1 n.tree.parent.length c1) n.tree.parent F1,.ow EStr 9 (.slice a2 n.source.window.items.length c2) n.source.window.items F2,.ow EHold 194 (.slice a3 n.source.holds.length c3) n.source.holds F3,.ow OElement 142 (.slice a4 n.elements.length c4) n.elements F4,.ow OReceiver 149 (.slice a5 n.receivers.length c5) n.receivers F5,.ow (OSl EPacket 127) 132 (.slice a6 n.down.length c6) n.down F6,.ow (OSl EPacket 127) 132 (.slice a7 n.up.length c7) n.up F7] (fun (_:NV × KA)=>True) (fun z=>.slice z.2.a (tickN n).2.length z.2.c) (fun z=>[.row g 49 0 [] [.slice z.1.a1 n.tree.parent.length z.1.c1,.int .i64 (tickN n).1.source.window.trail,.int .i64 (tickN n).1.source.window.size,.slice z.1.a2 (tickN n).1.source.window.items.length z.1.c2,.int .i64 (tickN n).1.source.clock,.int .i64 (tickN n).1.source.quiet,.slice z.1.a3 (tickN n).1.source.holds.length z.1.c3,.slice z.1.a4 n.elements.length z.1.c4,.slice z.1.a5 n.receivers.length z.1.c5,.slice z.1.a6 n.down.length z.1.c6,.slice z.1.a7 n.up.length z.1.c7] [],.ow EInt 3 (.slice z.1.a1 n.tree.parent.length z.1.c1) (tickN n).1.tree.parent z.1.F1,.ow EStr 9 (.slice z.1.a2 (tickN n).1.source.window.items.length z.1.c2) (tickN n).1.source.window.items z.1.F2,.ow EHold 194 (.slice z.1.a3 (tickN n).1.source.holds.length z.1.c3) (tickN n).1.source.holds z.1.F3,.ow OElement 142 (.slice z.1.a4 n.elements.length z.1.c4) (tickN n).1.elements z.1.F4,.ow OReceiver 149 (.slice z.1.a5 n.receivers.length z.1.c5) (tickN n).1.receivers z.1.F5,.ow (OSl EPacket 127) 132 (.slice z.1.a6 n.down.length z.1.c6) (tickN n).1.down z.1.F6,.ow (OSl EPacket 127) 132 (.slice z.1.a7 n.up.length z.1.c7) (tickN n).1.up z.1.F7,.ow EStr 9 (.slice z.2.a (tickN n).2.length z.2.c) (tickN n).2 z.2.F]):=by
 have hG:=goodNet_GN.1 hg
 have h8:=goodT hG.t
 have hn8:=h8.n1
 have hn2:=h8.n0
 obtain ⟨q1,q2,q3,q4⟩:=lensN_iff.1 hG.l
 have hS:=goodS_of hG.s
 obtain ⟨hq0,hq3⟩:=quiet_bd hG.s
 have hkl:=kids_len n.tree.parent 0
 have hkx:∀x∈kids n.tree.parent 0,0≤x∧x.toNat < n.down.length:=fun x hx=>by have:=kids_behind (i:=0) h8 hx;omega
 refine enter Tryz.func66 rfl Tryz.ntmps66 fun w0=>?_
 refine go ?_;intros
 refine dsI [.cel g 0 [.slice a1 n.tree.parent.length c1]] [] ?_
 refine dtI 0 (fun w h=>hol1 (row_cel (h (.row g _ 0 [] _ []) (by exact memE)))) ?_
 refine dtI 1 (fun w h=>hol1 (row_cel (h (.row g _ 0 [] _ []) (by exact memE)))) ?_
 refine dtI 2 (fun w h=>hol1 (row_cel (h (.row g _ 0 [] _ []) (by exact memE)))) ?_
 refine dtI 3 (fun w h=>hol1 (row_cel (h (.row g _ 0 [] _ []) (by exact memE)))) ?_
 refine dtI 4 (fun w h=>hol1 (row_cel (h (.row g _ 0 [] _ []) (by exact memE)))) ?_
 refine dtI 6 (fun w h=>hol1 (row_cel (h (.row g _ 0 [] _ []) (by exact memE)))) ?_
 refine dtI 7 (fun w h=>hol1 (row_cel (h (.row g _ 0 [] _ []) (by exact memE)))) ?_
 refine dtI 8 (fun w h=>hol1 (row_cel (h (.row g _ 0 [] _ []) (by exact memE)))) ?_
 refine dN 5 ?_
 refine oC ?_
 refine cfr (fun w st=>by obtain ⟨Fq,hq⟩:=rdTree (st.get (p:=.ow EInt 3 (.slice a1 n.tree.parent.length c1) n.tree.parent F1) (by exact memE));exact ⟨_,hol1 hq,rfl,children_f n.tree 0 _ Fq (by show n.tree.parent.length≤1000000;omega)⟩) (fun u _=>?_)
 refine t_app ?_
 refine t_read (E:=EInt) (xs:=kids n.tree.parent 0) fun Fk=>?_
 refine dkI (fun w h=>hol1 (row_cel (h (.row g _ 0 [] _ []) (by exact memE)))) ?_
 refine dN 9 ?_
 refine oC ?_
 refine cf (fn_rin (X:=[.slice a1 n.tree.parent.length c1]) (cs:=[.int .i64 n.source.window.trail,.int .i64 n.source.window.size,.slice a2 n.source.window.items.length c2,.int .i64 n.source.clock,.int .i64 n.source.quiet,.slice a3 n.source.holds.length c3]) (Y:=[.slice a4 n.elements.length c4,.slice a5 n.receivers.length c5,.slice a6 n.down.length c6,.slice a7 n.up.length c7]) (L:=[.slice a1 n.tree.parent.length c1,.int .i64 n.source.window.trail,.int .i64 n.source.window.size,.slice a2 n.source.window.items.length c2,.int .i64 n.source.clock,.int .i64 n.source.quiet,.slice a3 n.source.holds.length c3,.slice a4 n.elements.length c4,.slice a5 n.receivers.length c5,.slice a6 n.down.length c6,.slice a7 n.up.length c7]) (L':=fun z:TiS=>[.slice a1 n.tree.parent.length c1,.int .i64 n.source.window.trail,.int .i64 n.source.window.size,.slice a2 n.source.window.items.length c2,.int .i64 (n.source.clock+1),.int .i64 (tickQ n.source.quiet),.slice z.a2 (keepT (n.source.clock+1) n.source.holds).length z.c2,.slice a4 n.elements.length c4,.slice a5 n.receivers.length c5,.slice a6 n.down.length c6,.slice a7 n.up.length c7]) (cs':=fun z:TiS=>[.int .i64 n.source.window.trail,.int .i64 n.source.window.size,.slice a2 n.source.window.items.length c2,.int .i64 (n.source.clock+1),.int .i64 (tickQ n.source.quiet),.slice z.a2 (keepT (n.source.clock+1) n.source.holds).length z.c2]) (Stick_f n.source.window n.source.holds g 49 (0+1) _ _ a2 a3 c2 c3 n.source.clock n.source.quiet F3 hS.t0 hS.t1 hS.l hS.k0 hS.k1 hq0 hq3) rfl rfl (fun _=>rfl)) fun z _=>?_
 refine t_app ?_
 refine t_read (E:=EPacket) (xs:=tickP n.source.window n.source.quiet) fun Fp=>?_
 refine dkI (fun w h=>hol1 (row_cel (h (.row g _ 0 [] _ []) (by exact memE)))) ?_
 refine dN 10 ?_
 refine oC ?_
 refine cf (down_f n.down (kids n.tree.parent 0) (tickP n.source.window n.source.quiet) g _ _ _ _ _ _ _ _ _ _ a6 _ c6 F6 _ _ Fk _ _ Fp rfl hkx) fun J6 _=>?_
 refine t_app ?_
 refine dkI (fun w h=>hol1 (row_cel (h (.row g _ 0 [] _ []) (by exact memE)))) ?_
 refine dd ?_
 refine t_nilow EStr 9 ?_
 rw [show spread n.down (kids n.tree.parent 0) (tickP n.source.window n.source.quiet)=(tickTo n 0).1.down from rfl]
 refine go ?_;intros
 refine c_loopS [0,2] (fun s:TkN=>[(3,.slice s.a (tickTo n s.k).2.length s.c),(4,.int .i64 ((s.k+1:Nat):Int))]) (fun s=>[.row g 49 0 [] [.slice s.z.a1 n.tree.parent.length s.z.c1,.int .i64 (tickTo n s.k).1.source.window.trail,.int .i64 (tickTo n s.k).1.source.window.size,.slice s.z.a2 (tickTo n s.k).1.source.window.items.length s.z.c2,.int .i64 (tickTo n s.k).1.source.clock,.int .i64 (tickTo n s.k).1.source.quiet,.slice s.z.a3 (tickTo n s.k).1.source.holds.length s.z.c3,.slice s.z.a4 n.elements.length s.z.c4,.slice s.z.a5 n.receivers.length s.z.c5,.slice s.z.a6 n.down.length s.z.c6,.slice s.z.a7 n.up.length s.z.c7] [],.ow EInt 3 (.slice s.z.a1 n.tree.parent.length s.z.c1) (tickTo n s.k).1.tree.parent s.z.F1,.ow EStr 9 (.slice s.z.a2 (tickTo n s.k).1.source.window.items.length s.z.c2) (tickTo n s.k).1.source.window.items s.z.F2,.ow EHold 194 (.slice s.z.a3 (tickTo n s.k).1.source.holds.length s.z.c3) (tickTo n s.k).1.source.holds s.z.F3,.ow OElement 142 (.slice s.z.a4 n.elements.length s.z.c4) (tickTo n s.k).1.elements s.z.F4,.ow OReceiver 149 (.slice s.z.a5 n.receivers.length s.z.c5) (tickTo n s.k).1.receivers s.z.F5,.ow (OSl EPacket 127) 132 (.slice s.z.a6 n.down.length s.z.c6) (tickTo n s.k).1.down s.z.F6,.ow (OSl EPacket 127) 132 (.slice s.z.a7 n.up.length s.z.c7) (tickTo n s.k).1.up s.z.F7,.ow EStr 9 (.slice s.a (tickTo n s.k).2.length s.c) (tickTo n s.k).2 s.F]) (fun s=>s.k+1≤n.tree.parent.length∧(tickTo n s.k).2.length≤40000 * s.k) (fun s=>n.tree.parent.length - s.k) ⟨0,⟨a1,c1,F1,a2,c2,F2,z.a2,z.c2,z.F,a4,c4,F4,a5,c5,F5,a6,c6,J6,a7,c7,F7⟩,none,0,[]⟩ ⟨by show 0+1≤_;omega,Nat.le_refl _⟩ fun s hs0=>?_
 obtain ⟨k,⟨x1,w1,K1,x2,w2,K2,x3,w3,K3,x4,w4,K4,x5,w5,K5,x6,w6,K6,x7,w7,K7⟩,ea,ec,eF⟩:=s
 obtain ⟨hk,hel⟩:=hs0
 dsimp only at hk hel ⊢
 obtain ⟨hGN,hT,hSrc⟩:=tickTo_good hg hc k (by omega)
 obtain ⟨r1,r2,r3,r4⟩:=lensN_iff.1 hGN.l
 rw [hT] at r1 r2 r3 r4
 rw [hT,hSrc]
 refine go ?_;intros
 refine c_if rfl (fun h1=>?_) (fun h1=>?_)
 ·have hj:k+1 < n.tree.parent.length:=by omega
  obtain ⟨i1,i2,i3,i4,hrn⟩:=hGN.rn (i:=k+1) (by rw [hT];exact hj)
  rw [hT] at hrn
  obtain ⟨d0,d1_⟩:=dly_bd (i:=k+1)
  refine go ?_;intros
  refine cfr (fun w st=>by obtain ⟨Fq,hq⟩:=rdTree (st.get (p:=.ow EInt 3 (.slice x1 n.tree.parent.length w1) n.tree.parent K1) (by exact memE));exact ⟨_,hol1 hq,rfl,isLeaf_f n.tree ((k+1:Nat):Int) _ Fq⟩) (fun _ _=>?_)
  refine t_app ?_
  cases hlf:leafT n.tree.parent ((k+1:Nat):Int)
  ·obtain ⟨hge,hck, -⟩:=hrn.hn (by omega) hlf
   obtain ⟨hc0,hc1⟩:=isClk_iff.1 (goodE_iff.1 hge).1
   have hnx:tickTo n (k+1)=(⟨n.tree,tickS n.source,(tickTo n k).1.elements.set (k+1) (tickElement (tickTo n k).1.elements[k+1]),(tickTo n k).1.receivers,(tickTo n k).1.down,(tickTo n k).1.up⟩,(tickTo n k).2++[]):=by
    show ((tick1 (tickTo n k).1 (k+1)).1,(tickTo n k).2++(tick1 (tickTo n k).1 (k+1)).2)=_
    unfold tick1
    rw [hT,hlf,if_neg (by decide),elAt_get i1,hSrc]
   rw [List.append_nil] at hnx
   refine focO (xs:=(tickTo n k).1.elements) (m:=2) (k+1) ?_ rfl i1
   rintro _ g5 A5 cs B5 k1 k2 J1 Ji J2 e5 - hc5 hH5
   rw [e5]
   refine openOElement ?_
   rintro b1 d1 G1 ev l1
   obtain rfl:cs=[.int .i64 (tickTo n k).1.elements[k+1].clock,.slice b1 (tickTo n k).1.elements[k+1].entries.length d1]:=by simpa using ev
   refine go ?_;intros
   refine cf (Etick_f (tickTo n k).1.elements[k+1] g5 142 (0+(k+1) * 2) A5 B5 b1 d1 G1 (by omega) (by omega)) fun s9 _=>?_
   refine t_app ?_
   refine closeOElement (tickElement (tickTo n k).1.elements[k+1]) ?_
   refine unfO _ hH5 rfl fun J5=>?_
   refine go ?_;intros
   refine n_lp ⟨k+1,⟨x1,w1,K1,x2,w2,K2,x3,w3,K3,_,w4,J5,x5,w5,K5,x6,w6,K6,x7,w7,K7⟩,ea,ec,eF⟩ ⟨by show k+1+1≤_;omega,by rw [hnx];dsimp only;omega⟩ (by show n.tree.parent.length - (k+1) < n.tree.parent.length - k;omega) (by dsimp only;rw [hnx];exact frE) (by dsimp only;rw [hnx];exact hsE)
  ·obtain ⟨-,hgr0,hck⟩:=hrn.hf (by omega) hlf
   have hgr:=goodR_iff.1 hgr0
   obtain ⟨hsm,hfew⟩:=tickEv_sm hgr
   have hnx:tickTo n (k+1)=(⟨n.tree,tickS n.source,(tickTo n k).1.elements,(tickTo n k).1.receivers.set (k+1) (tickRec (tickTo n k).1.receivers[k+1] (dly (k+1))),(tickTo n k).1.down,putAt (tickTo n k).1.up (k+1) (tickPk (tickTo n k).1.receivers[k+1])⟩,(tickTo n k).2++tell (k+1) (tickEv (tickTo n k).1.receivers[k+1])):=by
    show ((tick1 (tickTo n k).1 (k+1)).1,(tickTo n k).2++(tick1 (tickTo n k).1 (k+1)).2)=_
    unfold tick1
    rw [hT,hlf,if_pos rfl,rcAt_get i2,hSrc];rfl
   have htl:(tell (k+1) (tickEv (tickTo n k).1.receivers[k+1])).length=(tickEv (tickTo n k).1.receivers[k+1]).length:=List.length_map ..
   generalize hR:(tickTo n k).1.receivers[k+1]=R at *
   refine go ?_;intros
   refine focO (xs:=(tickTo n k).1.receivers) (m:=5) (k+1) ?_ rfl i2
   rintro _ g5 A5 cs B5 k1 k2 J1 Ji J2 e5 - hc5 hH5
   rw [e5,hR]
   refine openOReceiver ?_
   rintro b1 d1 G1 b2 d2 G2 ev l1 l2
   obtain rfl:cs=[.bool R.started,.int .i64 R.clock,.int .i64 R.window.next,.slice b1 R.window.slots.length d1,.slice b2 R.requests.length d2]:=by simpa using ev
   refine d_start [5] [] ?_
   refine dt4 0 1 2 3 ?_
   refine dt2 4 5 ?_
   refine dt 6 ?_
   refine dN 7 ?_
   refine oC ?_
   refine cf (delayOf_f (k+1) (by omega)) fun _ _=>?_
   refine t_app ?_
   refine dk ?_
   refine dN 8 ?_
   refine oC ?_
   refine cf (Rtick_f R (dly (k+1)) g5 149 (0+(k+1) * 5) A5 B5 b1 d1 G1 b2 d2 G2 hgr (by omega) (by omega)) fun s9 _=>?_
   refine t_app ?_
   refine dk ?_
   refine dt4 9 10 11 12 ?_
   refine dt 13 ?_
   refine dd ?_
   refine closeOReceiver (tickRec R (dly (k+1))) ?_
   refine unfO _ hH5 rfl fun J5=>?_
   refine t_read (E:=EPacket) (xs:=tickPk R) fun Fp=>?_
   refine t_each (E:=EPacket) (fun p:Packet=>p.data.size≤maxLen) (fun w cs x F h=>by obtain ⟨_,h,_⟩:=h;exact h) ?_
   intro hz
   refine t_sl (E:=EPacket) (xs:=tickPk R) ?_
   rintro pa pc e9 hp1 hp2
   clear e9
   refine go ?_;intros
   rw [show (tickTo n k).1.up=putAt (tickTo n k).1.up (k+1) ((tickPk R).take 0) by rw [List.take_zero,putAt_nil]]
   refine c_loopS [0,2,3,4,6,56,57] (fun y:KF=>[(58,.int .i64 (y.k:Nat))]) (fun y=>[.ow (OSl EPacket 127) 132 (.slice x7 n.up.length w7) (putAt (tickTo n k).1.up (k+1) ((tickPk R).take y.k)) y.F]) (fun y=>y.k≤(tickPk R).length) (fun y=>(tickPk R).length - y.k) ⟨0,K7⟩ (Nat.zero_le _) fun y hy0=>?_
   have hpl:=putAt_len (tickTo n k).1.up (k+1) ((tickPk R).take y.k)
   refine go ?_;intros
   refine c_if rfl (fun h2=>?_) (fun h2=>?_)
   ·have hm:y.k < (tickPk R).length:=by omega
    refine atPacket (xs:=tickPk R) y.k ?_
    rintro hi3 b3 o3 e3 s3
    rw [e3]
    refine go ?_;intros
    refine d_start [0,6] [] ?_
    refine dt4 0 1 2 3 ?_
    refine dt2 4 5 ?_
    refine dN 6 ?_
    refine oC ?_
    refine cf (netPush_f (putAt (tickTo n k).1.up (k+1) ((tickPk R).take y.k)) (k+1) (tickPk R)[y.k] x7 _ w7 y.F (by omega) (by omega) s3) fun f1 _=>?_
    refine t_app ?_
    rw [putAt_step i4 hm]
    refine dk ?_
    refine dd ?_
    refine go ?_;intros
    refine n_lp ⟨y.k+1,f1⟩ hm (by show (tickPk R).length - (y.k+1) < (tickPk R).length - y.k;omega)
   ·rw [show (tickPk R).take y.k=tickPk R from List.take_of_length_le (by omega)]
    refine go ?_;intros
    refine cfr (fun w st=>by obtain ⟨Fq, -,hq⟩:=(st.get (p:=.ow EStr 9 (.slice s9.a4 (tickEv R).length s9.c4) (tickEv R) s9.F4) (by exact memE)).2.read;exact ⟨[.sl EStr (.slice s9.a4 (tickEv R).length s9.c4) (tickEv R) Fq,EnvP FT],hol2 ⟨by decide,hq⟩ (st.get (p:=EnvP FT) (by exact memE)),rfl,told_f (k+1) _ _ _ Fq FT (by omega) (by omega) hsm⟩) (fun u9 _=>?_)
    refine t_app ?_
    refine t_read (E:=EStr) (xs:=tell (k+1) (tickEv R)) fun F8=>?_
    apply wO
    refine aps (E:=EStr) (xs:=(tickTo n k).2) (ys:=tell (k+1) (tickEv R)) one_EStr scal_EStr fun a9 c9 F9=>?_
    refine go ?_;intros
    refine n_lp ⟨k+1,⟨x1,w1,K1,x2,w2,K2,x3,w3,K3,x4,w4,K4,_,w5,J5,x6,w6,K6,x7,w7,y.F⟩,a9,c9,F9⟩ ⟨by show k+1+1≤_;omega,by rw [hnx];dsimp only;rw [List.length_append,htl];omega⟩ (by show n.tree.parent.length - (k+1) < n.tree.parent.length - k;omega) (by dsimp only;rw [hnx];exact frE) (by dsimp only;rw [hnx];exact hsE)
 ·have hke:n.tree.parent.length - 1=k:=by omega
  rw [show tickN n=tickTo n k by unfold tickN;rw [hke],hT,hSrc]
  refine go ?_;intros
  refine ret (⟨x1,w1,K1,x2,w2,K2,x3,w3,K3,x4,w4,K4,x5,w5,K5,x6,w6,K6,x7,w7,K7⟩,⟨0,ea,ec,eF⟩) trivial rfl
structure Step where
 kind:Int
 node:Int
 data:ByteArray
def okStep (s:Step):Bool:=if s.kind=1 then decide (s.node=0) && itm s.data else if s.kind=4 then decide (s.node=0) && decide (s.data=⟨#[]⟩) else btw 1 s.kind 6 && isFac s.node && decide (s.data=⟨#[]⟩)
def isUp (s:Step):Bool:=decide (s.kind=5) || decide (s.kind=6)
def queN (n:Net) (s:Step):List Packet:=(if isUp s then n.up else n.down).getD s.node.toNat []
def poppedN (n:Net) (s:Step):Net:=if isUp s then popU n s.node.toNat else popD n s.node.toNat
def takenN (n:Net) (s:Step):Option (Net × List ByteArray) :=
 if (n.tree.parent.length:Int)≤s.node then none
 else if (queN n s).length=0 then none
 else if s.kind=2 then some (delivN (poppedN n s) s.node.toNat (popP (queN n s)))
 else if s.kind=5 then some (upN (poppedN n s) s.node.toNat (popP (queN n s)),[])
 else some (poppedN n s,[])
def stepN (n:Net) (s:Step):Option (Net × List ByteArray) :=
 if s.kind=1 then some (sendN n s.data,[])
 else if s.kind=4 then (if n.source.clock=9999 then none else some (tickN n))
 else takenN n s
def outN (n:Net) (r:Option (Net × List ByteArray)):Net:=match r with|some x=>x.1|none=>n
def outE (r:Option (Net × List ByteArray)):List ByteArray:=match r with|some x=>x.2|none=>[]
theorem send_good {n:Net} {s:ByteArray} (h:goodNet n=true) (hs:itm s=true):goodNet (sendN n s)=true:=by
 have hg:=goodNet_GN.1 h
 have ht:=goodT hg.t
 exact goodNet_GN.2 (((hg.src (good_sent hg.s hs)).sp (fun p hp=>by rw [List.mem_singleton] at hp;subst hp;exact push_good (goodSrc_iff.1 hg.s).1 hs) (kids_nz ht 0)))
theorem updC_same {ck:Nat→Int} {i:Nat} {c:Int} (h:ck i=c):updC ck i c=ck:=by
 funext j;unfold updC
 by_cases e:j=i
 ·rw [if_pos e,e,h]
 ·rw [if_neg e]
theorem facE_kids {e:Element} {n:Int} {l:List Int}:∀x∈facE e n l,x∈l:=facE_sub
theorem hearR_clock (r:Receiver) (p:Packet) (d:Int):(hearR r p d).clock=r.clock:=by
 unfold hearR
 split
 ·rfl
 ·split <;> rfl
theorem reqE_clock (e:Element) (n f:Int):(reqE e n f).clock=e.clock:=by
 unfold reqE
 split
 ·rfl
 ·split <;> rfl
theorem repE_clock (e:Element) (n:Int):(repE e n).clock=e.clock:=by unfold repE;split <;> rfl
theorem deliv_good {n:Net} {i:Nat} {p:Packet} (h:goodNet n=true) (h0:i≠0) (hi:i < n.tree.parent.length) (hp:goodPk p=true):goodNet (delivN n i p).1=true:=by
 have hg:=goodNet_GN.1 h
 have ht:=goodT hg.t
 obtain ⟨h1,h2,h3,h4,r⟩:=hg.rn hi
 have d0:1≤dly i∧dly i≤8:=by unfold dly;omega
 have ee:elAt n i=n.elements[i]:=by unfold elAt;rw [List.getD_eq_getElem?_getD,List.getElem?_eq_getElem h1];rfl
 have er:rcAt n i=n.receivers[i]:=by unfold rcAt;rw [List.getD_eq_getElem?_getD,List.getElem?_eq_getElem h2];rfl
 have hps:∀q∈[p],goodPk q=true:=fun q hq=>by rw [List.mem_singleton] at hq;rw [hq];exact hp
 unfold delivN
 cases hl:leafT n.tree.parent ((i:Nat):Int)
 ·rw [if_neg (by decide)]
  obtain ⟨he,e2, -⟩:=r.hn h0 hl
  by_cases hk:p.kind=2
  ·have:=(hg.el h0 hl (good_repE (n:=p.number) he)).sp hps (nodes:=facE n.elements[i] p.number (kidsN n i)) (fun x hx=>kids_nz ht i x (facE_kids x hx))
   rw [updC_same (show (fun _=>n.source.clock) i=(repE n.elements[i] p.number).clock by rw [repE_clock,e2])] at this
   unfold facN
   rw [if_pos hk,if_pos hk,ee]
   exact goodNet_GN.2 this
  ·unfold facN
   rw [if_neg hk,if_neg hk]
   exact goodNet_GN.2 (hg.sp hps (kids_nz ht i))
 ·rw [if_pos rfl,er]
  obtain ⟨-,e2,e3⟩:=r.hf h0 hl
  have:=hg.rc h0 hl (goodR_iff.2 (hear_good (d:=dly i) (goodR_iff.1 e2) hp d0.1 d0.2).1)
  rw [updC_same (show (fun _=>n.source.clock) i=(hearR n.receivers[i] p (dly i)).clock by rw [hearR_clock,e3])] at this
  exact goodNet_GN.2 this
theorem up_good {n:Net} {i:Nat} {p:Packet} (h:goodNet n=true) (h0:i≠0) (hi:i < n.tree.parent.length) (hp:goodPk p=true) (hk:p.kind=3):goodNet (upN n i p)=true:=by
 have hg:=goodNet_GN.1 h
 have ht:=goodT hg.t
 have hone:∀x∈[((i:Nat):Int)],x.toNat≠0:=fun x hx=>by rw [List.mem_singleton] at hx;subst hx;omega
 have h1:=ht.p i hi (by omega)
 have e:n.tree.parent.getD i 0=n.tree.parent[i]:=by rw [List.getD_eq_getElem?_getD,List.getElem?_eq_getElem hi];rfl
 obtain ⟨k,hkk⟩:∃k,parN n i=k:=⟨_,rfl⟩
 have hk2:n.tree.parent[i]=((k:Nat):Int):=by unfold parN at hkk;rw [e] at hkk;omega
 unfold upN
 rw [hkk]
 by_cases hz:k=0
 ·rw [if_pos hz]
  have:=(hg.src (good_req (n:=p.number) hg.s (goodPk_num hp))).sp (reqP_good (goodSrc_iff.1 hg.s).1 hp hk) hone
  refine goodNet_GN.2 ?_
  rw [show (reqS n.source p.number).clock=n.source.clock by unfold reqS;split <;> rfl]
  exact this
 ·rw [if_neg hz]
  have hkl:k < n.tree.parent.length:=by omega
  obtain ⟨r1,r2,r3,r4,r⟩:=hg.rn hkl
  have ee:elAt n k=n.elements[k]:=by unfold elAt;rw [List.getD_eq_getElem?_getD,List.getElem?_eq_getElem r1];rfl
  have hl:leafT n.tree.parent ((k:Nat):Int)=false:=by
   unfold leafT;rw [←hk2,decide_eq_true (List.getElem_mem hi)];rfl
  obtain ⟨he,e2, -⟩:=r.hn hz hl
  rw [ee]
  have hf:isFac ((i:Nat):Int)=true:=isFac_iff.2 ⟨by omega,by have:=ht.n1;omega⟩
  have:=(hg.el hz hl (good_reqE he (isSer_iff.2 (goodPk_num hp)) hf)).sp (nodes:=[((i:Nat):Int)]) (ps:=[cnfP p]) (fun q hq=>by rw [List.mem_singleton] at hq;rw [hq];exact cnf_good hp) hone
  rw [updC_same (show (fun _=>n.source.clock) k=(reqE n.elements[k] p.number ((i:Nat):Int)).clock by rw [reqE_clock,e2])] at this
  refine goodNet_GN.2 ?_
  split
  ·exact this.un k _ (fun e=>absurd e hz) fun q a b=>⟨putQ_good a fun x hx=>by rw [List.mem_singleton] at hx;rw [hx];exact hp,putQ_up b fun x hx=>by rw [List.mem_singleton] at hx;rw [hx];exact hk⟩
  ·exact this
theorem que_good {n:Net} {s:Step} (h:goodNet n=true):goodQ (queN n s)=true∧(isUp s=true→upQ (queN n s)=true):=by
 have hg:=goodNet_GN.1 h
 obtain ⟨q1,q2,q3,q4⟩:=lensN_iff.1 hg.l
 unfold queN
 by_cases hi:s.node.toNat < n.tree.parent.length
 ·obtain ⟨h1,h2,h3,h4,r⟩:=hg.rn hi
  cases isUp s
  ·rw [if_neg (by decide),getN h3]
   exact ⟨r.hd,fun e=>by cases e⟩
  ·rw [if_pos rfl,getN h4]
   exact ⟨r.hu,fun _=>r.hk⟩
 ·have e:((if isUp s then n.up else n.down).getD s.node.toNat [])=[]:=by
   rw [List.getD_eq_getElem?_getD,List.getElem?_eq_none (by split <;> omega)];rfl
  rw [e];exact ⟨rfl,fun _=>rfl⟩
theorem popped_good {n:Net} {s:Step} (h:goodNet n=true):goodNet (poppedN n s)=true:=by
 have hg:=goodNet_GN.1 h
 unfold poppedN
 split
 ·exact goodNet_GN.2 (hg.pu _)
 ·exact goodNet_GN.2 (hg.pd _)
theorem popP_mem {q:List Packet} (h:0 < q.length):popP q∈q:=by rw [popP_get h];exact List.getElem_mem _
theorem goodQ_mem {q:List Packet} (h:goodQ q=true) {p:Packet} (hp:p∈q):goodPk p=true:=by
 unfold goodQ at h
 rw [Bool.and_eq_true] at h
 exact List.all_eq_true.1 h.2 p hp
theorem upQ_mem {q:List Packet} (h:upQ q=true) {p:Packet} (hp:p∈q):p.kind=3:=of_decide_eq_true (List.all_eq_true.1 h p hp)
theorem taken_good' {n:Net} {s:Step} {r:Net × List ByteArray} (h:goodNet n=true) (hn:isFac s.node=true) (hr:takenN n s=some r):goodNet r.1=true:=by
 have hf:=isFac_iff.1 hn
 have hpg:=popped_good (s:=s) h
 have hq:=que_good (s:=s) h
 have htl:(poppedN n s).tree=n.tree:=by unfold poppedN;split <;> rfl
 unfold takenN at hr
 split at hr
 ·cases hr
 ·rename_i h1
  split at hr
  ·cases hr
  ·rename_i h2
   have hm:=popP_mem (q:=queN n s) (by omega)
   have hpk:=goodQ_mem hq.1 hm
   have hi:s.node.toNat < (poppedN n s).tree.parent.length:=by rw [htl];omega
   split at hr
   ·cases hr;exact deliv_good hpg (by omega) hi hpk
   ·split at hr
    ·rename_i h5
     cases hr
     exact up_good hpg (by omega) hi hpk (upQ_mem (hq.2 (by unfold isUp;rw [decide_eq_true h5];rfl)) hm)
    ·cases hr;exact hpg
theorem src_clkN {x:Source} (h:goodSrc x=true):0≤x.clock∧x.clock≤9999:=by
 unfold goodSrc at h
 simp only [Bool.and_eq_true] at h
 exact isClk_iff.1 h.1.1.2
theorem step_good {n:Net} {s:Step} {r:Net × List ByteArray} (h:goodNet n=true) (hs:okStep s=true) (hr:stepN n s=some r):goodNet r.1=true:=by
 unfold stepN at hr
 unfold okStep at hs
 split at hr
 ·rename_i h1
  rw [if_pos h1,Bool.and_eq_true] at hs
  cases hr
  exact send_good h hs.2
 ·rename_i h1
  split at hr
  ·rename_i h4
   split at hr
   ·cases hr
   ·rename_i hc
    cases hr
    have:=src_clkN (goodNet_GN.1 h).s
    exact tickN_good h (by omega)
  ·rename_i h4
   rw [if_neg h1,if_neg h4] at hs
   simp only [Bool.and_eq_true] at hs
   exact taken_good' h hs.1.2 hr
section
variable {c:Cx} {fr:Fr} {H:List Pc} {Φ:Gl}
end
theorem taken_f (n:Net) (s:Step) (g:Nat) (a1:Option Addr) (c1:Nat) (F1:List Nat) (a2:Option Addr) (c2:Nat) (F2:List Nat) (a3:Option Addr) (c3:Nat) (F3:List Nat) (a4:Option Addr) (c4:Nat) (F4:List Nat) (a5:Option Addr) (c5:Nat) (F5:List Nat) (a6:Option Addr) (c6:Nat) (F6:List Nat) (a7:Option Addr) (c7:Nat) (F7:List Nat) (FT:List Nat) (hg:goodNet n=true) (hf:isFac s.node=true) :
  Fn Tryz.prog 105 [ptr g 0 0,.agg #[.int .i64 s.kind,.int .i64 s.node,.string s.data]] [EnvP FT] [.row g 49 0 [] [.slice a1 n.tree.parent.length c1,.int .i64 n.source.window.trail,.int .i64 n.source.window.size,.slice a2 n.source.window.items.length c2,.int .i64 n.source.clock,.int .i64 n.source.quiet,.slice a3 n.source.holds.length c3,.slice a4 n.elements.length c4,.slice a5 n.receivers.length c5,.slice a6 n.down.length c6,.slice a7 n.up.length c7] [],.ow EInt 3 (.slice a1 n.tree.parent.length c1) n.tree.parent F1,.ow EStr 9 (.slice a2 n.source.window.items.length c2) n.source.window.items F2,.ow EHold 194 (.slice a3 n.source.holds.length c3) n.source.holds F3,.ow OElement 142 (.slice a4 n.elements.length c4) n.elements F4,.ow OReceiver 149 (.slice a5 n.receivers.length c5) n.receivers F5,.ow (OSl EPacket 127) 132 (.slice a6 n.down.length c6) n.down F6,.ow (OSl EPacket 127) 132 (.slice a7 n.up.length c7) n.up F7] (fun (_:NV × KA)=>True) (fun z=>.tuple #[.slice z.2.a (outE (takenN n s)).length z.2.c,.bool (takenN n s).isSome]) (fun z=>[.row g 49 0 [] [.slice z.1.a1 n.tree.parent.length z.1.c1,.int .i64 (outN n (takenN n s)).source.window.trail,.int .i64 (outN n (takenN n s)).source.window.size,.slice z.1.a2 (outN n (takenN n s)).source.window.items.length z.1.c2,.int .i64 (outN n (takenN n s)).source.clock,.int .i64 (outN n (takenN n s)).source.quiet,.slice z.1.a3 (outN n (takenN n s)).source.holds.length z.1.c3,.slice z.1.a4 n.elements.length z.1.c4,.slice z.1.a5 n.receivers.length z.1.c5,.slice z.1.a6 n.down.length z.1.c6,.slice z.1.a7 n.up.length z.1.c7] [],.ow EInt 3 (.slice z.1.a1 n.tree.parent.length z.1.c1) (outN n (takenN n s)).tree.parent z.1.F1,.ow EStr 9 (.slice z.1.a2 (outN n (takenN n s)).source.window.items.length z.1.c2) (outN n (takenN n s)).source.window.items z.1.F2,.ow EHold 194 (.slice z.1.a3 (outN n (takenN n s)).source.holds.length z.1.c3) (outN n (takenN n s)).source.holds z.1.F3,.ow OElement 142 (.slice z.1.a4 n.elements.length z.1.c4) (outN n (takenN n s)).elements z.1.F4,.ow OReceiver 149 (.slice z.1.a5 n.receivers.length z.1.c5) (outN n (takenN n s)).receivers z.1.F5,.ow (OSl EPacket 127) 132 (.slice z.1.a6 n.down.length z.1.c6) (outN n (takenN n s)).down z.1.F6,.ow (OSl EPacket 127) 132 (.slice z.1.a7 n.up.length z.1.c7) (outN n (takenN n s)).up z.1.F7,.ow EStr 9 (.slice z.2.a (outE (takenN n s)).length z.2.c) (outE (takenN n s)) z.2.F]):=by
 have hG:=goodNet_GN.1 hg
 have h8:=goodT hG.t
 have hn8:=h8.n1
 obtain ⟨q1,q2,q3,q4⟩:=lensN_iff.1 hG.l
 obtain ⟨f1,f2⟩:=isFac_iff.1 hf
 obtain ⟨i,hi⟩:∃i:Nat,s.node=((i:Nat):Int):=⟨s.node.toNat,by omega⟩
 have i0:i≠0:=by omega
 refine enter Tryz.func105 rfl Tryz.ntmps105 fun w0=>?_
 refine t_nilow EStr 9 ?_
 rw [hi]
 refine go ?_;intros
 refine d_start [0,2] [] ?_
 refine dt4 0 1 2 3 ?_
 refine dt4 4 5 6 7 ?_
 refine dt 8 ?_
 refine dd ?_
 refine go ?_;intros
 refine c_if rfl (fun h1=>?_) (fun h1=>?_)
 ·rw [show takenN n s=none by unfold takenN;rw [if_pos (by omega)]]
  refine go ?_;intros
  refine ret (⟨a1,c1,F1,a2,c2,F2,a3,c3,F3,a4,c4,F4,a5,c5,F5,a6,c6,F6,a7,c7,F7⟩,⟨0,none,0,[]⟩) trivial rfl
 have hil:i < n.tree.parent.length:=by omega
 by_cases k5:s.kind=5
 ·have hu:isUp s=true:=by unfold isUp;rw [decide_eq_true k5];rfl
  have hq:queN n s=n.up[i]:=by unfold queN;rw [hu,if_pos rfl,hi,Int.toNat_natCast];exact getN (by omega) []
  have hpo:poppedN n s=popU n i:=by unfold poppedN;rw [hu,if_pos rfl,hi,Int.toNat_natCast]
  have h6:n.up[i].length≤6:=by
   have:=(que_good (s:=s) hg).1
   rw [hq] at this
   unfold goodQ at this
   simp only [Bool.and_eq_true,decide_eq_true_eq] at this
   exact this.1
  refine go ?_;intros
  refine wg_if rfl rfl (fun g5=>?_) (fun g5=>?_)
  rotate_left
  ·exact absurd k5 g5
  refine go ?_;intros
  refine cf (netPop_f n.up i a7 _ c7 F7 rfl (by omega) h6) fun J _=>?_
  refine t_app ?_
  by_cases h0:0 < n.up[i].length
  rotate_left
  ·have hz:n.up[i]=[]:=List.length_eq_zero_iff.1 (by omega)
   rw [show takenN n s=none by unfold takenN;rw [if_neg (by omega),hq,if_pos (by omega)],decide_eq_false h0,show n.up.set i (n.up[i].drop 1)=n.up by rw [hz,List.drop_nil];rw [←hz,List.set_getElem_self]]
   refine go ?_;intros
   refine ret (⟨a1,c1,F1,a2,c2,F2,a3,c3,F3,a4,c4,F4,a5,c5,F5,a6,c6,F6,a7,c7,J⟩,⟨0,none,0,[]⟩) trivial rfl
  have hmem:=popP_mem h0
  have hpk:goodPk (popP n.up[i])=true:=goodQ_mem (hq▸(que_good (s:=s) hg).1) hmem
  have hpz:(popP n.up[i]).data.size≤maxLen:=by
   have h9:=hpk
   unfold goodPk itm at h9
   simp only [Bool.and_eq_true,decide_eq_true_eq] at h9
   unfold maxLen;omega
  rw [decide_eq_true h0,show n.up.set i (n.up[i].drop 1)=(popU n i).up from (modify_set (by omega)).symm]
  have hgm:goodNet (popU n i)=true:=hpo▸popped_good hg
  have hGm:=goodNet_GN.1 hgm
  have hlm:n.up.length=(popU n i).up.length:=(List.length_modify ..).symm
  generalize hP:popP n.up[i]=P at *
  have htk:takenN n s=some (upN (popU n i) i P,[]):=by
   unfold takenN
   rw [if_neg (by omega),hq,if_neg (by omega),hpo,hP,hi,Int.toNat_natCast]
   rw [if_neg (by omega),if_pos k5]
  rw [htk]
  refine go ?_;intros
  refine c_if rfl (fun k2=>?_) (fun k2=>?_)
  ·exact absurd k2 (by omega)
  refine go ?_;intros
  refine c_if rfl (fun m5=>?_) (fun m5=>?_)
  rotate_left
  ·exact absurd k5 m5
  refine go ?_;intros
  rw [hlm]
  refine cf (upward_f (popU n i) i P g a1 c1 F1 a2 c2 F2 a3 c3 F3 a4 c4 F4 a5 c5 F5 a6 c6 F6 a7 c7 J hGm.l i0 hil (goodT hGm.t) hGm.s (fun k hk hkl hl=>?_) hpk hpz) fun z _=>?_
  rotate_left
  ·refine t_app ?_
   refine go ?_;intros
   refine ret (z,⟨0,none,0,[]⟩) trivial rfl
  ·obtain ⟨x1,x2,x3,x4,r⟩:=hGm.rn (i:=k) hkl
   rw [elAt_get x1];exact (r.hn hk hl).1
 by_cases k6:s.kind=6
 ·have hu:isUp s=true:=by unfold isUp;rw [decide_eq_true k6,Bool.or_true]
  have hq:queN n s=n.up[i]:=by unfold queN;rw [hu,if_pos rfl,hi,Int.toNat_natCast];exact getN (by omega) []
  have hpo:poppedN n s=popU n i:=by unfold poppedN;rw [hu,if_pos rfl,hi,Int.toNat_natCast]
  have h6:n.up[i].length≤6:=by
   have:=(que_good (s:=s) hg).1
   rw [hq] at this
   unfold goodQ at this
   simp only [Bool.and_eq_true,decide_eq_true_eq] at this
   exact this.1
  refine go ?_;intros
  refine wg_if rfl rfl (fun g5=>?_) (fun g5=>?_)
  ·exact absurd g5 (by omega)
  refine go ?_;intros
  refine c_if rfl (fun g6=>?_) (fun g6=>?_)
  rotate_left
  ·exact absurd k6 g6
  refine go ?_;intros
  refine cf (netPop_f n.up i a7 _ c7 F7 rfl (by omega) h6) fun J _=>?_
  refine t_app ?_
  by_cases h0:0 < n.up[i].length
  rotate_left
  ·have hz:n.up[i]=[]:=List.length_eq_zero_iff.1 (by omega)
   rw [show takenN n s=none by unfold takenN;rw [if_neg (by omega),hq,if_pos (by omega)],decide_eq_false h0,show n.up.set i (n.up[i].drop 1)=n.up by rw [hz,List.drop_nil];rw [←hz,List.set_getElem_self]]
   refine go ?_;intros
   refine ret (⟨a1,c1,F1,a2,c2,F2,a3,c3,F3,a4,c4,F4,a5,c5,F5,a6,c6,F6,a7,c7,J⟩,⟨0,none,0,[]⟩) trivial rfl
  have hmem:=popP_mem h0
  have hpk:goodPk (popP n.up[i])=true:=goodQ_mem (hq▸(que_good (s:=s) hg).1) hmem
  have hpz:(popP n.up[i]).data.size≤maxLen:=by
   have h9:=hpk
   unfold goodPk itm at h9
   simp only [Bool.and_eq_true,decide_eq_true_eq] at h9
   unfold maxLen;omega
  rw [decide_eq_true h0,show n.up.set i (n.up[i].drop 1)=(popU n i).up from (modify_set (by omega)).symm]
  have hgm:goodNet (popU n i)=true:=hpo▸popped_good hg
  have hGm:=goodNet_GN.1 hgm
  have hlm:n.up.length=(popU n i).up.length:=(List.length_modify ..).symm
  generalize hP:popP n.up[i]=P at *
  have htk:takenN n s=some (popU n i,[]):=by
   unfold takenN
   rw [if_neg (by omega),hq,if_neg (by omega),hpo,hP,hi,Int.toNat_natCast]
   rw [if_neg (by omega),if_neg (by omega)]
  rw [htk]
  refine go ?_;intros
  refine c_if rfl (fun k2=>?_) (fun k2=>?_)
  ·exact absurd k2 (by omega)
  refine go ?_;intros
  refine c_if rfl (fun m5=>?_) (fun m5=>?_)
  ·exact absurd m5 (by omega)
  refine go ?_;intros
  refine ret (⟨a1,c1,F1,a2,c2,F2,a3,c3,F3,a4,c4,F4,a5,c5,F5,a6,c6,F6,a7,c7,J⟩,⟨0,none,0,[]⟩) trivial rfl
 ·have hu:isUp s=false:=by unfold isUp;rw [decide_eq_false k5,decide_eq_false k6];rfl
  have hq:queN n s=n.down[i]:=by unfold queN;rw [hu,if_neg (by decide),hi,Int.toNat_natCast];exact getN (by omega) []
  have hpo:poppedN n s=popD n i:=by unfold poppedN;rw [hu,if_neg (by decide),hi,Int.toNat_natCast]
  have h6:n.down[i].length≤6:=by
   have:=(que_good (s:=s) hg).1
   rw [hq] at this
   unfold goodQ at this
   simp only [Bool.and_eq_true,decide_eq_true_eq] at this
   exact this.1
  refine go ?_;intros
  refine wg_if rfl rfl (fun g5=>?_) (fun g5=>?_)
  ·exact absurd g5 k5
  refine go ?_;intros
  refine c_if rfl (fun g6=>?_) (fun g6=>?_)
  ·exact absurd g6 k6
  refine go ?_;intros
  refine cf (netPop_f n.down i a6 _ c6 F6 rfl (by omega) h6) fun J _=>?_
  refine t_app ?_
  by_cases h0:0 < n.down[i].length
  rotate_left
  ·have hz:n.down[i]=[]:=List.length_eq_zero_iff.1 (by omega)
   rw [show takenN n s=none by unfold takenN;rw [if_neg (by omega),hq,if_pos (by omega)],decide_eq_false h0,show n.down.set i (n.down[i].drop 1)=n.down by rw [hz,List.drop_nil];rw [←hz,List.set_getElem_self]]
   refine go ?_;intros
   refine ret (⟨a1,c1,F1,a2,c2,F2,a3,c3,F3,a4,c4,F4,a5,c5,F5,a6,c6,J,a7,c7,F7⟩,⟨0,none,0,[]⟩) trivial rfl
  have hmem:=popP_mem h0
  have hpk:goodPk (popP n.down[i])=true:=goodQ_mem (hq▸(que_good (s:=s) hg).1) hmem
  have hpz:(popP n.down[i]).data.size≤maxLen:=by
   have h9:=hpk
   unfold goodPk itm at h9
   simp only [Bool.and_eq_true,decide_eq_true_eq] at h9
   unfold maxLen;omega
  rw [decide_eq_true h0,show n.down.set i (n.down[i].drop 1)=(popD n i).down from (modify_set (by omega)).symm]
  have hgm:goodNet (popD n i)=true:=hpo▸popped_good hg
  have hGm:=goodNet_GN.1 hgm
  have hlm:n.down.length=(popD n i).down.length:=(List.length_modify ..).symm
  generalize hP:popP n.down[i]=P at *
  have htk:takenN n s=if s.kind=2 then some (delivN (popD n i) i P) else some (popD n i,[]):=by
   unfold takenN
   rw [if_neg (by omega),hq,if_neg (by omega),hpo,hP,hi,Int.toNat_natCast]
   split
   ·rfl
   ·first|rfl|rw [if_neg k5]
  rw [htk]
  refine go ?_;intros
  refine c_if rfl (fun k2=>?_) (fun k2=>?_)
  ·rw [if_pos k2]
   refine go ?_;intros
   rw [hlm]
   refine cf (deliver_f (popD n i) i P g a1 c1 F1 a2 c2 F2 a3 c3 F3 a4 c4 F4 a5 c5 F5 a6 c6 J a7 c7 F7 FT hGm.l hil (goodT hGm.t) (fun hl=>?_) (fun hl=>?_) hpk hpz) fun z _=>?_
   rotate_left
   rotate_left
   ·refine t_app ?_
    refine go ?_;intros
    refine ret (z.1,z.2) trivial rfl
   ·obtain ⟨x1,x2,x3,x4,r⟩:=hGm.rn (i:=i) hil
    rw [rcAt_get x2];exact (r.hf i0 hl).2.1
   ·obtain ⟨x1,x2,x3,x4,r⟩:=hGm.rn (i:=i) hil
    rw [elAt_get x1];exact (r.hn i0 hl).1
  ·rw [if_neg k2]
   refine go ?_;intros
   refine c_if rfl (fun m5=>?_) (fun m5=>?_)
   ·exact absurd m5 k5
   refine go ?_;intros
   refine ret (⟨a1,c1,F1,a2,c2,F2,a3,c3,F3,a4,c4,F4,a5,c5,F5,a6,c6,J,a7,c7,F7⟩,⟨0,none,0,[]⟩) trivial rfl
theorem step_f (n:Net) (s:Step) (g:Nat) (a1:Option Addr) (c1:Nat) (F1:List Nat) (a2:Option Addr) (c2:Nat) (F2:List Nat) (a3:Option Addr) (c3:Nat) (F3:List Nat) (a4:Option Addr) (c4:Nat) (F4:List Nat) (a5:Option Addr) (c5:Nat) (F5:List Nat) (a6:Option Addr) (c6:Nat) (F6:List Nat) (a7:Option Addr) (c7:Nat) (F7:List Nat) (FT:List Nat) (hg:goodNet n=true) (hs:okStep s=true) (hss:s.data.size≤maxLen) :
  Fn Tryz.prog 45 [ptr g 0 0,.agg #[.int .i64 s.kind,.int .i64 s.node,.string s.data]] [EnvP FT] [.row g 49 0 [] [.slice a1 n.tree.parent.length c1,.int .i64 n.source.window.trail,.int .i64 n.source.window.size,.slice a2 n.source.window.items.length c2,.int .i64 n.source.clock,.int .i64 n.source.quiet,.slice a3 n.source.holds.length c3,.slice a4 n.elements.length c4,.slice a5 n.receivers.length c5,.slice a6 n.down.length c6,.slice a7 n.up.length c7] [],.ow EInt 3 (.slice a1 n.tree.parent.length c1) n.tree.parent F1,.ow EStr 9 (.slice a2 n.source.window.items.length c2) n.source.window.items F2,.ow EHold 194 (.slice a3 n.source.holds.length c3) n.source.holds F3,.ow OElement 142 (.slice a4 n.elements.length c4) n.elements F4,.ow OReceiver 149 (.slice a5 n.receivers.length c5) n.receivers F5,.ow (OSl EPacket 127) 132 (.slice a6 n.down.length c6) n.down F6,.ow (OSl EPacket 127) 132 (.slice a7 n.up.length c7) n.up F7] (fun (_:NV × KA)=>True) (fun z=>.tuple #[.slice z.2.a (outE (stepN n s)).length z.2.c,.bool (stepN n s).isSome]) (fun z=>[.row g 49 0 [] [.slice z.1.a1 n.tree.parent.length z.1.c1,.int .i64 (outN n (stepN n s)).source.window.trail,.int .i64 (outN n (stepN n s)).source.window.size,.slice z.1.a2 (outN n (stepN n s)).source.window.items.length z.1.c2,.int .i64 (outN n (stepN n s)).source.clock,.int .i64 (outN n (stepN n s)).source.quiet,.slice z.1.a3 (outN n (stepN n s)).source.holds.length z.1.c3,.slice z.1.a4 n.elements.length z.1.c4,.slice z.1.a5 n.receivers.length z.1.c5,.slice z.1.a6 n.down.length z.1.c6,.slice z.1.a7 n.up.length z.1.c7] [],.ow EInt 3 (.slice z.1.a1 n.tree.parent.length z.1.c1) (outN n (stepN n s)).tree.parent z.1.F1,.ow EStr 9 (.slice z.1.a2 (outN n (stepN n s)).source.window.items.length z.1.c2) (outN n (stepN n s)).source.window.items z.1.F2,.ow EHold 194 (.slice z.1.a3 (outN n (stepN n s)).source.holds.length z.1.c3) (outN n (stepN n s)).source.holds z.1.F3,.ow OElement 142 (.slice z.1.a4 n.elements.length z.1.c4) (outN n (stepN n s)).elements z.1.F4,.ow OReceiver 149 (.slice z.1.a5 n.receivers.length z.1.c5) (outN n (stepN n s)).receivers z.1.F5,.ow (OSl EPacket 127) 132 (.slice z.1.a6 n.down.length z.1.c6) (outN n (stepN n s)).down z.1.F6,.ow (OSl EPacket 127) 132 (.slice z.1.a7 n.up.length z.1.c7) (outN n (stepN n s)).up z.1.F7,.ow EStr 9 (.slice z.2.a (outE (stepN n s)).length z.2.c) (outE (stepN n s)) z.2.F]):=by
 have hG:=goodNet_GN.1 hg
 have h8:=goodT hG.t
 have hn8:=h8.n1
 have hn2:=h8.n0
 obtain ⟨q1,q2,q3,q4⟩:=lensN_iff.1 hG.l
 have hS:=goodS_of hG.s
 obtain ⟨-,⟨hz1, -⟩, -, -⟩:=goodWin_iff.1 hS.w
 have hkl:=kids_len n.tree.parent 0
 have hkx:∀x∈kids n.tree.parent 0,0≤x∧x.toNat < n.down.length:=fun x hx=>by have:=kids_behind (i:=0) h8 hx;omega
 refine enter Tryz.func45 rfl Tryz.ntmps45 fun w0=>?_
 refine t_nilow EStr 9 ?_
 refine go ?_;intros
 rename_i gs
 refine c_if rfl (fun h1=>?_) (fun h1=>?_)
 ·rw [show stepN n s=some (sendN n s.data,[]) by unfold stepN;rw [if_pos h1]]
  refine go ?_;intros
  refine dsI [.cel g 0 [.slice a1 n.tree.parent.length c1],.row gs 53 0 [] [.int .i64 s.kind,.int .i64 s.node,.string s.data] []] [] ?_
  refine dtI 0 (fun w h=>hol2 (row_cel (h (.row g _ 0 [] _ []) (by exact memE))) (h _ (by exact memE))) ?_
  refine dtI 1 (fun w h=>hol2 (row_cel (h (.row g _ 0 [] _ []) (by exact memE))) (h _ (by exact memE))) ?_
  refine dtI 2 (fun w h=>hol2 (row_cel (h (.row g _ 0 [] _ []) (by exact memE))) (h _ (by exact memE))) ?_
  refine dtI 3 (fun w h=>hol2 (row_cel (h (.row g _ 0 [] _ []) (by exact memE))) (h _ (by exact memE))) ?_
  refine dtI 4 (fun w h=>hol2 (row_cel (h (.row g _ 0 [] _ []) (by exact memE))) (h _ (by exact memE))) ?_
  refine dtI 6 (fun w h=>hol2 (row_cel (h (.row g _ 0 [] _ []) (by exact memE))) (h _ (by exact memE))) ?_
  refine dtI 7 (fun w h=>hol2 (row_cel (h (.row g _ 0 [] _ []) (by exact memE))) (h _ (by exact memE))) ?_
  refine dtI 8 (fun w h=>hol2 (row_cel (h (.row g _ 0 [] _ []) (by exact memE))) (h _ (by exact memE))) ?_
  refine dtI 9 (fun w h=>hol2 (row_cel (h (.row g _ 0 [] _ []) (by exact memE))) (h _ (by exact memE))) ?_
  refine dtI 10 (fun w h=>hol2 (row_cel (h (.row g _ 0 [] _ []) (by exact memE))) (h _ (by exact memE))) ?_
  refine dN 5 ?_
  refine oC ?_
  refine cfr (fun w st=>by obtain ⟨Fq,hq⟩:=rdTree (st.get (p:=.ow EInt 3 (.slice a1 n.tree.parent.length c1) n.tree.parent F1) (by exact memE));exact ⟨_,hol1 hq,rfl,children_f n.tree 0 _ Fq (by show n.tree.parent.length≤1000000;omega)⟩) (fun u _=>?_)
  refine t_app ?_
  refine t_read (E:=EInt) (xs:=kids n.tree.parent 0) fun Fk=>?_
  refine dkI (fun w h=>hol2 (row_cel (h (.row g _ 0 [] _ []) (by exact memE))) (h _ (by exact memE))) ?_
  refine dN 11 ?_
  refine oC ?_
  refine cf (fn_rin (X:=[.slice a1 n.tree.parent.length c1]) (cs:=[.int .i64 n.source.window.trail,.int .i64 n.source.window.size,.slice a2 n.source.window.items.length c2,.int .i64 n.source.clock,.int .i64 n.source.quiet,.slice a3 n.source.holds.length c3]) (Y:=[.slice a4 n.elements.length c4,.slice a5 n.receivers.length c5,.slice a6 n.down.length c6,.slice a7 n.up.length c7]) (L:=[.slice a1 n.tree.parent.length c1,.int .i64 n.source.window.trail,.int .i64 n.source.window.size,.slice a2 n.source.window.items.length c2,.int .i64 n.source.clock,.int .i64 n.source.quiet,.slice a3 n.source.holds.length c3,.slice a4 n.elements.length c4,.slice a5 n.receivers.length c5,.slice a6 n.down.length c6,.slice a7 n.up.length c7]) (L':=fun z:SeS=>[.slice a1 n.tree.parent.length c1,.int .i64 (pushedW n.source.window s.data).trail,.int .i64 (pushedW n.source.window s.data).size,.slice z.a (pushedW n.source.window s.data).items.length z.c,.int .i64 n.source.clock,.int .i64 0,.slice z.a2 (keepH (pushedW n.source.window s.data) n.source.holds).length z.c2,.slice a4 n.elements.length c4,.slice a5 n.receivers.length c5,.slice a6 n.down.length c6,.slice a7 n.up.length c7]) (cs':=fun z:SeS=>[.int .i64 (pushedW n.source.window s.data).trail,.int .i64 (pushedW n.source.window s.data).size,.slice z.a (pushedW n.source.window s.data).items.length z.c,.int .i64 n.source.clock,.int .i64 0,.slice z.a2 (keepH (pushedW n.source.window s.data) n.source.holds).length z.c2]) (Ssend_f n.source.window s.data n.source.holds g 49 (0+1) _ _ a2 a3 c2 c3 n.source.clock n.source.quiet F2 F3 hS.l hS.t0 hS.t1 hss hz1 hS.n) rfl rfl (fun _=>rfl)) fun z _=>?_
  refine t_app ?_
  refine dkI (fun w h=>hol2 (row_cel (h (.row g _ 0 [] _ []) (by exact memE))) (h _ (by exact memE))) ?_
  refine dN 12 ?_
  apply o_bs;rfl;rfl;rfl;rfl;exact rptE;exact filE;intro _
  refine t_row (E:=EPacket) (xs:=[pushedP n.source.window s.data]) (flatPacket (pushedP n.source.window s.data) hss) ?_ (by simp)
  refine t_read (E:=EPacket) (xs:=[pushedP n.source.window s.data]) fun Fp=>?_
  refine dkI (fun w h=>hol2 (row_cel (h (.row g _ 0 [] _ []) (by exact memE))) (h _ (by exact memE))) ?_
  refine dN 13 ?_
  refine oC ?_
  refine cf (down_f n.down (kids n.tree.parent 0) [pushedP n.source.window s.data] g _ _ _ _ _ _ _ _ _ _ a6 _ c6 F6 _ _ Fk _ _ Fp rfl hkx) fun J6 _=>?_
  refine t_app ?_
  refine dkI (fun w h=>hol2 (row_cel (h (.row g _ 0 [] _ []) (by exact memE))) (h _ (by exact memE))) ?_
  refine dd ?_
  refine go ?_;intros
  refine ret (⟨a1,c1,F1,z.a,z.c,z.F,z.a2,z.c2,z.F2,a4,c4,F4,a5,c5,F5,a6,c6,J6,a7,c7,F7⟩,⟨0,none,0,[]⟩) trivial rfl
 refine go ?_;intros
 refine c_if rfl (fun h4=>?_) (fun h4=>?_)
 ·refine go ?_;intros
  refine c_if rfl (fun hc=>?_) (fun hc=>?_)
  ·rw [show stepN n s=none by unfold stepN;rw [if_neg h1,if_pos h4,if_pos hc]]
   refine go ?_;intros
   refine ret (⟨a1,c1,F1,a2,c2,F2,a3,c3,F3,a4,c4,F4,a5,c5,F5,a6,c6,F6,a7,c7,F7⟩,⟨0,none,0,[]⟩) trivial rfl
  ·rw [show stepN n s=some (tickN n) by unfold stepN;rw [if_neg h1,if_pos h4,if_neg hc]]
   have hck:=src_clkN hG.s
   refine go ?_;intros
   refine cf (Ntick_f n g a1 c1 F1 a2 c2 F2 a3 c3 F3 a4 c4 F4 a5 c5 F5 a6 c6 F6 a7 c7 F7 FT hg (by omega)) fun z _=>?_
   refine t_app ?_
   refine go ?_;intros
   refine ret (z.1,z.2) trivial rfl
 ·rw [show stepN n s=takenN n s by unfold stepN;rw [if_neg h1,if_neg h4]]
  have hf:isFac s.node=true:=by
   unfold okStep at hs
   rw [if_neg h1,if_neg h4] at hs
   simp only [Bool.and_eq_true] at hs
   exact hs.1.2
  refine go ?_;intros
  refine cf (taken_f n s g a1 c1 F1 a2 c2 F2 a3 c3 F3 a4 c4 F4 a5 c5 F5 a6 c6 F6 a7 c7 F7 FT hg hf) fun z _=>?_
  refine t_app ?_
  refine go ?_;intros
  refine ret (z.1,z.2) trivial rfl
def zNet:Net:=⟨⟨[]⟩,zSrc,[],[],[],[]⟩
theorem good_els {n:Net} (h:goodNet n=true):(∀x∈n.elements,goodElement x=true)∧(∀x∈n.receivers,goodRec x=true)∧(∀q∈n.down,goodQ q=true)∧∀q∈n.up,goodQ q=true:=by
 have hG:=goodNet_GN.1 h
 obtain ⟨q1,q2,q3,q4⟩:=lensN_iff.1 hG.l
 refine ⟨fun x hx=>?_,fun x hx=>?_,fun x hx=>?_,fun x hx=>?_⟩
 all_goals
  obtain ⟨i,hi,rfl⟩:=List.getElem_of_mem hx
  obtain ⟨h1,h2,h3,h4,r⟩:=hG.rn (i:=i) (by omega)
 ·by_cases e:i=0
  ·exact good_zElem (r.hz e).1
  ·cases l:leafT n.tree.parent ((i:Nat):Int)
   ·exact (r.hn e l).1
   ·exact good_zElem (r.hf e l).1
 ·by_cases e:i=0
  ·exact good_zRecv (r.hz e).2.1
  ·cases l:leafT n.tree.parent ((i:Nat):Int)
   ·exact good_zRecv (r.hn e l).2.2
   ·exact (r.hf e l).2.1
 ·exact r.hd
 ·exact r.hu
theorem goodQ_len {q:List Packet} (h:goodQ q=true):q.length≤6∧∀p∈q,goodPk p=true:=by
 unfold goodQ at h
 simpa [List.all_eq_true] using h
theorem small_of_good {n:Net} (h:goodNet n=true):SmallN n:=by
 have hG:=goodNet_GN.1 h
 have h8:=(goodT hG.t).n1
 obtain ⟨q1,q2,q3,q4⟩:=lensN_iff.1 hG.l
 have hS:=goodS_of hG.s
 have hl:=hS.l
 have hm:=hS.m
 obtain ⟨e1,e2,e3,e4⟩:=good_els h
 refine ⟨by omega,by omega,by omega,by omega,fun x hx=>?_,fun x hx y hy=>?_,by omega,fun x hx=>⟨?_,?_⟩,by omega,fun q hq=>?_,by omega,fun q hq=>?_⟩
 ·have:=(goodE_iff.1 (e1 x hx)).2.1;omega
 ·have:=(good_room (e1 x hx)).2.2 y hy;omega
 ·have:=(good_items (goodR_iff.1 (e2 x hx)).w).1;omega
 ·have:=(areQ_iff.1 (goodR_iff.1 (e2 x hx)).q).2.1;omega
 ·have:=(goodQ_len (e3 q hq)).1;omega
 ·have:=(goodQ_len (e4 q hq)).1;omega
theorem tickTo_tree (n:Net):∀k,(tickTo n k).1.tree=n.tree
 | 0=>rfl
 | k+1=>(tick1_tree _ _).1.trans (tickTo_tree n k)
theorem step_tree {n:Net} {s:Step} {r:Net × List ByteArray} (hr:stepN n s=some r):r.1.tree=n.tree:=by
 have hd:∀(n:Net) i p,(delivN n i p).1.tree=n.tree:=fun n i p=>by unfold delivN;split <;> rfl
 have hu:∀(n:Net) i p,(upN n i p).tree=n.tree:=fun n i p=>by unfold upN;split <;> rfl
 have hp:(poppedN n s).tree=n.tree:=by unfold poppedN;split <;> rfl
 unfold stepN takenN at hr
 split at hr
 ·cases hr;rfl
 split at hr
 ·split at hr
  ·cases hr
  ·cases hr;exact tickTo_tree n _
 split at hr
 ·cases hr
 split at hr
 ·cases hr
 split at hr
 ·cases hr;exact (hd _ _ _).trans hp
 split at hr
 ·cases hr;exact (hu _ _ _).trans hp
 ·cases hr;exact hp
theorem lens_of {n m:Net} (h1:goodNet n=true) (h2:goodNet m=true) (h:m.tree=n.tree):n.tree.parent.length=m.tree.parent.length∧n.elements.length=m.elements.length∧n.receivers.length=m.receivers.length∧n.down.length=m.down.length∧n.up.length=m.up.length:=by
 obtain ⟨p1,p2,p3,p4⟩:=lensN_iff.1 (goodNet_GN.1 h1).l
 obtain ⟨q1,q2,q3,q4⟩:=lensN_iff.1 (goodNet_GN.1 h2).l
 rw [h] at q1 q2 q3 q4
 exact ⟨by rw [h],by omega,by omega,by omega,by omega⟩
def resStepNet (n:Net) (s:Step):Net × List ByteArray × Bool:=if goodNet n && okStep s then (match stepN n s with
 | some r=>(r.1,r.2,true)
 | none=>(zNet,[],false)) else (zNet,[],false)
def okQ (up:Bool) (p:Packet):Bool:=goodPk p && (!up || decide (p.kind=3))
theorem okQ_all (up:Bool) (l:List Packet):(l.all (okQ up) && decide (l.length≤6))=(goodQ l && (!up || upQ l)):=by
 have h:l.all (okQ up)=(l.all goodPk && (!up || upQ l)):=by
  unfold upQ okQ
  induction l with
  | nil=>cases up <;> rfl
  | cons p l ih =>
   simp only [List.all_cons,ih]
   cases goodPk p <;> cases up <;> cases decide (p.kind=3) <;> cases l.all goodPk <;> simp
 rw [h]
 unfold goodQ
 cases decide (l.length≤6) <;> cases l.all goodPk <;> simp
theorem okQ_no {up:Bool} {l:List Packet} {k:Nat} (h:k < l.length) (hp:okQ up l[k]=false):(goodQ l && (!up || upQ l))=false:=by
 rw [←okQ_all,show l.all (okQ up)=false from List.all_eq_false.2 ⟨l[k],List.getElem_mem h,by simp [hp]⟩];rfl
theorem l15Queue_f (l:List Packet) (up:Bool) (a:Option Addr) (c:Nat) (F:List Nat) (hl:l.length≤9223372036854775807):Fn Tryz.prog 153 [.slice a l.length c,.bool up] [.sl EPacket (.slice a l.length c) l F] [] (fun (_:Unit)=>True) (fun _=>.bool (goodQ l && (!up || upQ l))) (fun _=>[]):=by
 refine enter Tryz.func153 rfl Tryz.ntmps153 fun w0=>?_
 refine go ?_;intros
 refine c_loopR [0,1,4] (fun k:Nat=>[(5,.int .i64 (k:Nat))]) (fun k=>k≤l.length∧∀j,j < k→∀h:j < l.length,okQ up l[j]=true) (fun k=>l.length - k) 0 ⟨Nat.zero_le _,fun j h=>by omega⟩ fun k hk=>?_
 obtain ⟨hk1,hk2⟩:=hk
 refine go ?_;intros
 refine c_if rfl (fun h1=>?_) (fun h1=>?_)
 ·have hh:k < l.length:=by omega
  refine atPacket (xs:=l) k ?_
  rintro hi b o e1 s1
  rw [e1]
  refine go ?_;intros
  refine cf (l4Good_f l[k] s1) fun _ _=>?_
  refine t_app ?_
  cases g:goodPk l[k]
  ·rw [okQ_no hh (by unfold okQ;rw [g];rfl)]
   refine go ?_;intros
   refine ret () trivial rfl
  cases up
  ·refine go ?_;intros
   refine n_lp (k+1) ⟨hh,fun j hj h=>?_⟩ (by show l.length - (k+1) < l.length - k;omega)
   rcases Nat.lt_or_eq_of_le (Nat.lt_succ_iff.1 hj) with h'|rfl
   ·exact hk2 j h' h
   ·unfold okQ;rw [g];rfl
  ·refine go ?_;intros
   refine c_if rfl (fun h3=>?_) (fun h3=>?_)
   ·rw [okQ_no hh (by unfold okQ;rw [g,decide_eq_false h3];rfl)]
    refine go ?_;intros
    refine ret () trivial rfl
   ·refine go ?_;intros
    refine n_lp (k+1) ⟨hh,fun j hj h=>?_⟩ (by show l.length - (k+1) < l.length - k;omega)
    rcases Nat.lt_or_eq_of_le (Nat.lt_succ_iff.1 hj) with h'|rfl
    ·exact hk2 j h' h
    ·unfold okQ;rw [g,decide_eq_true (by omega)];rfl
 ·obtain rfl:k=l.length:=by omega
  refine go ?_;intros
  refine ret () trivial ?_
  rw [←okQ_all,show l.all (okQ up)=true from List.all_eq_true.2 fun p hp=>by obtain ⟨j,hj,rfl⟩:=List.getElem_of_mem hp;exact hk2 j hj hj,Bool.true_and]
  by_cases h6:l.length≤6
  ·rw [decide_eq_true h6,decide_eq_true (by omega)];rfl
  ·rw [decide_eq_false h6,decide_eq_false (by omega)];rfl
theorem isZeroElement_f (e:Element) (v:Value) (F:List Nat):Fn Tryz.prog 180 [v] [.isv EElement v e F] [] (fun (_:Unit)=>True) (fun _=>.bool (zElem e)) (fun _=>[]):=by
 refine enter Tryz.func180 rfl Tryz.ntmps180 fun w0=>?_
 refine openElement ?_
 rintro a1 c1 F1 rfl l1
 refine go ?_;intros
 refine wg_if rfl rfl (fun h1=>?_) (fun h1=>?_)
 ·refine go ?_;intros
  refine ret () trivial ?_
  unfold zElem
  rw [decide_eq_true h1,Bool.true_and]
  by_cases h:e.entries.length=0
  ·rw [decide_eq_true h,decide_eq_true (by omega)];rfl
  ·rw [decide_eq_false h,decide_eq_false (by omega)];rfl
 ·refine go ?_;intros
  refine ret () trivial ?_
  unfold zElem
  rw [decide_eq_false h1];rfl
end Go.Proofs.YtgmbfohkpfineaaGreatDoor
