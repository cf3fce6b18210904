/- Part 6 of the proof: 21 texts, one behind the other. -/
import Derived.Test.YtgmbfohkpfineaaGreatDoorM5
set_option maxRecDepth 100000
set_option maxHeartbeats 8000000
set_option linter.all false
set_option linter.unusedVariables false
set_option linter.unusedSimpArgs false
namespace Go.Proofs.YtgmbfohkpfineaaGreatDoor
open Go.RowKit
theorem isq1_f (p:Packet) (hs:p.data.size≤maxLen):Fn Tryz.prog 239 [.agg #[.int .i64 (p).kind,.int .i64 (p).number,.int .i64 (p).trail,.int .i64 (p).lead,.string (p).data]] [] [] (fun (_:Unit)=>True) (fun _=>.bool (!goodPk p)) (fun _=>[]):=by
 refine enter Tryz.func239 rfl Tryz.ntmps239 fun w0=>?_
 refine go ?_;intros
 refine cf (IsValidPacket_f p hs) fun _ _=>?_
 refine t_app ?_
 refine go ?_;intros
 refine ret () trivial rfl
theorem isQueue_f (l:List Packet) (a:Option Addr) (c:Nat) (F:List Nat):Fn Tryz.prog 177 [.slice a l.length c] [.sl EPacket (.slice a l.length c) l F] [] (fun (_:Unit)=>True) (fun _=>.bool (goodQ l)) (fun _=>[]):=by
 refine enter Tryz.func177 rfl Tryz.ntmps177 fun w0=>?_
 refine t_each (E:=EPacket) (fun p:Packet=>p.data.size≤maxLen) (fun w cs x F h=>by obtain ⟨_,h,_⟩:=h;exact h) ?_
 intro hz
 refine go ?_;intros
 refine wg_if rfl rfl (fun h1=>?_) (fun h1=>?_)
 ·refine go ?_;intros
  refine cb (fun w st=>(ConPk_f 239 [] [] [] rfl l a c F (fun p=>!goodPk p) (by kernel_rfl) (by omega) (fun p hp w _=>(isq1_f p (hz p hp)).val w (by intro q hq;cases hq))).val w (hol1 (st.get (p:=.sl EPacket (.slice a l.length c) l F) (by exact memE)))) ?_
  refine go ?_;intros
  refine ret () trivial ?_
  unfold goodQ
  rw [decide_eq_true (show l.length≤6 by omega),List.not_any_eq_all_not];simp;rfl
 ·refine go ?_;intros
  refine ret () trivial ?_
  unfold goodQ
  rw [decide_eq_false (show ¬l.length≤6 by omega)];rfl
theorem isZeroReceiver_f (r:Receiver) (v:Value) (F:List Nat):Fn Tryz.prog 181 [v] [.isv EReceiver v r F] [] (fun (_:Unit)=>True) (fun _=>.bool (zRecv r)) (fun _=>[]):=by
 have key:∀b:Bool,(b=(!r.started && decide (r.clock=0) && (decide (r.window.next=0) && decide (r.window.slots.length=0) && decide (r.requests.length=0))))→b=zRecv r:=fun b h=>h
 refine enter Tryz.func181 rfl Tryz.ntmps181 fun w0=>?_
 refine openReceiver ?_
 rintro a1 c1 F1 a2 c2 F2 rfl l1 l2
 unfold maxLen at l1 l2
 cases hs:r.started <;> rw [hs] at key
 ·refine go ?_;intros
  refine wg_if rfl rfl (fun h1=>?_) (fun h1=>?_)
  ·refine go ?_;intros
   refine wg_if rfl rfl (fun h2=>?_) (fun h2=>?_)
   ·refine go ?_;intros
    refine wg_if rfl rfl (fun h3=>?_) (fun h3=>?_)
    ·refine go ?_;intros
     refine ret () trivial ?_
     rw [←key (decide ((r.requests.length:Int)=0)) (by simp [h1,h2,show r.window.slots.length=0 by omega])];rfl
    ·refine go ?_;intros
     refine ret () trivial ?_
     rw [←key false (by simp [show ¬r.window.slots=[] from fun e=>h3 (by rw [e];rfl)])];rfl
   ·refine go ?_;intros
    refine ret () trivial ?_
    rw [←key false (by simp [h2])];rfl
  ·refine go ?_;intros
   refine ret () trivial ?_
   rw [←key false (by simp [h1])];rfl
 ·refine go ?_;intros
  refine ret () trivial ?_
  rw [←key false (by simp)];rfl
theorem irn1_f (p:Packet):Fn Tryz.prog 179 [.agg #[.int .i64 (p).kind,.int .i64 (p).number,.int .i64 (p).trail,.int .i64 (p).lead,.string (p).data]] [] [] (fun (_:Unit)=>True) (fun _=>.bool (!decide (p.kind=3))) (fun _=>[]):=by
 refine enter Tryz.func179 rfl Tryz.ntmps179 fun w0=>?_
 refine go ?_;intros
 refine ret () trivial ?_
 rw [←decide_not];rfl
theorem upQ_any (l:List Packet):(l.any fun p=>!decide (p.kind=3)) = !upQ l:=by
 unfold upQ;rw [List.not_all_eq_any_not]
theorem len_z {α:Type} (l:List α):decide ((l.length:Int)=0)=decide (l.length=0):=by
 by_cases h:l.length=0
 ·rw [decide_eq_true h,decide_eq_true (by omega)]
 ·rw [decide_eq_false h,decide_eq_false (by omega)]
theorem rn_no {par:List Int} {clk:Int} {i:Nat} {e:Element} {r:Receiver} {d u:List Packet} (h:(goodQ d && goodQ u && upQ u)=false):rightN par clk i e r d u=false:=by unfold rightN;rw [h];rfl
theorem rn_yes {par:List Int} {clk:Int} {i:Nat} {e:Element} {r:Receiver} {d u:List Packet} (h:(goodQ d && goodQ u && upQ u)=true):rightN par clk i e r d u=(if i=0 then zElem e && zRecv r && decide (d.length=0) && decide (u.length=0)
  else if leafT par i then zElem e && goodRec r && decide (r.clock=clk) else goodElement e && decide (e.clock=clk) && zRecv r):=by unfold rightN;rw [h,Bool.true_and]
theorem isRightNode_f (n:Net) (i:Nat) (v:Value) (F:List Nat) (hl:lensN n=true) (hi:i < n.tree.parent.length):Fn Tryz.prog 94 [v,.int .i64 (i:Nat)] [.isv ENet v n F] [] (fun (_:Unit)=>True) (fun _=>.bool (atNode n i)) (fun _=>[]):=by
 obtain ⟨q1,q2,q3,q4⟩:=lensN_iff.1 hl
 rw [atNode_at (by omega) (by omega) (by omega) (by omega)]
 refine enter Tryz.func94 rfl Tryz.ntmps94 fun w0=>?_
 refine openNet ?_
 rintro a1 c1 F1 a2 c2 F2 a3 c3 F3 a4 c4 F4 a5 c5 F5 a6 c6 F6 a7 c7 F7 rfl l1 l2 l3 l4 l5 l6 l7
 unfold maxLen at l1 l2 l3 l4 l5 l6 l7
 refine closeTree n.tree ?_
 refine atElement (xs:=n.elements) i ?_
 rintro hi4 b4 o4 a8 c8 F8 rfl l8
 refine closeElement n.elements[i] ?_
 refine atReceiver (xs:=n.receivers) i ?_
 rintro hi5 b5 o5 a9 c9 F9 a10 c10 F10 rfl l9 l10
 refine closeReceiver n.receivers[i] ?_
 refine at_ESl (E:=EPacket) (hz:=by decide) (xs:=n.down) i ?_
 rintro hi6 b6 o6 a11 c11 F11 rfl l11
 refine at_ESl (E:=EPacket) (hz:=by decide) (xs:=n.up) i ?_
 rintro hi7 b7 o7 a12 c12 F12 rfl l12
 unfold maxLen at l8 l9 l10 l11 l12
 refine go ?_;intros
 refine c_joinS [1,2,4] [0,1,2,3,4,5,6,7,8,9,10,11,12,13,14,15,16,17,18,19,20] (fun z:Nat × Nat=>[(5,ptr z.1 0 0),(6,ptr z.2 0 0)]) (fun z=>[.row z.1 142 0 [] [.int .i64 n.elements[i].clock,.slice a8 n.elements[i].entries.length c8] [],.row z.2 149 0 [] [.bool n.receivers[i].started,.int .i64 n.receivers[i].clock,.int .i64 n.receivers[i].window.next,.slice a9 n.receivers[i].window.slots.length c9,.slice a10 n.receivers[i].requests.length c10] []]) (fun _=>True) ?_ fun z _=>?_
 ·refine d_start [0,6,10] [] ?_
  refine dt4 0 1 2 3 ?_
  refine dt4 4 5 6 7 ?_
  refine dt2 8 9 ?_
  refine dM 10 11 ?_ ?_
  ·apply o_alloc;rfl;intro _
   refine dk ?_
   refine dN 11 ?_
   apply o_alloc;rfl;intro _
   refine dk ?_
   refine dN 12 ?_
   refine oS ?_
   refine dk ?_
   refine dN 13 ?_
   refine oS ?_
   refine dk ?_
   refine dd ?_
   refine n_join ((_,_):Nat × Nat) trivial
  ·apply o_alloc;rfl;intro _
   refine dk ?_
   refine dN 10 ?_
   apply o_alloc;rfl;intro _
   refine dk ?_
   refine dN 12 ?_
   refine oS ?_
   refine dk ?_
   refine dN 13 ?_
   refine oS ?_
   refine dk ?_
   refine dd ?_
   refine n_join ((_,_):Nat × Nat) trivial
 refine go ?_;intros
 refine cf (isQueue_f n.down[i] _ _ F11) fun _ _=>?_
 refine t_app ?_
 cases g1:goodQ n.down[i]
 ·rw [rn_no (by rw [g1];rfl)]
  refine go ?_;intros
  refine ret () trivial rfl
 refine go ?_;intros
 refine cf (isQueue_f n.up[i] _ _ F12) fun _ _=>?_
 refine t_app ?_
 cases g2:goodQ n.up[i]
 ·rw [rn_no (by rw [g1,g2];rfl)]
  refine go ?_;intros
  refine ret () trivial rfl
 have u6:n.up[i].length≤6:=by
  unfold goodQ at g2
  simp only [Bool.and_eq_true,decide_eq_true_eq] at g2
  exact g2.1
 refine go ?_;intros
 refine cb (fun w st=>(ConPk_f 179 [] [] [] rfl n.up[i] a12 c12 F12 (fun p=>!decide (p.kind=3)) (by kernel_rfl) (by omega) (fun p hp w _=>(irn1_f p).val w (by intro q hq;cases hq))).val w (hol1 (st.get (p:=.sl EPacket (.slice a12 n.up[i].length c12) n.up[i] F12) (by exact memE)))) ?_
 rw [upQ_any]
 cases g3:upQ n.up[i]
 ·rw [rn_no (by rw [g1,g2,g3];rfl)]
  refine go ?_;intros
  refine ret () trivial rfl
 rw [rn_yes (by rw [g1,g2,g3];rfl)]
 refine go ?_;intros
 refine c_if rfl (fun h0=>?_) (fun h0=>?_)
 ·obtain rfl:i=0:=by omega
  rw [if_pos rfl]
  refine go ?_;intros
  refine cf (isZeroElement_f n.elements[0] _ F8) fun _ _=>?_
  refine t_app ?_
  cases g4:zElem n.elements[0]
  ·refine go ?_;intros
   refine ret () trivial rfl
  refine go ?_;intros
  refine cf (isZeroReceiver_f n.receivers[0] _ (F9++F10)) fun _ _=>?_
  refine t_app ?_
  cases g5:zRecv n.receivers[0]
  ·refine go ?_;intros
   refine ret () trivial rfl
  refine go ?_;intros
  refine wg_if rfl rfl (fun h6=>?_) (fun h6=>?_)
  ·refine go ?_;intros
   refine ret () trivial ?_
   rw [←len_z n.down[0],←len_z n.up[0],decide_eq_true h6];rfl
  ·refine go ?_;intros
   refine ret () trivial ?_
   rw [←len_z n.down[0],decide_eq_false h6];rfl
 rw [if_neg (by omega)]
 refine go ?_;intros
 refine cf (isLeaf_f n.tree i _ F1) fun _ _=>?_
 refine t_app ?_
 cases g6:leafT n.tree.parent i
 ·rw [if_neg (by decide)]
  refine go ?_;intros
  refine cb (fun w st=>IsValidElement_c _ n.elements[i] F8 w (st.get (p:=.isv EElement (.agg #[.int .i64 n.elements[i].clock,.slice a8 n.elements[i].entries.length c8]) n.elements[i] F8) (by exact memE))) ?_
  cases g4:goodElement n.elements[i]
  ·refine go ?_;intros
   refine ret () trivial rfl
  refine go ?_;intros
  refine wg_if rfl rfl (fun h7=>?_) (fun h7=>?_)
  ·refine go ?_;intros
   refine cf (isZeroReceiver_f n.receivers[i] _ (F9++F10)) fun _ _=>?_
   refine t_app ?_
   refine go ?_;intros
   refine ret () trivial ?_
   rw [decide_eq_true h7];rfl
  ·refine go ?_;intros
   refine ret () trivial ?_
   rw [decide_eq_false h7];rfl
 ·rw [if_pos rfl]
  refine go ?_;intros
  refine cf (isZeroElement_f n.elements[i] _ F8) fun _ _=>?_
  refine t_app ?_
  cases g4:zElem n.elements[i]
  ·refine go ?_;intros
   refine ret () trivial rfl
  refine go ?_;intros
  refine cf (IsValidReceiver_f n.receivers[i] _ (F9++F10)) fun _ _=>?_
  refine t_app ?_
  cases g5:goodRec n.receivers[i]
  ·refine go ?_;intros
   refine ret () trivial rfl
  refine go ?_;intros
  refine ret () trivial rfl
theorem IsValidNet_f (n:Net) (v:Value) (F:List Nat):Fn Tryz.prog 42 [v] [.isv ENet v n F] [] (fun (_:Unit)=>True) (fun _=>.bool (goodNet n)) (fun _=>[]):=by
 refine enter Tryz.func42 rfl Tryz.ntmps42 fun w0=>?_
 refine openNet ?_
 rintro a1 c1 F1 a2 c2 F2 a3 c3 F3 a4 c4 F4 a5 c5 F5 a6 c6 F6 a7 c7 F7 rfl l1 l2 l3 l4 l5 l6 l7
 unfold maxLen at l1 l2 l3 l4 l5 l6 l7
 refine closeTree n.tree ?_
 refine closeSource n.source ?_
 refine go ?_;intros
 refine cf (IsValidTree_f n.tree _ F1) fun _ _=>?_
 refine t_app ?_
 cases g1:goodTree n.tree
 ·rw [show goodNet n=false by unfold goodNet;rw [g1];rfl]
  refine go ?_;intros
  refine ret () trivial rfl
 refine go ?_;intros
 refine cf (IsValidSource_f n.source _ (F2++F3)) fun _ _=>?_
 refine t_app ?_
 cases g2:goodSrc n.source
 ·rw [show goodNet n=false by unfold goodNet;rw [g1,g2];rfl]
  refine go ?_;intros
  refine ret () trivial rfl
 refine go ?_;intros
 refine wg_if rfl rfl (fun m0=>?_) (fun m0=>?_)
 ·rw [show goodNet n=false by
   have:lensN n=false:=by
    cases hl:lensN n
    ·rfl
    ·obtain ⟨q1,q2,q3,q4⟩:=lensN_iff.1 hl;exact absurd (by omega) m0
   unfold goodNet;rw [this];simp]
  refine go ?_;intros
  refine ret () trivial rfl
 refine go ?_;intros
 refine wg_if rfl rfl (fun m1=>?_) (fun m1=>?_)
 ·rw [show goodNet n=false by
   have:lensN n=false:=by
    cases hl:lensN n
    ·rfl
    ·obtain ⟨q1,q2,q3,q4⟩:=lensN_iff.1 hl;exact absurd (by omega) m1
   unfold goodNet;rw [this];simp]
  refine go ?_;intros
  refine ret () trivial rfl
 refine go ?_;intros
 refine wg_if rfl rfl (fun m2=>?_) (fun m2=>?_)
 ·rw [show goodNet n=false by
   have:lensN n=false:=by
    cases hl:lensN n
    ·rfl
    ·obtain ⟨q1,q2,q3,q4⟩:=lensN_iff.1 hl;exact absurd (by omega) m2
   unfold goodNet;rw [this];simp]
  refine go ?_;intros
  refine ret () trivial rfl
 refine go ?_;intros
 refine c_if rfl (fun m3=>?_) (fun m3=>?_)
 ·rw [show goodNet n=false by
   have:lensN n=false:=by
    cases hl:lensN n
    ·rfl
    ·obtain ⟨q1,q2,q3,q4⟩:=lensN_iff.1 hl;exact absurd (by omega) m3
   unfold goodNet;rw [this];simp]
  refine go ?_;intros
  refine ret () trivial rfl
 have q1:n.elements.length=n.tree.parent.length:=by omega
 have q2:n.receivers.length=n.tree.parent.length:=by omega
 have q3:n.down.length=n.tree.parent.length:=by omega
 have q4:n.up.length=n.tree.parent.length:=by omega
 have hl:=lensN_iff.2 ⟨q1,q2,q3,q4⟩
 refine go ?_;intros
 refine c_loopR [1,2,47] (fun k:Nat=>[(48,.int .i64 (k:Nat))]) (fun k=>k≤n.tree.parent.length∧∀j,j < k→atNode n j=true) (fun k=>n.tree.parent.length - k) 0 ⟨Nat.zero_le _,fun j h=>by omega⟩ fun k hk=>?_
 obtain ⟨hk1,hk2⟩:=hk
 refine go ?_;intros
 refine c_if rfl (fun h1=>?_) (fun h1=>?_)
 ·have hh:k < n.tree.parent.length:=by omega
  refine go ?_;intros
  refine cf (isRightNode_f n k _ F hl hh) fun _ _=>?_
  refine t_app ?_
  cases g:atNode n k
  ·rw [goodNet_at hh g]
   refine go ?_;intros
   refine ret () trivial rfl
  refine go ?_;intros
  refine n_lp (k+1) ⟨hh,fun j hj=>?_⟩ (by show n.tree.parent.length - (k+1) < n.tree.parent.length - k;omega)
  rcases Nat.lt_or_eq_of_le (Nat.lt_succ_iff.1 hj) with h|rfl
  ·exact hk2 j h
  ·exact g
 ·obtain rfl:k=n.tree.parent.length:=by omega
  refine go ?_;intros
  refine ret () trivial ?_
  rw [goodNet_iff.2 ⟨g1,g2,hl,hk2⟩];rfl
theorem rs_no {par:List Int} {clk:Int} {i:Nat} {e:Element} {r:Receiver} {d u:List Packet} (h:(goodElement e && goodRec r && goodQ d && (goodQ u && upQ u))=false):rightN par clk i e r d u=false:=by rw [←rightS_eq];unfold rightS;rw [h];rfl
theorem rs_yes {par:List Int} {clk:Int} {i:Nat} {e:Element} {r:Receiver} {d u:List Packet} (h:(goodElement e && goodRec r && goodQ d && (goodQ u && upQ u))=true):rightN par clk i e r d u=(if i=0 then zElem e && (!r.started && decide (r.clock=0)) && decide (d.length+u.length=0)
  else if leafT par i then zElem e && decide (r.clock=clk) else (!r.started && decide (r.clock=0)) && decide (e.clock=clk)):=by rw [←rightS_eq];unfold rightS;rw [h,Bool.true_and]
theorem l15At_f (n:Net) (i:Nat) (v:Value) (F:List Nat) (hl:lensN n=true) (hi:i < n.tree.parent.length) (hg:GoodT n.tree.parent):Fn Tryz.prog 78 [v,.int .i64 (i:Nat)] [.isv ENet v n F] [] (fun (_:Unit)=>True) (fun _=>.bool (atNode n i)) (fun _=>[]):=by
 obtain ⟨q1,q2,q3,q4⟩:=lensN_iff.1 hl
 rw [atNode_at (by omega) (by omega) (by omega) (by omega)]
 refine enter Tryz.func78 rfl Tryz.ntmps78 fun w0=>?_
 refine openNet ?_
 rintro a1 c1 F1 a2 c2 F2 a3 c3 F3 a4 c4 F4 a5 c5 F5 a6 c6 F6 a7 c7 F7 rfl l1 l2 l3 l4 l5 l6 l7
 unfold maxLen at l1 l2 l3 l4 l5 l6 l7
 refine closeTree n.tree ?_
 refine atElement (xs:=n.elements) i ?_
 rintro hi4 b4 o4 a8 c8 F8 rfl l8
 refine closeElement n.elements[i] ?_
 refine atReceiver (xs:=n.receivers) i ?_
 rintro hi5 b5 o5 a9 c9 F9 a10 c10 F10 rfl l9 l10
 refine closeReceiver n.receivers[i] ?_
 refine at_ESl (E:=EPacket) (hz:=by decide) (xs:=n.down) i ?_
 rintro hi6 b6 o6 a11 c11 F11 rfl l11
 refine at_ESl (E:=EPacket) (hz:=by decide) (xs:=n.up) i ?_
 rintro hi7 b7 o7 a12 c12 F12 rfl l12
 unfold maxLen at l8 l9 l10 l11 l12
 refine go ?_;intros
 refine c_joinS [1,2,4] [0,1,2,3,4,5,6,7,8,9,10,11,12,13,14,15,16,17,18,19,20] (fun z:Nat × Nat=>[(5,ptr z.1 0 0),(6,ptr z.2 0 0)]) (fun z=>[.row z.1 142 0 [] [.int .i64 n.elements[i].clock,.slice a8 n.elements[i].entries.length c8] [],.row z.2 149 0 [] [.bool n.receivers[i].started,.int .i64 n.receivers[i].clock,.int .i64 n.receivers[i].window.next,.slice a9 n.receivers[i].window.slots.length c9,.slice a10 n.receivers[i].requests.length c10] []]) (fun _=>True) ?_ fun z _=>?_
 ·refine d_start [0,6,10] [] ?_
  refine dt4 0 1 2 3 ?_
  refine dt4 4 5 6 7 ?_
  refine dt2 8 9 ?_
  refine dM 10 11 ?_ ?_
  ·apply o_alloc;rfl;intro _
   refine dk ?_
   refine dN 11 ?_
   apply o_alloc;rfl;intro _
   refine dk ?_
   refine dN 12 ?_
   refine oS ?_
   refine dk ?_
   refine dN 13 ?_
   refine oS ?_
   refine dk ?_
   refine dd ?_
   refine n_join ((_,_):Nat × Nat) trivial
  ·apply o_alloc;rfl;intro _
   refine dk ?_
   refine dN 10 ?_
   apply o_alloc;rfl;intro _
   refine dk ?_
   refine dN 12 ?_
   refine oS ?_
   refine dk ?_
   refine dN 13 ?_
   refine oS ?_
   refine dk ?_
   refine dd ?_
   refine n_join ((_,_):Nat × Nat) trivial
 refine go ?_;intros
 refine cb (fun w st=>l14Good_c _ n.elements[i] F8 w (st.get (p:=.isv EElement (.agg #[.int .i64 n.elements[i].clock,.slice a8 n.elements[i].entries.length c8]) n.elements[i] F8) (by exact memE))) ?_
 cases g1:goodElement n.elements[i]
 ·rw [rs_no (by rw [g1];rfl)]
  refine go ?_;intros
  refine ret () trivial rfl
 refine go ?_;intros
 refine cf (l13Good_f n.receivers[i] _ (F9++F10)) fun _ _=>?_
 refine t_app ?_
 cases g2:goodRec n.receivers[i]
 ·rw [rs_no (by rw [g1,g2];rfl)]
  refine go ?_;intros
  refine ret () trivial rfl
 refine go ?_;intros
 refine cf (l15Queue_f n.down[i] false _ _ F11 (by omega)) fun _ _=>?_
 refine t_app ?_
 rw [show (goodQ n.down[i] && (!false || upQ n.down[i]))=goodQ n.down[i] by simp]
 cases g3:goodQ n.down[i]
 ·rw [rs_no (by rw [g1,g2,g3];rfl)]
  refine go ?_;intros
  refine ret () trivial rfl
 refine go ?_;intros
 refine cf (l15Queue_f n.up[i] true _ _ F12 (by omega)) fun _ _=>?_
 refine t_app ?_
 rw [show (goodQ n.up[i] && (!true || upQ n.up[i]))=(goodQ n.up[i] && upQ n.up[i]) by simp]
 cases g4:(goodQ n.up[i] && upQ n.up[i])
 ·rw [rs_no (by rw [g1,g2,g3,g4];rfl)]
  refine go ?_;intros
  refine ret () trivial rfl
 rw [rs_yes (by rw [g1,g2,g3,g4];rfl)]
 repeat (first|apply c_seq|(apply wO;apply oc;rfl;exact ydE)|apply w_nil|apply n_cd|(apply wg_t;rfl;rfl)|(apply wg_f;rfl;rfl;rfl;rfl)|(apply wg_u;rfl;rfl;rfl)|(apply c_t;rfl)|(apply c_f;rfl)|apply c_skip|apply c_block|apply n_blk)
 refine c_joinS [1,2,4,5,6] [0,1,2,3,4,5,6,7,8,9,10,11,12,13,14,15,16,17,18,19,20,21,22] (fun _:Unit=>[(7,.bool (zElem n.elements[i]))]) (fun _=>[]) (fun _=>True) ?_ fun _ _=>?_
 ·refine go ?_;intros
  refine wg_if rfl rfl (fun h1=>?_) (fun h1=>?_)
  ·refine go ?_;intros
   rw [show decide ((n.elements[i].entries.length:Int)=0)=zElem n.elements[i] by unfold zElem;rw [decide_eq_true h1,len_z];rfl]
   refine n_join () trivial
  ·refine go ?_;intros
   rw [show false=zElem n.elements[i] by unfold zElem;rw [decide_eq_false h1];rfl]
   refine n_join () trivial
 repeat (first|apply c_seq|(apply wO;apply oc;rfl;exact ydE)|apply w_nil|apply n_cd|(apply wg_t;rfl;rfl)|(apply wg_f;rfl;rfl;rfl;rfl)|(apply wg_u;rfl;rfl;rfl)|(apply c_t;rfl)|(apply c_f;rfl)|apply c_skip|apply c_block|apply n_blk)
 refine c_joinS [1,2,4,5,6,7] [0,1,2,3,4,5,6,7,8,9,10,11,12,13,14,15,16,17,18,19,20,21,22] (fun _:Unit=>[(8,.bool (!n.receivers[i].started && decide (n.receivers[i].clock=0)))]) (fun _=>[]) (fun _=>True) ?_ fun _ _=>?_
 ·cases hs:n.receivers[i].started
  ·refine go ?_;intros
   refine n_join () trivial
  ·refine go ?_;intros
   refine n_join () trivial
 refine t_app ?_
 generalize hzr:(!n.receivers[i].started && decide (n.receivers[i].clock=0))=zr
 refine go ?_;intros
 refine c_if rfl (fun h0=>?_) (fun h0=>?_)
 ·obtain rfl:i=0:=by omega
  rw [if_pos rfl]
  have hd6:(n.down[0].length:Int)+(n.up[0].length:Int)≤12:=by
   unfold goodQ at g3 g4
   simp only [Bool.and_eq_true,decide_eq_true_eq] at g3 g4
   omega
  cases hze:zElem n.elements[0] <;> cases zr
  ·refine go ?_;intros
   refine d_start [2,3,5] [] ?_
   refine dt2 0 1 ?_
   refine ds 2 ?_
   refine dt2 3 4 ?_
   refine ds 5 ?_
   refine ds 6 ?_
   refine ds 7 ?_
   refine ds 8 ?_
   refine ds 9 ?_
   refine ds 10 ?_
   refine ds 11 ?_
   refine ds 12 ?_
   refine ds 13 ?_
   refine ds 14 ?_
   refine ds 15 ?_
   refine ds 16 ?_
   refine dt2 17 18 ?_
   refine dd ?_
   refine go ?_;intros
   refine ret () trivial rfl
  ·refine go ?_;intros
   refine d_start [2,3,5] [] ?_
   refine dt2 0 1 ?_
   refine ds 2 ?_
   refine dt2 3 4 ?_
   refine ds 5 ?_
   refine ds 6 ?_
   refine ds 7 ?_
   refine ds 8 ?_
   refine ds 9 ?_
   refine ds 10 ?_
   refine ds 11 ?_
   refine ds 12 ?_
   refine ds 13 ?_
   refine ds 14 ?_
   refine ds 15 ?_
   refine ds 16 ?_
   refine dt2 17 18 ?_
   refine dd ?_
   refine go ?_;intros
   refine ret () trivial rfl
  ·refine go ?_;intros
   refine d_start [2,3,5] [] ?_
   refine dt2 0 1 ?_
   refine dtg 2 ?_
   refine dt2 3 4 ?_
   refine ds 5 ?_
   refine ds 6 ?_
   refine ds 7 ?_
   refine ds 8 ?_
   refine ds 9 ?_
   refine ds 10 ?_
   refine ds 11 ?_
   refine ds 12 ?_
   refine ds 13 ?_
   refine ds 14 ?_
   refine ds 15 ?_
   refine ds 16 ?_
   refine dt2 17 18 ?_
   refine dd ?_
   refine go ?_;intros
   refine ret () trivial rfl
  ·refine go ?_;intros
   refine d_start [2,3,5] [] ?_
   refine dt2 0 1 ?_
   refine dtg 2 ?_
   refine dt2 3 4 ?_
   refine dtg 5 ?_
   refine dtg 6 ?_
   refine dtg 7 ?_
   refine dtg 8 ?_
   refine dtg 9 ?_
   refine dtg 10 ?_
   refine dtg 11 ?_
   refine dtg 12 ?_
   refine dtg 13 ?_
   refine dtg 14 ?_
   refine dtg 15 ?_
   refine dtg 16 ?_
   refine dt2 17 18 ?_
   refine dd ?_
   refine go ?_;intros
   refine ret () trivial ?_
   rw [show decide ((n.down[0].length:Int)+(n.up[0].length:Int)=0)=decide (n.down[0].length+n.up[0].length=0) by congr 1;rw [eq_iff_iff];omega];rfl
 rw [if_neg (by omega)]
 refine go ?_;intros
 refine cf (l15Leaf_f n.tree i _ F1 hg (by omega)) fun _ _=>?_
 refine t_app ?_
 cases g6:leafT n.tree.parent i
 ·rw [if_neg (by decide)]
  cases zr
  ·refine go ?_;intros
   refine ret () trivial rfl
  ·refine go ?_;intros
   refine ret () trivial rfl
 ·rw [if_pos rfl]
  cases hze:zElem n.elements[i]
  ·refine go ?_;intros
   refine ret () trivial rfl
  ·refine go ?_;intros
   refine ret () trivial rfl
theorem l15Good_f (n:Net) (v:Value) (F:List Nat):Fn Tryz.prog 34 [v] [.isv ENet v n F] [] (fun (_:Unit)=>True) (fun _=>.bool (goodNet n)) (fun _=>[]):=by
 refine enter Tryz.func34 rfl Tryz.ntmps34 fun w0=>?_
 refine openNet ?_
 rintro a1 c1 F1 a2 c2 F2 a3 c3 F3 a4 c4 F4 a5 c5 F5 a6 c6 F6 a7 c7 F7 rfl l1 l2 l3 l4 l5 l6 l7
 unfold maxLen at l1 l2 l3 l4 l5 l6 l7
 refine closeTree n.tree ?_
 refine closeSource n.source ?_
 refine go ?_;intros
 refine cf (l6Good_f n.tree _ F1) fun _ _=>?_
 refine t_app ?_
 cases g1:goodTree n.tree
 ·rw [show goodNet n=false by unfold goodNet;rw [g1];rfl]
  refine go ?_;intros
  refine ret () trivial rfl
 refine go ?_;intros
 refine cf (l11Good_f n.source _ (F2++F3)) fun _ _=>?_
 refine t_app ?_
 cases g2:goodSrc n.source
 ·rw [show goodNet n=false by unfold goodNet;rw [g1,g2];rfl]
  refine go ?_;intros
  refine ret () trivial rfl
 refine go ?_;intros
 refine wg_if rfl rfl (fun m0=>?_) (fun m0=>?_)
 ·rw [show goodNet n=false by
   have:lensN n=false:=by
    cases hl:lensN n
    ·rfl
    ·obtain ⟨q1,q2,q3,q4⟩:=lensN_iff.1 hl;exact absurd (by omega) m0
   unfold goodNet;rw [this];simp]
  refine go ?_;intros
  refine ret () trivial rfl
 refine go ?_;intros
 refine wg_if rfl rfl (fun m1=>?_) (fun m1=>?_)
 ·rw [show goodNet n=false by
   have:lensN n=false:=by
    cases hl:lensN n
    ·rfl
    ·obtain ⟨q1,q2,q3,q4⟩:=lensN_iff.1 hl;exact absurd (by omega) m1
   unfold goodNet;rw [this];simp]
  refine go ?_;intros
  refine ret () trivial rfl
 refine go ?_;intros
 refine wg_if rfl rfl (fun m2=>?_) (fun m2=>?_)
 ·rw [show goodNet n=false by
   have:lensN n=false:=by
    cases hl:lensN n
    ·rfl
    ·obtain ⟨q1,q2,q3,q4⟩:=lensN_iff.1 hl;exact absurd (by omega) m2
   unfold goodNet;rw [this];simp]
  refine go ?_;intros
  refine ret () trivial rfl
 refine go ?_;intros
 refine c_if rfl (fun m3=>?_) (fun m3=>?_)
 ·rw [show goodNet n=false by
   have:lensN n=false:=by
    cases hl:lensN n
    ·rfl
    ·obtain ⟨q1,q2,q3,q4⟩:=lensN_iff.1 hl;exact absurd (by omega) m3
   unfold goodNet;rw [this];simp]
  refine go ?_;intros
  refine ret () trivial rfl
 have q1:n.elements.length=n.tree.parent.length:=by omega
 have q2:n.receivers.length=n.tree.parent.length:=by omega
 have q3:n.down.length=n.tree.parent.length:=by omega
 have q4:n.up.length=n.tree.parent.length:=by omega
 have hl:=lensN_iff.2 ⟨q1,q2,q3,q4⟩
 refine go ?_;intros
 refine c_loopR [1,2,3] (fun k:Nat=>[(4,.int .i64 (k:Nat))]) (fun k=>k≤n.tree.parent.length∧∀j,j < k→atNode n j=true) (fun k=>n.tree.parent.length - k) 0 ⟨Nat.zero_le _,fun j h=>by omega⟩ fun k hk=>?_
 obtain ⟨hk1,hk2⟩:=hk
 refine go ?_;intros
 refine c_if rfl (fun h1=>?_) (fun h1=>?_)
 ·have hh:k < n.tree.parent.length:=by omega
  refine go ?_;intros
  refine cf (l15At_f n k _ F hl hh (goodT g1)) fun _ _=>?_
  refine t_app ?_
  cases g:atNode n k
  ·rw [goodNet_at hh g]
   refine go ?_;intros
   refine ret () trivial rfl
  refine go ?_;intros
  refine n_lp (k+1) ⟨hh,fun j hj=>?_⟩ (by show n.tree.parent.length - (k+1) < n.tree.parent.length - k;omega)
  rcases Nat.lt_or_eq_of_le (Nat.lt_succ_iff.1 hj) with h|rfl
  ·exact hk2 j h
  ·exact g
 ·obtain rfl:k=n.tree.parent.length:=by omega
  refine go ?_;intros
  refine ret () trivial ?_
  rw [goodNet_iff.2 ⟨g1,g2,hl,hk2⟩];rfl
structure StZ where
 cs:List Value
 F:List Nat
 a:Option Addr
 c:Nat
 Fe:List Nat
theorem cnt_at {α:Type} (f:α→Nat) (B M:Nat) {xs:List α} (h:∀x∈xs,f x≤B) (hl:xs.length≤M):cntL f xs≤M * B:=Nat.le_trans (cntL_bd f B xs h) (Nat.mul_le_mul_right _ hl)
theorem goodNet_cv {n:Net} (h:goodNet n=true):cvNet n≤100000:=by
 have hG:=goodNet_GN.1 h
 have h8:=(goodT hG.t).n1
 obtain ⟨q1,q2,q3,q4⟩:=lensN_iff.1 hG.l
 have hS:=goodS_of hG.s
 obtain ⟨e1,e2,e3,e4⟩:=good_els h
 have a1:cntL cntI n.tree.parent≤8 * 1:=cnt_at cntI 1 8 (fun x _=>by simp [cntI]) h8
 have a2:cntL cntS n.source.window.items≤6 * 1:=cnt_at cntS 1 6 (fun x _=>by simp [cntS]) hS.l
 have a3:cntL cntHold n.source.holds≤6 * 2:=cnt_at cntHold 2 6 (fun x _=>by simp [cntHold,cntI]) hS.m
 have a4:cntL cntElement n.elements≤8 * 100:=cnt_at cntElement 100 8 (fun x hx=>by
  have b1:=(goodE_iff.1 (e1 x hx)).2.1
  have b2:cntL cntEntry x.entries≤5 * 10:=cnt_at cntEntry 10 5 (fun y hy=>by
   have b3:=(good_room (e1 x hx)).2.2 y hy
   have b4:cntL cntI y.faces≤7 * 1:=cnt_at cntI 1 7 (fun z _=>by simp [cntI]) (by omega)
   unfold cntEntry
   simp only [cntI];omega) b1
  unfold cntElement
  simp only [cntI];omega) (by omega)
 have a5:cntL cntReceiver n.receivers≤8 * 100:=cnt_at cntReceiver 100 8 (fun x hx=>by
  have g:=goodR_iff.1 (e2 x hx)
  have b1:cntL cntSlot x.window.slots≤8 * 2:=cnt_at cntSlot 2 8 (fun y _=>by simp [cntSlot,cntB,cntS]) (good_items g.w).1
  have b2:cntL cntRequest x.requests≤8 * 4:=cnt_at cntRequest 4 8 (fun y _=>by simp [cntRequest,cntI]) (areQ_iff.1 g.q).2.1
  unfold cntReceiver
  simp only [cntI,cntB];omega) (by omega)
 have hq:∀l:List (List Packet),(∀q∈l,goodQ q=true)→l.length≤8→cntL (cntL cntPacket) l≤8 * 30:=fun l hl h=>cnt_at (cntL cntPacket) 30 8 (fun q hq=>cnt_at cntPacket 5 6 (fun p _=>by simp [cntPacket,cntI,cntS]) (goodQ_len (hl q hq)).1) h
 have a6:=hq n.down e3 (by omega)
 have a7:=hq n.up e4 (by omega)
 unfold cvNet cvTree cvSource cvSendWindow
 omega
theorem tick_few {n:Net} (hg:goodNet n=true) (hc:n.source.clock < 9999):∀k,k+1≤n.tree.parent.length→(tickTo n k).2.length≤40000 * k
 | 0,_=>Nat.le_refl _
 | k+1,hk=>by
  have h:=tick_few hg hc k (by omega)
  obtain ⟨hGN,hT,hSrc⟩:=tickTo_good hg hc k (by omega)
  obtain ⟨i1,i2,i3,i4,hrn⟩:=hGN.rn (i:=k+1) (by rw [hT];omega)
  show ((tickTo n k).2++(tick1 (tickTo n k).1 (k+1)).2).length≤_
  rw [List.length_append]
  have:(tick1 (tickTo n k).1 (k+1)).2.length≤40000:=by
   unfold tick1
   split
   ·rename_i hl
    have hgr:=goodR_iff.1 (hrn.hf (by omega) hl).2.1
    obtain ⟨-,hfew⟩:=tickEv_sm hgr
    rw [rcAt_get i2]
    show ((tickEv _).map _).length≤_
    rw [List.length_map];omega
   ·exact Nat.zero_le _
  omega
theorem step_few {n:Net} {s:Step} {r:Net × List ByteArray} (hg:goodNet n=true) (hs:okStep s=true) (hr:stepN n s=some r):r.2.length≤400000:=by
 have hG:=goodNet_GN.1 hg
 have h8:=goodT hG.t
 have hn8:=h8.n1
 have hn2:=h8.n0
 have hck:=src_clkN hG.s
 have hr0:=hr
 unfold stepN at hr
 split at hr
 ·cases hr;exact Nat.zero_le _
 split at hr
 ·split at hr
  ·cases hr
  ·cases hr
   have:=tick_few hg (by omega) (n.tree.parent.length - 1) (by omega)
   show (tickTo n (n.tree.parent.length - 1)).2.length≤_
   omega
 unfold takenN at hr
 split at hr
 ·cases hr
 split at hr
 ·cases hr
 split at hr
 ·rename_i h1 h4 hlt h0 hk
  cases hr
  have hgp:=popped_good (s:=s) hg
  have hGp:=goodNet_GN.1 hgp
  have hf:isFac s.node=true:=by
   have:=hs
   unfold okStep at this
   rw [if_neg h1,if_neg h4] at this
   simp only [Bool.and_eq_true] at this
   exact this.1.2
  obtain ⟨f1,f2⟩:=isFac_iff.1 hf
  have hpt:(poppedN n s).tree=n.tree:=by unfold poppedN;split <;> rfl
  obtain ⟨i1,i2,i3,i4,hrn⟩:=hGp.rn (i:=s.node.toNat) (by rw [hpt];omega)
  unfold delivN
  split
  ·rename_i hl
   have hgr:=goodR_iff.1 (hrn.hf (by omega) hl).2.1
   obtain ⟨d0,d1⟩:=dly_bd (i:=s.node.toNat)
   have hp:goodPk (popP (queN n s))=true:=goodQ_mem (que_good (s:=s) hg).1 (popP_mem (by omega))
   have:=(hear_good hgr hp d0 d1).2
   rw [rcAt_get i2]
   show ((hearE _ _).map _).length≤_
   rw [List.length_map];omega
  ·exact Nat.zero_le _
 split at hr
 ·cases hr;exact Nat.zero_le _
 ·cases hr;exact Nat.zero_le _
abbrev NE:=Net × List ByteArray
def dStep (i:Nat):Step:=⟨2,(i:Int),⟨#[]⟩⟩
def uStep (i:Nat):Step:=⟨5,(i:Int),⟨#[]⟩⟩
def tStep:Step:=⟨4,0,⟨#[]⟩⟩
def tryS (x:NE) (s:Step):NE:=(outN x.1 (stepN x.1 s),x.2++outE (stepN x.1 s))
def nodeS (x:NE) (i:Nat):NE:=tryS (tryS x (dStep i)) (uStep i)
def roundTo (x:NE):Nat→NE
 | 0=>x
 | k+1=>nodeS (roundTo x k) (k+1)
def roundN (x:NE):NE:=roundTo x (x.1.tree.parent.length - 1)
def moreTo (x:NE):Nat→Bool
 | 0=>false
 | k+1=>moreTo x k || (stepN (roundTo x k).1 (dStep (k+1))).isSome || (stepN (tryS (roundTo x k) (dStep (k+1))).1 (uStep (k+1))).isSome
def qd (l:List (List Packet)):Nat:=(l.map List.length).sum
def qdN (n:Net):Nat:=qd n.down+qd n.up
def vd (i:Nat):Nat:=8 ^ (7 - i)
def vu (i:Nat):Nat:=524289 * i
def wN (n:Net):Nat:=wsum vd 0 n.down+wsum vu 0 n.up
def drainF:Nat→NE→NE
 | 0,x=>x
 | f+1,x=>if qdN x.1=0 then x else drainF f (roundN x)
def drE (x:NE):NE:=drainF (wN x.1) x
def drN (n:Net):NE:=drE (n,[])
theorem vd_pos (i:Nat):0 < vd i:=Nat.pow_pos (by decide)
theorem vd_le {i:Nat} (h:1≤i):vd i≤262144:=Nat.le_trans (Nat.pow_le_pow_right (n:=8) (by decide) (show 7 - i≤6 by omega)) (by decide)
theorem vd_below {nodes:List Int} {i:Nat} (hl:nodes.length≤7) (h:∀x∈nodes,i < x.toNat∧x.toNat≤7):wnodes vd nodes+1≤vd i:=by
 cases nodes with
 | nil=>exact vd_pos i
 | cons x r =>
  obtain ⟨a,b⟩:=h x (by simp)
  have h1:=wnodes_le vd (8 ^ (6 - i)) (x::r) fun y hy=>by
   have:=h y hy
   exact Nat.pow_le_pow_right (by decide) (by omega)
  have h2:=Nat.mul_le_mul_right (8 ^ (6 - i)) hl
  have h3:0 < 8 ^ (6 - i):=Nat.pow_pos (by decide)
  have h4:vd i=8 ^ (6 - i) * 8:=by unfold vd;rw [←Nat.pow_succ];congr 1;omega
  omega
theorem vu_up {i p:Nat} (h0:1≤i) (h:p < i):2 * vd i+vu p+1≤vu i:=by
 have h1:=vd_le h0
 unfold vu
 omega
theorem kids_le7 {l:List Int} (hg:GoodT l) (i:Nat):(kids l (i:Int)).length≤7:=by
 have h0:=hg.n0
 have h1:=hg.n1
 rw [←kids1_all (kids_zero hg.z (Int.natCast_nonneg i)) (k:=l.length - 1) (by omega)]
 have:=kids1_len l (i:Int) (l.length - 1)
 omega
theorem facE_le7 {e:Element} (he:goodElement e=true) {n:Int} {l:List Int} (hl:l.length≤7):(facE e n l).length≤7:=by
 unfold facE
 split
 ·rename_i x hx
  exact Nat.le_trans (List.length_filter_le _ _) ((good_room he).2.2 x (List.mem_of_getElem? hx))
 ·split
  ·exact hl
  ·exact Nat.zero_le _
theorem facN_le {n:Net} (hg:goodNet n=true) (i:Nat) (p:Packet):(facN n i p).length≤7∧∀x∈facN n i p,i < x.toNat∧x.toNat≤7:=by
 have hG:=goodNet_GN.1 hg
 have h8:=goodT hG.t
 have hn8:=h8.n1
 have hk:=kids_le7 h8 i
 have hb:∀x∈kidsN n i,i < x.toNat∧x.toNat≤7:=fun x hx=>by
  have:=kids_behind h8 hx
  omega
 unfold facN
 split
 ·refine ⟨?_,fun x hx=>hb x (facE_sub x hx)⟩
  by_cases hi:i < n.elements.length
  ·have ee:elAt n i=n.elements[i]:=by unfold elAt;rw [List.getD_eq_getElem?_getD,List.getElem?_eq_getElem hi];rfl
   rw [ee]
   exact facE_le7 ((good_els hg).1 _ (List.getElem_mem hi)) hk
  ·have ee:elAt n i=⟨0,[]⟩:=by unfold elAt;rw [List.getD_eq_getElem?_getD,List.getElem?_eq_none (by omega)];rfl
   rw [ee]
   exact facE_le7 (by decide) hk
 ·exact ⟨hk,hb⟩
theorem deliv_w {n:Net} (hg:goodNet n=true) (i:Nat) (p:Packet):wN (delivN n i p).1+1≤wN n+vd i:=by
 have h0:=vd_pos i
 unfold delivN
 split
 ·show wN n+1≤_
  omega
 ·obtain ⟨h1,h2⟩:=facN_le hg i p
  have h3:=vd_below h1 h2
  have h4:=wsum_spread vd [p] (facN n i p) n.down
  show wsum vd 0 (spread n.down (facN n i p) [p])+wsum vu 0 n.up+1≤wsum vd 0 n.down+wsum vu 0 n.up+vd i
  simp only [List.length_singleton,Nat.one_mul] at h4
  omega
theorem reqP_two (x:Source) (p:Packet):(reqP x p).length≤2:=by
 unfold reqP
 split
 ·split
  ·exact (by decide:1≤2)
  ·exact (by decide:2≤2)
 ·exact (by decide:1≤2)
theorem up_w {n:Net} (hg:goodNet n=true) {i:Nat} (h0:1≤i) (hi:i < n.tree.parent.length) (p:Packet):wN (upN n i p)+1≤wN n+vu i:=by
 have hG:=goodNet_GN.1 hg
 have h8:=goodT hG.t
 have hn8:=h8.n1
 have hv:=vd_le h0
 have hone:wnodes vd [((i:Nat):Int)]=vd i:=by show vd ((i:Nat):Int).toNat+0=_;rfl
 unfold upN
 split
 ·have h4:=wsum_spread vd (reqP n.source p) [((i:Nat):Int)] n.down
  have h5:=Nat.mul_le_mul_right (vd i) (reqP_two n.source p)
  rw [hone] at h4
  have h6:=vu_up (p:=0) h0 (by omega)
  show wsum vd 0 (spread n.down [((i:Nat):Int)] (reqP n.source p))+wsum vu 0 n.up+1≤wsum vd 0 n.down+wsum vu 0 n.up+vu i
  omega
 ·rename_i hp
  have hlt:parN n i < i:=by
   have:=h8.p i hi (by omega)
   unfold parN
   rw [List.getD_eq_getElem?_getD,List.getElem?_eq_getElem hi]
   show (n.tree.parent[i]).toNat < i
   omega
  have h4:=wsum_spread vd [cnfP p] [((i:Nat):Int)] n.down
  rw [hone] at h4
  simp only [List.length_singleton,Nat.one_mul] at h4
  have h6:=vu_up h0 hlt
  have h7:=wsum_put vu n.up (parN n i) [p]
  simp only [List.length_singleton,Nat.one_mul] at h7
  show wsum vd 0 (spread n.down [((i:Nat):Int)] [cnfP p])+wsum vu 0 (if fwdE (elAt n (parN n i)) p.number then n.up.modify (parN n i) fun q=>putQ q [p] else n.up)+1≤wsum vd 0 n.down+wsum vu 0 n.up+vu i
  split <;> omega
theorem pop_w (f:Nat→Nat) {l:List (List Packet)} {i:Nat} (hi:i < l.length) (h0:¬(l.getD i []).length=0):wsum f 0 (l.modify i (·.drop 1))+f i=wsum f 0 l:=by
 rw [getN hi] at h0
 rw [modify_set hi]
 exact wsum_pop f l i hi (by omega)
theorem stepN_d {n:Net} {i:Nat} (hi:i < n.tree.parent.length):stepN n (dStep i)=if (n.down.getD i []).length=0 then none else some (delivN (popD n i) i (popP (n.down.getD i []))):=by
 unfold stepN
 rw [if_neg (by show ¬(2:Int)=1;decide),if_neg (by show ¬(2:Int)=4;decide)]
 unfold takenN
 rw [if_neg (by show ¬((n.tree.parent.length:Int)≤(i:Int));omega)]
 rfl
theorem stepN_u {n:Net} {i:Nat} (hi:i < n.tree.parent.length):stepN n (uStep i)=if (n.up.getD i []).length=0 then none else some (upN (popU n i) i (popP (n.up.getD i [])),[]):=by
 unfold stepN
 rw [if_neg (by show ¬(5:Int)=1;decide),if_neg (by show ¬(5:Int)=4;decide)]
 unfold takenN
 rw [if_neg (by show ¬((n.tree.parent.length:Int)≤(i:Int));omega)]
 rfl
theorem ok_d {i:Nat} (h0:1≤i) (h:i≤7):okStep (dStep i)=true:=by
 unfold okStep
 rw [if_neg (by show ¬(2:Int)=1;decide),if_neg (by show ¬(2:Int)=4;decide)]
 have:isFac (dStep i).node=true:=isFac_iff.2 (by show 1≤((i:Nat):Int)∧((i:Nat):Int)≤7;omega)
 rw [this];rfl
theorem ok_u {i:Nat} (h0:1≤i) (h:i≤7):okStep (uStep i)=true:=by
 unfold okStep
 rw [if_neg (by show ¬(5:Int)=1;decide),if_neg (by show ¬(5:Int)=4;decide)]
 have:isFac (uStep i).node=true:=isFac_iff.2 (by show 1≤((i:Nat):Int)∧((i:Nat):Int)≤7;omega)
 rw [this];rfl
theorem deliv_few {n:Net} (hg:goodNet n=true) {i:Nat} {p:Packet} (hp:goodPk p=true) (h0:1≤i) (hi:i < n.tree.parent.length):(delivN n i p).2.length≤24:=by
 obtain ⟨i1,i2,i3,i4,hrn⟩:=(goodNet_GN.1 hg).rn hi
 unfold delivN
 split
 ·rename_i hl
  have hgr:=goodR_iff.1 (hrn.hf (by omega) hl).2.1
  obtain ⟨d0,d1⟩:=dly_bd (i:=i)
  have:=(hear_good hgr hp d0 d1).2
  rw [rcAt_get i2]
  show ((hearE _ _).map _).length≤_
  rw [List.length_map];exact this
 ·exact Nat.zero_le _
theorem clk_d (n:Net) (i:Nat) (p:Packet):(delivN n i p).1.source=n.source:=by unfold delivN;split <;> rfl
theorem clk_u (n:Net) (i:Nat) (p:Packet):(upN n i p).source.clock=n.source.clock:=by
 unfold upN
 split
 ·show (reqS n.source p.number).clock=_
  unfold reqS
  split <;> rfl
 ·rfl
structure Fall (x y:NE):Prop where
 g:goodNet y.1=true
 t:y.1.tree=x.1.tree
 c:y.1.source.clock=x.1.source.clock
 e:y.2.length+24 * wN y.1≤x.2.length+24 * wN x.1
 w:wN y.1≤wN x.1
theorem Fall.refl {x:NE} (h:goodNet x.1=true):Fall x x:=⟨h,rfl,rfl,Nat.le_refl _,Nat.le_refl _⟩
theorem Fall.trans {x y z:NE} (h:Fall x y) (k:Fall y z):Fall x z:=⟨k.g,k.t.trans h.t,k.c.trans h.c,Nat.le_trans k.e h.e,Nat.le_trans k.w h.w⟩
theorem tryS_none {x:NE} {s:Step} (h:stepN x.1 s=none):tryS x s=x:=by
 unfold tryS
 rw [h]
 show (x.1,x.2++[])=x
 rw [List.append_nil]
theorem tryS_some {x:NE} {s:Step} {r:NE} (h:stepN x.1 s=some r):tryS x s=(r.1,x.2++r.2):=by
 unfold tryS
 rw [h];rfl
theorem try_d {x:NE} (hg:goodNet x.1=true) {i:Nat} (h0:1≤i) (hi:i < x.1.tree.parent.length):Fall x (tryS x (dStep i))∧((stepN x.1 (dStep i)).isSome=true→wN (tryS x (dStep i)).1 < wN x.1):=by
 have hG:=goodNet_GN.1 hg
 have hn8:=(goodT hG.t).n1
 obtain ⟨q1,q2,q3,q4⟩:=lensN_iff.1 hG.l
 cases e:stepN x.1 (dStep i) with
 | none =>
  rw [tryS_none e]
  exact ⟨.refl hg,fun h=>by cases h⟩
 | some r =>
  have hr:=step_good hg (ok_d h0 (by omega)) e
  have ht:=step_tree e
  rw [tryS_some e]
  rw [stepN_d hi] at e
  split at e
  ·cases e
  ·rename_i hq
   cases e
   have hp:=GN.pd (goodNet_GN.1 hg) i
   have hpg:goodNet (popD x.1 i)=true:=goodNet_GN.2 hp
   have h1:=deliv_w hpg i (popP (x.1.down.getD i []))
   have h2:wN (popD x.1 i)+vd i=wN x.1:=by
    have:=pop_w vd (l:=x.1.down) (i:=i) (by omega) hq
    show wsum vd 0 (x.1.down.modify i (·.drop 1))+wsum vu 0 x.1.up+vd i=wsum vd 0 x.1.down+wsum vu 0 x.1.up
    omega
   have hpk:goodPk (popP (x.1.down.getD i []))=true:=goodQ_mem (que_good (s:=dStep i) hg).1 (popP_mem (by show 0 < (x.1.down.getD i []).length;omega))
   have h3:=deliv_few hpg hpk h0 hi
   have hlt:wN (delivN (popD x.1 i) i (popP (x.1.down.getD i []))).1 < wN x.1:=by omega
   refine ⟨⟨hr,ht,by rw [clk_d];rfl,?_,Nat.le_of_lt hlt⟩,fun _=>hlt⟩
   show (x.2++_).length+24 * wN (delivN (popD x.1 i) i (popP (x.1.down.getD i []))).1≤_
   rw [List.length_append]
   omega
theorem try_u {x:NE} (hg:goodNet x.1=true) {i:Nat} (h0:1≤i) (hi:i < x.1.tree.parent.length):Fall x (tryS x (uStep i))∧((stepN x.1 (uStep i)).isSome=true→wN (tryS x (uStep i)).1 < wN x.1)∧(tryS x (uStep i)).2=x.2:=by
 have hG:=goodNet_GN.1 hg
 have hn8:=(goodT hG.t).n1
 obtain ⟨q1,q2,q3,q4⟩:=lensN_iff.1 hG.l
 cases e:stepN x.1 (uStep i) with
 | none =>
  rw [tryS_none e]
  exact ⟨.refl hg,fun h=>(by cases h),rfl⟩
 | some r =>
  have hr:=step_good hg (ok_u h0 (by omega)) e
  have ht:=step_tree e
  rw [tryS_some e]
  rw [stepN_u hi] at e
  split at e
  ·cases e
  ·rename_i hq
   cases e
   have hp:=GN.pu (goodNet_GN.1 hg) i
   have hpg:goodNet (popU x.1 i)=true:=goodNet_GN.2 hp
   have h1:=up_w hpg h0 hi (popP (x.1.up.getD i []))
   have h2:wN (popU x.1 i)+vu i=wN x.1:=by
    have:=pop_w vu (l:=x.1.up) (i:=i) (by omega) hq
    show wsum vd 0 x.1.down+wsum vu 0 (x.1.up.modify i (·.drop 1))+vu i=wsum vd 0 x.1.down+wsum vu 0 x.1.up
    omega
   have hlt:wN (upN (popU x.1 i) i (popP (x.1.up.getD i []))) < wN x.1:=by omega
   refine ⟨⟨hr,ht,by rw [clk_u];rfl,?_,Nat.le_of_lt hlt⟩,fun _=>hlt,List.append_nil _⟩
   show (x.2++[]).length+24 * wN (upN (popU x.1 i) i (popP (x.1.up.getD i [])))≤_
   rw [List.append_nil]
   omega
theorem round_fall {x:NE} (hg:goodNet x.1=true):∀k,k+1≤x.1.tree.parent.length→Fall x (roundTo x k)∧(moreTo x k=true→wN (roundTo x k).1 < wN x.1)∧(moreTo x k=false→roundTo x k=x∧∀i,1≤i→i≤k→stepN x.1 (dStep i)=none∧stepN x.1 (uStep i)=none)
 | 0,_=>⟨.refl hg,fun h=>(by cases h),fun _=>⟨rfl,fun i a b=>by omega⟩⟩
 | k+1,hk=>by
  obtain ⟨f1,m1,z1⟩:=round_fall hg k (by omega)
  have hk1:k+1 < (roundTo x k).1.tree.parent.length:=by rw [f1.t];omega
  obtain ⟨f2,m2⟩:=try_d f1.g (by omega) hk1
  have hk2:k+1 < (tryS (roundTo x k) (dStep (k+1))).1.tree.parent.length:=by rw [f2.t];exact hk1
  obtain ⟨f3,m3,e3⟩:=try_u f2.g (by omega) hk2
  have w2:=f2.w
  have w3:=f3.w
  have w1:=f1.w
  refine ⟨(f1.trans f2).trans f3,fun h=>?_,fun h=>?_⟩
  ·show wN (tryS (tryS (roundTo x k) (dStep (k+1))) (uStep (k+1))).1 < _
   unfold moreTo at h
   rw [Bool.or_eq_true,Bool.or_eq_true] at h
   rcases h with (h|h)|h
   ·have:=m1 h;omega
   ·have:=m2 h;omega
   ·have:=m3 h;omega
  ·unfold moreTo at h
   rw [Bool.or_eq_false_iff,Bool.or_eq_false_iff] at h
   obtain ⟨⟨h1,h2⟩,h3⟩:=h
   obtain ⟨e1,z⟩:=z1 h1
   have n2:stepN (roundTo x k).1 (dStep (k+1))=none:=by simpa using h2
   have n3:stepN (tryS (roundTo x k) (dStep (k+1))).1 (uStep (k+1))=none:=by simpa using h3
   have e2:=tryS_none n2
   rw [e2] at n3
   refine ⟨?_,fun i a b=>?_⟩
   ·show tryS (tryS (roundTo x k) (dStep (k+1))) (uStep (k+1))=x
    rw [e2,tryS_none n3,e1]
   ·by_cases hi:i=k+1
    ·subst hi
     rw [e1] at n2 n3
     exact ⟨n2,n3⟩
    ·exact z i a (by omega)
theorem qd_zero:∀{l:List (List Packet)},qd l=0↔∀q∈l,q=[]
 | []=>by simp [qd]
 | x::r=>by
  have ih:=qd_zero (l:=r)
  show x.length+qd r=0↔_
  rw [Nat.add_eq_zero_iff,List.length_eq_zero_iff,ih]
  simp
theorem getD_nil {l:List (List Packet)} {i:Nat} (h:qd l=0):(l.getD i []).length=0:=by
 rw [List.getD_eq_getElem?_getD]
 cases e:l[i]? with
 | none=>rfl
 | some q=>rw [qd_zero.1 h q (List.mem_of_getElem? e)];rfl
theorem node0 {n:Net} (hg:goodNet n=true):(n.down.getD 0 []).length=0∧(n.up.getD 0 []).length=0:=by
 have hG:=goodNet_GN.1 hg
 have h2:=(goodT hG.t).n0
 obtain ⟨h1,h2,h3,h4,r⟩:=hG.rn (i:=0) (by omega)
 obtain ⟨-, -,a,b⟩:=r.hz rfl
 rw [getN h3,getN h4]
 exact ⟨a,b⟩
theorem qd_done {n:Net} (hg:goodNet n=true) (h:∀i,1≤i→i < n.tree.parent.length→stepN n (dStep i)=none∧stepN n (uStep i)=none):qdN n=0:=by
 have hG:=goodNet_GN.1 hg
 obtain ⟨q1,q2,q3,q4⟩:=lensN_iff.1 hG.l
 obtain ⟨z1,z2⟩:=node0 hg
 have hd:qd n.down=0:=qd_zero.2 fun q hq=>by
  obtain ⟨i,hi,rfl⟩:=List.getElem_of_mem hq
  rw [←List.length_eq_zero_iff,←getN hi []]
  by_cases e:i=0
  ·rw [e];exact z1
  ·have:=(h i (by omega) (by omega)).1
   rw [stepN_d (by omega)] at this
   split at this
   ·assumption
   ·cases this
 have hu:qd n.up=0:=qd_zero.2 fun q hq=>by
  obtain ⟨i,hi,rfl⟩:=List.getElem_of_mem hq
  rw [←List.length_eq_zero_iff,←getN hi []]
  by_cases e:i=0
  ·rw [e];exact z2
  ·have:=(h i (by omega) (by omega)).2
   rw [stepN_u (by omega)] at this
   split at this
   ·assumption
   ·cases this
 unfold qdN
 omega
theorem more_iff {x:NE} (hg:goodNet x.1=true):moreTo x (x.1.tree.parent.length - 1)=false↔qdN x.1=0:=by
 have h2:=(goodT (goodNet_GN.1 hg).t).n0
 constructor
 ·intro h
  obtain ⟨-,hz⟩:=(round_fall hg (x.1.tree.parent.length - 1) (by omega)).2.2 h
  exact qd_done hg fun i a b=>hz i a (by omega)
 ·intro h
  have hd:qd x.1.down=0:=by unfold qdN at h;omega
  have hu:qd x.1.up=0:=by unfold qdN at h;omega
  have:∀k,k+1≤x.1.tree.parent.length→moreTo x k=false:=by
   intro k
   induction k with
   | zero=>intro _;rfl
   | succ k ih =>
    intro hk
    have h1:=ih (by omega)
    have e1:=((round_fall hg k (by omega)).2.2 h1).1
    unfold moreTo
    have n1:stepN x.1 (dStep (k+1))=none:=by rw [stepN_d (by omega),if_pos (getD_nil hd)]
    have n2:stepN x.1 (uStep (k+1))=none:=by rw [stepN_u (by omega),if_pos (getD_nil hu)]
    rw [h1,e1,tryS_none n1,n1,n2];rfl
  exact this _ (by omega)
theorem round_done {x:NE} (hg:goodNet x.1=true) (h:qdN x.1=0):roundN x=x:=by
 have h2:=(goodT (goodNet_GN.1 hg).t).n0
 exact ((round_fall hg (x.1.tree.parent.length - 1) (by omega)).2.2 ((more_iff hg).2 h)).1
theorem roundN_fall {x:NE} (hg:goodNet x.1=true):Fall x (roundN x)∧(¬qdN x.1=0→wN (roundN x).1 < wN x.1):=by
 have h2:=(goodT (goodNet_GN.1 hg).t).n0
 obtain ⟨a,b, -⟩:=round_fall hg (x.1.tree.parent.length - 1) (by omega)
 refine ⟨a,fun h=>b ?_⟩
 cases e:moreTo x (x.1.tree.parent.length - 1)
 ·exact absurd ((more_iff hg).1 e) h
 ·rfl
theorem drainF_stop {f:Nat} {x:NE} (h:qdN x.1=0):drainF f x=x:=by
 cases f
 ·rfl
 ·unfold drainF;rw [if_pos h]
theorem drainF_same:∀(f g:Nat) {x:NE},goodNet x.1=true→wN x.1≤f→wN x.1≤g→drainF f x=drainF g x
 | 0,g,x,hg,h,_=>by
  have hz:qdN x.1=0:=by
   by_cases h0:qdN x.1=0
   ·exact h0
   ·have:=(roundN_fall hg).2 h0;omega
  rw [drainF_stop hz,drainF_stop hz]
 | f+1,g,x,hg,h,h2=>by
  by_cases hz:qdN x.1=0
  ·rw [drainF_stop hz,drainF_stop hz]
  ·obtain ⟨hf,hw⟩:=roundN_fall hg
   have hw:=hw hz
   obtain ⟨m,rfl⟩:∃m,g=m+1:=⟨g - 1,by omega⟩
   unfold drainF
   rw [if_neg hz,if_neg hz]
   exact drainF_same f m hf.g (by omega) (by omega)
theorem drainF_enough {f:Nat} {x:NE} (hg:goodNet x.1=true) (h:wN x.1≤f):drainF f x=drainF (wN x.1) x:=drainF_same _ _ hg h (Nat.le_refl _)
theorem drE_stop {x:NE} (h:qdN x.1=0):drE x=x:=drainF_stop h
theorem drE_step {x:NE} (hg:goodNet x.1=true) (h:¬qdN x.1=0):drE x=drE (roundN x):=by
 obtain ⟨hf,hw⟩:=roundN_fall hg
 have hw:=hw h
 obtain ⟨m,hm⟩:∃m,wN x.1=m+1:=⟨wN x.1 - 1,by omega⟩
 unfold drE
 rw [hm]
 show (if qdN x.1=0 then x else drainF m (roundN x))=_
 rw [if_neg h,drainF_enough hf.g (by omega)]
theorem drE_fall {x:NE} (hg:goodNet x.1=true):Fall x (drE x)∧qdN (drE x).1=0:=by
 obtain ⟨k,hk⟩:∃k,wN x.1≤k:=⟨_,Nat.le_refl _⟩
 induction k generalizing x with
 | zero =>
  have hz:qdN x.1=0:=by
   by_cases h:qdN x.1=0
   ·exact h
   ·have:=(roundN_fall hg).2 h;omega
  rw [drE_stop hz];exact ⟨.refl hg,hz⟩
 | succ k ih =>
  by_cases h:qdN x.1=0
  ·rw [drE_stop h];exact ⟨.refl hg,h⟩
  ·obtain ⟨hf,hw⟩:=roundN_fall hg
   have hw:=hw h
   rw [drE_step hg h]
   obtain ⟨a,b⟩:=ih hf.g (by omega)
   exact ⟨hf.trans a,b⟩
theorem wsum_bd (f:Nat→Nat) (B:Nat):∀(l:List (List Packet)) (k:Nat),(∀q∈l,q.length≤6)→(∀i,k≤i→i < k+l.length→f i≤B)→wsum f k l≤l.length * (6 * B)
 | [],_,_,_=>Nat.zero_le _
 | x::r,k,h,hB=>by
  have ih:=wsum_bd f B r (k+1) (fun q hq=>h q (by simp [hq])) fun i a b=>hB i (by omega) (by simp only [List.length_cons];omega)
  have h1:=Nat.mul_le_mul (h x (by simp)) (hB k (Nat.le_refl _) (by simp only [List.length_cons];omega))
  show x.length * f k+wsum f (k+1) r≤(r.length+1) * (6 * B)
  rw [Nat.succ_mul]
  omega
theorem wN_le {n:Net} (hg:goodNet n=true):wN n≤280000000:=by
 have hG:=goodNet_GN.1 hg
 have h8:=(goodT hG.t).n1
 obtain ⟨q1,q2,q3,q4⟩:=lensN_iff.1 hG.l
 obtain ⟨-, -,e3,e4⟩:=good_els hg
 have h1:=wsum_bd vd 2097152 n.down 0 (fun q hq=>(goodQ_len (e3 q hq)).1) fun i _ _=>Nat.le_trans (Nat.pow_le_pow_right (n:=8) (by decide) (show 7 - i≤7 by omega)) (by decide)
 have h2:=wsum_bd vu 3670023 n.up 0 (fun q hq=>(goodQ_len (e4 q hq)).1) fun i _ _=>by unfold vu;omega
 have h3:=Nat.mul_le_mul_right (6 * 2097152) (show n.down.length≤8 by omega)
 have h4:=Nat.mul_le_mul_right (6 * 3670023) (show n.up.length≤8 by omega)
 unfold wN
 omega
theorem drN_few {n:Net} (hg:goodNet n=true):(drN n).2.length≤6720000000:=by
 have h:=(drE_fall (x:=(n,[])) hg).1.e
 have:=wN_le hg
 show (drE (n,[])).2.length≤_
 simp only [List.length_nil] at h
 omega
def finTo (n:Net):Nat→NE
 | 0=>drN n
 | k+1=>((drN (tickN (finTo n k).1).1).1,(finTo n k).2++(tickN (finTo n k).1).2++(drN (tickN (finTo n k).1).1).2)
theorem tickN_src (n:Net):∀k,(tickTo n k).1.source=tickS n.source
 | 0=>rfl
 | k+1=>(tick1_tree _ _).2.trans (tickN_src n k)
theorem fin_good {n:Net} (hg:goodNet n=true):∀k:Nat,n.source.clock+(k:Int)≤9999→goodNet (finTo n k).1=true∧(finTo n k).1.tree=n.tree∧(finTo n k).1.source.clock=n.source.clock+(k:Int)∧(finTo n k).2.length≤6720000000+6721000000 * k
 | 0,_=>by
  obtain ⟨h, -⟩:=drE_fall (x:=(n,[])) hg
  exact ⟨h.g,h.t,by rw [show ((0:Nat):Int)=0 from rfl,Int.add_zero];exact h.c,drN_few hg⟩
 | k+1,hk=>by
  obtain ⟨h1,h2,h3,h4⟩:=fin_good hg k (by omega)
  have hc:(finTo n k).1.source.clock < 9999:=by omega
  have t1:=tickN_good h1 hc
  have t2:(tickN (finTo n k).1).1.tree=(finTo n k).1.tree:=tickTo_tree _ _
  have t3:(tickN (finTo n k).1).1.source.clock=(finTo n k).1.source.clock+1:=by
   show (tickTo _ _).1.source.clock=_
   rw [tickN_src];rfl
  have hn8:=(goodT (goodNet_GN.1 h1).t).n1
  have hn2:=(goodT (goodNet_GN.1 h1).t).n0
  have t4:(tickN (finTo n k).1).2.length≤40000 * ((finTo n k).1.tree.parent.length - 1):=tick_few h1 hc _ (by omega)
  obtain ⟨d, -⟩:=drE_fall (x:=((tickN (finTo n k).1).1,[])) t1
  have d4:=drN_few t1
  refine ⟨d.g,(d.t.trans t2).trans h2,?_,?_⟩
  ·show (drN (tickN (finTo n k).1).1).1.source.clock=_
   rw [show (drN (tickN (finTo n k).1).1).1.source.clock=(tickN (finTo n k).1).1.source.clock from d.c,t3,h3]
   omega
  ·show ((finTo n k).2++(tickN (finTo n k).1).2++(drN (tickN (finTo n k).1).1).2).length≤_
   rw [List.length_append,List.length_append]
   omega
def kst (m i:Nat):Step:=⟨if m=0 then 2 else 5,(i:Int),⟨#[]⟩⟩
def halfS (y:NE) (i:Nat):Nat→NE
 | 0=>y
 | m+1=>tryS (halfS y i m) (kst m i)
def halfM (b:Bool) (y:NE) (i:Nat):Nat→Bool
 | 0=>b
 | m+1=>halfM b y i m || (stepN (halfS y i m).1 (kst m i)).isSome
theorem roundTo_half (x:NE) (k:Nat):roundTo x (k+1)=halfS (roundTo x k) (k+1) 2:=rfl
theorem moreTo_half (x:NE) (k:Nat):moreTo x (k+1)=halfM (moreTo x k) (roundTo x k) (k+1) 2:=rfl
theorem ok_k {m i:Nat} (h0:1≤i) (h:i≤7) (hm:m < 2):okStep (kst m i)=true:=by
 rcases (show m=0∨m=1 by omega) with rfl|rfl
 ·exact ok_d h0 h
 ·exact ok_u h0 h
theorem half_fall {y:NE} (hg:goodNet y.1=true) {i:Nat} (h0:1≤i) (hi:i < y.1.tree.parent.length):∀m,m≤2→Fall y (halfS y i m)
 | 0,_=>.refl hg
 | 1,_=>(try_d hg h0 hi).1
 | 2,_=>by
  have f1:=(try_d hg h0 hi).1
  exact f1.trans (try_u f1.g h0 (by rw [f1.t];exact hi)).1
 | m+3,h=>by omega
def roundI (x:NE):Nat→NE
 | 0=>x
 | k+1=>nodeS (roundI x k) k
theorem tryD {x:NE} (hg:goodNet x.1=true) {i:Nat} (hi:i < x.1.tree.parent.length):Fall x (tryS x (dStep i)):=by
 by_cases h0:i=0
 ·subst h0
  rw [tryS_none (by rw [stepN_d hi,if_pos (node0 hg).1])]
  exact .refl hg
 ·exact (try_d hg (by omega) hi).1
theorem tryU {x:NE} (hg:goodNet x.1=true) {i:Nat} (hi:i < x.1.tree.parent.length):Fall x (tryS x (uStep i))∧(tryS x (uStep i)).2=x.2:=by
 by_cases h0:i=0
 ·subst h0
  rw [tryS_none (by rw [stepN_u hi,if_pos (node0 hg).2])]
  exact ⟨.refl hg,rfl⟩
 ·have:=try_u hg (by omega) hi
  exact ⟨this.1,this.2.2⟩
theorem roundI_fall {x:NE} (hg:goodNet x.1=true):∀k,k≤x.1.tree.parent.length→Fall x (roundI x k)
 | 0,_=>.refl hg
 | k+1,hk=>by
  have f1:=roundI_fall hg k (by omega)
  have f2:=tryD f1.g (i:=k) (by rw [f1.t];omega)
  have f3:=(tryU f2.g (i:=k) (by rw [f2.t,f1.t];omega)).1
  exact (f1.trans f2).trans f3
theorem roundI_eq {x:NE} (hg:goodNet x.1=true):∀k,roundI x (k+1)=roundTo x k
 | 0=>by
  have h2:=(goodT (goodNet_GN.1 hg).t).n0
  show tryS (tryS x (dStep 0)) (uStep 0)=x
  rw [tryS_none (x:=x) (s:=dStep 0) (by rw [stepN_d (by omega),if_pos (node0 hg).1]),tryS_none (by rw [stepN_u (by omega),if_pos (node0 hg).2])]
 | k+1=>by
  show nodeS (roundI x (k+1)) (k+1)=nodeS (roundTo x k) (k+1)
  rw [roundI_eq hg k]
theorem roundI_all {x:NE} (hg:goodNet x.1=true):roundI x x.1.tree.parent.length=roundN x:=by
 have h2:=(goodT (goodNet_GN.1 hg).t).n0
 obtain ⟨m,hm⟩:∃m,x.1.tree.parent.length=m+1:=⟨x.1.tree.parent.length - 1,by omega⟩
 unfold roundN
 rw [hm,roundI_eq hg,Nat.add_sub_cancel]
theorem qd_take {l:List (List Packet)} (h:∀q∈l,q.length≤6):∀k,qd (l.take k)≤6 * k:=by
 induction l with
 | nil=>intro k;rw [List.take_nil];exact Nat.zero_le _
 | cons q r ih =>
  intro k
  cases k with
  | zero=>exact Nat.le_refl _
  | succ k =>
   have:=ih (fun q hq=>h q (by simp [hq])) k
   have:=h q (by simp)
   show q.length+qd (r.take k)≤_
   omega
theorem qd_succ {l:List (List Packet)} {k:Nat} (hk:k < l.length):qd (l.take (k+1))=qd (l.take k)+l[k].length:=by
 unfold qd
 rw [List.take_succ_eq_append_getElem hk,List.map_append,List.sum_append]
 simp
def okFin (n:Net) (r:Int):Bool:=goodNet n && btw 0 r 60 && decide (n.source.clock+r≤9999)
def resFinishNet (n:Net) (r:Int):Net × List ByteArray × Bool:=if okFin n r then ((finTo n r.toNat).1,(finTo n r.toNat).2,true) else (zNet,[],false)
theorem fin_good' {n:Net} {r:Int} (h:okFin n r=true):goodNet (finTo n r.toNat).1=true∧(finTo n r.toNat).2.length≤500000000000:=by
 unfold okFin btw at h
 simp only [Bool.and_eq_true,decide_eq_true_eq] at h
 obtain ⟨⟨h1,h2,h3⟩,h4⟩:=h
 obtain ⟨a, -, -,b⟩:=fin_good h1 r.toNat (by omega)
 exact ⟨a,by omega⟩
theorem few_cv {l:List ByteArray} {M:Nat} (h:l.length≤M):cntL cntS l≤M:=by
 have:=cnt_at cntS 1 M (xs:=l) (fun p _=>by simp [cntS]) h
 omega
theorem zNet_cv:cvNet zNet≤4294967296:=by decide
theorem resFinishNet_cv (x0:Net) (x1:Int) (_h0:wtNet x0≤1048576):cvNet ((resFinishNet x0 x1).1)≤4294967296∧cntL cntS ((resFinishNet x0 x1).2.1)≤500000000000:=by
 unfold resFinishNet
 split
 ·rename_i h
  obtain ⟨a,b⟩:=fin_good' h
  have:=goodNet_cv a
  exact ⟨by show cvNet (finTo x0 x1.toNat).1≤_;omega,few_cv b⟩
 ·exact ⟨zNet_cv,by decide⟩
structure DrS where
 x:NE
 z:NV
 a:Option Addr
 c:Nat
 F:List Nat
structure DrK where
 k:Nat
 z:NV
 a:Option Addr
 c:Nat
 F:List Nat
theorem rdQ {w:World} {t:TypeId} {a:Option Addr} {n c:Nat} {l:List (List Packet)} {F:List Nat} (h:(Pc.ow (OSl EPacket 127) t (.slice a n c) l F).P w):∃F',(Pc.sl (ESl EPacket (by decide)) (.slice a n c) l F').P w:=by
 obtain ⟨F', -,hs⟩:=h.2.sl (weak_OSl (Weak.refl EPacket) (by decide) _)
 exact ⟨F',by decide,hs⟩
theorem queued_f (l:List (List Packet)) (a:Option Addr) (c:Nat) (F:List Nat) (hl:l.length≤8) (hq:∀q∈l,q.length≤6):Fn Tryz.prog 126 [.slice a l.length c] [.sl (ESl EPacket (by decide)) (.slice a l.length c) l F] [] (fun (_:Unit)=>True) (fun _=>.int .i64 ((qd l:Nat):Int)) (fun _=>[]):=by
 refine enter Tryz.func126 rfl Tryz.ntmps126 fun w0=>?_
 refine go ?_;intros
 refine c_loopR [6,7] (fun k:Nat=>[(3,.int .i64 ((qd (l.take k):Nat):Int)),(8,.int .i64 (k:Nat))]) (fun k=>k≤l.length) (fun k=>l.length - k) 0 (Nat.zero_le _) fun k hk=>?_
 have h6:=qd_take hq k
 refine go ?_;intros
 refine c_if rfl (fun h1=>?_) (fun h1=>?_)
 ·have hh:k < l.length:=by omega
  have h7:=hq l[k] (List.getElem_mem hh)
  refine at_ESl (E:=EPacket) (hz:=by decide) (xs:=l) k ?_
  rintro hi6 b6 o6 a11 c11 F11 rfl l11
  refine go ?_;intros
  rw [show ((qd (l.take k):Nat):Int)+(l[k].length:Int)=((qd (l.take (k+1)):Nat):Int) by rw [qd_succ hh];omega]
  refine n_lp (k+1) hh (by show l.length - (k+1) < l.length - k;omega)
 ·obtain rfl:k=l.length:=by omega
  refine go ?_;intros
  refine ret () trivial ?_
  rw [List.take_length];rfl
theorem step_lens {n:Net} {s:Step} (hg:goodNet n=true) (hs:okStep s=true):n.tree.parent.length=(outN n (stepN n s)).tree.parent.length∧n.elements.length=(outN n (stepN n s)).elements.length∧n.receivers.length=(outN n (stepN n s)).receivers.length∧n.down.length=(outN n (stepN n s)).down.length∧n.up.length=(outN n (stepN n s)).up.length:=by
 cases e:stepN n s with
 | none=>exact ⟨rfl,rfl,rfl,rfl,rfl⟩
 | some r=>exact lens_of hg (step_good hg hs e) (step_tree e)
theorem step_g (n:Net) (s:Step) (g:Nat) (a1:Option Addr) (c1:Nat) (F1:List Nat) (a2:Option Addr) (c2:Nat) (F2:List Nat) (a3:Option Addr) (c3:Nat) (F3:List Nat) (a4:Option Addr) (c4:Nat) (F4:List Nat) (a5:Option Addr) (c5:Nat) (F5:List Nat) (a6:Option Addr) (c6:Nat) (F6:List Nat) (a7:Option Addr) (c7:Nat) (F7:List Nat) (FT:List Nat) (hg:goodNet n=true) (hs:okStep s=true) (hss:s.data.size≤maxLen) :
  Fn Tryz.prog 45 [ptr g 0 0,.agg #[.int .i64 (s).kind,.int .i64 (s).node,.string (s).data]] [EnvP FT] [.row g 49 0 [] [.slice a1 n.tree.parent.length c1,.int .i64 n.source.window.trail,.int .i64 n.source.window.size,.slice a2 n.source.window.items.length c2,.int .i64 n.source.clock,.int .i64 n.source.quiet,.slice a3 n.source.holds.length c3,.slice a4 n.elements.length c4,.slice a5 n.receivers.length c5,.slice a6 n.down.length c6,.slice a7 n.up.length c7] [],.ow EInt 3 (.slice a1 n.tree.parent.length c1) n.tree.parent F1,.ow EStr 9 (.slice a2 n.source.window.items.length c2) n.source.window.items F2,.ow EHold 194 (.slice a3 n.source.holds.length c3) n.source.holds F3,.ow OElement 142 (.slice a4 n.elements.length c4) n.elements F4,.ow OReceiver 149 (.slice a5 n.receivers.length c5) n.receivers F5,.ow (OSl EPacket 127) 132 (.slice a6 n.down.length c6) n.down F6,.ow (OSl EPacket 127) 132 (.slice a7 n.up.length c7) n.up F7] (fun (_:NV × KA)=>True) (fun z=>.tuple #[.slice z.2.a (outE (stepN n s)).length z.2.c,.bool (stepN n s).isSome]) (fun z=>[.row g 49 0 [] [.slice z.1.a1 (outN n (stepN n s)).tree.parent.length z.1.c1,.int .i64 (outN n (stepN n s)).source.window.trail,.int .i64 (outN n (stepN n s)).source.window.size,.slice z.1.a2 (outN n (stepN n s)).source.window.items.length z.1.c2,.int .i64 (outN n (stepN n s)).source.clock,.int .i64 (outN n (stepN n s)).source.quiet,.slice z.1.a3 (outN n (stepN n s)).source.holds.length z.1.c3,.slice z.1.a4 (outN n (stepN n s)).elements.length z.1.c4,.slice z.1.a5 (outN n (stepN n s)).receivers.length z.1.c5,.slice z.1.a6 (outN n (stepN n s)).down.length z.1.c6,.slice z.1.a7 (outN n (stepN n s)).up.length z.1.c7] [],.ow EInt 3 (.slice z.1.a1 (outN n (stepN n s)).tree.parent.length z.1.c1) (outN n (stepN n s)).tree.parent z.1.F1,.ow EStr 9 (.slice z.1.a2 (outN n (stepN n s)).source.window.items.length z.1.c2) (outN n (stepN n s)).source.window.items z.1.F2,.ow EHold 194 (.slice z.1.a3 (outN n (stepN n s)).source.holds.length z.1.c3) (outN n (stepN n s)).source.holds z.1.F3,.ow OElement 142 (.slice z.1.a4 (outN n (stepN n s)).elements.length z.1.c4) (outN n (stepN n s)).elements z.1.F4,.ow OReceiver 149 (.slice z.1.a5 (outN n (stepN n s)).receivers.length z.1.c5) (outN n (stepN n s)).receivers z.1.F5,.ow (OSl EPacket 127) 132 (.slice z.1.a6 (outN n (stepN n s)).down.length z.1.c6) (outN n (stepN n s)).down z.1.F6,.ow (OSl EPacket 127) 132 (.slice z.1.a7 (outN n (stepN n s)).up.length z.1.c7) (outN n (stepN n s)).up z.1.F7,.ow EStr 9 (.slice z.2.a (outE (stepN n s)).length z.2.c) (outE (stepN n s)) z.2.F]):=by
 obtain ⟨k1,k2,k3,k4,k5⟩:=step_lens hg hs
 have h:=step_f n s g a1 c1 F1 a2 c2 F2 a3 c3 F3 a4 c4 F4 a5 c5 F5 a6 c6 F6 a7 c7 F7 FT hg hs hss
 rw [←k1,←k2,←k3,←k4,←k5]
 exact h
theorem tick_lens {n:Net} (hg:goodNet n=true) (hc:n.source.clock < 9999):n.tree.parent.length=(tickN n).1.tree.parent.length∧n.elements.length=(tickN n).1.elements.length∧n.receivers.length=(tickN n).1.receivers.length∧n.down.length=(tickN n).1.down.length∧n.up.length=(tickN n).1.up.length:=lens_of hg (tickN_good hg hc) (tickTo_tree _ _)
theorem tick_g (n:Net) (g:Nat) (a1:Option Addr) (c1:Nat) (F1:List Nat) (a2:Option Addr) (c2:Nat) (F2:List Nat) (a3:Option Addr) (c3:Nat) (F3:List Nat) (a4:Option Addr) (c4:Nat) (F4:List Nat) (a5:Option Addr) (c5:Nat) (F5:List Nat) (a6:Option Addr) (c6:Nat) (F6:List Nat) (a7:Option Addr) (c7:Nat) (F7:List Nat) (FT:List Nat) (hg:goodNet n=true) (hc:n.source.clock < 9999) :
  Fn Tryz.prog 66 [ptr g 0 0] [EnvP FT] [.row g 49 0 [] [.slice a1 n.tree.parent.length c1,.int .i64 n.source.window.trail,.int .i64 n.source.window.size,.slice a2 n.source.window.items.length c2,.int .i64 n.source.clock,.int .i64 n.source.quiet,.slice a3 n.source.holds.length c3,.slice a4 n.elements.length c4,.slice a5 n.receivers.length c5,.slice a6 n.down.length c6,.slice a7 n.up.length c7] [],.ow EInt 3 (.slice a1 n.tree.parent.length c1) n.tree.parent F1,.ow EStr 9 (.slice a2 n.source.window.items.length c2) n.source.window.items F2,.ow EHold 194 (.slice a3 n.source.holds.length c3) n.source.holds F3,.ow OElement 142 (.slice a4 n.elements.length c4) n.elements F4,.ow OReceiver 149 (.slice a5 n.receivers.length c5) n.receivers F5,.ow (OSl EPacket 127) 132 (.slice a6 n.down.length c6) n.down F6,.ow (OSl EPacket 127) 132 (.slice a7 n.up.length c7) n.up F7] (fun (_:NV × KA)=>True) (fun z=>.slice z.2.a (tickN n).2.length z.2.c) (fun z=>[.row g 49 0 [] [.slice z.1.a1 (tickN n).1.tree.parent.length z.1.c1,.int .i64 (tickN n).1.source.window.trail,.int .i64 (tickN n).1.source.window.size,.slice z.1.a2 (tickN n).1.source.window.items.length z.1.c2,.int .i64 (tickN n).1.source.clock,.int .i64 (tickN n).1.source.quiet,.slice z.1.a3 (tickN n).1.source.holds.length z.1.c3,.slice z.1.a4 (tickN n).1.elements.length z.1.c4,.slice z.1.a5 (tickN n).1.receivers.length z.1.c5,.slice z.1.a6 (tickN n).1.down.length z.1.c6,.slice z.1.a7 (tickN n).1.up.length z.1.c7] [],.ow EInt 3 (.slice z.1.a1 (tickN n).1.tree.parent.length z.1.c1) (tickN n).1.tree.parent z.1.F1,.ow EStr 9 (.slice z.1.a2 (tickN n).1.source.window.items.length z.1.c2) (tickN n).1.source.window.items z.1.F2,.ow EHold 194 (.slice z.1.a3 (tickN n).1.source.holds.length z.1.c3) (tickN n).1.source.holds z.1.F3,.ow OElement 142 (.slice z.1.a4 (tickN n).1.elements.length z.1.c4) (tickN n).1.elements z.1.F4,.ow OReceiver 149 (.slice z.1.a5 (tickN n).1.receivers.length z.1.c5) (tickN n).1.receivers z.1.F5,.ow (OSl EPacket 127) 132 (.slice z.1.a6 (tickN n).1.down.length z.1.c6) (tickN n).1.down z.1.F6,.ow (OSl EPacket 127) 132 (.slice z.1.a7 (tickN n).1.up.length z.1.c7) (tickN n).1.up z.1.F7,.ow EStr 9 (.slice z.2.a (tickN n).2.length z.2.c) (tickN n).2 z.2.F]):=by
 obtain ⟨k1,k2,k3,k4,k5⟩:=tick_lens hg hc
 have h:=Ntick_f n g a1 c1 F1 a2 c2 F2 a3 c3 F3 a4 c4 F4 a5 c5 F5 a6 c6 F6 a7 c7 F7 FT hg hc
 rw [←k1,←k2,←k3,←k4,←k5]
 exact h
theorem Ndrain_f (n:Net) (g:Nat) (a1:Option Addr) (c1:Nat) (F1:List Nat) (a2:Option Addr) (c2:Nat) (F2:List Nat) (a3:Option Addr) (c3:Nat) (F3:List Nat) (a4:Option Addr) (c4:Nat) (F4:List Nat) (a5:Option Addr) (c5:Nat) (F5:List Nat) (a6:Option Addr) (c6:Nat) (F6:List Nat) (a7:Option Addr) (c7:Nat) (F7:List Nat) (FT:List Nat) (hg:goodNet n=true) :
  Fn Tryz.prog 65 [ptr g 0 0] [EnvP FT] [.row g 49 0 [] [.slice a1 n.tree.parent.length c1,.int .i64 n.source.window.trail,.int .i64 n.source.window.size,.slice a2 n.source.window.items.length c2,.int .i64 n.source.clock,.int .i64 n.source.quiet,.slice a3 n.source.holds.length c3,.slice a4 n.elements.length c4,.slice a5 n.receivers.length c5,.slice a6 n.down.length c6,.slice a7 n.up.length c7] [],.ow EInt 3 (.slice a1 n.tree.parent.length c1) n.tree.parent F1,.ow EStr 9 (.slice a2 n.source.window.items.length c2) n.source.window.items F2,.ow EHold 194 (.slice a3 n.source.holds.length c3) n.source.holds F3,.ow OElement 142 (.slice a4 n.elements.length c4) n.elements F4,.ow OReceiver 149 (.slice a5 n.receivers.length c5) n.receivers F5,.ow (OSl EPacket 127) 132 (.slice a6 n.down.length c6) n.down F6,.ow (OSl EPacket 127) 132 (.slice a7 n.up.length c7) n.up F7] (fun (_:NV × KA)=>True) (fun z=>.slice z.2.a (drN n).2.length z.2.c) (fun z=>[.row g 49 0 [] [.slice z.1.a1 (drN n).1.tree.parent.length z.1.c1,.int .i64 (drN n).1.source.window.trail,.int .i64 (drN n).1.source.window.size,.slice z.1.a2 (drN n).1.source.window.items.length z.1.c2,.int .i64 (drN n).1.source.clock,.int .i64 (drN n).1.source.quiet,.slice z.1.a3 (drN n).1.source.holds.length z.1.c3,.slice z.1.a4 (drN n).1.elements.length z.1.c4,.slice z.1.a5 (drN n).1.receivers.length z.1.c5,.slice z.1.a6 (drN n).1.down.length z.1.c6,.slice z.1.a7 (drN n).1.up.length z.1.c7] [],.ow EInt 3 (.slice z.1.a1 (drN n).1.tree.parent.length z.1.c1) (drN n).1.tree.parent z.1.F1,.ow EStr 9 (.slice z.1.a2 (drN n).1.source.window.items.length z.1.c2) (drN n).1.source.window.items z.1.F2,.ow EHold 194 (.slice z.1.a3 (drN n).1.source.holds.length z.1.c3) (drN n).1.source.holds z.1.F3,.ow OElement 142 (.slice z.1.a4 (drN n).1.elements.length z.1.c4) (drN n).1.elements z.1.F4,.ow OReceiver 149 (.slice z.1.a5 (drN n).1.receivers.length z.1.c5) (drN n).1.receivers z.1.F5,.ow (OSl EPacket 127) 132 (.slice z.1.a6 (drN n).1.down.length z.1.c6) (drN n).1.down z.1.F6,.ow (OSl EPacket 127) 132 (.slice z.1.a7 (drN n).1.up.length z.1.c7) (drN n).1.up z.1.F7,.ow EStr 9 (.slice z.2.a (drN n).2.length z.2.c) (drN n).2 z.2.F]):=by
 have hwn:=wN_le hg
 refine enter Tryz.func65 rfl Tryz.ntmps65 fun w0=>?_
 refine t_nilow EStr 9 ?_
 refine go ?_;intros
 refine c_loopS [0] (fun s:DrS=>[(3,.slice s.a s.x.2.length s.c)]) (fun s=>[.row g 49 0 [] [.slice s.z.a1 s.x.1.tree.parent.length s.z.c1,.int .i64 s.x.1.source.window.trail,.int .i64 s.x.1.source.window.size,.slice s.z.a2 s.x.1.source.window.items.length s.z.c2,.int .i64 s.x.1.source.clock,.int .i64 s.x.1.source.quiet,.slice s.z.a3 s.x.1.source.holds.length s.z.c3,.slice s.z.a4 s.x.1.elements.length s.z.c4,.slice s.z.a5 s.x.1.receivers.length s.z.c5,.slice s.z.a6 s.x.1.down.length s.z.c6,.slice s.z.a7 s.x.1.up.length s.z.c7] [],.ow EInt 3 (.slice s.z.a1 s.x.1.tree.parent.length s.z.c1) s.x.1.tree.parent s.z.F1,.ow EStr 9 (.slice s.z.a2 s.x.1.source.window.items.length s.z.c2) s.x.1.source.window.items s.z.F2,.ow EHold 194 (.slice s.z.a3 s.x.1.source.holds.length s.z.c3) s.x.1.source.holds s.z.F3,.ow OElement 142 (.slice s.z.a4 s.x.1.elements.length s.z.c4) s.x.1.elements s.z.F4,.ow OReceiver 149 (.slice s.z.a5 s.x.1.receivers.length s.z.c5) s.x.1.receivers s.z.F5,.ow (OSl EPacket 127) 132 (.slice s.z.a6 s.x.1.down.length s.z.c6) s.x.1.down s.z.F6,.ow (OSl EPacket 127) 132 (.slice s.z.a7 s.x.1.up.length s.z.c7) s.x.1.up s.z.F7,.ow EStr 9 (.slice s.a s.x.2.length s.c) s.x.2 s.F]) (fun s=>Fall (n,[]) s.x∧drE s.x=drN n) (fun s=>wN s.x.1) ⟨(n,[]),⟨a1,c1,F1,a2,c2,F2,a3,c3,F3,a4,c4,F4,a5,c5,F5,a6,c6,F6,a7,c7,F7⟩,none,0,[]⟩ ⟨.refl hg,rfl⟩ fun s hs0=>?_
 obtain ⟨x,⟨x1,w1,K1,x2,w2,K2,x3,w3,K3,x4,w4,K4,x5,w5,K5,x6,w6,K6,x7,w7,K7⟩,ea,ec,eF⟩:=s
 obtain ⟨fx,hR⟩:=hs0
 dsimp only at fx hR ⊢
 have hG:=goodNet_GN.1 fx.g
 have h8:=goodT hG.t
 have hn8:=h8.n1
 have hn2:=h8.n0
 obtain ⟨q1,q2,q3,q4⟩:=lensN_iff.1 hG.l
 obtain ⟨-, -,hd6,hu6⟩:=good_els fx.g
 have hd6:∀q∈x.1.down,q.length≤6:=fun q hq=>(goodQ_len (hd6 q hq)).1
 have hu6:∀q∈x.1.up,q.length≤6:=fun q hq=>(goodQ_len (hu6 q hq)).1
 have hb1:=qd_take hd6 x.1.down.length
 have hb2:=qd_take hu6 x.1.up.length
 rw [List.take_length] at hb1 hb2
 have hev:=fx.e
 simp only [List.length_nil] at hev
 refine go ?_;intros
 refine d_start [0] [] ?_
 refine dt4 0 1 2 3 ?_
 refine dt4 5 6 7 8 ?_
 refine dN 4 ?_
 refine oC ?_
 refine cfr (fun w st=>by obtain ⟨Fq,hq⟩:=rdQ (st.get (p:=.ow (OSl EPacket 127) 132 (.slice x6 x.1.down.length w6) x.1.down K6) (by exact memE));exact ⟨_,hol1 hq,rfl,queued_f _ _ _ Fq (by omega) (by assumption)⟩) (fun _ _=>?_)
 refine t_app ?_
 refine dk ?_
 refine dN 9 ?_
 refine oC ?_
 refine cfr (fun w st=>by obtain ⟨Fq,hq⟩:=rdQ (st.get (p:=.ow (OSl EPacket 127) 132 (.slice x7 x.1.up.length w7) x.1.up K7) (by exact memE));exact ⟨_,hol1 hq,rfl,queued_f _ _ _ Fq (by omega) (by assumption)⟩) (fun _ _=>?_)
 refine t_app ?_
 refine dk ?_
 refine dt2 10 11 ?_
 refine dd ?_
 refine go ?_;intros
 refine c_if rfl (fun h1=>?_) (fun h1=>?_)
 ·have hq0:¬qdN x.1=0:=by unfold qdN;omega
  obtain ⟨fR,hw⟩:=roundN_fall fx.g
  have hw:=hw hq0
  refine go ?_;intros
  refine c_loopS [0,24] (fun y:DrK=>[(3,.slice y.a (roundI x y.k).2.length y.c),(25,.int .i64 (y.k:Nat))]) (fun y=>[.row g 49 0 [] [.slice y.z.a1 (roundI x y.k).1.tree.parent.length y.z.c1,.int .i64 (roundI x y.k).1.source.window.trail,.int .i64 (roundI x y.k).1.source.window.size,.slice y.z.a2 (roundI x y.k).1.source.window.items.length y.z.c2,.int .i64 (roundI x y.k).1.source.clock,.int .i64 (roundI x y.k).1.source.quiet,.slice y.z.a3 (roundI x y.k).1.source.holds.length y.z.c3,.slice y.z.a4 (roundI x y.k).1.elements.length y.z.c4,.slice y.z.a5 (roundI x y.k).1.receivers.length y.z.c5,.slice y.z.a6 (roundI x y.k).1.down.length y.z.c6,.slice y.z.a7 (roundI x y.k).1.up.length y.z.c7] [],.ow EInt 3 (.slice y.z.a1 (roundI x y.k).1.tree.parent.length y.z.c1) (roundI x y.k).1.tree.parent y.z.F1,.ow EStr 9 (.slice y.z.a2 (roundI x y.k).1.source.window.items.length y.z.c2) (roundI x y.k).1.source.window.items y.z.F2,.ow EHold 194 (.slice y.z.a3 (roundI x y.k).1.source.holds.length y.z.c3) (roundI x y.k).1.source.holds y.z.F3,.ow OElement 142 (.slice y.z.a4 (roundI x y.k).1.elements.length y.z.c4) (roundI x y.k).1.elements y.z.F4,.ow OReceiver 149 (.slice y.z.a5 (roundI x y.k).1.receivers.length y.z.c5) (roundI x y.k).1.receivers y.z.F5,.ow (OSl EPacket 127) 132 (.slice y.z.a6 (roundI x y.k).1.down.length y.z.c6) (roundI x y.k).1.down y.z.F6,.ow (OSl EPacket 127) 132 (.slice y.z.a7 (roundI x y.k).1.up.length y.z.c7) (roundI x y.k).1.up y.z.F7,.ow EStr 9 (.slice y.a (roundI x y.k).2.length y.c) (roundI x y.k).2 y.F]) (fun y=>y.k≤x.1.tree.parent.length) (fun y=>x.1.tree.parent.length - y.k) ⟨0,⟨x1,w1,K1,x2,w2,K2,x3,w3,K3,x4,w4,K4,x5,w5,K5,x6,w6,K6,x7,w7,K7⟩,ea,ec,eF⟩ (Nat.zero_le _) fun y hy0=>?_
  obtain ⟨j,⟨x1,w1,K1,x2,w2,K2,x3,w3,K3,x4,w4,K4,x5,w5,K5,x6,w6,K6,x7,w7,K7⟩,ya,yc,yF⟩:=y
  dsimp only at hy0 ⊢
  have fJ:=roundI_fall fx.g j hy0
  have fX:=fx.trans fJ
  generalize hX:roundI x j=X at fJ fX ⊢
  refine go ?_;intros
  refine c_if rfl (fun h2=>?_) (fun h2=>?_)
  ·have hj:j < x.1.tree.parent.length:=by omega
   have hXt:X.1.tree.parent.length=x.1.tree.parent.length:=by rw [fJ.t]
   have hG:=goodNet_GN.1 fX.g
   obtain ⟨q1,q2,q3,q4⟩:=lensN_iff.1 hG.l
   have hjd:j < X.1.down.length:=by omega
   have hsd:=stepN_d (n:=X.1) (i:=j) (by omega)
   rw [getN hjd] at hsd
   have hz1:=node0 fX.g
   have hev2:=fX.e
   simp only [List.length_nil] at hev2
   refine go ?_;intros
   refine focO (xs:=X.1.down) (m:=1) j ?_ rfl (by omega)
   rintro _ g6 A6 cs6 B6 p6 q6 G6 Gi6 H6 e6 - hc6 hH6
   rw [e6]
   refine openOSl ?_
   rintro a6 c6 ev6 l6
   obtain rfl:cs6=[.slice a6 X.1.down[j].length c6]:=by simpa using ev6
   refine go ?_;intros
   refine c_if rfl (fun h4=>?_) (fun h4=>?_)
   ·have j1:1≤j:=by
     rcases Nat.eq_zero_or_pos j with rfl|h
     ·have:=hz1.1;rw [getN hjd] at this;omega
     ·exact h
    have ok:=ok_d j1 (by omega)
    refine closeOSl X.1.down[j] ?_
    refine unfO _ hH6 rfl fun J6=>?_
    rw [List.set_getElem_self]
    refine go ?_;intros
    refine cf (step_g X.1 (dStep j) g x1 w1 K1 x2 w2 K2 x3 w3 K3 x4 w4 K4 x5 w5 K5 _ w6 J6 x7 w7 K7 FT fX.g ok (Nat.zero_le _)) fun z _=>?_
    refine t_app ?_
    have hfe:=fX.trans (tryD fX.g (i:=j) (by omega))
    have hfe2:=hfe.e
    have htl:(tryS X (dStep j)).2.length=X.2.length+(outE (stepN X.1 (dStep j))).length:=List.length_append
    simp only [List.length_nil] at hfe2
    refine t_read (E:=EStr) (xs:=outE (stepN X.1 (dStep j))) fun F8=>?_
    refine go ?_;intros
    apply wO
    refine aps (E:=EStr) (xs:=X.2) (ys:=outE (stepN X.1 (dStep j))) one_EStr scal_EStr fun a9 c9 F9=>?_
    generalize hX1:tryS X (dStep j)=X1 at hfe hfe2 htl
    rw [show X.2++outE (stepN X.1 (dStep j))=X1.2 by rw [←hX1];rfl,show outN X.1 (stepN X.1 (dStep j))=X1.1 by rw [←hX1];rfl]
    have fX1:Fall X X1:=by rw [←hX1];exact tryD fX.g (by rw [hXt];exact hj)
    have hG1:=goodNet_GN.1 fX1.g
    obtain ⟨r1,r2,r3,r4⟩:=lensN_iff.1 hG1.l
    have hX1t:X1.1.tree.parent.length=x.1.tree.parent.length:=by rw [fX1.t];exact hXt
    have hju:j < X1.1.up.length:=by omega
    have hsu:=stepN_u (n:=X1.1) (i:=j) (by omega)
    rw [getN hju] at hsu
    have hz0:=node0 fX1.g
    refine go ?_;intros
    refine focO (xs:=X1.1.up) (m:=1) j ?_ rfl (by omega)
    rintro _ g7 A7 cs7 B7 p7 q7 G7 Gi7 H7 e7 - hc7 hH7
    rw [e7]
    refine openOSl ?_
    rintro a7 c7 ev7 l7
    obtain rfl:cs7=[.slice a7 X1.1.up[j].length c7]:=by simpa using ev7
    refine go ?_;intros
    refine c_if rfl (fun h3=>?_) (fun h3=>?_)
    ·have j1:1≤j:=by
      rcases Nat.eq_zero_or_pos j with rfl|h
      ·have:=hz0.2;rw [getN hju] at this;omega
      ·exact h
     have ok:=ok_u j1 (by omega)
     have hnx:roundI x (j+1)=(outN X1.1 (stepN X1.1 (uStep j)),X1.2):=by
      show tryS (tryS (roundI x j) (dStep j)) (uStep j)=_
      rw [hX,hX1]
      exact Prod.ext rfl (tryU fX1.g (i:=j) (by omega)).2
     refine closeOSl X1.1.up[j] ?_
     refine unfO _ hH7 rfl fun J7=>?_
     rw [List.set_getElem_self]
     refine go ?_;intros
     refine cf (step_g X1.1 (uStep j) g z.1.a1 z.1.c1 z.1.F1 z.1.a2 z.1.c2 z.1.F2 z.1.a3 z.1.c3 z.1.F3 z.1.a4 z.1.c4 z.1.F4 z.1.a5 z.1.c5 z.1.F5 z.1.a6 z.1.c6 z.1.F6 _ z.1.c7 J7 FT fX1.g ok (Nat.zero_le _)) fun y _=>?_
     refine t_app ?_
     refine go ?_;intros
     refine n_lp ⟨j+1,⟨y.1.a1,y.1.c1,y.1.F1,y.1.a2,y.1.c2,y.1.F2,y.1.a3,y.1.c3,y.1.F3,y.1.a4,y.1.c4,y.1.F4,y.1.a5,y.1.c5,y.1.F5,y.1.a6,y.1.c6,y.1.F6,y.1.a7,y.1.c7,y.1.F7⟩,a9,c9,F9⟩ (by show j+1≤_;omega) (by show x.1.tree.parent.length - (j+1) < x.1.tree.parent.length - j;omega) (by dsimp only;rw [hnx];exact frE) (by dsimp only;rw [hnx];exact hsE)
    ·have hnx:roundI x (j+1)=X1:=by
      show tryS (tryS (roundI x j) (dStep j)) (uStep j)=_
      rw [hX,hX1]
      exact tryS_none (by rw [hsu,if_pos (by omega)])
     refine closeOSl X1.1.up[j] ?_
     refine unfO _ hH7 rfl fun J7=>?_
     rw [List.set_getElem_self]
     refine go ?_;intros
     refine n_lp ⟨j+1,⟨z.1.a1,z.1.c1,z.1.F1,z.1.a2,z.1.c2,z.1.F2,z.1.a3,z.1.c3,z.1.F3,z.1.a4,z.1.c4,z.1.F4,z.1.a5,z.1.c5,z.1.F5,z.1.a6,z.1.c6,z.1.F6,_,z.1.c7,J7⟩,a9,c9,F9⟩ (by show j+1≤_;omega) (by show x.1.tree.parent.length - (j+1) < x.1.tree.parent.length - j;omega) (by dsimp only;rw [hnx];exact frE) (by dsimp only;rw [hnx];exact hsE)
   ·have htn:tryS X (dStep j)=X:=tryS_none (by rw [hsd,if_pos (by omega)])
    refine closeOSl X.1.down[j] ?_
    refine unfO _ hH6 rfl fun J6=>?_
    rw [List.set_getElem_self]
    obtain ⟨X1,hX1⟩:∃X1,tryS X (dStep j)=X1:=⟨_,rfl⟩
    have hXX:X1=X:=by rw [←hX1,htn]
    subst hXX
    have fX1:Fall X1 X1:=.refl fX.g
    have hG1:=goodNet_GN.1 fX1.g
    obtain ⟨r1,r2,r3,r4⟩:=lensN_iff.1 hG1.l
    have hX1t:X1.1.tree.parent.length=x.1.tree.parent.length:=by rw [fX1.t];exact hXt
    have hju:j < X1.1.up.length:=by omega
    have hsu:=stepN_u (n:=X1.1) (i:=j) (by omega)
    rw [getN hju] at hsu
    have hz0:=node0 fX1.g
    refine go ?_;intros
    refine focO (xs:=X1.1.up) (m:=1) j ?_ rfl (by omega)
    rintro _ g7 A7 cs7 B7 p7 q7 G7 Gi7 H7 e7 - hc7 hH7
    rw [e7]
    refine openOSl ?_
    rintro a7 c7 ev7 l7
    obtain rfl:cs7=[.slice a7 X1.1.up[j].length c7]:=by simpa using ev7
    refine go ?_;intros
    refine c_if rfl (fun h3=>?_) (fun h3=>?_)
    ·have j1:1≤j:=by
      rcases Nat.eq_zero_or_pos j with rfl|h
      ·have:=hz0.2;rw [getN hju] at this;omega
      ·exact h
     have ok:=ok_u j1 (by omega)
     have hnx:roundI x (j+1)=(outN X1.1 (stepN X1.1 (uStep j)),X1.2):=by
      show tryS (tryS (roundI x j) (dStep j)) (uStep j)=_
      rw [hX,hX1]
      exact Prod.ext rfl (tryU fX1.g (i:=j) (by omega)).2
     refine closeOSl X1.1.up[j] ?_
     refine unfO _ hH7 rfl fun J7=>?_
     rw [List.set_getElem_self]
     refine go ?_;intros
     refine cf (step_g X1.1 (uStep j) g x1 w1 K1 x2 w2 K2 x3 w3 K3 x4 w4 K4 x5 w5 K5 _ w6 J6 _ w7 J7 FT fX1.g ok (Nat.zero_le _)) fun y _=>?_
     refine t_app ?_
     refine go ?_;intros
     refine n_lp ⟨j+1,⟨y.1.a1,y.1.c1,y.1.F1,y.1.a2,y.1.c2,y.1.F2,y.1.a3,y.1.c3,y.1.F3,y.1.a4,y.1.c4,y.1.F4,y.1.a5,y.1.c5,y.1.F5,y.1.a6,y.1.c6,y.1.F6,y.1.a7,y.1.c7,y.1.F7⟩,ya,yc,yF⟩ (by show j+1≤_;omega) (by show x.1.tree.parent.length - (j+1) < x.1.tree.parent.length - j;omega) (by dsimp only;rw [hnx];exact frE) (by dsimp only;rw [hnx];exact hsE)
    ·have hnx:roundI x (j+1)=X1:=by
      show tryS (tryS (roundI x j) (dStep j)) (uStep j)=_
      rw [hX,hX1]
      exact tryS_none (by rw [hsu,if_pos (by omega)])
     refine closeOSl X1.1.up[j] ?_
     refine unfO _ hH7 rfl fun J7=>?_
     rw [List.set_getElem_self]
     refine go ?_;intros
     refine n_lp ⟨j+1,⟨x1,w1,K1,x2,w2,K2,x3,w3,K3,x4,w4,K4,x5,w5,K5,_,w6,J6,_,w7,J7⟩,ya,yc,yF⟩ (by show j+1≤_;omega) (by show x.1.tree.parent.length - (j+1) < x.1.tree.parent.length - j;omega) (by dsimp only;rw [hnx];exact frE) (by dsimp only;rw [hnx];exact hsE)
  ·obtain rfl:j=x.1.tree.parent.length:=by omega
   have hX:=hX
   rw [roundI_all fx.g] at hX
   refine go ?_;intros
   refine n_lp ⟨X,⟨x1,w1,K1,x2,w2,K2,x3,w3,K3,x4,w4,K4,x5,w5,K5,x6,w6,K6,x7,w7,K7⟩,ya,yc,yF⟩ ⟨fX,by rw [←hR,drE_step fx.g hq0,hX]⟩ (by show wN X.1 < wN x.1;rw [←hX];exact hw)
 ·have hq0:qdN x.1=0:=by unfold qdN;omega
  rw [drE_stop hq0] at hR
  rw [hR]
  refine go ?_;intros
  refine ret (⟨x1,w1,K1,x2,w2,K2,x3,w3,K3,x4,w4,K4,x5,w5,K5,x6,w6,K6,x7,w7,K7⟩,⟨0,ea,ec,eF⟩) trivial rfl
end Go.Proofs.YtgmbfohkpfineaaGreatDoor
namespace Go.Proofs.YtgmbfohkpfineaaGreatDoor
open Go.RowKit
open Go.RowKit
theorem flat_atS {α:Type} {E:Elem α} {w:World}:∀{ys:List (List Value)} {xs:List α} {G:List Nat},Flat E w ys.flatten xs G→(∀y∈ys,y.length=E.sz)→∀i (h1:i < ys.length) (h2:i < xs.length),∃Gi,E.rep w ys[i] xs[i] Gi∧∀b∈Gi,b∈G
 | [],_,_,_,_,i,h1,_=>by simp at h1
 | y::r,[],_,_,_,i,_,h2=>by simp at h2
 | y::r,x::s,G,h,hm,i,h1,h2=>by
  obtain ⟨c1,c2,F1,F2,e,rfl,hr,hs⟩:=h
  rw [List.flatten_cons] at e
  obtain ⟨e1,e2⟩:=List.append_inj e (by rw [hm y (by simp),E.len hr])
  subst e1 e2
  cases i with
  | zero=>exact ⟨F1,hr,fun b hb=>by simp [hb]⟩
  | succ j =>
   obtain ⟨Gi,g1,g2⟩:=flat_atS hs (fun z hz=>hm z (by simp [hz])) j (by simpa using h1) (by simpa using h2)
   exact ⟨Gi,g1,fun b hb=>by simp [g2 b hb]⟩
theorem flat_setS {α:Type} {E:Elem α} {w:World} {cs:List Value} {x:α} {G2:List Nat} (hx:E.rep w cs x G2):∀{ys:List (List Value)} {xs:List α} {G:List Nat},Flat E w ys.flatten xs G→(∀y∈ys,y.length=E.sz)→ys.length=xs.length→∀i,∃G',Flat E w (ys.set i cs).flatten (xs.set i x) G'∧∀b∈G',b∈G∨b∈G2
 | [],[],G,h,_,_,i=>⟨G,h,fun b hb=>.inl hb⟩
 | [],y::r,_,_,_,hl,_=>by simp at hl
 | y::r,[],_,_,_,hl,_=>by simp at hl
 | y::r,x1::s,G,h,hm,hl,i=>by
  obtain ⟨c1,c2,F1,F2,e,rfl,hr,hs⟩:=h
  rw [List.flatten_cons] at e
  obtain ⟨e1,e2⟩:=List.append_inj e (by rw [hm y (by simp),E.len hr])
  subst e1 e2
  cases i with
  | zero=>exact ⟨G2++F2,⟨cs,r.flatten,G2,F2,by simp,rfl,hx,hs⟩,fun b hb=>by rcases List.mem_append.1 hb with hb|hb;exact .inr hb;exact .inl (by simp [hb])⟩
  | succ j =>
   obtain ⟨G',g1,g2⟩:=flat_setS hx hs (fun z hz=>hm z (by simp [hz])) (by simpa using hl) j
   refine ⟨F1++G',⟨y,(r.set j cs).flatten,F1,G',by simp,rfl,hr,g1⟩,fun b hb=>?_⟩
   rcases List.mem_append.1 hb with hb|hb
   ·exact .inl (by simp [hb])
   ·rcases g2 b hb with h|h
    ·exact .inl (by simp [h])
    ·exact .inr h
section
variable {c:Cx} {fr:Fr} {H:List Pc} {Φ:Gl}
theorem sh_len {m:Nat} {t:TypeId} {a:Option Addr} {n cp:Nat} {ys:List (List Value)} {F:List Nat} (h:(∀y∈ys,y.length=m)→ys.length=n→T c fr H Φ) (hp:.ow (EC m) t (.slice a n cp) ys F∈H:=by (repeat (first|exact .head _|apply List.Mem.tail));first|done|fail):T c fr H Φ:=.mk fun ac w s g=>by
 obtain ⟨hnd,ho⟩:=s.get hp
 have key:(∀y∈ys,y.length=m)∧ys.length=n:=by
  rcases ho with ⟨e,rfl, -⟩|⟨b,cap,cs,rest,G,e,h2,h3,h4,h5,h6, -⟩
  ·cases e;exact ⟨by simp,rfl⟩
  ·cases e;exact ⟨(ec_flat h6).2.2,rfl⟩
 exact (h key.1 key.2).h ac w s g
theorem sh_num {α:Type} {E:Elem α} {k:Nat} {v:Value} {xs:List α} {G:List Nat} (h:xs.length=k→T c fr H Φ) (hp:.isv (EA E k) v xs G∈H:=by (repeat (first|exact .head _|apply List.Mem.tail));first|done|fail):T c fr H Φ:=.mk fun ac w s g=>by
 obtain ⟨cs,e,hl,hf⟩:=s.get hp
 exact (h hl).h ac w s g
theorem sh_at {α:Type} {E:Elem α} {k:Nat} {ys:List (List Value)} {xs:List α} {G:List Nat} (i:Nat) (hm:∀y∈ys,y.length=E.sz) (hl:ys.length=xs.length) (h1:i < ys.length) (h:∀(h1:i < ys.length) (h2:i < xs.length) Gi,T c fr (.isv E (.agg ys[i].toArray) xs[i] Gi::H) Φ) (hp:.isv (EA E k) (.agg ys.flatten.toArray) xs G∈H:=by (repeat (first|exact .head _|apply List.Mem.tail));first|done|fail):T c fr H Φ:=.mk fun ac w s g=>by
 obtain ⟨cs,e, -,hf⟩:=s.get hp
 obtain rfl:ys.flatten=cs:=by simpa using e
 obtain ⟨Gi,g1,g2⟩:=flat_atS hf hm i h1 (by omega)
 exact (h h1 (by omega) Gi).h ac w (s.ro hp rfl rfl ⟨_,rfl,g1⟩ g2) g
theorem sh_atv {α:Type} {E:Elem α} {k:Nat} {ys:List (List Value)} {xs:List α} {G:List Nat} (i:Nat) (hm:∀y∈ys,y.length=E.sz) (hl:ys.length=xs.length) (h1:i < ys.length) (h:∀(h1:i < ys.length) (h2:i < xs.length) v Gi,v=.agg ys[i].toArray→T c fr (.isv E v xs[i] Gi::H) Φ) (hp:.isv (EA E k) (.agg ys.flatten.toArray) xs G∈H:=by (repeat (first|exact .head _|apply List.Mem.tail));first|done|fail):T c fr H Φ:=sh_at i hm hl h1 (fun h1 h2 Gi=>h h1 h2 _ Gi rfl) hp
theorem sh_set {α:Type} {E:Elem α} {k:Nat} {ys:List (List Value)} {xs:List α} {G G2:List Nat} {v:Value} {cs:List Value} {x:α} (i:Nat) (hv:v=.agg cs.toArray) (hm:∀y∈ys,y.length=E.sz) (hl:ys.length=xs.length) (h:∀G',T c fr (.isv (EA E k) (.agg (ys.set i cs).flatten.toArray) (xs.set i x) G'::H) Φ) (hp:.isv (EA E k) (.agg ys.flatten.toArray) xs G∈H:=by (repeat (first|exact .head _|apply List.Mem.tail));first|done|fail) (hp2:.isv E v x G2∈H:=by (repeat (first|exact .head _|apply List.Mem.tail));first|done|fail):T c fr H Φ:=.mk fun ac w s g=>by
 subst hv
 obtain ⟨c1,e,hk,hf⟩:=s.get hp
 obtain rfl:ys.flatten=c1:=by simpa using e
 obtain ⟨c2,e2,hx⟩:=s.get hp2
 obtain rfl:cs=c2:=by simpa using e2
 obtain ⟨G',g1,g2⟩:=flat_setS hx hf hm hl i
 refine (h G').h ac w (s.add (N:=[.isv (EA E k) (.agg (ys.set i cs).flatten.toArray) (xs.set i x) G']) (Below.refl _ _) (by intro p hq;rw [List.mem_singleton] at hq;subst hq;exact ⟨_,rfl,by simpa using hk,g1⟩) ⟨by simp,trivial⟩ ?_) g
 intro p hq z hb
 rw [List.mem_singleton] at hq;subst hq
 rcases g2 z hb with hb|hb
 ·exact .inr ⟨rfl,_,hp,rfl,hb⟩
 ·exact .inr ⟨rfl,_,hp2,rfl,hb⟩
theorem isv_sl {α:Type} {E:Elem α} {hz:0 < E.sz} {v:Value} {x:List α} {G:List Nat} (h:∀a1 c1,v=.agg #[.slice a1 x.length c1]→x.length≤maxLen→T c fr (.sl E (.slice a1 x.length c1) x G::H) Φ) (hp:.isv (ESl E hz) v x G∈H:=by (repeat (first|exact .head _|apply List.Mem.tail));first|done|fail):T c fr H Φ:=.mk fun ac w s g=>by
 obtain ⟨cs,rfl,v1,rfl,h1⟩:=s.get hp
 obtain ⟨a1,c1,rfl⟩:=h1.slice
 exact (h a1 c1 rfl h1.len).h ac w (s.ro hp rfl rfl ⟨hz,h1⟩ fun b hb=>hb) g
theorem sl_isv {α:Type} {E:Elem α} {v:Value} {x:List α} {G:List Nat} (hz:0 < E.sz) (h:T c fr (.isv (ESl E hz) (.agg #[v]) x G::H) Φ) (hp:.sl E v x G∈H:=by (repeat (first|exact .head _|apply List.Mem.tail));first|done|fail):T c fr H Φ:=.mk fun ac w s g=>by
 obtain ⟨-,h1⟩:=s.get hp
 exact h.h ac w (s.ro hp rfl rfl ⟨[v],rfl,v,rfl,h1⟩ fun b hb=>hb) g
end
end Go.Proofs.YtgmbfohkpfineaaGreatDoor
namespace Go.Proofs.YtgmbfohkpfineaaGreatDoor
open Go.RowKit
theorem putQ_full {q ps:List Packet} {k:Nat} (h:6≤(putQ q (ps.take k)).length):putQ q (ps.take k)=putQ q ps:=by
 unfold putQ at *
 rw [List.length_append,List.length_take,List.length_take] at h
 rw [List.take_take]
 congr 1
 by_cases h6:6≤q.length
 ·rw [show min (6 - q.length) k=6 - q.length by omega]
 ·by_cases hk:6 - q.length≤k
  ·rw [show min (6 - q.length) k=6 - q.length by omega]
  ·rw [show min (6 - q.length) k=k by omega,List.take_of_length_le (by omega),List.take_of_length_le (by omega)]
theorem putQ_more {q ps:List Packet} {k:Nat} (hk:k < ps.length) (h:(putQ q (ps.take k)).length < 6):putQ q (ps.take (k+1))=putQ q (ps.take k)++[ps[k]]:=by
 rw [List.take_succ_eq_append_getElem hk,putQ_snoc]
 unfold pushQ;rw [if_pos h]
theorem l15Put_f (q ps:List Packet) (a:Option Addr) (c:Nat) (F:List Nat) (a2:Option Addr) (c2:Nat) (F2:List Nat) (hq:q.length≤1000000):Fn Tryz.prog 156 [.slice a q.length c,.slice a2 ps.length c2] [.sl EPacket (.slice a q.length c) q F,.sl EPacket (.slice a2 ps.length c2) ps F2] [] (fun (_:KA)=>True) (fun z=>.slice z.a (putQ q ps).length z.c) (fun z=>[.ow EPacket 127 (.slice z.a (putQ q ps).length z.c) (putQ q ps) z.F]):=by
 refine enter Tryz.func156 rfl Tryz.ntmps156 fun w0=>?_
 refine t_sl (E:=EPacket) (xs:=ps) ?_
 rintro _ _ e0 hn1 hn2
 refine t_each (E:=EPacket) (xs:=ps) (fun p:Packet=>p.data.size≤maxLen) (fun w cs x F h=>by obtain ⟨_,h,_⟩:=h;exact h) ?_
 intro hz
 cases e0
 refine go ?_;intros
 refine t_emp EPacket ?_
 refine go ?_;intros
 apply wO
 refine aps one_EPacket scal_EPacket fun a3 c3 F3=>?_
 rw [List.nil_append]
 refine go ?_;intros
 have e0:putQ q (ps.take 0)=q:=by unfold putQ;simp
 refine c_loopS [1,4] (fun z:KA=>[(5,.slice z.a (putQ q (ps.take z.k)).length z.c),(6,.int .i64 (z.k:Nat))]) (fun z=>[.ow EPacket 127 (.slice z.a (putQ q (ps.take z.k)).length z.c) (putQ q (ps.take z.k)) z.F]) (fun z=>z.k≤ps.length) (fun z=>ps.length - z.k) ⟨0,a3,c3,F3⟩ (Nat.zero_le _) (fun z hz0=>?_) (hf:=by dsimp only;rw [e0];exact frE) (hH:=by dsimp only;rw [e0];exact picksE)
 have hql:(putQ q (ps.take z.k)).length≤q.length+ps.length:=by unfold putQ;rw [List.length_append,List.length_take,List.length_take];omega
 have hnn:ps.length≤9223372036854775807:=by omega
 refine go ?_;intros
 refine wg_if rfl rfl (fun h1=>?_) (fun h1=>?_)
 ·have hk:z.k < ps.length:=by omega
  refine go ?_;intros
  refine c_if rfl (fun h2=>?_) (fun h2=>?_)
  ·have h6:(putQ q (ps.take z.k)).length < 6:=by omega
   have hpz:=hz _ (List.getElem_mem hk)
   refine atPacket (xs:=ps) z.k ?_
   rintro hi3 b3 o3 e3 s3
   rw [e3]
   refine go ?_;intros
   apply wO
   refine ap1 (ys:=[ps[z.k]]) (flatPacket ps[z.k] hpz) one_EPacket fun a7 c7 F7=>?_
   rw [←putQ_more hk h6]
   refine go ?_;intros
   refine n_lp ⟨z.k+1,a7,c7,F7⟩ hk (by show ps.length - (z.k+1) < ps.length - z.k;omega)
  ·rw [putQ_full (by omega)]
   refine go ?_;intros
   refine ret z trivial rfl
 ·rw [show ps.take z.k=ps from List.take_of_length_le (by omega)]
  refine go ?_;intros
  refine ret z trivial rfl
theorem putQ_six {q ps:List Packet} (h:q.length≤6):(putQ q ps).length≤6:=by unfold putQ;rw [List.length_append,List.length_take];omega
theorem mod_six {d:List (List Packet)} {i:Nat} {ps:List Packet} (h:∀q∈d,q.length≤6):∀q∈d.modify i (fun q=>putQ q ps),q.length≤6:=fun q hq=>by
 by_cases hi:i < d.length
 ·rw [modify_set hi] at hq
  rcases List.mem_or_eq_of_mem_set hq with h'|rfl
  ·exact h q h'
  ·exact putQ_six (h _ (List.getElem_mem hi))
 ·rw [modify_out hi] at hq;exact h q hq
theorem spread_six {ps:List Packet}:∀{nodes:List Int} {d:List (List Packet)},(∀q∈d,q.length≤6)→∀q∈spread d nodes ps,q.length≤6
 | [],_,h=>h
 | x::r,d,h=>by
  show ∀q∈spread (d.modify x.toNat fun q=>putQ q ps) r ps,q.length≤6
  exact spread_six (mod_six h)
structure ShZ where
 k:Nat
 ys:List (List Value)
 F:List Nat
 G:List Nat
theorem l15Spread_f (d:List (List Packet)) (nodes:List Int) (ps:List Packet) (a1 a2 a3 a4 a5 a7:Option Addr) (l1 c1 l2 c2 l3 c3 l4 c4 l5 c5 l7 c7:Nat) (w1 w2 w3 w4:Int) (a:Option Addr) (n c:Nat) (ys:List (List Value)) (F G:List Nat) (an:Option Addr) (cn:Nat) (Fn_:List Nat) (ap:Option Addr) (cp:Nat) (Fp:List Nat) (hx:∀x∈nodes,0≤x∧x.toNat < d.length) (hd:∀q∈d,q.length≤6) :
  Fn Tryz.prog 81 [.agg #[.slice a1 l1 c1,.int .i64 w1,.int .i64 w2,.slice a2 l2 c2,.int .i64 w3,.int .i64 w4,.slice a3 l3 c3,.slice a4 l4 c4,.slice a5 l5 c5,.slice a n c,.slice a7 l7 c7],.slice an nodes.length cn,.slice ap ps.length cp] [.sl EInt (.slice an nodes.length cn) nodes Fn_,.sl EPacket (.slice ap ps.length cp) ps Fp,.isv (EA (ESl EPacket (by decide)) n) (.agg (ys).flatten.toArray) d G] [.ow (EC 1) 132 (.slice a n c) ys F] (fun (_:ShZ)=>True) (fun _=>.tuple #[]) (fun z=>[.ow (EC 1) 132 (.slice a n c) z.ys z.F,.isv (EA (ESl EPacket (by decide)) n) (.agg (z.ys).flatten.toArray) (spread d nodes ps) z.G]):=by
 refine enter Tryz.func81 rfl Tryz.ntmps81 fun w0=>?_
 refine t_sl (E:=EInt) (xs:=nodes) ?_
 rintro _ _ e0 hn1 hn2
 cases e0
 refine sh_num (xs:=d) fun hdn=>?_
 refine go ?_;intros
 refine c_loopS [1,2,3] (fun z:ShZ=>[(6,.int .i64 (z.k:Nat))]) (fun z=>[.ow (EC 1) 132 (.slice a n c) z.ys z.F,.isv (EA (ESl EPacket (by decide)) n) (.agg (z.ys).flatten.toArray) (spread d (nodes.take z.k) ps) z.G]) (fun z=>z.k≤nodes.length) (fun z=>nodes.length - z.k) ⟨0,ys,F,G⟩ (Nat.zero_le _) fun z hz0=>?_
 have hsl:=spread_len ps (nodes.take z.k) d
 have hd6:=spread_six (ps:=ps) (nodes:=nodes.take z.k) hd
 refine go ?_;intros
 refine c_if rfl (fun h1=>?_) (fun h1=>?_)
 ·have hk:z.k < nodes.length:=by omega
  obtain ⟨x0,x1⟩:=hx _ (List.getElem_mem hk)
  obtain ⟨i,hi⟩:∃i:Nat,nodes[z.k]=((i:Nat):Int):=⟨nodes[z.k].toNat,by omega⟩
  have hil:i < (spread d (nodes.take z.k) ps).length:=by omega
  have hst:=spread_take (d:=d) (ps:=ps) hk
  rw [show nodes[z.k].toNat=i by omega] at hst
  unfold putAt at hst
  rw [modify_set hil] at hst
  have h6:=hd6 _ (List.getElem_mem hil)
  refine at_int (xs:=nodes) z.k ?_
  rintro hi2 b o e1
  rw [e1,hi]
  refine sh_len (ys:=z.ys) fun hm hl=>?_
  refine sh_at (ys:=z.ys) (xs:=spread d (nodes.take z.k) ps) i hm (by omega) (by omega) fun h2 h3 Gi=>?_
  refine isv_sl (x:=(spread d (nodes.take z.k) ps)[i]) fun a9 c9 e9 l9=>?_
  refine focF (E:=EC 1) (xs:=z.ys) (m:=1) (scal_EC 1) i ?_ (by repeat (first|exact .here|apply Pick.there)) rfl h2
  rintro _ g A cs B rfl k2 k3 hH
  obtain ⟨k4, -, -⟩:=k3 w0
  have e8:z.ys[i]=[.slice a9 (spread d (nodes.take z.k) ps)[i].length c9]:=by simpa using e9
  rw [e8] at k4
  subst k4
  dsimp only [List.append]
  refine go ?_;intros
  refine d_start [0,3,5] [17] ?_
  refine dt4 0 1 2 3 ?_
  refine dt4 4 5 6 7 ?_
  refine dt4 8 9 10 11 ?_
  refine dt2 12 13 ?_
  refine dt 14 ?_
  refine dN 15 ?_
  refine oC ?_
  refine cf (l15Put_f (spread d (nodes.take z.k) ps)[i] ps a9 c9 _ ap cp Fp (by omega)) fun u _=>?_
  refine t_app ?_
  refine dk ?_
  refine dt 16 ?_
  refine dN 17 ?_
  refine oS ?_
  refine dkx ?_
  refine dd ?_
  refine unfF (E:=EC 1) (xs:=z.ys) [.slice u.a (putQ (spread d (nodes.take z.k) ps)[i] ps).length u.c] hH (fun w=>⟨rfl,⟨rfl,by simp [Value.oneCell']⟩,rfl⟩) ?_
  refine t_read (E:=EPacket) (xs:=putQ (spread d (nodes.take z.k) ps)[i] ps) fun Fq=>?_
  refine sl_isv (E:=EPacket) (x:=putQ (spread d (nodes.take z.k) ps)[i] ps) (by decide) ?_
  refine sh_set (E:=ESl EPacket (by decide)) (ys:=z.ys) (xs:=spread d (nodes.take z.k) ps) (x:=putQ (spread d (nodes.take z.k) ps)[i] ps) i rfl hm (by omega) fun G'=>?_
  rw [←hst]
  refine go ?_;intros
  refine n_lp ⟨z.k+1,z.ys.set i [.slice u.a (putQ (spread d (nodes.take z.k) ps)[i] ps).length u.c],[g],G'⟩ hk (by show nodes.length - (z.k+1) < nodes.length - z.k;omega)
 ·rw [show nodes.take z.k=nodes from List.take_of_length_le (by omega)]
  refine go ?_;intros
  refine t_fall ?_
  refine ret z trivial rfl
theorem leastH_f (a b:Int):Fn Tryz.prog 286 [.int .i64 a,.int .i64 b] [] [] (fun (_:Unit)=>True) (fun _=>.int .i64 (min a b)) (fun _=>[]):=by
 refine enter Tryz.func286 rfl Tryz.ntmps286 fun w0=>?_
 refine go ?_;intros
 refine c_if rfl (fun h=>?_) (fun h=>?_)
 ·refine go ?_;intros
  rw [show min a b=a by omega]
  refine ret () trivial rfl
 ·refine go ?_;intros
  rw [show min a b=b by omega]
  refine ret () trivial rfl
theorem l13News_f (r:Receiver) (p:Packet) (d:Int) (v:Value) (F:List Nat) (hg:GoodR r) (hp:goodPk p=true) (d0:1≤d) (d1:d≤8) :
  Fn Tryz.prog 229 [v,.agg #[.int .i64 p.kind,.int .i64 p.number,.int .i64 p.trail,.int .i64 p.lead,.string p.data],.int .i64 d] [.isv EReceiver v r F] [] (fun (_:NwS)=>True) (fun s=>.tuple #[.agg #[.bool ((newsR r p d)).started,.int .i64 ((newsR r p d)).clock,.int .i64 ((newsR r p d)).window.next,.slice s.a1 ((newsR r p d)).window.slots.length s.c1,.slice s.a2 ((newsR r p d)).requests.length s.c2],.slice s.ae (newsE r p).length s.ce])
   (fun s=>[.isv EReceiver (.agg #[.bool ((newsR r p d)).started,.int .i64 ((newsR r p d)).clock,.int .i64 ((newsR r p d)).window.next,.slice s.a1 ((newsR r p d)).window.slots.length s.c1,.slice s.a2 ((newsR r p d)).requests.length s.c2]) (newsR r p d) s.F1,.ow EStr 9 (.slice s.ae (newsE r p).length s.ce) (newsE r p) s.Fe]):=by
 have k0:=hg.k0
 have k1:=hg.k1
 obtain ⟨-,q1,q2, -⟩:=areQ_iff.1 hg.q
 have hser:∀q∈r.requests,isSer q.number=true:=fun q hq=>(req_at hg hq).1
 obtain ⟨hsg, -⟩:=start_good hg hp
 obtain ⟨htg, -,htl⟩:=taken_good hg hp
 obtain ⟨hng,hnq, -,hnl⟩:=news_good hg hp d0 d1 (by omega)
 obtain ⟨s0_,s1_⟩:=next_ser hsg
 obtain ⟨w0_,w1_⟩:=next_ser htg
 obtain ⟨v0_,v1_⟩:=next_ser hng
 obtain ⟨hw8,hit⟩:=good_items hsg
 obtain ⟨hu8,hiu⟩:=good_items htg
 obtain ⟨n0,n1⟩:=goodPk_num hp
 have hrw:=(good_items hg.w).1
 have hp2:=hp
 unfold goodPk at hp2
 simp only [Bool.and_eq_true] at hp2
 obtain ⟨t0_,t1_⟩:=isSer_iff.1 hp2.1.1.1.1.2
 obtain ⟨l0_,l1_⟩:=isSer_iff.1 hp2.1.1.1.2
 have hps:p.data.size≤8:=itm_size hp2.1.1.2
 refine enter Tryz.func229 rfl Tryz.ntmps229 fun w0=>?_
 refine openReceiver (v:=v) (x:=r) (F:=F) ?_
 rintro a1 c1 F1 a2 c2 F2 rfl - -
 refine go ?_;intros
 refine cf (l13Own_f r _ F (by omega) (by omega)) fun u _=>?_
 refine t_app ?_
 refine openOReceiver ?_
 rintro a5 c5 F5 a6 c6 F6 e6 - -
 rw [e6]
 refine t_read (E:=ESlot) fun G5=>?_
 refine t_read (E:=ERequest) fun G6=>?_
 refine go ?_;intros
 rename_i g3 g4 g6 g8 g9
 refine t_emp EStr ?_
 refine c_joinS [2,4,6,8,9] [0,2,4,5] (fun _:List Nat=>[]) (fun s=>[.row g8 149 0 [] [.bool true,.int .i64 r.clock,.int .i64 (startW r p).next,.slice a5 (startW r p).slots.length c5,.slice a6 r.requests.length c6] [],.isv EReceiveWindow (.agg #[.int .i64 (startW r p).next,.slice a5 (startW r p).slots.length c5]) (startW r p) s]) (fun _=>True) ?_ fun G7 _=>?_
 ·cases hs:r.started
  ·by_cases hk:p.kind=5
   ·have e:startW r p=⟨p.lead,r.window.slots⟩:=by unfold startW;rw [hs,if_pos hk];rfl
    rw [e]
    refine go ?_;intros
    refine c_if rfl (fun _=>?_) (fun h=>absurd hk h)
    refine closeReceiveWindow (a1:=a5) ⟨p.lead,r.window.slots⟩ ?_
    refine go ?_;intros
    refine n_join G5 trivial
   ·have e:startW r p=⟨p.number,r.window.slots⟩:=by unfold startW;rw [hs,if_neg hk];rfl
    rw [e]
    refine go ?_;intros
    refine c_if rfl (fun h=>absurd h hk) (fun _=>?_)
    refine closeReceiveWindow (a1:=a5) ⟨p.number,r.window.slots⟩ ?_
    refine go ?_;intros
    refine n_join G5 trivial
  ·have e:startW r p=r.window:=by unfold startW;rw [hs];rfl
   rw [e]
   refine closeReceiveWindow (a1:=a5) r.window ?_
   refine go ?_;intros
   refine n_join G5 trivial
 repeat (first|apply c_skip|apply n_cd|apply c_seq)
 refine c_join2 [2,4,6,8] [3,4,5] (fun s:SkS=>[(9,.slice s.ae (takenE r p).length s.ce)]) (fun s=>[.row g8 149 0 [] [.bool true,.int .i64 r.clock,.int .i64 (takenW r p).next,.slice s.a (takenW r p).slots.length s.c,.slice a6 r.requests.length c6] [],.isv EReceiveWindow (.agg #[.int .i64 (takenW r p).next,.slice s.a (takenW r p).slots.length s.c]) (takenW r p) s.F,.ow EStr 9 (.slice s.ae (takenE r p).length s.ce) (takenE r p) s.Fe]) (fun _=>True) ?_ fun s _=>?_
 ·by_cases hk:p.kind=5
  ·have e1:takenW r p=startW r p:=by unfold takenW;rw [if_pos hk]
   have e2:takenE r p=[]:=by unfold takenE;rw [if_pos hk]
   rw [e1,e2]
   refine go ?_;intros
   rw [decide_eq_false (show ¬ ¬p.kind=5 from fun h=>h hk)]
   refine go ?_;intros
   refine n_join (⟨a5,c5,G7,_,_,_⟩:SkS) trivial
  ·have e1:takenW r p=takeW (startW r p) p.number p.data:=by unfold takenW;rw [if_neg hk]
   have e2:takenE r p=takeE (startW r p) p.number p.data:=by unfold takenE;rw [if_neg hk]
   rw [e1,e2]
   refine go ?_;intros
   rw [decide_eq_true (show ¬p.kind=5 from hk)]
   refine go ?_;intros
   refine cf (l10Reach_f (startW r p) p.number _ G7 s0_ s1_ n0 n1 hw8) fun _ _=>?_
   refine t_app ?_
   cases hok:takeOk (startW r p) p.number
   ·have e:(takeNo (startW r p) p.number || !decide (gp (startW r p).next p.number < 8))=true:=by unfold takeOk at hok;simp only [Bool.or_eq_false_iff] at hok;rw [hok.1,hok.2];rfl
    have e3:takeW (startW r p) p.number p.data=startW r p:=by unfold takeW;rw [if_pos e]
    have e4:takeE (startW r p) p.number p.data=[]:=by unfold takeE;rw [if_pos e]
    rw [e3,e4]
    refine go ?_;intros
    refine n_join (⟨a5,c5,G7,_,_,_⟩:SkS) trivial
   ·refine go ?_;intros
    refine cf (l10Take_f (startW r p) p.number p.data _ G7 s0_ s1_ n0 n1 hw8 hit hps hok) fun y hy=>?_
    refine t_app ?_
    obtain ⟨hy1,hy2⟩:=hy
    have hyl:y.es.length≤8:=by rw [hy2,←e2];exact htl
    refine t_read (E:=EStr) (xs:=y.es) fun G8=>?_
    refine go ?_;intros
    apply wO
    refine aps (ys:=y.es) one_EStr scal_EStr fun a9 c9 F9=>?_
    rw [List.nil_append]
    rw [←hy1,←hy2]
    refine go ?_;intros
    refine n_join (⟨y.a,y.c,y.F,_,_,_⟩:SkS) trivial
 obtain ⟨a3,c3,F3,ae,cE,Fe⟩:=s
 dsimp only
 refine go ?_;intros
 refine ce (fun w s=>l2Before_c _ _ _ (by omega) (by omega)) ?_
 refine go ?_;intros
 refine c_joinS [2,4,6,8] [3,4,5] (fun s:SkS=>[(9,.slice s.ae (newsE r p).length s.ce)]) (fun s=>[.row g8 149 0 [] [.bool true,.int .i64 r.clock,.int .i64 (newsW r p).next,.slice s.a (newsW r p).slots.length s.c,.slice a6 r.requests.length c6] [],.isv EReceiveWindow (.agg #[.int .i64 (newsW r p).next,.slice s.a (newsW r p).slots.length s.c]) (newsW r p) s.F,.ow EStr 9 (.slice s.ae (newsE r p).length s.ce) (newsE r p) s.Fe]) (fun _=>True) ?_ fun s _=>?_
 ·cases hb:bef (takenW r p).next p.trail
  ·have e1:newsW r p=takenW r p:=by show skipW _ _=_;unfold skipW;rw [hb];rfl
   have e2:newsE r p=takenE r p:=by unfold newsE skipE;rw [hb];simp
   rw [e1,e2]
   refine go ?_;intros
   refine n_join (⟨a3,c3,F3,_,_,_⟩:SkS) trivial
  refine go ?_;intros
  refine ce (fun w s=>l2Gap_c _ _ _ (by omega) (by omega)) ?_
  refine go ?_;intros
  refine c_if rfl (fun h4=>?_) (fun h4=>?_)
  ·have e1:newsW r p=movedW (takenW r p) p.trail:=by show skipW _ _=_;unfold skipW;rw [hb,if_pos rfl,if_pos h4]
   have e2:newsE r p=takenE r p++movedE (takenW r p) p.trail:=by unfold newsE skipE;rw [hb,if_pos rfl,if_pos h4]
   have hl2:=hnl
   rw [e2,List.length_append] at hl2
   refine go ?_;intros
   refine cf (l10GiveUp_f (takenW r p) p.trail _ F3 w0_ w1_ t0_ t1_ hu8 hiu) fun y hy=>?_
   refine t_app ?_
   obtain ⟨hy1,hy2⟩:=hy
   have hyl:y.es.length≤24:=by rw [hy2];show (movedE (takenW r p) p.trail).length≤24;omega
   refine t_read (E:=EStr) (xs:=y.es) fun G8=>?_
   refine go ?_;intros
   apply wO
   refine aps (ys:=y.es) one_EStr scal_EStr fun a9 c9 F9=>?_
   rw [e1,e2,show movedW (takenW r p) p.trail=y.y from hy1.symm,show movedE (takenW r p) p.trail=y.es from hy2.symm]
   refine go ?_;intros
   refine n_join (⟨y.a,y.c,y.F,_,_,_⟩:SkS) trivial
  ·have e1:newsW r p=⟨p.trail,[]⟩:=by show skipW _ _=_;unfold skipW;rw [hb,if_pos rfl,if_neg h4]
   have e2:newsE r p=takenE r p++[⟨#[33]⟩]:=by unfold newsE skipE;rw [hb,if_pos rfl,if_neg h4]
   rw [e1,e2]
   refine go ?_;intros
   apply wO
   refine ap1 (rep_str ⟨#[33]⟩ (by decide)) one_EStr fun a9 c9 F9=>?_
   refine t_nilsl ESlot (by decide) ?_
   refine closeReceiveWindow (a1:=none) ⟨p.trail,[]⟩ ?_
   refine go ?_;intros
   refine n_join (⟨none,0,_,_,_,_⟩:SkS) trivial
 obtain ⟨a7,c7,F7,ae,cE,Fe⟩:=s
 dsimp only
 refine go ?_;intros
 refine cf (l13Needed_f r.requests (newsW r p) a6 c6 G6 _ F7 (by omega) hser v0_ v1_) fun z _=>?_
 refine t_app ?_
 refine go ?_;intros
 refine ce (fun w s=>l2Before_c _ _ _ (by omega) (by omega)) ?_
 have hNq8:=(areQ_iff.1 hnq).2.1
 cases hb:bef (newsW r p).next p.lead
 ·have e1:newsR r p d=⟨true,r.clock,newsW r p,needed r.requests (newsW r p)⟩:=by unfold newsR awaitQ;rw [hb];rfl
  rw [e1]
  refine go ?_;intros
  refine t_read (E:=ERequest) (xs:=needed r.requests (newsW r p)) fun F8=>?_
  refine openReceiveWindow (x:=newsW r p) ?_
  rintro b1 dd1 G1 e5 m1
  simp only [Value.agg.injEq,Array.mk.injEq,List.cons.injEq,Value.slice.injEq,true_and,and_true] at e5
  obtain ⟨rfl,rfl⟩:=e5
  refine closeReceiver ⟨true,r.clock,newsW r p,needed r.requests (newsW r p)⟩ ?_
  refine ret ⟨_,_,_,_,_,[],_,_,_⟩ trivial rfl
 obtain ⟨k,hk⟩:∃k,k=awaitN (newsW r p) p.lead:=⟨_,rfl⟩
 have hk8:k≤8:=by rw [hk];exact awaitN_le _ _
 have hgb:=gp_bd (newsW r p).next p.lead
 have hkm:((k:Nat):Int)=min (gp (newsW r p).next p.lead) 8:=by rw [hk];unfold awaitN;omega
 obtain ⟨N,hN⟩:∃N,N=missL (newsW r p) k:=⟨_,rfl⟩
 have hNl:N.length≤8:=by have:=missL_len (newsW r p) k;rw [hN];omega
 have e1:newsR r p d=⟨true,r.clock,newsW r p,addAll (newsW r p).next (r.clock+d) (needed r.requests (newsW r p)) N⟩:=by unfold newsR awaitQ;rw [hb,if_pos rfl,hN,hk]
 rw [e1]
 have hav:=aft_bd (newsW r p).next (min (gp (newsW r p).next p.lead) 8)
 have hgp:gp (newsW r p).next (aft (newsW r p).next (min (gp (newsW r p).next p.lead) 8))=(k:Nat):=by rw [←hkm];unfold gp aft;omega
 refine go ?_;intros
 refine ce (fun w s=>l2Gap_c _ _ _ (by omega) (by omega)) ?_
 refine go ?_;intros
 refine cf (leastH_f _ _) fun _ _=>?_
 refine t_app ?_
 refine go ?_;intros
 refine ce (fun w s=>l2After_c _ _ _ (by omega) (by omega)) ?_
 refine go ?_;intros
 refine cf (l10Missing_f (newsW r p) _ k _ F7 v0_ v1_ (by omega) (by omega) hgp) fun m _=>?_
 refine t_app ?_
 rw [←hN]
 refine t_read (E:=EInt) (xs:=N) fun GN=>?_
 refine t_read (E:=ERequest) (xs:=needed r.requests (newsW r p)) fun F8=>?_
 refine go ?_;intros
 refine c_loopS [2,6,8,9,14,16] (fun s:AwS=>[(17,.int .i64 (s.i:Nat))]) (fun s=>[.row g8 149 0 [] [.bool true,.int .i64 r.clock,.int .i64 (newsW r p).next,.slice a7 (newsW r p).slots.length c7,.slice s.a (addAll (newsW r p).next (r.clock+d) (needed r.requests (newsW r p)) (N.take s.i)).length s.c] [],.sl ERequest (.slice s.a (addAll (newsW r p).next (r.clock+d) (needed r.requests (newsW r p)) (N.take s.i)).length s.c) (addAll (newsW r p).next (r.clock+d) (needed r.requests (newsW r p)) (N.take s.i)) s.F]) (fun s=>s.i≤N.length) (fun s=>N.length - s.i) ⟨0,z.1,z.2.1,F8⟩ (Nat.zero_le _) fun s hs=>?_
 obtain ⟨i,a3,c3,F3⟩:=s
 dsimp only at hs ⊢
 have hall:=addAll_good (w:=newsW r p) (u:=r.clock+d) (by omega) (by omega) (N.take i) (needed r.requests (newsW r p)) (fun n hn=>by
  have:=missL_at (w:=newsW r p) (n:=n) hk8 (by rw [←hN];exact List.mem_of_mem_take hn)
  exact ⟨this.1,this.2.2⟩) hnq needed_free
 have hLs:∀h:i < N.length,addAll (newsW r p).next (r.clock+d) (needed r.requests (newsW r p)) (N.take (i+1))=addQ (newsW r p).next (addAll (newsW r p).next (r.clock+d) (needed r.requests (newsW r p)) (N.take i)) N[i] (r.clock+d):=fun h=>addAll_succ h
 generalize hLd:addAll (newsW r p).next (r.clock+d) (needed r.requests (newsW r p)) (N.take i)=L at *
 have hLq:=hall.1
 have hL8:=(areQ_iff.1 hLq).2.1
 refine go ?_;intros
 refine c_if rfl (fun h4=>?_) (fun h4=>?_)
 ·have hi:i < N.length:=by omega
  have hni:=missL_at (w:=newsW r p) (n:=N[i]) hk8 (by rw [←hN];exact List.getElem_mem hi)
  refine at_int (xs:=N) i ?_
  rintro hi2 b o2 e
  rw [e]
  refine go ?_;intros
  refine d_start [0,1] [12] ?_
  refine dt4 0 1 2 3 ?_
  refine dt4 4 5 6 7 ?_
  refine dt2 8 9 ?_
  refine dN 10 ?_
  refine oC ?_
  refine cf (l12Add_f L (newsW r p).next N[i] r.clock d a3 c3 F3 hLq hni.1 k0 k1 d0 d1) fun u _=>?_
  refine t_app ?_
  rw [←hLs hi]
  refine dk ?_
  refine dt 11 ?_
  refine dN 12 ?_
  refine oS ?_
  refine dkx ?_
  refine dd ?_
  refine t_read (E:=ERequest) fun F9=>?_
  refine go ?_;intros
  refine n_lp (⟨i+1,_,_,_⟩:AwS) (by show i+1≤N.length;omega) (by show N.length - (i+1) < N.length - i;omega)
 have hi:i=N.length:=by omega
 subst hi
 rw [List.take_length] at hLd
 rw [hLd]
 refine go ?_;intros
 refine openReceiveWindow (x:=newsW r p) ?_
 rintro b1 dd1 G1 e5 m1
 simp only [Value.agg.injEq,Array.mk.injEq,List.cons.injEq,Value.slice.injEq,true_and,and_true] at e5
 obtain ⟨rfl,rfl⟩:=e5
 refine closeReceiver ⟨true,r.clock,newsW r p,L⟩ ?_
 refine ret ⟨_,_,_,_,_,[],_,_,_⟩ trivial rfl
theorem l13Hear_f (r:Receiver) (p:Packet) (d:Int) (v:Value) (F:List Nat) (hg:GoodR r) (hp:goodPk p=true) (d0:1≤d) (d1:d≤8) :
  Fn Tryz.prog 162 [v,.agg #[.int .i64 p.kind,.int .i64 p.number,.int .i64 p.trail,.int .i64 p.lead,.string p.data],.int .i64 d] [.isv EReceiver v r F] [] (fun (_:NwS)=>True) (fun s=>.tuple #[.agg #[.bool ((hearR r p d)).started,.int .i64 ((hearR r p d)).clock,.int .i64 ((hearR r p d)).window.next,.slice s.a1 ((hearR r p d)).window.slots.length s.c1,.slice s.a2 ((hearR r p d)).requests.length s.c2],.slice s.ae (hearE r p).length s.ce])
   (fun s=>[.isv EReceiver (.agg #[.bool ((hearR r p d)).started,.int .i64 ((hearR r p d)).clock,.int .i64 ((hearR r p d)).window.next,.slice s.a1 ((hearR r p d)).window.slots.length s.c1,.slice s.a2 ((hearR r p d)).requests.length s.c2]) (hearR r p d) s.F1,.ow EStr 9 (.slice s.ae (hearE r p).length s.ce) (hearE r p) s.Fe]):=by
 have k0:=hg.k0
 have k1:=hg.k1
 have hrw:=(good_items hg.w).1
 obtain ⟨-,q1,q2, -⟩:=areQ_iff.1 hg.q
 obtain ⟨n0,n1⟩:=goodPk_num hp
 have hkd:1≤p.kind∧p.kind≤5:=by unfold goodPk btw at hp;simp only [Bool.and_eq_true,decide_eq_true_eq] at hp;exact hp.1.1.1.1.1.1
 refine enter Tryz.func162 rfl Tryz.ntmps162 fun w0=>?_
 refine openReceiver (v:=v) (x:=r) (F:=F) ?_
 rintro a1 c1 F1 a2 c2 F2 rfl - -
 refine go ?_;intros
 by_cases hk4:p.kind=4
 ·have hn:isNews p=false:=by unfold isNews;simp [hk4]
  have eE:hearE r p=[]:=by unfold hearE;rw [hn];rfl
  rw [decide_eq_true hk4]
  cases hs:r.started
  ·have eR:hearR r p d=r:=by unfold hearR;rw [hn,hs];simp
   refine go ?_;intros
   rw [decide_eq_true hk4]
   refine go ?_;intros
   refine cf (l13Own_f r _ F (by omega) (by omega)) fun u _=>?_
   refine t_app ?_
   refine openOReceiver ?_
   rintro a5 c5 F5 a6 c6 F6 e6 - -
   rw [e6]
   refine t_read (E:=ESlot) fun G5=>?_
   refine t_read (E:=ERequest) fun G6=>?_
   refine go ?_;intros
   refine t_emp EStr ?_
   refine closeReceiver (a1:=a5) r ?_
   rw [eR,eE]
   rw [hs]
   refine ret ⟨_,_,_,_,_,[],_,_,_⟩ trivial rfl
  ·have eR:hearR r p d=confR r p:=by unfold hearR;rw [hn,hs,decide_eq_true hk4];rfl
   refine go ?_;intros
   refine cf (l13Own_f r _ F (by omega) (by omega)) fun u _=>?_
   refine t_app ?_
   refine openOReceiver ?_
   rintro a5 c5 F5 a6 c6 F6 e6 - -
   rw [e6]
   refine t_read (E:=ESlot) fun G5=>?_
   refine go ?_;intros
   refine cf (l12Confirm_f r.requests r.window.next p.number r.clock a2 c2 F2 hg.q (isSer_iff.2 ⟨n0,n1⟩) k0 k1) fun y _=>?_
   refine t_app ?_
   refine t_read (E:=ERequest) (xs:=confQ r.window.next r.requests p.number (r.clock+4)) fun G6=>?_
   refine go ?_;intros
   refine t_emp EStr ?_
   refine closeReceiver (a1:=a5) (confR r p) ?_
   rw [eR,eE]
   refine ret ⟨_,_,_,_,_,[],_,_,_⟩ trivial rfl
 rw [decide_eq_false hk4]
 refine go ?_;intros
 rw [decide_eq_false hk4]
 refine go ?_;intros
 by_cases hk3:p.kind=3
 ·have hn:isNews p=false:=by unfold isNews;simp [hk3]
  have eE:hearE r p=[]:=by unfold hearE;rw [hn];rfl
  have eR:hearR r p d=r:=by unfold hearR;rw [hn,decide_eq_false hk4];rfl
  rw [decide_eq_true hk3]
  refine go ?_;intros
  refine cf (l13Own_f r _ F (by omega) (by omega)) fun u _=>?_
  refine t_app ?_
  refine openOReceiver ?_
  rintro a5 c5 F5 a6 c6 F6 e6 - -
  rw [e6]
  refine t_read (E:=ESlot) fun G5=>?_
  refine t_read (E:=ERequest) fun G6=>?_
  refine go ?_;intros
  refine t_emp EStr ?_
  refine closeReceiver (a1:=a5) r ?_
  rw [eR,eE]
  refine ret ⟨_,_,_,_,_,[],_,_,_⟩ trivial rfl
 have hn:isNews p=true:=by
  unfold isNews
  have:p.kind=1∨p.kind=2∨p.kind=5:=by omega
  rcases this with h|h|h <;> simp [h]
 have eE:hearE r p=newsE r p:=by unfold hearE;rw [hn];rfl
 have eR:hearR r p d=newsR r p d:=by unfold hearR;rw [hn];rfl
 rw [decide_eq_false hk3,eE,eR]
 refine go ?_;intros
 refine cf (l13News_f r p d _ F hg hp d0 d1) fun s _=>?_
 refine t_app ?_
 refine go ?_;intros
 refine ret ⟨s.a1,s.c1,s.F1,s.a2,s.c2,[],s.ae,s.ce,_⟩ trivial rfl
theorem kids_rising {l:List Int} (hg:GoodT l) (i:Nat):rising 1 7 (kids l ((i:Nat):Int))=true:=by
 refine pw_rising ?_ fun z hz=>?_
 ·unfold kids kidsTo
  rw [List.pairwise_map]
  exact (List.Pairwise.filter _ List.pairwise_lt_range).imp fun h=>by omega
 ·have:=kids_behind hg hz
  have:=hg.n1
  omega
structure ShA where
 ys:List (List Value)
 F:List Nat
 G:List Nat
structure SZ where
 e:ShA
 r:ShA
 d:ShA
 u:ShA
structure JE where
 g:Nat
 b:Option Addr
 d:Nat
 F:List Nat
 a:Option Addr
 c:Nat
 G:List Nat
theorem l15Deliver_f (n:Net) (i:Nat) (p:Packet) (a1:Option Addr) (c1:Nat) (a4:Option Addr) (c4:Nat) (a5:Option Addr) (c5:Nat) (a6:Option Addr) (c6:Nat) (a7:Option Addr) (c7:Nat) (a2 a3:Option Addr) (l2 c2 l3 c3:Nat) (w1 w2 w3 w4:Int) (F1:List Nat) (z:SZ) (FT:List Nat) (hl:lensN n=true) (hi:i < n.tree.parent.length) (hi0:0 < i) (h8:GoodT n.tree.parent) (hr:leafT n.tree.parent (i:Nat)=true→goodRec (rcAt n i)=true) (he:leafT n.tree.parent (i:Nat)=false→goodElement (elAt n i)=true) (hp:goodPk p=true) (hps:p.data.size≤maxLen) (hd:∀q∈n.down,q.length≤6) :
  Fn Tryz.prog 84 [.agg #[.slice a1 n.tree.parent.length c1,.int .i64 w1,.int .i64 w2,.slice a2 l2 c2,.int .i64 w3,.int .i64 w4,.slice a3 l3 c3,.slice a4 n.tree.parent.length c4,.slice a5 n.tree.parent.length c5,.slice a6 n.tree.parent.length c6,.slice a7 n.tree.parent.length c7],.int .i64 (i:Nat),.agg #[.int .i64 (p).kind,.int .i64 (p).number,.int .i64 (p).trail,.int .i64 (p).lead,.string (p).data]] [EnvP FT,.sl EInt (.slice a1 n.tree.parent.length c1) n.tree.parent F1,.isv (EA EElement n.tree.parent.length) (.agg z.e.ys.flatten.toArray) n.elements z.e.G,.isv (EA EReceiver n.tree.parent.length) (.agg z.r.ys.flatten.toArray) n.receivers z.r.G,.isv (EA (ESl EPacket (by decide)) n.tree.parent.length) (.agg z.d.ys.flatten.toArray) n.down z.d.G,.isv (EA (ESl EPacket (by decide)) n.tree.parent.length) (.agg z.u.ys.flatten.toArray) n.up z.u.G] [.ow (EC 2) 142 (.slice a4 n.tree.parent.length c4) z.e.ys z.e.F,.ow (EC 5) 149 (.slice a5 n.tree.parent.length c5) z.r.ys z.r.F,.ow (EC 1) 132 (.slice a6 n.tree.parent.length c6) z.d.ys z.d.F,.ow (EC 1) 132 (.slice a7 n.tree.parent.length c7) z.u.ys z.u.F] (fun (_:SZ × KA)=>True) (fun y=>.slice y.2.a (delivN n i p).2.length y.2.c) (fun y=>[.ow (EC 2) 142 (.slice a4 n.tree.parent.length c4) y.1.e.ys y.1.e.F,.ow (EC 5) 149 (.slice a5 n.tree.parent.length c5) y.1.r.ys y.1.r.F,.ow (EC 1) 132 (.slice a6 n.tree.parent.length c6) y.1.d.ys y.1.d.F,.ow (EC 1) 132 (.slice a7 n.tree.parent.length c7) y.1.u.ys y.1.u.F,.isv (EA EElement n.tree.parent.length) (.agg y.1.e.ys.flatten.toArray) (delivN n i p).1.elements y.1.e.G,.isv (EA EReceiver n.tree.parent.length) (.agg y.1.r.ys.flatten.toArray) (delivN n i p).1.receivers y.1.r.G,.isv (EA (ESl EPacket (by decide)) n.tree.parent.length) (.agg y.1.d.ys.flatten.toArray) (delivN n i p).1.down y.1.d.G,.isv (EA (ESl EPacket (by decide)) n.tree.parent.length) (.agg y.1.u.ys.flatten.toArray) (delivN n i p).1.up y.1.u.G,.ow EStr 9 (.slice y.2.a (delivN n i p).2.length y.2.c) (delivN n i p).2 y.2.F]):=by
 obtain ⟨q1,q2,q3,q4⟩:=lensN_iff.1 hl
 have hn8:=h8.n1
 obtain ⟨d0,d1_⟩:=dly_bd (i:=i)
 refine enter Tryz.func84 rfl Tryz.ntmps84 fun w0=>?_
 refine closeTree n.tree ?_
 refine go ?_;intros
 refine cf (l15Leaf_f n.tree ((i:Nat):Int) _ F1 h8 (by omega)) fun _ _=>?_
 refine t_app ?_
 cases hlf:leafT n.tree.parent (i:Nat)
 rotate_left
 ·have hir:i < n.receivers.length:=by omega
  have hgr:=goodR_iff.1 (rcAt_get hir▸hr hlf)
  have hev:=(hear_good (d:=dly i) hgr hp d0 d1_).2
  rw [show delivN n i p=(⟨n.tree,n.source,n.elements,n.receivers.set i (hearR n.receivers[i] p (dly i)),n.down,n.up⟩,tell i (hearE n.receivers[i] p)) by unfold delivN;rw [if_pos hlf,rcAt_get hir]]
  refine go ?_;intros
  refine sh_len (ys:=z.r.ys) fun hm hlr=>?_
  refine sh_atv (E:=EReceiver) (ys:=z.r.ys) (xs:=n.receivers) i hm (by omega) (by omega) fun h2 h3 v Gi ev=>?_
  refine openReceiver (v:=v) (x:=n.receivers[i]) ?_
  rintro b1 d1 G1 b2 d2 G2 rfl l1 l2
  have e8:z.r.ys[i]=[.bool (n.receivers[i]).started,.int .i64 (n.receivers[i]).clock,.int .i64 (n.receivers[i]).window.next,.slice b1 (n.receivers[i]).window.slots.length d1,.slice b2 (n.receivers[i]).requests.length d2]:=by simpa using ev.symm
  refine focF (E:=EC 5) (xs:=z.r.ys) (m:=5) (scal_EC 5) i ?_ (by repeat (first|exact .here|apply Pick.there)) rfl h2
  rintro _ g A cs B rfl k2 k3 hH
  obtain ⟨k4, -, -⟩:=k3 w0
  rw [e8] at k4
  subst k4
  dsimp only [List.append]
  refine go ?_;intros
  refine c_joinS [1,3,5,6] [0,1,2,3,4,5,6,7,8,9,10,11,12,13,14,15] (fun w:Nat × NwS=>[(7,ptr w.1 0 0),(8,.slice w.2.ae (hearE n.receivers[i] p).length w.2.ce)]) (fun w=>[.row w.1 149 0 [] [.bool (hearR n.receivers[i] p (dly i)).started,.int .i64 (hearR n.receivers[i] p (dly i)).clock,.int .i64 (hearR n.receivers[i] p (dly i)).window.next,.slice w.2.a1 (hearR n.receivers[i] p (dly i)).window.slots.length w.2.c1,.slice w.2.a2 (hearR n.receivers[i] p (dly i)).requests.length w.2.c2] [],.isv EReceiver (.agg #[.bool (hearR n.receivers[i] p (dly i)).started,.int .i64 (hearR n.receivers[i] p (dly i)).clock,.int .i64 (hearR n.receivers[i] p (dly i)).window.next,.slice w.2.a1 (hearR n.receivers[i] p (dly i)).window.slots.length w.2.c1,.slice w.2.a2 (hearR n.receivers[i] p (dly i)).requests.length w.2.c2]) (hearR n.receivers[i] p (dly i)) w.2.F1,.ow EStr 9 (.slice w.2.ae (hearE n.receivers[i] p).length w.2.ce) (hearE n.receivers[i] p) w.2.Fe]) (fun _=>True) ?_ fun w _=>?_
  ·skip
   refine d_start [0,4,5] [] ?_
   refine dt4 0 1 2 3 ?_
   refine dt2 4 5 ?_
   refine dt 6 ?_
   refine dM 7 12 ?_ ?_
   ·refine oC ?_
    refine cf (l15Delay_f i (by omega)) fun _ _=>?_
    refine t_app ?_
    refine dk ?_
    refine dM 8 12 ?_ ?_
    ·refine oC ?_
     refine cf (l13Hear_f n.receivers[i] p (dly i) _ Gi hgr hp d0 d1_) fun s _=>?_
     refine t_app ?_
     refine dk ?_
     refine dt2 9 10 ?_
     refine dt 11 ?_
     refine dN 12 ?_
     apply o_alloc;rfl;intro _
     refine dk ?_
     refine dN 13 ?_
     refine oS ?_
     refine dk ?_
     refine dt 14 ?_
     refine dd ?_
     refine n_join (⟨_,s⟩:Nat × NwS) trivial
    ·apply o_alloc;rfl;intro _
     refine dk ?_
     refine dN 8 ?_
     refine oC ?_
     refine cf (l13Hear_f n.receivers[i] p (dly i) _ Gi hgr hp d0 d1_) fun s _=>?_
     refine t_app ?_
     refine dk ?_
     refine dt2 9 10 ?_
     refine dt 11 ?_
     refine dN 13 ?_
     refine oS ?_
     refine dk ?_
     refine dt 14 ?_
     refine dd ?_
     refine n_join (⟨_,s⟩:Nat × NwS) trivial
   ·apply o_alloc;rfl;intro _
    refine dk ?_
    refine dN 7 ?_
    refine oC ?_
    refine cf (l15Delay_f i (by omega)) fun _ _=>?_
    refine t_app ?_
    refine dk ?_
    refine dN 8 ?_
    refine oC ?_
    refine cf (l13Hear_f n.receivers[i] p (dly i) _ Gi hgr hp d0 d1_) fun s _=>?_
    refine t_app ?_
    refine dk ?_
    refine dt2 9 10 ?_
    refine dt 11 ?_
    refine dN 13 ?_
    refine oS ?_
    refine dk ?_
    refine dt 14 ?_
    refine dd ?_
    refine n_join (⟨_,s⟩:Nat × NwS) trivial
  obtain ⟨gr,s⟩:=w
  dsimp only
  refine goN ?_;intros
  refine unfF (E:=EC 5) (xs:=z.r.ys) [.bool (hearR n.receivers[i] p (dly i)).started,.int .i64 (hearR n.receivers[i] p (dly i)).clock,.int .i64 (hearR n.receivers[i] p (dly i)).window.next,.slice s.a1 (hearR n.receivers[i] p (dly i)).window.slots.length s.c1,.slice s.a2 (hearR n.receivers[i] p (dly i)).requests.length s.c2] hH (fun w=>⟨rfl,⟨rfl,by simp [Value.oneCell']⟩,rfl⟩) ?_
  refine sh_set (E:=EReceiver) (ys:=z.r.ys) (xs:=n.receivers) (x:=hearR n.receivers[i] p (dly i)) i rfl hm (by omega) fun G'=>?_
  refine t_read (E:=EStr) (xs:=hearE n.receivers[i] p) fun Fq=>?_
  refine go ?_;intros
  refine cf (l15Tell_f i (hearE n.receivers[i] p) _ _ Fq FT (by omega) (by omega) (hearE_size hgr hp)) fun u _=>?_
  refine t_app ?_
  refine go ?_;intros
  refine ret (⟨z.e,⟨z.r.ys.set i [.bool (hearR n.receivers[i] p (dly i)).started,.int .i64 (hearR n.receivers[i] p (dly i)).clock,.int .i64 (hearR n.receivers[i] p (dly i)).window.next,.slice s.a1 (hearR n.receivers[i] p (dly i)).window.slots.length s.c1,.slice s.a2 (hearR n.receivers[i] p (dly i)).requests.length s.c2],[g],G'⟩,z.d,z.u⟩,u) trivial rfl
 ·have hir:i < n.elements.length:=by omega
  have hge:goodElement n.elements[i]=true:=elAt_get hir▸he hlf
  have hel:=(goodE_iff.1 hge).2.1
  have hkl:=kids_len n.tree.parent ((i:Nat):Int)
  have hkx:∀x∈kids n.tree.parent ((i:Nat):Int),0≤x∧x.toNat < n.down.length:=fun x hx=>by have:=kids_behind h8 hx;omega
  have hri:=kids_rising h8 i
  refine go ?_;intros
  refine cf (l6Children_f n.tree ((i:Nat):Int) _ F1 (kids_zero h8.z (by omega)) ⟨by omega,by omega⟩) fun u _=>?_
  refine t_app ?_
  refine t_read (E:=EInt) (xs:=kids n.tree.parent ((i:Nat):Int)) fun Fk=>?_
  refine go ?_;intros
  refine c_if rfl (fun hk=>?_) (fun hk=>?_)
  ·rw [show delivN n i p=(⟨n.tree,n.source,n.elements.set i (repE n.elements[i] p.number),n.receivers,spread n.down (facE n.elements[i] p.number (kids n.tree.parent ((i:Nat):Int))) [p],n.up⟩,[]) by unfold delivN facN kidsN;rw [if_neg (by rw [hlf];decide),if_pos hk,if_pos hk,elAt_get hir]]
   rw [←facS_eq hge hri]
   refine go ?_;intros
   refine sh_len (ys:=z.e.ys) fun hm hlr=>?_
   refine sh_atv (E:=EElement) (ys:=z.e.ys) (xs:=n.elements) i hm (by omega) (by omega) fun h2 h3 v Gi ev=>?_
   refine openElement (v:=v) (x:=n.elements[i]) ?_
   rintro b1 d1 G1 rfl l1
   have e8:z.e.ys[i]=[.int .i64 n.elements[i].clock,.slice b1 n.elements[i].entries.length d1]:=by simpa using ev.symm
   refine focF (E:=EC 2) (xs:=z.e.ys) (m:=2) (scal_EC 2) i ?_ (by repeat (first|exact .here|apply Pick.there)) rfl h2
   rintro _ g A cs B rfl k2 k3 hH
   obtain ⟨k4, -, -⟩:=k3 w0
   rw [e8] at k4
   subst k4
   dsimp only [List.append]
   refine go ?_;intros
   refine c_joinS [1,3,5,6,9] [0,1,2,3,4,5,6,7,8,9,10,11,12,13,14,15] (fun w:JE=>[(10,ptr w.g 0 0),(11,.slice w.a (facS n.elements[i] p.number (kids n.tree.parent ((i:Nat):Int))).length w.c)]) (fun w=>[.row w.g 142 0 [] [.int .i64 (repE n.elements[i] p.number).clock,.slice w.b (repE n.elements[i] p.number).entries.length w.d] [],.isv EElement (.agg #[.int .i64 (repE n.elements[i] p.number).clock,.slice w.b (repE n.elements[i] p.number).entries.length w.d]) (repE n.elements[i] p.number) w.F,.ow EInt 3 (.slice w.a (facS n.elements[i] p.number (kids n.tree.parent ((i:Nat):Int))).length w.c) (facS n.elements[i] p.number (kids n.tree.parent ((i:Nat):Int))) w.G]) (fun _=>True) ?_ fun w _=>?_
   ·skip
    refine d_start [0,4,5] [] ?_
    refine dt4 0 1 2 3 ?_
    refine dt4 4 5 6 7 ?_
    refine dM 8 12 ?_ ?_
    ·refine oC ?_
     refine cf (l14Repair_f n.elements[i] p.number (kids n.tree.parent ((i:Nat):Int)) _ Gi u.a u.c Fk (by omega) (fun x hx=>by have:=faces_len hge hx;omega) (by omega)) fun s _=>?_
     refine t_app ?_
     refine openOElement ?_
     rintro b3 d3 G3 es l3
     rw [es]
     refine closeOElement (repE n.elements[i] p.number) ?_
     refine t_weakI weak_Element fun Fe=>?_
     refine dk ?_
     refine dt2 9 10 ?_
     refine dt 11 ?_
     refine dN 12 ?_
     apply o_alloc;rfl;intro _
     refine dk ?_
     refine dN 13 ?_
     refine oS ?_
     refine dk ?_
     refine dt 14 ?_
     refine dd ?_
     refine n_join (⟨_,b3,d3,Fe,s.a,s.c,s.G⟩:JE) trivial
    ·apply o_alloc;rfl;intro _
     refine dk ?_
     refine dN 8 ?_
     refine oC ?_
     refine cf (l14Repair_f n.elements[i] p.number (kids n.tree.parent ((i:Nat):Int)) _ Gi u.a u.c Fk (by omega) (fun x hx=>by have:=faces_len hge hx;omega) (by omega)) fun s _=>?_
     refine t_app ?_
     refine openOElement ?_
     rintro b3 d3 G3 es l3
     rw [es]
     refine closeOElement (repE n.elements[i] p.number) ?_
     refine t_weakI weak_Element fun Fe=>?_
     refine dk ?_
     refine dt2 9 10 ?_
     refine dt 11 ?_
     refine dN 13 ?_
     refine oS ?_
     refine dk ?_
     refine dt 14 ?_
     refine dd ?_
     refine n_join (⟨_,b3,d3,Fe,s.a,s.c,s.G⟩:JE) trivial
   refine goN ?_;intros
   refine unfF (E:=EC 2) (xs:=z.e.ys) [.int .i64 (repE n.elements[i] p.number).clock,.slice w.b (repE n.elements[i] p.number).entries.length w.d] hH (fun _=>⟨rfl,⟨rfl,by simp [Value.oneCell']⟩,rfl⟩) ?_
   refine sh_set (E:=EElement) (ys:=z.e.ys) (xs:=n.elements) (x:=repE n.elements[i] p.number) i rfl hm (by omega) fun G'=>?_
   refine t_read (E:=EInt) (xs:=facS n.elements[i] p.number (kids n.tree.parent ((i:Nat):Int))) fun Fk2=>?_
   refine t_row (E:=EPacket) (xs:=[p]) (flatPacket p hps) ?_ (by simp)
   refine t_read (E:=EPacket) (xs:=[p]) fun Fp=>?_
   refine go ?_;intros
   refine cf (l15Spread_f n.down (facS n.elements[i] p.number (kids n.tree.parent ((i:Nat):Int))) [p] _ _ _ _ _ _ _ _ _ _ _ _ _ _ _ _ _ _ _ _ _ _ _ _ _ z.d.ys z.d.F z.d.G _ _ Fk2 _ _ Fp (by rw [facS_eq hge hri];exact fun x hx=>hkx x (facE_sub x hx)) hd) fun y _=>?_
   refine t_app ?_
   refine go ?_;intros
   refine t_emp EStr ?_
   refine go ?_;intros
   refine ret (⟨⟨z.e.ys.set i [.int .i64 (repE n.elements[i] p.number).clock,.slice w.b (repE n.elements[i] p.number).entries.length w.d],[g],G'⟩,z.r,⟨y.ys,y.F,y.G⟩,z.u⟩,⟨0,_,_,_⟩) trivial rfl
  ·rw [show delivN n i p=(⟨n.tree,n.source,n.elements,n.receivers,spread n.down (kids n.tree.parent ((i:Nat):Int)) [p],n.up⟩,[]) by unfold delivN facN kidsN;rw [if_neg (by rw [hlf];decide),if_neg hk,if_neg hk]]
   refine goN ?_;intros
   refine t_row (E:=EPacket) (xs:=[p]) (flatPacket p hps) ?_ (by simp)
   refine t_read (E:=EPacket) (xs:=[p]) fun Fp=>?_
   refine go ?_;intros
   refine cf (l15Spread_f n.down (kids n.tree.parent ((i:Nat):Int)) [p] _ _ _ _ _ _ _ _ _ _ _ _ _ _ _ _ _ _ _ _ _ _ _ _ _ z.d.ys z.d.F z.d.G _ _ Fk _ _ Fp hkx hd) fun w _=>?_
   refine t_app ?_
   refine go ?_;intros
   refine t_emp EStr ?_
   refine go ?_;intros
   refine ret (⟨z.e,z.r,⟨w.ys,w.F,w.G⟩,z.u⟩,⟨0,_,_,_⟩) trivial rfl
structure RjS where
 g:Nat
 a:Option Addr
 c:Nat
 a2:Option Addr
 c2:Nat
 F:List Nat
structure CpS3 where
 a:Option Addr
 c:Nat
 F:List Nat
theorem l11Hold_f (x:Source) (n:Int) (v:Value) (F:List Nat) (t0:0≤x.window.trail) (t1:x.window.trail≤65535) (hm:x.holds.length≤1000) (hn:wideH x.holds) (n0:-1≤n) (n1:n≤65536) :
  Fn Tryz.prog 232 [v,.int .i64 n] [.isv ESource v x F] [] (fun (_:Unit)=>True) (fun _=>.tuple #[.int .i64 (holdAt x.window.trail x.holds n:Nat),.bool (thereB x.window.trail x.holds n)]) (fun _=>[]):=by
 refine enter Tryz.func232 rfl Tryz.ntmps232 fun w0=>?_
 refine openSource ?_
 rintro a1 c1 F1 a2 c2 F2 rfl l1 l2
 refine go ?_;intros
 refine c_loopR [1,2,4,5] (fun k:Nat=>[(6,.int .i64 (k:Nat))]) (fun k=>k≤x.holds.length∧∀j (_:j < k) (h:j < x.holds.length),gp x.window.trail x.holds[j].number < gp x.window.trail n) (fun k=>x.holds.length - k) 0 ⟨Nat.zero_le _,fun j h=>by omega⟩ fun k hk=>?_
 obtain ⟨hk1,hk2⟩:=hk
 by_cases hlt:k < x.holds.length
 ·obtain ⟨m0,m1⟩:=hn x.holds[k] (List.getElem_mem hlt)
  refine atHold (xs:=x.holds) k ?_
  rintro hi b o e
  rw [e]
  refine go ?_;intros
  refine d_start [0,1] [] ?_
  refine dt4 0 1 2 3 ?_
  refine dt 4 ?_
  rw [decide_eq_true (show (k:Int) < x.holds.length by omega)]
  refine dt 5 ?_
  refine dtg 6 ?_
  refine dtg 7 ?_
  refine dtg 8 ?_
  refine dtg 9 ?_
  refine dtg 10 ?_
  refine dtg 11 ?_
  refine dtg 12 ?_
  refine dtg 13 ?_
  refine dtg 14 ?_
  refine dtg 16 ?_
  refine dtg 17 ?_
  refine dtg 18 ?_
  refine dtg 19 ?_
  refine d1g 15 ?_
  apply On.h
  refine oC ?_
  refine ce (fun w s=>l2Gap_c _ _ _ (by omega) (by omega)) ?_
  refine dk ?_
  refine d1g 20 ?_
  apply On.h
  refine oC ?_
  refine ce (fun w s=>l2Gap_c _ _ _ (by omega) (by omega)) ?_
  refine dk ?_
  refine dtg 21 ?_
  refine dt 22 ?_
  refine dd ?_
  refine go ?_;intros
  refine c_if rfl (fun h=>?_) (fun h=>?_)
  ·refine go ?_;intros
   refine n_lp (k+1) ⟨hlt,fun j hj hh=>?_⟩ (by omega)
   rcases Nat.lt_or_eq_of_le (Nat.lt_succ_iff.1 hj) with h2|rfl
   ·exact hk2 j h2 hh
   ·exact h
  ·have hh:holdAt x.window.trail x.holds n=k:=tw_len hk1 (fun j hj h=>decide_eq_true (hk2 j hj h)) (fun _=>decide_eq_false h)
   have ht:thereB x.window.trail x.holds n=decide (x.holds[k].number=n):=by unfold thereB;rw [hh,List.getElem?_eq_getElem hlt]
   rw [ht,hh]
   refine go ?_;intros
   refine d_start [0,1] [] ?_
   refine dt4 0 1 2 3 ?_
   refine dt2 4 5 ?_
   rw [decide_eq_true (show (k:Int) < x.holds.length by omega)]
   refine dt 6 ?_
   refine dtg 7 ?_
   refine dtg 8 ?_
   refine dtg 9 ?_
   refine dtg 10 ?_
   refine dtg 11 ?_
   refine dtg 12 ?_
   refine dtg 13 ?_
   refine dtg 14 ?_
   refine dt2 15 16 ?_
   refine dt 17 ?_
   refine dd ?_
   refine go ?_;intros
   refine ret () trivial rfl
 ·have hh:holdAt x.window.trail x.holds n=k:=tw_len hk1 (fun j hj h=>decide_eq_true (hk2 j hj h)) (fun h=>absurd h hlt)
  have ht:thereB x.window.trail x.holds n=false:=by unfold thereB;rw [hh,List.getElem?_eq_none (by omega)]
  rw [ht,hh]
  refine go ?_;intros
  refine d_start [0] [] ?_
  refine dt4 0 1 2 3 ?_
  refine dt 4 ?_
  rw [decide_eq_false (show ¬(k:Int) < x.holds.length by omega)]
  refine dt 5 ?_
  refine ds 6 ?_
  refine ds 7 ?_
  refine ds 8 ?_
  refine ds 9 ?_
  refine ds 10 ?_
  refine ds 11 ?_
  refine ds 12 ?_
  refine ds 13 ?_
  refine ds 14 ?_
  refine ds 15 ?_
  refine ds 16 ?_
  refine ds 17 ?_
  refine ds 18 ?_
  refine ds 19 ?_
  refine ds 20 ?_
  refine ds 21 ?_
  refine dt 22 ?_
  refine dd ?_
  refine go ?_;intros
  refine d_start [0] [] ?_
  refine dt4 0 1 2 3 ?_
  refine dt2 4 5 ?_
  rw [decide_eq_false (show ¬(k:Int) < x.holds.length by omega)]
  refine dt 6 ?_
  refine ds 7 ?_
  refine ds 8 ?_
  refine ds 9 ?_
  refine ds 10 ?_
  refine ds 11 ?_
  refine ds 12 ?_
  refine ds 13 ?_
  refine ds 14 ?_
  refine dt2 15 16 ?_
  refine dt 17 ?_
  refine dd ?_
  refine go ?_;intros
  refine ret () trivial rfl
theorem l11RequestU_f (x:Source) (p:Packet) (v:Value) (F:List Nat) (t0:0≤x.window.trail) (t1:x.window.trail≤65535) (hl:x.window.items.length≤6) (k0:0≤x.clock) (k1:x.clock≤99999) (hm:x.holds.length≤900) (hn:wideH x.holds) (n0:-1≤p.number) (n1:p.number≤65536) (hps:p.data.size≤maxLen) (hans:(resAnswer x.window p).1.data.size≤maxLen) :
  Fn Tryz.prog 164 [v,.agg #[.int .i64 p.kind,.int .i64 p.number,.int .i64 p.trail,.int .i64 p.lead,.string p.data]] [.isv ESource v x F] [] (fun (_:TiS)=>True) (fun s=>.tuple #[.agg #[.int .i64 (reqSU x p.number).window.trail,.int .i64 (reqSU x p.number).window.size,.slice s.a (reqSU x p.number).window.items.length s.c,.int .i64 (reqSU x p.number).clock,.int .i64 (reqSU x p.number).quiet,.slice s.a2 (reqSU x p.number).holds.length s.c2],.slice s.ae (reqP x p).length s.ce])
   (fun s=>[.isv ESource (.agg #[.int .i64 (reqSU x p.number).window.trail,.int .i64 (reqSU x p.number).window.size,.slice s.a (reqSU x p.number).window.items.length s.c,.int .i64 (reqSU x p.number).clock,.int .i64 (reqSU x p.number).quiet,.slice s.a2 (reqSU x p.number).holds.length s.c2]) (reqSU x p.number) s.F,.ow EPacket 127 (.slice s.ae (reqP x p).length s.ce) (reqP x p) s.Fe]):=by
 refine enter Tryz.func164 rfl Tryz.ntmps164 fun w0=>?_
 refine openSource ?_
 rintro a1 c1 F1 a2 c2 F2 rfl l1 l2
 refine closeSendWindow x.window (a1:=a1) ?_
 generalize F1=F3
 refine go ?_;intros
 refine c_joinS [2,3,4,5] [0,1,2,3,4,5,6] (fun s:RjS=>[(6,ptr s.g 0 0)]) (fun s=>[.row s.g 44 0 [] [.int .i64 x.window.trail,.int .i64 x.window.size,.slice s.a x.window.items.length s.c,.int .i64 x.clock,.int .i64 x.quiet,.slice s.a2 (keepU x.window x.clock x.holds).length s.c2] [],.isv ESource (.agg #[.int .i64 x.window.trail,.int .i64 x.window.size,.slice s.a x.window.items.length s.c,.int .i64 x.clock,.int .i64 x.quiet,.slice s.a2 (keepU x.window x.clock x.holds).length s.c2]) (withU x x.window) s.F]) (fun _=>True) ?_ fun s _=>?_
 ·refine goN ?_;intros
  refine d_start [1,2] [] ?_
  refine dt2 0 1 ?_
  refine dt 2 ?_
  refine dM 3 5 ?_ ?_
  ·refine oC ?_
   refine cf (l9Drop0_f x.window _ F3 t0 t1 (by omega)) fun y _=>?_
   refine t_app ?_
   refine openOSendWindow ?_
   rintro a5 c5 F5 e5 l5
   rw [e5]
   refine t_read (xs:=x.window.items) fun F8=>?_
   refine closeSendWindow x.window (a1:=a5) ?_
   refine dk ?_
   refine dM 4 5 ?_ ?_
   ·refine oC ?_
    refine cf (l11WithU_f x x.window _ _ F _ t0 t1 (by omega) hn) fun z _=>?_
    refine t_app ?_
    refine dk ?_
    refine dN 5 ?_
    apply o_alloc;rfl;intro _
    refine dk ?_
    refine dN 6 ?_
    refine oS ?_
    refine dk ?_
    refine dd ?_
    refine go ?_;intros
    refine n_join (⟨_,z.a,z.c,z.a2,z.c2,z.F⟩:RjS) trivial
   ·apply o_alloc;rfl;intro _
    refine dk ?_
    refine dN 4 ?_
    refine oC ?_
    refine cf (l11WithU_f x x.window _ _ F _ t0 t1 (by omega) hn) fun z _=>?_
    refine t_app ?_
    refine dk ?_
    refine dN 6 ?_
    refine oS ?_
    refine dk ?_
    refine dd ?_
    refine go ?_;intros
    refine n_join (⟨_,z.a,z.c,z.a2,z.c2,z.F⟩:RjS) trivial
  ·apply o_alloc;rfl;intro _
   refine dk ?_
   refine dN 3 ?_
   refine oC ?_
   refine cf (l9Drop0_f x.window _ F3 t0 t1 (by omega)) fun y _=>?_
   refine t_app ?_
   refine openOSendWindow ?_
   rintro a5 c5 F5 e5 l5
   rw [e5]
   refine t_read (xs:=x.window.items) fun F8=>?_
   refine closeSendWindow x.window (a1:=a5) ?_
   refine dk ?_
   refine dN 4 ?_
   refine oC ?_
   refine cf (l11WithU_f x x.window _ _ F _ t0 t1 (by omega) hn) fun z _=>?_
   refine t_app ?_
   refine dk ?_
   refine dN 6 ?_
   refine oS ?_
   refine dk ?_
   refine dd ?_
   refine go ?_;intros
   refine n_join (⟨_,z.a,z.c,z.a2,z.c2,z.F⟩:RjS) trivial
 refine go ?_;intros
 refine cb (fun w st=>(l9HeldW_f x.window p.number _ F3 t0 t1 n0 n1).val w (hol1 (st.get (p:=.isv ESendWindow (.agg #[.int .i64 x.window.trail,.int .i64 x.window.size,.slice a1 x.window.items.length c1]) x.window F3) (by simp)))) ?_
 cases hb:heldB x.window p.number
 ·have e1:reqSU x p.number=withU x x.window:=by unfold reqSU;rw [hb];rfl
  have e2:reqP x p=[statP x.window]:=by unfold reqP;rw [hb];rfl
  rw [e1,e2]
  refine go ?_;intros
  refine d_start [0,4] [] ?_
  refine dt2 0 1 ?_
  refine dt 2 ?_
  refine dN 3 ?_
  refine oC ?_
  refine cf (l9Status_f x.window.trail x.window.size _ x.window.items.length _ t0 t1 (by omega)) fun _ _=>?_
  refine t_app ?_
  refine dk ?_
  refine dM 4 5 ?_ ?_
  ·apply o_bs;rfl;rfl;rfl;rfl;exact rptE;exact filE;intro _
   refine dk ?_
   refine dN 5 ?_
   refine oS ?_
   refine dk ?_
   refine dt 6 ?_
   refine dd ?_
   refine go ?_;intros
   refine t_row (xs:=[statP x.window]) (flatPacket _ (by show (⟨#[]⟩:ByteArray).size≤maxLen;decide)) ?_ (by simp)
   refine ret ⟨s.a,s.c,s.a2,s.c2,s.F,_,_,_⟩ trivial rfl
  ·refine oS ?_
   refine dk ?_
   refine dN 4 ?_
   apply o_bs;rfl;rfl;rfl;rfl;exact rptE;exact filE;intro _
   refine dk ?_
   refine dt 6 ?_
   refine dd ?_
   refine go ?_;intros
   refine t_row (xs:=[statP x.window]) (flatPacket _ (by show (⟨#[]⟩:ByteArray).size≤maxLen;decide)) ?_ (by simp)
   refine ret ⟨s.a,s.c,s.a2,s.c2,s.F,_,_,_⟩ trivial rfl
 refine go ?_;intros
 refine d_start [3,4] [] ?_
 refine dt4 0 1 2 3 ?_
 refine dt2 4 5 ?_
 refine dt 6 ?_
 refine dN 7 ?_
 refine oC ?_
 refine cb (fun w _=>l9Lead_c _ _ _ _ _ w t0 t1 (by omega)) ?_
 refine dk ?_
 refine dt 8 ?_
 refine dN 9 ?_
 apply o_bs;rfl;rfl;rfl;rfl;exact rptE;exact filE;intro _
 refine dk ?_
 refine dt 10 ?_
 refine dd ?_
 refine goN ?_;intros
 refine t_row (xs:=[confP x.window p.number]) (flatPacket _ (by show (⟨#[]⟩:ByteArray).size≤maxLen;decide)) ?_ (by simp)
 refine go ?_;intros
 refine cf (l11Hold_f x p.number _ F t0 t1 (by omega) hn n0 n1) fun _ _=>?_
 refine t_app ?_
 cases ht:thereB x.window.trail x.holds p.number
 ·have e1:reqSU x p.number=⟨x.window,x.clock,x.quiet,(addHold x.holds (holdAt x.window.trail x.holds p.number) ⟨p.number,x.clock+3⟩)⟩:=by unfold reqSU;rw [hb,ht];rfl
  have e2:reqP x p=[confP x.window p.number]++[(resAnswer x.window p).1]:=by unfold reqP;rw [hb,ht];rfl
  rw [e1,e2]
  have hkk:=holdAt_le x.window.trail x.holds p.number
  refine t_sl (E:=EHold) (xs:=x.holds) ?_
  rintro _ _ e8 q1 q2
  cases e8
  refine go ?_;intros
  refine cb (fun w st=>(specAnswerTo_f x.window p _ F3 hps).val w (hol1 (st.get (p:=.isv ESendWindow (.agg #[.int .i64 x.window.trail,.int .i64 x.window.size,.slice a1 x.window.items.length c1]) x.window F3) (by simp)))) ?_
  refine go ?_;intros
  refine t_rtake (E:=EHold) (xs:=x.holds) (holdAt x.window.trail x.holds p.number) (fun FT=>?_) hkk
  obtain ⟨T1,hT1⟩:∃T1,T1=x.holds.take (holdAt x.window.trail x.holds p.number):=⟨_,rfl⟩
  have hT1l:T1.length=holdAt x.window.trail x.holds p.number:=by rw [hT1,List.length_take];omega
  rw [←hT1]
  have hAdd:T1++[⟨p.number,x.clock+3⟩]++x.holds.drop (holdAt x.window.trail x.holds p.number)=(addHold x.holds (holdAt x.window.trail x.holds p.number) ⟨p.number,x.clock+3⟩):=by rw [hT1];unfold addHold;simp
  refine c_joinS [4,5,6,7,10] [0,1,2,3,5,6,7,8,9,10,11,12] (fun _:CpS3=>[]) (fun z=>[.row s.g 44 0 [] [.int .i64 x.window.trail,.int .i64 x.window.size,.slice s.a x.window.items.length s.c,.int .i64 x.clock,.int .i64 x.quiet,.slice z.a (addHold x.holds (holdAt x.window.trail x.holds p.number) ⟨p.number,x.clock+3⟩).length z.c] [],.ow EHold 194 (.slice z.a (addHold x.holds (holdAt x.window.trail x.holds p.number) ⟨p.number,x.clock+3⟩).length z.c) (addHold x.holds (holdAt x.window.trail x.holds p.number) ⟨p.number,x.clock+3⟩) z.F]) (fun _=>True) ?_ fun z _=>?_
  ·refine goN ?_;intros
   refine d_start [1,8] [] ?_
   refine dt2 1 2 ?_
   refine dt 3 ?_
   refine dt 4 ?_ (hy:=yd_slt (i:=T1.length) rfl rfl (by rw [hT1l]) (by omega) (by omega))
   refine dt4 6 9 10 11 ?_
   refine dsld 12 (holdAt x.window.trail x.holds p.number) (fun a6 c6 F6=>?_)
   refine dM 0 7 ?_ ?_
   ·apply o_bs0;rfl;intro _
    refine t_emp EHold ?_
    refine dk ?_
    refine dM 5 7 ?_ ?_
    ·refine aps (ys:=T1) one_EHold scal_EHold fun a7 c7 F7=>?_
     rw [List.nil_append]
     refine dk ?_
     refine dN 7 ?_
     apply o_bs;rfl;rfl;rfl;rfl;exact rptE;exact filE;intro _
     refine dk ?_
     refine dN 8 ?_
     refine ap1 (rep1_Hold ⟨p.number,x.clock+3⟩) one_EHold fun a8 c8 F8=>?_
     refine dk ?_
     refine dN 13 ?_
     refine aps (ys:=x.holds.drop (holdAt x.window.trail x.holds p.number)) one_EHold scal_EHold (h63:=by simp;omega) (hby:=by simp;omega) fun a9 c9 F9=>?_
     refine dk ?_
     refine dt 14 ?_
     refine dN 15 ?_
     refine oS ?_
     refine dk ?_
     refine dd ?_
     refine go ?_;intros
     rw [hAdd]
     refine n_join (⟨a9,c9,F9⟩:CpS3) trivial
    ·apply o_bs;rfl;rfl;rfl;rfl;exact rptE;exact filE;intro _
     refine dk ?_
     refine dN 5 ?_
     refine aps (ys:=T1) one_EHold scal_EHold fun a7 c7 F7=>?_
     rw [List.nil_append]
     refine dk ?_
     refine dN 8 ?_
     refine ap1 (rep1_Hold ⟨p.number,x.clock+3⟩) one_EHold fun a8 c8 F8=>?_
     refine dk ?_
     refine dN 13 ?_
     refine aps (ys:=x.holds.drop (holdAt x.window.trail x.holds p.number)) one_EHold scal_EHold (h63:=by simp;omega) (hby:=by simp;omega) fun a9 c9 F9=>?_
     refine dk ?_
     refine dt 14 ?_
     refine dN 15 ?_
     refine oS ?_
     refine dk ?_
     refine dd ?_
     refine go ?_;intros
     rw [hAdd]
     refine n_join (⟨a9,c9,F9⟩:CpS3) trivial
   ·apply o_bs;rfl;rfl;rfl;rfl;exact rptE;exact filE;intro _
    refine dk ?_
    refine dN 0 ?_
    apply o_bs0;rfl;intro _
    refine t_emp EHold ?_
    refine dk ?_
    refine dN 5 ?_
    refine aps (ys:=T1) one_EHold scal_EHold fun a7 c7 F7=>?_
    rw [List.nil_append]
    refine dk ?_
    refine dN 8 ?_
    refine ap1 (rep1_Hold ⟨p.number,x.clock+3⟩) one_EHold fun a8 c8 F8=>?_
    refine dk ?_
    refine dN 13 ?_
    refine aps (ys:=x.holds.drop (holdAt x.window.trail x.holds p.number)) one_EHold scal_EHold (h63:=by simp;omega) (hby:=by simp;omega) fun a9 c9 F9=>?_
    refine dk ?_
    refine dt 14 ?_
    refine dN 15 ?_
    refine oS ?_
    refine dk ?_
    refine dd ?_
    refine go ?_;intros
    rw [hAdd]
    refine n_join (⟨a9,c9,F9⟩:CpS3) trivial
  refine openSource (x:=withU x x.window) ?_
  rintro b1 d1 G1 b2 d2 G2 e5 m1 m2
  simp only [Value.agg.injEq,Array.mk.injEq,List.cons.injEq,Value.slice.injEq,Value.int.injEq,true_and,and_true] at e5
  obtain ⟨-, -,⟨rfl, -,rfl⟩, -⟩:=e5
  refine t_read (E:=EHold) fun F9=>?_
  refine closeSource ⟨x.window,x.clock,x.quiet,(addHold x.holds (holdAt x.window.trail x.holds p.number) ⟨p.number,x.clock+3⟩)⟩ (a1:=s.a) ?_
  refine go ?_;intros
  refine d_start [4,7] [] ?_
  refine dt2 0 1 ?_
  refine dt 2 ?_
  refine dN 3 ?_
  apply o_bs;rfl;rfl;rfl;rfl;exact rptE;exact filE;intro _
  refine dk ?_
  refine dN 4 ?_
  refine ap1 (flatPacket (resAnswer x.window p).1 hans) one_EPacket fun a9 c9 F9=>?_
  refine dk ?_
  refine dN 5 ?_
  refine oS ?_
  refine dk ?_
  refine dt 6 ?_
  refine dd ?_
  refine go ?_;intros
  refine ret ⟨s.a,s.c,z.a,z.c,_,a9,c9,F9⟩ trivial rfl
 ·have e1:reqSU x p.number=withU x x.window:=by unfold reqSU;rw [hb,ht];rfl
  have e2:reqP x p=[confP x.window p.number]:=by unfold reqP;rw [hb,ht];rfl
  rw [e1,e2]
  refine go ?_;intros
  refine ret ⟨s.a,s.c,s.a2,s.c2,s.F,_,_,_⟩ trivial rfl
theorem l11Request_f (x:Source) (p:Packet) (v:Value) (F:List Nat) (hg:goodSrc x=true) (n0:0≤p.number) (n1:p.number≤65535) (hps:p.data.size≤maxLen) :
  Fn Tryz.prog 164 [v,.agg #[.int .i64 p.kind,.int .i64 p.number,.int .i64 p.trail,.int .i64 p.lead,.string p.data]] [.isv ESource v x F] [] (fun (_:TiS)=>True) (fun s=>.tuple #[.agg #[.int .i64 (reqS x p.number).window.trail,.int .i64 (reqS x p.number).window.size,.slice s.a (reqS x p.number).window.items.length s.c,.int .i64 (reqS x p.number).clock,.int .i64 (reqS x p.number).quiet,.slice s.a2 (reqS x p.number).holds.length s.c2],.slice s.ae (reqP x p).length s.ce])
   (fun s=>[.isv ESource (.agg #[.int .i64 (reqS x p.number).window.trail,.int .i64 (reqS x p.number).window.size,.slice s.a (reqS x p.number).window.items.length s.c,.int .i64 (reqS x p.number).clock,.int .i64 (reqS x p.number).quiet,.slice s.a2 (reqS x p.number).holds.length s.c2]) (reqS x p.number) s.F,.ow EPacket 127 (.slice s.ae (reqP x p).length s.ce) (reqP x p) s.Fe]):=by
 obtain ⟨gw,hl,t0,t1,k0,k1,hm,hn,hu,hb⟩:=goodS_of hg
 have h:=l11RequestU_f x p v F t0 t1 hl k0 (by omega) (by omega) (wide_of hn) (by omega) (by omega) hps (ans_size gw)
 rw [reqSU_eq hg] at h
 exact h
structure JU where
 g:Nat
 b:Option Addr
 d:Nat
 F:List Nat
theorem l15Up_f (n:Net) (i:Nat) (p:Packet) (a1:Option Addr) (c1:Nat) (a4:Option Addr) (c4:Nat) (a5:Option Addr) (c5:Nat) (a6:Option Addr) (c6:Nat) (a7:Option Addr) (c7:Nat) (a2 a3:Option Addr) (c2 c3:Nat) (F1 FS:List Nat) (z:SZ) (hl:lensN n=true) (h0:i≠0) (hi:i < n.tree.parent.length) (h8:GoodT n.tree.parent) (hsrc:goodSrc n.source=true) (he:∀k,k≠0→k < n.tree.parent.length→leafT n.tree.parent (k:Nat)=false→goodElement (elAt n k)=true) (hp:goodPk p=true) (hps:p.data.size≤maxLen) (hd:∀q∈n.down,q.length≤6) (hu:∀q∈n.up,q.length≤6) :
  Fn Tryz.prog 85 [.agg #[.slice a1 n.tree.parent.length c1,.int .i64 n.source.window.trail,.int .i64 n.source.window.size,.slice a2 n.source.window.items.length c2,.int .i64 n.source.clock,.int .i64 n.source.quiet,.slice a3 n.source.holds.length c3,.slice a4 n.tree.parent.length c4,.slice a5 n.tree.parent.length c5,.slice a6 n.tree.parent.length c6,.slice a7 n.tree.parent.length c7],.int .i64 (i:Nat),.agg #[.int .i64 (p).kind,.int .i64 (p).number,.int .i64 (p).trail,.int .i64 (p).lead,.string (p).data]] [.sl EInt (.slice a1 n.tree.parent.length c1) n.tree.parent F1,.isv ESource (.agg #[.int .i64 n.source.window.trail,.int .i64 n.source.window.size,.slice a2 n.source.window.items.length c2,.int .i64 n.source.clock,.int .i64 n.source.quiet,.slice a3 n.source.holds.length c3]) n.source FS,.isv (EA EElement n.tree.parent.length) (.agg z.e.ys.flatten.toArray) n.elements z.e.G,.isv (EA EReceiver n.tree.parent.length) (.agg z.r.ys.flatten.toArray) n.receivers z.r.G,.isv (EA (ESl EPacket (by decide)) n.tree.parent.length) (.agg z.d.ys.flatten.toArray) n.down z.d.G,.isv (EA (ESl EPacket (by decide)) n.tree.parent.length) (.agg z.u.ys.flatten.toArray) n.up z.u.G] [.ow (EC 2) 142 (.slice a4 n.tree.parent.length c4) z.e.ys z.e.F,.ow (EC 5) 149 (.slice a5 n.tree.parent.length c5) z.r.ys z.r.F,.ow (EC 1) 132 (.slice a6 n.tree.parent.length c6) z.d.ys z.d.F,.ow (EC 1) 132 (.slice a7 n.tree.parent.length c7) z.u.ys z.u.F] (fun (_:SZ × SrcS)=>True) (fun y=>.agg #[.int .i64 ((upN n i p).source).window.trail,.int .i64 ((upN n i p).source).window.size,.slice y.2.a ((upN n i p).source).window.items.length y.2.c,.int .i64 ((upN n i p).source).clock,.int .i64 ((upN n i p).source).quiet,.slice y.2.a2 ((upN n i p).source).holds.length y.2.c2]) (fun y=>[.ow (EC 2) 142 (.slice a4 n.tree.parent.length c4) y.1.e.ys y.1.e.F,.ow (EC 5) 149 (.slice a5 n.tree.parent.length c5) y.1.r.ys y.1.r.F,.ow (EC 1) 132 (.slice a6 n.tree.parent.length c6) y.1.d.ys y.1.d.F,.ow (EC 1) 132 (.slice a7 n.tree.parent.length c7) y.1.u.ys y.1.u.F,.isv (EA EElement n.tree.parent.length) (.agg y.1.e.ys.flatten.toArray) (upN n i p).elements y.1.e.G,.isv (EA EReceiver n.tree.parent.length) (.agg y.1.r.ys.flatten.toArray) (upN n i p).receivers y.1.r.G,.isv (EA (ESl EPacket (by decide)) n.tree.parent.length) (.agg y.1.d.ys.flatten.toArray) (upN n i p).down y.1.d.G,.isv (EA (ESl EPacket (by decide)) n.tree.parent.length) (.agg y.1.u.ys.flatten.toArray) (upN n i p).up y.1.u.G,.isv ESource (.agg #[.int .i64 ((upN n i p).source).window.trail,.int .i64 ((upN n i p).source).window.size,.slice y.2.a ((upN n i p).source).window.items.length y.2.c,.int .i64 ((upN n i p).source).clock,.int .i64 ((upN n i p).source).quiet,.slice y.2.a2 ((upN n i p).source).holds.length y.2.c2]) (upN n i p).source y.2.F]):=by
 obtain ⟨q1,q2,q3,q4⟩:=lensN_iff.1 hl
 have hn8:=h8.n1
 obtain ⟨n0,n1⟩:=goodPk_num hp
 have hone:∀x∈[((i:Nat):Int)],0≤x∧x.toNat < n.down.length:=fun x hx=>by
  rw [List.mem_singleton] at hx;subst hx;omega
 obtain ⟨k,hk⟩:∃k,parN n i=k:=⟨_,rfl⟩
 obtain ⟨e1,e2,e3⟩:=par_get h8 hi h0 hk
 refine enter Tryz.func85 rfl Tryz.ntmps85 fun w0=>?_
 refine at_int (xs:=n.tree.parent) i ?_
 rintro hi2 b o e4
 rw [e4,e1]
 refine go ?_;intros
 refine c_if rfl (fun h5=>?_) (fun h5=>?_)
 ·obtain rfl:k=0:=by omega
  rw [show upN n i p=⟨n.tree,reqS n.source p.number,n.elements,n.receivers,spread n.down [((i:Nat):Int)] (reqP n.source p),n.up⟩ by unfold upN;rw [if_pos hk]]
  refine go ?_;intros
  refine cf (l11Request_f n.source p _ FS hsrc n0 n1 hps) fun u _=>?_
  refine t_app ?_
  refine goN ?_;intros
  refine t_row (E:=EInt) (xs:=[((i:Nat):Int)]) (rep_i _) ?_ (by simp)
  refine t_read (E:=EInt) (xs:=[((i:Nat):Int)]) fun Fo=>?_
  refine t_read (E:=EPacket) (xs:=reqP n.source p) fun Fq=>?_
  refine go ?_;intros
  refine cf (l15Spread_f n.down [((i:Nat):Int)] (reqP n.source p) _ _ _ _ _ _ _ _ _ _ _ _ _ _ _ _ _ _ _ _ _ _ _ _ _ z.d.ys z.d.F z.d.G _ _ Fo _ _ Fq hone hd) fun y _=>?_
  refine t_app ?_
  refine go ?_;intros
  refine ret (⟨⟨z.e,z.r,⟨y.ys,y.F,y.G⟩,z.u⟩,⟨u.a,u.c,u.a2,u.c2,u.F⟩⟩:SZ × SrcS) trivial rfl
 have h6:k≠0:=by omega
 have hkl:k < n.elements.length:=by omega
 have hku:k < n.up.length:=by omega
 have hge:goodElement n.elements[k]=true:=elAt_get hkl▸he k h6 (by omega) e3
 have hel:=(goodE_iff.1 hge).2.1
 obtain ⟨hc0,hc1⟩:=isClk_iff.1 (goodE_iff.1 hge).1
 rw [show upN n i p=⟨n.tree,n.source,n.elements.set k (reqE n.elements[k] p.number ((i:Nat):Int)),n.receivers,spread n.down [((i:Nat):Int)] [cnfP p],if fwdE n.elements[k] p.number then n.up.modify k fun q=>putQ q [p] else n.up⟩ by unfold upN;rw [if_neg (by omega),hk,elAt_get hkl]]
 refine go ?_;intros
 refine sh_len (ys:=z.e.ys) fun hm hlr=>?_
 refine sh_atv (E:=EElement) (ys:=z.e.ys) (xs:=n.elements) k hm (by omega) (by omega) fun h2 h3 v Gi ev=>?_
 refine openElement (v:=v) (x:=n.elements[k]) ?_
 rintro b1 d1 G1 rfl l1
 have e8:z.e.ys[k]=[.int .i64 n.elements[k].clock,.slice b1 n.elements[k].entries.length d1]:=by simpa using ev.symm
 refine focF (E:=EC 2) (xs:=z.e.ys) (m:=2) (scal_EC 2) k ?_ (by repeat (first|exact .here|apply Pick.there)) rfl h2
 rintro _ g A cs B rfl k2 k3 hH
 obtain ⟨k4, -, -⟩:=k3 w0
 rw [e8] at k4
 subst k4
 dsimp only [List.append]
 refine go ?_;intros
 refine c_joinS [1,3,5,6,7] [0,1,2,3,4,5,6,7,8,9,10,11,12,13,14,15] (fun w:JU=>[(10,ptr w.g 0 0),(11,.bool (fwdE n.elements[k] p.number))]) (fun w=>[.row w.g 142 0 [] [.int .i64 (reqE n.elements[k] p.number ((i:Nat):Int)).clock,.slice w.b (reqE n.elements[k] p.number ((i:Nat):Int)).entries.length w.d] [],.isv EElement (.agg #[.int .i64 (reqE n.elements[k] p.number ((i:Nat):Int)).clock,.slice w.b (reqE n.elements[k] p.number ((i:Nat):Int)).entries.length w.d]) (reqE n.elements[k] p.number ((i:Nat):Int)) w.F]) (fun _=>True) ?_ fun w _=>?_
 ·skip
  refine d_start [0,4,5] [] ?_
  refine dt4 0 1 2 3 ?_
  refine dt4 4 5 6 7 ?_
  refine dM 8 12 ?_ ?_
  ·refine oC ?_
   refine cf (l14Request_f n.elements[k] p.number ((i:Nat):Int) _ Gi (by omega) (fun x hx=>by have:=faces_len hge hx;omega) (by omega) (by omega)) fun s _=>?_
   refine t_app ?_
   refine openOElement ?_
   rintro b3 d3 G3 es l3
   rw [es]
   refine closeOElement (reqE n.elements[k] p.number ((i:Nat):Int)) ?_
   refine t_weakI weak_Element fun Fe=>?_
   refine dk ?_
   refine dt2 9 10 ?_
   refine dt 11 ?_
   refine dN 12 ?_
   apply o_alloc;rfl;intro _
   refine dk ?_
   refine dN 13 ?_
   refine oS ?_
   refine dk ?_
   refine dt 14 ?_
   refine dd ?_
   refine n_join (⟨_,b3,d3,Fe⟩:JU) trivial
  ·apply o_alloc;rfl;intro _
   refine dk ?_
   refine dN 8 ?_
   refine oC ?_
   refine cf (l14Request_f n.elements[k] p.number ((i:Nat):Int) _ Gi (by omega) (fun x hx=>by have:=faces_len hge hx;omega) (by omega) (by omega)) fun s _=>?_
   refine t_app ?_
   refine openOElement ?_
   rintro b3 d3 G3 es l3
   rw [es]
   refine closeOElement (reqE n.elements[k] p.number ((i:Nat):Int)) ?_
   refine t_weakI weak_Element fun Fe=>?_
   refine dk ?_
   refine dt2 9 10 ?_
   refine dt 11 ?_
   refine dN 13 ?_
   refine oS ?_
   refine dk ?_
   refine dt 14 ?_
   refine dd ?_
   refine n_join (⟨_,b3,d3,Fe⟩:JU) trivial
 refine goN ?_;intros
 refine unfF (E:=EC 2) (xs:=z.e.ys) [.int .i64 (reqE n.elements[k] p.number ((i:Nat):Int)).clock,.slice w.b (reqE n.elements[k] p.number ((i:Nat):Int)).entries.length w.d] hH (fun _=>⟨rfl,⟨rfl,by simp [Value.oneCell']⟩,rfl⟩) ?_
 refine sh_set (E:=EElement) (ys:=z.e.ys) (xs:=n.elements) (x:=reqE n.elements[k] p.number ((i:Nat):Int)) k rfl hm (by omega) fun G'=>?_
 refine t_row (E:=EInt) (xs:=[((i:Nat):Int)]) (rep_i _) ?_ (by simp)
 refine t_read (E:=EInt) (xs:=[((i:Nat):Int)]) fun Fo=>?_
 refine t_row (E:=EPacket) (xs:=[cnfP p]) (flatPacket (cnfP p) (Nat.zero_le _)) ?_ (by simp)
 refine t_read (E:=EPacket) (xs:=[cnfP p]) fun Fp=>?_
 refine go ?_;intros
 refine cf (l15Spread_f n.down [((i:Nat):Int)] [cnfP p] _ _ _ _ _ _ _ _ _ _ _ _ _ _ _ _ _ _ _ _ _ _ _ _ _ z.d.ys z.d.F z.d.G _ _ Fo _ _ Fp hone hd) fun y _=>?_
 refine t_app ?_
 cases hf:fwdE n.elements[k] p.number
 ·rw [if_neg (by decide)]
  refine go ?_;intros
  refine ret (⟨⟨⟨z.e.ys.set k [.int .i64 (reqE n.elements[k] p.number ((i:Nat):Int)).clock,.slice w.b (reqE n.elements[k] p.number ((i:Nat):Int)).entries.length w.d],[g],G'⟩,z.r,⟨y.ys,y.F,y.G⟩,z.u⟩,⟨a2,c2,a3,c3,FS⟩⟩:SZ × SrcS) trivial rfl
 ·rw [if_pos rfl,modify_set hku]
  have hu6:=hu _ (List.getElem_mem hku)
  refine go ?_;intros
  refine sh_len (ys:=z.u.ys) fun hmu hlu=>?_
  refine sh_at (ys:=z.u.ys) (xs:=n.up) k hmu (by omega) (by omega) fun h9 _ Gu=>?_
  refine isv_sl (x:=n.up[k]) fun a9 c9 e9 l9=>?_
  have e10:z.u.ys[k]=[.slice a9 n.up[k].length c9]:=by simpa using e9
  refine focF (E:=EC 1) (xs:=z.u.ys) (m:=1) (scal_EC 1) k ?_ (by repeat (first|exact .here|apply Pick.there)) rfl h9
  rintro _ gu Au cs Bu rfl j2 j3 hHu
  obtain ⟨j4, -, -⟩:=j3 w0
  rw [e10] at j4
  subst j4
  refine go ?_;intros
  refine d_start [0,14,15] [12] ?_
  refine dt4 0 1 2 3 ?_
  refine dt4 4 5 6 7 ?_
  refine dt 8 ?_
  refine dN 9 ?_
  apply o_bs;rfl;rfl;rfl;rfl;exact rptE;exact filE;intro _
  refine t_row (E:=EPacket) (xs:=[p]) (flatPacket p hps) ?_ (by simp)
  refine t_read (E:=EPacket) (xs:=[p]) fun Fp2=>?_
  refine dk ?_
  refine dN 10 ?_
  refine oC ?_
  refine cf (l15Put_f n.up[k] [p] a9 c9 _ _ _ Fp2 (by omega)) fun r _=>?_
  refine t_app ?_
  refine dk ?_
  refine dt 11 ?_
  refine dN 12 ?_
  refine oS ?_
  refine dkx ?_
  refine dd ?_
  refine unfF (E:=EC 1) (xs:=z.u.ys) [.slice r.a (putQ n.up[k] [p]).length r.c] hHu (fun w=>⟨rfl,⟨rfl,by simp [Value.oneCell']⟩,rfl⟩) ?_
  refine t_read (E:=EPacket) (xs:=putQ n.up[k] [p]) fun Fu=>?_
  refine sl_isv (E:=EPacket) (x:=putQ n.up[k] [p]) (by decide) ?_
  refine sh_set (E:=ESl EPacket (by decide)) (ys:=z.u.ys) (xs:=n.up) (x:=putQ n.up[k] [p]) k rfl hmu (by omega) fun Gv=>?_
  refine go ?_;intros
  refine ret (⟨⟨⟨z.e.ys.set k [.int .i64 (reqE n.elements[k] p.number ((i:Nat):Int)).clock,.slice w.b (reqE n.elements[k] p.number ((i:Nat):Int)).entries.length w.d],[g],G'⟩,z.r,⟨y.ys,y.F,y.G⟩,⟨z.u.ys.set k [.slice r.a (putQ n.up[k] [p]).length r.c],[gu],Gv⟩⟩,⟨a2,c2,a3,c3,FS⟩⟩:SZ × SrcS) trivial rfl
structure TkZ where
 k:Nat
 z:SZ
 a:Option Addr
 c:Nat
 F:List Nat
theorem l15Tick_f (n:Net) (a1:Option Addr) (c1:Nat) (a4:Option Addr) (c4:Nat) (a5:Option Addr) (c5:Nat) (a6:Option Addr) (c6:Nat) (a7:Option Addr) (c7:Nat) (a2 a3:Option Addr) (c2 c3:Nat) (F1 FS FT:List Nat) (z:SZ) (hg:goodNet n=true) (hc:n.source.clock < 9999) :
  Fn Tryz.prog 83 [.agg #[.slice a1 n.tree.parent.length c1,.int .i64 n.source.window.trail,.int .i64 n.source.window.size,.slice a2 n.source.window.items.length c2,.int .i64 n.source.clock,.int .i64 n.source.quiet,.slice a3 n.source.holds.length c3,.slice a4 n.tree.parent.length c4,.slice a5 n.tree.parent.length c5,.slice a6 n.tree.parent.length c6,.slice a7 n.tree.parent.length c7]] [EnvP FT,.sl EInt (.slice a1 n.tree.parent.length c1) n.tree.parent F1,.isv ESource (.agg #[.int .i64 n.source.window.trail,.int .i64 n.source.window.size,.slice a2 n.source.window.items.length c2,.int .i64 n.source.clock,.int .i64 n.source.quiet,.slice a3 n.source.holds.length c3]) n.source FS,.isv (EA EElement n.tree.parent.length) (.agg z.e.ys.flatten.toArray) n.elements z.e.G,.isv (EA EReceiver n.tree.parent.length) (.agg z.r.ys.flatten.toArray) n.receivers z.r.G,.isv (EA (ESl EPacket (by decide)) n.tree.parent.length) (.agg z.d.ys.flatten.toArray) n.down z.d.G,.isv (EA (ESl EPacket (by decide)) n.tree.parent.length) (.agg z.u.ys.flatten.toArray) n.up z.u.G] [.ow (EC 2) 142 (.slice a4 n.tree.parent.length c4) z.e.ys z.e.F,.ow (EC 5) 149 (.slice a5 n.tree.parent.length c5) z.r.ys z.r.F,.ow (EC 1) 132 (.slice a6 n.tree.parent.length c6) z.d.ys z.d.F,.ow (EC 1) 132 (.slice a7 n.tree.parent.length c7) z.u.ys z.u.F] (fun (_:SZ × TiS × KA)=>True) (fun y=>.tuple #[.agg #[.int .i64 ((tickN n).1.source).window.trail,.int .i64 ((tickN n).1.source).window.size,.slice y.2.1.a ((tickN n).1.source).window.items.length y.2.1.c,.int .i64 ((tickN n).1.source).clock,.int .i64 ((tickN n).1.source).quiet,.slice y.2.1.a2 ((tickN n).1.source).holds.length y.2.1.c2],.slice y.2.2.a (tickN n).2.length y.2.2.c]) (fun y=>[.ow (EC 2) 142 (.slice a4 n.tree.parent.length c4) y.1.e.ys y.1.e.F,.ow (EC 5) 149 (.slice a5 n.tree.parent.length c5) y.1.r.ys y.1.r.F,.ow (EC 1) 132 (.slice a6 n.tree.parent.length c6) y.1.d.ys y.1.d.F,.ow (EC 1) 132 (.slice a7 n.tree.parent.length c7) y.1.u.ys y.1.u.F,.isv (EA EElement n.tree.parent.length) (.agg y.1.e.ys.flatten.toArray) (tickN n).1.elements y.1.e.G,.isv (EA EReceiver n.tree.parent.length) (.agg y.1.r.ys.flatten.toArray) (tickN n).1.receivers y.1.r.G,.isv (EA (ESl EPacket (by decide)) n.tree.parent.length) (.agg y.1.d.ys.flatten.toArray) (tickN n).1.down y.1.d.G,.isv (EA (ESl EPacket (by decide)) n.tree.parent.length) (.agg y.1.u.ys.flatten.toArray) (tickN n).1.up y.1.u.G,.isv ESource (.agg #[.int .i64 ((tickN n).1.source).window.trail,.int .i64 ((tickN n).1.source).window.size,.slice y.2.1.a ((tickN n).1.source).window.items.length y.2.1.c,.int .i64 ((tickN n).1.source).clock,.int .i64 ((tickN n).1.source).quiet,.slice y.2.1.a2 ((tickN n).1.source).holds.length y.2.1.c2]) (tickN n).1.source y.2.1.F,.ow EStr 9 (.slice y.2.2.a (tickN n).2.length y.2.2.c) (tickN n).2 y.2.2.F]):=by
 have hG:=goodNet_GN.1 hg
 have h8:=goodT hG.t
 have hn8:=h8.n1
 have hn2:=h8.n0
 obtain ⟨q1,q2,q3,q4⟩:=lensN_iff.1 hG.l
 have hkl:=kids_len n.tree.parent 0
 have hkx:∀x∈kids n.tree.parent 0,0≤x∧x.toNat < n.down.length:=fun x hx=>by have:=kids_behind (i:=0) h8 hx;omega
 have hd:∀q∈n.down,q.length≤6:=fun q hq=>(goodQ_len ((good_els hg).2.2.1 q hq)).1
 refine enter Tryz.func83 rfl Tryz.ntmps83 fun w0=>?_
 refine closeTree n.tree ?_
 refine go ?_;intros
 refine cf (l11Tick_f n.source _ FS hG.s) fun u _=>?_
 refine t_app ?_
 refine t_read (E:=EPacket) (xs:=tickP n.source.window n.source.quiet) fun Fp=>?_
 refine go ?_;intros
 refine d_start [4] [] ?_
 refine dt4 0 1 2 4 ?_
 refine dN 3 ?_
 refine oC ?_
 refine cf (l6Children_f n.tree 0 _ F1 (kids_zero h8.z (Int.le_refl _)) ⟨by omega,by omega⟩) fun v _=>?_
 refine t_app ?_
 refine t_read (E:=EInt) (xs:=kids n.tree.parent 0) fun Fk=>?_
 refine dk ?_
 refine dN 5 ?_
 refine oC ?_
 refine cf (l15Spread_f n.down (kids n.tree.parent 0) (tickP n.source.window n.source.quiet) _ _ _ _ _ _ _ _ _ _ _ _ _ _ _ _ _ _ _ _ _ _ _ _ _ z.d.ys z.d.F z.d.G _ _ Fk _ _ Fp hkx hd) fun y _=>?_
 refine t_app ?_
 refine dk ?_
 refine dd ?_
 rw [show spread n.down (kids n.tree.parent 0) (tickP n.source.window n.source.quiet)=(tickTo n 0).1.down from rfl]
 refine go ?_;intros
 refine t_emp EStr ?_
 refine go ?_;intros
 refine c_loopS [1,2,3,4] (fun s:TkZ=>[(6,.slice s.a (tickTo n s.k).2.length s.c),(7,.int .i64 ((s.k+1:Nat):Int))]) (fun s=>[.ow (EC 2) 142 (.slice a4 n.tree.parent.length c4) s.z.e.ys s.z.e.F,.ow (EC 5) 149 (.slice a5 n.tree.parent.length c5) s.z.r.ys s.z.r.F,.ow (EC 1) 132 (.slice a6 n.tree.parent.length c6) s.z.d.ys s.z.d.F,.ow (EC 1) 132 (.slice a7 n.tree.parent.length c7) s.z.u.ys s.z.u.F,.isv (EA EElement n.tree.parent.length) (.agg s.z.e.ys.flatten.toArray) (tickTo n s.k).1.elements s.z.e.G,.isv (EA EReceiver n.tree.parent.length) (.agg s.z.r.ys.flatten.toArray) (tickTo n s.k).1.receivers s.z.r.G,.isv (EA (ESl EPacket (by decide)) n.tree.parent.length) (.agg s.z.d.ys.flatten.toArray) (tickTo n s.k).1.down s.z.d.G,.isv (EA (ESl EPacket (by decide)) n.tree.parent.length) (.agg s.z.u.ys.flatten.toArray) (tickTo n s.k).1.up s.z.u.G,.ow EStr 9 (.slice s.a (tickTo n s.k).2.length s.c) (tickTo n s.k).2 s.F]) (fun s=>s.k+1≤n.tree.parent.length∧(tickTo n s.k).2.length≤40000 * s.k) (fun s=>n.tree.parent.length - s.k) ⟨0,⟨z.e,z.r,⟨y.ys,y.F,y.G⟩,z.u⟩,_,_,_⟩ ⟨by show 0+1≤_;omega,Nat.le_refl _⟩ fun s hs0=>?_
 obtain ⟨k,⟨⟨ye,Fe,Ge⟩,⟨yr,Fr,Gr⟩,⟨yd,Fd,Gd⟩,⟨yu,Fu,Gu⟩⟩,ea,ec,eF⟩:=s
 obtain ⟨hk,hel⟩:=hs0
 dsimp only at hk hel ⊢
 obtain ⟨hGN,hT,hSrc⟩:=tickTo_good hg hc k (by omega)
 obtain ⟨r1,r2,r3,r4⟩:=lensN_iff.1 hGN.l
 rw [hT] at r1 r2 r3 r4
 refine go ?_;intros
 refine c_if rfl (fun h1=>?_) (fun h1=>?_)
 ·have hj:k+1 < n.tree.parent.length:=by omega
  obtain ⟨i1,i2,i3,i4,hrn⟩:=hGN.rn (i:=k+1) (by rw [hT];exact hj)
  rw [hT] at hrn
  obtain ⟨d0,d1_⟩:=dly_bd (i:=k+1)
  refine go ?_;intros
  refine cf (l15Leaf_f n.tree ((k+1:Nat):Int) _ F1 h8 (by omega)) fun _ _=>?_
  refine t_app ?_
  cases hlf:leafT n.tree.parent ((k+1:Nat):Int)
  ·obtain ⟨hge,hck, -⟩:=hrn.hn (by omega) hlf
   obtain ⟨hgc,hel5, -⟩:=goodE_iff.1 hge
   have hnx:tickTo n (k+1)=(⟨n.tree,tickS n.source,(tickTo n k).1.elements.set (k+1) (tickElement (tickTo n k).1.elements[k+1]),(tickTo n k).1.receivers,(tickTo n k).1.down,(tickTo n k).1.up⟩,(tickTo n k).2++[]):=by
    show ((tick1 (tickTo n k).1 (k+1)).1,(tickTo n k).2++(tick1 (tickTo n k).1 (k+1)).2)=_
    unfold tick1
    rw [hT,hlf,if_neg (by decide),elAt_get i1,hSrc]
   rw [List.append_nil] at hnx
   refine go ?_;intros
   refine sh_len (ys:=ye) fun hm hlr=>?_
   refine sh_atv (E:=EElement) (ys:=ye) (xs:=(tickTo n k).1.elements) (k+1) hm (by omega) (by omega) fun h2 h3 v Gi ev=>?_
   generalize hE:(tickTo n k).1.elements[k+1]=E at *
   refine openElement (v:=v) (x:=E) ?_
   rintro b1 d1 G1 rfl l1
   have e8:ye[k+1]=[.int .i64 E.clock,.slice b1 E.entries.length d1]:=by simpa using ev.symm
   refine focF (E:=EC 2) (xs:=ye) (m:=2) (scal_EC 2) (k+1) ?_ (by repeat (first|exact .here|apply Pick.there)) rfl h2
   rintro _ g A cs B rfl k2 k3 hH
   obtain ⟨k4, -, -⟩:=k3 w0
   rw [e8] at k4
   subst k4
   dsimp only [List.append]
   refine go ?_;intros
   refine d_start [0,16] [10] ?_
   refine dt4 0 1 2 3 ?_
   refine dt4 4 5 6 7 ?_
   refine dN 8 ?_
   refine oC ?_
   refine cr (fun w st=>l14Tick_c _ E Gi w (st.get (p:=.isv EElement (.agg #[.int .i64 E.clock,.slice b1 E.entries.length d1]) E Gi) (by exact memE)) hgc (by omega) (fun x hx=>by have:=faces_len hge hx;omega)) fun v3 FU=>?_
   refine openElement (v:=v3) ?_
   rintro b3 d3 G3 rfl l3
   refine dk ?_
   refine dt 9 ?_
   refine dN 10 ?_
   refine oS ?_
   refine dkx ?_
   refine dd ?_
   refine unfF (E:=EC 2) (xs:=ye) [.int .i64 (tickElement E).clock,.slice b3 (tickElement E).entries.length d3] hH (fun _=>⟨rfl,⟨rfl,by simp [Value.oneCell']⟩,rfl⟩) ?_
   refine sh_set (E:=EElement) (ys:=ye) (xs:=(tickTo n k).1.elements) (x:=tickElement E) (k+1) rfl hm (by omega) fun G'=>?_
   refine go ?_;intros
   refine n_lp ⟨k+1,⟨⟨ye.set (k+1) [.int .i64 (tickElement E).clock,.slice b3 (tickElement E).entries.length d3],[g],G'⟩,⟨yr,Fr,Gr⟩,⟨yd,Fd,Gd⟩,⟨yu,Fu,Gu⟩⟩,ea,ec,eF⟩ ⟨by show k+1+1≤_;omega,by rw [hnx];dsimp only;omega⟩ (by show n.tree.parent.length - (k+1) < n.tree.parent.length - k;omega) (by dsimp only;rw [hnx];exact frE) (by dsimp only;rw [hnx];exact hsE)
  ·obtain ⟨-,hgr0,hck⟩:=hrn.hf (by omega) hlf
   have hgr:=goodR_iff.1 hgr0
   obtain ⟨hsm,hfew⟩:=tickEv_sm hgr
   have hnx:tickTo n (k+1)=(⟨n.tree,tickS n.source,(tickTo n k).1.elements,(tickTo n k).1.receivers.set (k+1) (tickRec (tickTo n k).1.receivers[k+1] (dly (k+1))),(tickTo n k).1.down,(tickTo n k).1.up.set (k+1) (putQ (tickTo n k).1.up[k+1] (tickPk (tickTo n k).1.receivers[k+1]))⟩,(tickTo n k).2++tell (k+1) (tickEv (tickTo n k).1.receivers[k+1])):=by
    show ((tick1 (tickTo n k).1 (k+1)).1,(tickTo n k).2++(tick1 (tickTo n k).1 (k+1)).2)=_
    unfold tick1
    rw [hT,hlf,if_pos rfl,rcAt_get i2,hSrc,modify_set i4]
   have htl:(tell (k+1) (tickEv (tickTo n k).1.receivers[k+1])).length=(tickEv (tickTo n k).1.receivers[k+1]).length:=List.length_map ..
   have hu6:=(goodQ_len hrn.hu).1
   generalize hR:(tickTo n k).1.receivers[k+1]=R at *
   generalize hQ:(tickTo n k).1.up[k+1]=Q at *
   refine go ?_;intros
   refine sh_len (ys:=yr) fun hm hlr=>?_
   refine sh_atv (E:=EReceiver) (ys:=yr) (xs:=(tickTo n k).1.receivers) (k+1) hm (by omega) (by omega) fun h2 h3 v Gi ev=>?_
   rw [hR]
   refine openReceiver (v:=v) (x:=R) ?_
   rintro b1 d1 G1 b2 d2 G2 rfl l1 l2
   have e8:yr[k+1]=[.bool (R).started,.int .i64 (R).clock,.int .i64 (R).window.next,.slice b1 (R).window.slots.length d1,.slice b2 (R).requests.length d2]:=by simpa using ev.symm
   refine focF (E:=EC 5) (xs:=yr) (m:=5) (scal_EC 5) (k+1) ?_ (by repeat (first|exact .here|apply Pick.there)) rfl h2
   rintro _ g A cs B rfl k2 k3 hH
   obtain ⟨k4, -, -⟩:=k3 w0
   rw [e8] at k4
   subst k4
   dsimp only [List.append]
   refine go ?_;intros
   refine c_joinS [1,2,3,4,6,7] [0,1,2,3,4,5,6,7,8,9,10,11,12,13,14,15,16,17,18,19,20,21,22] (fun w:Nat × TkR=>[(8,ptr w.1 0 0),(9,.slice w.2.a3 (tickPk R).length w.2.c3),(10,.slice w.2.a4 (tickEv R).length w.2.c4)]) (fun w=>[.row w.1 149 0 [] [.bool (tickRec R (dly (k+1))).started,.int .i64 (tickRec R (dly (k+1))).clock,.int .i64 (tickRec R (dly (k+1))).window.next,.slice w.2.a1 (tickRec R (dly (k+1))).window.slots.length w.2.c1,.slice w.2.a2 (tickRec R (dly (k+1))).requests.length w.2.c2] [],.isv EReceiver (.agg #[.bool (tickRec R (dly (k+1))).started,.int .i64 (tickRec R (dly (k+1))).clock,.int .i64 (tickRec R (dly (k+1))).window.next,.slice w.2.a1 (tickRec R (dly (k+1))).window.slots.length w.2.c1,.slice w.2.a2 (tickRec R (dly (k+1))).requests.length w.2.c2]) (tickRec R (dly (k+1))) w.2.F1,.ow EPacket 127 (.slice w.2.a3 (tickPk R).length w.2.c3) (tickPk R) w.2.F3,.ow EStr 9 (.slice w.2.a4 (tickEv R).length w.2.c4) (tickEv R) w.2.F4]) (fun _=>True) ?_ fun w _=>?_
   ·skip
    refine d_start [0,17] [] ?_
    refine dt4 0 1 2 3 ?_
    refine dt2 4 5 ?_
    refine dM 6 12 ?_ ?_
    ·refine oC ?_
     refine cf (l15Delay_f (k+1) (by omega)) fun _ _=>?_
     refine t_app ?_
     refine dk ?_
     refine dM 7 12 ?_ ?_
     ·refine oC ?_
      refine cf (l13Tick_f R (dly (k+1)) _ Gi hgr (by omega) (by omega) (by have:=hgr.k1;omega)) fun s _=>?_
      refine t_app ?_
      refine dk ?_
      refine dt4 8 9 10 11 ?_
      refine dN 12 ?_
      apply o_alloc;rfl;intro _
      refine dk ?_
      refine dN 13 ?_
      refine oS ?_
      refine dk ?_
      refine dt2 14 15 ?_
      refine dd ?_
      refine n_join (⟨_,s⟩:Nat × TkR) trivial
     ·apply o_alloc;rfl;intro _
      refine dk ?_
      refine dN 7 ?_
      refine oC ?_
      refine cf (l13Tick_f R (dly (k+1)) _ Gi hgr (by omega) (by omega) (by have:=hgr.k1;omega)) fun s _=>?_
      refine t_app ?_
      refine dk ?_
      refine dt4 8 9 10 11 ?_
      refine dN 13 ?_
      refine oS ?_
      refine dk ?_
      refine dt2 14 15 ?_
      refine dd ?_
      refine n_join (⟨_,s⟩:Nat × TkR) trivial
    ·apply o_alloc;rfl;intro _
     refine dk ?_
     refine dN 6 ?_
     refine oC ?_
     refine cf (l15Delay_f (k+1) (by omega)) fun _ _=>?_
     refine t_app ?_
     refine dk ?_
     refine dN 7 ?_
     refine oC ?_
     refine cf (l13Tick_f R (dly (k+1)) _ Gi hgr (by omega) (by omega) (by have:=hgr.k1;omega)) fun s _=>?_
     refine t_app ?_
     refine dk ?_
     refine dt4 8 9 10 11 ?_
     refine dN 13 ?_
     refine oS ?_
     refine dk ?_
     refine dt2 14 15 ?_
     refine dd ?_
     refine n_join (⟨_,s⟩:Nat × TkR) trivial
   obtain ⟨gr,s⟩:=w
   dsimp only
   refine goN ?_;intros
   refine unfF (E:=EC 5) (xs:=yr) [.bool (tickRec R (dly (k+1))).started,.int .i64 (tickRec R (dly (k+1))).clock,.int .i64 (tickRec R (dly (k+1))).window.next,.slice s.a1 (tickRec R (dly (k+1))).window.slots.length s.c1,.slice s.a2 (tickRec R (dly (k+1))).requests.length s.c2] hH (fun _=>⟨rfl,⟨rfl,by simp [Value.oneCell']⟩,rfl⟩) ?_
   refine sh_set (E:=EReceiver) (ys:=yr) (xs:=(tickTo n k).1.receivers) (x:=tickRec R (dly (k+1))) (k+1) rfl hm (by omega) fun G'=>?_
   refine t_read (E:=EPacket) (xs:=tickPk R) fun Fp9=>?_
   refine sh_len (ys:=yu) fun hmu hlu=>?_
   refine sh_at (ys:=yu) (xs:=(tickTo n k).1.up) (k+1) hmu (by omega) (by omega) fun h9 _ Gq=>?_
   rw [hQ]
   refine isv_sl (x:=Q) fun a9 c9 e9 l9=>?_
   have e10:yu[k+1]=[.slice a9 Q.length c9]:=by simpa using e9
   refine focF (E:=EC 1) (xs:=yu) (m:=1) (scal_EC 1) (k+1) ?_ (by repeat (first|exact .here|apply Pick.there)) rfl h9
   rintro _ gu Au cs Bu rfl j2 j3 hHu
   obtain ⟨j4, -, -⟩:=j3 w0
   rw [e10] at j4
   subst j4
   refine go ?_;intros
   refine d_start [0,24] [11] ?_
   refine dt4 0 1 2 3 ?_
   refine dt4 4 5 6 7 ?_
   refine dt 8 ?_
   refine dN 9 ?_
   refine oC ?_
   refine cf (l15Put_f Q (tickPk R) a9 c9 _ _ _ Fp9 (by omega)) fun r _=>?_
   refine t_app ?_
   refine dk ?_
   refine dt 10 ?_
   refine dN 11 ?_
   refine oS ?_
   refine dkx ?_
   refine dd ?_
   refine unfF (E:=EC 1) (xs:=yu) [.slice r.a (putQ Q (tickPk R)).length r.c] hHu (fun _=>⟨rfl,⟨rfl,by simp [Value.oneCell']⟩,rfl⟩) ?_
   refine t_read (E:=EPacket) (xs:=putQ Q (tickPk R)) fun Fu=>?_
   refine sl_isv (E:=EPacket) (x:=putQ Q (tickPk R)) (by decide) ?_
   refine sh_set (E:=ESl EPacket (by decide)) (ys:=yu) (xs:=(tickTo n k).1.up) (x:=putQ Q (tickPk R)) (k+1) rfl hmu (by omega) fun Gv=>?_
   refine t_read (E:=EStr) (xs:=tickEv R) fun F7=>?_
   refine go ?_;intros
   refine cf (l15Tell_f (k+1) (tickEv R) _ _ F7 FT (by omega) (by omega) hsm) fun u9 _=>?_
   refine t_app ?_
   refine t_read (E:=EStr) (xs:=tell (k+1) (tickEv R)) fun F8=>?_
   apply wO
   refine aps (E:=EStr) (xs:=(tickTo n k).2) (ys:=tell (k+1) (tickEv R)) one_EStr scal_EStr fun ax cx Fx=>?_
   refine go ?_;intros
   refine n_lp ⟨k+1,⟨⟨ye,Fe,Ge⟩,⟨yr.set (k+1) [.bool (tickRec R (dly (k+1))).started,.int .i64 (tickRec R (dly (k+1))).clock,.int .i64 (tickRec R (dly (k+1))).window.next,.slice s.a1 (tickRec R (dly (k+1))).window.slots.length s.c1,.slice s.a2 (tickRec R (dly (k+1))).requests.length s.c2],[g],G'⟩,⟨yd,Fd,Gd⟩,⟨yu.set (k+1) [.slice r.a (putQ Q (tickPk R)).length r.c],[gu],Gv⟩⟩,ax,cx,Fx⟩ ⟨by show k+1+1≤_;omega,by rw [hnx];dsimp only;rw [List.length_append,htl];omega⟩ (by show n.tree.parent.length - (k+1) < n.tree.parent.length - k;omega) (by dsimp only;rw [hnx];exact frE) (by dsimp only;rw [hnx];exact hsE)
 ·have hke:n.tree.parent.length - 1=k:=by omega
  rw [show tickN n=tickTo n k by unfold tickN;rw [hke],hSrc]
  refine go ?_;intros
  refine ret (⟨⟨⟨ye,Fe,Ge⟩,⟨yr,Fr,Gr⟩,⟨yd,Fd,Gd⟩,⟨yu,Fu,Gu⟩⟩,u,⟨0,ea,ec,eF⟩⟩:SZ × TiS × KA) trivial rfl
structure OwN where
 g:Nat
 a1:Option Addr
 c1:Nat
 F1:List Nat
 s:SrcS
structure OwK where
 k:Nat
 a4:Option Addr
 c4:Nat
 F4:List Nat
 a5:Option Addr
 c5:Nat
 F5:List Nat
 a6:Option Addr
 c6:Nat
 F6:List Nat
 a7:Option Addr
 c7:Nat
 F7:List Nat
theorem one_OSlP:One (OSl EPacket 127):=fun h u hu=>by
 obtain ⟨v,rfl,h⟩:=h
 obtain rfl:=List.mem_singleton.1 hu
 rcases h with ⟨rfl, -, -⟩|⟨b,cap,cs,rest,G,rfl, -⟩ <;> rfl
theorem withW_same {x:Source} (hg:goodSrc x=true):withW x x.window=x:=by
 obtain ⟨gw,hl,t0,t1,k0,k1,hm,hn,hu,hb⟩:=goodS_of hg
 unfold withW
 rw [←keepU_eq hu,keepU_same hg]
theorem l15Own_f (n:Net) (v:Value) (F:List Nat) (hg:goodNet n=true):Fn Tryz.prog 67 [v] [.isv ENet v n F] [] (fun (_:OwN × OwK)=>True) (fun z=>.agg #[.slice z.1.a1 n.tree.parent.length z.1.c1,.int .i64 (n.source).window.trail,.int .i64 (n.source).window.size,.slice z.1.s.a (n.source).window.items.length z.1.s.c,.int .i64 (n.source).clock,.int .i64 (n.source).quiet,.slice z.1.s.a2 (n.source).holds.length z.1.s.c2,.slice z.2.a4 (n.elements).length z.2.c4,.slice z.2.a5 (n.receivers).length z.2.c5,.slice z.2.a6 (n.down).length z.2.c6,.slice z.2.a7 (n.up).length z.2.c7]) (fun z=>[.ow EInt 3 (.slice z.1.a1 n.tree.parent.length z.1.c1) n.tree.parent z.1.F1,.isv ESource (.agg #[.int .i64 (n.source).window.trail,.int .i64 (n.source).window.size,.slice z.1.s.a (n.source).window.items.length z.1.s.c,.int .i64 (n.source).clock,.int .i64 (n.source).quiet,.slice z.1.s.a2 (n.source).holds.length z.1.s.c2]) n.source z.1.s.F,.ow OElement 142 (.slice z.2.a4 (n.elements).length z.2.c4) (n.elements) z.2.F4,.ow OReceiver 149 (.slice z.2.a5 (n.receivers).length z.2.c5) (n.receivers) z.2.F5,.ow (OSl EPacket 127) 132 (.slice z.2.a6 (n.down).length z.2.c6) (n.down) z.2.F6,.ow (OSl EPacket 127) 132 (.slice z.2.a7 (n.up).length z.2.c7) (n.up) z.2.F7]):=by
 have hG:=goodNet_GN.1 hg
 have h8:=(goodT hG.t).n1
 have hS:=goodS_of hG.s
 have hSl:=hS.l
 have hSm:=hS.m
 obtain ⟨q1,q2,q3,q4⟩:=lensN_iff.1 hG.l
 obtain ⟨g1,g2,g3,g4⟩:=good_els hg
 refine enter Tryz.func67 rfl Tryz.ntmps67 fun w0=>?_
 refine openNet ?_
 rintro a1 c1 F1 a2 c2 F2 a3 c3 F3 a4 c4 F4 a5 c5 F5 a6 c6 F6 a7 c7 F7 rfl l1 l2 l3 l4 l5 l6 l7
 refine closeSource n.source ?_
 refine closeSendWindow n.source.window (a1:=a2) ?_
 have hW:=fun vw Fw=>l11With_f n.source n.source.window (.agg #[.int .i64 n.source.window.trail,.int .i64 n.source.window.size,.slice a2 n.source.window.items.length c2,.int .i64 n.source.clock,.int .i64 n.source.quiet,.slice a3 n.source.holds.length c3]) vw (F2++F3) Fw hS.t0 hS.t1 (by omega) hS.n hS.u
 rw [withW_same hG.s,show keepH n.source.window n.source.holds=n.source.holds by rw [←keepU_eq hS.u,keepU_same hG.s]] at hW
 refine go ?_;intros
 refine c_joinS [1,2] [0,1,2,3,4,5,6,7,8,9,10,11] (fun w:OwN=>[(3,ptr w.g 0 0)]) (fun w=>[.row w.g 49 0 [] [.slice w.a1 n.tree.parent.length w.c1,.int .i64 (n.source).window.trail,.int .i64 (n.source).window.size,.slice w.s.a (n.source).window.items.length w.s.c,.int .i64 (n.source).clock,.int .i64 (n.source).quiet,.slice w.s.a2 (n.source).holds.length w.s.c2,.slice none 0 0,.slice none 0 0,.slice none 0 0,.slice none 0 0] [],.ow EInt 3 (.slice w.a1 n.tree.parent.length w.c1) n.tree.parent w.F1,.isv ESource (.agg #[.int .i64 (n.source).window.trail,.int .i64 (n.source).window.size,.slice w.s.a (n.source).window.items.length w.s.c,.int .i64 (n.source).clock,.int .i64 (n.source).quiet,.slice w.s.a2 (n.source).holds.length w.s.c2]) n.source w.s.F]) (fun _=>True) ?_ fun w _=>?_
 ·skip
  refine d_start [1] [] ?_
  refine dt4 0 1 2 5 ?_
  refine dt4 6 7 8 9 ?_
  refine dM 3 13 ?_ ?_
  ·refine oC ?_
   refine cn (fun w st=>l1Own_c _ n.tree.parent F1 w (st.get (p:=.sl EInt (.slice a1 n.tree.parent.length c1) n.tree.parent F1) (by exact memE)).2 (by omega)) fun b1 d1 G1=>?_
   refine dk ?_
   refine dt 4 ?_
   refine dM 10 13 ?_ ?_
   ·refine oC ?_
    refine cf (l9Drop0_f n.source.window _ F2 hS.t0 hS.t1 (by omega)) fun y _=>?_
    refine t_app ?_
    refine openOSendWindow ?_
    rintro a9 c9 F9 e9 l9
    rw [e9]
    refine t_read (xs:=n.source.window.items) fun F8=>?_
    refine closeSendWindow n.source.window (a1:=a9) ?_
    refine dk ?_
    refine dM 11 13 ?_ ?_
    ·refine oC ?_
     refine cf (hW _ F8) fun s _=>?_
     refine t_app ?_
     refine dk ?_
     refine dt 12 ?_
     refine dN 13 ?_
     apply o_alloc;rfl;intro _
     refine dk ?_
     refine dN 14 ?_
     refine oS ?_
     refine dk ?_
     refine dd ?_
     refine n_join (⟨_,b1,d1,G1,s⟩:OwN) trivial
    ·apply o_alloc;rfl;intro _
     refine dk ?_
     refine dN 11 ?_
     refine oC ?_
     refine cf (hW _ F8) fun s _=>?_
     refine t_app ?_
     refine dk ?_
     refine dt 12 ?_
     refine dN 14 ?_
     refine oS ?_
     refine dk ?_
     refine dd ?_
     refine n_join (⟨_,b1,d1,G1,s⟩:OwN) trivial
   ·apply o_alloc;rfl;intro _
    refine dk ?_
    refine dN 10 ?_
    refine oC ?_
    refine cf (l9Drop0_f n.source.window _ F2 hS.t0 hS.t1 (by omega)) fun y _=>?_
    refine t_app ?_
    refine openOSendWindow ?_
    rintro a9 c9 F9 e9 l9
    rw [e9]
    refine t_read (xs:=n.source.window.items) fun F8=>?_
    refine closeSendWindow n.source.window (a1:=a9) ?_
    refine dk ?_
    refine dN 11 ?_
    refine oC ?_
    refine cf (hW _ F8) fun s _=>?_
    refine t_app ?_
    refine dk ?_
    refine dt 12 ?_
    refine dN 14 ?_
    refine oS ?_
    refine dk ?_
    refine dd ?_
    refine n_join (⟨_,b1,d1,G1,s⟩:OwN) trivial
  ·apply o_alloc;rfl;intro _
   refine dk ?_
   refine dN 3 ?_
   refine oC ?_
   refine cn (fun w st=>l1Own_c _ n.tree.parent F1 w (st.get (p:=.sl EInt (.slice a1 n.tree.parent.length c1) n.tree.parent F1) (by exact memE)).2 (by omega)) fun b1 d1 G1=>?_
   refine dk ?_
   refine dt 4 ?_
   refine dN 10 ?_
   refine oC ?_
   refine cf (l9Drop0_f n.source.window _ F2 hS.t0 hS.t1 (by omega)) fun y _=>?_
   refine t_app ?_
   refine openOSendWindow ?_
   rintro a9 c9 F9 e9 l9
   rw [e9]
   refine t_read (xs:=n.source.window.items) fun F8=>?_
   refine closeSendWindow n.source.window (a1:=a9) ?_
   refine dk ?_
   refine dN 11 ?_
   refine oC ?_
   refine cf (hW _ F8) fun s _=>?_
   refine t_app ?_
   refine dk ?_
   refine dt 12 ?_
   refine dN 14 ?_
   refine oS ?_
   refine dk ?_
   refine dd ?_
   refine n_join (⟨_,b1,d1,G1,s⟩:OwN) trivial
 refine t_nilow OElement 142 ?_
 refine t_nilow OReceiver 149 ?_
 refine t_nilow (OSl EPacket 127) 132 ?_
 refine t_nilow (OSl EPacket 127) 132 ?_
 refine go ?_;intros
 refine c_loopS [1,2,3] (fun y:OwK=>[(4,.int .i64 (y.k:Nat))]) (fun y=>[.row w.g 49 0 [] [.slice w.a1 n.tree.parent.length w.c1,.int .i64 (n.source).window.trail,.int .i64 (n.source).window.size,.slice w.s.a (n.source).window.items.length w.s.c,.int .i64 (n.source).clock,.int .i64 (n.source).quiet,.slice w.s.a2 (n.source).holds.length w.s.c2,.slice y.a4 (n.elements.take y.k).length y.c4,.slice y.a5 (n.receivers.take y.k).length y.c5,.slice y.a6 (n.down.take y.k).length y.c6,.slice y.a7 (n.up.take y.k).length y.c7] [],.ow OElement 142 (.slice y.a4 (n.elements.take y.k).length y.c4) (n.elements.take y.k) y.F4,.ow OReceiver 149 (.slice y.a5 (n.receivers.take y.k).length y.c5) (n.receivers.take y.k) y.F5,.ow (OSl EPacket 127) 132 (.slice y.a6 (n.down.take y.k).length y.c6) (n.down.take y.k) y.F6,.ow (OSl EPacket 127) 132 (.slice y.a7 (n.up.take y.k).length y.c7) (n.up.take y.k) y.F7]) (fun y=>y.k≤n.elements.length) (fun y=>n.elements.length - y.k) ⟨0,none,0,[],none,0,[],none,0,[],none,0,[]⟩ (Nat.zero_le _) fun y hy=>?_
 refine go ?_;intros
 refine c_if rfl (fun h1=>?_) (fun h1=>?_)
 ·have hk:y.k < n.elements.length:=by omega
  have hk5:y.k < n.receivers.length:=by omega
  have hk6:y.k < n.down.length:=by omega
  have hk7:y.k < n.up.length:=by omega
  have t4:(n.elements.take y.k).length≤8:=by rw [List.length_take];omega
  have t5:(n.receivers.take y.k).length≤8:=by rw [List.length_take];omega
  have t6:(n.down.take y.k).length≤8:=by rw [List.length_take];omega
  have t7:(n.up.take y.k).length≤8:=by rw [List.length_take];omega
  have hge:=g1 _ (List.getElem_mem hk)
  have hel:=(goodE_iff.1 hge).2.1
  have hgr:=goodR_iff.1 (g2 _ (List.getElem_mem hk5))
  have hrs:=(good_items hgr.w).1
  have hrq:=(areQ_iff.1 hgr.q).2.1
  have hd6:=(goodQ_len (g3 _ (List.getElem_mem hk6))).1
  have hu6:=(goodQ_len (g4 _ (List.getElem_mem hk7))).1
  refine atElement (xs:=n.elements) y.k ?_
  rintro hi4 b4 o4 a8 c8 F8 e4 l8
  rw [e4]
  refine closeElement n.elements[y.k] ?_
  dsimp only [List.append]
  refine go ?_;intros
  refine d_start [1,3,11] [11] ?_
  refine dt4 0 1 2 3 ?_
  refine dt2 4 5 ?_
  refine dt 6 ?_
  refine dN 7 ?_
  refine oC ?_
  refine cv (fun w2 st=>l14Own_c _ n.elements[y.k] F8 w2 (st.get (p:=.isv EElement (.agg #[.int .i64 n.elements[y.k].clock,.slice a8 n.elements[y.k].entries.length c8]) n.elements[y.k] F8) (by exact memE)) (by omega) (fun x hx=>by have:=faces_len hge hx;omega)) fun v9 F9=>?_
  refine openOElement (x:=n.elements[y.k]) ?_
  rintro a9 c9 F10 rfl l9
  refine closeOElement n.elements[y.k] ?_
  refine dk ?_
  refine dN 8 ?_
  apply o_bs;rfl;rfl;rfl;rfl;exact rptE;exact filE;intro _
  refine dk ?_
  refine dN 9 ?_
  refine ap1o one_OElement n.elements[y.k] rfl fun x4 d4 G4=>?_
  refine dk ?_
  refine dt 10 ?_
  refine dN 11 ?_
  refine oS ?_
  refine dkx ?_
  refine dd ?_
  rw [←List.take_succ_eq_append_getElem hk]
  refine atReceiver (xs:=n.receivers) y.k ?_
  rintro hi5 b5 o5 a11 c11 F11 a12 c12 F12 e5 l11 l12
  rw [e5]
  refine closeReceiver n.receivers[y.k] ?_
  dsimp only [List.append]
  refine go ?_;intros
  refine d_start [1,8,15] [11] ?_
  refine dt4 0 1 2 3 ?_
  refine dt2 4 5 ?_
  refine dt 6 ?_
  refine dN 7 ?_
  refine oC ?_
  refine cf (l13Own_f n.receivers[y.k] _ _ (by omega) (by omega)) fun s9 _=>?_
  refine t_app ?_
  refine openOReceiver (x:=n.receivers[y.k]) ?_
  rintro a9 c9 G9 a10 c10 G10 e9 l9 l10
  rw [e9]
  refine closeOReceiver n.receivers[y.k] ?_
  refine dk ?_
  refine dN 8 ?_
  apply o_bs;rfl;rfl;rfl;rfl;exact rptE;exact filE;intro _
  refine dk ?_
  refine dN 9 ?_
  refine ap1o one_OReceiver n.receivers[y.k] rfl fun x5 d5 G5=>?_
  refine dk ?_
  refine dt 10 ?_
  refine dN 11 ?_
  refine oS ?_
  refine dkx ?_
  refine dd ?_
  rw [←List.take_succ_eq_append_getElem hk5]
  refine at_ESl (E:=EPacket) (hz:=by decide) (xs:=n.down) y.k ?_
  rintro hi6 b6 o6 a13 c13 F13 e6 l13
  rw [e6]
  refine go ?_;intros
  refine d_start [0,11,17] [12] ?_
  refine dt4 0 1 3 4 ?_
  refine dt2 5 6 ?_
  refine dt 7 ?_
  refine dN 2 ?_
  apply o_bs0;rfl;intro _
  refine t_emp EPacket ?_
  refine dk ?_
  refine dN 8 ?_
  refine aps one_EPacket scal_EPacket fun a9 c9 F9=>?_
  rw [List.nil_append]
  refine closeOSl n.down[y.k] ?_
  refine dk ?_
  refine dN 9 ?_
  apply o_bs;rfl;rfl;rfl;rfl;exact rptE;exact filE;intro _
  refine dk ?_
  refine dN 10 ?_
  refine ap1o (one_OSlP) n.down[y.k] rfl fun x6 d6 G6=>?_
  refine dk ?_
  refine dt 11 ?_
  refine dN 12 ?_
  refine oS ?_
  refine dkx ?_
  refine dd ?_
  rw [←List.take_succ_eq_append_getElem hk6]
  refine at_ESl (E:=EPacket) (hz:=by decide) (xs:=n.up) y.k ?_
  rintro hi7 b7 o7 a14 c14 F14 e7 l14
  rw [e7]
  refine go ?_;intros
  refine d_start [0,14,19] [12] ?_
  refine dt4 0 1 3 4 ?_
  refine dt2 5 6 ?_
  refine dt 7 ?_
  refine dN 2 ?_
  apply o_bs0;rfl;intro _
  refine t_emp EPacket ?_
  refine dk ?_
  refine dN 8 ?_
  refine aps one_EPacket scal_EPacket fun a9 c9 F9=>?_
  rw [List.nil_append]
  refine closeOSl n.up[y.k] ?_
  refine dk ?_
  refine dN 9 ?_
  apply o_bs;rfl;rfl;rfl;rfl;exact rptE;exact filE;intro _
  refine dk ?_
  refine dN 10 ?_
  refine ap1o (one_OSlP) n.up[y.k] rfl fun x7 d7 G7=>?_
  refine dk ?_
  refine dt 11 ?_
  refine dN 12 ?_
  refine oS ?_
  refine dkx ?_
  refine dd ?_
  rw [←List.take_succ_eq_append_getElem hk7]
  refine go ?_;intros
  refine n_lp ⟨y.k+1,x4,d4,G4,x5,d5,G5,x6,d6,G6,x7,d7,G7⟩ hk (by show n.elements.length - (y.k+1) < n.elements.length - y.k;omega)
 ·rw [show n.elements.take y.k=n.elements from List.take_of_length_le (by omega),show n.receivers.take y.k=n.receivers from List.take_of_length_le (by omega),show n.down.take y.k=n.down from List.take_of_length_le (by omega),show n.up.take y.k=n.up from List.take_of_length_le (by omega)]
  refine go ?_;intros
  refine ret (⟨w,y⟩:OwN × OwK) trivial rfl
end Go.Proofs.YtgmbfohkpfineaaGreatDoor
namespace Go.Proofs.YtgmbfohkpfineaaGreatDoor
open Go.RowKit
open Go.RowKit
theorem flat_weak {α:Type} {O R:Elem α} (hW:Weak O R) {w:World}:∀{xs:List α} {cs:List Value} {G:List Nat},Flat O w cs xs G→∃G',(∀b∈G',b∈G)∧Flat R w cs xs G'
 | [],_,_,h=>⟨[],by simp,h.1,rfl⟩
 | x::r,_,_,h=>by
  obtain ⟨c1,c2,F1,F2,rfl,rfl,h1,h2⟩:=h
  obtain ⟨G1,s1,r1⟩:=hW.rep h1
  obtain ⟨G2,s2,r2⟩:=flat_weak hW h2
  exact ⟨G1++G2,fun b hb=>by rcases List.mem_append.1 hb with hb|hb;simp [s1 b hb];simp [s2 b hb],c1,c2,G1,G2,rfl,rfl,r1,r2⟩
theorem HSub.skip {x:Pc}:∀{B A:List Pc},HSub A B→HSub (x::A) B
 | _,_,.nil=>.nil
 | _,_,.cons hp hr=>.cons (.there hp) hr.skip
theorem HSub.all:∀A:List Pc,HSub A A
 | []=>.nil
 | _::A=>.cons .here (HSub.all A)
section
variable {c:Cx} {fr:Fr} {H:List Pc} {Φ:Gl}
theorem t_flatI {α:Type} {O R:Elem α} (hW:Weak O R) {cs:List Value} {xs:List α} {G:List Nat} {S:List Pc} (h:∀G',T c fr (.isv (EA R xs.length) (.agg cs.toArray) xs G'::S) Φ) (hp:Pick H (.flat O cs xs G) S:=by (repeat (first|exact .here|apply Pick.there));first|done|fail):T c fr H Φ:=.mk fun a w s g=>by
 have s1:=s.pick hp
 obtain ⟨-,ho⟩:=s1.on (.flat O cs xs G) (by simp)
 obtain ⟨G',hG,hf⟩:=flat_weak hW ho
 exact (h G').h a w (s1.conv rfl ⟨_,rfl,rfl,hf⟩ hG) g
theorem endNet (m:Net) {l:List Int} {N:Nat} (hT:m.tree.parent=l) (hN:N=l.length) (hl:lensN m=true) {a1 a2 a3 a4 a5 a6 a7:Option Addr} {c1 c2 c3 c4 c5 c6 c7:Nat} {F1 FS F4 G4 F5 G5 F6 G6 F7 G7:List Nat} {ys4 ys5 ys6 ys7:List (List Value)} (h4:ys4.length=N) (h5:ys5.length=N) (h6:ys6.length=N) (h7:ys7.length=N)
  (h:∀F,T c fr (.isv ENet (.agg #[.slice a1 N c1,.int .i64 m.source.window.trail,.int .i64 m.source.window.size,.slice a2 m.source.window.items.length c2,.int .i64 m.source.clock,.int .i64 m.source.quiet,.slice a3 m.source.holds.length c3,.slice a4 N c4,.slice a5 N c5,.slice a6 N c6,.slice a7 N c7]) m F::H) Φ) (p1:.sl EInt (.slice a1 N c1) l F1∈H:=by (repeat (first|exact .head _|apply List.Mem.tail));first|done|fail) (p2:.isv ESource (.agg #[.int .i64 m.source.window.trail,.int .i64 m.source.window.size,.slice a2 m.source.window.items.length c2,.int .i64 m.source.clock,.int .i64 m.source.quiet,.slice a3 m.source.holds.length c3]) m.source FS∈H:=by (repeat (first|exact .head _|apply List.Mem.tail));first|done|fail) (p4:.sl (EC 2) (.slice a4 N c4) ys4 F4∈H:=by (repeat (first|exact .head _|apply List.Mem.tail));first|done|fail) (q4:.isv (EA (EElement) N) (.agg ys4.flatten.toArray) m.elements G4∈H:=by (repeat (first|exact .head _|apply List.Mem.tail));first|done|fail) (p5:.sl (EC 5) (.slice a5 N c5) ys5 F5∈H:=by (repeat (first|exact .head _|apply List.Mem.tail));first|done|fail) (q5:.isv (EA (EReceiver) N) (.agg ys5.flatten.toArray) m.receivers G5∈H:=by (repeat (first|exact .head _|apply List.Mem.tail));first|done|fail) (p6:.sl (EC 1) (.slice a6 N c6) ys6 F6∈H:=by (repeat (first|exact .head _|apply List.Mem.tail));first|done|fail) (q6:.isv (EA (ESl EPacket (by decide)) N) (.agg ys6.flatten.toArray) m.down G6∈H:=by (repeat (first|exact .head _|apply List.Mem.tail));first|done|fail) (p7:.sl (EC 1) (.slice a7 N c7) ys7 F7∈H:=by (repeat (first|exact .head _|apply List.Mem.tail));first|done|fail) (q7:.isv (EA (ESl EPacket (by decide)) N) (.agg ys7.flatten.toArray) m.up G7∈H:=by (repeat (first|exact .head _|apply List.Mem.tail));first|done|fail):T c fr H Φ:=by
 obtain ⟨e1,e2,e3,e4⟩:=lensN_iff.1 hl
 subst hT hN
 refine openSource (hm:=p2) ?_
 rintro b2 d2 F2 b3 d3 F3 ev - -
 have ev2:=ev
 simp only [Value.agg.injEq,Array.mk.injEq,List.cons.injEq,Value.slice.injEq,true_and,and_true] at ev2
 obtain ⟨⟨rfl,rfl⟩,rfl,rfl⟩:=ev2
 refine t_deepR (E:=EElement) (xs:=m.elements) rfl (by omega) rfl (fun F8=>?_) (.tail _ (.tail _ p4)) (.tail _ (.tail _ q4))
 refine t_deepR (E:=EReceiver) (xs:=m.receivers) rfl (by omega) rfl (fun F9=>?_) (.tail _ (.tail _ (.tail _ p5))) (.tail _ (.tail _ (.tail _ q5)))
 refine t_deepR (E:=ESl EPacket (by decide)) (xs:=m.down) rfl (by omega) rfl (fun F10=>?_) (.tail _ (.tail _ (.tail _ (.tail _ p6)))) (.tail _ (.tail _ (.tail _ (.tail _ q6))))
 refine t_deepR (E:=ESl EPacket (by decide)) (xs:=m.up) rfl (by omega) rfl (fun F11=>?_) (.tail _ (.tail _ (.tail _ (.tail _ (.tail _ p7))))) (.tail _ (.tail _ (.tail _ (.tail _ (.tail _ q7)))))
 refine closeNet m (a1:=a1) (c1:=c1) (F1:=F1) (a2:=a2) (c2:=c2) (F2:=F2) (a3:=a3) (c3:=c3) (F3:=F3) (a4:=a4) (c4:=c4) (F4:=F8) (a5:=a5) (c5:=c5) (F5:=F9) (a6:=a6) (c6:=c6) (F6:=F10) (a7:=a7) (c7:=c7) (F7:=F11) ?_ (.tail _ (.tail _ (.tail _ (.tail _ (.tail _ (.tail _ p1)))))) (.tail _ (.tail _ (.tail _ (.tail _ (.head _))))) (.tail _ (.tail _ (.tail _ (.tail _ (.tail _ (.head _)))))) (by rw [e1];exact .tail _ (.tail _ (.tail _ (.head _)))) (by rw [e2];exact .tail _ (.tail _ (.head _))) (by rw [e3];exact .tail _ (.head _)) (by rw [e4];exact .head _)
 rw [e1,e2,e3,e4]
 exact t_sub _ (h _) (.cons .here (HSub.skip (HSub.skip (HSub.skip (HSub.skip (HSub.skip (HSub.skip (HSub.all H))))))))
end
end Go.Proofs.YtgmbfohkpfineaaGreatDoor
namespace Go.Proofs.YtgmbfohkpfineaaGreatDoor
open Go.RowKit
def sentU (x:Source) (s:ByteArray):Source:=⟨pushedW x.window s,x.clock,0,keepU (pushedW x.window s) x.clock x.holds⟩
theorem sentU_eq {x:Source} {s:ByteArray} (h:∀z∈x.holds,x.clock+1≤z.untl):sentU x s=sentS x s:=by unfold sentU sentS;rw [keepU_eq h]
theorem l11SendU_f (x:Source) (s:ByteArray) (v:Value) (F:List Nat) (t0:0≤x.window.trail) (t1:x.window.trail≤65535) (hl:x.window.items.length≤6) (z1:1≤x.window.size) (hm:x.holds.length≤1000) (hn:wideH x.holds) (hs:s.size≤maxLen) :
  Fn Tryz.prog 80 [v,.string s] [.isv ESource v x F] [] (fun (_:SrcS)=>True) (fun z=>.tuple #[.agg #[.int .i64 (sentU x s).window.trail,.int .i64 (sentU x s).window.size,.slice z.a (sentU x s).window.items.length z.c,.int .i64 (sentU x s).clock,.int .i64 (sentU x s).quiet,.slice z.a2 (sentU x s).holds.length z.c2],.agg #[.int .i64 1,.int .i64 (pushedP x.window s).number,.int .i64 (pushedP x.window s).trail,.int .i64 (pushedP x.window s).lead,.string s]]) (fun z=>[.isv ESource (.agg #[.int .i64 (sentU x s).window.trail,.int .i64 (sentU x s).window.size,.slice z.a (sentU x s).window.items.length z.c,.int .i64 (sentU x s).clock,.int .i64 (sentU x s).quiet,.slice z.a2 (sentU x s).holds.length z.c2]) (sentU x s) z.F]):=by
 have hb:=roomed_bd t0 t1
 refine enter Tryz.func80 rfl Tryz.ntmps80 fun w0=>?_
 refine openSource ?_
 rintro a1 c1 F1 a2 c2 F2 rfl l1 l2
 refine closeSendWindow x.window ?_
 generalize F1=F3
 refine go ?_;intros
 refine cf (l9Push_f x.window s _ F3 hl t0 t1 hs z1) fun y _=>?_
 refine t_app ?_
 refine openSendWindow (x:=pushedW x.window s) ?_
 rintro a5 c5 F5 e5 l5
 rw [e5]
 refine go ?_;intros
 refine cf (l11WithU_f x (pushedW x.window s) _ _ F y.2 hb.1 hb.2 (by omega) hn) fun q _=>?_
 refine t_app ?_
 refine openSource (x:=withU x (pushedW x.window s)) ?_
 rintro a6 c6 F6 a7 c7 F7 e6 l6 l7
 rw [e6]
 refine go ?_;intros
 refine d_start [0,4] [] ?_
 refine dt2 0 1 ?_
 refine dN 2 ?_
 refine oS ?_
 refine dk ?_
 refine dN 3 ?_
 refine oS ?_
 refine dk ?_
 refine dd ?_
 refine closeSource (sentU x s) ?_
 refine go ?_;intros
 refine ret ⟨_,_,_,_,_⟩ trivial rfl
theorem l11Send_f (x:Source) (s:ByteArray) (v:Value) (F:List Nat) (hg:goodSrc x=true) (hs:s.size≤maxLen) :
  Fn Tryz.prog 80 [v,.string s] [.isv ESource v x F] [] (fun (_:SrcS)=>True) (fun z=>.tuple #[.agg #[.int .i64 (sentS x s).window.trail,.int .i64 (sentS x s).window.size,.slice z.a (sentS x s).window.items.length z.c,.int .i64 (sentS x s).clock,.int .i64 (sentS x s).quiet,.slice z.a2 (sentS x s).holds.length z.c2],.agg #[.int .i64 1,.int .i64 (pushedP x.window s).number,.int .i64 (pushedP x.window s).trail,.int .i64 (pushedP x.window s).lead,.string s]]) (fun z=>[.isv ESource (.agg #[.int .i64 (sentS x s).window.trail,.int .i64 (sentS x s).window.size,.slice z.a (sentS x s).window.items.length z.c,.int .i64 (sentS x s).clock,.int .i64 (sentS x s).quiet,.slice z.a2 (sentS x s).holds.length z.c2]) (sentS x s) z.F]):=by
 obtain ⟨gw,hl,t0,t1,k0,k1,hm,hn,hu,hb⟩:=goodS_of hg
 obtain ⟨-,⟨z1, -⟩, -⟩:=goodWin_iff.1 gw
 have h:=l11SendU_f x s v F t0 t1 hl z1 (by omega) (wide_of hn) hs
 rw [sentU_eq hu] at h
 exact h
theorem l15Make_f (n:Net) (s:Step) (v:Value) (F FT:List Nat) (hss:s.data.size≤maxLen) (g1:goodNet n=true) (g2:okStep s=true):Fn Tryz.prog 36 [v,.agg #[.int .i64 s.kind,.int .i64 s.node,.string s.data]] [.isv ENet v n F,EnvP FT] [] (fun (_:StZ)=>True) (fun z=>.tuple #[.agg z.cs.toArray,.slice z.a (resStepNet n s).2.1.length z.c,.bool (resStepNet n s).2.2]) (fun z=>[.isv ENet (.agg z.cs.toArray) (resStepNet n s).1 z.F,.ow EStr 9 (.slice z.a (resStepNet n s).2.1.length z.c) (resStepNet n s).2.1 z.Fe]):=by
 have hG:=goodNet_GN.1 g1
 have h8:=goodT hG.t
 have hn8:=h8.n1
 have hn2:=h8.n0
 obtain ⟨q1,q2,q3,q4⟩:=lensN_iff.1 hG.l
 have hkl:=kids_len n.tree.parent 0
 have hkx:∀x∈kids n.tree.parent 0,0≤x∧x.toNat < n.down.length:=fun x hx=>by have:=kids_behind (i:=0) h8 hx;omega
 have hd6:∀q∈n.down,q.length≤6:=fun q hq=>(goodQ_len ((good_els g1).2.2.1 q hq)).1
 have hck:=src_clkN hG.s
 refine enter Tryz.func36 rfl Tryz.ntmps36 fun w0=>?_
 refine openNet ?_
 rintro a1 c1 F1 a2 c2 F2 a3 c3 F3 a4 c4 F4 a5 c5 F5 a6 c6 F6 a7 c7 F7 rfl l1 l2 l3 l4 l5 l6 l7
 refine go ?_;intros
 refine cf (l15Own_f n _ F g1) fun z _=>?_
 refine t_app ?_
 obtain ⟨w,y⟩:=z
 dsimp only
 refine t_read (E:=EInt) (xs:=n.tree.parent) fun Ft=>?_
 refine t_shal (E:=OElement) (xs:=n.elements) one_OElement (m:=2) rfl fun ye Fe Ge he1 he2=>?_
 refine t_flatI (R:=EElement) (xs:=n.elements) weak_Element fun He=>?_
 refine t_shal (E:=OReceiver) (xs:=n.receivers) one_OReceiver (m:=5) rfl fun yr Fr Gr hr1 hr2=>?_
 refine t_flatI (R:=EReceiver) (xs:=n.receivers) weak_Receiver fun Hr=>?_
 refine t_shal (E:=OSl EPacket 127) (xs:=n.down) one_OSlP (m:=1) rfl fun yd Fd Gd hd1 hd2=>?_
 refine t_flatI (R:=ESl EPacket (by decide)) (xs:=n.down) (weak_OSl (Weak.refl EPacket) (by decide) _) fun Hd=>?_
 refine t_shal (E:=OSl EPacket 127) (xs:=n.up) one_OSlP (m:=1) rfl fun yu Fu Gu hu1 hu2=>?_
 refine t_flatI (R:=ESl EPacket (by decide)) (xs:=n.up) (weak_OSl (Weak.refl EPacket) (by decide) _) fun Hu=>?_
 rw [q1,q2,q3,q4]
 refine closeTree n.tree (a1:=w.a1) ?_
 refine go ?_;intros
 refine c_if rfl (fun h1=>?_) (fun h1=>?_)
 ·have e1:stepN n s=some (sendN n s.data,[]):=by unfold stepN;rw [if_pos h1]
  have hgm:=step_good g1 g2 e1
  rw [show resStepNet n s=(sendN n s.data,[],true) by unfold resStepNet;rw [g1,g2,e1];rfl]
  refine go ?_;intros
  refine cf (l11Send_f n.source s.data _ _ hG.s hss) fun u _=>?_
  refine t_app ?_
  refine go ?_;intros
  refine d_start [0,3] [] ?_
  refine dt4 0 1 2 4 ?_
  refine dM 3 5 ?_ ?_
  ·refine oC ?_
   refine cf (l6Children_f n.tree 0 _ Ft (kids_zero h8.z (Int.le_refl _)) ⟨by omega,by omega⟩) fun v _=>?_
   refine t_app ?_
   refine t_read (E:=EInt) (xs:=kids n.tree.parent 0) fun Fk=>?_
   refine dk ?_
   refine dN 5 ?_
   apply o_bs;rfl;rfl;rfl;rfl;exact rptE;exact filE;intro _
   refine t_row (E:=EPacket) (xs:=[pushedP n.source.window s.data]) (flatPacket (pushedP n.source.window s.data) hss) ?_ (by simp)
   refine t_read (E:=EPacket) (xs:=[pushedP n.source.window s.data]) fun Fp=>?_
   refine dk ?_
   refine dN 6 ?_
   refine oC ?_
   refine cf (l15Spread_f n.down (kids n.tree.parent 0) [pushedP n.source.window s.data] _ _ _ _ _ _ _ _ _ _ _ _ _ _ _ _ _ _ _ _ _ _ _ _ _ yd Fd Hd _ _ Fk _ _ Fp hkx hd6) fun x _=>?_
   refine t_app ?_
   refine dk ?_
   refine dd ?_
   refine go ?_;intros
   refine t_emp EStr ?_
   refine go ?_;intros
   refine sh_len (ys:=ye) fun _ w4=>?_
   refine sh_len (ys:=yr) fun _ w5=>?_
   refine sh_len (ys:=x.ys) fun _ w6=>?_
   refine sh_len (ys:=yu) fun _ w7=>?_
   refine t_read (E:=EC 2) (xs:=ye) fun _=>?_
   refine t_read (E:=EC 5) (xs:=yr) fun _=>?_
   refine t_read (E:=EC 1) (xs:=x.ys) fun _=>?_
   refine t_read (E:=EC 1) (xs:=yu) fun _=>?_
   refine endNet (sendN n s.data) (l:=n.tree.parent) (N:=n.tree.parent.length) rfl rfl (goodNet_GN.1 hgm).l w4 w5 w6 w7 (a1:=w.a1) (c1:=w.c1) (a2:=u.a) (c2:=u.c) (a3:=u.a2) (c3:=u.c2) (a4:=y.a4) (c4:=y.c4) (a5:=y.a5) (c5:=y.c5) (a6:=y.a6) (c6:=y.c6) (a7:=y.a7) (c7:=y.c7) fun FN=>?_
   refine ret (⟨[.slice w.a1 n.tree.parent.length w.c1,.int .i64 ((sendN n s.data).source).window.trail,.int .i64 ((sendN n s.data).source).window.size,.slice u.a ((sendN n s.data).source).window.items.length u.c,.int .i64 ((sendN n s.data).source).clock,.int .i64 ((sendN n s.data).source).quiet,.slice u.a2 ((sendN n s.data).source).holds.length u.c2,.slice y.a4 n.tree.parent.length y.c4,.slice y.a5 n.tree.parent.length y.c5,.slice y.a6 n.tree.parent.length y.c6,.slice y.a7 n.tree.parent.length y.c7],FN,_,_,_⟩:StZ) trivial rfl
  ·apply o_bs;rfl;rfl;rfl;rfl;exact rptE;exact filE;intro _
   refine t_row (E:=EPacket) (xs:=[pushedP n.source.window s.data]) (flatPacket (pushedP n.source.window s.data) hss) ?_ (by simp)
   refine t_read (E:=EPacket) (xs:=[pushedP n.source.window s.data]) fun Fp=>?_
   refine dk ?_
   refine dN 3 ?_
   refine oC ?_
   refine cf (l6Children_f n.tree 0 _ Ft (kids_zero h8.z (Int.le_refl _)) ⟨by omega,by omega⟩) fun v _=>?_
   refine t_app ?_
   refine t_read (E:=EInt) (xs:=kids n.tree.parent 0) fun Fk=>?_
   refine dk ?_
   refine dN 6 ?_
   refine oC ?_
   refine cf (l15Spread_f n.down (kids n.tree.parent 0) [pushedP n.source.window s.data] _ _ _ _ _ _ _ _ _ _ _ _ _ _ _ _ _ _ _ _ _ _ _ _ _ yd Fd Hd _ _ Fk _ _ Fp hkx hd6) fun x _=>?_
   refine t_app ?_
   refine dk ?_
   refine dd ?_
   refine go ?_;intros
   refine t_emp EStr ?_
   refine go ?_;intros
   refine sh_len (ys:=ye) fun _ w4=>?_
   refine sh_len (ys:=yr) fun _ w5=>?_
   refine sh_len (ys:=x.ys) fun _ w6=>?_
   refine sh_len (ys:=yu) fun _ w7=>?_
   refine t_read (E:=EC 2) (xs:=ye) fun _=>?_
   refine t_read (E:=EC 5) (xs:=yr) fun _=>?_
   refine t_read (E:=EC 1) (xs:=x.ys) fun _=>?_
   refine t_read (E:=EC 1) (xs:=yu) fun _=>?_
   refine endNet (sendN n s.data) (l:=n.tree.parent) (N:=n.tree.parent.length) rfl rfl (goodNet_GN.1 hgm).l w4 w5 w6 w7 (a1:=w.a1) (c1:=w.c1) (a2:=u.a) (c2:=u.c) (a3:=u.a2) (c3:=u.c2) (a4:=y.a4) (c4:=y.c4) (a5:=y.a5) (c5:=y.c5) (a6:=y.a6) (c6:=y.c6) (a7:=y.a7) (c7:=y.c7) fun FN=>?_
   refine ret (⟨[.slice w.a1 n.tree.parent.length w.c1,.int .i64 ((sendN n s.data).source).window.trail,.int .i64 ((sendN n s.data).source).window.size,.slice u.a ((sendN n s.data).source).window.items.length u.c,.int .i64 ((sendN n s.data).source).clock,.int .i64 ((sendN n s.data).source).quiet,.slice u.a2 ((sendN n s.data).source).holds.length u.c2,.slice y.a4 n.tree.parent.length y.c4,.slice y.a5 n.tree.parent.length y.c5,.slice y.a6 n.tree.parent.length y.c6,.slice y.a7 n.tree.parent.length y.c7],FN,_,_,_⟩:StZ) trivial rfl
 refine go ?_;intros
 refine c_if rfl (fun h4=>?_) (fun h4=>?_)
 ·refine go ?_;intros
  refine c_if rfl (fun hc=>?_) (fun hc=>?_)
  ·have e1:stepN n s=none:=by unfold stepN;rw [if_neg h1,if_pos h4,if_pos hc]
   rw [show resStepNet n s=(zNet,[],false) by unfold resStepNet;rw [g1,g2,e1];rfl]
   refine t_nilsl EInt (by decide) ?_
   refine t_nilsl EStr (by decide) ?_
   refine t_nilsl EHold (by decide) ?_
   refine t_nilsl EElement (by decide) ?_
   refine t_nilsl EReceiver (by decide) ?_
   refine t_nilsl (ESl EPacket (by decide)) (by decide) ?_
   refine t_nilsl (ESl EPacket (by decide)) (by decide) ?_
   refine closeNet zNet (a1:=none) (c1:=0) (a2:=none) (c2:=0) (a3:=none) (c3:=0) (a4:=none) (c4:=0) (a5:=none) (c5:=0) (a6:=none) (c6:=0) (a7:=none) (c7:=0) ?_
   refine go ?_;intros
   refine t_emp EStr ?_
   refine go ?_;intros
   refine ret (⟨[.slice none 0 0,.int .i64 0,.int .i64 0,.slice none 0 0,.int .i64 0,.int .i64 0,.slice none 0 0,.slice none 0 0,.slice none 0 0,.slice none 0 0,.slice none 0 0],_,_,_,_⟩:StZ) trivial rfl
  ·have e1:stepN n s=some (tickN n):=by unfold stepN;rw [if_neg h1,if_pos h4,if_neg hc]
   have hgm:=step_good g1 g2 e1
   rw [show resStepNet n s=((tickN n).1,(tickN n).2,true) by unfold resStepNet;rw [g1,g2,e1];rfl]
   refine go ?_;intros
   refine cf (l15Tick_f n w.a1 w.c1 y.a4 y.c4 y.a5 y.c5 y.a6 y.c6 y.a7 y.c7 w.s.a w.s.a2 w.s.c w.s.c2 Ft w.s.F FT ⟨⟨ye,Fe,He⟩,⟨yr,Fr,Hr⟩,⟨yd,Fd,Hd⟩,⟨yu,Fu,Hu⟩⟩ g1 (by omega)) fun x _=>?_
   refine t_app ?_
   refine go ?_;intros
   refine sh_len (ys:=x.1.e.ys) fun _ w4=>?_
   refine sh_len (ys:=x.1.r.ys) fun _ w5=>?_
   refine sh_len (ys:=x.1.d.ys) fun _ w6=>?_
   refine sh_len (ys:=x.1.u.ys) fun _ w7=>?_
   refine t_read (E:=EC 2) (xs:=x.1.e.ys) fun _=>?_
   refine t_read (E:=EC 5) (xs:=x.1.r.ys) fun _=>?_
   refine t_read (E:=EC 1) (xs:=x.1.d.ys) fun _=>?_
   refine t_read (E:=EC 1) (xs:=x.1.u.ys) fun _=>?_
   refine endNet ((tickN n).1) (l:=n.tree.parent) (N:=n.tree.parent.length) (congrArg Tree.parent (step_tree e1)) rfl (goodNet_GN.1 hgm).l w4 w5 w6 w7 (a1:=w.a1) (c1:=w.c1) (a2:=x.2.1.a) (c2:=x.2.1.c) (a3:=x.2.1.a2) (c3:=x.2.1.c2) (a4:=y.a4) (c4:=y.c4) (a5:=y.a5) (c5:=y.c5) (a6:=y.a6) (c6:=y.c6) (a7:=y.a7) (c7:=y.c7) fun FN=>?_
   refine ret (⟨[.slice w.a1 n.tree.parent.length w.c1,.int .i64 (((tickN n).1).source).window.trail,.int .i64 (((tickN n).1).source).window.size,.slice x.2.1.a (((tickN n).1).source).window.items.length x.2.1.c,.int .i64 (((tickN n).1).source).clock,.int .i64 (((tickN n).1).source).quiet,.slice x.2.1.a2 (((tickN n).1).source).holds.length x.2.1.c2,.slice y.a4 n.tree.parent.length y.c4,.slice y.a5 n.tree.parent.length y.c5,.slice y.a6 n.tree.parent.length y.c6,.slice y.a7 n.tree.parent.length y.c7],FN,_,_,_⟩:StZ) trivial rfl
 have htk0:stepN n s=takenN n s:=by unfold stepN;rw [if_neg h1,if_neg h4]
 have hf:isFac s.node=true:=by
  have:=g2
  unfold okStep at this
  rw [if_neg h1,if_neg h4] at this
  simp only [Bool.and_eq_true] at this
  exact this.1.2
 obtain ⟨f1,f2⟩:=isFac_iff.1 hf
 obtain ⟨i,hi⟩:∃i:Nat,s.node=((i:Nat):Int):=⟨s.node.toNat,by omega⟩
 have i0:i≠0:=by omega
 rw [hi]
 by_cases k5:s.kind=5
 ·have hu:isUp s=true:=by unfold isUp;rw [decide_eq_true k5];rfl
  have hq:∀h:i < n.up.length,queN n s=n.up[i]:=fun h=>by unfold queN;rw [hu,if_pos rfl,hi,Int.toNat_natCast];exact getN h []
  have hpo:poppedN n s=popU n i:=by unfold poppedN;rw [hu,if_pos rfl,hi,Int.toNat_natCast]
  refine go ?_;intros
  refine wg_if rfl rfl (fun g5=>?_) (fun g5=>?_)
  rotate_left
  ·exact absurd k5 g5
  refine go ?_;intros
  refine wg_if rfl rfl (fun h6=>?_) (fun h6=>?_)
  ·have e1:takenN n s=none:=by unfold takenN;rw [if_pos (by omega)]
   rw [show resStepNet n s=(zNet,[],false) by unfold resStepNet;rw [g1,g2,htk0,e1];rfl]
   refine t_nilsl EInt (by decide) ?_
   refine t_nilsl EStr (by decide) ?_
   refine t_nilsl EHold (by decide) ?_
   refine t_nilsl EElement (by decide) ?_
   refine t_nilsl EReceiver (by decide) ?_
   refine t_nilsl (ESl EPacket (by decide)) (by decide) ?_
   refine t_nilsl (ESl EPacket (by decide)) (by decide) ?_
   refine closeNet zNet (a1:=none) (c1:=0) (a2:=none) (c2:=0) (a3:=none) (c3:=0) (a4:=none) (c4:=0) (a5:=none) (c5:=0) (a6:=none) (c6:=0) (a7:=none) (c7:=0) ?_
   refine go ?_;intros
   refine t_emp EStr ?_
   refine go ?_;intros
   refine ret (⟨[.slice none 0 0,.int .i64 0,.int .i64 0,.slice none 0 0,.int .i64 0,.int .i64 0,.slice none 0 0,.slice none 0 0,.slice none 0 0,.slice none 0 0,.slice none 0 0],_,_,_,_⟩:StZ) trivial rfl
  have hil:i < n.up.length:=by omega
  have hq:=hq hil
  refine sh_len (ys:=yu) fun hm hlr=>?_
  refine sh_at (ys:=yu) (xs:=n.up) i hm (by omega) (by omega) fun h9 _ Gq=>?_
  refine isv_sl (x:=n.up[i]) fun a9 c9 e9 l9=>?_
  have e10:yu[i]=[.slice a9 n.up[i].length c9]:=by simpa using e9
  refine focF (E:=EC 1) (xs:=yu) (m:=1) (scal_EC 1) i ?_ (by repeat (first|exact .here|apply Pick.there)) rfl h9
  rintro _ gq Aq cs Bq ea j2 j3 hHq
  rw [ea]
  obtain ⟨j4, -, -⟩:=j3 w0
  rw [e10] at j4
  subst j4
  refine go ?_;intros
  refine c_if rfl (fun h7=>?_) (fun h7=>?_)
  ·have e1:takenN n s=none:=by unfold takenN;rw [if_neg (by omega),hq,if_pos (by omega)]
   rw [show resStepNet n s=(zNet,[],false) by unfold resStepNet;rw [g1,g2,htk0,e1];rfl]
   refine t_nilsl EInt (by decide) ?_
   refine t_nilsl EStr (by decide) ?_
   refine t_nilsl EHold (by decide) ?_
   refine t_nilsl EElement (by decide) ?_
   refine t_nilsl EReceiver (by decide) ?_
   refine t_nilsl (ESl EPacket (by decide)) (by decide) ?_
   refine t_nilsl (ESl EPacket (by decide)) (by decide) ?_
   refine closeNet zNet (a1:=none) (c1:=0) (a2:=none) (c2:=0) (a3:=none) (c3:=0) (a4:=none) (c4:=0) (a5:=none) (c5:=0) (a6:=none) (c6:=0) (a7:=none) (c7:=0) ?_
   refine go ?_;intros
   refine t_emp EStr ?_
   refine go ?_;intros
   refine ret (⟨[.slice none 0 0,.int .i64 0,.int .i64 0,.slice none 0 0,.int .i64 0,.int .i64 0,.slice none 0 0,.slice none 0 0,.slice none 0 0,.slice none 0 0,.slice none 0 0],_,_,_,_⟩:StZ) trivial rfl
  have h0:0 < n.up[i].length:=by omega
  refine atPacket (xs:=n.up[i]) 0 ?_
  rintro hi3 b3 o3 e3 s3
  rw [e3]
  refine go ?_;intros
  refine d_start [2,17] [10] ?_
  refine dt4 0 1 2 3 ?_
  refine dt4 4 5 6 7 ?_
  refine dN 8 ?_
  refine sld 1 fun a8 c8 F8=>?_
  refine dk ?_
  refine dt 9 ?_
  refine dN 10 ?_
  refine oS ?_
  refine dkx ?_
  refine dd ?_
  refine unfF (E:=EC 1) (xs:=yu) [.slice a8 (n.up[i].drop 1).length c8] hHq (fun _=>⟨rfl,⟨rfl,by simp [Value.oneCell']⟩,rfl⟩) ?_
  refine sl_isv (E:=EPacket) (x:=n.up[i].drop 1) (by decide) ?_
  refine sh_set (E:=ESl EPacket (by decide)) (ys:=yu) (xs:=n.up) (x:=n.up[i].drop 1) i rfl hm (by omega) fun Gv=>?_
  rw [←ea,show n.up.set i (n.up[i].drop 1)=(popU n i).up from (modify_set (by omega)).symm]
  have hmem:=popP_mem h0
  have hpk:goodPk (popP n.up[i])=true:=goodQ_mem (hq▸(que_good (s:=s) g1).1) hmem
  have hpz:(popP n.up[i]).data.size≤maxLen:=by
   have h9:=hpk
   unfold goodPk itm at h9
   simp only [Bool.and_eq_true,decide_eq_true_eq] at h9
   unfold maxLen;omega
  have hgp:goodNet (popU n i)=true:=hpo▸popped_good g1
  have hGp:=goodNet_GN.1 hgp
  have hPg:=popP_get h0
  rw [←hPg]
  generalize hP:popP n.up[i]=P at *
  have htk:takenN n s=some (upN (popU n i) i P,[]):=by
   unfold takenN
   rw [if_neg (by omega),hq,if_neg (by omega),hpo,hP,hi,Int.toNat_natCast]
   rw [if_neg (by omega),if_pos k5]
  have hgm:=step_good g1 g2 (htk0.trans htk)
  rw [show resStepNet n s=(upN (popU n i) i P,[],true) by unfold resStepNet;rw [g1,g2,htk0,htk];rfl]
  refine go ?_;intros
  refine c_if rfl (fun k2=>?_) (fun k2=>?_)
  ·exact absurd k2 (by omega)
  refine go ?_;intros
  refine c_if rfl (fun m5=>?_) (fun m5=>?_)
  rotate_left
  ·exact absurd k5 m5
  have hdp:∀q∈(popU n i).down,q.length≤6:=fun q hq=>(goodQ_len ((good_els hgp).2.2.1 q hq)).1
  have hup:∀q∈(popU n i).up,q.length≤6:=fun q hq=>(goodQ_len ((good_els hgp).2.2.2 q hq)).1
  refine go ?_;intros
  refine cf (l15Up_f (popU n i) i P w.a1 w.c1 y.a4 y.c4 y.a5 y.c5 y.a6 y.c6 y.a7 y.c7 w.s.a w.s.a2 w.s.c w.s.c2 Ft w.s.F ⟨⟨ye,Fe,He⟩,⟨yr,Fr,Hr⟩,⟨yd,Fd,Hd⟩,⟨yu.set i [.slice a8 (n.up[i].drop 1).length c8],[gq],Gv⟩⟩ hGp.l i0 (by show i < n.tree.parent.length;omega) (goodT hGp.t) hGp.s (fun k hk hkl hl=>by obtain ⟨x1,x2,x3,x4,r⟩:=hGp.rn (i:=k) hkl;rw [elAt_get x1];exact (r.hn hk hl).1) hpk hpz hdp hup) fun x _=>?_
  refine t_app ?_
  refine go ?_;intros
  refine t_emp EStr ?_
  refine go ?_;intros
  refine sh_len (ys:=x.1.e.ys) fun _ w4=>?_
  refine sh_len (ys:=x.1.r.ys) fun _ w5=>?_
  refine sh_len (ys:=x.1.d.ys) fun _ w6=>?_
  refine sh_len (ys:=x.1.u.ys) fun _ w7=>?_
  refine t_read (E:=EC 2) (xs:=x.1.e.ys) fun _=>?_
  refine t_read (E:=EC 5) (xs:=x.1.r.ys) fun _=>?_
  refine t_read (E:=EC 1) (xs:=x.1.d.ys) fun _=>?_
  refine t_read (E:=EC 1) (xs:=x.1.u.ys) fun _=>?_
  refine endNet (upN (popU n i) i P) (l:=n.tree.parent) (N:=n.tree.parent.length) (congrArg Tree.parent (step_tree (htk0.trans htk))) rfl (goodNet_GN.1 hgm).l w4 w5 w6 w7 (a1:=w.a1) (c1:=w.c1) (a2:=x.2.a) (c2:=x.2.c) (a3:=x.2.a2) (c3:=x.2.c2) (a4:=y.a4) (c4:=y.c4) (a5:=y.a5) (c5:=y.c5) (a6:=y.a6) (c6:=y.c6) (a7:=y.a7) (c7:=y.c7) fun FN=>?_
  refine ret (⟨[.slice w.a1 n.tree.parent.length w.c1,.int .i64 ((upN (popU n i) i P).source).window.trail,.int .i64 ((upN (popU n i) i P).source).window.size,.slice x.2.a ((upN (popU n i) i P).source).window.items.length x.2.c,.int .i64 ((upN (popU n i) i P).source).clock,.int .i64 ((upN (popU n i) i P).source).quiet,.slice x.2.a2 ((upN (popU n i) i P).source).holds.length x.2.c2,.slice y.a4 n.tree.parent.length y.c4,.slice y.a5 n.tree.parent.length y.c5,.slice y.a6 n.tree.parent.length y.c6,.slice y.a7 n.tree.parent.length y.c7],FN,_,_,_⟩:StZ) trivial rfl
 by_cases k6:s.kind=6
 ·have hu:isUp s=true:=by unfold isUp;rw [decide_eq_true k6,Bool.or_true]
  have hq:∀h:i < n.up.length,queN n s=n.up[i]:=fun h=>by unfold queN;rw [hu,if_pos rfl,hi,Int.toNat_natCast];exact getN h []
  have hpo:poppedN n s=popU n i:=by unfold poppedN;rw [hu,if_pos rfl,hi,Int.toNat_natCast]
  refine go ?_;intros
  refine wg_if rfl rfl (fun g5=>?_) (fun g5=>?_)
  ·exact absurd g5 (by omega)
  refine go ?_;intros
  refine c_if rfl (fun g6=>?_) (fun g6=>?_)
  rotate_left
  ·exact absurd k6 g6
  refine go ?_;intros
  refine wg_if rfl rfl (fun h6=>?_) (fun h6=>?_)
  ·have e1:takenN n s=none:=by unfold takenN;rw [if_pos (by omega)]
   rw [show resStepNet n s=(zNet,[],false) by unfold resStepNet;rw [g1,g2,htk0,e1];rfl]
   refine t_nilsl EInt (by decide) ?_
   refine t_nilsl EStr (by decide) ?_
   refine t_nilsl EHold (by decide) ?_
   refine t_nilsl EElement (by decide) ?_
   refine t_nilsl EReceiver (by decide) ?_
   refine t_nilsl (ESl EPacket (by decide)) (by decide) ?_
   refine t_nilsl (ESl EPacket (by decide)) (by decide) ?_
   refine closeNet zNet (a1:=none) (c1:=0) (a2:=none) (c2:=0) (a3:=none) (c3:=0) (a4:=none) (c4:=0) (a5:=none) (c5:=0) (a6:=none) (c6:=0) (a7:=none) (c7:=0) ?_
   refine go ?_;intros
   refine t_emp EStr ?_
   refine go ?_;intros
   refine ret (⟨[.slice none 0 0,.int .i64 0,.int .i64 0,.slice none 0 0,.int .i64 0,.int .i64 0,.slice none 0 0,.slice none 0 0,.slice none 0 0,.slice none 0 0,.slice none 0 0],_,_,_,_⟩:StZ) trivial rfl
  have hil:i < n.up.length:=by omega
  have hq:=hq hil
  refine sh_len (ys:=yu) fun hm hlr=>?_
  refine sh_at (ys:=yu) (xs:=n.up) i hm (by omega) (by omega) fun h9 _ Gq=>?_
  refine isv_sl (x:=n.up[i]) fun a9 c9 e9 l9=>?_
  have e10:yu[i]=[.slice a9 n.up[i].length c9]:=by simpa using e9
  refine focF (E:=EC 1) (xs:=yu) (m:=1) (scal_EC 1) i ?_ (by repeat (first|exact .here|apply Pick.there)) rfl h9
  rintro _ gq Aq cs Bq ea j2 j3 hHq
  rw [ea]
  obtain ⟨j4, -, -⟩:=j3 w0
  rw [e10] at j4
  subst j4
  refine go ?_;intros
  refine c_if rfl (fun h7=>?_) (fun h7=>?_)
  ·have e1:takenN n s=none:=by unfold takenN;rw [if_neg (by omega),hq,if_pos (by omega)]
   rw [show resStepNet n s=(zNet,[],false) by unfold resStepNet;rw [g1,g2,htk0,e1];rfl]
   refine t_nilsl EInt (by decide) ?_
   refine t_nilsl EStr (by decide) ?_
   refine t_nilsl EHold (by decide) ?_
   refine t_nilsl EElement (by decide) ?_
   refine t_nilsl EReceiver (by decide) ?_
   refine t_nilsl (ESl EPacket (by decide)) (by decide) ?_
   refine t_nilsl (ESl EPacket (by decide)) (by decide) ?_
   refine closeNet zNet (a1:=none) (c1:=0) (a2:=none) (c2:=0) (a3:=none) (c3:=0) (a4:=none) (c4:=0) (a5:=none) (c5:=0) (a6:=none) (c6:=0) (a7:=none) (c7:=0) ?_
   refine go ?_;intros
   refine t_emp EStr ?_
   refine go ?_;intros
   refine ret (⟨[.slice none 0 0,.int .i64 0,.int .i64 0,.slice none 0 0,.int .i64 0,.int .i64 0,.slice none 0 0,.slice none 0 0,.slice none 0 0,.slice none 0 0,.slice none 0 0],_,_,_,_⟩:StZ) trivial rfl
  have h0:0 < n.up[i].length:=by omega
  refine atPacket (xs:=n.up[i]) 0 ?_
  rintro hi3 b3 o3 e3 s3
  rw [e3]
  refine go ?_;intros
  refine d_start [2,17] [10] ?_
  refine dt4 0 1 2 3 ?_
  refine dt4 4 5 6 7 ?_
  refine dN 8 ?_
  refine sld 1 fun a8 c8 F8=>?_
  refine dk ?_
  refine dt 9 ?_
  refine dN 10 ?_
  refine oS ?_
  refine dkx ?_
  refine dd ?_
  refine unfF (E:=EC 1) (xs:=yu) [.slice a8 (n.up[i].drop 1).length c8] hHq (fun _=>⟨rfl,⟨rfl,by simp [Value.oneCell']⟩,rfl⟩) ?_
  refine sl_isv (E:=EPacket) (x:=n.up[i].drop 1) (by decide) ?_
  refine sh_set (E:=ESl EPacket (by decide)) (ys:=yu) (xs:=n.up) (x:=n.up[i].drop 1) i rfl hm (by omega) fun Gv=>?_
  rw [←ea,show n.up.set i (n.up[i].drop 1)=(popU n i).up from (modify_set (by omega)).symm]
  have hmem:=popP_mem h0
  have hpk:goodPk (popP n.up[i])=true:=goodQ_mem (hq▸(que_good (s:=s) g1).1) hmem
  have hpz:(popP n.up[i]).data.size≤maxLen:=by
   have h9:=hpk
   unfold goodPk itm at h9
   simp only [Bool.and_eq_true,decide_eq_true_eq] at h9
   unfold maxLen;omega
  have hgp:goodNet (popU n i)=true:=hpo▸popped_good g1
  have hGp:=goodNet_GN.1 hgp
  have hPg:=popP_get h0
  rw [←hPg]
  generalize hP:popP n.up[i]=P at *
  have htk:takenN n s=some (popU n i,[]):=by
   unfold takenN
   rw [if_neg (by omega),hq,if_neg (by omega),hpo,hP,hi,Int.toNat_natCast]
   rw [if_neg (by omega),if_neg (by omega)]
  have hgm:=step_good g1 g2 (htk0.trans htk)
  rw [show resStepNet n s=(popU n i,[],true) by unfold resStepNet;rw [g1,g2,htk0,htk];rfl]
  refine go ?_;intros
  refine c_if rfl (fun k2=>?_) (fun k2=>?_)
  ·exact absurd k2 (by omega)
  refine go ?_;intros
  refine c_if rfl (fun m5=>?_) (fun m5=>?_)
  ·exact absurd m5 (by omega)
  refine go ?_;intros
  refine t_emp EStr ?_
  refine go ?_;intros
  refine sh_len (ys:=ye) fun _ w4=>?_
  refine sh_len (ys:=yr) fun _ w5=>?_
  refine sh_len (ys:=yd) fun _ w6=>?_
  refine sh_len (ys:=(yu.set i [.slice a8 (n.up[i].drop 1).length c8])) fun _ w7=>?_
  refine t_read (E:=EC 2) (xs:=ye) fun _=>?_
  refine t_read (E:=EC 5) (xs:=yr) fun _=>?_
  refine t_read (E:=EC 1) (xs:=yd) fun _=>?_
  refine t_read (E:=EC 1) (xs:=(yu.set i [.slice a8 (n.up[i].drop 1).length c8])) fun _=>?_
  refine endNet (popU n i) (l:=n.tree.parent) (N:=n.tree.parent.length) rfl rfl (goodNet_GN.1 hgm).l w4 w5 w6 w7 (a1:=w.a1) (c1:=w.c1) (a2:=w.s.a) (c2:=w.s.c) (a3:=w.s.a2) (c3:=w.s.c2) (a4:=y.a4) (c4:=y.c4) (a5:=y.a5) (c5:=y.c5) (a6:=y.a6) (c6:=y.c6) (a7:=y.a7) (c7:=y.c7) fun FN=>?_
  refine ret (⟨[.slice w.a1 n.tree.parent.length w.c1,.int .i64 ((popU n i).source).window.trail,.int .i64 ((popU n i).source).window.size,.slice w.s.a ((popU n i).source).window.items.length w.s.c,.int .i64 ((popU n i).source).clock,.int .i64 ((popU n i).source).quiet,.slice w.s.a2 ((popU n i).source).holds.length w.s.c2,.slice y.a4 n.tree.parent.length y.c4,.slice y.a5 n.tree.parent.length y.c5,.slice y.a6 n.tree.parent.length y.c6,.slice y.a7 n.tree.parent.length y.c7],FN,_,_,_⟩:StZ) trivial rfl
 have hu:isUp s=false:=by unfold isUp;rw [decide_eq_false k5,decide_eq_false k6];rfl
 have hq:∀h:i < n.down.length,queN n s=n.down[i]:=fun h=>by unfold queN;rw [hu,if_neg (by decide),hi,Int.toNat_natCast];exact getN h []
 have hpo:poppedN n s=popD n i:=by unfold poppedN;rw [hu,if_neg (by decide),hi,Int.toNat_natCast]
 refine go ?_;intros
 refine wg_if rfl rfl (fun g5=>?_) (fun g5=>?_)
 ·exact absurd g5 k5
 refine go ?_;intros
 refine c_if rfl (fun g6=>?_) (fun g6=>?_)
 ·exact absurd g6 k6
 refine go ?_;intros
 refine wg_if rfl rfl (fun h6=>?_) (fun h6=>?_)
 ·have e1:takenN n s=none:=by unfold takenN;rw [if_pos (by omega)]
  rw [show resStepNet n s=(zNet,[],false) by unfold resStepNet;rw [g1,g2,htk0,e1];rfl]
  refine t_nilsl EInt (by decide) ?_
  refine t_nilsl EStr (by decide) ?_
  refine t_nilsl EHold (by decide) ?_
  refine t_nilsl EElement (by decide) ?_
  refine t_nilsl EReceiver (by decide) ?_
  refine t_nilsl (ESl EPacket (by decide)) (by decide) ?_
  refine t_nilsl (ESl EPacket (by decide)) (by decide) ?_
  refine closeNet zNet (a1:=none) (c1:=0) (a2:=none) (c2:=0) (a3:=none) (c3:=0) (a4:=none) (c4:=0) (a5:=none) (c5:=0) (a6:=none) (c6:=0) (a7:=none) (c7:=0) ?_
  refine go ?_;intros
  refine t_emp EStr ?_
  refine go ?_;intros
  refine ret (⟨[.slice none 0 0,.int .i64 0,.int .i64 0,.slice none 0 0,.int .i64 0,.int .i64 0,.slice none 0 0,.slice none 0 0,.slice none 0 0,.slice none 0 0,.slice none 0 0],_,_,_,_⟩:StZ) trivial rfl
 have hil:i < n.down.length:=by omega
 have hq:=hq hil
 refine sh_len (ys:=yd) fun hm hlr=>?_
 refine sh_at (ys:=yd) (xs:=n.down) i hm (by omega) (by omega) fun h9 _ Gq=>?_
 refine isv_sl (x:=n.down[i]) fun a9 c9 e9 l9=>?_
 have e10:yd[i]=[.slice a9 n.down[i].length c9]:=by simpa using e9
 refine focF (E:=EC 1) (xs:=yd) (m:=1) (scal_EC 1) i ?_ (by repeat (first|exact .here|apply Pick.there)) rfl h9
 rintro _ gq Aq cs Bq ea j2 j3 hHq
 rw [ea]
 obtain ⟨j4, -, -⟩:=j3 w0
 rw [e10] at j4
 subst j4
 refine go ?_;intros
 refine c_if rfl (fun h7=>?_) (fun h7=>?_)
 ·have e1:takenN n s=none:=by unfold takenN;rw [if_neg (by omega),hq,if_pos (by omega)]
  rw [show resStepNet n s=(zNet,[],false) by unfold resStepNet;rw [g1,g2,htk0,e1];rfl]
  refine t_nilsl EInt (by decide) ?_
  refine t_nilsl EStr (by decide) ?_
  refine t_nilsl EHold (by decide) ?_
  refine t_nilsl EElement (by decide) ?_
  refine t_nilsl EReceiver (by decide) ?_
  refine t_nilsl (ESl EPacket (by decide)) (by decide) ?_
  refine t_nilsl (ESl EPacket (by decide)) (by decide) ?_
  refine closeNet zNet (a1:=none) (c1:=0) (a2:=none) (c2:=0) (a3:=none) (c3:=0) (a4:=none) (c4:=0) (a5:=none) (c5:=0) (a6:=none) (c6:=0) (a7:=none) (c7:=0) ?_
  refine go ?_;intros
  refine t_emp EStr ?_
  refine go ?_;intros
  refine ret (⟨[.slice none 0 0,.int .i64 0,.int .i64 0,.slice none 0 0,.int .i64 0,.int .i64 0,.slice none 0 0,.slice none 0 0,.slice none 0 0,.slice none 0 0,.slice none 0 0],_,_,_,_⟩:StZ) trivial rfl
 have h0:0 < n.down[i].length:=by omega
 refine atPacket (xs:=n.down[i]) 0 ?_
 rintro hi3 b3 o3 e3 s3
 rw [e3]
 refine go ?_;intros
 refine d_start [2,17] [10] ?_
 refine dt4 0 1 2 3 ?_
 refine dt4 4 5 6 7 ?_
 refine dN 8 ?_
 refine sld 1 fun a8 c8 F8=>?_
 refine dk ?_
 refine dt 9 ?_
 refine dN 10 ?_
 refine oS ?_
 refine dkx ?_
 refine dd ?_
 refine unfF (E:=EC 1) (xs:=yd) [.slice a8 (n.down[i].drop 1).length c8] hHq (fun _=>⟨rfl,⟨rfl,by simp [Value.oneCell']⟩,rfl⟩) ?_
 refine sl_isv (E:=EPacket) (x:=n.down[i].drop 1) (by decide) ?_
 refine sh_set (E:=ESl EPacket (by decide)) (ys:=yd) (xs:=n.down) (x:=n.down[i].drop 1) i rfl hm (by omega) fun Gv=>?_
 rw [←ea,show n.down.set i (n.down[i].drop 1)=(popD n i).down from (modify_set (by omega)).symm]
 have hmem:=popP_mem h0
 have hpk:goodPk (popP n.down[i])=true:=goodQ_mem (hq▸(que_good (s:=s) g1).1) hmem
 have hpz:(popP n.down[i]).data.size≤maxLen:=by
  have h9:=hpk
  unfold goodPk itm at h9
  simp only [Bool.and_eq_true,decide_eq_true_eq] at h9
  unfold maxLen;omega
 have hgp:goodNet (popD n i)=true:=hpo▸popped_good g1
 have hGp:=goodNet_GN.1 hgp
 have hPg:=popP_get h0
 rw [←hPg]
 generalize hP:popP n.down[i]=P at *
 have htk:takenN n s=if s.kind=2 then some (delivN (popD n i) i P) else some (popD n i,[]):=by
  unfold takenN
  rw [if_neg (by omega),hq,if_neg (by omega),hpo,hP,hi,Int.toNat_natCast]
  split
  ·rfl
  ·first|rfl|rw [if_neg k5]
 have hdp:∀q∈(popD n i).down,q.length≤6:=fun q hq=>(goodQ_len ((good_els hgp).2.2.1 q hq)).1
 refine go ?_;intros
 refine c_if rfl (fun k2=>?_) (fun k2=>?_)
 ·rw [if_pos k2] at htk
  have hgm:=step_good g1 g2 (htk0.trans htk)
  rw [show resStepNet n s=((delivN (popD n i) i P).1,(delivN (popD n i) i P).2,true) by unfold resStepNet;rw [g1,g2,htk0,htk];rfl]
  refine go ?_;intros
  have hls:(delivN (popD n i) i P).1.source=n.source:=by unfold delivN;split <;> rfl
  refine d_start [4,8,20] [] ?_
  refine dt4 0 1 2 3 ?_
  refine dt 4 ?_
  refine dN 5 ?_
  refine oC ?_
  refine cf (l15Deliver_f (popD n i) i P w.a1 w.c1 y.a4 y.c4 y.a5 y.c5 y.a6 y.c6 y.a7 y.c7 w.s.a w.s.a2 n.source.window.items.length w.s.c n.source.holds.length w.s.c2 _ _ _ _ Ft ⟨⟨ye,Fe,He⟩,⟨yr,Fr,Hr⟩,⟨yd.set i [.slice a8 (n.down[i].drop 1).length c8],[gq],Gv⟩,⟨yu,Fu,Hu⟩⟩ FT hGp.l (by show i < n.tree.parent.length;omega) (by omega) (goodT hGp.t) (fun hl=>by obtain ⟨x1,x2,x3,x4,r⟩:=hGp.rn (i:=i) (by show i < n.tree.parent.length;omega);rw [rcAt_get x2];exact (r.hf i0 hl).2.1) (fun hl=>by obtain ⟨x1,x2,x3,x4,r⟩:=hGp.rn (i:=i) (by show i < n.tree.parent.length;omega);rw [elAt_get x1];exact (r.hn i0 hl).1) hpk hpz hdp) fun x _=>?_
  refine t_app ?_
  refine dk ?_
  refine dN 6 ?_
  refine oS ?_
  refine dk ?_
  refine dt2 7 8 ?_
  refine dd ?_
  refine go ?_;intros
  rw [←hls]
  refine sh_len (ys:=x.1.e.ys) fun _ w4=>?_
  refine sh_len (ys:=x.1.r.ys) fun _ w5=>?_
  refine sh_len (ys:=x.1.d.ys) fun _ w6=>?_
  refine sh_len (ys:=x.1.u.ys) fun _ w7=>?_
  refine t_read (E:=EC 2) (xs:=x.1.e.ys) fun _=>?_
  refine t_read (E:=EC 5) (xs:=x.1.r.ys) fun _=>?_
  refine t_read (E:=EC 1) (xs:=x.1.d.ys) fun _=>?_
  refine t_read (E:=EC 1) (xs:=x.1.u.ys) fun _=>?_
  refine endNet ((delivN (popD n i) i P).1) (l:=n.tree.parent) (N:=n.tree.parent.length) (congrArg Tree.parent (step_tree (htk0.trans htk))) rfl (goodNet_GN.1 hgm).l w4 w5 w6 w7 (a1:=w.a1) (c1:=w.c1) (a2:=w.s.a) (c2:=w.s.c) (a3:=w.s.a2) (c3:=w.s.c2) (a4:=y.a4) (c4:=y.c4) (a5:=y.a5) (c5:=y.c5) (a6:=y.a6) (c6:=y.c6) (a7:=y.a7) (c7:=y.c7) fun FN=>?_
  refine ret (⟨[.slice w.a1 n.tree.parent.length w.c1,.int .i64 (((delivN (popD n i) i P).1).source).window.trail,.int .i64 (((delivN (popD n i) i P).1).source).window.size,.slice w.s.a (((delivN (popD n i) i P).1).source).window.items.length w.s.c,.int .i64 (((delivN (popD n i) i P).1).source).clock,.int .i64 (((delivN (popD n i) i P).1).source).quiet,.slice w.s.a2 (((delivN (popD n i) i P).1).source).holds.length w.s.c2,.slice y.a4 n.tree.parent.length y.c4,.slice y.a5 n.tree.parent.length y.c5,.slice y.a6 n.tree.parent.length y.c6,.slice y.a7 n.tree.parent.length y.c7],FN,x.2.a,x.2.c,x.2.F⟩:StZ) trivial rfl
 ·rw [if_neg k2] at htk
  have hgm:=step_good g1 g2 (htk0.trans htk)
  rw [show resStepNet n s=(popD n i,[],true) by unfold resStepNet;rw [g1,g2,htk0,htk];rfl]
  refine go ?_;intros
  refine c_if rfl (fun m5=>?_) (fun m5=>?_)
  ·exact absurd m5 k5
  refine go ?_;intros
  refine t_emp EStr ?_
  refine go ?_;intros
  refine sh_len (ys:=ye) fun _ w4=>?_
  refine sh_len (ys:=yr) fun _ w5=>?_
  refine sh_len (ys:=(yd.set i [.slice a8 (n.down[i].drop 1).length c8])) fun _ w6=>?_
  refine sh_len (ys:=yu) fun _ w7=>?_
  refine t_read (E:=EC 2) (xs:=ye) fun _=>?_
  refine t_read (E:=EC 5) (xs:=yr) fun _=>?_
  refine t_read (E:=EC 1) (xs:=(yd.set i [.slice a8 (n.down[i].drop 1).length c8])) fun _=>?_
  refine t_read (E:=EC 1) (xs:=yu) fun _=>?_
  refine endNet (popD n i) (l:=n.tree.parent) (N:=n.tree.parent.length) rfl rfl (goodNet_GN.1 hgm).l w4 w5 w6 w7 (a1:=w.a1) (c1:=w.c1) (a2:=w.s.a) (c2:=w.s.c) (a3:=w.s.a2) (c3:=w.s.c2) (a4:=y.a4) (c4:=y.c4) (a5:=y.a5) (c5:=y.c5) (a6:=y.a6) (c6:=y.c6) (a7:=y.a7) (c7:=y.c7) fun FN=>?_
  refine ret (⟨[.slice w.a1 n.tree.parent.length w.c1,.int .i64 ((popD n i).source).window.trail,.int .i64 ((popD n i).source).window.size,.slice w.s.a ((popD n i).source).window.items.length w.s.c,.int .i64 ((popD n i).source).clock,.int .i64 ((popD n i).source).quiet,.slice w.s.a2 ((popD n i).source).holds.length w.s.c2,.slice y.a4 n.tree.parent.length y.c4,.slice y.a5 n.tree.parent.length y.c5,.slice y.a6 n.tree.parent.length y.c6,.slice y.a7 n.tree.parent.length y.c7],FN,_,_,_⟩:StZ) trivial rfl
end Go.Proofs.YtgmbfohkpfineaaGreatDoor
namespace Go.Proofs.YtgmbfohkpfineaaGreatDoor

open Go.RowKit
end Go.Proofs.YtgmbfohkpfineaaGreatDoor
namespace Go.Proofs.YtgmbfohkpfineaaGreatDoor
open Go.RowKit
structure DqS where
 x:NE
 b:Bool
 cs:List Value
 F:List Nat
 a:Option Addr
 c:Nat
 Fe:List Nat
structure DqK where
 k:Nat
 cs:List Value
 F:List Nat
 a:Option Addr
 c:Nat
 Fe:List Nat
theorem flat_ints (w:World):∀xs:List Int,Flat EInt w (xs.map (Value.int .i64)) xs []
 | []=>⟨rfl,rfl⟩
 | x::r=>⟨[.int .i64 x],r.map (Value.int .i64),[],[],rfl,rfl,⟨rfl,rfl⟩,flat_ints w r⟩
theorem res_none {n:Net} {s:Step} (e:stepN n s=none):resStepNet n s=(zNet,[],false):=by
 unfold resStepNet
 split
 ·rw [e]
 ·rfl
theorem res_some {n:Net} {s:Step} {r:NE} (g1:goodNet n=true) (g2:okStep s=true) (e:stepN n s=some r):resStepNet n s=(r.1,r.2,true):=by unfold resStepNet;rw [g1,g2,e];rfl
theorem l15Drain_f (n:Net) (v:Value) (F FT:List Nat) (hg:goodNet n=true):Fn Tryz.prog 62 [v] [.isv ENet v n F,EnvP FT] [] (fun (_:StZ)=>True) (fun z=>.tuple #[.agg z.cs.toArray,.slice z.a (drN n).2.length z.c]) (fun z=>[.isv ENet (.agg z.cs.toArray) (drN n).1 z.F,.ow EStr 9 (.slice z.a (drN n).2.length z.c) (drN n).2 z.Fe]):=by
 have hwn:=wN_le hg
 refine enter Tryz.func62 rfl Tryz.ntmps62 fun w0=>?_
 refine openNet ?_
 rintro a1 c1 F1 a2 c2 F2 a3 c3 F3 a4 c4 F4 a5 c5 F5 a6 c6 F6 a7 c7 F7 rfl l1 l2 l3 l4 l5 l6 l7
 refine go ?_;intros
 refine cf (l15Own_f n _ F hg) fun z _=>?_
 refine t_app ?_
 obtain ⟨w,y⟩:=z
 dsimp only
 refine t_read (E:=EInt) (xs:=n.tree.parent) fun Ft=>?_
 refine t_weakL weak_Element (xs:=n.elements) fun He=>?_
 refine t_weakL weak_Receiver (xs:=n.receivers) fun Hr=>?_
 refine t_weakL (weak_OSl (Weak.refl EPacket) (by decide) _) (xs:=n.down) fun Hd=>?_
 refine t_weakL (weak_OSl (Weak.refl EPacket) (by decide) _) (xs:=n.up) fun Hu=>?_
 refine openSource (x:=n.source) ?_
 rintro b2 d2 G2 b3 d3 G3 ev - -
 simp only [Value.agg.injEq,Array.mk.injEq,List.cons.injEq,Value.slice.injEq,true_and,and_true] at ev
 obtain ⟨⟨rfl,rfl⟩,rfl,rfl⟩:=ev
 refine closeNet n (a1:=w.a1) (c1:=w.c1) (a2:=w.s.a) (c2:=w.s.c) (a3:=w.s.a2) (c3:=w.s.c2) (a4:=y.a4) (c4:=y.c4) (a5:=y.a5) (c5:=y.c5) (a6:=y.a6) (c6:=y.c6) (a7:=y.a7) (c7:=y.c7) ?_
 refine go ?_;intros
 rename_i g4 g5
 refine t_emp EStr ?_
 refine go ?_;intros
 refine c_loopS [2,4] (fun s:DqS=>[(5,.slice s.a s.x.2.length s.c),(6,.bool s.b)]) (fun s=>[.row g4 49 0 [] s.cs [],.isv ENet (.agg s.cs.toArray) s.x.1 s.F,.ow EStr 9 (.slice s.a s.x.2.length s.c) s.x.2 s.Fe]) (fun s=>Fall (n,[]) s.x∧(if s.b then drE s.x else s.x)=drN n) (fun s=>if s.b then wN s.x.1+1 else 0) ⟨(n,[]),true,_,_,_,_,_⟩ ⟨.refl hg,rfl⟩ fun s hs0=>?_
 obtain ⟨x,b,cs,Fx,ea,ec,eF⟩:=s
 obtain ⟨fx,hR⟩:=hs0
 dsimp only at fx hR ⊢
 refine openNet (x:=x.1) ?_
 rintro b1 d1 G1 b2 d2 G2 b3 d3 G3 b4 d4 G4 b5 d5 G5 b6 d6 G6 b7 d7 G7 ev - - - - - - -
 obtain rfl:cs=[.slice b1 x.1.tree.parent.length d1,.int .i64 x.1.source.window.trail,.int .i64 x.1.source.window.size,.slice b2 x.1.source.window.items.length d2,.int .i64 x.1.source.clock,.int .i64 x.1.source.quiet,.slice b3 x.1.source.holds.length d3,.slice b4 x.1.elements.length d4,.slice b5 x.1.receivers.length d5,.slice b6 x.1.down.length d6,.slice b7 x.1.up.length d7]:=by simpa using ev
 clear ev
 cases b
 ·rw [if_neg (by decide)] at hR
  rw [hR]
  refine go ?_;intros
  refine ret (⟨_,Fx,ea,ec,eF⟩:StZ) trivial rfl
 rw [if_pos rfl] at hR
 have hG:=goodNet_GN.1 fx.g
 have h8:=goodT hG.t
 have hn8:=h8.n1
 have hn2:=h8.n0
 have hev:=fx.e
 simp only [List.length_nil] at hev
 refine go ?_;intros
 refine c_loopS [2,4] (fun s:DqK=>[(5,.slice s.a (roundTo x s.k).2.length s.c),(6,.bool (moreTo x s.k)),(7,.int .i64 ((s.k+1:Nat):Int))]) (fun s=>[.row g4 49 0 [] s.cs [],.isv ENet (.agg s.cs.toArray) (roundTo x s.k).1 s.F,.ow EStr 9 (.slice s.a (roundTo x s.k).2.length s.c) (roundTo x s.k).2 s.Fe]) (fun s=>s.k+1≤x.1.tree.parent.length) (fun s=>x.1.tree.parent.length - s.k) ⟨0,_,_,_,_,_⟩ (by show 0+1≤_;omega) fun s hs0=>?_
 obtain ⟨k,cs,Fx,ya,yc,yF⟩:=s
 dsimp only at hs0 ⊢
 have rf:=round_fall fx.g k hs0
 have fX:=fx.trans rf.1
 have hXt:(roundTo x k).1.tree.parent.length=x.1.tree.parent.length:=by rw [rf.1.t]
 generalize hX:roundTo x k=X at fX hXt ⊢
 generalize hM:moreTo x k=M
 refine openNet (x:=X.1) ?_
 rintro b1 d1 G1 b2 d2 G2 b3 d3 G3 b4 d4 G4 b5 d5 G5 b6 d6 G6 b7 d7 G7 ev - - - - - - -
 obtain rfl:cs=[.slice b1 X.1.tree.parent.length d1,.int .i64 X.1.source.window.trail,.int .i64 X.1.source.window.size,.slice b2 X.1.source.window.items.length d2,.int .i64 X.1.source.clock,.int .i64 X.1.source.quiet,.slice b3 X.1.source.holds.length d3,.slice b4 X.1.elements.length d4,.slice b5 X.1.receivers.length d5,.slice b6 X.1.down.length d6,.slice b7 X.1.up.length d7]:=by simpa using ev
 clear ev
 refine go ?_;intros
 refine c_if rfl (fun h1=>?_) (fun h1=>?_)
 rotate_left
 ·have hk:x.1.tree.parent.length - 1=k:=by omega
  have hXr:roundN x=X:=by rw [←hX,←hk];rfl
  have hmi:=more_iff fx.g
  rw [hk,hM] at hmi
  refine go ?_;intros
  refine n_lp ⟨X,M,_,_,ya,yc,yF⟩ ⟨fX,?_⟩ ?_
  ·cases M
   ·have hz:=hmi.1 rfl
    show X=drN n
    rw [←hR,drE_stop hz,←hXr,round_done fx.g hz]
   ·have hz:¬qdN x.1=0:=fun h=>by cases hmi.2 h
    show drE X=drN n
    rw [←hR,drE_step fx.g hz,hXr]
  ·cases M
   ·show 0 < wN x.1+1
    omega
   ·have hz:¬qdN x.1=0:=fun h=>by cases hmi.2 h
    have:=(roundN_fall fx.g).2 hz
    rw [hXr] at this
    show wN X.1+1 < wN x.1+1
    omega
 have hj:k+1 < x.1.tree.parent.length:=by omega
 refine go ?_;intros
 refine t_row (E:=EInt) (xs:=[2,5]) (fun w=>flat_ints w _) ?_ (by decide)
 refine t_read (E:=EInt) (xs:=[2,5]) fun Fk=>?_
 refine go ?_;intros
 refine c_loopS [2,4,7,25,26] (fun s:DqK=>[(5,.slice s.a (halfS X (k+1) s.k).2.length s.c),(6,.bool (halfM M X (k+1) s.k)),(27,.int .i64 (s.k:Nat))]) (fun s=>[.row g4 49 0 [] s.cs [],.isv ENet (.agg s.cs.toArray) (halfS X (k+1) s.k).1 s.F,.ow EStr 9 (.slice s.a (halfS X (k+1) s.k).2.length s.c) (halfS X (k+1) s.k).2 s.Fe]) (fun s=>s.k≤2) (fun s=>2 - s.k) ⟨0,_,_,_,_,_⟩ (Nat.zero_le _) fun s hs1=>?_
 obtain ⟨m,cs,Fx,ya,yc,yF⟩:=s
 dsimp only at hs1 ⊢
 have fY:=fX.trans (half_fall fX.g (i:=k+1) (by omega) (by omega) m hs1)
 have hYe:=fY.e
 simp only [List.length_nil] at hYe
 generalize hY:halfS X (k+1) m=Y at fY hYe ⊢
 generalize hB:halfM M X (k+1) m=B
 refine openNet (x:=Y.1) ?_
 rintro b1 d1 G1 b2 d2 G2 b3 d3 G3 b4 d4 G4 b5 d5 G5 b6 d6 G6 b7 d7 G7 ev - - - - - - -
 obtain rfl:cs=[.slice b1 Y.1.tree.parent.length d1,.int .i64 Y.1.source.window.trail,.int .i64 Y.1.source.window.size,.slice b2 Y.1.source.window.items.length d2,.int .i64 Y.1.source.clock,.int .i64 Y.1.source.quiet,.slice b3 Y.1.source.holds.length d3,.slice b4 Y.1.elements.length d4,.slice b5 Y.1.receivers.length d5,.slice b6 Y.1.down.length d6,.slice b7 Y.1.up.length d7]:=by simpa using ev
 clear ev
 refine go ?_;intros
 refine c_if rfl (fun h2=>?_) (fun h2=>?_)
 ·have hm:m < 2:=by omega
  have ok:okStep (kst m (k+1))=true:=ok_k (by omega) (by omega) hm
  refine at_int (xs:=[2,5]) m ?_
  rintro hi b9 o9 e9
  rw [e9,show ([2,5]:List Int)[m]=(kst m (k+1)).kind by rcases (show m=0∨m=1 by omega) with rfl|rfl <;> rfl]
  have gY:=fY.g
  refine go ?_;intros
  refine cf (l15Make_f Y.1 (kst m (k+1)) _ _ FT (Nat.zero_le _) gY ok) fun z _=>?_
  refine t_app ?_
  cases e:stepN Y.1 (kst m (k+1)) with
  | none =>
   rw [res_none e]
   have hnY:halfS X (k+1) (m+1)=Y:=by show tryS (halfS X (k+1) m) (kst m (k+1))=Y;rw [hY];exact tryS_none e
   have hnB:halfM M X (k+1) (m+1)=B:=by show (halfM M X (k+1) m || (stepN (halfS X (k+1) m).1 (kst m (k+1))).isSome)=B;rw [hY,hB,e];exact Bool.or_false B
   refine openNet (x:=zNet) ?_
   rintro f1 t1 G1 f2 t2 G2 f3 t3 G3 f4 t4 G4 f5 t5 G5 f6 t6 G6 f7 t7 G7 ez - - - - - - -
   rw [ez]
   refine go ?_;intros
   refine n_lp ⟨m+1,_,_,ya,yc,yF⟩ (by show m+1≤2;omega) (by show 2 - (m+1) < 2 - m;omega) (by dsimp only;rw [hnY,hnB];exact frE) (by dsimp only;rw [hnY];exact hsE)
  | some r =>
   rw [res_some gY ok e]
   have hnY:halfS X (k+1) (m+1)=(r.1,Y.2++r.2):=by show tryS (halfS X (k+1) m) (kst m (k+1))=_;rw [hY];exact tryS_some e
   have hnB:halfM M X (k+1) (m+1)=true:=by show (halfM M X (k+1) m || (stepN (halfS X (k+1) m).1 (kst m (k+1))).isSome)=true;rw [hY,hB,e];exact Bool.or_true B
   have hr:=step_few gY ok e
   refine openNet (x:=r.1) ?_
   rintro f1 t1 G1 f2 t2 G2 f3 t3 G3 f4 t4 G4 f5 t5 G5 f6 t6 G6 f7 t7 G7 ez - - - - - - -
   rw [ez]
   refine t_read (E:=EStr) (xs:=r.2) fun F8=>?_
   refine go ?_;intros
   apply wO
   refine aps (E:=EStr) (xs:=Y.2) (ys:=r.2) one_EStr scal_EStr fun a9 c9 F9=>?_
   refine go ?_;intros
   refine n_lp ⟨m+1,_,z.F,a9,c9,F9⟩ (by show m+1≤2;omega) (by show 2 - (m+1) < 2 - m;omega) (by dsimp only;rw [hnY,hnB];exact frE) (by dsimp only;rw [hnY];exact hsE)
 ·obtain rfl:m=2:=by omega
  refine go ?_;intros
  refine n_lp ⟨k+1,_,_,ya,yc,yF⟩ (by show k+1+1≤_;omega) (by show x.1.tree.parent.length - (k+1) < x.1.tree.parent.length - k;omega) (by dsimp only;rw [moreTo_half,hX,hM,hB,roundTo_half,hX,hY];exact frE) (by dsimp only;rw [roundTo_half,hX,hY];exact hsE)
end Go.Proofs.YtgmbfohkpfineaaGreatDoor
