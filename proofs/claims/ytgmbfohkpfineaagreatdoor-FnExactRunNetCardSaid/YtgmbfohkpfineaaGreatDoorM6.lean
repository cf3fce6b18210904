/- Part 6 of the proof: 32 texts, one behind the other. -/
import Derived.Test.YtgmbfohkpfineaaGreatDoorM5
set_option maxRecDepth 100000
set_option maxHeartbeats 8000000
set_option linter.all false
set_option linter.unusedVariables false
set_option linter.unusedSimpArgs false
namespace Go.Proofs.YtgmbfohkpfineaaGreatDoor
open Go.RowKit
def elAt (n:Net) (i:Nat):Element:=n.elements.getD i ⟨0,[]⟩
def rcAt (n:Net) (i:Nat):Receiver:=n.receivers.getD i zRec
def kidsN (n:Net) (i:Nat):List Int:=kids n.tree.parent ((i:Nat):Int)
def facN (n:Net) (i:Nat) (p:Packet):List Int:=if p.kind=2 then facE (elAt n i) p.number (kidsN n i) else kidsN n i
def delivN (n:Net) (i:Nat) (p:Packet):Net × List ByteArray :=
 if leafT n.tree.parent ((i:Nat):Int) then (⟨n.tree,n.source,n.elements,n.receivers.set i (hearR (rcAt n i) p (dly i)),n.down,n.up⟩,tell i (hearE (rcAt n i) p))
 else (⟨n.tree,n.source,if p.kind=2 then n.elements.set i (repE (elAt n i) p.number) else n.elements,n.receivers,spread n.down (facN n i p) [p],n.up⟩,[])
def parN (n:Net) (i:Nat):Nat:=(n.tree.parent.getD i 0).toNat
def cnfP (p:Packet):Packet:=⟨4,p.number,p.trail,p.lead,⟨#[]⟩⟩
def upN (n:Net) (i:Nat) (p:Packet):Net :=
 if parN n i=0 then ⟨n.tree,reqS n.source p.number,n.elements,n.receivers,spread n.down [((i:Nat):Int)] (reqP n.source p),n.up⟩
 else ⟨n.tree,n.source,n.elements.set (parN n i) (reqE (elAt n (parN n i)) p.number ((i:Nat):Int)),n.receivers,spread n.down [((i:Nat):Int)] [cnfP p],if fwdE (elAt n (parN n i)) p.number then n.up.modify (parN n i) fun q=>putQ q [p] else n.up⟩
def tick1 (n:Net) (i:Nat):Net × List ByteArray :=
 if leafT n.tree.parent ((i:Nat):Int) then (⟨n.tree,n.source,n.elements,n.receivers.set i (tickRec (rcAt n i) (dly i)),n.down,n.up.modify i fun q=>putQ q (tickPk (rcAt n i))⟩,tell i (tickEv (rcAt n i)))
 else (⟨n.tree,n.source,n.elements.set i (tickElement (elAt n i)),n.receivers,n.down,n.up⟩,[])
def tick0 (n:Net):Net:=⟨n.tree,tickS n.source,n.elements,n.receivers,spread n.down (kidsN n 0) (tickP n.source.window n.source.quiet),n.up⟩
def tickTo (n:Net):Nat→Net × List ByteArray
 | 0=>(tick0 n,[])
 | k+1=>((tick1 (tickTo n k).1 (k+1)).1,(tickTo n k).2++(tick1 (tickTo n k).1 (k+1)).2)
def tickN (n:Net):Net × List ByteArray:=tickTo n (n.tree.parent.length - 1)
def sendN (n:Net) (s:ByteArray):Net:=⟨n.tree,sentS n.source s,n.elements,n.receivers,spread n.down (kidsN n 0) [pushedP n.source.window s],n.up⟩
def popD (n:Net) (i:Nat):Net:=⟨n.tree,n.source,n.elements,n.receivers,n.down.modify i (·.drop 1),n.up⟩
def popU (n:Net) (i:Nat):Net:=⟨n.tree,n.source,n.elements,n.receivers,n.down,n.up.modify i (·.drop 1)⟩
structure GN (ck:Nat→Int) (n:Net):Prop where
 t:goodTree n.tree=true
 s:goodSrc n.source=true
 l:lensN n=true
 a:∀i (h1:i < n.elements.length) (h2:i < n.receivers.length) (h3:i < n.down.length) (h4:i < n.up.length),rightN n.tree.parent (ck i) i n.elements[i] n.receivers[i] n.down[i] n.up[i]=true
theorem goodNet_GN {n:Net}:goodNet n=true↔GN (fun _=>n.source.clock) n:=by
 rw [goodNet_iff]
 constructor
 ·rintro ⟨h1,h2,h3,h4⟩
  obtain ⟨q1,q2,q3,q4⟩:=lensN_iff.1 h3
  exact ⟨h1,h2,h3,fun i a b c d=>by rw [←atNode_at a b c d];exact h4 i (by omega)⟩
 ·rintro ⟨h1,h2,h3,h4⟩
  obtain ⟨q1,q2,q3,q4⟩:=lensN_iff.1 h3
  exact ⟨h1,h2,h3,fun i hi=>by rw [atNode_at (by omega) (by omega) (by omega) (by omega)];exact h4 i _ _ _ _⟩
def updC (ck:Nat→Int) (i:Nat) (c:Int):Nat→Int:=fun j=>if j=i then c else ck j
structure RN (par:List Int) (clk:Int) (i:Nat) (e:Element) (r:Receiver) (d u:List Packet):Prop where
 hd:goodQ d=true
 hu:goodQ u=true
 hk:upQ u=true
 hz:i=0→zElem e=true∧zRecv r=true∧d.length=0∧u.length=0
 hf:i≠0→leafT par ((i:Nat):Int)=true→zElem e=true∧goodRec r=true∧r.clock=clk
 hn:i≠0→leafT par ((i:Nat):Int)=false→goodElement e=true∧e.clock=clk∧zRecv r=true
theorem rightN_iff {par:List Int} {clk:Int} {i:Nat} {e:Element} {r:Receiver} {d u:List Packet}:rightN par clk i e r d u=true↔RN par clk i e r d u:=by
 unfold rightN
 constructor
 ·intro h
  simp only [Bool.and_eq_true] at h
  obtain ⟨⟨⟨h1,h2⟩,h3⟩,h4⟩:=h
  refine ⟨h1,h2,h3,fun e=>?_,fun e l=>?_,fun e l=>?_⟩
  ·rw [if_pos e] at h4
   simp only [Bool.and_eq_true,decide_eq_true_eq] at h4
   exact ⟨h4.1.1.1,h4.1.1.2,h4.1.2,h4.2⟩
  ·rw [if_neg e,if_pos l] at h4
   simp only [Bool.and_eq_true,decide_eq_true_eq] at h4
   exact ⟨h4.1.1,h4.1.2,h4.2⟩
  ·rw [if_neg e,if_neg (by rw [l];decide)] at h4
   simp only [Bool.and_eq_true,decide_eq_true_eq] at h4
   exact ⟨h4.1.1,h4.1.2,h4.2⟩
 ·intro h
  rw [h.hd,h.hu,h.hk,Bool.true_and,Bool.true_and,Bool.true_and]
  by_cases e:i=0
  ·rw [if_pos e]
   obtain ⟨a,b,c,d⟩:=h.hz e
   rw [a,b,decide_eq_true c,decide_eq_true d];rfl
  ·rw [if_neg e]
   cases l:leafT par ((i:Nat):Int)
   ·obtain ⟨a,b,c⟩:=h.hn e l
    rw [if_neg (by decide),a,decide_eq_true b,c];rfl
   ·obtain ⟨a,b,c⟩:=h.hf e l
    rw [if_pos rfl,a,b,decide_eq_true c];rfl
theorem GN.rn {ck:Nat→Int} {n:Net} (h:GN ck n) {i:Nat} (hi:i < n.tree.parent.length):∃(h1:i < n.elements.length) (h2:i < n.receivers.length) (h3:i < n.down.length) (h4:i < n.up.length),RN n.tree.parent (ck i) i n.elements[i] n.receivers[i] n.down[i] n.up[i]:=by
 obtain ⟨q1,q2,q3,q4⟩:=lensN_iff.1 h.l
 exact ⟨by omega,by omega,by omega,by omega,rightN_iff.1 (h.a i _ _ _ _)⟩
theorem GN.mk' {ck:Nat→Int} {n:Net} (h1:goodTree n.tree=true) (h2:goodSrc n.source=true) (h3:lensN n=true) (h4:∀i (h1:i < n.elements.length) (h2:i < n.receivers.length) (h3:i < n.down.length) (h4:i < n.up.length),RN n.tree.parent (ck i) i n.elements[i] n.receivers[i] n.down[i] n.up[i]):GN ck n :=
 ⟨h1,h2,h3,fun i a b c d=>rightN_iff.2 (h4 i a b c d)⟩
theorem GN.src {ck:Nat→Int} {n:Net} {s:Source} (h:GN ck n) (hs:goodSrc s=true):GN ck ⟨n.tree,s,n.elements,n.receivers,n.down,n.up⟩:=⟨h.t,hs,h.l,h.a⟩
theorem GN.el {ck:Nat→Int} {n:Net} {i:Nat} {e:Element} (h:GN ck n) (h0:i≠0) (hl:leafT n.tree.parent ((i:Nat):Int)=false) (he:goodElement e=true):GN (updC ck i e.clock) ⟨n.tree,n.source,n.elements.set i e,n.receivers,n.down,n.up⟩:=by
 obtain ⟨q1,q2,q3,q4⟩:=lensN_iff.1 h.l
 refine .mk' h.t h.s (lensN_iff.2 ⟨by simpa using q1,q2,q3,q4⟩) fun j h1 h2 h3 h4=>?_
 have h1':j < n.elements.length:=by simpa using h1
 have r:=rightN_iff.1 (h.a j h1' h2 h3 h4)
 refine ⟨r.hd,r.hu,r.hk,fun e0=>?_,fun e0 l=>?_,fun e0 l=>?_⟩
 ·have:=r.hz e0
  rwa [List.getElem_set_ne (by omega)]
 ·have hne:i≠j:=fun e1=>by subst e1;rw [hl] at l;cases l
  have:=r.hf e0 l
  rw [List.getElem_set_ne hne]
  unfold updC;rw [if_neg (Ne.symm hne)];exact this
 ·have:=r.hn e0 l
  by_cases e1:i=j
  ·subst e1
   rw [List.getElem_set_self]
   unfold updC;rw [if_pos rfl];exact ⟨he,rfl,this.2.2⟩
  ·rw [List.getElem_set_ne e1]
   unfold updC;rw [if_neg (Ne.symm e1)];exact this
theorem GN.rc {ck:Nat→Int} {n:Net} {i:Nat} {x:Receiver} (h:GN ck n) (h0:i≠0) (hl:leafT n.tree.parent ((i:Nat):Int)=true) (he:goodRec x=true):GN (updC ck i x.clock) ⟨n.tree,n.source,n.elements,n.receivers.set i x,n.down,n.up⟩:=by
 obtain ⟨q1,q2,q3,q4⟩:=lensN_iff.1 h.l
 refine .mk' h.t h.s (lensN_iff.2 ⟨q1,by simpa using q2,q3,q4⟩) fun j h1 h2 h3 h4=>?_
 have h2':j < n.receivers.length:=by simpa using h2
 have r:=rightN_iff.1 (h.a j h1 h2' h3 h4)
 refine ⟨r.hd,r.hu,r.hk,fun e0=>?_,fun e0 l=>?_,fun e0 l=>?_⟩
 ·have:=r.hz e0
  rwa [List.getElem_set_ne (by omega)]
 ·have:=r.hf e0 l
  by_cases e1:i=j
  ·subst e1
   rw [List.getElem_set_self]
   unfold updC;rw [if_pos rfl];exact ⟨this.1,he,rfl⟩
  ·rw [List.getElem_set_ne e1]
   unfold updC;rw [if_neg (Ne.symm e1)];exact this
 ·have hne:i≠j:=fun e1=>by subst e1;rw [hl] at l;cases l
  have:=r.hn e0 l
  rw [List.getElem_set_ne hne]
  unfold updC;rw [if_neg (Ne.symm hne)];exact this
theorem putQ_up {q ps:List Packet} (hq:upQ q=true) (hp:∀p∈ps,p.kind=3):upQ (putQ q ps)=true:=by
 unfold upQ putQ at *
 rw [List.all_append,hq,Bool.true_and,List.all_eq_true]
 exact fun p h=>decide_eq_true (hp p (List.mem_of_mem_take h))
theorem GN.dn {ck:Nat→Int} {n:Net} (h:GN ck n) (i:Nat) (f:List Packet→List Packet) (h0:i=0→f []=[]) (hf:∀q,goodQ q=true→goodQ (f q)=true):GN ck ⟨n.tree,n.source,n.elements,n.receivers,n.down.modify i f,n.up⟩:=by
 obtain ⟨q1,q2,q3,q4⟩:=lensN_iff.1 h.l
 refine .mk' h.t h.s (lensN_iff.2 ⟨q1,q2,by simpa using q3,q4⟩) fun j h1 h2 h3 h4=>?_
 have h3':j < n.down.length:=by simpa using h3
 have r:=rightN_iff.1 (h.a j h1 h2 h3' h4)
 by_cases e1:i=j
 ·subst e1
  simp only [List.getElem_modify_eq]
  refine ⟨hf _ r.hd,r.hu,r.hk,fun e0=>?_,r.hf,r.hn⟩
  obtain ⟨a,b,c,d⟩:=r.hz e0
  refine ⟨a,b,?_,d⟩
  rw [List.length_eq_zero_iff.1 c,h0 e0];rfl
 ·simp only [List.getElem_modify,if_neg e1]
  exact r
theorem GN.un {ck:Nat→Int} {n:Net} (h:GN ck n) (i:Nat) (f:List Packet→List Packet) (h0:i=0→f []=[]) (hf:∀q,goodQ q=true→upQ q=true→goodQ (f q)=true∧upQ (f q)=true):GN ck ⟨n.tree,n.source,n.elements,n.receivers,n.down,n.up.modify i f⟩:=by
 obtain ⟨q1,q2,q3,q4⟩:=lensN_iff.1 h.l
 refine .mk' h.t h.s (lensN_iff.2 ⟨q1,q2,q3,by simpa using q4⟩) fun j h1 h2 h3 h4=>?_
 have h4':j < n.up.length:=by simpa using h4
 have r:=rightN_iff.1 (h.a j h1 h2 h3 h4')
 by_cases e1:i=j
 ·subst e1
  simp only [List.getElem_modify_eq]
  refine ⟨r.hd,(hf _ r.hu r.hk).1,(hf _ r.hu r.hk).2,fun e0=>?_,r.hf,r.hn⟩
  obtain ⟨a,b,c,d⟩:=r.hz e0
  refine ⟨a,b,c,?_⟩
  rw [List.length_eq_zero_iff.1 d,h0 e0];rfl
 ·simp only [List.getElem_modify,if_neg e1]
  exact r
theorem GN.sp {ck:Nat→Int} {ps:List Packet} (hp:∀p∈ps,goodPk p=true):∀{nodes:List Int} {n:Net},GN ck n→(∀x∈nodes,x.toNat≠0)→GN ck ⟨n.tree,n.source,n.elements,n.receivers,spread n.down nodes ps,n.up⟩
 | [],_,h,_=>h
 | x::r,n,h,hx=>GN.sp hp (nodes:=r) (n:=⟨n.tree,n.source,n.elements,n.receivers,n.down.modify x.toNat fun q=>putQ q ps,n.up⟩) (h.dn x.toNat _ (fun e=>absurd e (hx x (by simp))) fun q hq=>putQ_good hq hp) fun y hy=>hx y (by simp [hy])
theorem goodQ_drop {q:List Packet} (h:goodQ q=true):goodQ (q.drop 1)=true:=by
 unfold goodQ at *
 simp only [Bool.and_eq_true,decide_eq_true_eq,List.all_eq_true] at h ⊢
 exact ⟨by rw [List.length_drop];omega,fun p hp=>h.2 p (List.mem_of_mem_drop hp)⟩
theorem upQ_drop {q:List Packet} (h:upQ q=true):upQ (q.drop 1)=true:=by
 unfold upQ at *
 simp only [List.all_eq_true] at h ⊢
 exact fun p hp=>h p (List.mem_of_mem_drop hp)
theorem GN.pd {ck:Nat→Int} {n:Net} (h:GN ck n) (i:Nat):GN ck (popD n i):=h.dn i _ (fun _=>rfl) fun _=>goodQ_drop
theorem GN.pu {ck:Nat→Int} {n:Net} (h:GN ck n) (i:Nat):GN ck (popU n i):=h.un i _ (fun _=>rfl) fun _ a b=>⟨goodQ_drop a,upQ_drop b⟩
def smallL (l:List Slot):Prop:=∀s∈l,s.item.size≤8
theorem plus_size {s:ByteArray} (h:s.size≤8):(plus s).size≤9:=by
 unfold plus
 have:(⟨#[43]⟩:ByteArray).size=1:=rfl
 rw [ByteArray.size_append];omega
theorem shiftEv_sm {l:List Slot} (h:smallL l):(shiftEv l).size≤9:=by
 unfold shiftEv
 cases l with
 | nil=>decide
 | cons s r =>
  dsimp only
  split
  ·exact plus_size (h s (by simp))
  ·decide
theorem rel_sm:∀(l:List Slot) (n:Int),smallL l→∀e∈(rel n l).2.2,e.size≤9
 | [],_,_,e,he=>by simp [rel] at he
 | s::r,n,h,e,he=>by
  unfold rel at he
  split at he
  ·rcases List.mem_cons.1 he with rfl|he
   ·exact plus_size (h s (by simp))
   ·exact rel_sm r _ (fun x hx=>h x (by simp [hx])) e he
  ·simp at he
theorem relE_sm {w:ReceiveWindow} (h:smallL w.slots):∀e∈relE w,e.size≤9:=rel_sm w.slots w.next h
theorem give_sm:∀(k:Nat) (w:ReceiveWindow),smallL w.slots→(∀e∈giveE k w,e.size≤9)∧smallL (giveW k w).slots
 | 0,w,h=>⟨fun e he=>by simp [giveE] at he,h⟩
 | k+1,w,h=>by
  have ih:=give_sm k (shW w) fun s hs=>h s (List.mem_of_mem_drop hs)
  refine ⟨fun e he=>?_,ih.2⟩
  unfold giveE at he
  rcases List.mem_cons.1 he with rfl|he
  ·exact shiftEv_sm h
  ·exact ih.1 e he
theorem small_good {w:ReceiveWindow} (h:goodRW w=true):smallL w.slots:=fun s hs=>by
 obtain ⟨n0,n1,hl,hit⟩:=good_of h
 exact hit s hs
theorem moved_sm {w:ReceiveWindow} {t:Int} (h:smallL w.slots):∀e∈movedE w t,e.size≤9:=fun e he=>by
 have hg:=give_sm (stepsN w.next t) w h
 unfold movedE at he
 rcases List.mem_append.1 he with he|he
 ·exact hg.1 e he
 ·exact relE_sm hg.2 e he
theorem moved_few {w:ReceiveWindow} {t:Int} (h:goodRW w=true):(movedE w t).length≤40000:=by
 have h1:=(moved_at (t:=t) h).2.2.1
 have h2:stepsN w.next t≤32767:=by
  unfold stepsN
  split
  ·rename_i hb
   unfold bef btw at hb
   simp only [Bool.and_eq_true,decide_eq_true_eq] at hb
   omega
  ·omega
 omega
theorem putL_sm {x:ReceiveWindow} {k:Nat} {s:Slot} (h:smallL x.slots) (hs:s.item.size≤8):smallL (putL x k s):=fun y hy=>by
 unfold putL at hy
 rcases List.mem_or_eq_of_mem_set hy with hy|rfl
 ·unfold padL at hy
  rcases List.mem_append.1 hy with hy|hy
  ·exact h y hy
  ·rw [List.eq_of_mem_replicate hy];decide
 ·exact hs
theorem hear_sm {r:Receiver} {p:Packet} (hg:GoodR r) (hp:goodPk p=true):∀e∈hearE r p,e.size≤1000000:=fun e he=>by
 have hd:p.data.size≤8:=by
  unfold goodPk itm at hp
  simp only [Bool.and_eq_true,decide_eq_true_eq] at hp
  omega
 have hst:=(start_good hg hp).1
 have htk:=(taken_good hg hp).1
 unfold hearE at he
 split at he
 ·unfold newsE at he
  rcases List.mem_append.1 he with he|he
  ·unfold takenE at he
   split at he
   ·simp at he
   ·unfold takeE at he
    split at he
    ·simp at he
    ·have:=relE_sm (w:=putW (startW r p) p.number p.data) (putL_sm (s:=⟨true,p.data⟩) (small_good hst) hd) e he;omega
  ·unfold skipE at he
   split at he
   ·split at he
    ·have:=moved_sm (small_good htk) e he;omega
    ·rw [List.mem_singleton] at he;subst he;decide
   ·simp at he
 ·simp at he
theorem tickEv_sm {r:Receiver} (hg:GoodR r):(∀e∈tickEv r,e.size≤1000000)∧(tickEv r).length≤40000:=by
 unfold tickEv
 split
 ·exact ⟨fun e he=>by simp at he,by simp⟩
 ·exact ⟨fun e he=>by have:=moved_sm (small_good hg.w) e he;omega,moved_few hg.w⟩
theorem rdTree {w:World} {t:TypeId} {a:Option Addr} {c:Nat} {l:List Int} {F:List Nat} (h:(Pc.ow EInt t (.slice a l.length c) l F).P w):∃F',(Pc.isv ETree (.agg #[.slice a l.length c]) ⟨l⟩ F').P w:=by
 obtain ⟨F', -,hs⟩:=h.2.read
 exact ⟨F',_,rfl,_,rfl,hs⟩
theorem children_f (t:Tree) (node:Int) (v:Value) (F:List Nat) (hl:t.parent.length≤1000000):Fn Tryz.prog 103 [v,.int .i64 node] [.isv ETree v t F] [] (fun (_:KiS)=>True) (fun z=>.slice z.a (kids t.parent node).length z.c) (fun z=>[.ow EInt 3 (.slice z.a (kids t.parent node).length z.c) (kids t.parent node) z.F]):=by
 refine enter Tryz.func103 rfl Tryz.ntmps103 fun w0=>?_
 refine openTree ?_
 rintro a1 c1 F1 rfl l1
 refine t_nilow EInt 3 ?_
 refine go ?_;intros
 refine c_loopS [1,4,9,10] (fun z:KiS=>[(5,.slice z.a (kidsTo t.parent node z.k).length z.c),(11,.int .i64 (z.k:Nat))]) (fun z=>[.ow EInt 3 (.slice z.a (kidsTo t.parent node z.k).length z.c) (kidsTo t.parent node z.k) z.F]) (fun z=>z.k≤t.parent.length) (fun z=>t.parent.length - z.k) ⟨0,_,_,_⟩ (Nat.zero_le _) fun z hz=>?_
 have hkl:=kidsTo_len t.parent node z.k
 refine go ?_;intros
 refine c_if rfl (fun h1=>?_) (fun h1=>?_)
 ·have hh:z.k < t.parent.length:=by omega
  refine at_int (xs:=t.parent) z.k ?_
  rintro hi b o e1
  rw [e1]
  refine go ?_;intros
  refine c_if rfl (fun h2=>?_) (fun h2=>?_)
  ·refine goN ?_;intros
   apply wO
   refine ap1 (rep_i _) one_EInt fun a9 c9 F9=>?_
   refine go ?_;intros
   rw [←kidsTo_yes hh h2]
   refine n_lp ⟨z.k+1,a9,c9,F9⟩ (by show z.k+1≤t.parent.length;omega) (by show t.parent.length - (z.k+1) < t.parent.length - z.k;omega)
  ·rw [←kidsTo_no hh h2]
   refine go ?_;intros
   refine n_lp ⟨z.k+1,z.a,z.c,z.F⟩ (by show z.k+1≤t.parent.length;omega) (by show t.parent.length - (z.k+1) < t.parent.length - z.k;omega)
 ·rw [show kidsTo t.parent node z.k=kids t.parent node by unfold kids;rw [show z.k=t.parent.length by omega]]
  refine go ?_;intros
  refine ret z trivial rfl
theorem hearE_size {r:Receiver} {p:Packet} (hg:GoodR r) (hp:goodPk p=true):∀e∈hearE r p,e.size≤1000000:=hear_sm hg hp
theorem inc_len:∀(l:List Int) (lo:Int),l.Pairwise (· < ·)→(∀z∈l,lo≤z∧z≤7)→(l.length:Int)≤max 0 (8 - lo)
 | [],_,_,_=>by simp;omega
 | x::r,lo,hp,hb=>by
  rw [List.pairwise_cons] at hp
  have:=inc_len r (x+1) hp.2 fun z hz=>⟨by have:=hp.1 z hz;omega,(hb z (by simp [hz])).2⟩
  have:=hb x (by simp)
  rw [List.length_cons];omega
theorem faces_len {e:Element} (hg:goodElement e=true) {x:Entry} (hx:x∈e.entries):x.faces.length≤7:=by
 have h:=(okEntry_iff.1 ((goodE_iff.1 hg).2.2.1 x hx)).2.2.1
 have:=inc_len x.faces 1 h.1 h.2
 omega
theorem dly_bd {i:Nat}:1≤dly i∧dly i≤8:=by unfold dly;omega
theorem rcAt_get {n:Net} {i:Nat} (h:i < n.receivers.length):rcAt n i=n.receivers[i]:=getN h _
theorem elAt_get {n:Net} {i:Nat} (h:i < n.elements.length):elAt n i=n.elements[i]:=getN h _
theorem deliver_f (n:Net) (i:Nat) (p:Packet) (g:Nat) (a1:Option Addr) (c1:Nat) (F1:List Nat) (a2:Option Addr) (c2:Nat) (F2:List Nat) (a3:Option Addr) (c3:Nat) (F3:List Nat) (a4:Option Addr) (c4:Nat) (F4:List Nat) (a5:Option Addr) (c5:Nat) (F5:List Nat) (a6:Option Addr) (c6:Nat) (F6:List Nat) (a7:Option Addr) (c7:Nat) (F7:List Nat) (FT:List Nat) (hl:lensN n=true) (hi:i < n.tree.parent.length) (h8:GoodT n.tree.parent) (hr:leafT n.tree.parent (i:Nat)=true→goodRec (rcAt n i)=true) (he:leafT n.tree.parent (i:Nat)=false→goodElement (elAt n i)=true) (hp:goodPk p=true) (hps:p.data.size≤maxLen) :
  Fn Tryz.prog 194 [ptr g 0 0,.int .i64 (i:Nat),.agg #[.int .i64 (p).kind,.int .i64 (p).number,.int .i64 (p).trail,.int .i64 (p).lead,.string (p).data]] [EnvP FT] [.row g 49 0 [] [.slice a1 n.tree.parent.length c1,.int .i64 n.source.window.trail,.int .i64 n.source.window.size,.slice a2 n.source.window.items.length c2,.int .i64 n.source.clock,.int .i64 n.source.quiet,.slice a3 n.source.holds.length c3,.slice a4 n.elements.length c4,.slice a5 n.receivers.length c5,.slice a6 n.down.length c6,.slice a7 n.up.length c7] [],.ow EInt 3 (.slice a1 n.tree.parent.length c1) n.tree.parent F1,.ow EStr 9 (.slice a2 n.source.window.items.length c2) n.source.window.items F2,.ow EHold 194 (.slice a3 n.source.holds.length c3) n.source.holds F3,.ow OElement 142 (.slice a4 n.elements.length c4) n.elements F4,.ow OReceiver 149 (.slice a5 n.receivers.length c5) n.receivers F5,.ow (OSl EPacket 127) 132 (.slice a6 n.down.length c6) n.down F6,.ow (OSl EPacket 127) 132 (.slice a7 n.up.length c7) n.up F7] (fun (_:NV × KA)=>True) (fun z=>.slice z.2.a (delivN n i p).2.length z.2.c) (fun z=>[.row g 49 0 [] [.slice z.1.a1 n.tree.parent.length z.1.c1,.int .i64 (delivN n i p).1.source.window.trail,.int .i64 (delivN n i p).1.source.window.size,.slice z.1.a2 (delivN n i p).1.source.window.items.length z.1.c2,.int .i64 (delivN n i p).1.source.clock,.int .i64 (delivN n i p).1.source.quiet,.slice z.1.a3 (delivN n i p).1.source.holds.length z.1.c3,.slice z.1.a4 n.elements.length z.1.c4,.slice z.1.a5 n.receivers.length z.1.c5,.slice z.1.a6 n.down.length z.1.c6,.slice z.1.a7 n.up.length z.1.c7] [],.ow EInt 3 (.slice z.1.a1 n.tree.parent.length z.1.c1) (delivN n i p).1.tree.parent z.1.F1,.ow EStr 9 (.slice z.1.a2 (delivN n i p).1.source.window.items.length z.1.c2) (delivN n i p).1.source.window.items z.1.F2,.ow EHold 194 (.slice z.1.a3 (delivN n i p).1.source.holds.length z.1.c3) (delivN n i p).1.source.holds z.1.F3,.ow OElement 142 (.slice z.1.a4 n.elements.length z.1.c4) (delivN n i p).1.elements z.1.F4,.ow OReceiver 149 (.slice z.1.a5 n.receivers.length z.1.c5) (delivN n i p).1.receivers z.1.F5,.ow (OSl EPacket 127) 132 (.slice z.1.a6 n.down.length z.1.c6) (delivN n i p).1.down z.1.F6,.ow (OSl EPacket 127) 132 (.slice z.1.a7 n.up.length z.1.c7) (delivN n i p).1.up z.1.F7,.ow EStr 9 (.slice z.2.a (delivN n i p).2.length z.2.c) (delivN n i p).2 z.2.F]):=by
 obtain ⟨q1,q2,q3,q4⟩:=lensN_iff.1 hl
 have hn8:=h8.n1
 obtain ⟨d0,d1_⟩:=dly_bd (i:=i)
 refine enter Tryz.func194 rfl Tryz.ntmps194 fun w0=>?_
 refine go ?_;intros
 refine cfr (fun w st=>by obtain ⟨Fq,hq⟩:=rdTree (st.get (p:=.ow EInt 3 (.slice a1 n.tree.parent.length c1) n.tree.parent F1) (by exact memE));exact ⟨_,hol1 hq,rfl,isLeaf_f n.tree i _ Fq⟩) (fun _ _=>?_)
 refine t_app ?_
 cases hlf:leafT n.tree.parent (i:Nat)
 rotate_left
 ·have hir:i < n.receivers.length:=by omega
  have hgr:=goodR_iff.1 (rcAt_get hir▸hr hlf)
  have hev:=(hear_good (d:=dly i) hgr hp d0 d1_).2
  rw [show delivN n i p=(⟨n.tree,n.source,n.elements,n.receivers.set i (hearR n.receivers[i] p (dly i)),n.down,n.up⟩,tell i (hearE n.receivers[i] p)) by unfold delivN;rw [if_pos hlf,rcAt_get hir]]
  refine go ?_;intros
  refine focO (xs:=n.receivers) (m:=5) i ?_ rfl hir
  rintro _ g5 A5 cs B5 k1 k2 J1 Ji J2 rfl - hc5 hH5
  refine openOReceiver ?_
  rintro b1 d1 G1 b2 d2 G2 ev l1 l2
  obtain rfl:cs=[.bool n.receivers[i].started,.int .i64 n.receivers[i].clock,.int .i64 n.receivers[i].window.next,.slice b1 n.receivers[i].window.slots.length d1,.slice b2 n.receivers[i].requests.length d2]:=by simpa using ev
  refine d_start [5,6] [] ?_
  refine dt4 0 1 2 3 ?_
  refine dt4 4 5 6 7 ?_
  refine dt 8 ?_
  refine dN 9 ?_
  refine oC ?_
  refine cf (delayOf_f i (by omega)) fun _ _=>?_
  refine t_app ?_
  refine dk ?_
  refine dN 10 ?_
  refine oC ?_
  refine cf (Rhear_f n.receivers[i] p (dly i) g5 149 (0+i * 5) A5 B5 b1 d1 G1 b2 d2 G2 hgr hp d0 d1_) fun s _=>?_
  refine t_app ?_
  refine dk ?_
  refine dN 11 ?_
  refine oC ?_
  refine cfr (fun w st=>by obtain ⟨Fq, -,hq⟩:=(st.get (p:=.ow EStr 9 (.slice s.ae (hearE n.receivers[i] p).length s.ce) (hearE n.receivers[i] p) s.Fe) (by exact memE)).2.read;exact ⟨[.sl EStr (.slice s.ae (hearE n.receivers[i] p).length s.ce) (hearE n.receivers[i] p) Fq,EnvP FT],hol2 ⟨by decide,hq⟩ (st.get (p:=EnvP FT) (by exact memE)),rfl,told_f i _ _ _ Fq FT (by omega) (by omega) (hearE_size hgr hp)⟩) (fun u _=>?_)
  refine t_app ?_
  refine dk ?_
  refine dt 12 ?_
  refine dd ?_
  refine go ?_;intros
  refine closeOReceiver (hearR n.receivers[i] p (dly i)) ?_
  refine unfO _ hH5 rfl fun J5=>?_
  refine ret (⟨a1,c1,F1,a2,c2,F2,a3,c3,F3,a4,c4,F4,_,c5,J5,a6,c6,F6,a7,c7,F7⟩,⟨0,_,_,_⟩) trivial rfl
 ·have hir:i < n.elements.length:=by omega
  have hge:goodElement n.elements[i]=true:=elAt_get hir▸he hlf
  have hel:=(goodE_iff.1 hge).2.1
  have hkl:=kids_len n.tree.parent ((i:Nat):Int)
  have hkx:∀x∈kids n.tree.parent ((i:Nat):Int),0≤x∧x.toNat < n.down.length:=fun x hx=>by have:=kids_behind h8 hx;omega
  refine go ?_;intros
  refine cfr (fun w st=>by obtain ⟨Fq,hq⟩:=rdTree (st.get (p:=.ow EInt 3 (.slice a1 n.tree.parent.length c1) n.tree.parent F1) (by exact memE));exact ⟨_,hol1 hq,rfl,children_f n.tree ((i:Nat):Int) _ Fq (by show n.tree.parent.length≤1000000;omega)⟩) (fun u _=>?_)
  refine t_app ?_
  refine t_read (E:=EInt) (xs:=kids n.tree.parent ((i:Nat):Int)) fun Fk=>?_
  refine t_nilow EStr 9 ?_
  refine go ?_;intros
  refine c_if rfl (fun hk=>?_) (fun hk=>?_)
  ·rw [show delivN n i p=(⟨n.tree,n.source,n.elements.set i (repE n.elements[i] p.number),n.receivers,spread n.down (facE n.elements[i] p.number (kids n.tree.parent ((i:Nat):Int))) [p],n.up⟩,[]) by unfold delivN facN kidsN;rw [if_neg (by rw [hlf];decide),if_pos hk,if_pos hk,elAt_get hir]]
   refine go ?_;intros
   refine focO (xs:=n.elements) (m:=2) i ?_ rfl hir
   rintro _ g5 A5 cs B5 k1 k2 J1 Ji J2 rfl - hc5 hH5
   refine openOElement ?_
   rintro b1 d1 G1 ev l1
   obtain rfl:cs=[.int .i64 n.elements[i].clock,.slice b1 n.elements[i].entries.length d1]:=by simpa using ev
   refine d_start [6,7] [] ?_
   refine dt4 0 1 2 3 ?_
   refine dt4 4 5 6 7 ?_
   refine dt 8 ?_
   refine dN 9 ?_
   refine oC ?_
   refine cf (Erepair_f n.elements[i] p.number (kids n.tree.parent ((i:Nat):Int)) g5 142 (0+i * 2) A5 B5 b1 d1 G1 u.a u.c Fk (by omega) (fun x hx=>by have:=faces_len hge hx;omega) (by omega)) fun s _=>?_
   refine t_app ?_
   refine dk ?_
   refine dt 10 ?_
   refine dd ?_
   refine closeOElement (repE n.elements[i] p.number) ?_
   refine unfO _ hH5 rfl fun J5=>?_
   refine t_read (E:=EInt) (xs:=facE n.elements[i] p.number (kids n.tree.parent ((i:Nat):Int))) fun Fk2=>?_
   refine goN ?_;intros
   refine t_row (E:=EPacket) (xs:=[p]) (flatPacket p hps) ?_ (by simp)
   refine t_read (E:=EPacket) (xs:=[p]) fun Fp=>?_
   refine go ?_;intros
   refine cf (down_f n.down (facE n.elements[i] p.number (kids n.tree.parent ((i:Nat):Int))) [p] g _ _ _ _ _ _ _ _ _ _ a6 _ c6 F6 _ _ Fk2 _ _ Fp rfl (fun x hx=>hkx x (facE_sub x hx))) fun J6 _=>?_
   refine t_app ?_
   refine go ?_;intros
   refine ret (⟨a1,c1,F1,a2,c2,F2,a3,c3,F3,_,c4,J5,a5,c5,F5,a6,c6,J6,a7,c7,F7⟩,⟨0,none,0,[]⟩) trivial rfl
  ·rw [show delivN n i p=(⟨n.tree,n.source,n.elements,n.receivers,spread n.down (kids n.tree.parent ((i:Nat):Int)) [p],n.up⟩,[]) by unfold delivN facN kidsN;rw [if_neg (by rw [hlf];decide),if_neg hk,if_neg hk]]
   refine goN ?_;intros
   refine t_row (E:=EPacket) (xs:=[p]) (flatPacket p hps) ?_ (by simp)
   refine t_read (E:=EPacket) (xs:=[p]) fun Fp=>?_
   refine go ?_;intros
   refine cf (down_f n.down (kids n.tree.parent ((i:Nat):Int)) [p] g _ _ _ _ _ _ _ _ _ _ a6 _ c6 F6 _ _ Fk _ _ Fp rfl hkx) fun J6 _=>?_
   refine t_app ?_
   refine go ?_;intros
   refine ret (⟨a1,c1,F1,a2,c2,F2,a3,c3,F3,a4,c4,F4,a5,c5,F5,a6,c6,J6,a7,c7,F7⟩,⟨0,none,0,[]⟩) trivial rfl
theorem rep1_Hold (y:Hold) (w:World):Flat EHold w [.int .i64 y.number,.int .i64 y.untl] [y] []:=⟨_,[],[],[],by simp,by simp,⟨rfl,rfl⟩,rfl,rfl⟩
theorem InsHold_f (xs:List Hold) (y:Hold) (i:Nat) (a:Option Addr) (c vb:Nat) (F:List Nat) (hi:i≤xs.length) (hl:xs.length≤1000000) :
  Fn Tryz.prog 307 [.slice a xs.length c,.int .i64 i,.slice (some ⟨vb,0,none⟩) 1 1] [] [.ow EHold 194 (.slice a xs.length c) xs F,.row vb 194 0 [] [.int .i64 y.number,.int .i64 y.untl] []] (fun (_:Option Addr × Nat × List Nat)=>True)
   (fun z=>.slice z.1 (xs.take i++y::xs.drop i).length z.2.1) (fun z=>[.ow EHold 194 (.slice z.1 (xs.take i++y::xs.drop i).length z.2.1) (xs.take i++y::xs.drop i) z.2.2]):=by
 have hone:∀w':World,∀cs:List Value,Flat EHold w' cs xs []→∀u∈cs,u.oneCell'=true:=fun w' cs h=>h.one' one_EHold
 have hy:=rep1_Hold y
 have h1y:∀u∈([.int .i64 y.number,.int .i64 y.untl]:List Value),u.oneCell'=true:=by intro u hu;simp at hu;rcases hu with rfl|rfl|rfl|rfl <;> rfl
 refine enter Tryz.func307 rfl Tryz.ntmps307 fun w0=>?_
 refine t_cap (E:=EHold) fun hc1 hc2=>?_
 refine go ?_;intros
 apply wO
 refine o_slany rfl rfl rfl rfl hi (fun _=>?_) hc1
 refine go ?_;intros
 refine c_if rfl (fun h1=>?_) (fun h1=>?_)
 ·have hin:i=xs.length:=by omega
  subst hin
  have e:xs.take xs.length++y::xs.drop xs.length=xs++[y]:=by simp
  refine go ?_;intros
  apply wO
  refine ap1 hy one_EHold fun a2 c2 F2=>?_
  rw [e]
  refine go ?_;intros
  refine ret (a2,c2,F2) trivial rfl
 ·have hlt:i < xs.length:=by omega
  refine t_rowof (xs:=xs) scal_EHold (by rintro rfl;simp at hlt) ?_
  rintro g cs rest rfl - - - hcl hcr hfl
  rw [show EHold.sz=2 from rfl] at hcl hcr
  have h1c:=hone w0 cs (hfl w0)
  obtain ⟨A,B,hcs,hA,hB⟩:∃A B,cs=A++B∧A=cs.take (i * 2)∧B=cs.drop (i * 2):=⟨_,_,(List.take_append_drop _ _).symm,rfl,rfl⟩
  have hAl:A.length=i * 2:=by rw [hA,List.length_take];omega
  have hBl:B.length=(xs.length - i) * 2:=by rw [hB,List.length_drop];omega
  have hins:∀w,Flat EHold w (A++[.int .i64 y.number,.int .i64 y.untl]++B) (xs.take i++y::xs.drop i) []:=fun w=>by rw [hA,hB];exact (hfl w).insL (hy w) i hi
  have h1A:∀u∈A,u.oneCell'=true:=fun u hu=>h1c u (by rw [hcs];simp [hu])
  have h1B:∀u∈B,u.oneCell'=true:=fun u hu=>h1c u (by rw [hcs];simp [hu])
  have hlen:(xs.take i++y::xs.drop i).length=xs.length+1:=by simp;omega
  clear hA hB hfl hone
  subst hcs
  have eA:A=((A++B++rest).drop 0).take (i * 2):=by rw [List.drop_zero,List.append_assoc,List.take_left' hAl]
  have eB:B=((A++B++rest).drop (0+i * 2)).take ((xs.length - i) * 2):=by rw [Nat.zero_add,List.append_assoc,List.drop_left' hAl,List.take_left' hBl]
  rw [hlen]
  refine go ?_;intros
  apply wO;apply oc;rfl;exact yd_cap rfl
  refine go ?_;intros
  refine c_if rfl (fun h2=>?_) (fun h2=>?_)
  ·refine go ?_;intros
   apply wO;apply oc;rfl;exact yd_slt (i:=i) rfl rfl rfl (by omega) (by omega)
   refine go ?_;intros
   apply wO
   refine o_apgz (k:=xs.length+1 - i) (olds:=A) rfl rfl rfl (by omega) (src_row (m:=i * 2) (.head _) eA) (by omega) (by decide) (by omega) (by omega) (by omega) (by omega) fun g' cp' Z rest' h3 h4 h5 h6=>?_
   rw [show i+(xs.length+1 - i)=xs.length+1 by omega] at h3 ⊢
   obtain ⟨Z1,Z2,rfl,hZ1,hZ2⟩:∃Z1 Z2,Z=Z1++Z2∧Z1.length=2∧Z2.length=B.length:=⟨Z.take 2,Z.drop 2,(List.take_append_drop _ _).symm,by rw [List.length_take];omega,by rw [List.length_drop];omega⟩
   refine go ?_;intros
   apply wO;apply oc;rfl;exact yd_slv (i:=i) rfl rfl rfl (by omega) (by omega) (by omega)
   refine go ?_;intros
   apply wO
   refine o_cpy (cs:=[.int .i64 y.number,.int .i64 y.untl]) (L':=A++[.int .i64 y.number,.int .i64 y.untl]++(Z2++rest')) rfl rfl rfl (src_row (L:=[.int .i64 y.number,.int .i64 y.untl]) (o:=0) (m:=2) (by exact memE) rfl) .here (cpyM (M:=Z1) (by simp [List.append_assoc]) (by omega) (by simpa using hZ1)) (by show 2=min 1 (xs.length+1 - i) * 2;omega) (by simp only [List.length_append,List.length_cons,List.length_nil];omega) h1y ?_
   refine go ?_;intros
   refine d_start [] [] ?_
   refine dt4 0 1 2 3 ?_
   refine dt 4 ?_ (hy:=yd_slv (i:=i+1) rfl rfl (by omega) (by omega) (by omega) (by omega))
   refine dt2 5 6 ?_
   refine dt 7 ?_ (hy:=yd_slv (i:=i) rfl rfl (by omega) (by omega) (by omega) (by omega))
   refine dN 8 ?_
   refine o_cpy (cs:=B) (L':=A++[.int .i64 y.number,.int .i64 y.untl]++B++rest') rfl rfl rfl (src_row (by exact memE) eB) .here (cpyM (P:=A++[.int .i64 y.number,.int .i64 y.untl]) (M:=Z2) (by simp [List.append_assoc]) (by simp only [List.length_append,List.length_cons,List.length_nil];omega) hZ2) (by rw [hBl];congr 1;show _=min (xs.length - i) (xs.length+1 - (i+1));omega) (by simp only [List.length_append,List.length_cons,List.length_nil];omega) h1B ?_
   refine dk ?_
   refine dd ?_
   refine t_owof (cs:=A++[.int .i64 y.number,.int .i64 y.untl]++B) (rest:=rest') (xs:=xs.take i++y::xs.drop i) cp' rfl hins (by omega) h4 (by rw [show EHold.sz=2 from rfl];simp only [List.length_append,List.length_cons,List.length_nil] at h6 ⊢;omega) ?_
   rw [hlen]
   refine go ?_;intros
   refine ret (_,cp',[g']) trivial rfl
  ·have hcx:xs.length+1≤c:=by omega
   obtain ⟨X,Y,hXY,hX,hY⟩:=shiftL (B:=B) (R:=rest) 2 (by omega)
   refine go ?_;intros
   apply wO;apply oc;rfl;exact yd_slt (i:=xs.length+1) rfl rfl (by omega) (by omega) (by omega)
   refine go ?_;intros
   apply wO;apply oc;rfl;exact yd_slv (i:=i+1) rfl rfl (by omega) (by omega) (by omega) (by omega)
   refine goN ?_;intros
   apply wO
   refine o_ext rfl evsE (ovl (tS:=42) (tR:=4) (run_callFunc_extern Tryz.func327 (by kernel_rfl) (by kernel_rfl) (by kernel_rfl) (e:=Extern.SlicesOverlaps.overlaps #[42,42] #[4]) (by kernel_rfl)) (.there .here) (.head _) (by intro e;have:=congrArg List.length e;simp only [List.length_append,List.length_nil] at this;omega)) ?_
   refine go ?_;intros
   refine d_start [] [] ?_
   refine dt4 0 1 2 3 ?_
   refine dt 4 ?_ (hy:=yd_slv (i:=i+1) rfl rfl (by omega) (by omega) (by omega) (by omega))
   refine dt2 5 6 ?_
   refine dt 7 ?_ (hy:=yd_slv (i:=i) rfl rfl (by omega) (by omega) (by omega) (by omega))
   refine dN 8 ?_
   refine o_cpy (cs:=B) (L':=A++X++B++rest.drop 2) rfl rfl rfl (src_row (by exact memE) eB) .here (cpyM (P:=A++X) (M:=Y) (by rw [List.append_assoc A B rest,hXY];simp [List.append_assoc]) (by simp only [List.length_append];omega) hY) (by rw [hBl];congr 1;show _=min (xs.length+1 - i) (xs.length+1 - (i+1));omega) (by simp only [List.length_append];omega) h1B ?_
   refine dk ?_
   refine dd ?_
   refine go ?_;intros
   apply wO;apply oc;rfl;exact yd_slv (i:=i) rfl rfl rfl (by omega) (by omega) (by omega)
   refine go ?_;intros
   apply wO
   refine o_cpy (cs:=[.int .i64 y.number,.int .i64 y.untl]) (L':=A++[.int .i64 y.number,.int .i64 y.untl]++(B++rest.drop 2)) rfl rfl rfl (src_row (L:=[.int .i64 y.number,.int .i64 y.untl]) (o:=0) (m:=2) (by exact memE) rfl) .here (cpyM (M:=X) (by simp [List.append_assoc]) (by omega) (by simpa using hX)) (by show 2=min 1 (xs.length+1 - i) * 2;omega) (by simp only [List.length_append,List.length_cons,List.length_nil];omega) h1y ?_
   refine go ?_;intros
   refine t_owof (L:=A++[.int .i64 y.number,.int .i64 y.untl]++(B++rest.drop 2)) (cs:=A++[.int .i64 y.number,.int .i64 y.untl]++B) (rest:=rest.drop 2) (xs:=xs.take i++y::xs.drop i) c (by simp [List.append_assoc]) hins (by omega) (by omega) (by rw [show EHold.sz=2 from rfl];simp only [List.length_append,List.length_cons,List.length_nil,List.length_drop];omega) ?_
   rw [hlen]
   refine ret (_,c,[g]) trivial rfl
instance:IntC Tryz.prog 351 .u64:=⟨Tryz.underlying351⟩
theorem SrchHold_f (fid:FuncId) (caps:List Value) (A:List Pc) (hA:A.all (fun p=>!p.mu)=true) (xs:List Hold) (a:Option Addr) (c:Nat) (F:List Nat) (tv:Value) (f:Hold→Int) (hm:∀i j (_:i≤j) (hj:j < xs.length),f xs[j] < 0→f (xs[i]'(by omega)) < 0) (hb:bodyB Tryz.prog fid=true) (hl:xs.length≤1000000)
  (hp:∀x∈xs,∀w,Hol A w→Calls Tryz.prog fid ([.agg #[.int .i64 x.number,.int .i64 x.untl],tv]++caps).toArray w fun e w'=>e=.returned (.int .i64 (f x))∧Below w.heap.size w w') :
  Fn Tryz.prog 325 [.slice a xs.length c,tv,.func (.func fid) #[] caps.toArray] (.sl EHold (.slice a xs.length c) xs F::A) [] (fun (_:Unit)=>True) (fun _=>.tuple #[.int .i64 ((xs.takeWhile fun x=>decide (f x < 0)).length:Nat),.bool (hitB f xs[(xs.takeWhile fun x=>decide (f x < 0)).length]?)]) (fun _=>[]):=by
 refine enter Tryz.func325 rfl Tryz.ntmps325 (fun w0=>?_) rfl (by simpa [Pc.mu] using hA) .nil
 refine go ?_;intros
 refine c_loopR [0,1,2,6,7,8] (fun s:Nat × Nat=>[(9,.int .i64 (s.1:Nat)),(10,.int .i64 (s.2:Nat))]) (fun s=>s.1≤s.2∧s.2≤xs.length∧(∀j (_:j < s.1) (h:j < xs.length),f xs[j] < 0)∧(∀j (_:s.2≤j) (h:j < xs.length),¬f xs[j] < 0)) (fun s=>s.2 - s.1) (0,xs.length) ⟨Nat.zero_le _,Nat.le_refl _,fun j h=>by omega,fun j h1 h2=>by omega⟩ fun s hs=>?_
 obtain ⟨i,j⟩:=s
 obtain ⟨h1,h2,h3,h4⟩:=hs
 dsimp only at h1 h2 h3 h4 ⊢
 refine go ?_;intros
 refine c_if rfl (fun h5=>?_) (fun h5=>?_)
 ·have hh:(i+j) / 2 < xs.length:=by omega
  have e2:((i:Int)+(j:Int)) / 2=(((i+j) / 2:Nat):Int):=by omega
  refine go ?_;intros
  apply wO;apply oc;rfl;exact yd_cvu rfl (by omega) (by omega)
  refine go ?_;intros
  apply wO;apply oc;rfl;exact yd_shr1 rfl
  rw [e2]
  apply wO;apply oc;rfl;exact yd_cv rfl (by omega) (by omega)
  generalize hq:(i+j) / 2=q at hh
  refine go ?_;intros
  refine atHold (xs:=xs) q ?_
  rintro hi b o e
  rw [e]
  refine go ?_;intros
  apply wO
  refine o_callv rfl rfl hb evsE ?_
  refine cb (fun w st=>hp xs[q] (List.getElem_mem hh) w (fun p hp=>st.on p (by simp [hp]))) ?_
  refine go ?_;intros
  refine c_if rfl (fun h6=>?_) (fun h6=>?_)
  ·refine go ?_;intros
   refine t_drop ?_
   refine n_lp (hH:=hsub_refl _) (q+1,j) ⟨by show q+1≤j;omega,h2,fun k hk h=>hm k q (by have:k < q+1:=hk;omega) hh h6,h4⟩ (by show j - (q+1) < j - i;omega)
  ·refine go ?_;intros
   refine t_drop ?_
   refine n_lp (hH:=hsub_refl _) (i,q) ⟨by show i≤q;omega,by show q≤xs.length;omega,h3,fun k hk h hn=>h6 (hm q k hk h hn)⟩ (by show q - i < j - i;omega)
 ·have hij:i=j:=by omega
  subst hij
  have hk:(xs.takeWhile fun x=>decide (f x < 0)).length=i:=tw_len h2 (fun j hj h=>decide_eq_true (h3 j hj h)) (fun h=>decide_eq_false (h4 i (Nat.le_refl _) h))
  rw [hk]
  refine go ?_;intros
  refine wg_if rfl rfl (fun h6=>?_) (fun h6=>?_)
  ·have hh:i < xs.length:=by omega
   rw [List.getElem?_eq_getElem hh]
   refine go ?_;intros
   refine atHold (xs:=xs) i ?_
   rintro hi b o e
   rw [e]
   refine go ?_;intros
   apply wO
   refine o_callv rfl rfl hb evsE ?_
   refine cb (fun w st=>hp xs[i] (List.getElem_mem hh) w (fun p hp=>st.on p (by simp [hp]))) ?_
   refine go ?_;intros
   refine ret () trivial rfl
  ·rw [List.getElem?_eq_none (by omega)]
   refine go ?_;intros
   refine ret () trivial rfl
theorem ans_size {W:SendWindow} {p:Packet} (hg:goodWin W=true):(resAnswer W p).1.data.size≤maxLen:=by
 unfold resAnswer
 split
 ·rename_i h
  unfold okAnswer at h
  simp only [Bool.and_eq_true] at h
  have hk:=held_lt h.2
  show (itemAt W p.number).size≤maxLen
  rw [itemAt_lt hk]
  have:=List.all_eq_true.1 (goodWin_iff.1 hg).2.2.2 _ (List.getElem_mem hk)
  unfold itm at this
  simp only [Bool.and_eq_true,decide_eq_true_eq] at this
  unfold maxLen
  omega
 ·decide
theorem srch_hold {t n:Int} {hs:List Hold} (hser:∀h∈hs,isSer h.number=true) (hn:0≤n∧n≤65535):(hs.takeWhile fun x=>decide (gp t x.number - gp t n < 0)).length=holdAt t hs n ∧
  hitB (fun x:Hold=>gp t x.number - gp t n) hs[(hs.takeWhile fun x=>decide (gp t x.number - gp t n < 0)).length]?=thereB t hs n:=by
 have e:(fun x:Hold=>decide (gp t x.number - gp t n < 0))=fun h=>decide (gp t h.number < gp t n):=by
  funext x;rw [decide_eq_decide];omega
 have e1:(hs.takeWhile fun x=>decide (gp t x.number - gp t n < 0)).length=holdAt t hs n:=by unfold holdAt;rw [e]
 refine ⟨e1,?_⟩
 rw [e1]
 unfold thereB
 cases hq:hs[holdAt t hs n]? with
 | none=>rfl
 | some z =>
  show decide (gp t z.number - gp t n=0)=decide (z.number=n)
  rw [decide_eq_decide]
  have hz:=isSer_iff.1 (hser z (List.mem_of_getElem? hq))
  exact ⟨fun h=>gp_inj (t:=t) hz hn (by omega),fun h=>by rw [h];omega⟩
theorem fh1_f (h:Hold) (n t:Int) (gb g o:Nat) (v1 v2 v3 v4 v5:Value) (t0:0≤t) (t1:t≤65535) (n0:0≤n) (n1:n≤65535) (m0:0≤h.number) (m1:h.number≤65535) :
  Fn Tryz.prog 326 [.agg #[.int .i64 h.number,.int .i64 h.untl],.int .i64 n,ptr gb 0 0] [.cel gb 0 [ptr g o 0],.cel g o [.int .i64 t,v1,v2,v3,v4,v5]] [] (fun (_:Unit)=>True) (fun _=>.int .i64 (gp t h.number - gp t n)) (fun _=>[]):=by
 have b1:=gp_bd t h.number
 have b2:=gp_bd t n
 refine enter Tryz.func326 rfl Tryz.ntmps326 fun w0=>?_
 refine go ?_;intros
 refine d_start [0,1,2] [] ?_
 refine dt4 0 1 2 3 ?_
 refine dt4 4 5 6 8 ?_
 refine dt4 9 10 11 12 ?_
 refine dt 13 ?_
 refine dN 7 ?_
 refine oC ?_
 refine ce (fun w s=>gap_c _ _ _ (by omega) (by omega) (by omega) (by omega)) ?_
 refine dk ?_
 refine dN 14 ?_
 refine oC ?_
 refine ce (fun w s=>gap_c _ _ _ (by omega) (by omega) (by omega) (by omega)) ?_
 refine dk ?_
 refine dt2 15 16 ?_
 refine dd ?_
 refine go ?_;intros
 refine ret () trivial rfl
theorem findHold_f (W:SendWindow) (hs:List Hold) (n:Int) (g t o:Nat) (A B:List Value) (a a2:Option Addr) (c c2:Nat) (cl q:Int) (F2:List Nat) (t0:0≤W.trail) (t1:W.trail≤65535) (n0:0≤n) (n1:n≤65535) (hser:∀h∈hs,isSer h.number=true) (hsr:srt W.trail hs) (hl:hs.length≤1000000) :
  Fn Tryz.prog 306 [ptr g o 0,.int .i64 n] [] [.row g t o A [.int .i64 W.trail,.int .i64 W.size,.slice a W.items.length c,.int .i64 cl,.int .i64 q,.slice a2 hs.length c2] B,.ow EHold 194 (.slice a2 hs.length c2) hs F2] (fun (_:Unit)=>True) (fun _=>.tuple #[.int .i64 (holdAt W.trail hs n:Nat),.bool (thereB W.trail hs n)]) (fun _=>[.row g t o A [.int .i64 W.trail,.int .i64 W.size,.slice a W.items.length c,.int .i64 cl,.int .i64 q,.slice a2 hs.length c2] B,.ow EHold 194 (.slice a2 hs.length c2) hs F2]):=by
 have hs1:=srch_hold (t:=W.trail) hser ⟨n0,n1⟩
 refine enter Tryz.func306 rfl Tryz.ntmps306 fun w0=>?_
 refine go ?_;intros
 rename_i gb
 refine cb (fun w st=>by
  have r1:=st.get (p:=.row gb 236 0 [] [ptr g o 0] []) (by simp)
  have r2:=st.get (p:=.row g t o A [.int .i64 W.trail,.int .i64 W.size,.slice a W.items.length c,.int .i64 cl,.int .i64 q,.slice a2 hs.length c2] B) (by simp)
  obtain ⟨Fw, -,hw⟩:=(st.get (p:=.ow EHold 194 (.slice a2 hs.length c2) hs F2) (by simp)).2.read
  refine (SrchHold_f 326 [ptr gb 0 0] [.cel gb 0 [ptr g o 0],.cel g o [.int .i64 W.trail,.int .i64 W.size,.slice a W.items.length c,.int .i64 cl,.int .i64 q,.slice a2 hs.length c2]] rfl hs a2 c2 Fw (.int .i64 n) (fun h=>gp W.trail h.number - gp W.trail n) (fun i j hij hj h=>?_) (by kernel_rfl) hl fun x hx w' hA=>?_).val w ?_
  ·rcases Nat.lt_or_eq_of_le hij with h2|rfl
   ·have:=List.pairwise_iff_getElem.1 hsr i j (by omega) hj h2;omega
   ·exact h
  ·obtain ⟨m0,m1⟩:=isSer_iff.1 (hser x hx)
   exact (fh1_f x n W.trail gb g o _ _ _ _ _ t0 t1 n0 n1 m0 m1).val w' hA
  ·intro p hp
   simp only [List.mem_cons,List.not_mem_nil,or_false] at hp
   rcases hp with rfl|rfl|rfl
   ·exact ⟨by decide,hw⟩
   ·exact ⟨by simp,row_range r1⟩
   ·exact ⟨by simp,row_range r2⟩) ?_
 rw [hs1.2]
 rw [hs1.1]
 refine go ?_;intros
 refine ret () trivial rfl
structure ReS where
 a:Option Addr
 c:Nat
 a2:Option Addr
 c2:Nat
 F:List Nat
 ae:Option Addr
 ce:Nat
 Fe:List Nat
theorem Srequest_f (W:SendWindow) (hs:List Hold) (p:Packet) (g t o:Nat) (A B:List Value) (a a2:Option Addr) (c c2:Nat) (cl q:Int) (F F2:List Nat) (hg:goodSrc ⟨W,cl,q,hs⟩=true) (n0:0≤p.number) (n1:p.number≤65535) (hps:p.data.size≤maxLen) :
  Fn Tryz.prog 265 [ptr g o 0,.agg #[.int .i64 p.kind,.int .i64 p.number,.int .i64 p.trail,.int .i64 p.lead,.string p.data]] [] [.row g t o A [.int .i64 W.trail,.int .i64 W.size,.slice a W.items.length c,.int .i64 cl,.int .i64 q,.slice a2 hs.length c2] B,.ow EHold 194 (.slice a2 hs.length c2) hs F2,.ow EStr 9 (.slice a W.items.length c) W.items F] (fun (_:ReS)=>True)
   (fun z=>.slice z.ae (reqP ⟨W,cl,q,hs⟩ p).length z.ce) (fun z=>[.row g t o A [.int .i64 W.trail,.int .i64 W.size,.slice a W.items.length c,.int .i64 cl,.int .i64 q,.slice z.a2 (reqS ⟨W,cl,q,hs⟩ p.number).holds.length z.c2] B,.ow EHold 194 (.slice z.a2 (reqS ⟨W,cl,q,hs⟩ p.number).holds.length z.c2) (reqS ⟨W,cl,q,hs⟩ p.number).holds z.F,.ow EStr 9 (.slice a W.items.length c) W.items F,.ow EPacket 127 (.slice z.ae (reqP ⟨W,cl,q,hs⟩ p).length z.ce) (reqP ⟨W,cl,q,hs⟩ p) z.Fe]):=by
 obtain ⟨gw,hl,t0,t1,k0,k1,hm,hn,hu,hbb⟩:=goodS_of hg
 have hsr:=(goodSrc_iff.1 hg).2.2.2.2
 dsimp only at gw hl t0 t1 k0 k1 hm hn hu hbb hsr
 have hl2:hs.length≤1000000:=by omega
 have hW:goodWin W=true:=gw
 refine enter Tryz.func265 rfl Tryz.ntmps265 fun w0=>?_
 cases hb:heldB W p.number
 ·have e1:reqS ⟨W,cl,q,hs⟩ p.number=⟨W,cl,q,hs⟩:=by unfold reqS;dsimp only;rw [hb];rfl
  have e2:reqP ⟨W,cl,q,hs⟩ p=[statP W]:=by unfold reqP;dsimp only;rw [hb];rfl
  rw [e1,e2]
  refine go ?_;intros
  refine d_start [0,1] [] ?_
  refine dt4 0 1 2 3 ?_
  refine dt2 4 5 ?_
  refine dN 6 ?_
  refine oC ?_
  refine cb (fun w st=>by obtain ⟨Fw, -,hw⟩:=(st.get (p:=.ow EStr 9 (.slice a W.items.length c) W.items F) (by simp)).2.read;exact (isHeld_f W p.number (.agg #[.int .i64 W.trail,.int .i64 W.size,.slice a W.items.length c]) Fw t0 t1 n0 n1).val w (hol1 ⟨_,rfl,_,rfl,hw⟩)) ?_
  rw [hb]
  refine dk ?_
  refine dt 7 ?_
  refine dd ?_
  refine go ?_;intros
  refine cf (status_f W.trail W.size a W.items.length c t0 t1 (by omega)) fun _ _=>?_
  refine t_app ?_
  refine go ?_;intros
  refine t_row (xs:=[statP W]) (flatPacket _ (by show (⟨#[]⟩:ByteArray).size≤maxLen;decide)) ?_ (by simp)
  refine ret ⟨a,c,a2,c2,F2,_,_,_⟩ trivial rfl
 refine go ?_;intros
 refine d_start [0,1] [] ?_
 refine dt4 0 1 2 3 ?_
 refine dt2 4 5 ?_
 refine dN 6 ?_
 refine oC ?_
 refine cb (fun w st=>by obtain ⟨Fw, -,hw⟩:=(st.get (p:=.ow EStr 9 (.slice a W.items.length c) W.items F) (by simp)).2.read;exact (isHeld_f W p.number (.agg #[.int .i64 W.trail,.int .i64 W.size,.slice a W.items.length c]) Fw t0 t1 n0 n1).val w (hol1 ⟨_,rfl,_,rfl,hw⟩)) ?_
 rw [hb]
 refine dk ?_
 refine dt 7 ?_
 refine dd ?_
 refine go ?_;intros
 refine d_start [0,1] [] ?_
 refine dt4 0 1 2 3 ?_
 refine dt4 4 5 6 7 ?_
 refine dt2 8 9 ?_
 refine dt 10 ?_
 refine dN 11 ?_
 refine oC ?_
 refine cb (fun w _=>SendWindow_lead_c _ _ _ _ _ w t0 t1 (by omega)) ?_
 refine dk ?_
 refine dt 12 ?_
 refine dN 13 ?_
 apply o_bs;rfl;rfl;rfl;rfl;exact rptE;exact filE;intro _
 refine dk ?_
 refine dt 14 ?_
 refine dd ?_
 refine goN ?_;intros
 refine t_row (xs:=[confP W p.number]) (flatPacket _ (by show (⟨#[]⟩:ByteArray).size≤maxLen;decide)) ?_ (by simp)
 refine go ?_;intros
 refine cf (findHold_f W hs p.number g t o A B a a2 c c2 cl q F2 t0 t1 n0 n1 hn hsr hl2) fun _ _=>?_
 refine t_app ?_
 cases ht:thereB W.trail hs p.number
 ·have e1:reqS ⟨W,cl,q,hs⟩ p.number=⟨W,cl,q,addHold hs (holdAt W.trail hs p.number) ⟨p.number,cl+3⟩⟩:=by unfold reqS;dsimp only;rw [hb,ht];rfl
  have e2:reqP ⟨W,cl,q,hs⟩ p=[confP W p.number]++[(resAnswer W p).1]:=by unfold reqP;dsimp only;rw [hb,ht];rfl
  rw [e1,e2]
  refine go ?_;intros
  refine d_start [0,3] [18] ?_
  refine dt4 0 1 2 3 ?_
  refine dt4 4 5 6 7 ?_
  refine dt4 8 9 10 11 ?_
  refine dt2 12 13 ?_
  refine dN 14 ?_
  apply o_bs;rfl;rfl;rfl;rfl;exact rptE;exact filE;intro _
  refine dk ?_
  refine dN 15 ?_
  refine oC ?_
  refine cf (InsHold_f hs ⟨p.number,cl+3⟩ (holdAt W.trail hs p.number) a2 c2 _ F2 (holdAt_le _ _ _) hl2) fun z _=>?_
  refine t_app ?_
  refine dk ?_
  refine dt2 16 17 ?_
  refine dN 18 ?_
  refine oS ?_
  refine dkx ?_
  refine dd ?_
  refine go ?_;intros
  refine d_start [1,3] [] ?_
  refine dt4 0 1 2 3 ?_
  refine dt 4 ?_
  refine dM 5 9 ?_ ?_
  ·refine oC ?_
   refine cb (fun w st=>by obtain ⟨Fw, -,hw⟩:=(st.get (p:=.ow EStr 9 (.slice a W.items.length c) W.items F) (by simp)).2.read;exact (AnswerTo_f W p (.agg #[.int .i64 W.trail,.int .i64 W.size,.slice a W.items.length c]) Fw hps).val w (hol1 ⟨_,rfl,_,rfl,hw⟩)) ?_
   refine dk ?_
   refine dt2 6 7 ?_
   refine dt 8 ?_
   refine dN 9 ?_
   apply o_alloc;rfl;intro _
   refine dk ?_
   refine dN 10 ?_
   refine oS ?_
   refine dk ?_
   refine dt 11 ?_
   refine dd ?_
   refine go ?_;intros
   apply wO
   refine ap1 (flatPacket (resAnswer W p).1 (ans_size hW)) one_EPacket fun a9 c9 F9=>?_
   refine go ?_;intros
   refine ret ⟨a,c,z.1,z.2.1,_,a9,c9,F9⟩ trivial rfl
  ·apply o_alloc;rfl;intro _
   refine dk ?_
   refine dN 5 ?_
   refine oC ?_
   refine cb (fun w st=>by obtain ⟨Fw, -,hw⟩:=(st.get (p:=.ow EStr 9 (.slice a W.items.length c) W.items F) (by simp)).2.read;exact (AnswerTo_f W p (.agg #[.int .i64 W.trail,.int .i64 W.size,.slice a W.items.length c]) Fw hps).val w (hol1 ⟨_,rfl,_,rfl,hw⟩)) ?_
   refine dk ?_
   refine dt2 6 7 ?_
   refine dt 8 ?_
   refine dN 10 ?_
   refine oS ?_
   refine dk ?_
   refine dt 11 ?_
   refine dd ?_
   refine go ?_;intros
   apply wO
   refine ap1 (flatPacket (resAnswer W p).1 (ans_size hW)) one_EPacket fun a9 c9 F9=>?_
   refine go ?_;intros
   refine ret ⟨a,c,z.1,z.2.1,_,a9,c9,F9⟩ trivial rfl
 ·have e1:reqS ⟨W,cl,q,hs⟩ p.number=⟨W,cl,q,hs⟩:=by unfold reqS;dsimp only;rw [hb,ht];rfl
  have e2:reqP ⟨W,cl,q,hs⟩ p=[confP W p.number]:=by unfold reqP;dsimp only;rw [hb,ht];rfl
  rw [e1,e2]
  refine go ?_;intros
  refine ret ⟨a,c,a2,c2,F2,_,_,_⟩ trivial rfl
theorem reqS_w (x:Source) (n:Int):(reqS x n).window=x.window:=by unfold reqS;split <;> rfl
theorem reqS_c (x:Source) (n:Int):(reqS x n).clock=x.clock:=by unfold reqS;split <;> rfl
theorem reqS_q (x:Source) (n:Int):(reqS x n).quiet=x.quiet:=by unfold reqS;split <;> rfl
theorem par_get {n:Net} {i k:Nat} (hg:GoodT n.tree.parent) (hi:i < n.tree.parent.length) (h0:i≠0) (h:parN n i=k):n.tree.parent[i]=((k:Nat):Int)∧k < i∧leafT n.tree.parent ((k:Nat):Int)=false:=by
 have h1:=hg.p i hi (by omega)
 have e:n.tree.parent.getD i 0=n.tree.parent[i]:=getN hi 0
 unfold parN at h
 rw [e] at h
 have e2:n.tree.parent[i]=((k:Nat):Int):=by omega
 refine ⟨e2,by omega,?_⟩
 unfold leafT
 rw [←e2,decide_eq_true (List.getElem_mem hi)];rfl
theorem upward_f (n:Net) (i:Nat) (p:Packet) (g:Nat) (a1:Option Addr) (c1:Nat) (F1:List Nat) (a2:Option Addr) (c2:Nat) (F2:List Nat) (a3:Option Addr) (c3:Nat) (F3:List Nat) (a4:Option Addr) (c4:Nat) (F4:List Nat) (a5:Option Addr) (c5:Nat) (F5:List Nat) (a6:Option Addr) (c6:Nat) (F6:List Nat) (a7:Option Addr) (c7:Nat) (F7:List Nat) (hl:lensN n=true) (h0:i≠0) (hi:i < n.tree.parent.length) (h8:GoodT n.tree.parent) (hsrc:goodSrc n.source=true) (he:∀k,k≠0→k < n.tree.parent.length→leafT n.tree.parent (k:Nat)=false→goodElement (elAt n k)=true) (hp:goodPk p=true) (hps:p.data.size≤maxLen) :
  Fn Tryz.prog 195 [ptr g 0 0,.int .i64 (i:Nat),.agg #[.int .i64 (p).kind,.int .i64 (p).number,.int .i64 (p).trail,.int .i64 (p).lead,.string (p).data]] [] [.row g 49 0 [] [.slice a1 n.tree.parent.length c1,.int .i64 n.source.window.trail,.int .i64 n.source.window.size,.slice a2 n.source.window.items.length c2,.int .i64 n.source.clock,.int .i64 n.source.quiet,.slice a3 n.source.holds.length c3,.slice a4 n.elements.length c4,.slice a5 n.receivers.length c5,.slice a6 n.down.length c6,.slice a7 n.up.length c7] [],.ow EInt 3 (.slice a1 n.tree.parent.length c1) n.tree.parent F1,.ow EStr 9 (.slice a2 n.source.window.items.length c2) n.source.window.items F2,.ow EHold 194 (.slice a3 n.source.holds.length c3) n.source.holds F3,.ow OElement 142 (.slice a4 n.elements.length c4) n.elements F4,.ow OReceiver 149 (.slice a5 n.receivers.length c5) n.receivers F5,.ow (OSl EPacket 127) 132 (.slice a6 n.down.length c6) n.down F6,.ow (OSl EPacket 127) 132 (.slice a7 n.up.length c7) n.up F7] (fun (_:NV)=>True) (fun _=>.tuple #[]) (fun z=>[.row g 49 0 [] [.slice z.a1 n.tree.parent.length z.c1,.int .i64 (upN n i p).source.window.trail,.int .i64 (upN n i p).source.window.size,.slice z.a2 (upN n i p).source.window.items.length z.c2,.int .i64 (upN n i p).source.clock,.int .i64 (upN n i p).source.quiet,.slice z.a3 (upN n i p).source.holds.length z.c3,.slice z.a4 n.elements.length z.c4,.slice z.a5 n.receivers.length z.c5,.slice z.a6 n.down.length z.c6,.slice z.a7 n.up.length z.c7] [],.ow EInt 3 (.slice z.a1 n.tree.parent.length z.c1) (upN n i p).tree.parent z.F1,.ow EStr 9 (.slice z.a2 (upN n i p).source.window.items.length z.c2) (upN n i p).source.window.items z.F2,.ow EHold 194 (.slice z.a3 (upN n i p).source.holds.length z.c3) (upN n i p).source.holds z.F3,.ow OElement 142 (.slice z.a4 n.elements.length z.c4) (upN n i p).elements z.F4,.ow OReceiver 149 (.slice z.a5 n.receivers.length z.c5) (upN n i p).receivers z.F5,.ow (OSl EPacket 127) 132 (.slice z.a6 n.down.length z.c6) (upN n i p).down z.F6,.ow (OSl EPacket 127) 132 (.slice z.a7 n.up.length z.c7) (upN n i p).up z.F7]):=by
 obtain ⟨q1,q2,q3,q4⟩:=lensN_iff.1 hl
 have hn8:=h8.n1
 obtain ⟨n0,n1⟩:=goodPk_num hp
 have hone:∀x∈[((i:Nat):Int)],0≤x∧x.toNat < n.down.length:=fun x hx=>by
  rw [List.mem_singleton] at hx;subst hx;omega
 obtain ⟨k,hk⟩:∃k,parN n i=k:=⟨_,rfl⟩
 obtain ⟨e1,e2,e3⟩:=par_get h8 hi h0 hk
 refine enter Tryz.func195 rfl Tryz.ntmps195 fun w0=>?_
 refine focF (xs:=n.tree.parent) (m:=1) scal_EInt i ?_ (by repeat (first|exact .here|apply Pick.there)) rfl hi
 rintro _ gp A0 cs B0 rfl rfl hr hH
 obtain ⟨rfl, -⟩:=hr w0
 rw [e1]
 refine go ?_;intros
 refine unfF ((k:Nat):Int) hH (fun w=>⟨rfl,rfl⟩) ?_
 rw [show n.tree.parent.set i ((k:Nat):Int)=n.tree.parent by rw [←e1,List.set_getElem_self]]
 refine c_if rfl (fun h5=>?_) (fun h5=>?_)
 ·obtain rfl:k=0:=by omega
  rw [show upN n i p=⟨n.tree,reqS n.source p.number,n.elements,n.receivers,spread n.down [((i:Nat):Int)] (reqP n.source p),n.up⟩ by unfold upN;rw [if_pos hk]]
  dsimp only
  rw [reqS_w,reqS_c,reqS_q]
  refine go ?_;intros
  refine t_rin [.slice (some ⟨gp,0,none⟩) n.tree.parent.length c1] [.int .i64 n.source.window.trail,.int .i64 n.source.window.size,.slice a2 n.source.window.items.length c2,.int .i64 n.source.clock,.int .i64 n.source.quiet,.slice a3 n.source.holds.length c3] [.slice a4 n.elements.length c4,.slice a5 n.receivers.length c5,.slice a6 n.down.length c6,.slice a7 n.up.length c7] ?_
  refine d_start [2] [] ?_
  refine dt4 0 1 3 4 ?_
  refine dt2 5 6 ?_
  refine dM 2 7 ?_ ?_
  ·apply o_bs;rfl;rfl;rfl;rfl;exact rptE;exact filE;intro _
   refine t_row (E:=EInt) (xs:=[((i:Nat):Int)]) (rep_i _) ?_ (by simp)
   refine t_read (E:=EInt) (xs:=[((i:Nat):Int)]) fun Fo=>?_
   refine dk ?_
   refine dN 7 ?_
   refine oC ?_
   refine cf (Srequest_f n.source.window n.source.holds p g 49 (0+1) _ _ a2 a3 c2 c3 n.source.clock n.source.quiet F2 F3 hsrc n0 n1 hps) fun z _=>?_
   refine t_app ?_
   refine t_rout [.slice (some ⟨gp,0,none⟩) n.tree.parent.length c1] [.int .i64 n.source.window.trail,.int .i64 n.source.window.size,.slice a2 n.source.window.items.length c2,.int .i64 n.source.clock,.int .i64 n.source.quiet,.slice z.a2 (reqS n.source p.number).holds.length z.c2] [.slice a4 n.elements.length c4,.slice a5 n.receivers.length c5,.slice a6 n.down.length c6,.slice a7 n.up.length c7] ?_
   refine t_read (E:=EPacket) (xs:=reqP n.source p) fun Fq=>?_
   refine dk ?_
   refine dN 8 ?_
   refine oC ?_
   refine cf (down_f n.down [((i:Nat):Int)] (reqP n.source p) g _ _ _ _ _ _ _ _ _ _ a6 _ c6 F6 _ _ Fo _ _ Fq rfl hone) fun J6 _=>?_
   refine t_app ?_
   refine dk ?_
   refine dd ?_
   refine go ?_;intros
   refine ret (⟨some ⟨gp,0,none⟩,c1,[gp],a2,c2,F2,z.a2,z.c2,z.F,a4,c4,F4,a5,c5,F5,a6,c6,J6,a7,c7,F7⟩:NV) trivial rfl
  ·refine oC ?_
   refine cf (Srequest_f n.source.window n.source.holds p g 49 (0+1) _ _ a2 a3 c2 c3 n.source.clock n.source.quiet F2 F3 hsrc n0 n1 hps) fun z _=>?_
   refine t_app ?_
   refine t_rout [.slice (some ⟨gp,0,none⟩) n.tree.parent.length c1] [.int .i64 n.source.window.trail,.int .i64 n.source.window.size,.slice a2 n.source.window.items.length c2,.int .i64 n.source.clock,.int .i64 n.source.quiet,.slice z.a2 (reqS n.source p.number).holds.length z.c2] [.slice a4 n.elements.length c4,.slice a5 n.receivers.length c5,.slice a6 n.down.length c6,.slice a7 n.up.length c7] ?_
   refine t_read (E:=EPacket) (xs:=reqP n.source p) fun Fq=>?_
   refine dk ?_
   refine dN 2 ?_
   apply o_bs;rfl;rfl;rfl;rfl;exact rptE;exact filE;intro _
   refine t_row (E:=EInt) (xs:=[((i:Nat):Int)]) (rep_i _) ?_ (by simp)
   refine t_read (E:=EInt) (xs:=[((i:Nat):Int)]) fun Fo=>?_
   refine dk ?_
   refine dN 8 ?_
   refine oC ?_
   refine cf (down_f n.down [((i:Nat):Int)] (reqP n.source p) g _ _ _ _ _ _ _ _ _ _ a6 _ c6 F6 _ _ Fo _ _ Fq rfl hone) fun J6 _=>?_
   refine t_app ?_
   refine dk ?_
   refine dd ?_
   refine go ?_;intros
   refine ret (⟨some ⟨gp,0,none⟩,c1,[gp],a2,c2,F2,z.a2,z.c2,z.F,a4,c4,F4,a5,c5,F5,a6,c6,J6,a7,c7,F7⟩:NV) trivial rfl
 have h6:k≠0:=by omega
 have hkl:k < n.elements.length:=by omega
 have hku:k < n.up.length:=by omega
 have hge:goodElement n.elements[k]=true:=elAt_get hkl▸he k h6 (by omega) e3
 have hel:=(goodE_iff.1 hge).2.1
 obtain ⟨hc0,hc1⟩:=isClk_iff.1 (goodE_iff.1 hge).1
 rw [show upN n i p=⟨n.tree,n.source,n.elements.set k (reqE n.elements[k] p.number ((i:Nat):Int)),n.receivers,spread n.down [((i:Nat):Int)] [cnfP p],if fwdE n.elements[k] p.number then n.up.modify k fun q=>putQ q [p] else n.up⟩ by unfold upN;rw [if_neg (by omega),hk,elAt_get hkl]]
 refine go ?_;intros
 refine focO (xs:=n.elements) (m:=2) k ?_ rfl hkl
 rintro _ g5 A5 cs B5 k1 k2 J1 Ji J2 rfl - hc5 hH5
 refine openOElement ?_
 rintro b1 d1 G1 ev l1
 obtain rfl:cs=[.int .i64 n.elements[k].clock,.slice b1 n.elements[k].entries.length d1]:=by simpa using ev
 refine d_start [5,6] [] ?_
 refine dt4 0 1 2 3 ?_
 refine dt4 4 5 6 7 ?_
 refine dt 8 ?_
 refine dN 9 ?_
 refine oC ?_
 refine cf (Erequest_f n.elements[k] p.number ((i:Nat):Int) g5 142 (0+k * 2) A5 B5 b1 d1 G1 (by omega) (fun x hx=>⟨by have:=faces_len hge hx;omega,faces_pw hge hx⟩) (by omega) (by omega)) fun s _=>?_
 refine t_app ?_
 refine dk ?_
 refine dt 10 ?_
 refine dd ?_
 refine closeOElement (reqE n.elements[k] p.number ((i:Nat):Int)) ?_
 refine unfO _ hH5 rfl fun J5=>?_
 refine goN ?_;intros
 refine t_row (E:=EInt) (xs:=[((i:Nat):Int)]) (rep_i _) ?_ (by simp)
 refine t_read (E:=EInt) (xs:=[((i:Nat):Int)]) fun Fo=>?_
 refine t_row (E:=EPacket) (xs:=[cnfP p]) (flatPacket (cnfP p) (Nat.zero_le _)) ?_ (by simp)
 refine t_read (E:=EPacket) (xs:=[cnfP p]) fun Fp=>?_
 refine go ?_;intros
 refine cf (down_f n.down [((i:Nat):Int)] [cnfP p] g _ _ _ _ _ _ _ _ _ _ a6 _ c6 F6 _ _ Fo _ _ Fp rfl hone) fun J6 _=>?_
 refine t_app ?_
 cases hf:fwdE n.elements[k] p.number
 ·rw [if_neg (by decide)]
  refine go ?_;intros
  refine t_fall ?_
  refine ret (⟨some ⟨gp,0,none⟩,c1,[gp],a2,c2,F2,a3,c3,F3,_,c4,J5,a5,c5,F5,a6,c6,J6,a7,c7,F7⟩:NV) trivial rfl
 ·rw [if_pos rfl,show (n.up.modify k fun q=>putQ q [p])=n.up.set k (pushQ n.up[k] p) by rw [modify_set hku,putQ_one]]
  refine go ?_;intros
  refine d_start [0,6] [] ?_
  refine dt4 0 1 2 3 ?_
  refine dt2 4 5 ?_
  refine dN 6 ?_
  refine oC ?_
  refine cf (netPush_f n.up k p a7 _ c7 F7 rfl hku hps) fun J7 _=>?_
  refine t_app ?_
  refine dk ?_
  refine dd ?_
  refine go ?_;intros
  refine t_fall ?_
  refine ret (⟨some ⟨gp,0,none⟩,c1,[gp],a2,c2,F2,a3,c3,F3,_,c4,J5,a5,c5,F5,a6,c6,J6,a7,c7,J7⟩:NV) trivial rfl
def liveE (es:List Entry) (ck:Int):List Entry:=es.filter fun x=>!decide (x.untl≤ck)
theorem etick1_f (x:Entry) (ck:Int) (gb g o:Nat) (u q:Value) (G:List Nat):Fn Tryz.prog 206 [u,ptr gb 0 0] [.isv EEntry u x G,.cel gb 0 [ptr g o 0],.cel g o [.int .i64 ck,q]] [] (fun (_:Unit)=>True) (fun _=>.bool (decide (x.untl≤ck))) (fun _=>[]):=by
 refine enter Tryz.func206 rfl Tryz.ntmps206 fun w0=>?_
 refine openEntry ?_
 rintro a1 c1 F1 rfl l1
 refine go ?_;intros
 refine d_start [0,3,4] [] ?_
 refine dt4 0 1 2 3 ?_
 refine dt4 4 5 6 7 ?_
 refine dd ?_
 refine go ?_;intros
 refine ret () trivial rfl
theorem etickD_f (es:List Entry) (ck:Int) (gb tb g t o:Nat) (A B:List Value) (a:Option Addr) (c:Nat) (F:List Nat) :
  Fn Tryz.prog 205 [.slice a es.length c,.func (.func 206) #[] #[ptr gb 0 0]] [] [.ow OEntry 231 (.slice a es.length c) es F,.row gb tb 0 [] [ptr g o 0] [],.row g t o A [.int .i64 ck,.slice a es.length c] B] (fun (_:Option Addr × Nat × List Nat)=>True)
   (fun z=>.slice z.1 (liveE es ck).length z.2.1) (fun z=>[.ow OEntry 231 (.slice z.1 (liveE es ck).length z.2.1) (liveE es ck) z.2.2,.row gb tb 0 [] [ptr g o 0] [],.row g t o A [.int .i64 ck,.slice a es.length c] B]):=by
 refine fn_lib rfl fun w ⟨hnd,ho⟩ _ hk=>?_
 refine (DeleteFunc_Entry _ (body_of (by kernel_rfl)) #[ptr gb 0 0] _ es F (fun x=>decide (x.untl≤ck)) w ho hnd fun k hk2 wr u G hK hu=>?_).mono ?_
 ·have hr:=hk wr hK
  have r1:=hr (.row gb tb 0 [] [ptr g o 0] []) (by simp)
  have r2:=hr (.row g t o A [.int .i64 ck,.slice a es.length c] B) (by simp)
  refine (etick1_f es[k] ck gb g o u (.slice a es.length c) G).val wr ?_
  intro p hp
  simp only [List.mem_cons,List.not_mem_nil,or_false] at hp
  rcases hp with rfl|rfl|rfl
  ·exact hu
  ·exact ⟨by simp,row_range r1⟩
  ·exact ⟨by simp,row_range r2⟩
 ·rintro e w' ⟨v',F',rfl,h1,h2,h3,h4⟩
  obtain ⟨a',c',rfl⟩:=h1.slice
  exact ⟨(a',c',F'),trivial,rfl,⟨h2,h1⟩,fun b hb=>.inl (h3 b hb),h4⟩
theorem Etick_f (e:Element) (g t o:Nat) (A B:List Value) (a:Option Addr) (c:Nat) (F:List Nat) (h0:-1000000≤e.clock) (h1:e.clock≤1000000) :
  Fn Tryz.prog 129 [ptr g o 0] [] [.row g t o A [.int .i64 e.clock,.slice a e.entries.length c] B,.ow OEntry 231 (.slice a e.entries.length c) e.entries F] (fun (_:Option Addr × Nat × List Nat)=>True)
   (fun _=>.tuple #[]) (fun z=>[.row g t o A [.int .i64 (tickElement e).clock,.slice z.1 (tickElement e).entries.length z.2.1] B,.ow OEntry 231 (.slice z.1 (tickElement e).entries.length z.2.1) (tickElement e).entries z.2.2]):=by
 refine enter Tryz.func129 rfl Tryz.ntmps129 fun w0=>?_
 refine go ?_;intros
 refine d_start [0,1] [9] ?_
 refine dt4 0 1 2 3 ?_
 refine dt2 4 5 ?_
 refine dN 6 ?_
 refine oC ?_
 refine cf (etickD_f e.entries (e.clock+1) _ _ g t o A B a c F) fun z _=>?_
 refine t_app ?_
 refine dk ?_
 refine dt2 7 8 ?_
 refine dN 9 ?_
 refine oS ?_
 refine dkx ?_
 refine dd ?_
 refine t_fall ?_
 refine ret (_,_,_) trivial rfl
theorem good_tickE {e:Element} (h:goodElement e=true) (hc:e.clock < 9999):goodElement (tickElement e)=true:=by
 obtain ⟨h1,h2,h3,h4⟩:=goodE_iff.1 h
 have h5:=isClk_iff.1 h1
 unfold tickElement
 refine goodE_iff.2 ⟨isClk_iff.2 ⟨by show 0≤e.clock+1;omega,by show e.clock+1≤9999;omega⟩,Nat.le_trans (List.length_filter_le _ _) h2,fun x hx=>?_,h4.filter _⟩
 obtain ⟨hx1,hx2⟩:=List.mem_filter.1 hx
 obtain ⟨a,b,c,d,f⟩:=okEntry_iff.1 (h3 x hx1)
 simp only [Bool.not_eq_true',decide_eq_false_iff_not] at hx2
 exact okEntry_iff.2 ⟨a,b,c,by show e.clock+1+1≤x.untl;omega,by show x.untl≤e.clock+1+6;omega⟩
theorem mkPk {k n t l:Int} {s:ByteArray} (hk:1≤k∧k≤5) (hn:isSer n=true) (ht:isSer t=true) (hl:isSer l=true) (hg:gp t l≤32767) (hs:itm s=true) (he:s=⟨#[]⟩∨k≤2):goodPk ⟨k,n,t,l,s⟩=true:=by
 unfold goodPk btw
 simp only [Bool.and_eq_true,Bool.or_eq_true,decide_eq_true_eq]
 refine ⟨⟨⟨⟨⟨⟨hk,hn⟩,ht⟩,hl⟩,hs⟩,hg⟩,?_⟩
 rcases he with h|h
 ·exact .inl (.inl h)
 ·by_cases h1:k=1
  ·exact .inl (.inr h1)
  ·exact .inr (by omega)
theorem nil_itm:itm ⟨#[]⟩=true:=by decide
theorem lead_gp {x:SendWindow} (h:goodWin x=true):isSer x.trail=true∧isSer (leadW x)=true∧gp x.trail (leadW x)≤32767:=by
 obtain ⟨⟨t0,t1⟩,⟨s0,s1⟩,hl, -⟩:=goodWin_iff.1 h
 refine ⟨isSer_iff.2 ⟨t0,t1⟩,aft_ser _ _,?_⟩
 unfold leadW gp aft
 omega
theorem stat_good {x:SendWindow} (h:goodWin x=true):goodPk (statP x)=true:=by
 obtain ⟨a,b,c⟩:=lead_gp h
 exact mkPk (by decide) a a b c nil_itm (.inl rfl)
theorem tickP_good {x:SendWindow} {q:Int} (h:goodWin x=true):∀p∈tickP x q,goodPk p=true:=fun p hp=>by
 unfold tickP at hp
 split at hp
 ·simp at hp
 ·rw [List.mem_singleton] at hp;subst hp;exact stat_good h
theorem ans_good {x:SendWindow} {n:Int} (h:goodWin x=true) (hn:isSer n=true) (hh:heldB x n=true):goodPk (ansP x n)=true:=by
 obtain ⟨a,b,c⟩:=lead_gp h
 have hi:=(goodWin_iff.1 h).2.2.2
 have hl:=held_lt hh
 exact mkPk (by decide) hn a b c (by rw [itemAt_lt hl];exact List.all_eq_true.1 hi _ (List.getElem_mem hl)) (.inr (by decide))
theorem conf_good {x:SendWindow} {n:Int} (h:goodWin x=true) (hn:isSer n=true):goodPk (confP x n)=true:=by
 obtain ⟨a,b,c⟩:=lead_gp h
 exact mkPk (by decide) hn a b c nil_itm (.inl rfl)
theorem reqP_good {x:Source} {p:Packet} (h:goodWin x.window=true) (hp:goodPk p=true) (hk:p.kind=3):∀r∈reqP x p,goodPk r=true:=fun r hr=>by
 have hn:=isSer_iff.2 (goodPk_num hp)
 unfold reqP at hr
 split at hr
 ·rename_i hh
  split at hr
  ·rw [List.mem_singleton] at hr;subst hr;exact conf_good h hn
  ·simp only [List.mem_cons,List.not_mem_nil,or_false] at hr
   rcases hr with rfl|rfl
   ·exact conf_good h hn
   ·rw [show resAnswer x.window p=(ansP x.window p.number,true) by unfold resAnswer okAnswer;rw [h,hp,hh,decide_eq_true hk];rfl]
    exact ans_good h hn hh
 ·rw [List.mem_singleton] at hr;subst hr;exact stat_good h
theorem push_good {x:SendWindow} {s:ByteArray} (h:goodWin x=true) (hs:itm s=true):goodPk (pushedP x s)=true:=by
 obtain ⟨⟨t0,t1⟩,⟨s0,s1⟩,hl, -⟩:=goodWin_iff.1 h
 have hr:=roomed_bd t0 t1
 have hrl:(roomed x).items.length≤6:=by
  unfold roomed
  split
  ·show (x.items.drop 1).length≤6
   rw [List.length_drop];omega
  ·omega
 refine mkPk (by decide) (aft_ser _ _) (isSer_iff.2 hr) (aft_ser _ _) ?_ hs (.inr (by decide))
 unfold gp aft
 omega
theorem cnf_good {p:Packet} (h:goodPk p=true):goodPk (cnfP p)=true:=by
 unfold goodPk at h
 simp only [Bool.and_eq_true,decide_eq_true_eq] at h
 exact mkPk (by decide) h.1.1.1.1.1.2 h.1.1.1.1.2 h.1.1.1.2 h.1.2 nil_itm (.inl rfl)
theorem tickPk_good {r:Receiver} (h:GoodR r):∀p∈tickPk r,goodPk p=true∧p.kind=3:=fun p hp=>by
 unfold tickPk at hp
 obtain ⟨k,hk,rfl⟩:=List.mem_map.1 hp
 obtain ⟨q,hq,hs⟩:=List.mem_filterMap.1 hk
 obtain ⟨-, -,q2, -⟩:=areQ_iff.1 h.q
 have hn:=(okReq_iff.1 (q2 q hq)).n
 have hw:=good_of h.w
 have e:k=q.number:=by
  unfold tkS at hs
  split at hs
  ·cases hs
  ·split at hs
   ·cases hs
   ·split at hs
    ·exact (Option.some.inj hs).symm
    ·cases hs
 subst e
 have hx:=isSer_iff.2 ⟨hw.n0,hw.n1⟩
 exact ⟨mkPk (by decide) hn hx hx (by unfold gp;omega) nil_itm (.inl rfl),rfl⟩
theorem GN.ck {ck ck':Nat→Int} {n:Net} (h:GN ck n) (he:∀i,i≠0→i < n.tree.parent.length→ck i=ck' i):GN ck' n:=by
 obtain ⟨q1,q2,q3,q4⟩:=lensN_iff.1 h.l
 refine .mk' h.t h.s h.l fun i h1 h2 h3 h4=>?_
 have r:=rightN_iff.1 (h.a i h1 h2 h3 h4)
 exact ⟨r.hd,r.hu,r.hk,r.hz,fun e0 l=>by rw [←he i e0 (by omega)];exact r.hf e0 l,fun e0 l=>by rw [←he i e0 (by omega)];exact r.hn e0 l⟩
theorem kids_nz {l:List Int} (hg:GoodT l) (i:Nat):∀x∈kids l ((i:Nat):Int),x.toNat≠0:=fun x hx=>by have:=kids_behind hg hx;omega
theorem tick1_good {ck:Nat→Int} {n:Net} {i:Nat} (h:GN ck n) (h0:i≠0) (hi:i < n.tree.parent.length) (hc:ck i < 9999):GN (updC ck i (ck i+1)) (tick1 n i).1:=by
 obtain ⟨h1,h2,h3,h4,r⟩:=h.rn hi
 obtain ⟨d0,d1⟩:1≤dly i∧dly i≤8:=by unfold dly;omega
 unfold tick1
 cases hl:leafT n.tree.parent ((i:Nat):Int)
 ·rw [if_neg (by decide)]
  obtain ⟨he,e2,e3⟩:=r.hn h0 hl
  have e:elAt n i=n.elements[i]:=by unfold elAt;rw [List.getD_eq_getElem?_getD,List.getElem?_eq_getElem h1];rfl
  have:=h.el h0 hl (good_tickE (e:=n.elements[i]) he (by omega))
  rw [show (tickElement n.elements[i]).clock=ck i+1 by rw [←e2];rfl] at this
  rw [e];exact this
 ·rw [if_pos rfl]
  obtain ⟨he,e2,e3⟩:=r.hf h0 hl
  have e:rcAt n i=n.receivers[i]:=by unfold rcAt;rw [List.getD_eq_getElem?_getD,List.getElem?_eq_getElem h2];rfl
  have hg:=goodR_iff.1 e2
  have ht:=tick_good hg (by omega) d0 d1
  have:=h.rc h0 hl (goodR_iff.2 ht)
  rw [show (tickRec n.receivers[i] (dly i)).clock=ck i+1 by unfold tickRec;split <;> (show n.receivers[i].clock+1=_;rw [e3])] at this
  rw [e]
  exact this.un i _ (fun e=>absurd e h0) fun q a b=>⟨putQ_good a fun p hp=>(tickPk_good hg p hp).1,putQ_up b fun p hp=>(tickPk_good hg p hp).2⟩
theorem tick1_tree (n:Net) (i:Nat):(tick1 n i).1.tree=n.tree∧(tick1 n i).1.source=n.source:=by unfold tick1;split <;> exact ⟨rfl,rfl⟩
def ckT (c:Int) (k:Nat):Nat→Int:=fun j=>if j≤k then c+1 else c
theorem tickTo_good {n:Net} (hg:goodNet n=true) (hc:n.source.clock < 9999):∀k,k+1≤n.tree.parent.length→GN (ckT n.source.clock k) (tickTo n k).1∧(tickTo n k).1.tree=n.tree∧(tickTo n k).1.source=tickS n.source
 | 0,_=>by
  have h:=goodNet_GN.1 hg
  have ht:=goodT h.t
  refine ⟨?_,rfl,rfl⟩
  have h2:=((h.src (good_tick h.s hc)).sp (tickP_good (q:=n.source.quiet) (goodSrc_iff.1 h.s).1) (kids_nz ht 0)).ck (ck':=ckT n.source.clock 0) fun i h0 _=>by unfold ckT;rw [if_neg (by omega)]
  exact h2
 | k+1,hk=>by
  obtain ⟨h1,h2,h3⟩:=tickTo_good hg hc k (by omega)
  obtain ⟨t1,t2⟩:=tick1_tree (tickTo n k).1 (k+1)
  have e:ckT n.source.clock k (k+1)=n.source.clock:=by unfold ckT;rw [if_neg (by omega)]
  have:=tick1_good h1 (i:=k+1) (by omega) (by rw [h2];omega) (by rw [e];exact hc)
  refine ⟨this.ck fun i h0 hi=>?_,t1.trans h2,t2.trans h3⟩
  rw [e]
  unfold updC ckT
  by_cases c1:i=k+1
  ·rw [if_pos c1,if_pos (by omega)]
  ·rw [if_neg c1]
   by_cases c2:i≤k
   ·rw [if_pos c2,if_pos (by omega)]
   ·rw [if_neg c2,if_neg (by omega)]
theorem tickN_good {n:Net} (hg:goodNet n=true) (hc:n.source.clock < 9999):goodNet (tickN n).1=true:=by
 have h:=goodNet_GN.1 hg
 have ht:=goodT h.t
 have:=ht.n0
 obtain ⟨h1,h2,h3⟩:=tickTo_good hg hc (n.tree.parent.length - 1) (by omega)
 refine goodNet_GN.2 ?_
 show GN (fun _=>(tickTo n (n.tree.parent.length - 1)).1.source.clock) _
 rw [h3]
 exact h1.ck fun i h0 hi=>by rw [h2] at hi;unfold ckT;rw [if_pos (by omega)];rfl
theorem row_in {g t o k:Nat} {A B X cs Y:List Value} (hk:X.length=k) {w:World}:(Pc.row g t (o+k) (A++X) cs (Y++B)).P w↔(Pc.row g t o A (X++cs++Y) B).P w:=by
 show ((A++X).length=o+k∧Row w g t (A++X++cs++(Y++B)))↔(A.length=o∧Row w g t (A++(X++cs++Y)++B))
 rw [List.length_append,hk]
 have e:A++X++cs++(Y++B)=A++(X++cs++Y)++B:=by simp [List.append_assoc]
 rw [e]
 exact ⟨fun h=>⟨by omega,h.2⟩,fun h=>⟨by omega,h.2⟩⟩
theorem hol_hd {p q:Pc} {R:List Pc} {w:World} (h:p.P w→q.P w) (hH:Hol (p::R) w):Hol (q::R) w:=fun x hx=>by
 rcases List.mem_cons.1 hx with rfl|hx
 ·exact h (hH p (by simp))
 ·exact hH x (by simp [hx])
theorem sep_hd {p q:Pc} {R:List Pc} (hm:p.mu=q.mu) (hF:p.F=q.F) (hS:Sep (p::R)):Sep (q::R):=⟨fun x hx hmu b hb=>hS.1 x hx (by rw [hm];exact hmu) b (by rw [hF];exact hb),hS.2⟩
theorem fn_rin {P:Program} {f:FuncId} {args:List Value} {A M':List Pc} {g t o k:Nat} {A' B X cs Y L:List Value} {σ:Type} {C:σ→Prop} {v:σ→Value} {cs' L':σ→List Value} {N':σ→List Pc}
  (h:Fn P f args A (.row g t (o+k) (A'++X) cs (Y++B)::M') C v (fun s=>.row g t (o+k) (A'++X) (cs' s) (Y++B)::N' s)) (hk:X.length=k) (hL:L=X++cs++Y) (hL':∀s,L' s=X++cs' s++Y) :
  Fn P f args A (.row g t o A' L B::M') C v (fun s=>.row g t o A' (L' s) B::N' s):=fun w hH hS=>by
 subst hL
 refine (h w (hol_hd (row_in hk).2 hH) (sep_hd rfl rfl hS)).mono ?_
 rintro e w' ⟨s,hC,he,h1,h2,h3,h4⟩
 refine ⟨s,hC,he,?_,sep_hd rfl rfl h2,?_,?_⟩
 ·show Hol (.row g t o A' (L' s) B::N' s) w'
  rw [hL' s]
  exact hol_hd (row_in hk).1 h1
 ·simpa [fp,Pc.mu,Pc.F] using h3
 ·intro p hp b hb
  have hp':∃q∈(Pc.row g t (o+k) (A'++X) (cs' s) (Y++B)::N' s),q.mu=p.mu∧b∈q.F:=by
   rcases List.mem_cons.1 hp with rfl|hp
   ·exact ⟨_,.head _,rfl,hb⟩
   ·exact ⟨p,.tail _ hp,rfl,hb⟩
  obtain ⟨q,hq,hm,hbq⟩:=hp'
  rcases h4 q hq b hbq with h|⟨x,hx,hbx⟩|⟨hm2,x,hx,hbx⟩
  ·exact .inl h
  ·refine .inr (.inl ?_)
   rcases List.mem_cons.1 hx with rfl|hx
   ·exact ⟨_,.head _,hbx⟩
   ·exact ⟨x,.tail _ hx,hbx⟩
  ·exact .inr (.inr ⟨by rw [←hm];exact hm2,x,hx,hbx⟩)
section
variable {c:Cx} {fr:Fr} {H:List Pc} {k:List It} {Φ:Gl} {ops:Array Oper} {o:Op} {d:Nat} {v:Value} {ty:TypeId} {pos:String} {aft:Array Edge} {H0:List Pc} {X:List Nat} {f:Nat} {listed:Array Bool}
theorem dsI {id:Nat} {l:List Oper} (H0:List Pc) (X:List Nat) (h:T c fr H (.dx k H0 X l.toArray l.length (Array.replicate l.length false))) (hm:c.P.follows .mixedOrders=true:=by kernel_rfl):T c fr H (.code k (Code.region id l.toArray true)):=.mk fun a w s g=>by
 refine AnyX.start (S:=Hol H0) (X:=fun i=>X.contains i) hm ?_
 have:=h.h a w.drew (s.below (belowDrewN (Below.refl _ _) 1)) g
 simpa [Gl.sem] using this
theorem dtI (i:Nat) (hI:∀w,Hol H w→Hol H0 w) (h:T c ((d,v)::fr) H (.dx k H0 X ops f (listed.setIfInBounds i true))) (ho:ops[i]?=some ⟨some d,o,ty,pos,aft,none⟩:=by rw [List.getElem?_toArray];rfl) (hy:Yd c.P c.n fr H0 o ty v:=by exact ydE)
  (h1:Region.noSelect ops=true:=by kernel_rfl) (h2:Region.free .any ops listed i=true:=by kernel_rfl) (h3:(Region.ready .any ops listed).contains i=true:=by kernel_rfl) (h4:waitsAll .any ops (fun i=>X.contains i) i=true:=by kernel_rfl) (h5:closedB .any ops listed=true:=by kernel_rfl) (hR:PanOk c:=by exact panOk) (hd:Nat.blt d c.n=true:=by rfl) :
  T c fr H (.dx k H0 X ops (f+1) listed):=.mk fun a w s g =>
 AnyX.take (v:=v) ho h1 h2 h3 h4 h5 (fun ch a w hp=>by rw [run_panic] at hp ⊢;exact hR _ _ _ _ _ hp) (.inl ⟨rfl,fun w' hw'=>hy.h a w' _ _ _ _ g hw'⟩) (hI w s.on) (h.h _ _ s (g.put hd))
theorem dkI {i:Nat} (hI:∀w,Hol H w→Hol H0 w) (h:T c fr H (.dx k H0 X ops f listed)):T c fr H (.dk i k H0 X ops f listed):=.mk fun a w s g=>⟨fun _=>hI w s.on,h.h a w s g⟩
end
theorem row_cel {g t:Nat} {x:Value} {r:List Value} {w:World} (h:(Pc.row g t 0 [] (x::r) []).P w):(Pc.cel g 0 [x]).P w:=⟨by simp,fun j u hu=>by
 cases j with
 | zero=>exact row_range h 0 u (by simpa using hu)
 | succ j=>simp at hu⟩
structure TkN where
 k:Nat
 z:NV
 a:Option Addr
 c:Nat
 F:List Nat
theorem Ntick_f (n:Net) (g:Nat) (a1:Option Addr) (c1:Nat) (F1:List Nat) (a2:Option Addr) (c2:Nat) (F2:List Nat) (a3:Option Addr) (c3:Nat) (F3:List Nat) (a4:Option Addr) (c4:Nat) (F4:List Nat) (a5:Option Addr) (c5:Nat) (F5:List Nat) (a6:Option Addr) (c6:Nat) (F6:List Nat) (a7:Option Addr) (c7:Nat) (F7:List Nat) (FT:List Nat) (hg:goodNet n=true) (hc:n.source.clock < 9999) :
  Fn Tryz.prog 66 [ptr g 0 0] [EnvP FT] [.row g 49 0 [] [.slice a1 n.tree.parent.length c1,.int .i64 n.source.window.trail,.int .i64 n.source.window.size,.slice a2 n.source.window.items.length c2,.int .i64 n.source.clock,.int .i64 n.source.quiet,.slice a3 n.source.holds.length c3,.slice a4 n.elements.length c4,.slice a5 n.receivers.length c5,.slice a6 n.down.length c6,.slice a7 n.up.length c7] [],.ow EInt 3 (.slice a1 n.tree.parent.length c1) n.tree.parent F1,.ow EStr 9 (.slice a2 n.source.window.items.length c2) n.source.window.items F2,.ow EHold 194 (.slice a3 n.source.holds.length c3) n.source.holds F3,.ow OElement 142 (.slice a4 n.elements.length c4) n.elements F4,.ow OReceiver 149 (.slice a5 n.receivers.length c5) n.receivers F5,.ow (OSl EPacket 127) 132 (.slice a6 n.down.length c6) n.down F6,.ow (OSl EPacket 127) 132 (.slice a7 n.up.length c7) n.up F7] (fun (_:NV × KA)=>True) (fun z=>.slice z.2.a (tickN n).2.length z.2.c) (fun z=>[.row g 49 0 [] [.slice z.1.a1 n.tree.parent.length z.1.c1,.int .i64 (tickN n).1.source.window.trail,.int .i64 (tickN n).1.source.window.size,.slice z.1.a2 (tickN n).1.source.window.items.length z.1.c2,.int .i64 (tickN n).1.source.clock,.int .i64 (tickN n).1.source.quiet,.slice z.1.a3 (tickN n).1.source.holds.length z.1.c3,.slice z.1.a4 n.elements.length z.1.c4,.slice z.1.a5 n.receivers.length z.1.c5,.slice z.1.a6 n.down.length z.1.c6,.slice z.1.a7 n.up.length z.1.c7] [],.ow EInt 3 (.slice z.1.a1 n.tree.parent.length z.1.c1) (tickN n).1.tree.parent z.1.F1,.ow EStr 9 (.slice z.1.a2 (tickN n).1.source.window.items.length z.1.c2) (tickN n).1.source.window.items z.1.F2,.ow EHold 194 (.slice z.1.a3 (tickN n).1.source.holds.length z.1.c3) (tickN n).1.source.holds z.1.F3,.ow OElement 142 (.slice z.1.a4 n.elements.length z.1.c4) (tickN n).1.elements z.1.F4,.ow OReceiver 149 (.slice z.1.a5 n.receivers.length z.1.c5) (tickN n).1.receivers z.1.F5,.ow (OSl EPacket 127) 132 (.slice z.1.a6 n.down.length z.1.c6) (tickN n).1.down z.1.F6,.ow (OSl EPacket 127) 132 (.slice z.1.a7 n.up.length z.1.c7) (tickN n).1.up z.1.F7,.ow EStr 9 (.slice z.2.a (tickN n).2.length z.2.c) (tickN n).2 z.2.F]):=by
 have hG:=goodNet_GN.1 hg
 have h8:=goodT hG.t
 have hn8:=h8.n1
 have hn2:=h8.n0
 obtain ⟨q1,q2,q3,q4⟩:=lensN_iff.1 hG.l
 have hS:=goodS_of hG.s
 obtain ⟨hq0,hq3⟩:=quiet_bd hG.s
 have hkl:=kids_len n.tree.parent 0
 have hkx:∀x∈kids n.tree.parent 0,0≤x∧x.toNat < n.down.length:=fun x hx=>by have:=kids_behind (i:=0) h8 hx;omega
 refine enter Tryz.func66 rfl Tryz.ntmps66 fun w0=>?_
 refine go ?_;intros
 refine dsI [.cel g 0 [.slice a1 n.tree.parent.length c1]] [] ?_
 refine dtI 0 (fun w h=>hol1 (row_cel (h (.row g _ 0 [] _ []) (by exact memE)))) ?_
 refine dtI 1 (fun w h=>hol1 (row_cel (h (.row g _ 0 [] _ []) (by exact memE)))) ?_
 refine dtI 2 (fun w h=>hol1 (row_cel (h (.row g _ 0 [] _ []) (by exact memE)))) ?_
 refine dtI 3 (fun w h=>hol1 (row_cel (h (.row g _ 0 [] _ []) (by exact memE)))) ?_
 refine dtI 4 (fun w h=>hol1 (row_cel (h (.row g _ 0 [] _ []) (by exact memE)))) ?_
 refine dtI 6 (fun w h=>hol1 (row_cel (h (.row g _ 0 [] _ []) (by exact memE)))) ?_
 refine dtI 7 (fun w h=>hol1 (row_cel (h (.row g _ 0 [] _ []) (by exact memE)))) ?_
 refine dtI 8 (fun w h=>hol1 (row_cel (h (.row g _ 0 [] _ []) (by exact memE)))) ?_
 refine dN 5 ?_
 refine oC ?_
 refine cfr (fun w st=>by obtain ⟨Fq,hq⟩:=rdTree (st.get (p:=.ow EInt 3 (.slice a1 n.tree.parent.length c1) n.tree.parent F1) (by exact memE));exact ⟨_,hol1 hq,rfl,children_f n.tree 0 _ Fq (by show n.tree.parent.length≤1000000;omega)⟩) (fun u _=>?_)
 refine t_app ?_
 refine t_read (E:=EInt) (xs:=kids n.tree.parent 0) fun Fk=>?_
 refine dkI (fun w h=>hol1 (row_cel (h (.row g _ 0 [] _ []) (by exact memE)))) ?_
 refine dN 9 ?_
 refine oC ?_
 refine cf (fn_rin (X:=[.slice a1 n.tree.parent.length c1]) (cs:=[.int .i64 n.source.window.trail,.int .i64 n.source.window.size,.slice a2 n.source.window.items.length c2,.int .i64 n.source.clock,.int .i64 n.source.quiet,.slice a3 n.source.holds.length c3]) (Y:=[.slice a4 n.elements.length c4,.slice a5 n.receivers.length c5,.slice a6 n.down.length c6,.slice a7 n.up.length c7]) (L:=[.slice a1 n.tree.parent.length c1,.int .i64 n.source.window.trail,.int .i64 n.source.window.size,.slice a2 n.source.window.items.length c2,.int .i64 n.source.clock,.int .i64 n.source.quiet,.slice a3 n.source.holds.length c3,.slice a4 n.elements.length c4,.slice a5 n.receivers.length c5,.slice a6 n.down.length c6,.slice a7 n.up.length c7]) (L':=fun z:TiS=>[.slice a1 n.tree.parent.length c1,.int .i64 n.source.window.trail,.int .i64 n.source.window.size,.slice a2 n.source.window.items.length c2,.int .i64 (n.source.clock+1),.int .i64 (tickQ n.source.quiet),.slice z.a2 (keepT (n.source.clock+1) n.source.holds).length z.c2,.slice a4 n.elements.length c4,.slice a5 n.receivers.length c5,.slice a6 n.down.length c6,.slice a7 n.up.length c7]) (cs':=fun z:TiS=>[.int .i64 n.source.window.trail,.int .i64 n.source.window.size,.slice a2 n.source.window.items.length c2,.int .i64 (n.source.clock+1),.int .i64 (tickQ n.source.quiet),.slice z.a2 (keepT (n.source.clock+1) n.source.holds).length z.c2]) (Stick_f n.source.window n.source.holds g 49 (0+1) _ _ a2 a3 c2 c3 n.source.clock n.source.quiet F3 hS.t0 hS.t1 hS.l hS.k0 hS.k1 hq0 hq3) rfl rfl (fun _=>rfl)) fun z _=>?_
 refine t_app ?_
 refine t_read (E:=EPacket) (xs:=tickP n.source.window n.source.quiet) fun Fp=>?_
 refine dkI (fun w h=>hol1 (row_cel (h (.row g _ 0 [] _ []) (by exact memE)))) ?_
 refine dN 10 ?_
 refine oC ?_
 refine cf (down_f n.down (kids n.tree.parent 0) (tickP n.source.window n.source.quiet) g _ _ _ _ _ _ _ _ _ _ a6 _ c6 F6 _ _ Fk _ _ Fp rfl hkx) fun J6 _=>?_
 refine t_app ?_
 refine dkI (fun w h=>hol1 (row_cel (h (.row g _ 0 [] _ []) (by exact memE)))) ?_
 refine dd ?_
 refine t_nilow EStr 9 ?_
 rw [show spread n.down (kids n.tree.parent 0) (tickP n.source.window n.source.quiet)=(tickTo n 0).1.down from rfl]
 refine go ?_;intros
 refine c_loopS [0,2] (fun s:TkN=>[(3,.slice s.a (tickTo n s.k).2.length s.c),(4,.int .i64 ((s.k+1:Nat):Int))]) (fun s=>[.row g 49 0 [] [.slice s.z.a1 n.tree.parent.length s.z.c1,.int .i64 (tickTo n s.k).1.source.window.trail,.int .i64 (tickTo n s.k).1.source.window.size,.slice s.z.a2 (tickTo n s.k).1.source.window.items.length s.z.c2,.int .i64 (tickTo n s.k).1.source.clock,.int .i64 (tickTo n s.k).1.source.quiet,.slice s.z.a3 (tickTo n s.k).1.source.holds.length s.z.c3,.slice s.z.a4 n.elements.length s.z.c4,.slice s.z.a5 n.receivers.length s.z.c5,.slice s.z.a6 n.down.length s.z.c6,.slice s.z.a7 n.up.length s.z.c7] [],.ow EInt 3 (.slice s.z.a1 n.tree.parent.length s.z.c1) (tickTo n s.k).1.tree.parent s.z.F1,.ow EStr 9 (.slice s.z.a2 (tickTo n s.k).1.source.window.items.length s.z.c2) (tickTo n s.k).1.source.window.items s.z.F2,.ow EHold 194 (.slice s.z.a3 (tickTo n s.k).1.source.holds.length s.z.c3) (tickTo n s.k).1.source.holds s.z.F3,.ow OElement 142 (.slice s.z.a4 n.elements.length s.z.c4) (tickTo n s.k).1.elements s.z.F4,.ow OReceiver 149 (.slice s.z.a5 n.receivers.length s.z.c5) (tickTo n s.k).1.receivers s.z.F5,.ow (OSl EPacket 127) 132 (.slice s.z.a6 n.down.length s.z.c6) (tickTo n s.k).1.down s.z.F6,.ow (OSl EPacket 127) 132 (.slice s.z.a7 n.up.length s.z.c7) (tickTo n s.k).1.up s.z.F7,.ow EStr 9 (.slice s.a (tickTo n s.k).2.length s.c) (tickTo n s.k).2 s.F]) (fun s=>s.k+1≤n.tree.parent.length∧(tickTo n s.k).2.length≤40000 * s.k) (fun s=>n.tree.parent.length - s.k) ⟨0,⟨a1,c1,F1,a2,c2,F2,z.a2,z.c2,z.F,a4,c4,F4,a5,c5,F5,a6,c6,J6,a7,c7,F7⟩,none,0,[]⟩ ⟨by show 0+1≤_;omega,Nat.le_refl _⟩ fun s hs0=>?_
 obtain ⟨k,⟨x1,w1,K1,x2,w2,K2,x3,w3,K3,x4,w4,K4,x5,w5,K5,x6,w6,K6,x7,w7,K7⟩,ea,ec,eF⟩:=s
 obtain ⟨hk,hel⟩:=hs0
 dsimp only at hk hel ⊢
 obtain ⟨hGN,hT,hSrc⟩:=tickTo_good hg hc k (by omega)
 obtain ⟨r1,r2,r3,r4⟩:=lensN_iff.1 hGN.l
 rw [hT] at r1 r2 r3 r4
 rw [hT,hSrc]
 refine go ?_;intros
 refine c_if rfl (fun h1=>?_) (fun h1=>?_)
 ·have hj:k+1 < n.tree.parent.length:=by omega
  obtain ⟨i1,i2,i3,i4,hrn⟩:=hGN.rn (i:=k+1) (by rw [hT];exact hj)
  rw [hT] at hrn
  obtain ⟨d0,d1_⟩:=dly_bd (i:=k+1)
  refine go ?_;intros
  refine cfr (fun w st=>by obtain ⟨Fq,hq⟩:=rdTree (st.get (p:=.ow EInt 3 (.slice x1 n.tree.parent.length w1) n.tree.parent K1) (by exact memE));exact ⟨_,hol1 hq,rfl,isLeaf_f n.tree ((k+1:Nat):Int) _ Fq⟩) (fun _ _=>?_)
  refine t_app ?_
  cases hlf:leafT n.tree.parent ((k+1:Nat):Int)
  ·obtain ⟨hge,hck, -⟩:=hrn.hn (by omega) hlf
   obtain ⟨hc0,hc1⟩:=isClk_iff.1 (goodE_iff.1 hge).1
   have hnx:tickTo n (k+1)=(⟨n.tree,tickS n.source,(tickTo n k).1.elements.set (k+1) (tickElement (tickTo n k).1.elements[k+1]),(tickTo n k).1.receivers,(tickTo n k).1.down,(tickTo n k).1.up⟩,(tickTo n k).2++[]):=by
    show ((tick1 (tickTo n k).1 (k+1)).1,(tickTo n k).2++(tick1 (tickTo n k).1 (k+1)).2)=_
    unfold tick1
    rw [hT,hlf,if_neg (by decide),elAt_get i1,hSrc]
   rw [List.append_nil] at hnx
   refine focO (xs:=(tickTo n k).1.elements) (m:=2) (k+1) ?_ rfl i1
   rintro _ g5 A5 cs B5 k1 k2 J1 Ji J2 e5 - hc5 hH5
   rw [e5]
   refine openOElement ?_
   rintro b1 d1 G1 ev l1
   obtain rfl:cs=[.int .i64 (tickTo n k).1.elements[k+1].clock,.slice b1 (tickTo n k).1.elements[k+1].entries.length d1]:=by simpa using ev
   refine go ?_;intros
   refine cf (Etick_f (tickTo n k).1.elements[k+1] g5 142 (0+(k+1) * 2) A5 B5 b1 d1 G1 (by omega) (by omega)) fun s9 _=>?_
   refine t_app ?_
   refine closeOElement (tickElement (tickTo n k).1.elements[k+1]) ?_
   refine unfO _ hH5 rfl fun J5=>?_
   refine go ?_;intros
   refine n_lp ⟨k+1,⟨x1,w1,K1,x2,w2,K2,x3,w3,K3,_,w4,J5,x5,w5,K5,x6,w6,K6,x7,w7,K7⟩,ea,ec,eF⟩ ⟨by show k+1+1≤_;omega,by rw [hnx];dsimp only;omega⟩ (by show n.tree.parent.length - (k+1) < n.tree.parent.length - k;omega) (by dsimp only;rw [hnx];exact frE) (by dsimp only;rw [hnx];exact hsE)
  ·obtain ⟨-,hgr0,hck⟩:=hrn.hf (by omega) hlf
   have hgr:=goodR_iff.1 hgr0
   obtain ⟨hsm,hfew⟩:=tickEv_sm hgr
   have hnx:tickTo n (k+1)=(⟨n.tree,tickS n.source,(tickTo n k).1.elements,(tickTo n k).1.receivers.set (k+1) (tickRec (tickTo n k).1.receivers[k+1] (dly (k+1))),(tickTo n k).1.down,putAt (tickTo n k).1.up (k+1) (tickPk (tickTo n k).1.receivers[k+1])⟩,(tickTo n k).2++tell (k+1) (tickEv (tickTo n k).1.receivers[k+1])):=by
    show ((tick1 (tickTo n k).1 (k+1)).1,(tickTo n k).2++(tick1 (tickTo n k).1 (k+1)).2)=_
    unfold tick1
    rw [hT,hlf,if_pos rfl,rcAt_get i2,hSrc];rfl
   have htl:(tell (k+1) (tickEv (tickTo n k).1.receivers[k+1])).length=(tickEv (tickTo n k).1.receivers[k+1]).length:=List.length_map ..
   generalize hR:(tickTo n k).1.receivers[k+1]=R at *
   refine go ?_;intros
   refine focO (xs:=(tickTo n k).1.receivers) (m:=5) (k+1) ?_ rfl i2
   rintro _ g5 A5 cs B5 k1 k2 J1 Ji J2 e5 - hc5 hH5
   rw [e5,hR]
   refine openOReceiver ?_
   rintro b1 d1 G1 b2 d2 G2 ev l1 l2
   obtain rfl:cs=[.bool R.started,.int .i64 R.clock,.int .i64 R.window.next,.slice b1 R.window.slots.length d1,.slice b2 R.requests.length d2]:=by simpa using ev
   refine d_start [5] [] ?_
   refine dt4 0 1 2 3 ?_
   refine dt2 4 5 ?_
   refine dt 6 ?_
   refine dN 7 ?_
   refine oC ?_
   refine cf (delayOf_f (k+1) (by omega)) fun _ _=>?_
   refine t_app ?_
   refine dk ?_
   refine dN 8 ?_
   refine oC ?_
   refine cf (Rtick_f R (dly (k+1)) g5 149 (0+(k+1) * 5) A5 B5 b1 d1 G1 b2 d2 G2 hgr (by omega) (by omega)) fun s9 _=>?_
   refine t_app ?_
   refine dk ?_
   refine dt4 9 10 11 12 ?_
   refine dt 13 ?_
   refine dd ?_
   refine closeOReceiver (tickRec R (dly (k+1))) ?_
   refine unfO _ hH5 rfl fun J5=>?_
   refine t_read (E:=EPacket) (xs:=tickPk R) fun Fp=>?_
   refine t_each (E:=EPacket) (fun p:Packet=>p.data.size≤maxLen) (fun w cs x F h=>by obtain ⟨_,h,_⟩:=h;exact h) ?_
   intro hz
   refine t_sl (E:=EPacket) (xs:=tickPk R) ?_
   rintro pa pc e9 hp1 hp2
   clear e9
   refine go ?_;intros
   rw [show (tickTo n k).1.up=putAt (tickTo n k).1.up (k+1) ((tickPk R).take 0) by rw [List.take_zero,putAt_nil]]
   refine c_loopS [0,2,3,4,6,56,57] (fun y:KF=>[(58,.int .i64 (y.k:Nat))]) (fun y=>[.ow (OSl EPacket 127) 132 (.slice x7 n.up.length w7) (putAt (tickTo n k).1.up (k+1) ((tickPk R).take y.k)) y.F]) (fun y=>y.k≤(tickPk R).length) (fun y=>(tickPk R).length - y.k) ⟨0,K7⟩ (Nat.zero_le _) fun y hy0=>?_
   have hpl:=putAt_len (tickTo n k).1.up (k+1) ((tickPk R).take y.k)
   refine go ?_;intros
   refine c_if rfl (fun h2=>?_) (fun h2=>?_)
   ·have hm:y.k < (tickPk R).length:=by omega
    refine atPacket (xs:=tickPk R) y.k ?_
    rintro hi3 b3 o3 e3 s3
    rw [e3]
    refine go ?_;intros
    refine d_start [0,6] [] ?_
    refine dt4 0 1 2 3 ?_
    refine dt2 4 5 ?_
    refine dN 6 ?_
    refine oC ?_
    refine cf (netPush_f (putAt (tickTo n k).1.up (k+1) ((tickPk R).take y.k)) (k+1) (tickPk R)[y.k] x7 _ w7 y.F (by omega) (by omega) s3) fun f1 _=>?_
    refine t_app ?_
    rw [putAt_step i4 hm]
    refine dk ?_
    refine dd ?_
    refine go ?_;intros
    refine n_lp ⟨y.k+1,f1⟩ hm (by show (tickPk R).length - (y.k+1) < (tickPk R).length - y.k;omega)
   ·rw [show (tickPk R).take y.k=tickPk R from List.take_of_length_le (by omega)]
    refine go ?_;intros
    refine cfr (fun w st=>by obtain ⟨Fq, -,hq⟩:=(st.get (p:=.ow EStr 9 (.slice s9.a4 (tickEv R).length s9.c4) (tickEv R) s9.F4) (by exact memE)).2.read;exact ⟨[.sl EStr (.slice s9.a4 (tickEv R).length s9.c4) (tickEv R) Fq,EnvP FT],hol2 ⟨by decide,hq⟩ (st.get (p:=EnvP FT) (by exact memE)),rfl,told_f (k+1) _ _ _ Fq FT (by omega) (by omega) hsm⟩) (fun u9 _=>?_)
    refine t_app ?_
    refine t_read (E:=EStr) (xs:=tell (k+1) (tickEv R)) fun F8=>?_
    apply wO
    refine aps (E:=EStr) (xs:=(tickTo n k).2) (ys:=tell (k+1) (tickEv R)) one_EStr scal_EStr fun a9 c9 F9=>?_
    refine go ?_;intros
    refine n_lp ⟨k+1,⟨x1,w1,K1,x2,w2,K2,x3,w3,K3,x4,w4,K4,_,w5,J5,x6,w6,K6,x7,w7,y.F⟩,a9,c9,F9⟩ ⟨by show k+1+1≤_;omega,by rw [hnx];dsimp only;rw [List.length_append,htl];omega⟩ (by show n.tree.parent.length - (k+1) < n.tree.parent.length - k;omega) (by dsimp only;rw [hnx];exact frE) (by dsimp only;rw [hnx];exact hsE)
 ·have hke:n.tree.parent.length - 1=k:=by omega
  rw [show tickN n=tickTo n k by unfold tickN;rw [hke],hT,hSrc]
  refine go ?_;intros
  refine ret (⟨x1,w1,K1,x2,w2,K2,x3,w3,K3,x4,w4,K4,x5,w5,K5,x6,w6,K6,x7,w7,K7⟩,⟨0,ea,ec,eF⟩) trivial rfl
structure Step where
 kind:Int
 node:Int
 data:ByteArray
def EStep:Elem Step where
 sz:=3
 rep _ cs x F:=cs=[.int .i64 x.kind,.int .i64 x.node,.string x.data]∧x.data.size≤maxLen∧F=[]
 len h:=by obtain ⟨rfl,s1,rfl⟩:=h;rfl
 lt h:=by obtain ⟨rfl,s1,rfl⟩:=h;simp
 frame h _:=h
theorem info_Step:(Tryz.prog.info? 53).map (fun i=>(i.zero,i.size,i.bytes))=some (some (.agg #[.int .i64 0,.int .i64 0,.string ⟨#[]⟩]),3,32):=by kernel_rfl
def wtStep (x:Step):Nat:=x.data.size
def cntStep (x:Step):Nat:=cntI x.kind+cntI x.node+cntS x.data
def mkStep (k:Int) (x:Step):Step:=⟨mkI (k) x.kind,mkI (k+cntI x.kind) x.node,mkS (k+cntI x.kind+cntI x.node) x.data⟩
theorem cntStep_wt (x:Step):cntStep x≤3 * (1+wtStep x):=by
 simp only [cntStep,wtStep,cntI,cntB,cntS]
 omega
theorem cntStepS_wt (xs:List Step) (h:wtL wtStep xs≤1048576):cntL cntStep xs≤4294967296:=by
 have:=cntL_wt cntStep wtStep 3 cntStep_wt xs;omega
theorem szStep_c (v:Value) (x:Step) (F:List Nat) (n:Int) (w:World) (h:IsV EStep w v x F) (h0:0≤n) (h1:n≤1048576) :
  Calls Tryz.prog 8 #[v,.int .i64 n] w fun e w'=>e=.returned (.int .i64 (szr n (wtStep x)))∧Below w.heap.size w w':=by
 obtain ⟨_,rfl,rfl,s1,rfl⟩:=h
 have hB0:∀A:Obj,Below w.heap.size w (w.alloc A):=fun A=>(Below.refl _ _).alloc (Nat.le_refl _) _
 unfold maxLen at s1
 unfold wtStep
 go_enter Tryz.func8,Tryz.ntmps8
 go_wp2
 all_goals go_ret
 all_goals exact ⟨ret_int (by unfold szr;split <;> omega),hB0 _⟩
theorem szStepS_c (v:Value) (xs:List Step) (F:List Nat) (n:Int) (w:World) (h:Sl EStep w v xs F) (h0:0≤n) (h1:n≤1048576) :
  Calls Tryz.prog 23 #[v,.int .i64 n] w fun e w'=>e=.returned (.int .i64 (szr n (wtL wtStep xs)))∧Below w.heap.size w w':=by
 obtain ⟨a,cap,rfl⟩:=h.slice
 have hl:=h.len
 unfold maxLen at hl
 go_enter Tryz.func23,Tryz.ntmps23
 by_cases hn:n < xs.length
 ·go_wp2
  go_ret
  exact ⟨ret_int (szr_no (by have:=wtL_le wtStep xs 0;omega)).symm,Below.refl _ _⟩
 go_wp2
 go_loopw [1,5] (fun l i wr=>∃k:Nat,k≤xs.length∧i=.int .i64 k∧l=.int .i64 (n - xs.length - psum wtStep xs k)∧(psum wtStep xs k:Int)+xs.length≤n∧Below w.heap.size w wr) (fun _ i _=>xs.length - (intOf i).toNat)
 case atStart=>exact ⟨0,Nat.zero_le _,rfl,by rw [psum_zero];simp,by rw [psum_zero];omega,Below.refl _ _⟩
 case round =>
  obtain ⟨k,hk,rfl,rfl,hle,hB⟩:=hrel
  by_cases hlt:k < xs.length
  ·have hsn:=psum_snoc wtStep xs k hlt
   have hsl:=wtL_le wtStep xs (k+1)
   obtain ⟨b,off,_,F1,rfl,hx, -,ja⟩:=(h.below (by decide) hB).at k hlt
   obtain ⟨rfl,s1,rfl⟩:=id hx
   have a0:=ja 0 (by decide)
   have a1:=ja 1 (by decide)
   have a2:=ja 2 (by decide)
   simp only [show EStep.sz=3 from rfl,Nat.mul_one,Nat.add_zero,List.getElem?_cons_zero,List.getElem?_cons_succ] at a0 a1 a2
   clear ja
   have hS:=Lib.hid hsn;clear hsn
   go_wp2_with fail
   refine (szStep_c _ xs[k] _ _ _ ⟨_,rfl,hx⟩ (by omega) (by omega)).mono ?_
   rintro e w1 ⟨rfl,hb1⟩
   have hB:=tr hB hb1 (Nat.le_refl _)
   rcases szr_or (n - xs.length - psum wtStep xs k) (wtStep xs[k]) with ⟨e1,l1⟩|⟨e1,l1⟩
   ·simp only [e1]
    have z1:=Lib.hid e1;clear e1
    go_wp2_with fail
    go_ret
    exact ⟨ret_int (szr_no (by have:=hS.out;omega)).symm,hB⟩
   ·simp only [e1]
    have z1:=Lib.hid e1;clear e1
    go_wp2_with fail
    exact ⟨⟨k+1,by omega,by go_num,congrArg (Value.int .i64) (by have:=hS.out;omega),by have:=hS.out;omega,hB⟩,by simp [intOf];omega⟩
  ·have hk:k=xs.length:=by omega
   subst hk
   go_wp2_with fail
   go_ret
   exact ⟨ret_int (by rw [szr_yes (by rw [wtL_eq];omega),wtL_eq];all_goals omega),hB⟩
theorem toStep_c (v:Value) (x:Step) (F:List Nat) (w:World) (h:IsV EStep w v x F) (hl:wtStep x≤1048576) :
  Calls Tryz.prog 11 #[v] w (RetV EStep x w):=by
 obtain ⟨_,rfl,rfl,s1,rfl⟩:=h
 have hB0:∀A B C:Obj,Below w.heap.size w (((w.alloc A).alloc B).alloc C):=fun A B C=>(((Below.refl _ _).alloc (Nat.le_refl _) _).alloc (by simp) _).alloc (by simp <;> omega) _
 go_enter Tryz.func11,Tryz.ntmps11
 go_wp2_with fail
 refine bodyPost_ret (v:=.agg #[.int .i64 x.kind,.int .i64 x.node,.string x.data]) ?_ rfl ?_
 ·simp [results,Tryz.results11,go_sem]
 ·exact ⟨_,[],rfl,⟨_,rfl,rfl,s1,rfl⟩,by simp,by simp,by repeat (first|exact Below.refl _ _|refine Below.setCell ?_ (by simp <;> omega) _|refine Below.alloc ?_ (by simp <;> omega) _)⟩
theorem toStepS_c (v:Value) (xs:List Step) (F:List Nat) (w:World) (h:Sl EStep w v xs F) (hl1:wtL wtStep xs≤1048576) :
  Calls Tryz.prog 25 #[v] w (RetNew EStep 53 xs w):=by
 obtain ⟨a,cap,rfl⟩:=h.slice
 have hl2:xs.length≤1048576:=by unfold wtL at hl1;omega
 have hmk:=fun w=>run_make_rows (P:=Tryz.prog) 68 53 (.agg #[.int .i64 0,.int .i64 0,.string ⟨#[]⟩]) 3 32 Tryz.underlying68 info_Step xs.length (by omega) (by omega) w
 have hm:=Lib.hid (Ow.made (E:=EStep) (t:=53) w #[.int .i64 0,.int .i64 0,.string ⟨#[]⟩] xs.length (⟨0,0,⟨#[]⟩⟩:Step) rfl (fun _=>⟨rfl,(Nat.zero_le _),rfl⟩) (by unfold maxLen;omega))
 go_enter Tryz.func25,Tryz.ntmps25
 go_wp2
 clear hmk
 go_loopw [4] (fun i wr=>∃k:Nat,k≤xs.length∧i=.int .i64 k∧∃F,Ow EStep 53 wr (.slice (some ⟨w.heap.size,0,none⟩) xs.length xs.length) (xs.take k++List.replicate (xs.length - k) (⟨0,0,⟨#[]⟩⟩:Step)) F∧F.Nodup∧(∀b∈F,w.heap.size≤b)∧Below w.heap.size w wr) (fun i _=>xs.length - (intOf i).toNat)
 case atStart=>exact ⟨0,Nat.zero_le _,rfl,_,by simpa [show EStep.sz=3 from rfl,Value.cells] using hm.out,by simp,by simp,(Below.refl _ _).alloc (Nat.le_refl _) _⟩
 case round =>
  obtain ⟨k,hk,rfl,F2,ho,hn,hF,hB⟩:=hrel
  by_cases hlt:k < xs.length
  ·obtain ⟨b,off,_,F1,rfl,hx, -,ja⟩:=(h.below (by decide) hB).at k hlt
   obtain ⟨rfl,s1,rfl⟩:=id hx
   have a0:=ja 0 (by decide)
   have a1:=ja 1 (by decide)
   have a2:=ja 2 (by decide)
   simp only [show EStep.sz=3 from rfl,Nat.mul_one,Nat.add_zero,List.getElem?_cons_zero,List.getElem?_cons_succ] at a0 a1 a2
   clear ja
   have hst:=Lib.hid (set_take_rep xs (⟨0,0,⟨#[]⟩⟩:Step) k xs.length rfl hlt xs[k] (by simp))
   have hws:wtStep xs[k]≤1048576:=by have:=psum_snoc wtStep xs k hlt;have:=wtL_le wtStep xs (k+1);omega
   have HO0:=Lib.hid ho
   clear ho
   go_wp2_with fail
   refine (toStep_c _ xs[k] _ _ ⟨_,rfl,hx⟩ hws).mono ?_
   rintro e w1 ⟨_,K,rfl,⟨cs1,rfl,oo⟩,nn,gg,hb1⟩
   have ho:=HO0.out.below hb1
   obtain ⟨hgF,hcell,hput⟩:=ho.put hn k (by simp;omega)
   have hlt2:=HO0.out.lt
   obtain ⟨F3,ho3,hn3,hs3⟩:=hput cs1 xs[k] K oo nn (fun b hb hc=>by have:=gg b hb;have:=hlt2 b hc;omega)
   obtain ⟨rfl, -,rfl⟩:=id oo
   rw [hst.out] at ho3
   simp only [show EStep.sz=3 from rfl,Nat.mul_one,putCells] at ho3
   obtain ⟨⟨q0_,z0⟩,f0⟩:=hcell 0 (by decide)
   obtain ⟨⟨q1_,z1⟩,f1⟩:=hcell 1 (by decide)
   obtain ⟨⟨q2_,z2⟩,f2⟩:=hcell 2 (by decide)
   simp only [show EStep.sz=3 from rfl,Nat.mul_one,Nat.add_zero] at z0 f0 z1 f1 z2 f2
   have HO:=Lib.hid ho3
   have hB1:=tr hB hb1 (Nat.le_refl _)
   have hF3:∀b∈F3,w.heap.size≤b:=fun b hb=>by
    rcases hs3 b hb with hb|hb
    ·exact hF b hb
    ·have:=gg b hb;have:=hB.size;omega
   clear ho ho3 hput hcell HO0 oo
   go_wp2_with fail
   exact ⟨⟨k+1,by omega,by go_num,F3,HO.out,hn3,hF3,by (repeat (refine Below.setCell ?_ (by simp) _));exact hB1⟩,by simp [intOf];omega⟩
  ·have hk:k=xs.length:=by omega
   subst hk
   have HO:=Lib.hid ho
   clear ho
   go_wp2_with fail
   go_ret
   exact ⟨_,F2,rfl,by simpa using HO.out,hn,hF,hB⟩
theorem eqStep_c (va vb:Value) (x:Step) (Fa Fb:List Nat) (w:World) (ha:IsV EStep w va x Fa) (hb:IsV EStep w vb x Fb) :
  Calls Tryz.prog 69 #[va,vb] w fun e w'=>e=.returned (.bool true)∧Below w.heap.size w w':=by
 obtain ⟨_,rfl,rfl,s1,rfl⟩:=ha
 obtain ⟨_,rfl,rfl,t1,rfl⟩:=hb
 have hB0:∀A B:Obj,Below w.heap.size w ((w.alloc A).alloc B):=fun A B=>((Below.refl _ _).alloc (Nat.le_refl _) _).alloc (by simp) _
 have hE:∀z:Int,(z != z)=false:=fun z=>by simp
 go_enter Tryz.func69,Tryz.ntmps69
 go_wp2_with fail
 go_ret
 exact ⟨rfl,hB0 _ _⟩
theorem eqStepS_c (va vb:Value) (xs:List Step) (Fa Fb:List Nat) (w:World) (ha:Sl EStep w va xs Fa) (hb:Sl EStep w vb xs Fb) :
  Calls Tryz.prog 27 #[va,vb] w fun e w'=>e=.returned (.bool true)∧Below w.heap.size w w':=by
 obtain ⟨a,ca,rfl⟩:=ha.slice
 obtain ⟨b,cb,rfl⟩:=hb.slice
 have hl:=ha.len
 unfold maxLen at hl
 go_enter Tryz.func27,Tryz.ntmps27
 go_wp2
 go_loopw [5] (fun i wr=>∃k:Nat,k≤xs.length∧i=.int .i64 k∧Below w.heap.size w wr) (fun i _=>xs.length - (intOf i).toNat)
 case atStart=>exact ⟨0,Nat.zero_le _,rfl,Below.refl _ _⟩
 case round =>
  obtain ⟨k,hk,rfl,hB⟩:=hrel
  by_cases hlt:k < xs.length
  ·obtain ⟨ba,oa,_,F_,rfl,hx, -,ja⟩:=(ha.below (by decide) hB).at k hlt
   obtain ⟨bb,ob,_,G_,rfl,hy, -,jb⟩:=(hb.below (by decide) hB).at k hlt
   obtain ⟨rfl,s1,rfl⟩:=id hx
   obtain ⟨rfl,t1,rfl⟩:=id hy
   have a0:=ja 0 (by decide);have b0:=jb 0 (by decide)
   have a1:=ja 1 (by decide);have b1:=jb 1 (by decide)
   have a2:=ja 2 (by decide);have b2:=jb 2 (by decide)
   simp only [show EStep.sz=3 from rfl,Nat.mul_one,Nat.add_zero,List.getElem?_cons_zero,List.getElem?_cons_succ] at a0 b0 a1 b1 a2 b2
   clear ja jb
   go_wp2_with fail
   go_region_held3 (fun w'=>w'.cell? ⟨ba,oa+k * 3,none⟩=some (.int .i64 xs[k].kind)∧w'.cell? ⟨ba,oa+k * 3+1,none⟩=some (.int .i64 xs[k].node)∧w'.cell? ⟨ba,oa+k * 3+2,none⟩=some (.string xs[k].data)∧w'.cell? ⟨bb,ob+k * 3,none⟩=some (.int .i64 xs[k].kind)∧w'.cell? ⟨bb,ob+k * 3+1,none⟩=some (.int .i64 xs[k].node)∧w'.cell? ⟨bb,ob+k * 3+2,none⟩=some (.string xs[k].data))
    (first|go_keep|(exact ⟨kc hb1 (by simpa using a0),kc hb1 (by simpa using a1),kc hb1 (by simpa using a2),kc hb1 (by simpa using b0),kc hb1 (by simpa using b1),kc hb1 (by simpa using b2)⟩))
    (first|(go_at_call 69;refine (eqStep_c _ _ xs[k] _ _ wr.drew ⟨_,rfl,EStep.frame hx (fun _ _=>rfl)⟩ ⟨_,rfl,EStep.frame hy (fun _ _=>rfl)⟩).mono ?_;rintro e w1 ⟨rfl,hb1⟩))
   go_wp2_with fail
   exact ⟨⟨k+1,by omega,by go_num,tr (belowDrewN hB 1) hb1 (Nat.le_refl _)⟩,by simp [intOf];omega⟩
  ·go_wp2_with fail
   go_ret
   exact ⟨rfl,hB⟩
theorem markStepS_c (v:Value) (xs:List Step) (F:List Nat) (k0:Int) (w:World) (h:Ow EStep 53 w v xs F) (hn:F.Nodup) (h0:0≤k0) (h1:k0+cntL cntStep xs≤1099511627776) :
  Calls Tryz.prog 28 #[v,.int .i64 k0] w (RetMark EStep 53 v (k0+cntL cntStep xs) (markL mkStep cntStep k0 xs) F w):=by
 obtain ⟨a,cap,rfl⟩:=h.slice
 have hl:=h.len
 unfold maxLen at hl
 go_enter Tryz.func28,Tryz.ntmps28
 go_wp2
 go_loopw [1,5] (fun kk i wr=>∃k:Nat,k≤xs.length∧i=.int .i64 k∧kk=.int .i64 (k0+psum cntStep xs k)∧Ow EStep 53 wr (.slice a xs.length cap) ((markL mkStep cntStep k0 xs).take k++xs.drop k) F∧Keep F w wr) (fun _ i _=>xs.length - (intOf i).toNat)
 case atStart=>exact ⟨0,Nat.zero_le _,rfl,by rw [psum_zero];simp,by simpa using h,Keep.refl _ _⟩
 case round =>
  obtain ⟨k,hk,rfl,rfl,ho,hK⟩:=hrel
  by_cases hlt:k < xs.length
  ·have hln:k < ((markL mkStep cntStep k0 xs).take k++xs.drop k).length:=by simp [markL_len];omega
   have hsn:=Lib.hid (psum_snoc cntStep xs k hlt)
   have hsl:k0+psum cntStep xs k+cntStep xs[k]≤1099511627776:=by have:=hsn.out;have:=cntL_le cntStep xs (k+1);omega
   obtain ⟨g,rfl⟩:=ho.head k hln
   obtain ⟨A,c,B,Fi,hrow,hA,hcl,hx,hnF,hgF,hgm,hsub,back⟩:=ho.inPlace hn k hln
   rw [mid_get _ _ _ (markL_len ..) hlt] at hx
   simp only [show EStep.sz=3 from rfl] at hA
   have hst:=Lib.hid (markL_step mkStep cntStep xs k0 k hlt)
   simp only [cntI,cntS,cntStep] at hsl
   obtain ⟨rfl,s1,rfl⟩:=hx
   have KK:=Keep.refl (g::[]) wr
   clear ho
   have z0:=hrow.cellMid (p:=k * 3) (j:=0) (by omega) (by simp)
   have z1:=hrow.cellMid (p:=k * 3+1) (j:=1) (by omega) (by simp)
   have z2:=hrow.cellMid (p:=k * 3+2) (j:=2) (by omega) (by simp)
   simp only [List.getElem?_cons_zero,List.getElem?_cons_succ] at z0 z1 z2
   have hfz:=hrow.frozens
   have HBk:=Lib.hid back;clear back
   go_wp2_with fail
   refine (markText_c (k0+psum cntStep xs k+1+1) _ (by omega) (by omega)).mono ?_
   rintro e w1 ⟨rfl,hb1⟩
   have hrow:Row w1 g 53 (A++[.int .i64 (k0+psum cntStep xs k),.int .i64 (k0+psum cntStep xs k+1),.string xs[k].data]++B):=Row.keepK (by exact (Row.setMid (Row.setMid hrow (p:=k * 3) (j:=0) (by omega) (by simp) (.int .i64 (k0+psum cntStep xs k))) (p:=k * 3+1) (j:=1) (by omega) (by simp) (.int .i64 (k0+psum cntStep xs k+1)))) (Keep.ofBelow (F:=[]) hb1) (by simp)
   have KK:=Keep.trans (F:=g::[]) (a:=wr) (by (repeat (refine Keep.setCell ?_ (by simp) _));exact KK) (Keep.mono (Keep.ofBelow (F:=[]) hb1) (fun b hb _=>by simp at hb))
   clear hb1
   have z0:=hrow.cellMid (p:=k * 3) (j:=0) (by omega) (by simp)
   have z1:=hrow.cellMid (p:=k * 3+1) (j:=1) (by omega) (by simp)
   have z2:=hrow.cellMid (p:=k * 3+2) (j:=2) (by omega) (by simp)
   simp only [List.getElem?_cons_zero,List.getElem?_cons_succ] at z0 z1 z2
   have hfz:=hrow.frozens
   go_wp2_with fail
   have HB:=HBk.out _ [.int .i64 (k0+psum cntStep xs k),.int .i64 (k0+psum cntStep xs k+1),.string (mtext (k0+psum cntStep xs k+1+1))] (mkStep (k0+psum cntStep xs k) xs[k]) (by exact (Row.setMid hrow (p:=k * 3+2) (j:=2) (by omega) (by simp) (.string (mtext (k0+psum cntStep xs k+1+1))))) ⟨rfl,mtext_len _,rfl⟩ (by (repeat (refine Keep.setCell ?_ (by simp) _));exact KK)
   rw [hst.out] at HB
   exact ⟨⟨k+1,by omega,by go_num,congrArg (Value.int .i64) (by rw [hsn.out];simp only [cntI,cntS,cntStep];omega),HB,by (repeat (refine Keep.setCell ?_ hgm _));exact hK.trans (KK.mono (fun b hb _=>by rcases List.mem_cons.1 hb with rfl|hb;exact hgm;exact hsub b hb))⟩,by simp [intOf];omega⟩
  ·have hk:k=xs.length:=by omega
   subst hk
   have HO:=Lib.hid ho
   clear ho
   go_wp2
   go_ret
   exact ⟨ret_int (by rw [cntL_eq]),by simpa [markL_len,List.take_of_length_le] using HO.out,hK⟩
def okStep (s:Step):Bool:=if s.kind=1 then decide (s.node=0) && itm s.data else if s.kind=4 then decide (s.node=0) && decide (s.data=⟨#[]⟩) else btw 1 s.kind 6 && isFac s.node && decide (s.data=⟨#[]⟩)
def isUp (s:Step):Bool:=decide (s.kind=5) || decide (s.kind=6)
def queN (n:Net) (s:Step):List Packet:=(if isUp s then n.up else n.down).getD s.node.toNat []
def poppedN (n:Net) (s:Step):Net:=if isUp s then popU n s.node.toNat else popD n s.node.toNat
def takenN (n:Net) (s:Step):Option (Net × List ByteArray) :=
 if (n.tree.parent.length:Int)≤s.node then none
 else if (queN n s).length=0 then none
 else if s.kind=2 then some (delivN (poppedN n s) s.node.toNat (popP (queN n s)))
 else if s.kind=5 then some (upN (poppedN n s) s.node.toNat (popP (queN n s)),[])
 else some (poppedN n s,[])
def stepN (n:Net) (s:Step):Option (Net × List ByteArray) :=
 if s.kind=1 then some (sendN n s.data,[])
 else if s.kind=4 then (if n.source.clock=9999 then none else some (tickN n))
 else takenN n s
def outN (n:Net) (r:Option (Net × List ByteArray)):Net:=match r with|some x=>x.1|none=>n
def outE (r:Option (Net × List ByteArray)):List ByteArray:=match r with|some x=>x.2|none=>[]
theorem send_good {n:Net} {s:ByteArray} (h:goodNet n=true) (hs:itm s=true):goodNet (sendN n s)=true:=by
 have hg:=goodNet_GN.1 h
 have ht:=goodT hg.t
 exact goodNet_GN.2 (((hg.src (good_sent hg.s hs)).sp (fun p hp=>by rw [List.mem_singleton] at hp;subst hp;exact push_good (goodSrc_iff.1 hg.s).1 hs) (kids_nz ht 0)))
theorem updC_same {ck:Nat→Int} {i:Nat} {c:Int} (h:ck i=c):updC ck i c=ck:=by
 funext j;unfold updC
 by_cases e:j=i
 ·rw [if_pos e,e,h]
 ·rw [if_neg e]
theorem facE_kids {e:Element} {n:Int} {l:List Int}:∀x∈facE e n l,x∈l:=facE_sub
theorem hearR_clock (r:Receiver) (p:Packet) (d:Int):(hearR r p d).clock=r.clock:=by
 unfold hearR
 split
 ·rfl
 ·split <;> rfl
theorem reqE_clock (e:Element) (n f:Int):(reqE e n f).clock=e.clock:=by
 unfold reqE
 split
 ·rfl
 ·split <;> rfl
theorem repE_clock (e:Element) (n:Int):(repE e n).clock=e.clock:=by unfold repE;split <;> rfl
theorem deliv_good {n:Net} {i:Nat} {p:Packet} (h:goodNet n=true) (h0:i≠0) (hi:i < n.tree.parent.length) (hp:goodPk p=true):goodNet (delivN n i p).1=true:=by
 have hg:=goodNet_GN.1 h
 have ht:=goodT hg.t
 obtain ⟨h1,h2,h3,h4,r⟩:=hg.rn hi
 have d0:1≤dly i∧dly i≤8:=by unfold dly;omega
 have ee:elAt n i=n.elements[i]:=by unfold elAt;rw [List.getD_eq_getElem?_getD,List.getElem?_eq_getElem h1];rfl
 have er:rcAt n i=n.receivers[i]:=by unfold rcAt;rw [List.getD_eq_getElem?_getD,List.getElem?_eq_getElem h2];rfl
 have hps:∀q∈[p],goodPk q=true:=fun q hq=>by rw [List.mem_singleton] at hq;rw [hq];exact hp
 unfold delivN
 cases hl:leafT n.tree.parent ((i:Nat):Int)
 ·rw [if_neg (by decide)]
  obtain ⟨he,e2, -⟩:=r.hn h0 hl
  by_cases hk:p.kind=2
  ·have:=(hg.el h0 hl (good_repE (n:=p.number) he)).sp hps (nodes:=facE n.elements[i] p.number (kidsN n i)) (fun x hx=>kids_nz ht i x (facE_kids x hx))
   rw [updC_same (show (fun _=>n.source.clock) i=(repE n.elements[i] p.number).clock by rw [repE_clock,e2])] at this
   unfold facN
   rw [if_pos hk,if_pos hk,ee]
   exact goodNet_GN.2 this
  ·unfold facN
   rw [if_neg hk,if_neg hk]
   exact goodNet_GN.2 (hg.sp hps (kids_nz ht i))
 ·rw [if_pos rfl,er]
  obtain ⟨-,e2,e3⟩:=r.hf h0 hl
  have:=hg.rc h0 hl (goodR_iff.2 (hear_good (d:=dly i) (goodR_iff.1 e2) hp d0.1 d0.2).1)
  rw [updC_same (show (fun _=>n.source.clock) i=(hearR n.receivers[i] p (dly i)).clock by rw [hearR_clock,e3])] at this
  exact goodNet_GN.2 this
theorem up_good {n:Net} {i:Nat} {p:Packet} (h:goodNet n=true) (h0:i≠0) (hi:i < n.tree.parent.length) (hp:goodPk p=true) (hk:p.kind=3):goodNet (upN n i p)=true:=by
 have hg:=goodNet_GN.1 h
 have ht:=goodT hg.t
 have hone:∀x∈[((i:Nat):Int)],x.toNat≠0:=fun x hx=>by rw [List.mem_singleton] at hx;subst hx;omega
 have h1:=ht.p i hi (by omega)
 have e:n.tree.parent.getD i 0=n.tree.parent[i]:=by rw [List.getD_eq_getElem?_getD,List.getElem?_eq_getElem hi];rfl
 obtain ⟨k,hkk⟩:∃k,parN n i=k:=⟨_,rfl⟩
 have hk2:n.tree.parent[i]=((k:Nat):Int):=by unfold parN at hkk;rw [e] at hkk;omega
 unfold upN
 rw [hkk]
 by_cases hz:k=0
 ·rw [if_pos hz]
  have:=(hg.src (good_req (n:=p.number) hg.s (goodPk_num hp))).sp (reqP_good (goodSrc_iff.1 hg.s).1 hp hk) hone
  refine goodNet_GN.2 ?_
  rw [show (reqS n.source p.number).clock=n.source.clock by unfold reqS;split <;> rfl]
  exact this
 ·rw [if_neg hz]
  have hkl:k < n.tree.parent.length:=by omega
  obtain ⟨r1,r2,r3,r4,r⟩:=hg.rn hkl
  have ee:elAt n k=n.elements[k]:=by unfold elAt;rw [List.getD_eq_getElem?_getD,List.getElem?_eq_getElem r1];rfl
  have hl:leafT n.tree.parent ((k:Nat):Int)=false:=by
   unfold leafT;rw [←hk2,decide_eq_true (List.getElem_mem hi)];rfl
  obtain ⟨he,e2, -⟩:=r.hn hz hl
  rw [ee]
  have hf:isFac ((i:Nat):Int)=true:=isFac_iff.2 ⟨by omega,by have:=ht.n1;omega⟩
  have:=(hg.el hz hl (good_reqE he (isSer_iff.2 (goodPk_num hp)) hf)).sp (nodes:=[((i:Nat):Int)]) (ps:=[cnfP p]) (fun q hq=>by rw [List.mem_singleton] at hq;rw [hq];exact cnf_good hp) hone
  rw [updC_same (show (fun _=>n.source.clock) k=(reqE n.elements[k] p.number ((i:Nat):Int)).clock by rw [reqE_clock,e2])] at this
  refine goodNet_GN.2 ?_
  split
  ·exact this.un k _ (fun e=>absurd e hz) fun q a b=>⟨putQ_good a fun x hx=>by rw [List.mem_singleton] at hx;rw [hx];exact hp,putQ_up b fun x hx=>by rw [List.mem_singleton] at hx;rw [hx];exact hk⟩
  ·exact this
theorem que_good {n:Net} {s:Step} (h:goodNet n=true):goodQ (queN n s)=true∧(isUp s=true→upQ (queN n s)=true):=by
 have hg:=goodNet_GN.1 h
 obtain ⟨q1,q2,q3,q4⟩:=lensN_iff.1 hg.l
 unfold queN
 by_cases hi:s.node.toNat < n.tree.parent.length
 ·obtain ⟨h1,h2,h3,h4,r⟩:=hg.rn hi
  cases isUp s
  ·rw [if_neg (by decide),getN h3]
   exact ⟨r.hd,fun e=>by cases e⟩
  ·rw [if_pos rfl,getN h4]
   exact ⟨r.hu,fun _=>r.hk⟩
 ·have e:((if isUp s then n.up else n.down).getD s.node.toNat [])=[]:=by
   rw [List.getD_eq_getElem?_getD,List.getElem?_eq_none (by split <;> omega)];rfl
  rw [e];exact ⟨rfl,fun _=>rfl⟩
theorem popped_good {n:Net} {s:Step} (h:goodNet n=true):goodNet (poppedN n s)=true:=by
 have hg:=goodNet_GN.1 h
 unfold poppedN
 split
 ·exact goodNet_GN.2 (hg.pu _)
 ·exact goodNet_GN.2 (hg.pd _)
theorem popP_mem {q:List Packet} (h:0 < q.length):popP q∈q:=by rw [popP_get h];exact List.getElem_mem _
theorem goodQ_mem {q:List Packet} (h:goodQ q=true) {p:Packet} (hp:p∈q):goodPk p=true:=by
 unfold goodQ at h
 rw [Bool.and_eq_true] at h
 exact List.all_eq_true.1 h.2 p hp
theorem upQ_mem {q:List Packet} (h:upQ q=true) {p:Packet} (hp:p∈q):p.kind=3:=of_decide_eq_true (List.all_eq_true.1 h p hp)
theorem taken_good' {n:Net} {s:Step} {r:Net × List ByteArray} (h:goodNet n=true) (hn:isFac s.node=true) (hr:takenN n s=some r):goodNet r.1=true:=by
 have hf:=isFac_iff.1 hn
 have hpg:=popped_good (s:=s) h
 have hq:=que_good (s:=s) h
 have htl:(poppedN n s).tree=n.tree:=by unfold poppedN;split <;> rfl
 unfold takenN at hr
 split at hr
 ·cases hr
 ·rename_i h1
  split at hr
  ·cases hr
  ·rename_i h2
   have hm:=popP_mem (q:=queN n s) (by omega)
   have hpk:=goodQ_mem hq.1 hm
   have hi:s.node.toNat < (poppedN n s).tree.parent.length:=by rw [htl];omega
   split at hr
   ·cases hr;exact deliv_good hpg (by omega) hi hpk
   ·split at hr
    ·rename_i h5
     cases hr
     exact up_good hpg (by omega) hi hpk (upQ_mem (hq.2 (by unfold isUp;rw [decide_eq_true h5];rfl)) hm)
    ·cases hr;exact hpg
theorem src_clkN {x:Source} (h:goodSrc x=true):0≤x.clock∧x.clock≤9999:=by
 unfold goodSrc at h
 simp only [Bool.and_eq_true] at h
 exact isClk_iff.1 h.1.1.2
theorem step_good {n:Net} {s:Step} {r:Net × List ByteArray} (h:goodNet n=true) (hs:okStep s=true) (hr:stepN n s=some r):goodNet r.1=true:=by
 unfold stepN at hr
 unfold okStep at hs
 split at hr
 ·rename_i h1
  rw [if_pos h1,Bool.and_eq_true] at hs
  cases hr
  exact send_good h hs.2
 ·rename_i h1
  split at hr
  ·rename_i h4
   split at hr
   ·cases hr
   ·rename_i hc
    cases hr
    have:=src_clkN (goodNet_GN.1 h).s
    exact tickN_good h (by omega)
  ·rename_i h4
   rw [if_neg h1,if_neg h4] at hs
   simp only [Bool.and_eq_true] at hs
   exact taken_good' h hs.1.2 hr
section
variable {c:Cx} {fr:Fr} {H:List Pc} {Φ:Gl}
theorem atStep {a:Option Addr} {n cp:Nat} {xs:List Step} {F:List Nat} (i:Nat) (h:∀(hi:i < xs.length) (b o:Nat),a=some ⟨b,o,none⟩→xs[i].data.size≤maxLen→T c fr (.cel b (o+i * 3) [.int .i64 xs[i].kind,.int .i64 xs[i].node,.string xs[i].data]::H) Φ) (hm:.sl EStep (.slice a n cp) xs F∈H:=by (repeat (first|exact .head _|apply List.Mem.tail));first|done|fail) (hi:i < xs.length:=by omega):T c fr H Φ:=.mk fun ac w s g=>by
 obtain ⟨b,o,cs,G,ha,hrep,hG,hb,hne,hr⟩:=sl_at (s.get hm) i hi
 obtain ⟨rfl,s1,rfl⟩:=hrep
 exact (h hi b o  ha s1 ).h ac w (s.ro hm rfl rfl ⟨hne,hr⟩ (by intro x hx;simp [Pc.F] at hx;subst hx;exact hb)) g
end
theorem taken_f (n:Net) (s:Step) (g:Nat) (a1:Option Addr) (c1:Nat) (F1:List Nat) (a2:Option Addr) (c2:Nat) (F2:List Nat) (a3:Option Addr) (c3:Nat) (F3:List Nat) (a4:Option Addr) (c4:Nat) (F4:List Nat) (a5:Option Addr) (c5:Nat) (F5:List Nat) (a6:Option Addr) (c6:Nat) (F6:List Nat) (a7:Option Addr) (c7:Nat) (F7:List Nat) (FT:List Nat) (hg:goodNet n=true) (hf:isFac s.node=true) :
  Fn Tryz.prog 105 [ptr g 0 0,.agg #[.int .i64 s.kind,.int .i64 s.node,.string s.data]] [EnvP FT] [.row g 49 0 [] [.slice a1 n.tree.parent.length c1,.int .i64 n.source.window.trail,.int .i64 n.source.window.size,.slice a2 n.source.window.items.length c2,.int .i64 n.source.clock,.int .i64 n.source.quiet,.slice a3 n.source.holds.length c3,.slice a4 n.elements.length c4,.slice a5 n.receivers.length c5,.slice a6 n.down.length c6,.slice a7 n.up.length c7] [],.ow EInt 3 (.slice a1 n.tree.parent.length c1) n.tree.parent F1,.ow EStr 9 (.slice a2 n.source.window.items.length c2) n.source.window.items F2,.ow EHold 194 (.slice a3 n.source.holds.length c3) n.source.holds F3,.ow OElement 142 (.slice a4 n.elements.length c4) n.elements F4,.ow OReceiver 149 (.slice a5 n.receivers.length c5) n.receivers F5,.ow (OSl EPacket 127) 132 (.slice a6 n.down.length c6) n.down F6,.ow (OSl EPacket 127) 132 (.slice a7 n.up.length c7) n.up F7] (fun (_:NV × KA)=>True) (fun z=>.tuple #[.slice z.2.a (outE (takenN n s)).length z.2.c,.bool (takenN n s).isSome]) (fun z=>[.row g 49 0 [] [.slice z.1.a1 n.tree.parent.length z.1.c1,.int .i64 (outN n (takenN n s)).source.window.trail,.int .i64 (outN n (takenN n s)).source.window.size,.slice z.1.a2 (outN n (takenN n s)).source.window.items.length z.1.c2,.int .i64 (outN n (takenN n s)).source.clock,.int .i64 (outN n (takenN n s)).source.quiet,.slice z.1.a3 (outN n (takenN n s)).source.holds.length z.1.c3,.slice z.1.a4 n.elements.length z.1.c4,.slice z.1.a5 n.receivers.length z.1.c5,.slice z.1.a6 n.down.length z.1.c6,.slice z.1.a7 n.up.length z.1.c7] [],.ow EInt 3 (.slice z.1.a1 n.tree.parent.length z.1.c1) (outN n (takenN n s)).tree.parent z.1.F1,.ow EStr 9 (.slice z.1.a2 (outN n (takenN n s)).source.window.items.length z.1.c2) (outN n (takenN n s)).source.window.items z.1.F2,.ow EHold 194 (.slice z.1.a3 (outN n (takenN n s)).source.holds.length z.1.c3) (outN n (takenN n s)).source.holds z.1.F3,.ow OElement 142 (.slice z.1.a4 n.elements.length z.1.c4) (outN n (takenN n s)).elements z.1.F4,.ow OReceiver 149 (.slice z.1.a5 n.receivers.length z.1.c5) (outN n (takenN n s)).receivers z.1.F5,.ow (OSl EPacket 127) 132 (.slice z.1.a6 n.down.length z.1.c6) (outN n (takenN n s)).down z.1.F6,.ow (OSl EPacket 127) 132 (.slice z.1.a7 n.up.length z.1.c7) (outN n (takenN n s)).up z.1.F7,.ow EStr 9 (.slice z.2.a (outE (takenN n s)).length z.2.c) (outE (takenN n s)) z.2.F]):=by
 have hG:=goodNet_GN.1 hg
 have h8:=goodT hG.t
 have hn8:=h8.n1
 obtain ⟨q1,q2,q3,q4⟩:=lensN_iff.1 hG.l
 obtain ⟨f1,f2⟩:=isFac_iff.1 hf
 obtain ⟨i,hi⟩:∃i:Nat,s.node=((i:Nat):Int):=⟨s.node.toNat,by omega⟩
 have i0:i≠0:=by omega
 refine enter Tryz.func105 rfl Tryz.ntmps105 fun w0=>?_
 refine t_nilow EStr 9 ?_
 rw [hi]
 refine go ?_;intros
 refine d_start [0,2] [] ?_
 refine dt4 0 1 2 3 ?_
 refine dt4 4 5 6 7 ?_
 refine dt 8 ?_
 refine dd ?_
 refine go ?_;intros
 refine c_if rfl (fun h1=>?_) (fun h1=>?_)
 ·rw [show takenN n s=none by unfold takenN;rw [if_pos (by omega)]]
  refine go ?_;intros
  refine ret (⟨a1,c1,F1,a2,c2,F2,a3,c3,F3,a4,c4,F4,a5,c5,F5,a6,c6,F6,a7,c7,F7⟩,⟨0,none,0,[]⟩) trivial rfl
 have hil:i < n.tree.parent.length:=by omega
 by_cases k5:s.kind=5
 ·have hu:isUp s=true:=by unfold isUp;rw [decide_eq_true k5];rfl
  have hq:queN n s=n.up[i]:=by unfold queN;rw [hu,if_pos rfl,hi,Int.toNat_natCast];exact getN (by omega) []
  have hpo:poppedN n s=popU n i:=by unfold poppedN;rw [hu,if_pos rfl,hi,Int.toNat_natCast]
  have h6:n.up[i].length≤6:=by
   have:=(que_good (s:=s) hg).1
   rw [hq] at this
   unfold goodQ at this
   simp only [Bool.and_eq_true,decide_eq_true_eq] at this
   exact this.1
  refine go ?_;intros
  refine wg_if rfl rfl (fun g5=>?_) (fun g5=>?_)
  rotate_left
  ·exact absurd k5 g5
  refine go ?_;intros
  refine cf (netPop_f n.up i a7 _ c7 F7 rfl (by omega) h6) fun J _=>?_
  refine t_app ?_
  by_cases h0:0 < n.up[i].length
  rotate_left
  ·have hz:n.up[i]=[]:=List.length_eq_zero_iff.1 (by omega)
   rw [show takenN n s=none by unfold takenN;rw [if_neg (by omega),hq,if_pos (by omega)],decide_eq_false h0,show n.up.set i (n.up[i].drop 1)=n.up by rw [hz,List.drop_nil];rw [←hz,List.set_getElem_self]]
   refine go ?_;intros
   refine ret (⟨a1,c1,F1,a2,c2,F2,a3,c3,F3,a4,c4,F4,a5,c5,F5,a6,c6,F6,a7,c7,J⟩,⟨0,none,0,[]⟩) trivial rfl
  have hmem:=popP_mem h0
  have hpk:goodPk (popP n.up[i])=true:=goodQ_mem (hq▸(que_good (s:=s) hg).1) hmem
  have hpz:(popP n.up[i]).data.size≤maxLen:=by
   have h9:=hpk
   unfold goodPk itm at h9
   simp only [Bool.and_eq_true,decide_eq_true_eq] at h9
   unfold maxLen;omega
  rw [decide_eq_true h0,show n.up.set i (n.up[i].drop 1)=(popU n i).up from (modify_set (by omega)).symm]
  have hgm:goodNet (popU n i)=true:=hpo▸popped_good hg
  have hGm:=goodNet_GN.1 hgm
  have hlm:n.up.length=(popU n i).up.length:=(List.length_modify ..).symm
  generalize hP:popP n.up[i]=P at *
  have htk:takenN n s=some (upN (popU n i) i P,[]):=by
   unfold takenN
   rw [if_neg (by omega),hq,if_neg (by omega),hpo,hP,hi,Int.toNat_natCast]
   rw [if_neg (by omega),if_pos k5]
  rw [htk]
  refine go ?_;intros
  refine c_if rfl (fun k2=>?_) (fun k2=>?_)
  ·exact absurd k2 (by omega)
  refine go ?_;intros
  refine c_if rfl (fun m5=>?_) (fun m5=>?_)
  rotate_left
  ·exact absurd k5 m5
  refine go ?_;intros
  rw [hlm]
  refine cf (upward_f (popU n i) i P g a1 c1 F1 a2 c2 F2 a3 c3 F3 a4 c4 F4 a5 c5 F5 a6 c6 F6 a7 c7 J hGm.l i0 hil (goodT hGm.t) hGm.s (fun k hk hkl hl=>?_) hpk hpz) fun z _=>?_
  rotate_left
  ·refine t_app ?_
   refine go ?_;intros
   refine ret (z,⟨0,none,0,[]⟩) trivial rfl
  ·obtain ⟨x1,x2,x3,x4,r⟩:=hGm.rn (i:=k) hkl
   rw [elAt_get x1];exact (r.hn hk hl).1
 by_cases k6:s.kind=6
 ·have hu:isUp s=true:=by unfold isUp;rw [decide_eq_true k6,Bool.or_true]
  have hq:queN n s=n.up[i]:=by unfold queN;rw [hu,if_pos rfl,hi,Int.toNat_natCast];exact getN (by omega) []
  have hpo:poppedN n s=popU n i:=by unfold poppedN;rw [hu,if_pos rfl,hi,Int.toNat_natCast]
  have h6:n.up[i].length≤6:=by
   have:=(que_good (s:=s) hg).1
   rw [hq] at this
   unfold goodQ at this
   simp only [Bool.and_eq_true,decide_eq_true_eq] at this
   exact this.1
  refine go ?_;intros
  refine wg_if rfl rfl (fun g5=>?_) (fun g5=>?_)
  ·exact absurd g5 (by omega)
  refine go ?_;intros
  refine c_if rfl (fun g6=>?_) (fun g6=>?_)
  rotate_left
  ·exact absurd k6 g6
  refine go ?_;intros
  refine cf (netPop_f n.up i a7 _ c7 F7 rfl (by omega) h6) fun J _=>?_
  refine t_app ?_
  by_cases h0:0 < n.up[i].length
  rotate_left
  ·have hz:n.up[i]=[]:=List.length_eq_zero_iff.1 (by omega)
   rw [show takenN n s=none by unfold takenN;rw [if_neg (by omega),hq,if_pos (by omega)],decide_eq_false h0,show n.up.set i (n.up[i].drop 1)=n.up by rw [hz,List.drop_nil];rw [←hz,List.set_getElem_self]]
   refine go ?_;intros
   refine ret (⟨a1,c1,F1,a2,c2,F2,a3,c3,F3,a4,c4,F4,a5,c5,F5,a6,c6,F6,a7,c7,J⟩,⟨0,none,0,[]⟩) trivial rfl
  have hmem:=popP_mem h0
  have hpk:goodPk (popP n.up[i])=true:=goodQ_mem (hq▸(que_good (s:=s) hg).1) hmem
  have hpz:(popP n.up[i]).data.size≤maxLen:=by
   have h9:=hpk
   unfold goodPk itm at h9
   simp only [Bool.and_eq_true,decide_eq_true_eq] at h9
   unfold maxLen;omega
  rw [decide_eq_true h0,show n.up.set i (n.up[i].drop 1)=(popU n i).up from (modify_set (by omega)).symm]
  have hgm:goodNet (popU n i)=true:=hpo▸popped_good hg
  have hGm:=goodNet_GN.1 hgm
  have hlm:n.up.length=(popU n i).up.length:=(List.length_modify ..).symm
  generalize hP:popP n.up[i]=P at *
  have htk:takenN n s=some (popU n i,[]):=by
   unfold takenN
   rw [if_neg (by omega),hq,if_neg (by omega),hpo,hP,hi,Int.toNat_natCast]
   rw [if_neg (by omega),if_neg (by omega)]
  rw [htk]
  refine go ?_;intros
  refine c_if rfl (fun k2=>?_) (fun k2=>?_)
  ·exact absurd k2 (by omega)
  refine go ?_;intros
  refine c_if rfl (fun m5=>?_) (fun m5=>?_)
  ·exact absurd m5 (by omega)
  refine go ?_;intros
  refine ret (⟨a1,c1,F1,a2,c2,F2,a3,c3,F3,a4,c4,F4,a5,c5,F5,a6,c6,F6,a7,c7,J⟩,⟨0,none,0,[]⟩) trivial rfl
 ·have hu:isUp s=false:=by unfold isUp;rw [decide_eq_false k5,decide_eq_false k6];rfl
  have hq:queN n s=n.down[i]:=by unfold queN;rw [hu,if_neg (by decide),hi,Int.toNat_natCast];exact getN (by omega) []
  have hpo:poppedN n s=popD n i:=by unfold poppedN;rw [hu,if_neg (by decide),hi,Int.toNat_natCast]
  have h6:n.down[i].length≤6:=by
   have:=(que_good (s:=s) hg).1
   rw [hq] at this
   unfold goodQ at this
   simp only [Bool.and_eq_true,decide_eq_true_eq] at this
   exact this.1
  refine go ?_;intros
  refine wg_if rfl rfl (fun g5=>?_) (fun g5=>?_)
  ·exact absurd g5 k5
  refine go ?_;intros
  refine c_if rfl (fun g6=>?_) (fun g6=>?_)
  ·exact absurd g6 k6
  refine go ?_;intros
  refine cf (netPop_f n.down i a6 _ c6 F6 rfl (by omega) h6) fun J _=>?_
  refine t_app ?_
  by_cases h0:0 < n.down[i].length
  rotate_left
  ·have hz:n.down[i]=[]:=List.length_eq_zero_iff.1 (by omega)
   rw [show takenN n s=none by unfold takenN;rw [if_neg (by omega),hq,if_pos (by omega)],decide_eq_false h0,show n.down.set i (n.down[i].drop 1)=n.down by rw [hz,List.drop_nil];rw [←hz,List.set_getElem_self]]
   refine go ?_;intros
   refine ret (⟨a1,c1,F1,a2,c2,F2,a3,c3,F3,a4,c4,F4,a5,c5,F5,a6,c6,J,a7,c7,F7⟩,⟨0,none,0,[]⟩) trivial rfl
  have hmem:=popP_mem h0
  have hpk:goodPk (popP n.down[i])=true:=goodQ_mem (hq▸(que_good (s:=s) hg).1) hmem
  have hpz:(popP n.down[i]).data.size≤maxLen:=by
   have h9:=hpk
   unfold goodPk itm at h9
   simp only [Bool.and_eq_true,decide_eq_true_eq] at h9
   unfold maxLen;omega
  rw [decide_eq_true h0,show n.down.set i (n.down[i].drop 1)=(popD n i).down from (modify_set (by omega)).symm]
  have hgm:goodNet (popD n i)=true:=hpo▸popped_good hg
  have hGm:=goodNet_GN.1 hgm
  have hlm:n.down.length=(popD n i).down.length:=(List.length_modify ..).symm
  generalize hP:popP n.down[i]=P at *
  have htk:takenN n s=if s.kind=2 then some (delivN (popD n i) i P) else some (popD n i,[]):=by
   unfold takenN
   rw [if_neg (by omega),hq,if_neg (by omega),hpo,hP,hi,Int.toNat_natCast]
   split
   ·rfl
   ·first|rfl|rw [if_neg k5]
  rw [htk]
  refine go ?_;intros
  refine c_if rfl (fun k2=>?_) (fun k2=>?_)
  ·rw [if_pos k2]
   refine go ?_;intros
   rw [hlm]
   refine cf (deliver_f (popD n i) i P g a1 c1 F1 a2 c2 F2 a3 c3 F3 a4 c4 F4 a5 c5 F5 a6 c6 J a7 c7 F7 FT hGm.l hil (goodT hGm.t) (fun hl=>?_) (fun hl=>?_) hpk hpz) fun z _=>?_
   rotate_left
   rotate_left
   ·refine t_app ?_
    refine go ?_;intros
    refine ret (z.1,z.2) trivial rfl
   ·obtain ⟨x1,x2,x3,x4,r⟩:=hGm.rn (i:=i) hil
    rw [rcAt_get x2];exact (r.hf i0 hl).2.1
   ·obtain ⟨x1,x2,x3,x4,r⟩:=hGm.rn (i:=i) hil
    rw [elAt_get x1];exact (r.hn i0 hl).1
  ·rw [if_neg k2]
   refine go ?_;intros
   refine c_if rfl (fun m5=>?_) (fun m5=>?_)
   ·exact absurd m5 k5
   refine go ?_;intros
   refine ret (⟨a1,c1,F1,a2,c2,F2,a3,c3,F3,a4,c4,F4,a5,c5,F5,a6,c6,J,a7,c7,F7⟩,⟨0,none,0,[]⟩) trivial rfl
theorem step_f (n:Net) (s:Step) (g:Nat) (a1:Option Addr) (c1:Nat) (F1:List Nat) (a2:Option Addr) (c2:Nat) (F2:List Nat) (a3:Option Addr) (c3:Nat) (F3:List Nat) (a4:Option Addr) (c4:Nat) (F4:List Nat) (a5:Option Addr) (c5:Nat) (F5:List Nat) (a6:Option Addr) (c6:Nat) (F6:List Nat) (a7:Option Addr) (c7:Nat) (F7:List Nat) (FT:List Nat) (hg:goodNet n=true) (hs:okStep s=true) (hss:s.data.size≤maxLen) :
  Fn Tryz.prog 45 [ptr g 0 0,.agg #[.int .i64 s.kind,.int .i64 s.node,.string s.data]] [EnvP FT] [.row g 49 0 [] [.slice a1 n.tree.parent.length c1,.int .i64 n.source.window.trail,.int .i64 n.source.window.size,.slice a2 n.source.window.items.length c2,.int .i64 n.source.clock,.int .i64 n.source.quiet,.slice a3 n.source.holds.length c3,.slice a4 n.elements.length c4,.slice a5 n.receivers.length c5,.slice a6 n.down.length c6,.slice a7 n.up.length c7] [],.ow EInt 3 (.slice a1 n.tree.parent.length c1) n.tree.parent F1,.ow EStr 9 (.slice a2 n.source.window.items.length c2) n.source.window.items F2,.ow EHold 194 (.slice a3 n.source.holds.length c3) n.source.holds F3,.ow OElement 142 (.slice a4 n.elements.length c4) n.elements F4,.ow OReceiver 149 (.slice a5 n.receivers.length c5) n.receivers F5,.ow (OSl EPacket 127) 132 (.slice a6 n.down.length c6) n.down F6,.ow (OSl EPacket 127) 132 (.slice a7 n.up.length c7) n.up F7] (fun (_:NV × KA)=>True) (fun z=>.tuple #[.slice z.2.a (outE (stepN n s)).length z.2.c,.bool (stepN n s).isSome]) (fun z=>[.row g 49 0 [] [.slice z.1.a1 n.tree.parent.length z.1.c1,.int .i64 (outN n (stepN n s)).source.window.trail,.int .i64 (outN n (stepN n s)).source.window.size,.slice z.1.a2 (outN n (stepN n s)).source.window.items.length z.1.c2,.int .i64 (outN n (stepN n s)).source.clock,.int .i64 (outN n (stepN n s)).source.quiet,.slice z.1.a3 (outN n (stepN n s)).source.holds.length z.1.c3,.slice z.1.a4 n.elements.length z.1.c4,.slice z.1.a5 n.receivers.length z.1.c5,.slice z.1.a6 n.down.length z.1.c6,.slice z.1.a7 n.up.length z.1.c7] [],.ow EInt 3 (.slice z.1.a1 n.tree.parent.length z.1.c1) (outN n (stepN n s)).tree.parent z.1.F1,.ow EStr 9 (.slice z.1.a2 (outN n (stepN n s)).source.window.items.length z.1.c2) (outN n (stepN n s)).source.window.items z.1.F2,.ow EHold 194 (.slice z.1.a3 (outN n (stepN n s)).source.holds.length z.1.c3) (outN n (stepN n s)).source.holds z.1.F3,.ow OElement 142 (.slice z.1.a4 n.elements.length z.1.c4) (outN n (stepN n s)).elements z.1.F4,.ow OReceiver 149 (.slice z.1.a5 n.receivers.length z.1.c5) (outN n (stepN n s)).receivers z.1.F5,.ow (OSl EPacket 127) 132 (.slice z.1.a6 n.down.length z.1.c6) (outN n (stepN n s)).down z.1.F6,.ow (OSl EPacket 127) 132 (.slice z.1.a7 n.up.length z.1.c7) (outN n (stepN n s)).up z.1.F7,.ow EStr 9 (.slice z.2.a (outE (stepN n s)).length z.2.c) (outE (stepN n s)) z.2.F]):=by
 have hG:=goodNet_GN.1 hg
 have h8:=goodT hG.t
 have hn8:=h8.n1
 have hn2:=h8.n0
 obtain ⟨q1,q2,q3,q4⟩:=lensN_iff.1 hG.l
 have hS:=goodS_of hG.s
 obtain ⟨-,⟨hz1, -⟩, -, -⟩:=goodWin_iff.1 hS.w
 have hkl:=kids_len n.tree.parent 0
 have hkx:∀x∈kids n.tree.parent 0,0≤x∧x.toNat < n.down.length:=fun x hx=>by have:=kids_behind (i:=0) h8 hx;omega
 refine enter Tryz.func45 rfl Tryz.ntmps45 fun w0=>?_
 refine t_nilow EStr 9 ?_
 refine go ?_;intros
 rename_i gs
 refine c_if rfl (fun h1=>?_) (fun h1=>?_)
 ·rw [show stepN n s=some (sendN n s.data,[]) by unfold stepN;rw [if_pos h1]]
  refine go ?_;intros
  refine dsI [.cel g 0 [.slice a1 n.tree.parent.length c1],.row gs 53 0 [] [.int .i64 s.kind,.int .i64 s.node,.string s.data] []] [] ?_
  refine dtI 0 (fun w h=>hol2 (row_cel (h (.row g _ 0 [] _ []) (by exact memE))) (h _ (by exact memE))) ?_
  refine dtI 1 (fun w h=>hol2 (row_cel (h (.row g _ 0 [] _ []) (by exact memE))) (h _ (by exact memE))) ?_
  refine dtI 2 (fun w h=>hol2 (row_cel (h (.row g _ 0 [] _ []) (by exact memE))) (h _ (by exact memE))) ?_
  refine dtI 3 (fun w h=>hol2 (row_cel (h (.row g _ 0 [] _ []) (by exact memE))) (h _ (by exact memE))) ?_
  refine dtI 4 (fun w h=>hol2 (row_cel (h (.row g _ 0 [] _ []) (by exact memE))) (h _ (by exact memE))) ?_
  refine dtI 6 (fun w h=>hol2 (row_cel (h (.row g _ 0 [] _ []) (by exact memE))) (h _ (by exact memE))) ?_
  refine dtI 7 (fun w h=>hol2 (row_cel (h (.row g _ 0 [] _ []) (by exact memE))) (h _ (by exact memE))) ?_
  refine dtI 8 (fun w h=>hol2 (row_cel (h (.row g _ 0 [] _ []) (by exact memE))) (h _ (by exact memE))) ?_
  refine dtI 9 (fun w h=>hol2 (row_cel (h (.row g _ 0 [] _ []) (by exact memE))) (h _ (by exact memE))) ?_
  refine dtI 10 (fun w h=>hol2 (row_cel (h (.row g _ 0 [] _ []) (by exact memE))) (h _ (by exact memE))) ?_
  refine dN 5 ?_
  refine oC ?_
  refine cfr (fun w st=>by obtain ⟨Fq,hq⟩:=rdTree (st.get (p:=.ow EInt 3 (.slice a1 n.tree.parent.length c1) n.tree.parent F1) (by exact memE));exact ⟨_,hol1 hq,rfl,children_f n.tree 0 _ Fq (by show n.tree.parent.length≤1000000;omega)⟩) (fun u _=>?_)
  refine t_app ?_
  refine t_read (E:=EInt) (xs:=kids n.tree.parent 0) fun Fk=>?_
  refine dkI (fun w h=>hol2 (row_cel (h (.row g _ 0 [] _ []) (by exact memE))) (h _ (by exact memE))) ?_
  refine dN 11 ?_
  refine oC ?_
  refine cf (fn_rin (X:=[.slice a1 n.tree.parent.length c1]) (cs:=[.int .i64 n.source.window.trail,.int .i64 n.source.window.size,.slice a2 n.source.window.items.length c2,.int .i64 n.source.clock,.int .i64 n.source.quiet,.slice a3 n.source.holds.length c3]) (Y:=[.slice a4 n.elements.length c4,.slice a5 n.receivers.length c5,.slice a6 n.down.length c6,.slice a7 n.up.length c7]) (L:=[.slice a1 n.tree.parent.length c1,.int .i64 n.source.window.trail,.int .i64 n.source.window.size,.slice a2 n.source.window.items.length c2,.int .i64 n.source.clock,.int .i64 n.source.quiet,.slice a3 n.source.holds.length c3,.slice a4 n.elements.length c4,.slice a5 n.receivers.length c5,.slice a6 n.down.length c6,.slice a7 n.up.length c7]) (L':=fun z:SeS=>[.slice a1 n.tree.parent.length c1,.int .i64 (pushedW n.source.window s.data).trail,.int .i64 (pushedW n.source.window s.data).size,.slice z.a (pushedW n.source.window s.data).items.length z.c,.int .i64 n.source.clock,.int .i64 0,.slice z.a2 (keepH (pushedW n.source.window s.data) n.source.holds).length z.c2,.slice a4 n.elements.length c4,.slice a5 n.receivers.length c5,.slice a6 n.down.length c6,.slice a7 n.up.length c7]) (cs':=fun z:SeS=>[.int .i64 (pushedW n.source.window s.data).trail,.int .i64 (pushedW n.source.window s.data).size,.slice z.a (pushedW n.source.window s.data).items.length z.c,.int .i64 n.source.clock,.int .i64 0,.slice z.a2 (keepH (pushedW n.source.window s.data) n.source.holds).length z.c2]) (Ssend_f n.source.window s.data n.source.holds g 49 (0+1) _ _ a2 a3 c2 c3 n.source.clock n.source.quiet F2 F3 hS.l hS.t0 hS.t1 hss hz1 hS.n) rfl rfl (fun _=>rfl)) fun z _=>?_
  refine t_app ?_
  refine dkI (fun w h=>hol2 (row_cel (h (.row g _ 0 [] _ []) (by exact memE))) (h _ (by exact memE))) ?_
  refine dN 12 ?_
  apply o_bs;rfl;rfl;rfl;rfl;exact rptE;exact filE;intro _
  refine t_row (E:=EPacket) (xs:=[pushedP n.source.window s.data]) (flatPacket (pushedP n.source.window s.data) hss) ?_ (by simp)
  refine t_read (E:=EPacket) (xs:=[pushedP n.source.window s.data]) fun Fp=>?_
  refine dkI (fun w h=>hol2 (row_cel (h (.row g _ 0 [] _ []) (by exact memE))) (h _ (by exact memE))) ?_
  refine dN 13 ?_
  refine oC ?_
  refine cf (down_f n.down (kids n.tree.parent 0) [pushedP n.source.window s.data] g _ _ _ _ _ _ _ _ _ _ a6 _ c6 F6 _ _ Fk _ _ Fp rfl hkx) fun J6 _=>?_
  refine t_app ?_
  refine dkI (fun w h=>hol2 (row_cel (h (.row g _ 0 [] _ []) (by exact memE))) (h _ (by exact memE))) ?_
  refine dd ?_
  refine go ?_;intros
  refine ret (⟨a1,c1,F1,z.a,z.c,z.F,z.a2,z.c2,z.F2,a4,c4,F4,a5,c5,F5,a6,c6,J6,a7,c7,F7⟩,⟨0,none,0,[]⟩) trivial rfl
 refine go ?_;intros
 refine c_if rfl (fun h4=>?_) (fun h4=>?_)
 ·refine go ?_;intros
  refine c_if rfl (fun hc=>?_) (fun hc=>?_)
  ·rw [show stepN n s=none by unfold stepN;rw [if_neg h1,if_pos h4,if_pos hc]]
   refine go ?_;intros
   refine ret (⟨a1,c1,F1,a2,c2,F2,a3,c3,F3,a4,c4,F4,a5,c5,F5,a6,c6,F6,a7,c7,F7⟩,⟨0,none,0,[]⟩) trivial rfl
  ·rw [show stepN n s=some (tickN n) by unfold stepN;rw [if_neg h1,if_pos h4,if_neg hc]]
   have hck:=src_clkN hG.s
   refine go ?_;intros
   refine cf (Ntick_f n g a1 c1 F1 a2 c2 F2 a3 c3 F3 a4 c4 F4 a5 c5 F5 a6 c6 F6 a7 c7 F7 FT hg (by omega)) fun z _=>?_
   refine t_app ?_
   refine go ?_;intros
   refine ret (z.1,z.2) trivial rfl
 ·rw [show stepN n s=takenN n s by unfold stepN;rw [if_neg h1,if_neg h4]]
  have hf:isFac s.node=true:=by
   unfold okStep at hs
   rw [if_neg h1,if_neg h4] at hs
   simp only [Bool.and_eq_true] at hs
   exact hs.1.2
  refine go ?_;intros
  refine cf (taken_f n s g a1 c1 F1 a2 c2 F2 a3 c3 F3 a4 c4 F4 a5 c5 F5 a6 c6 F6 a7 c7 F7 FT hg hf) fun z _=>?_
  refine t_app ?_
  refine go ?_;intros
  refine ret (z.1,z.2) trivial rfl
theorem IsValidStep_f (s:Step) (hss:s.data.size≤maxLen):Fn Tryz.prog 43 [.agg #[.int .i64 s.kind,.int .i64 s.node,.string s.data]] [] [] (fun (_:Unit)=>True) (fun _=>.bool (okStep s)) (fun _=>[]):=by
 refine enter Tryz.func43 rfl Tryz.ntmps43 fun w0=>?_
 refine go ?_;intros
 refine c_if rfl (fun h1=>?_) (fun h1=>?_)
 ·rw [show okStep s=(decide (s.node=0) && itm s.data) by unfold okStep;rw [if_pos h1]]
  refine go ?_;intros
  refine wg_if rfl rfl (fun h2=>?_) (fun h2=>?_)
  ·refine go ?_;intros
   refine cb (fun w st=>isItem_c s.data w hss) ?_
   refine go ?_;intros
   refine ret () trivial ?_
   rw [decide_eq_true h2];rfl
  ·refine go ?_;intros
   refine ret () trivial ?_
   rw [decide_eq_false h2];rfl
 refine go ?_;intros
 refine c_if rfl (fun h4=>?_) (fun h4=>?_)
 ·rw [show okStep s=(decide (s.node=0) && decide (s.data=⟨#[]⟩)) by unfold okStep;rw [if_neg h1,if_pos h4]]
  refine go ?_;intros
  refine wg_if rfl rfl (fun h2=>?_) (fun h2=>?_)
  ·refine go ?_;intros
   refine ret () trivial ?_
   rw [decide_eq_true h2];rfl
  ·refine go ?_;intros
   refine ret () trivial ?_
   rw [decide_eq_false h2];rfl
 rw [show okStep s=(btw 1 s.kind 6 && isFac s.node && decide (s.data=⟨#[]⟩)) by unfold okStep;rw [if_neg h1,if_neg h4]]
 refine go ?_;intros
 refine c_if rfl (fun k2=>?_) (fun k2=>?_)
 ·refine go ?_;intros
  refine c_if rfl (fun _=>?_) (fun hx=>absurd k2 hx)
  refine go ?_;intros
  refine ce (fun w st=>isFace_c s.node _) ?_
  cases g5:isFac s.node
  ·refine go ?_;intros
   refine ret () trivial ?_
   rw [Bool.and_false,Bool.false_and];rfl
  ·refine go ?_;intros
   refine ret () trivial ?_
   rw [show btw 1 s.kind 6=true by unfold btw;simp;omega];rfl
 ·refine go ?_;intros
  refine c_if rfl (fun k3=>?_) (fun k3=>?_)
  ·refine go ?_;intros
   refine c_if rfl (fun _=>?_) (fun hx=>absurd k3 hx)
   refine go ?_;intros
   refine ce (fun w st=>isFace_c s.node _) ?_
   cases g5:isFac s.node
   ·refine go ?_;intros
    refine ret () trivial ?_
    rw [Bool.and_false,Bool.false_and];rfl
   ·refine go ?_;intros
    refine ret () trivial ?_
    rw [show btw 1 s.kind 6=true by unfold btw;simp;omega];rfl
  ·refine go ?_;intros
   refine c_if rfl (fun k5=>?_) (fun k5=>?_)
   ·refine go ?_;intros
    refine c_if rfl (fun _=>?_) (fun hx=>absurd k5 hx)
    refine go ?_;intros
    refine ce (fun w st=>isFace_c s.node _) ?_
    cases g5:isFac s.node
    ·refine go ?_;intros
     refine ret () trivial ?_
     rw [Bool.and_false,Bool.false_and];rfl
    ·refine go ?_;intros
     refine ret () trivial ?_
     rw [show btw 1 s.kind 6=true by unfold btw;simp;omega];rfl
   ·refine go ?_;intros
    refine c_if rfl (fun k6=>?_) (fun k6=>?_)
    ·refine go ?_;intros
     refine ce (fun w st=>isFace_c s.node _) ?_
     cases g5:isFac s.node
     ·refine go ?_;intros
      refine ret () trivial ?_
      rw [Bool.and_false,Bool.false_and];rfl
     ·refine go ?_;intros
      refine ret () trivial ?_
      rw [show btw 1 s.kind 6=true by unfold btw;simp;omega];rfl
    ·refine go ?_;intros
     refine ret () trivial ?_
     rw [show btw 1 s.kind 6=false by unfold btw;simp;omega];rfl
def zNet:Net:=⟨⟨[]⟩,zSrc,[],[],[],[]⟩
theorem good_els {n:Net} (h:goodNet n=true):(∀x∈n.elements,goodElement x=true)∧(∀x∈n.receivers,goodRec x=true)∧(∀q∈n.down,goodQ q=true)∧∀q∈n.up,goodQ q=true:=by
 have hG:=goodNet_GN.1 h
 obtain ⟨q1,q2,q3,q4⟩:=lensN_iff.1 hG.l
 refine ⟨fun x hx=>?_,fun x hx=>?_,fun x hx=>?_,fun x hx=>?_⟩
 all_goals
  obtain ⟨i,hi,rfl⟩:=List.getElem_of_mem hx
  obtain ⟨h1,h2,h3,h4,r⟩:=hG.rn (i:=i) (by omega)
 ·by_cases e:i=0
  ·exact good_zElem (r.hz e).1
  ·cases l:leafT n.tree.parent ((i:Nat):Int)
   ·exact (r.hn e l).1
   ·exact good_zElem (r.hf e l).1
 ·by_cases e:i=0
  ·exact good_zRecv (r.hz e).2.1
  ·cases l:leafT n.tree.parent ((i:Nat):Int)
   ·exact good_zRecv (r.hn e l).2.2
   ·exact (r.hf e l).2.1
 ·exact r.hd
 ·exact r.hu
theorem goodQ_len {q:List Packet} (h:goodQ q=true):q.length≤6∧∀p∈q,goodPk p=true:=by
 unfold goodQ at h
 simpa [List.all_eq_true] using h
theorem small_of_good {n:Net} (h:goodNet n=true):SmallN n:=by
 have hG:=goodNet_GN.1 h
 have h8:=(goodT hG.t).n1
 obtain ⟨q1,q2,q3,q4⟩:=lensN_iff.1 hG.l
 have hS:=goodS_of hG.s
 have hl:=hS.l
 have hm:=hS.m
 obtain ⟨e1,e2,e3,e4⟩:=good_els h
 refine ⟨by omega,by omega,by omega,by omega,fun x hx=>?_,fun x hx y hy=>?_,by omega,fun x hx=>⟨?_,?_⟩,by omega,fun q hq=>?_,by omega,fun q hq=>?_⟩
 ·have:=(goodE_iff.1 (e1 x hx)).2.1;omega
 ·have:=(good_room (e1 x hx)).2.2 y hy;omega
 ·have:=(good_items (goodR_iff.1 (e2 x hx)).w).1;omega
 ·have:=(areQ_iff.1 (goodR_iff.1 (e2 x hx)).q).2.1;omega
 ·have:=(goodQ_len (e3 q hq)).1;omega
 ·have:=(goodQ_len (e4 q hq)).1;omega
theorem tickTo_tree (n:Net):∀k,(tickTo n k).1.tree=n.tree
 | 0=>rfl
 | k+1=>(tick1_tree _ _).1.trans (tickTo_tree n k)
theorem step_tree {n:Net} {s:Step} {r:Net × List ByteArray} (hr:stepN n s=some r):r.1.tree=n.tree:=by
 have hd:∀(n:Net) i p,(delivN n i p).1.tree=n.tree:=fun n i p=>by unfold delivN;split <;> rfl
 have hu:∀(n:Net) i p,(upN n i p).tree=n.tree:=fun n i p=>by unfold upN;split <;> rfl
 have hp:(poppedN n s).tree=n.tree:=by unfold poppedN;split <;> rfl
 unfold stepN takenN at hr
 split at hr
 ·cases hr;rfl
 split at hr
 ·split at hr
  ·cases hr
  ·cases hr;exact tickTo_tree n _
 split at hr
 ·cases hr
 split at hr
 ·cases hr
 split at hr
 ·cases hr;exact (hd _ _ _).trans hp
 split at hr
 ·cases hr;exact (hu _ _ _).trans hp
 ·cases hr;exact hp
theorem lens_of {n m:Net} (h1:goodNet n=true) (h2:goodNet m=true) (h:m.tree=n.tree):n.tree.parent.length=m.tree.parent.length∧n.elements.length=m.elements.length∧n.receivers.length=m.receivers.length∧n.down.length=m.down.length∧n.up.length=m.up.length:=by
 obtain ⟨p1,p2,p3,p4⟩:=lensN_iff.1 (goodNet_GN.1 h1).l
 obtain ⟨q1,q2,q3,q4⟩:=lensN_iff.1 (goodNet_GN.1 h2).l
 rw [h] at q1 q2 q3 q4
 exact ⟨by rw [h],by omega,by omega,by omega,by omega⟩
def resStepNet (n:Net) (s:Step):Net × List ByteArray × Bool:=if goodNet n && okStep s then (match stepN n s with
 | some r=>(r.1,r.2,true)
 | none=>(zNet,[],false)) else (zNet,[],false)
def okQ (up:Bool) (p:Packet):Bool:=goodPk p && (!up || decide (p.kind=3))
theorem okQ_all (up:Bool) (l:List Packet):(l.all (okQ up) && decide (l.length≤6))=(goodQ l && (!up || upQ l)):=by
 have h:l.all (okQ up)=(l.all goodPk && (!up || upQ l)):=by
  unfold upQ okQ
  induction l with
  | nil=>cases up <;> rfl
  | cons p l ih =>
   simp only [List.all_cons,ih]
   cases goodPk p <;> cases up <;> cases decide (p.kind=3) <;> cases l.all goodPk <;> simp
 rw [h]
 unfold goodQ
 cases decide (l.length≤6) <;> cases l.all goodPk <;> simp
theorem okQ_no {up:Bool} {l:List Packet} {k:Nat} (h:k < l.length) (hp:okQ up l[k]=false):(goodQ l && (!up || upQ l))=false:=by
 rw [←okQ_all,show l.all (okQ up)=false from List.all_eq_false.2 ⟨l[k],List.getElem_mem h,by simp [hp]⟩];rfl
theorem l15Queue_f (l:List Packet) (up:Bool) (a:Option Addr) (c:Nat) (F:List Nat) (hl:l.length≤9223372036854775807):Fn Tryz.prog 153 [.slice a l.length c,.bool up] [.sl EPacket (.slice a l.length c) l F] [] (fun (_:Unit)=>True) (fun _=>.bool (goodQ l && (!up || upQ l))) (fun _=>[]):=by
 refine enter Tryz.func153 rfl Tryz.ntmps153 fun w0=>?_
 refine go ?_;intros
 refine c_loopR [0,1,4] (fun k:Nat=>[(5,.int .i64 (k:Nat))]) (fun k=>k≤l.length∧∀j,j < k→∀h:j < l.length,okQ up l[j]=true) (fun k=>l.length - k) 0 ⟨Nat.zero_le _,fun j h=>by omega⟩ fun k hk=>?_
 obtain ⟨hk1,hk2⟩:=hk
 refine go ?_;intros
 refine c_if rfl (fun h1=>?_) (fun h1=>?_)
 ·have hh:k < l.length:=by omega
  refine atPacket (xs:=l) k ?_
  rintro hi b o e1 s1
  rw [e1]
  refine go ?_;intros
  refine cf (l4Good_f l[k] s1) fun _ _=>?_
  refine t_app ?_
  cases g:goodPk l[k]
  ·rw [okQ_no hh (by unfold okQ;rw [g];rfl)]
   refine go ?_;intros
   refine ret () trivial rfl
  cases up
  ·refine go ?_;intros
   refine n_lp (k+1) ⟨hh,fun j hj h=>?_⟩ (by show l.length - (k+1) < l.length - k;omega)
   rcases Nat.lt_or_eq_of_le (Nat.lt_succ_iff.1 hj) with h'|rfl
   ·exact hk2 j h' h
   ·unfold okQ;rw [g];rfl
  ·refine go ?_;intros
   refine c_if rfl (fun h3=>?_) (fun h3=>?_)
   ·rw [okQ_no hh (by unfold okQ;rw [g,decide_eq_false h3];rfl)]
    refine go ?_;intros
    refine ret () trivial rfl
   ·refine go ?_;intros
    refine n_lp (k+1) ⟨hh,fun j hj h=>?_⟩ (by show l.length - (k+1) < l.length - k;omega)
    rcases Nat.lt_or_eq_of_le (Nat.lt_succ_iff.1 hj) with h'|rfl
    ·exact hk2 j h' h
    ·unfold okQ;rw [g,decide_eq_true (by omega)];rfl
 ·obtain rfl:k=l.length:=by omega
  refine go ?_;intros
  refine ret () trivial ?_
  rw [←okQ_all,show l.all (okQ up)=true from List.all_eq_true.2 fun p hp=>by obtain ⟨j,hj,rfl⟩:=List.getElem_of_mem hp;exact hk2 j hj hj,Bool.true_and]
  by_cases h6:l.length≤6
  ·rw [decide_eq_true h6,decide_eq_true (by omega)];rfl
  ·rw [decide_eq_false h6,decide_eq_false (by omega)];rfl
theorem isZeroElement_f (e:Element) (v:Value) (F:List Nat):Fn Tryz.prog 180 [v] [.isv EElement v e F] [] (fun (_:Unit)=>True) (fun _=>.bool (zElem e)) (fun _=>[]):=by
 refine enter Tryz.func180 rfl Tryz.ntmps180 fun w0=>?_
 refine openElement ?_
 rintro a1 c1 F1 rfl l1
 refine go ?_;intros
 refine wg_if rfl rfl (fun h1=>?_) (fun h1=>?_)
 ·refine go ?_;intros
  refine ret () trivial ?_
  unfold zElem
  rw [decide_eq_true h1,Bool.true_and]
  by_cases h:e.entries.length=0
  ·rw [decide_eq_true h,decide_eq_true (by omega)];rfl
  ·rw [decide_eq_false h,decide_eq_false (by omega)];rfl
 ·refine go ?_;intros
  refine ret () trivial ?_
  unfold zElem
  rw [decide_eq_false h1];rfl
theorem isq1_f (p:Packet) (hs:p.data.size≤maxLen):Fn Tryz.prog 239 [.agg #[.int .i64 (p).kind,.int .i64 (p).number,.int .i64 (p).trail,.int .i64 (p).lead,.string (p).data]] [] [] (fun (_:Unit)=>True) (fun _=>.bool (!goodPk p)) (fun _=>[]):=by
 refine enter Tryz.func239 rfl Tryz.ntmps239 fun w0=>?_
 refine go ?_;intros
 refine cf (IsValidPacket_f p hs) fun _ _=>?_
 refine t_app ?_
 refine go ?_;intros
 refine ret () trivial rfl
theorem isQueue_f (l:List Packet) (a:Option Addr) (c:Nat) (F:List Nat):Fn Tryz.prog 177 [.slice a l.length c] [.sl EPacket (.slice a l.length c) l F] [] (fun (_:Unit)=>True) (fun _=>.bool (goodQ l)) (fun _=>[]):=by
 refine enter Tryz.func177 rfl Tryz.ntmps177 fun w0=>?_
 refine t_each (E:=EPacket) (fun p:Packet=>p.data.size≤maxLen) (fun w cs x F h=>by obtain ⟨_,h,_⟩:=h;exact h) ?_
 intro hz
 refine go ?_;intros
 refine wg_if rfl rfl (fun h1=>?_) (fun h1=>?_)
 ·refine go ?_;intros
  refine cb (fun w st=>(ConPk_f 239 [] [] [] rfl l a c F (fun p=>!goodPk p) (by kernel_rfl) (by omega) (fun p hp w _=>(isq1_f p (hz p hp)).val w (by intro q hq;cases hq))).val w (hol1 (st.get (p:=.sl EPacket (.slice a l.length c) l F) (by exact memE)))) ?_
  refine go ?_;intros
  refine ret () trivial ?_
  unfold goodQ
  rw [decide_eq_true (show l.length≤6 by omega),List.not_any_eq_all_not];simp;rfl
 ·refine go ?_;intros
  refine ret () trivial ?_
  unfold goodQ
  rw [decide_eq_false (show ¬l.length≤6 by omega)];rfl
theorem isZeroReceiver_f (r:Receiver) (v:Value) (F:List Nat):Fn Tryz.prog 181 [v] [.isv EReceiver v r F] [] (fun (_:Unit)=>True) (fun _=>.bool (zRecv r)) (fun _=>[]):=by
 have key:∀b:Bool,(b=(!r.started && decide (r.clock=0) && (decide (r.window.next=0) && decide (r.window.slots.length=0) && decide (r.requests.length=0))))→b=zRecv r:=fun b h=>h
 refine enter Tryz.func181 rfl Tryz.ntmps181 fun w0=>?_
 refine openReceiver ?_
 rintro a1 c1 F1 a2 c2 F2 rfl l1 l2
 unfold maxLen at l1 l2
 cases hs:r.started <;> rw [hs] at key
 ·refine go ?_;intros
  refine wg_if rfl rfl (fun h1=>?_) (fun h1=>?_)
  ·refine go ?_;intros
   refine wg_if rfl rfl (fun h2=>?_) (fun h2=>?_)
   ·refine go ?_;intros
    refine wg_if rfl rfl (fun h3=>?_) (fun h3=>?_)
    ·refine go ?_;intros
     refine ret () trivial ?_
     rw [←key (decide ((r.requests.length:Int)=0)) (by simp [h1,h2,show r.window.slots.length=0 by omega])];rfl
    ·refine go ?_;intros
     refine ret () trivial ?_
     rw [←key false (by simp [show ¬r.window.slots=[] from fun e=>h3 (by rw [e];rfl)])];rfl
   ·refine go ?_;intros
    refine ret () trivial ?_
    rw [←key false (by simp [h2])];rfl
  ·refine go ?_;intros
   refine ret () trivial ?_
   rw [←key false (by simp [h1])];rfl
 ·refine go ?_;intros
  refine ret () trivial ?_
  rw [←key false (by simp)];rfl
theorem irn1_f (p:Packet):Fn Tryz.prog 179 [.agg #[.int .i64 (p).kind,.int .i64 (p).number,.int .i64 (p).trail,.int .i64 (p).lead,.string (p).data]] [] [] (fun (_:Unit)=>True) (fun _=>.bool (!decide (p.kind=3))) (fun _=>[]):=by
 refine enter Tryz.func179 rfl Tryz.ntmps179 fun w0=>?_
 refine go ?_;intros
 refine ret () trivial ?_
 rw [←decide_not];rfl
theorem upQ_any (l:List Packet):(l.any fun p=>!decide (p.kind=3)) = !upQ l:=by
 unfold upQ;rw [List.not_all_eq_any_not]
theorem len_z {α:Type} (l:List α):decide ((l.length:Int)=0)=decide (l.length=0):=by
 by_cases h:l.length=0
 ·rw [decide_eq_true h,decide_eq_true (by omega)]
 ·rw [decide_eq_false h,decide_eq_false (by omega)]
theorem rn_no {par:List Int} {clk:Int} {i:Nat} {e:Element} {r:Receiver} {d u:List Packet} (h:(goodQ d && goodQ u && upQ u)=false):rightN par clk i e r d u=false:=by unfold rightN;rw [h];rfl
theorem rn_yes {par:List Int} {clk:Int} {i:Nat} {e:Element} {r:Receiver} {d u:List Packet} (h:(goodQ d && goodQ u && upQ u)=true):rightN par clk i e r d u=(if i=0 then zElem e && zRecv r && decide (d.length=0) && decide (u.length=0)
  else if leafT par i then zElem e && goodRec r && decide (r.clock=clk) else goodElement e && decide (e.clock=clk) && zRecv r):=by unfold rightN;rw [h,Bool.true_and]
theorem isRightNode_f (n:Net) (i:Nat) (v:Value) (F:List Nat) (hl:lensN n=true) (hi:i < n.tree.parent.length):Fn Tryz.prog 94 [v,.int .i64 (i:Nat)] [.isv ENet v n F] [] (fun (_:Unit)=>True) (fun _=>.bool (atNode n i)) (fun _=>[]):=by
 obtain ⟨q1,q2,q3,q4⟩:=lensN_iff.1 hl
 rw [atNode_at (by omega) (by omega) (by omega) (by omega)]
 refine enter Tryz.func94 rfl Tryz.ntmps94 fun w0=>?_
 refine openNet ?_
 rintro a1 c1 F1 a2 c2 F2 a3 c3 F3 a4 c4 F4 a5 c5 F5 a6 c6 F6 a7 c7 F7 rfl l1 l2 l3 l4 l5 l6 l7
 unfold maxLen at l1 l2 l3 l4 l5 l6 l7
 refine closeTree n.tree ?_
 refine atElement (xs:=n.elements) i ?_
 rintro hi4 b4 o4 a8 c8 F8 rfl l8
 refine closeElement n.elements[i] ?_
 refine atReceiver (xs:=n.receivers) i ?_
 rintro hi5 b5 o5 a9 c9 F9 a10 c10 F10 rfl l9 l10
 refine closeReceiver n.receivers[i] ?_
 refine at_ESl (E:=EPacket) (hz:=by decide) (xs:=n.down) i ?_
 rintro hi6 b6 o6 a11 c11 F11 rfl l11
 refine at_ESl (E:=EPacket) (hz:=by decide) (xs:=n.up) i ?_
 rintro hi7 b7 o7 a12 c12 F12 rfl l12
 unfold maxLen at l8 l9 l10 l11 l12
 refine go ?_;intros
 refine c_joinS [1,2,4] [0,1,2,3,4,5,6,7,8,9,10,11,12,13,14,15,16,17,18,19,20] (fun z:Nat × Nat=>[(5,ptr z.1 0 0),(6,ptr z.2 0 0)]) (fun z=>[.row z.1 142 0 [] [.int .i64 n.elements[i].clock,.slice a8 n.elements[i].entries.length c8] [],.row z.2 149 0 [] [.bool n.receivers[i].started,.int .i64 n.receivers[i].clock,.int .i64 n.receivers[i].window.next,.slice a9 n.receivers[i].window.slots.length c9,.slice a10 n.receivers[i].requests.length c10] []]) (fun _=>True) ?_ fun z _=>?_
 ·refine d_start [0,6,10] [] ?_
  refine dt4 0 1 2 3 ?_
  refine dt4 4 5 6 7 ?_
  refine dt2 8 9 ?_
  refine dM 10 11 ?_ ?_
  ·apply o_alloc;rfl;intro _
   refine dk ?_
   refine dN 11 ?_
   apply o_alloc;rfl;intro _
   refine dk ?_
   refine dN 12 ?_
   refine oS ?_
   refine dk ?_
   refine dN 13 ?_
   refine oS ?_
   refine dk ?_
   refine dd ?_
   refine n_join ((_,_):Nat × Nat) trivial
  ·apply o_alloc;rfl;intro _
   refine dk ?_
   refine dN 10 ?_
   apply o_alloc;rfl;intro _
   refine dk ?_
   refine dN 12 ?_
   refine oS ?_
   refine dk ?_
   refine dN 13 ?_
   refine oS ?_
   refine dk ?_
   refine dd ?_
   refine n_join ((_,_):Nat × Nat) trivial
 refine go ?_;intros
 refine cf (isQueue_f n.down[i] _ _ F11) fun _ _=>?_
 refine t_app ?_
 cases g1:goodQ n.down[i]
 ·rw [rn_no (by rw [g1];rfl)]
  refine go ?_;intros
  refine ret () trivial rfl
 refine go ?_;intros
 refine cf (isQueue_f n.up[i] _ _ F12) fun _ _=>?_
 refine t_app ?_
 cases g2:goodQ n.up[i]
 ·rw [rn_no (by rw [g1,g2];rfl)]
  refine go ?_;intros
  refine ret () trivial rfl
 have u6:n.up[i].length≤6:=by
  unfold goodQ at g2
  simp only [Bool.and_eq_true,decide_eq_true_eq] at g2
  exact g2.1
 refine go ?_;intros
 refine cb (fun w st=>(ConPk_f 179 [] [] [] rfl n.up[i] a12 c12 F12 (fun p=>!decide (p.kind=3)) (by kernel_rfl) (by omega) (fun p hp w _=>(irn1_f p).val w (by intro q hq;cases hq))).val w (hol1 (st.get (p:=.sl EPacket (.slice a12 n.up[i].length c12) n.up[i] F12) (by exact memE)))) ?_
 rw [upQ_any]
 cases g3:upQ n.up[i]
 ·rw [rn_no (by rw [g1,g2,g3];rfl)]
  refine go ?_;intros
  refine ret () trivial rfl
 rw [rn_yes (by rw [g1,g2,g3];rfl)]
 refine go ?_;intros
 refine c_if rfl (fun h0=>?_) (fun h0=>?_)
 ·obtain rfl:i=0:=by omega
  rw [if_pos rfl]
  refine go ?_;intros
  refine cf (isZeroElement_f n.elements[0] _ F8) fun _ _=>?_
  refine t_app ?_
  cases g4:zElem n.elements[0]
  ·refine go ?_;intros
   refine ret () trivial rfl
  refine go ?_;intros
  refine cf (isZeroReceiver_f n.receivers[0] _ (F9++F10)) fun _ _=>?_
  refine t_app ?_
  cases g5:zRecv n.receivers[0]
  ·refine go ?_;intros
   refine ret () trivial rfl
  refine go ?_;intros
  refine wg_if rfl rfl (fun h6=>?_) (fun h6=>?_)
  ·refine go ?_;intros
   refine ret () trivial ?_
   rw [←len_z n.down[0],←len_z n.up[0],decide_eq_true h6];rfl
  ·refine go ?_;intros
   refine ret () trivial ?_
   rw [←len_z n.down[0],decide_eq_false h6];rfl
 rw [if_neg (by omega)]
 refine go ?_;intros
 refine cf (isLeaf_f n.tree i _ F1) fun _ _=>?_
 refine t_app ?_
 cases g6:leafT n.tree.parent i
 ·rw [if_neg (by decide)]
  refine go ?_;intros
  refine cb (fun w st=>IsValidElement_c _ n.elements[i] F8 w (st.get (p:=.isv EElement (.agg #[.int .i64 n.elements[i].clock,.slice a8 n.elements[i].entries.length c8]) n.elements[i] F8) (by exact memE))) ?_
  cases g4:goodElement n.elements[i]
  ·refine go ?_;intros
   refine ret () trivial rfl
  refine go ?_;intros
  refine wg_if rfl rfl (fun h7=>?_) (fun h7=>?_)
  ·refine go ?_;intros
   refine cf (isZeroReceiver_f n.receivers[i] _ (F9++F10)) fun _ _=>?_
   refine t_app ?_
   refine go ?_;intros
   refine ret () trivial ?_
   rw [decide_eq_true h7];rfl
  ·refine go ?_;intros
   refine ret () trivial ?_
   rw [decide_eq_false h7];rfl
 ·rw [if_pos rfl]
  refine go ?_;intros
  refine cf (isZeroElement_f n.elements[i] _ F8) fun _ _=>?_
  refine t_app ?_
  cases g4:zElem n.elements[i]
  ·refine go ?_;intros
   refine ret () trivial rfl
  refine go ?_;intros
  refine cf (IsValidReceiver_f n.receivers[i] _ (F9++F10)) fun _ _=>?_
  refine t_app ?_
  cases g5:goodRec n.receivers[i]
  ·refine go ?_;intros
   refine ret () trivial rfl
  refine go ?_;intros
  refine ret () trivial rfl
theorem IsValidNet_f (n:Net) (v:Value) (F:List Nat):Fn Tryz.prog 42 [v] [.isv ENet v n F] [] (fun (_:Unit)=>True) (fun _=>.bool (goodNet n)) (fun _=>[]):=by
 refine enter Tryz.func42 rfl Tryz.ntmps42 fun w0=>?_
 refine openNet ?_
 rintro a1 c1 F1 a2 c2 F2 a3 c3 F3 a4 c4 F4 a5 c5 F5 a6 c6 F6 a7 c7 F7 rfl l1 l2 l3 l4 l5 l6 l7
 unfold maxLen at l1 l2 l3 l4 l5 l6 l7
 refine closeTree n.tree ?_
 refine closeSource n.source ?_
 refine go ?_;intros
 refine cf (IsValidTree_f n.tree _ F1) fun _ _=>?_
 refine t_app ?_
 cases g1:goodTree n.tree
 ·rw [show goodNet n=false by unfold goodNet;rw [g1];rfl]
  refine go ?_;intros
  refine ret () trivial rfl
 refine go ?_;intros
 refine cf (IsValidSource_f n.source _ (F2++F3)) fun _ _=>?_
 refine t_app ?_
 cases g2:goodSrc n.source
 ·rw [show goodNet n=false by unfold goodNet;rw [g1,g2];rfl]
  refine go ?_;intros
  refine ret () trivial rfl
 refine go ?_;intros
 refine wg_if rfl rfl (fun m0=>?_) (fun m0=>?_)
 ·rw [show goodNet n=false by
   have:lensN n=false:=by
    cases hl:lensN n
    ·rfl
    ·obtain ⟨q1,q2,q3,q4⟩:=lensN_iff.1 hl;exact absurd (by omega) m0
   unfold goodNet;rw [this];simp]
  refine go ?_;intros
  refine ret () trivial rfl
 refine go ?_;intros
 refine wg_if rfl rfl (fun m1=>?_) (fun m1=>?_)
 ·rw [show goodNet n=false by
   have:lensN n=false:=by
    cases hl:lensN n
    ·rfl
    ·obtain ⟨q1,q2,q3,q4⟩:=lensN_iff.1 hl;exact absurd (by omega) m1
   unfold goodNet;rw [this];simp]
  refine go ?_;intros
  refine ret () trivial rfl
 refine go ?_;intros
 refine wg_if rfl rfl (fun m2=>?_) (fun m2=>?_)
 ·rw [show goodNet n=false by
   have:lensN n=false:=by
    cases hl:lensN n
    ·rfl
    ·obtain ⟨q1,q2,q3,q4⟩:=lensN_iff.1 hl;exact absurd (by omega) m2
   unfold goodNet;rw [this];simp]
  refine go ?_;intros
  refine ret () trivial rfl
 refine go ?_;intros
 refine c_if rfl (fun m3=>?_) (fun m3=>?_)
 ·rw [show goodNet n=false by
   have:lensN n=false:=by
    cases hl:lensN n
    ·rfl
    ·obtain ⟨q1,q2,q3,q4⟩:=lensN_iff.1 hl;exact absurd (by omega) m3
   unfold goodNet;rw [this];simp]
  refine go ?_;intros
  refine ret () trivial rfl
 have q1:n.elements.length=n.tree.parent.length:=by omega
 have q2:n.receivers.length=n.tree.parent.length:=by omega
 have q3:n.down.length=n.tree.parent.length:=by omega
 have q4:n.up.length=n.tree.parent.length:=by omega
 have hl:=lensN_iff.2 ⟨q1,q2,q3,q4⟩
 refine go ?_;intros
 refine c_loopR [1,2,47] (fun k:Nat=>[(48,.int .i64 (k:Nat))]) (fun k=>k≤n.tree.parent.length∧∀j,j < k→atNode n j=true) (fun k=>n.tree.parent.length - k) 0 ⟨Nat.zero_le _,fun j h=>by omega⟩ fun k hk=>?_
 obtain ⟨hk1,hk2⟩:=hk
 refine go ?_;intros
 refine c_if rfl (fun h1=>?_) (fun h1=>?_)
 ·have hh:k < n.tree.parent.length:=by omega
  refine go ?_;intros
  refine cf (isRightNode_f n k _ F hl hh) fun _ _=>?_
  refine t_app ?_
  cases g:atNode n k
  ·rw [goodNet_at hh g]
   refine go ?_;intros
   refine ret () trivial rfl
  refine go ?_;intros
  refine n_lp (k+1) ⟨hh,fun j hj=>?_⟩ (by show n.tree.parent.length - (k+1) < n.tree.parent.length - k;omega)
  rcases Nat.lt_or_eq_of_le (Nat.lt_succ_iff.1 hj) with h|rfl
  ·exact hk2 j h
  ·exact g
 ·obtain rfl:k=n.tree.parent.length:=by omega
  refine go ?_;intros
  refine ret () trivial ?_
  rw [goodNet_iff.2 ⟨g1,g2,hl,hk2⟩];rfl
theorem rs_no {par:List Int} {clk:Int} {i:Nat} {e:Element} {r:Receiver} {d u:List Packet} (h:(goodElement e && goodRec r && goodQ d && (goodQ u && upQ u))=false):rightN par clk i e r d u=false:=by rw [←rightS_eq];unfold rightS;rw [h];rfl
theorem rs_yes {par:List Int} {clk:Int} {i:Nat} {e:Element} {r:Receiver} {d u:List Packet} (h:(goodElement e && goodRec r && goodQ d && (goodQ u && upQ u))=true):rightN par clk i e r d u=(if i=0 then zElem e && (!r.started && decide (r.clock=0)) && decide (d.length+u.length=0)
  else if leafT par i then zElem e && decide (r.clock=clk) else (!r.started && decide (r.clock=0)) && decide (e.clock=clk)):=by rw [←rightS_eq];unfold rightS;rw [h,Bool.true_and]
theorem l15At_f (n:Net) (i:Nat) (v:Value) (F:List Nat) (hl:lensN n=true) (hi:i < n.tree.parent.length) (hg:GoodT n.tree.parent):Fn Tryz.prog 78 [v,.int .i64 (i:Nat)] [.isv ENet v n F] [] (fun (_:Unit)=>True) (fun _=>.bool (atNode n i)) (fun _=>[]):=by
 obtain ⟨q1,q2,q3,q4⟩:=lensN_iff.1 hl
 rw [atNode_at (by omega) (by omega) (by omega) (by omega)]
 refine enter Tryz.func78 rfl Tryz.ntmps78 fun w0=>?_
 refine openNet ?_
 rintro a1 c1 F1 a2 c2 F2 a3 c3 F3 a4 c4 F4 a5 c5 F5 a6 c6 F6 a7 c7 F7 rfl l1 l2 l3 l4 l5 l6 l7
 unfold maxLen at l1 l2 l3 l4 l5 l6 l7
 refine closeTree n.tree ?_
 refine atElement (xs:=n.elements) i ?_
 rintro hi4 b4 o4 a8 c8 F8 rfl l8
 refine closeElement n.elements[i] ?_
 refine atReceiver (xs:=n.receivers) i ?_
 rintro hi5 b5 o5 a9 c9 F9 a10 c10 F10 rfl l9 l10
 refine closeReceiver n.receivers[i] ?_
 refine at_ESl (E:=EPacket) (hz:=by decide) (xs:=n.down) i ?_
 rintro hi6 b6 o6 a11 c11 F11 rfl l11
 refine at_ESl (E:=EPacket) (hz:=by decide) (xs:=n.up) i ?_
 rintro hi7 b7 o7 a12 c12 F12 rfl l12
 unfold maxLen at l8 l9 l10 l11 l12
 refine go ?_;intros
 refine c_joinS [1,2,4] [0,1,2,3,4,5,6,7,8,9,10,11,12,13,14,15,16,17,18,19,20] (fun z:Nat × Nat=>[(5,ptr z.1 0 0),(6,ptr z.2 0 0)]) (fun z=>[.row z.1 142 0 [] [.int .i64 n.elements[i].clock,.slice a8 n.elements[i].entries.length c8] [],.row z.2 149 0 [] [.bool n.receivers[i].started,.int .i64 n.receivers[i].clock,.int .i64 n.receivers[i].window.next,.slice a9 n.receivers[i].window.slots.length c9,.slice a10 n.receivers[i].requests.length c10] []]) (fun _=>True) ?_ fun z _=>?_
 ·refine d_start [0,6,10] [] ?_
  refine dt4 0 1 2 3 ?_
  refine dt4 4 5 6 7 ?_
  refine dt2 8 9 ?_
  refine dM 10 11 ?_ ?_
  ·apply o_alloc;rfl;intro _
   refine dk ?_
   refine dN 11 ?_
   apply o_alloc;rfl;intro _
   refine dk ?_
   refine dN 12 ?_
   refine oS ?_
   refine dk ?_
   refine dN 13 ?_
   refine oS ?_
   refine dk ?_
   refine dd ?_
   refine n_join ((_,_):Nat × Nat) trivial
  ·apply o_alloc;rfl;intro _
   refine dk ?_
   refine dN 10 ?_
   apply o_alloc;rfl;intro _
   refine dk ?_
   refine dN 12 ?_
   refine oS ?_
   refine dk ?_
   refine dN 13 ?_
   refine oS ?_
   refine dk ?_
   refine dd ?_
   refine n_join ((_,_):Nat × Nat) trivial
 refine go ?_;intros
 refine cb (fun w st=>l14Good_c _ n.elements[i] F8 w (st.get (p:=.isv EElement (.agg #[.int .i64 n.elements[i].clock,.slice a8 n.elements[i].entries.length c8]) n.elements[i] F8) (by exact memE))) ?_
 cases g1:goodElement n.elements[i]
 ·rw [rs_no (by rw [g1];rfl)]
  refine go ?_;intros
  refine ret () trivial rfl
 refine go ?_;intros
 refine cf (l13Good_f n.receivers[i] _ (F9++F10)) fun _ _=>?_
 refine t_app ?_
 cases g2:goodRec n.receivers[i]
 ·rw [rs_no (by rw [g1,g2];rfl)]
  refine go ?_;intros
  refine ret () trivial rfl
 refine go ?_;intros
 refine cf (l15Queue_f n.down[i] false _ _ F11 (by omega)) fun _ _=>?_
 refine t_app ?_
 rw [show (goodQ n.down[i] && (!false || upQ n.down[i]))=goodQ n.down[i] by simp]
 cases g3:goodQ n.down[i]
 ·rw [rs_no (by rw [g1,g2,g3];rfl)]
  refine go ?_;intros
  refine ret () trivial rfl
 refine go ?_;intros
 refine cf (l15Queue_f n.up[i] true _ _ F12 (by omega)) fun _ _=>?_
 refine t_app ?_
 rw [show (goodQ n.up[i] && (!true || upQ n.up[i]))=(goodQ n.up[i] && upQ n.up[i]) by simp]
 cases g4:(goodQ n.up[i] && upQ n.up[i])
 ·rw [rs_no (by rw [g1,g2,g3,g4];rfl)]
  refine go ?_;intros
  refine ret () trivial rfl
 rw [rs_yes (by rw [g1,g2,g3,g4];rfl)]
 repeat (first|apply c_seq|(apply wO;apply oc;rfl;exact ydE)|apply w_nil|apply n_cd|(apply wg_t;rfl;rfl)|(apply wg_f;rfl;rfl;rfl;rfl)|(apply wg_u;rfl;rfl;rfl)|(apply c_t;rfl)|(apply c_f;rfl)|apply c_skip|apply c_block|apply n_blk)
 refine c_joinS [1,2,4,5,6] [0,1,2,3,4,5,6,7,8,9,10,11,12,13,14,15,16,17,18,19,20,21,22] (fun _:Unit=>[(7,.bool (zElem n.elements[i]))]) (fun _=>[]) (fun _=>True) ?_ fun _ _=>?_
 ·refine go ?_;intros
  refine wg_if rfl rfl (fun h1=>?_) (fun h1=>?_)
  ·refine go ?_;intros
   rw [show decide ((n.elements[i].entries.length:Int)=0)=zElem n.elements[i] by unfold zElem;rw [decide_eq_true h1,len_z];rfl]
   refine n_join () trivial
  ·refine go ?_;intros
   rw [show false=zElem n.elements[i] by unfold zElem;rw [decide_eq_false h1];rfl]
   refine n_join () trivial
 repeat (first|apply c_seq|(apply wO;apply oc;rfl;exact ydE)|apply w_nil|apply n_cd|(apply wg_t;rfl;rfl)|(apply wg_f;rfl;rfl;rfl;rfl)|(apply wg_u;rfl;rfl;rfl)|(apply c_t;rfl)|(apply c_f;rfl)|apply c_skip|apply c_block|apply n_blk)
 refine c_joinS [1,2,4,5,6,7] [0,1,2,3,4,5,6,7,8,9,10,11,12,13,14,15,16,17,18,19,20,21,22] (fun _:Unit=>[(8,.bool (!n.receivers[i].started && decide (n.receivers[i].clock=0)))]) (fun _=>[]) (fun _=>True) ?_ fun _ _=>?_
 ·cases hs:n.receivers[i].started
  ·refine go ?_;intros
   refine n_join () trivial
  ·refine go ?_;intros
   refine n_join () trivial
 refine t_app ?_
 generalize hzr:(!n.receivers[i].started && decide (n.receivers[i].clock=0))=zr
 refine go ?_;intros
 refine c_if rfl (fun h0=>?_) (fun h0=>?_)
 ·obtain rfl:i=0:=by omega
  rw [if_pos rfl]
  have hd6:(n.down[0].length:Int)+(n.up[0].length:Int)≤12:=by
   unfold goodQ at g3 g4
   simp only [Bool.and_eq_true,decide_eq_true_eq] at g3 g4
   omega
  cases hze:zElem n.elements[0] <;> cases zr
  ·refine go ?_;intros
   refine d_start [2,3,5] [] ?_
   refine dt2 0 1 ?_
   refine ds 2 ?_
   refine dt2 3 4 ?_
   refine ds 5 ?_
   refine ds 6 ?_
   refine ds 7 ?_
   refine ds 8 ?_
   refine ds 9 ?_
   refine ds 10 ?_
   refine ds 11 ?_
   refine ds 12 ?_
   refine ds 13 ?_
   refine ds 14 ?_
   refine ds 15 ?_
   refine ds 16 ?_
   refine dt2 17 18 ?_
   refine dd ?_
   refine go ?_;intros
   refine ret () trivial rfl
  ·refine go ?_;intros
   refine d_start [2,3,5] [] ?_
   refine dt2 0 1 ?_
   refine ds 2 ?_
   refine dt2 3 4 ?_
   refine ds 5 ?_
   refine ds 6 ?_
   refine ds 7 ?_
   refine ds 8 ?_
   refine ds 9 ?_
   refine ds 10 ?_
   refine ds 11 ?_
   refine ds 12 ?_
   refine ds 13 ?_
   refine ds 14 ?_
   refine ds 15 ?_
   refine ds 16 ?_
   refine dt2 17 18 ?_
   refine dd ?_
   refine go ?_;intros
   refine ret () trivial rfl
  ·refine go ?_;intros
   refine d_start [2,3,5] [] ?_
   refine dt2 0 1 ?_
   refine dtg 2 ?_
   refine dt2 3 4 ?_
   refine ds 5 ?_
   refine ds 6 ?_
   refine ds 7 ?_
   refine ds 8 ?_
   refine ds 9 ?_
   refine ds 10 ?_
   refine ds 11 ?_
   refine ds 12 ?_
   refine ds 13 ?_
   refine ds 14 ?_
   refine ds 15 ?_
   refine ds 16 ?_
   refine dt2 17 18 ?_
   refine dd ?_
   refine go ?_;intros
   refine ret () trivial rfl
  ·refine go ?_;intros
   refine d_start [2,3,5] [] ?_
   refine dt2 0 1 ?_
   refine dtg 2 ?_
   refine dt2 3 4 ?_
   refine dtg 5 ?_
   refine dtg 6 ?_
   refine dtg 7 ?_
   refine dtg 8 ?_
   refine dtg 9 ?_
   refine dtg 10 ?_
   refine dtg 11 ?_
   refine dtg 12 ?_
   refine dtg 13 ?_
   refine dtg 14 ?_
   refine dtg 15 ?_
   refine dtg 16 ?_
   refine dt2 17 18 ?_
   refine dd ?_
   refine go ?_;intros
   refine ret () trivial ?_
   rw [show decide ((n.down[0].length:Int)+(n.up[0].length:Int)=0)=decide (n.down[0].length+n.up[0].length=0) by congr 1;rw [eq_iff_iff];omega];rfl
 rw [if_neg (by omega)]
 refine go ?_;intros
 refine cf (l15Leaf_f n.tree i _ F1 hg (by omega)) fun _ _=>?_
 refine t_app ?_
 cases g6:leafT n.tree.parent i
 ·rw [if_neg (by decide)]
  cases zr
  ·refine go ?_;intros
   refine ret () trivial rfl
  ·refine go ?_;intros
   refine ret () trivial rfl
 ·rw [if_pos rfl]
  cases hze:zElem n.elements[i]
  ·refine go ?_;intros
   refine ret () trivial rfl
  ·refine go ?_;intros
   refine ret () trivial rfl
theorem l15Good_f (n:Net) (v:Value) (F:List Nat):Fn Tryz.prog 34 [v] [.isv ENet v n F] [] (fun (_:Unit)=>True) (fun _=>.bool (goodNet n)) (fun _=>[]):=by
 refine enter Tryz.func34 rfl Tryz.ntmps34 fun w0=>?_
 refine openNet ?_
 rintro a1 c1 F1 a2 c2 F2 a3 c3 F3 a4 c4 F4 a5 c5 F5 a6 c6 F6 a7 c7 F7 rfl l1 l2 l3 l4 l5 l6 l7
 unfold maxLen at l1 l2 l3 l4 l5 l6 l7
 refine closeTree n.tree ?_
 refine closeSource n.source ?_
 refine go ?_;intros
 refine cf (l6Good_f n.tree _ F1) fun _ _=>?_
 refine t_app ?_
 cases g1:goodTree n.tree
 ·rw [show goodNet n=false by unfold goodNet;rw [g1];rfl]
  refine go ?_;intros
  refine ret () trivial rfl
 refine go ?_;intros
 refine cf (l11Good_f n.source _ (F2++F3)) fun _ _=>?_
 refine t_app ?_
 cases g2:goodSrc n.source
 ·rw [show goodNet n=false by unfold goodNet;rw [g1,g2];rfl]
  refine go ?_;intros
  refine ret () trivial rfl
 refine go ?_;intros
 refine wg_if rfl rfl (fun m0=>?_) (fun m0=>?_)
 ·rw [show goodNet n=false by
   have:lensN n=false:=by
    cases hl:lensN n
    ·rfl
    ·obtain ⟨q1,q2,q3,q4⟩:=lensN_iff.1 hl;exact absurd (by omega) m0
   unfold goodNet;rw [this];simp]
  refine go ?_;intros
  refine ret () trivial rfl
 refine go ?_;intros
 refine wg_if rfl rfl (fun m1=>?_) (fun m1=>?_)
 ·rw [show goodNet n=false by
   have:lensN n=false:=by
    cases hl:lensN n
    ·rfl
    ·obtain ⟨q1,q2,q3,q4⟩:=lensN_iff.1 hl;exact absurd (by omega) m1
   unfold goodNet;rw [this];simp]
  refine go ?_;intros
  refine ret () trivial rfl
 refine go ?_;intros
 refine wg_if rfl rfl (fun m2=>?_) (fun m2=>?_)
 ·rw [show goodNet n=false by
   have:lensN n=false:=by
    cases hl:lensN n
    ·rfl
    ·obtain ⟨q1,q2,q3,q4⟩:=lensN_iff.1 hl;exact absurd (by omega) m2
   unfold goodNet;rw [this];simp]
  refine go ?_;intros
  refine ret () trivial rfl
 refine go ?_;intros
 refine c_if rfl (fun m3=>?_) (fun m3=>?_)
 ·rw [show goodNet n=false by
   have:lensN n=false:=by
    cases hl:lensN n
    ·rfl
    ·obtain ⟨q1,q2,q3,q4⟩:=lensN_iff.1 hl;exact absurd (by omega) m3
   unfold goodNet;rw [this];simp]
  refine go ?_;intros
  refine ret () trivial rfl
 have q1:n.elements.length=n.tree.parent.length:=by omega
 have q2:n.receivers.length=n.tree.parent.length:=by omega
 have q3:n.down.length=n.tree.parent.length:=by omega
 have q4:n.up.length=n.tree.parent.length:=by omega
 have hl:=lensN_iff.2 ⟨q1,q2,q3,q4⟩
 refine go ?_;intros
 refine c_loopR [1,2,3] (fun k:Nat=>[(4,.int .i64 (k:Nat))]) (fun k=>k≤n.tree.parent.length∧∀j,j < k→atNode n j=true) (fun k=>n.tree.parent.length - k) 0 ⟨Nat.zero_le _,fun j h=>by omega⟩ fun k hk=>?_
 obtain ⟨hk1,hk2⟩:=hk
 refine go ?_;intros
 refine c_if rfl (fun h1=>?_) (fun h1=>?_)
 ·have hh:k < n.tree.parent.length:=by omega
  refine go ?_;intros
  refine cf (l15At_f n k _ F hl hh (goodT g1)) fun _ _=>?_
  refine t_app ?_
  cases g:atNode n k
  ·rw [goodNet_at hh g]
   refine go ?_;intros
   refine ret () trivial rfl
  refine go ?_;intros
  refine n_lp (k+1) ⟨hh,fun j hj=>?_⟩ (by show n.tree.parent.length - (k+1) < n.tree.parent.length - k;omega)
  rcases Nat.lt_or_eq_of_le (Nat.lt_succ_iff.1 hj) with h|rfl
  ·exact hk2 j h
  ·exact g
 ·obtain rfl:k=n.tree.parent.length:=by omega
  refine go ?_;intros
  refine ret () trivial ?_
  rw [goodNet_iff.2 ⟨g1,g2,hl,hk2⟩];rfl
structure StZ where
 cs:List Value
 F:List Nat
 a:Option Addr
 c:Nat
 Fe:List Nat
theorem cnt_at {α:Type} (f:α→Nat) (B M:Nat) {xs:List α} (h:∀x∈xs,f x≤B) (hl:xs.length≤M):cntL f xs≤M * B:=Nat.le_trans (cntL_bd f B xs h) (Nat.mul_le_mul_right _ hl)
theorem goodNet_cv {n:Net} (h:goodNet n=true):cvNet n≤100000:=by
 have hG:=goodNet_GN.1 h
 have h8:=(goodT hG.t).n1
 obtain ⟨q1,q2,q3,q4⟩:=lensN_iff.1 hG.l
 have hS:=goodS_of hG.s
 obtain ⟨e1,e2,e3,e4⟩:=good_els h
 have a1:cntL cntI n.tree.parent≤8 * 1:=cnt_at cntI 1 8 (fun x _=>by simp [cntI]) h8
 have a2:cntL cntS n.source.window.items≤6 * 1:=cnt_at cntS 1 6 (fun x _=>by simp [cntS]) hS.l
 have a3:cntL cntHold n.source.holds≤6 * 2:=cnt_at cntHold 2 6 (fun x _=>by simp [cntHold,cntI]) hS.m
 have a4:cntL cntElement n.elements≤8 * 100:=cnt_at cntElement 100 8 (fun x hx=>by
  have b1:=(goodE_iff.1 (e1 x hx)).2.1
  have b2:cntL cntEntry x.entries≤5 * 10:=cnt_at cntEntry 10 5 (fun y hy=>by
   have b3:=(good_room (e1 x hx)).2.2 y hy
   have b4:cntL cntI y.faces≤7 * 1:=cnt_at cntI 1 7 (fun z _=>by simp [cntI]) (by omega)
   unfold cntEntry
   simp only [cntI];omega) b1
  unfold cntElement
  simp only [cntI];omega) (by omega)
 have a5:cntL cntReceiver n.receivers≤8 * 100:=cnt_at cntReceiver 100 8 (fun x hx=>by
  have g:=goodR_iff.1 (e2 x hx)
  have b1:cntL cntSlot x.window.slots≤8 * 2:=cnt_at cntSlot 2 8 (fun y _=>by simp [cntSlot,cntB,cntS]) (good_items g.w).1
  have b2:cntL cntRequest x.requests≤8 * 4:=cnt_at cntRequest 4 8 (fun y _=>by simp [cntRequest,cntI]) (areQ_iff.1 g.q).2.1
  unfold cntReceiver
  simp only [cntI,cntB];omega) (by omega)
 have hq:∀l:List (List Packet),(∀q∈l,goodQ q=true)→l.length≤8→cntL (cntL cntPacket) l≤8 * 30:=fun l hl h=>cnt_at (cntL cntPacket) 30 8 (fun q hq=>cnt_at cntPacket 5 6 (fun p _=>by simp [cntPacket,cntI,cntS]) (goodQ_len (hl q hq)).1) h
 have a6:=hq n.down e3 (by omega)
 have a7:=hq n.up e4 (by omega)
 unfold cvNet cvTree cvSource cvSendWindow
 omega
theorem tick_few {n:Net} (hg:goodNet n=true) (hc:n.source.clock < 9999):∀k,k+1≤n.tree.parent.length→(tickTo n k).2.length≤40000 * k
 | 0,_=>Nat.le_refl _
 | k+1,hk=>by
  have h:=tick_few hg hc k (by omega)
  obtain ⟨hGN,hT,hSrc⟩:=tickTo_good hg hc k (by omega)
  obtain ⟨i1,i2,i3,i4,hrn⟩:=hGN.rn (i:=k+1) (by rw [hT];omega)
  show ((tickTo n k).2++(tick1 (tickTo n k).1 (k+1)).2).length≤_
  rw [List.length_append]
  have:(tick1 (tickTo n k).1 (k+1)).2.length≤40000:=by
   unfold tick1
   split
   ·rename_i hl
    have hgr:=goodR_iff.1 (hrn.hf (by omega) hl).2.1
    obtain ⟨-,hfew⟩:=tickEv_sm hgr
    rw [rcAt_get i2]
    show ((tickEv _).map _).length≤_
    rw [List.length_map];omega
   ·exact Nat.zero_le _
  omega
theorem step_few {n:Net} {s:Step} {r:Net × List ByteArray} (hg:goodNet n=true) (hs:okStep s=true) (hr:stepN n s=some r):r.2.length≤400000:=by
 have hG:=goodNet_GN.1 hg
 have h8:=goodT hG.t
 have hn8:=h8.n1
 have hn2:=h8.n0
 have hck:=src_clkN hG.s
 have hr0:=hr
 unfold stepN at hr
 split at hr
 ·cases hr;exact Nat.zero_le _
 split at hr
 ·split at hr
  ·cases hr
  ·cases hr
   have:=tick_few hg (by omega) (n.tree.parent.length - 1) (by omega)
   show (tickTo n (n.tree.parent.length - 1)).2.length≤_
   omega
 unfold takenN at hr
 split at hr
 ·cases hr
 split at hr
 ·cases hr
 split at hr
 ·rename_i h1 h4 hlt h0 hk
  cases hr
  have hgp:=popped_good (s:=s) hg
  have hGp:=goodNet_GN.1 hgp
  have hf:isFac s.node=true:=by
   have:=hs
   unfold okStep at this
   rw [if_neg h1,if_neg h4] at this
   simp only [Bool.and_eq_true] at this
   exact this.1.2
  obtain ⟨f1,f2⟩:=isFac_iff.1 hf
  have hpt:(poppedN n s).tree=n.tree:=by unfold poppedN;split <;> rfl
  obtain ⟨i1,i2,i3,i4,hrn⟩:=hGp.rn (i:=s.node.toNat) (by rw [hpt];omega)
  unfold delivN
  split
  ·rename_i hl
   have hgr:=goodR_iff.1 (hrn.hf (by omega) hl).2.1
   obtain ⟨d0,d1⟩:=dly_bd (i:=s.node.toNat)
   have hp:goodPk (popP (queN n s))=true:=goodQ_mem (que_good (s:=s) hg).1 (popP_mem (by omega))
   have:=(hear_good hgr hp d0 d1).2
   rw [rcAt_get i2]
   show ((hearE _ _).map _).length≤_
   rw [List.length_map];omega
  ·exact Nat.zero_le _
 split at hr
 ·cases hr;exact Nat.zero_le _
 ·cases hr;exact Nat.zero_le _
abbrev NE:=Net × List ByteArray
def vd (i:Nat):Nat:=8 ^ (7 - i)
def vu (i:Nat):Nat:=524289 * i
def wN (n:Net):Nat:=wsum vd 0 n.down+wsum vu 0 n.up
structure Fall (x y:NE):Prop where
 g:goodNet y.1=true
 t:y.1.tree=x.1.tree
 c:y.1.source.clock=x.1.source.clock
 e:y.2.length+24 * wN y.1≤x.2.length+24 * wN x.1
 w:wN y.1≤wN x.1
theorem Fall.refl {x:NE} (h:goodNet x.1=true):Fall x x:=⟨h,rfl,rfl,Nat.le_refl _,Nat.le_refl _⟩
theorem Fall.trans {x y z:NE} (h:Fall x y) (k:Fall y z):Fall x z:=⟨k.g,k.t.trans h.t,k.c.trans h.c,Nat.le_trans k.e h.e,Nat.le_trans k.w h.w⟩
def runL:NE→List Step→Nat→NE × Nat
 | x,[],i=>(x,i)
 | x,s::r,i=>match stepN x.1 s with
  | none=>(x,i)
  | some y=>runL (y.1,x.2++y.2) r (i+1)
def okRun (n:Net) (l:List Step):Bool:=goodNet n && decide (l.length≤30) && l.all okStep
def resRunNet (n:Net) (l:List Step):Net × List ByteArray × Int × Bool:=if okRun n l then ((runL (n,[]) l 0).1.1,(runL (n,[]) l 0).1.2,((runL (n,[]) l 0).2:Int),true) else (zNet,[],0,false)
theorem run_good:∀(l:List Step) {x:NE} {i:Nat},goodNet x.1=true→(∀s∈l,okStep s=true)→goodNet (runL x l i).1.1=true∧(runL x l i).1.1.tree=x.1.tree∧(runL x l i).1.2.length≤x.2.length+400000 * l.length∧i≤(runL x l i).2∧(runL x l i).2≤i+l.length
 | [],x,i,hg,_=>⟨hg,rfl,Nat.le_refl _,Nat.le_refl _,Nat.le_refl _⟩
 | s::r,x,i,hg,hs=>by
  have h0:=hs s (by simp)
  unfold runL
  cases e:stepN x.1 s with
  | none=>exact ⟨hg,rfl,by show x.2.length≤_;omega,by show i≤i;omega,by show i≤_;omega⟩
  | some y =>
   have hy:goodNet y.1=true:=step_good hg h0 e
   obtain ⟨a,b,c,d,f⟩:=run_good r (x:=(y.1,x.2++y.2)) (i:=i+1) hy fun t ht=>hs t (by simp [ht])
   have h1:=step_few hg h0 e
   have h2:=step_tree e
   simp only [List.length_append] at c
   exact ⟨a,b.trans h2,by show (runL (y.1,x.2++y.2) r (i+1)).1.2.length≤_;simp only [List.length_cons];omega,by show i≤(runL (y.1,x.2++y.2) r (i+1)).2;omega,by show (runL (y.1,x.2++y.2) r (i+1)).2≤_;simp only [List.length_cons];omega⟩
theorem few_cv {l:List ByteArray} {M:Nat} (h:l.length≤M):cntL cntS l≤M:=by
 have:=cnt_at cntS 1 M (xs:=l) (fun p _=>by simp [cntS]) h
 omega
theorem zNet_cv:cvNet zNet≤4294967296:=by decide
theorem resRunNet_cv (x0:Net) (x1:List Step) (_h0:wtNet x0≤1048576) (_h1:wtL wtStep x1≤1048576):cvNet ((resRunNet x0 x1).1)≤4294967296∧cntL cntS ((resRunNet x0 x1).2.1)≤4294967296:=by
 unfold resRunNet
 split
 ·rename_i h
  unfold okRun at h
  simp only [Bool.and_eq_true,decide_eq_true_eq] at h
  obtain ⟨a, -,b, -, -⟩:=run_good x1 (x:=(x0,[])) (i:=0) h.1.1 fun s hs=>List.all_eq_true.1 h.2 s hs
  have:=goodNet_cv a
  simp only [List.length_nil] at b
  exact ⟨by show cvNet (runL (x0,[]) x1 0).1.1≤_;omega,few_cv (by show (runL (x0,[]) x1 0).1.2.length≤_;omega)⟩
 ·exact ⟨zNet_cv,by decide⟩
structure DrS where
 x:NE
 z:NV
 a:Option Addr
 c:Nat
 F:List Nat
structure DrK where
 k:Nat
 z:NV
 a:Option Addr
 c:Nat
 F:List Nat
theorem step_lens {n:Net} {s:Step} (hg:goodNet n=true) (hs:okStep s=true):n.tree.parent.length=(outN n (stepN n s)).tree.parent.length∧n.elements.length=(outN n (stepN n s)).elements.length∧n.receivers.length=(outN n (stepN n s)).receivers.length∧n.down.length=(outN n (stepN n s)).down.length∧n.up.length=(outN n (stepN n s)).up.length:=by
 cases e:stepN n s with
 | none=>exact ⟨rfl,rfl,rfl,rfl,rfl⟩
 | some r=>exact lens_of hg (step_good hg hs e) (step_tree e)
theorem step_g (n:Net) (s:Step) (g:Nat) (a1:Option Addr) (c1:Nat) (F1:List Nat) (a2:Option Addr) (c2:Nat) (F2:List Nat) (a3:Option Addr) (c3:Nat) (F3:List Nat) (a4:Option Addr) (c4:Nat) (F4:List Nat) (a5:Option Addr) (c5:Nat) (F5:List Nat) (a6:Option Addr) (c6:Nat) (F6:List Nat) (a7:Option Addr) (c7:Nat) (F7:List Nat) (FT:List Nat) (hg:goodNet n=true) (hs:okStep s=true) (hss:s.data.size≤maxLen) :
  Fn Tryz.prog 45 [ptr g 0 0,.agg #[.int .i64 (s).kind,.int .i64 (s).node,.string (s).data]] [EnvP FT] [.row g 49 0 [] [.slice a1 n.tree.parent.length c1,.int .i64 n.source.window.trail,.int .i64 n.source.window.size,.slice a2 n.source.window.items.length c2,.int .i64 n.source.clock,.int .i64 n.source.quiet,.slice a3 n.source.holds.length c3,.slice a4 n.elements.length c4,.slice a5 n.receivers.length c5,.slice a6 n.down.length c6,.slice a7 n.up.length c7] [],.ow EInt 3 (.slice a1 n.tree.parent.length c1) n.tree.parent F1,.ow EStr 9 (.slice a2 n.source.window.items.length c2) n.source.window.items F2,.ow EHold 194 (.slice a3 n.source.holds.length c3) n.source.holds F3,.ow OElement 142 (.slice a4 n.elements.length c4) n.elements F4,.ow OReceiver 149 (.slice a5 n.receivers.length c5) n.receivers F5,.ow (OSl EPacket 127) 132 (.slice a6 n.down.length c6) n.down F6,.ow (OSl EPacket 127) 132 (.slice a7 n.up.length c7) n.up F7] (fun (_:NV × KA)=>True) (fun z=>.tuple #[.slice z.2.a (outE (stepN n s)).length z.2.c,.bool (stepN n s).isSome]) (fun z=>[.row g 49 0 [] [.slice z.1.a1 (outN n (stepN n s)).tree.parent.length z.1.c1,.int .i64 (outN n (stepN n s)).source.window.trail,.int .i64 (outN n (stepN n s)).source.window.size,.slice z.1.a2 (outN n (stepN n s)).source.window.items.length z.1.c2,.int .i64 (outN n (stepN n s)).source.clock,.int .i64 (outN n (stepN n s)).source.quiet,.slice z.1.a3 (outN n (stepN n s)).source.holds.length z.1.c3,.slice z.1.a4 (outN n (stepN n s)).elements.length z.1.c4,.slice z.1.a5 (outN n (stepN n s)).receivers.length z.1.c5,.slice z.1.a6 (outN n (stepN n s)).down.length z.1.c6,.slice z.1.a7 (outN n (stepN n s)).up.length z.1.c7] [],.ow EInt 3 (.slice z.1.a1 (outN n (stepN n s)).tree.parent.length z.1.c1) (outN n (stepN n s)).tree.parent z.1.F1,.ow EStr 9 (.slice z.1.a2 (outN n (stepN n s)).source.window.items.length z.1.c2) (outN n (stepN n s)).source.window.items z.1.F2,.ow EHold 194 (.slice z.1.a3 (outN n (stepN n s)).source.holds.length z.1.c3) (outN n (stepN n s)).source.holds z.1.F3,.ow OElement 142 (.slice z.1.a4 (outN n (stepN n s)).elements.length z.1.c4) (outN n (stepN n s)).elements z.1.F4,.ow OReceiver 149 (.slice z.1.a5 (outN n (stepN n s)).receivers.length z.1.c5) (outN n (stepN n s)).receivers z.1.F5,.ow (OSl EPacket 127) 132 (.slice z.1.a6 (outN n (stepN n s)).down.length z.1.c6) (outN n (stepN n s)).down z.1.F6,.ow (OSl EPacket 127) 132 (.slice z.1.a7 (outN n (stepN n s)).up.length z.1.c7) (outN n (stepN n s)).up z.1.F7,.ow EStr 9 (.slice z.2.a (outE (stepN n s)).length z.2.c) (outE (stepN n s)) z.2.F]):=by
 obtain ⟨k1,k2,k3,k4,k5⟩:=step_lens hg hs
 have h:=step_f n s g a1 c1 F1 a2 c2 F2 a3 c3 F3 a4 c4 F4 a5 c5 F5 a6 c6 F6 a7 c7 F7 FT hg hs hss
 rw [←k1,←k2,←k3,←k4,←k5]
 exact h
end Go.Proofs.YtgmbfohkpfineaaGreatDoor
namespace Go.Proofs.YtgmbfohkpfineaaGreatDoor
open Go.RowKit
open Go.RowKit
theorem flat_atS {α:Type} {E:Elem α} {w:World}:∀{ys:List (List Value)} {xs:List α} {G:List Nat},Flat E w ys.flatten xs G→(∀y∈ys,y.length=E.sz)→∀i (h1:i < ys.length) (h2:i < xs.length),∃Gi,E.rep w ys[i] xs[i] Gi∧∀b∈Gi,b∈G
 | [],_,_,_,_,i,h1,_=>by simp at h1
 | y::r,[],_,_,_,i,_,h2=>by simp at h2
 | y::r,x::s,G,h,hm,i,h1,h2=>by
  obtain ⟨c1,c2,F1,F2,e,rfl,hr,hs⟩:=h
  rw [List.flatten_cons] at e
  obtain ⟨e1,e2⟩:=List.append_inj e (by rw [hm y (by simp),E.len hr])
  subst e1 e2
  cases i with
  | zero=>exact ⟨F1,hr,fun b hb=>by simp [hb]⟩
  | succ j =>
   obtain ⟨Gi,g1,g2⟩:=flat_atS hs (fun z hz=>hm z (by simp [hz])) j (by simpa using h1) (by simpa using h2)
   exact ⟨Gi,g1,fun b hb=>by simp [g2 b hb]⟩
theorem flat_setS {α:Type} {E:Elem α} {w:World} {cs:List Value} {x:α} {G2:List Nat} (hx:E.rep w cs x G2):∀{ys:List (List Value)} {xs:List α} {G:List Nat},Flat E w ys.flatten xs G→(∀y∈ys,y.length=E.sz)→ys.length=xs.length→∀i,∃G',Flat E w (ys.set i cs).flatten (xs.set i x) G'∧∀b∈G',b∈G∨b∈G2
 | [],[],G,h,_,_,i=>⟨G,h,fun b hb=>.inl hb⟩
 | [],y::r,_,_,_,hl,_=>by simp at hl
 | y::r,[],_,_,_,hl,_=>by simp at hl
 | y::r,x1::s,G,h,hm,hl,i=>by
  obtain ⟨c1,c2,F1,F2,e,rfl,hr,hs⟩:=h
  rw [List.flatten_cons] at e
  obtain ⟨e1,e2⟩:=List.append_inj e (by rw [hm y (by simp),E.len hr])
  subst e1 e2
  cases i with
  | zero=>exact ⟨G2++F2,⟨cs,r.flatten,G2,F2,by simp,rfl,hx,hs⟩,fun b hb=>by rcases List.mem_append.1 hb with hb|hb;exact .inr hb;exact .inl (by simp [hb])⟩
  | succ j =>
   obtain ⟨G',g1,g2⟩:=flat_setS hx hs (fun z hz=>hm z (by simp [hz])) (by simpa using hl) j
   refine ⟨F1++G',⟨y,(r.set j cs).flatten,F1,G',by simp,rfl,hr,g1⟩,fun b hb=>?_⟩
   rcases List.mem_append.1 hb with hb|hb
   ·exact .inl (by simp [hb])
   ·rcases g2 b hb with h|h
    ·exact .inl (by simp [h])
    ·exact .inr h
section
variable {c:Cx} {fr:Fr} {H:List Pc} {Φ:Gl}
theorem sh_len {m:Nat} {t:TypeId} {a:Option Addr} {n cp:Nat} {ys:List (List Value)} {F:List Nat} (h:(∀y∈ys,y.length=m)→ys.length=n→T c fr H Φ) (hp:.ow (EC m) t (.slice a n cp) ys F∈H:=by (repeat (first|exact .head _|apply List.Mem.tail));first|done|fail):T c fr H Φ:=.mk fun ac w s g=>by
 obtain ⟨hnd,ho⟩:=s.get hp
 have key:(∀y∈ys,y.length=m)∧ys.length=n:=by
  rcases ho with ⟨e,rfl, -⟩|⟨b,cap,cs,rest,G,e,h2,h3,h4,h5,h6, -⟩
  ·cases e;exact ⟨by simp,rfl⟩
  ·cases e;exact ⟨(ec_flat h6).2.2,rfl⟩
 exact (h key.1 key.2).h ac w s g
theorem sh_num {α:Type} {E:Elem α} {k:Nat} {v:Value} {xs:List α} {G:List Nat} (h:xs.length=k→T c fr H Φ) (hp:.isv (EA E k) v xs G∈H:=by (repeat (first|exact .head _|apply List.Mem.tail));first|done|fail):T c fr H Φ:=.mk fun ac w s g=>by
 obtain ⟨cs,e,hl,hf⟩:=s.get hp
 exact (h hl).h ac w s g
theorem sh_at {α:Type} {E:Elem α} {k:Nat} {ys:List (List Value)} {xs:List α} {G:List Nat} (i:Nat) (hm:∀y∈ys,y.length=E.sz) (hl:ys.length=xs.length) (h1:i < ys.length) (h:∀(h1:i < ys.length) (h2:i < xs.length) Gi,T c fr (.isv E (.agg ys[i].toArray) xs[i] Gi::H) Φ) (hp:.isv (EA E k) (.agg ys.flatten.toArray) xs G∈H:=by (repeat (first|exact .head _|apply List.Mem.tail));first|done|fail):T c fr H Φ:=.mk fun ac w s g=>by
 obtain ⟨cs,e, -,hf⟩:=s.get hp
 obtain rfl:ys.flatten=cs:=by simpa using e
 obtain ⟨Gi,g1,g2⟩:=flat_atS hf hm i h1 (by omega)
 exact (h h1 (by omega) Gi).h ac w (s.ro hp rfl rfl ⟨_,rfl,g1⟩ g2) g
theorem sh_atv {α:Type} {E:Elem α} {k:Nat} {ys:List (List Value)} {xs:List α} {G:List Nat} (i:Nat) (hm:∀y∈ys,y.length=E.sz) (hl:ys.length=xs.length) (h1:i < ys.length) (h:∀(h1:i < ys.length) (h2:i < xs.length) v Gi,v=.agg ys[i].toArray→T c fr (.isv E v xs[i] Gi::H) Φ) (hp:.isv (EA E k) (.agg ys.flatten.toArray) xs G∈H:=by (repeat (first|exact .head _|apply List.Mem.tail));first|done|fail):T c fr H Φ:=sh_at i hm hl h1 (fun h1 h2 Gi=>h h1 h2 _ Gi rfl) hp
theorem sh_set {α:Type} {E:Elem α} {k:Nat} {ys:List (List Value)} {xs:List α} {G G2:List Nat} {v:Value} {cs:List Value} {x:α} (i:Nat) (hv:v=.agg cs.toArray) (hm:∀y∈ys,y.length=E.sz) (hl:ys.length=xs.length) (h:∀G',T c fr (.isv (EA E k) (.agg (ys.set i cs).flatten.toArray) (xs.set i x) G'::H) Φ) (hp:.isv (EA E k) (.agg ys.flatten.toArray) xs G∈H:=by (repeat (first|exact .head _|apply List.Mem.tail));first|done|fail) (hp2:.isv E v x G2∈H:=by (repeat (first|exact .head _|apply List.Mem.tail));first|done|fail):T c fr H Φ:=.mk fun ac w s g=>by
 subst hv
 obtain ⟨c1,e,hk,hf⟩:=s.get hp
 obtain rfl:ys.flatten=c1:=by simpa using e
 obtain ⟨c2,e2,hx⟩:=s.get hp2
 obtain rfl:cs=c2:=by simpa using e2
 obtain ⟨G',g1,g2⟩:=flat_setS hx hf hm hl i
 refine (h G').h ac w (s.add (N:=[.isv (EA E k) (.agg (ys.set i cs).flatten.toArray) (xs.set i x) G']) (Below.refl _ _) (by intro p hq;rw [List.mem_singleton] at hq;subst hq;exact ⟨_,rfl,by simpa using hk,g1⟩) ⟨by simp,trivial⟩ ?_) g
 intro p hq z hb
 rw [List.mem_singleton] at hq;subst hq
 rcases g2 z hb with hb|hb
 ·exact .inr ⟨rfl,_,hp,rfl,hb⟩
 ·exact .inr ⟨rfl,_,hp2,rfl,hb⟩
theorem isv_sl {α:Type} {E:Elem α} {hz:0 < E.sz} {v:Value} {x:List α} {G:List Nat} (h:∀a1 c1,v=.agg #[.slice a1 x.length c1]→x.length≤maxLen→T c fr (.sl E (.slice a1 x.length c1) x G::H) Φ) (hp:.isv (ESl E hz) v x G∈H:=by (repeat (first|exact .head _|apply List.Mem.tail));first|done|fail):T c fr H Φ:=.mk fun ac w s g=>by
 obtain ⟨cs,rfl,v1,rfl,h1⟩:=s.get hp
 obtain ⟨a1,c1,rfl⟩:=h1.slice
 exact (h a1 c1 rfl h1.len).h ac w (s.ro hp rfl rfl ⟨hz,h1⟩ fun b hb=>hb) g
theorem sl_isv {α:Type} {E:Elem α} {v:Value} {x:List α} {G:List Nat} (hz:0 < E.sz) (h:T c fr (.isv (ESl E hz) (.agg #[v]) x G::H) Φ) (hp:.sl E v x G∈H:=by (repeat (first|exact .head _|apply List.Mem.tail));first|done|fail):T c fr H Φ:=.mk fun ac w s g=>by
 obtain ⟨-,h1⟩:=s.get hp
 exact h.h ac w (s.ro hp rfl rfl ⟨[v],rfl,v,rfl,h1⟩ fun b hb=>hb) g
end
end Go.Proofs.YtgmbfohkpfineaaGreatDoor
namespace Go.Proofs.YtgmbfohkpfineaaGreatDoor
open Go.RowKit
theorem l15Step_f (s:Step) (hss:s.data.size≤maxLen):Fn Tryz.prog 35 [.agg #[.int .i64 s.kind,.int .i64 s.node,.string s.data]] [] [] (fun (_:Unit)=>True) (fun _=>.bool (okStep s)) (fun _=>[]):=by
 refine enter Tryz.func35 rfl Tryz.ntmps35 fun w0=>?_
 refine go ?_;intros
 refine c_if rfl (fun h1=>?_) (fun h1=>?_)
 ·rw [show okStep s=(decide (s.node=0) && itm s.data) by unfold okStep;rw [if_pos h1]]
  refine go ?_;intros
  refine wg_if rfl rfl (fun h2=>?_) (fun h2=>?_)
  ·refine go ?_;intros
   refine ce (fun w st=>l4Letters_c s.data 8 _ hss) ?_
   refine go ?_;intros
   refine ret () trivial ?_
   rw [decide_eq_true h2];rfl
  ·refine go ?_;intros
   refine ret () trivial ?_
   rw [decide_eq_false h2];rfl
 refine go ?_;intros
 refine c_if rfl (fun h4=>?_) (fun h4=>?_)
 ·rw [show okStep s=(decide (s.node=0) && decide (s.data=⟨#[]⟩)) by unfold okStep;rw [if_neg h1,if_pos h4]]
  refine go ?_;intros
  refine wg_if rfl rfl (fun h2=>?_) (fun h2=>?_)
  ·refine go ?_;intros
   refine ret () trivial ?_
   rw [decide_eq_true h2];rfl
  ·refine go ?_;intros
   refine ret () trivial ?_
   rw [decide_eq_false h2];rfl
 rw [show okStep s=(btw 1 s.kind 6 && btw 1 s.node 7 && decide (s.data=⟨#[]⟩)) by unfold okStep;rw [if_neg h1,if_neg h4];rfl]
 refine go ?_;intros
 refine ce (fun w st=>l1In_c s.kind 1 6 _) ?_
 cases g1:btw 1 s.kind 6
 ·refine go ?_;intros
  refine ret () trivial ?_
  rfl
 refine go ?_;intros
 refine ce (fun w st=>l1In_c s.node 1 7 _) ?_
 cases g2:btw 1 s.node 7
 ·refine go ?_;intros
  refine ret () trivial ?_
  rfl
 refine go ?_;intros
 refine ret () trivial ?_
 rfl
theorem putQ_full {q ps:List Packet} {k:Nat} (h:6≤(putQ q (ps.take k)).length):putQ q (ps.take k)=putQ q ps:=by
 unfold putQ at *
 rw [List.length_append,List.length_take,List.length_take] at h
 rw [List.take_take]
 congr 1
 by_cases h6:6≤q.length
 ·rw [show min (6 - q.length) k=6 - q.length by omega]
 ·by_cases hk:6 - q.length≤k
  ·rw [show min (6 - q.length) k=6 - q.length by omega]
  ·rw [show min (6 - q.length) k=k by omega,List.take_of_length_le (by omega),List.take_of_length_le (by omega)]
theorem putQ_more {q ps:List Packet} {k:Nat} (hk:k < ps.length) (h:(putQ q (ps.take k)).length < 6):putQ q (ps.take (k+1))=putQ q (ps.take k)++[ps[k]]:=by
 rw [List.take_succ_eq_append_getElem hk,putQ_snoc]
 unfold pushQ;rw [if_pos h]
theorem l15Put_f (q ps:List Packet) (a:Option Addr) (c:Nat) (F:List Nat) (a2:Option Addr) (c2:Nat) (F2:List Nat) (hq:q.length≤1000000):Fn Tryz.prog 156 [.slice a q.length c,.slice a2 ps.length c2] [.sl EPacket (.slice a q.length c) q F,.sl EPacket (.slice a2 ps.length c2) ps F2] [] (fun (_:KA)=>True) (fun z=>.slice z.a (putQ q ps).length z.c) (fun z=>[.ow EPacket 127 (.slice z.a (putQ q ps).length z.c) (putQ q ps) z.F]):=by
 refine enter Tryz.func156 rfl Tryz.ntmps156 fun w0=>?_
 refine t_sl (E:=EPacket) (xs:=ps) ?_
 rintro _ _ e0 hn1 hn2
 refine t_each (E:=EPacket) (xs:=ps) (fun p:Packet=>p.data.size≤maxLen) (fun w cs x F h=>by obtain ⟨_,h,_⟩:=h;exact h) ?_
 intro hz
 cases e0
 refine go ?_;intros
 refine t_emp EPacket ?_
 refine go ?_;intros
 apply wO
 refine aps one_EPacket scal_EPacket fun a3 c3 F3=>?_
 rw [List.nil_append]
 refine go ?_;intros
 have e0:putQ q (ps.take 0)=q:=by unfold putQ;simp
 refine c_loopS [1,4] (fun z:KA=>[(5,.slice z.a (putQ q (ps.take z.k)).length z.c),(6,.int .i64 (z.k:Nat))]) (fun z=>[.ow EPacket 127 (.slice z.a (putQ q (ps.take z.k)).length z.c) (putQ q (ps.take z.k)) z.F]) (fun z=>z.k≤ps.length) (fun z=>ps.length - z.k) ⟨0,a3,c3,F3⟩ (Nat.zero_le _) (fun z hz0=>?_) (hf:=by dsimp only;rw [e0];exact frE) (hH:=by dsimp only;rw [e0];exact picksE)
 have hql:(putQ q (ps.take z.k)).length≤q.length+ps.length:=by unfold putQ;rw [List.length_append,List.length_take,List.length_take];omega
 have hnn:ps.length≤9223372036854775807:=by omega
 refine go ?_;intros
 refine wg_if rfl rfl (fun h1=>?_) (fun h1=>?_)
 ·have hk:z.k < ps.length:=by omega
  refine go ?_;intros
  refine c_if rfl (fun h2=>?_) (fun h2=>?_)
  ·have h6:(putQ q (ps.take z.k)).length < 6:=by omega
   have hpz:=hz _ (List.getElem_mem hk)
   refine atPacket (xs:=ps) z.k ?_
   rintro hi3 b3 o3 e3 s3
   rw [e3]
   refine go ?_;intros
   apply wO
   refine ap1 (ys:=[ps[z.k]]) (flatPacket ps[z.k] hpz) one_EPacket fun a7 c7 F7=>?_
   rw [←putQ_more hk h6]
   refine go ?_;intros
   refine n_lp ⟨z.k+1,a7,c7,F7⟩ hk (by show ps.length - (z.k+1) < ps.length - z.k;omega)
  ·rw [putQ_full (by omega)]
   refine go ?_;intros
   refine ret z trivial rfl
 ·rw [show ps.take z.k=ps from List.take_of_length_le (by omega)]
  refine go ?_;intros
  refine ret z trivial rfl
theorem putQ_six {q ps:List Packet} (h:q.length≤6):(putQ q ps).length≤6:=by unfold putQ;rw [List.length_append,List.length_take];omega
theorem mod_six {d:List (List Packet)} {i:Nat} {ps:List Packet} (h:∀q∈d,q.length≤6):∀q∈d.modify i (fun q=>putQ q ps),q.length≤6:=fun q hq=>by
 by_cases hi:i < d.length
 ·rw [modify_set hi] at hq
  rcases List.mem_or_eq_of_mem_set hq with h'|rfl
  ·exact h q h'
  ·exact putQ_six (h _ (List.getElem_mem hi))
 ·rw [modify_out hi] at hq;exact h q hq
theorem spread_six {ps:List Packet}:∀{nodes:List Int} {d:List (List Packet)},(∀q∈d,q.length≤6)→∀q∈spread d nodes ps,q.length≤6
 | [],_,h=>h
 | x::r,d,h=>by
  show ∀q∈spread (d.modify x.toNat fun q=>putQ q ps) r ps,q.length≤6
  exact spread_six (mod_six h)
structure ShZ where
 k:Nat
 ys:List (List Value)
 F:List Nat
 G:List Nat
theorem l15Spread_f (d:List (List Packet)) (nodes:List Int) (ps:List Packet) (a1 a2 a3 a4 a5 a7:Option Addr) (l1 c1 l2 c2 l3 c3 l4 c4 l5 c5 l7 c7:Nat) (w1 w2 w3 w4:Int) (a:Option Addr) (n c:Nat) (ys:List (List Value)) (F G:List Nat) (an:Option Addr) (cn:Nat) (Fn_:List Nat) (ap:Option Addr) (cp:Nat) (Fp:List Nat) (hx:∀x∈nodes,0≤x∧x.toNat < d.length) (hd:∀q∈d,q.length≤6) :
  Fn Tryz.prog 81 [.agg #[.slice a1 l1 c1,.int .i64 w1,.int .i64 w2,.slice a2 l2 c2,.int .i64 w3,.int .i64 w4,.slice a3 l3 c3,.slice a4 l4 c4,.slice a5 l5 c5,.slice a n c,.slice a7 l7 c7],.slice an nodes.length cn,.slice ap ps.length cp] [.sl EInt (.slice an nodes.length cn) nodes Fn_,.sl EPacket (.slice ap ps.length cp) ps Fp,.isv (EA (ESl EPacket (by decide)) n) (.agg (ys).flatten.toArray) d G] [.ow (EC 1) 132 (.slice a n c) ys F] (fun (_:ShZ)=>True) (fun _=>.tuple #[]) (fun z=>[.ow (EC 1) 132 (.slice a n c) z.ys z.F,.isv (EA (ESl EPacket (by decide)) n) (.agg (z.ys).flatten.toArray) (spread d nodes ps) z.G]):=by
 refine enter Tryz.func81 rfl Tryz.ntmps81 fun w0=>?_
 refine t_sl (E:=EInt) (xs:=nodes) ?_
 rintro _ _ e0 hn1 hn2
 cases e0
 refine sh_num (xs:=d) fun hdn=>?_
 refine go ?_;intros
 refine c_loopS [1,2,3] (fun z:ShZ=>[(6,.int .i64 (z.k:Nat))]) (fun z=>[.ow (EC 1) 132 (.slice a n c) z.ys z.F,.isv (EA (ESl EPacket (by decide)) n) (.agg (z.ys).flatten.toArray) (spread d (nodes.take z.k) ps) z.G]) (fun z=>z.k≤nodes.length) (fun z=>nodes.length - z.k) ⟨0,ys,F,G⟩ (Nat.zero_le _) fun z hz0=>?_
 have hsl:=spread_len ps (nodes.take z.k) d
 have hd6:=spread_six (ps:=ps) (nodes:=nodes.take z.k) hd
 refine go ?_;intros
 refine c_if rfl (fun h1=>?_) (fun h1=>?_)
 ·have hk:z.k < nodes.length:=by omega
  obtain ⟨x0,x1⟩:=hx _ (List.getElem_mem hk)
  obtain ⟨i,hi⟩:∃i:Nat,nodes[z.k]=((i:Nat):Int):=⟨nodes[z.k].toNat,by omega⟩
  have hil:i < (spread d (nodes.take z.k) ps).length:=by omega
  have hst:=spread_take (d:=d) (ps:=ps) hk
  rw [show nodes[z.k].toNat=i by omega] at hst
  unfold putAt at hst
  rw [modify_set hil] at hst
  have h6:=hd6 _ (List.getElem_mem hil)
  refine at_int (xs:=nodes) z.k ?_
  rintro hi2 b o e1
  rw [e1,hi]
  refine sh_len (ys:=z.ys) fun hm hl=>?_
  refine sh_at (ys:=z.ys) (xs:=spread d (nodes.take z.k) ps) i hm (by omega) (by omega) fun h2 h3 Gi=>?_
  refine isv_sl (x:=(spread d (nodes.take z.k) ps)[i]) fun a9 c9 e9 l9=>?_
  refine focF (E:=EC 1) (xs:=z.ys) (m:=1) (scal_EC 1) i ?_ (by repeat (first|exact .here|apply Pick.there)) rfl h2
  rintro _ g A cs B rfl k2 k3 hH
  obtain ⟨k4, -, -⟩:=k3 w0
  have e8:z.ys[i]=[.slice a9 (spread d (nodes.take z.k) ps)[i].length c9]:=by simpa using e9
  rw [e8] at k4
  subst k4
  dsimp only [List.append]
  refine go ?_;intros
  refine d_start [0,3,5] [17] ?_
  refine dt4 0 1 2 3 ?_
  refine dt4 4 5 6 7 ?_
  refine dt4 8 9 10 11 ?_
  refine dt2 12 13 ?_
  refine dt 14 ?_
  refine dN 15 ?_
  refine oC ?_
  refine cf (l15Put_f (spread d (nodes.take z.k) ps)[i] ps a9 c9 _ ap cp Fp (by omega)) fun u _=>?_
  refine t_app ?_
  refine dk ?_
  refine dt 16 ?_
  refine dN 17 ?_
  refine oS ?_
  refine dkx ?_
  refine dd ?_
  refine unfF (E:=EC 1) (xs:=z.ys) [.slice u.a (putQ (spread d (nodes.take z.k) ps)[i] ps).length u.c] hH (fun w=>⟨rfl,⟨rfl,by simp [Value.oneCell']⟩,rfl⟩) ?_
  refine t_read (E:=EPacket) (xs:=putQ (spread d (nodes.take z.k) ps)[i] ps) fun Fq=>?_
  refine sl_isv (E:=EPacket) (x:=putQ (spread d (nodes.take z.k) ps)[i] ps) (by decide) ?_
  refine sh_set (E:=ESl EPacket (by decide)) (ys:=z.ys) (xs:=spread d (nodes.take z.k) ps) (x:=putQ (spread d (nodes.take z.k) ps)[i] ps) i rfl hm (by omega) fun G'=>?_
  rw [←hst]
  refine go ?_;intros
  refine n_lp ⟨z.k+1,z.ys.set i [.slice u.a (putQ (spread d (nodes.take z.k) ps)[i] ps).length u.c],[g],G'⟩ hk (by show nodes.length - (z.k+1) < nodes.length - z.k;omega)
 ·rw [show nodes.take z.k=nodes from List.take_of_length_le (by omega)]
  refine go ?_;intros
  refine t_fall ?_
  refine ret z trivial rfl
theorem leastH_f (a b:Int):Fn Tryz.prog 286 [.int .i64 a,.int .i64 b] [] [] (fun (_:Unit)=>True) (fun _=>.int .i64 (min a b)) (fun _=>[]):=by
 refine enter Tryz.func286 rfl Tryz.ntmps286 fun w0=>?_
 refine go ?_;intros
 refine c_if rfl (fun h=>?_) (fun h=>?_)
 ·refine go ?_;intros
  rw [show min a b=a by omega]
  refine ret () trivial rfl
 ·refine go ?_;intros
  rw [show min a b=b by omega]
  refine ret () trivial rfl
theorem l13News_f (r:Receiver) (p:Packet) (d:Int) (v:Value) (F:List Nat) (hg:GoodR r) (hp:goodPk p=true) (d0:1≤d) (d1:d≤8) :
  Fn Tryz.prog 229 [v,.agg #[.int .i64 p.kind,.int .i64 p.number,.int .i64 p.trail,.int .i64 p.lead,.string p.data],.int .i64 d] [.isv EReceiver v r F] [] (fun (_:NwS)=>True) (fun s=>.tuple #[.agg #[.bool ((newsR r p d)).started,.int .i64 ((newsR r p d)).clock,.int .i64 ((newsR r p d)).window.next,.slice s.a1 ((newsR r p d)).window.slots.length s.c1,.slice s.a2 ((newsR r p d)).requests.length s.c2],.slice s.ae (newsE r p).length s.ce])
   (fun s=>[.isv EReceiver (.agg #[.bool ((newsR r p d)).started,.int .i64 ((newsR r p d)).clock,.int .i64 ((newsR r p d)).window.next,.slice s.a1 ((newsR r p d)).window.slots.length s.c1,.slice s.a2 ((newsR r p d)).requests.length s.c2]) (newsR r p d) s.F1,.ow EStr 9 (.slice s.ae (newsE r p).length s.ce) (newsE r p) s.Fe]):=by
 have k0:=hg.k0
 have k1:=hg.k1
 obtain ⟨-,q1,q2, -⟩:=areQ_iff.1 hg.q
 have hser:∀q∈r.requests,isSer q.number=true:=fun q hq=>(req_at hg hq).1
 obtain ⟨hsg, -⟩:=start_good hg hp
 obtain ⟨htg, -,htl⟩:=taken_good hg hp
 obtain ⟨hng,hnq, -,hnl⟩:=news_good hg hp d0 d1 (by omega)
 obtain ⟨s0_,s1_⟩:=next_ser hsg
 obtain ⟨w0_,w1_⟩:=next_ser htg
 obtain ⟨v0_,v1_⟩:=next_ser hng
 obtain ⟨hw8,hit⟩:=good_items hsg
 obtain ⟨hu8,hiu⟩:=good_items htg
 obtain ⟨n0,n1⟩:=goodPk_num hp
 have hrw:=(good_items hg.w).1
 have hp2:=hp
 unfold goodPk at hp2
 simp only [Bool.and_eq_true] at hp2
 obtain ⟨t0_,t1_⟩:=isSer_iff.1 hp2.1.1.1.1.2
 obtain ⟨l0_,l1_⟩:=isSer_iff.1 hp2.1.1.1.2
 have hps:p.data.size≤8:=itm_size hp2.1.1.2
 refine enter Tryz.func229 rfl Tryz.ntmps229 fun w0=>?_
 refine openReceiver (v:=v) (x:=r) (F:=F) ?_
 rintro a1 c1 F1 a2 c2 F2 rfl - -
 refine go ?_;intros
 refine cf (l13Own_f r _ F (by omega) (by omega)) fun u _=>?_
 refine t_app ?_
 refine openOReceiver ?_
 rintro a5 c5 F5 a6 c6 F6 e6 - -
 rw [e6]
 refine t_read (E:=ESlot) fun G5=>?_
 refine t_read (E:=ERequest) fun G6=>?_
 refine go ?_;intros
 rename_i g3 g4 g6 g8 g9
 refine t_emp EStr ?_
 refine c_joinS [2,4,6,8,9] [0,2,4,5] (fun _:List Nat=>[]) (fun s=>[.row g8 149 0 [] [.bool true,.int .i64 r.clock,.int .i64 (startW r p).next,.slice a5 (startW r p).slots.length c5,.slice a6 r.requests.length c6] [],.isv EReceiveWindow (.agg #[.int .i64 (startW r p).next,.slice a5 (startW r p).slots.length c5]) (startW r p) s]) (fun _=>True) ?_ fun G7 _=>?_
 ·cases hs:r.started
  ·by_cases hk:p.kind=5
   ·have e:startW r p=⟨p.lead,r.window.slots⟩:=by unfold startW;rw [hs,if_pos hk];rfl
    rw [e]
    refine go ?_;intros
    refine c_if rfl (fun _=>?_) (fun h=>absurd hk h)
    refine closeReceiveWindow (a1:=a5) ⟨p.lead,r.window.slots⟩ ?_
    refine go ?_;intros
    refine n_join G5 trivial
   ·have e:startW r p=⟨p.number,r.window.slots⟩:=by unfold startW;rw [hs,if_neg hk];rfl
    rw [e]
    refine go ?_;intros
    refine c_if rfl (fun h=>absurd h hk) (fun _=>?_)
    refine closeReceiveWindow (a1:=a5) ⟨p.number,r.window.slots⟩ ?_
    refine go ?_;intros
    refine n_join G5 trivial
  ·have e:startW r p=r.window:=by unfold startW;rw [hs];rfl
   rw [e]
   refine closeReceiveWindow (a1:=a5) r.window ?_
   refine go ?_;intros
   refine n_join G5 trivial
 repeat (first|apply c_skip|apply n_cd|apply c_seq)
 refine c_join2 [2,4,6,8] [3,4,5] (fun s:SkS=>[(9,.slice s.ae (takenE r p).length s.ce)]) (fun s=>[.row g8 149 0 [] [.bool true,.int .i64 r.clock,.int .i64 (takenW r p).next,.slice s.a (takenW r p).slots.length s.c,.slice a6 r.requests.length c6] [],.isv EReceiveWindow (.agg #[.int .i64 (takenW r p).next,.slice s.a (takenW r p).slots.length s.c]) (takenW r p) s.F,.ow EStr 9 (.slice s.ae (takenE r p).length s.ce) (takenE r p) s.Fe]) (fun _=>True) ?_ fun s _=>?_
 ·by_cases hk:p.kind=5
  ·have e1:takenW r p=startW r p:=by unfold takenW;rw [if_pos hk]
   have e2:takenE r p=[]:=by unfold takenE;rw [if_pos hk]
   rw [e1,e2]
   refine go ?_;intros
   rw [decide_eq_false (show ¬ ¬p.kind=5 from fun h=>h hk)]
   refine go ?_;intros
   refine n_join (⟨a5,c5,G7,_,_,_⟩:SkS) trivial
  ·have e1:takenW r p=takeW (startW r p) p.number p.data:=by unfold takenW;rw [if_neg hk]
   have e2:takenE r p=takeE (startW r p) p.number p.data:=by unfold takenE;rw [if_neg hk]
   rw [e1,e2]
   refine go ?_;intros
   rw [decide_eq_true (show ¬p.kind=5 from hk)]
   refine go ?_;intros
   refine cf (l10Reach_f (startW r p) p.number _ G7 s0_ s1_ n0 n1 hw8) fun _ _=>?_
   refine t_app ?_
   cases hok:takeOk (startW r p) p.number
   ·have e:(takeNo (startW r p) p.number || !decide (gp (startW r p).next p.number < 8))=true:=by unfold takeOk at hok;simp only [Bool.or_eq_false_iff] at hok;rw [hok.1,hok.2];rfl
    have e3:takeW (startW r p) p.number p.data=startW r p:=by unfold takeW;rw [if_pos e]
    have e4:takeE (startW r p) p.number p.data=[]:=by unfold takeE;rw [if_pos e]
    rw [e3,e4]
    refine go ?_;intros
    refine n_join (⟨a5,c5,G7,_,_,_⟩:SkS) trivial
   ·refine go ?_;intros
    refine cf (l10Take_f (startW r p) p.number p.data _ G7 s0_ s1_ n0 n1 hw8 hit hps hok) fun y hy=>?_
    refine t_app ?_
    obtain ⟨hy1,hy2⟩:=hy
    have hyl:y.es.length≤8:=by rw [hy2,←e2];exact htl
    refine t_read (E:=EStr) (xs:=y.es) fun G8=>?_
    refine go ?_;intros
    apply wO
    refine aps (ys:=y.es) one_EStr scal_EStr fun a9 c9 F9=>?_
    rw [List.nil_append]
    rw [←hy1,←hy2]
    refine go ?_;intros
    refine n_join (⟨y.a,y.c,y.F,_,_,_⟩:SkS) trivial
 obtain ⟨a3,c3,F3,ae,cE,Fe⟩:=s
 dsimp only
 refine go ?_;intros
 refine ce (fun w s=>l2Before_c _ _ _ (by omega) (by omega)) ?_
 refine go ?_;intros
 refine c_joinS [2,4,6,8] [3,4,5] (fun s:SkS=>[(9,.slice s.ae (newsE r p).length s.ce)]) (fun s=>[.row g8 149 0 [] [.bool true,.int .i64 r.clock,.int .i64 (newsW r p).next,.slice s.a (newsW r p).slots.length s.c,.slice a6 r.requests.length c6] [],.isv EReceiveWindow (.agg #[.int .i64 (newsW r p).next,.slice s.a (newsW r p).slots.length s.c]) (newsW r p) s.F,.ow EStr 9 (.slice s.ae (newsE r p).length s.ce) (newsE r p) s.Fe]) (fun _=>True) ?_ fun s _=>?_
 ·cases hb:bef (takenW r p).next p.trail
  ·have e1:newsW r p=takenW r p:=by show skipW _ _=_;unfold skipW;rw [hb];rfl
   have e2:newsE r p=takenE r p:=by unfold newsE skipE;rw [hb];simp
   rw [e1,e2]
   refine go ?_;intros
   refine n_join (⟨a3,c3,F3,_,_,_⟩:SkS) trivial
  refine go ?_;intros
  refine ce (fun w s=>l2Gap_c _ _ _ (by omega) (by omega)) ?_
  refine go ?_;intros
  refine c_if rfl (fun h4=>?_) (fun h4=>?_)
  ·have e1:newsW r p=movedW (takenW r p) p.trail:=by show skipW _ _=_;unfold skipW;rw [hb,if_pos rfl,if_pos h4]
   have e2:newsE r p=takenE r p++movedE (takenW r p) p.trail:=by unfold newsE skipE;rw [hb,if_pos rfl,if_pos h4]
   have hl2:=hnl
   rw [e2,List.length_append] at hl2
   refine go ?_;intros
   refine cf (l10GiveUp_f (takenW r p) p.trail _ F3 w0_ w1_ t0_ t1_ hu8 hiu) fun y hy=>?_
   refine t_app ?_
   obtain ⟨hy1,hy2⟩:=hy
   have hyl:y.es.length≤24:=by rw [hy2];show (movedE (takenW r p) p.trail).length≤24;omega
   refine t_read (E:=EStr) (xs:=y.es) fun G8=>?_
   refine go ?_;intros
   apply wO
   refine aps (ys:=y.es) one_EStr scal_EStr fun a9 c9 F9=>?_
   rw [e1,e2,show movedW (takenW r p) p.trail=y.y from hy1.symm,show movedE (takenW r p) p.trail=y.es from hy2.symm]
   refine go ?_;intros
   refine n_join (⟨y.a,y.c,y.F,_,_,_⟩:SkS) trivial
  ·have e1:newsW r p=⟨p.trail,[]⟩:=by show skipW _ _=_;unfold skipW;rw [hb,if_pos rfl,if_neg h4]
   have e2:newsE r p=takenE r p++[⟨#[33]⟩]:=by unfold newsE skipE;rw [hb,if_pos rfl,if_neg h4]
   rw [e1,e2]
   refine go ?_;intros
   apply wO
   refine ap1 (rep_str ⟨#[33]⟩ (by decide)) one_EStr fun a9 c9 F9=>?_
   refine t_nilsl ESlot (by decide) ?_
   refine closeReceiveWindow (a1:=none) ⟨p.trail,[]⟩ ?_
   refine go ?_;intros
   refine n_join (⟨none,0,_,_,_,_⟩:SkS) trivial
 obtain ⟨a7,c7,F7,ae,cE,Fe⟩:=s
 dsimp only
 refine go ?_;intros
 refine cf (l13Needed_f r.requests (newsW r p) a6 c6 G6 _ F7 (by omega) hser v0_ v1_) fun z _=>?_
 refine t_app ?_
 refine go ?_;intros
 refine ce (fun w s=>l2Before_c _ _ _ (by omega) (by omega)) ?_
 have hNq8:=(areQ_iff.1 hnq).2.1
 cases hb:bef (newsW r p).next p.lead
 ·have e1:newsR r p d=⟨true,r.clock,newsW r p,needed r.requests (newsW r p)⟩:=by unfold newsR awaitQ;rw [hb];rfl
  rw [e1]
  refine go ?_;intros
  refine t_read (E:=ERequest) (xs:=needed r.requests (newsW r p)) fun F8=>?_
  refine openReceiveWindow (x:=newsW r p) ?_
  rintro b1 dd1 G1 e5 m1
  simp only [Value.agg.injEq,Array.mk.injEq,List.cons.injEq,Value.slice.injEq,true_and,and_true] at e5
  obtain ⟨rfl,rfl⟩:=e5
  refine closeReceiver ⟨true,r.clock,newsW r p,needed r.requests (newsW r p)⟩ ?_
  refine ret ⟨_,_,_,_,_,[],_,_,_⟩ trivial rfl
 obtain ⟨k,hk⟩:∃k,k=awaitN (newsW r p) p.lead:=⟨_,rfl⟩
 have hk8:k≤8:=by rw [hk];exact awaitN_le _ _
 have hgb:=gp_bd (newsW r p).next p.lead
 have hkm:((k:Nat):Int)=min (gp (newsW r p).next p.lead) 8:=by rw [hk];unfold awaitN;omega
 obtain ⟨N,hN⟩:∃N,N=missL (newsW r p) k:=⟨_,rfl⟩
 have hNl:N.length≤8:=by have:=missL_len (newsW r p) k;rw [hN];omega
 have e1:newsR r p d=⟨true,r.clock,newsW r p,addAll (newsW r p).next (r.clock+d) (needed r.requests (newsW r p)) N⟩:=by unfold newsR awaitQ;rw [hb,if_pos rfl,hN,hk]
 rw [e1]
 have hav:=aft_bd (newsW r p).next (min (gp (newsW r p).next p.lead) 8)
 have hgp:gp (newsW r p).next (aft (newsW r p).next (min (gp (newsW r p).next p.lead) 8))=(k:Nat):=by rw [←hkm];unfold gp aft;omega
 refine go ?_;intros
 refine ce (fun w s=>l2Gap_c _ _ _ (by omega) (by omega)) ?_
 refine go ?_;intros
 refine cf (leastH_f _ _) fun _ _=>?_
 refine t_app ?_
 refine go ?_;intros
 refine ce (fun w s=>l2After_c _ _ _ (by omega) (by omega)) ?_
 refine go ?_;intros
 refine cf (l10Missing_f (newsW r p) _ k _ F7 v0_ v1_ (by omega) (by omega) hgp) fun m _=>?_
 refine t_app ?_
 rw [←hN]
 refine t_read (E:=EInt) (xs:=N) fun GN=>?_
 refine t_read (E:=ERequest) (xs:=needed r.requests (newsW r p)) fun F8=>?_
 refine go ?_;intros
 refine c_loopS [2,6,8,9,14,16] (fun s:AwS=>[(17,.int .i64 (s.i:Nat))]) (fun s=>[.row g8 149 0 [] [.bool true,.int .i64 r.clock,.int .i64 (newsW r p).next,.slice a7 (newsW r p).slots.length c7,.slice s.a (addAll (newsW r p).next (r.clock+d) (needed r.requests (newsW r p)) (N.take s.i)).length s.c] [],.sl ERequest (.slice s.a (addAll (newsW r p).next (r.clock+d) (needed r.requests (newsW r p)) (N.take s.i)).length s.c) (addAll (newsW r p).next (r.clock+d) (needed r.requests (newsW r p)) (N.take s.i)) s.F]) (fun s=>s.i≤N.length) (fun s=>N.length - s.i) ⟨0,z.1,z.2.1,F8⟩ (Nat.zero_le _) fun s hs=>?_
 obtain ⟨i,a3,c3,F3⟩:=s
 dsimp only at hs ⊢
 have hall:=addAll_good (w:=newsW r p) (u:=r.clock+d) (by omega) (by omega) (N.take i) (needed r.requests (newsW r p)) (fun n hn=>by
  have:=missL_at (w:=newsW r p) (n:=n) hk8 (by rw [←hN];exact List.mem_of_mem_take hn)
  exact ⟨this.1,this.2.2⟩) hnq needed_free
 have hLs:∀h:i < N.length,addAll (newsW r p).next (r.clock+d) (needed r.requests (newsW r p)) (N.take (i+1))=addQ (newsW r p).next (addAll (newsW r p).next (r.clock+d) (needed r.requests (newsW r p)) (N.take i)) N[i] (r.clock+d):=fun h=>addAll_succ h
 generalize hLd:addAll (newsW r p).next (r.clock+d) (needed r.requests (newsW r p)) (N.take i)=L at *
 have hLq:=hall.1
 have hL8:=(areQ_iff.1 hLq).2.1
 refine go ?_;intros
 refine c_if rfl (fun h4=>?_) (fun h4=>?_)
 ·have hi:i < N.length:=by omega
  have hni:=missL_at (w:=newsW r p) (n:=N[i]) hk8 (by rw [←hN];exact List.getElem_mem hi)
  refine at_int (xs:=N) i ?_
  rintro hi2 b o2 e
  rw [e]
  refine go ?_;intros
  refine d_start [0,1] [12] ?_
  refine dt4 0 1 2 3 ?_
  refine dt4 4 5 6 7 ?_
  refine dt2 8 9 ?_
  refine dN 10 ?_
  refine oC ?_
  refine cf (l12Add_f L (newsW r p).next N[i] r.clock d a3 c3 F3 hLq hni.1 k0 k1 d0 d1) fun u _=>?_
  refine t_app ?_
  rw [←hLs hi]
  refine dk ?_
  refine dt 11 ?_
  refine dN 12 ?_
  refine oS ?_
  refine dkx ?_
  refine dd ?_
  refine t_read (E:=ERequest) fun F9=>?_
  refine go ?_;intros
  refine n_lp (⟨i+1,_,_,_⟩:AwS) (by show i+1≤N.length;omega) (by show N.length - (i+1) < N.length - i;omega)
 have hi:i=N.length:=by omega
 subst hi
 rw [List.take_length] at hLd
 rw [hLd]
 refine go ?_;intros
 refine openReceiveWindow (x:=newsW r p) ?_
 rintro b1 dd1 G1 e5 m1
 simp only [Value.agg.injEq,Array.mk.injEq,List.cons.injEq,Value.slice.injEq,true_and,and_true] at e5
 obtain ⟨rfl,rfl⟩:=e5
 refine closeReceiver ⟨true,r.clock,newsW r p,L⟩ ?_
 refine ret ⟨_,_,_,_,_,[],_,_,_⟩ trivial rfl
theorem l13Hear_f (r:Receiver) (p:Packet) (d:Int) (v:Value) (F:List Nat) (hg:GoodR r) (hp:goodPk p=true) (d0:1≤d) (d1:d≤8) :
  Fn Tryz.prog 162 [v,.agg #[.int .i64 p.kind,.int .i64 p.number,.int .i64 p.trail,.int .i64 p.lead,.string p.data],.int .i64 d] [.isv EReceiver v r F] [] (fun (_:NwS)=>True) (fun s=>.tuple #[.agg #[.bool ((hearR r p d)).started,.int .i64 ((hearR r p d)).clock,.int .i64 ((hearR r p d)).window.next,.slice s.a1 ((hearR r p d)).window.slots.length s.c1,.slice s.a2 ((hearR r p d)).requests.length s.c2],.slice s.ae (hearE r p).length s.ce])
   (fun s=>[.isv EReceiver (.agg #[.bool ((hearR r p d)).started,.int .i64 ((hearR r p d)).clock,.int .i64 ((hearR r p d)).window.next,.slice s.a1 ((hearR r p d)).window.slots.length s.c1,.slice s.a2 ((hearR r p d)).requests.length s.c2]) (hearR r p d) s.F1,.ow EStr 9 (.slice s.ae (hearE r p).length s.ce) (hearE r p) s.Fe]):=by
 have k0:=hg.k0
 have k1:=hg.k1
 have hrw:=(good_items hg.w).1
 obtain ⟨-,q1,q2, -⟩:=areQ_iff.1 hg.q
 obtain ⟨n0,n1⟩:=goodPk_num hp
 have hkd:1≤p.kind∧p.kind≤5:=by unfold goodPk btw at hp;simp only [Bool.and_eq_true,decide_eq_true_eq] at hp;exact hp.1.1.1.1.1.1
 refine enter Tryz.func162 rfl Tryz.ntmps162 fun w0=>?_
 refine openReceiver (v:=v) (x:=r) (F:=F) ?_
 rintro a1 c1 F1 a2 c2 F2 rfl - -
 refine go ?_;intros
 by_cases hk4:p.kind=4
 ·have hn:isNews p=false:=by unfold isNews;simp [hk4]
  have eE:hearE r p=[]:=by unfold hearE;rw [hn];rfl
  rw [decide_eq_true hk4]
  cases hs:r.started
  ·have eR:hearR r p d=r:=by unfold hearR;rw [hn,hs];simp
   refine go ?_;intros
   rw [decide_eq_true hk4]
   refine go ?_;intros
   refine cf (l13Own_f r _ F (by omega) (by omega)) fun u _=>?_
   refine t_app ?_
   refine openOReceiver ?_
   rintro a5 c5 F5 a6 c6 F6 e6 - -
   rw [e6]
   refine t_read (E:=ESlot) fun G5=>?_
   refine t_read (E:=ERequest) fun G6=>?_
   refine go ?_;intros
   refine t_emp EStr ?_
   refine closeReceiver (a1:=a5) r ?_
   rw [eR,eE]
   rw [hs]
   refine ret ⟨_,_,_,_,_,[],_,_,_⟩ trivial rfl
  ·have eR:hearR r p d=confR r p:=by unfold hearR;rw [hn,hs,decide_eq_true hk4];rfl
   refine go ?_;intros
   refine cf (l13Own_f r _ F (by omega) (by omega)) fun u _=>?_
   refine t_app ?_
   refine openOReceiver ?_
   rintro a5 c5 F5 a6 c6 F6 e6 - -
   rw [e6]
   refine t_read (E:=ESlot) fun G5=>?_
   refine go ?_;intros
   refine cf (l12Confirm_f r.requests r.window.next p.number r.clock a2 c2 F2 hg.q (isSer_iff.2 ⟨n0,n1⟩) k0 k1) fun y _=>?_
   refine t_app ?_
   refine t_read (E:=ERequest) (xs:=confQ r.window.next r.requests p.number (r.clock+4)) fun G6=>?_
   refine go ?_;intros
   refine t_emp EStr ?_
   refine closeReceiver (a1:=a5) (confR r p) ?_
   rw [eR,eE]
   refine ret ⟨_,_,_,_,_,[],_,_,_⟩ trivial rfl
 rw [decide_eq_false hk4]
 refine go ?_;intros
 rw [decide_eq_false hk4]
 refine go ?_;intros
 by_cases hk3:p.kind=3
 ·have hn:isNews p=false:=by unfold isNews;simp [hk3]
  have eE:hearE r p=[]:=by unfold hearE;rw [hn];rfl
  have eR:hearR r p d=r:=by unfold hearR;rw [hn,decide_eq_false hk4];rfl
  rw [decide_eq_true hk3]
  refine go ?_;intros
  refine cf (l13Own_f r _ F (by omega) (by omega)) fun u _=>?_
  refine t_app ?_
  refine openOReceiver ?_
  rintro a5 c5 F5 a6 c6 F6 e6 - -
  rw [e6]
  refine t_read (E:=ESlot) fun G5=>?_
  refine t_read (E:=ERequest) fun G6=>?_
  refine go ?_;intros
  refine t_emp EStr ?_
  refine closeReceiver (a1:=a5) r ?_
  rw [eR,eE]
  refine ret ⟨_,_,_,_,_,[],_,_,_⟩ trivial rfl
 have hn:isNews p=true:=by
  unfold isNews
  have:p.kind=1∨p.kind=2∨p.kind=5:=by omega
  rcases this with h|h|h <;> simp [h]
 have eE:hearE r p=newsE r p:=by unfold hearE;rw [hn];rfl
 have eR:hearR r p d=newsR r p d:=by unfold hearR;rw [hn];rfl
 rw [decide_eq_false hk3,eE,eR]
 refine go ?_;intros
 refine cf (l13News_f r p d _ F hg hp d0 d1) fun s _=>?_
 refine t_app ?_
 refine go ?_;intros
 refine ret ⟨s.a1,s.c1,s.F1,s.a2,s.c2,[],s.ae,s.ce,_⟩ trivial rfl
theorem kids_rising {l:List Int} (hg:GoodT l) (i:Nat):rising 1 7 (kids l ((i:Nat):Int))=true:=by
 refine pw_rising ?_ fun z hz=>?_
 ·unfold kids kidsTo
  rw [List.pairwise_map]
  exact (List.Pairwise.filter _ List.pairwise_lt_range).imp fun h=>by omega
 ·have:=kids_behind hg hz
  have:=hg.n1
  omega
structure ShA where
 ys:List (List Value)
 F:List Nat
 G:List Nat
structure SZ where
 e:ShA
 r:ShA
 d:ShA
 u:ShA
structure JE where
 g:Nat
 b:Option Addr
 d:Nat
 F:List Nat
 a:Option Addr
 c:Nat
 G:List Nat
theorem l15Deliver_f (n:Net) (i:Nat) (p:Packet) (a1:Option Addr) (c1:Nat) (a4:Option Addr) (c4:Nat) (a5:Option Addr) (c5:Nat) (a6:Option Addr) (c6:Nat) (a7:Option Addr) (c7:Nat) (a2 a3:Option Addr) (l2 c2 l3 c3:Nat) (w1 w2 w3 w4:Int) (F1:List Nat) (z:SZ) (FT:List Nat) (hl:lensN n=true) (hi:i < n.tree.parent.length) (hi0:0 < i) (h8:GoodT n.tree.parent) (hr:leafT n.tree.parent (i:Nat)=true→goodRec (rcAt n i)=true) (he:leafT n.tree.parent (i:Nat)=false→goodElement (elAt n i)=true) (hp:goodPk p=true) (hps:p.data.size≤maxLen) (hd:∀q∈n.down,q.length≤6) :
  Fn Tryz.prog 84 [.agg #[.slice a1 n.tree.parent.length c1,.int .i64 w1,.int .i64 w2,.slice a2 l2 c2,.int .i64 w3,.int .i64 w4,.slice a3 l3 c3,.slice a4 n.tree.parent.length c4,.slice a5 n.tree.parent.length c5,.slice a6 n.tree.parent.length c6,.slice a7 n.tree.parent.length c7],.int .i64 (i:Nat),.agg #[.int .i64 (p).kind,.int .i64 (p).number,.int .i64 (p).trail,.int .i64 (p).lead,.string (p).data]] [EnvP FT,.sl EInt (.slice a1 n.tree.parent.length c1) n.tree.parent F1,.isv (EA EElement n.tree.parent.length) (.agg z.e.ys.flatten.toArray) n.elements z.e.G,.isv (EA EReceiver n.tree.parent.length) (.agg z.r.ys.flatten.toArray) n.receivers z.r.G,.isv (EA (ESl EPacket (by decide)) n.tree.parent.length) (.agg z.d.ys.flatten.toArray) n.down z.d.G,.isv (EA (ESl EPacket (by decide)) n.tree.parent.length) (.agg z.u.ys.flatten.toArray) n.up z.u.G] [.ow (EC 2) 142 (.slice a4 n.tree.parent.length c4) z.e.ys z.e.F,.ow (EC 5) 149 (.slice a5 n.tree.parent.length c5) z.r.ys z.r.F,.ow (EC 1) 132 (.slice a6 n.tree.parent.length c6) z.d.ys z.d.F,.ow (EC 1) 132 (.slice a7 n.tree.parent.length c7) z.u.ys z.u.F] (fun (_:SZ × KA)=>True) (fun y=>.slice y.2.a (delivN n i p).2.length y.2.c) (fun y=>[.ow (EC 2) 142 (.slice a4 n.tree.parent.length c4) y.1.e.ys y.1.e.F,.ow (EC 5) 149 (.slice a5 n.tree.parent.length c5) y.1.r.ys y.1.r.F,.ow (EC 1) 132 (.slice a6 n.tree.parent.length c6) y.1.d.ys y.1.d.F,.ow (EC 1) 132 (.slice a7 n.tree.parent.length c7) y.1.u.ys y.1.u.F,.isv (EA EElement n.tree.parent.length) (.agg y.1.e.ys.flatten.toArray) (delivN n i p).1.elements y.1.e.G,.isv (EA EReceiver n.tree.parent.length) (.agg y.1.r.ys.flatten.toArray) (delivN n i p).1.receivers y.1.r.G,.isv (EA (ESl EPacket (by decide)) n.tree.parent.length) (.agg y.1.d.ys.flatten.toArray) (delivN n i p).1.down y.1.d.G,.isv (EA (ESl EPacket (by decide)) n.tree.parent.length) (.agg y.1.u.ys.flatten.toArray) (delivN n i p).1.up y.1.u.G,.ow EStr 9 (.slice y.2.a (delivN n i p).2.length y.2.c) (delivN n i p).2 y.2.F]):=by
 obtain ⟨q1,q2,q3,q4⟩:=lensN_iff.1 hl
 have hn8:=h8.n1
 obtain ⟨d0,d1_⟩:=dly_bd (i:=i)
 refine enter Tryz.func84 rfl Tryz.ntmps84 fun w0=>?_
 refine closeTree n.tree ?_
 refine go ?_;intros
 refine cf (l15Leaf_f n.tree ((i:Nat):Int) _ F1 h8 (by omega)) fun _ _=>?_
 refine t_app ?_
 cases hlf:leafT n.tree.parent (i:Nat)
 rotate_left
 ·have hir:i < n.receivers.length:=by omega
  have hgr:=goodR_iff.1 (rcAt_get hir▸hr hlf)
  have hev:=(hear_good (d:=dly i) hgr hp d0 d1_).2
  rw [show delivN n i p=(⟨n.tree,n.source,n.elements,n.receivers.set i (hearR n.receivers[i] p (dly i)),n.down,n.up⟩,tell i (hearE n.receivers[i] p)) by unfold delivN;rw [if_pos hlf,rcAt_get hir]]
  refine go ?_;intros
  refine sh_len (ys:=z.r.ys) fun hm hlr=>?_
  refine sh_atv (E:=EReceiver) (ys:=z.r.ys) (xs:=n.receivers) i hm (by omega) (by omega) fun h2 h3 v Gi ev=>?_
  refine openReceiver (v:=v) (x:=n.receivers[i]) ?_
  rintro b1 d1 G1 b2 d2 G2 rfl l1 l2
  have e8:z.r.ys[i]=[.bool (n.receivers[i]).started,.int .i64 (n.receivers[i]).clock,.int .i64 (n.receivers[i]).window.next,.slice b1 (n.receivers[i]).window.slots.length d1,.slice b2 (n.receivers[i]).requests.length d2]:=by simpa using ev.symm
  refine focF (E:=EC 5) (xs:=z.r.ys) (m:=5) (scal_EC 5) i ?_ (by repeat (first|exact .here|apply Pick.there)) rfl h2
  rintro _ g A cs B rfl k2 k3 hH
  obtain ⟨k4, -, -⟩:=k3 w0
  rw [e8] at k4
  subst k4
  dsimp only [List.append]
  refine go ?_;intros
  refine c_joinS [1,3,5,6] [0,1,2,3,4,5,6,7,8,9,10,11,12,13,14,15] (fun w:Nat × NwS=>[(7,ptr w.1 0 0),(8,.slice w.2.ae (hearE n.receivers[i] p).length w.2.ce)]) (fun w=>[.row w.1 149 0 [] [.bool (hearR n.receivers[i] p (dly i)).started,.int .i64 (hearR n.receivers[i] p (dly i)).clock,.int .i64 (hearR n.receivers[i] p (dly i)).window.next,.slice w.2.a1 (hearR n.receivers[i] p (dly i)).window.slots.length w.2.c1,.slice w.2.a2 (hearR n.receivers[i] p (dly i)).requests.length w.2.c2] [],.isv EReceiver (.agg #[.bool (hearR n.receivers[i] p (dly i)).started,.int .i64 (hearR n.receivers[i] p (dly i)).clock,.int .i64 (hearR n.receivers[i] p (dly i)).window.next,.slice w.2.a1 (hearR n.receivers[i] p (dly i)).window.slots.length w.2.c1,.slice w.2.a2 (hearR n.receivers[i] p (dly i)).requests.length w.2.c2]) (hearR n.receivers[i] p (dly i)) w.2.F1,.ow EStr 9 (.slice w.2.ae (hearE n.receivers[i] p).length w.2.ce) (hearE n.receivers[i] p) w.2.Fe]) (fun _=>True) ?_ fun w _=>?_
  ·skip
   refine d_start [0,4,5] [] ?_
   refine dt4 0 1 2 3 ?_
   refine dt2 4 5 ?_
   refine dt 6 ?_
   refine dM 7 12 ?_ ?_
   ·refine oC ?_
    refine cf (l15Delay_f i (by omega)) fun _ _=>?_
    refine t_app ?_
    refine dk ?_
    refine dM 8 12 ?_ ?_
    ·refine oC ?_
     refine cf (l13Hear_f n.receivers[i] p (dly i) _ Gi hgr hp d0 d1_) fun s _=>?_
     refine t_app ?_
     refine dk ?_
     refine dt2 9 10 ?_
     refine dt 11 ?_
     refine dN 12 ?_
     apply o_alloc;rfl;intro _
     refine dk ?_
     refine dN 13 ?_
     refine oS ?_
     refine dk ?_
     refine dt 14 ?_
     refine dd ?_
     refine n_join (⟨_,s⟩:Nat × NwS) trivial
    ·apply o_alloc;rfl;intro _
     refine dk ?_
     refine dN 8 ?_
     refine oC ?_
     refine cf (l13Hear_f n.receivers[i] p (dly i) _ Gi hgr hp d0 d1_) fun s _=>?_
     refine t_app ?_
     refine dk ?_
     refine dt2 9 10 ?_
     refine dt 11 ?_
     refine dN 13 ?_
     refine oS ?_
     refine dk ?_
     refine dt 14 ?_
     refine dd ?_
     refine n_join (⟨_,s⟩:Nat × NwS) trivial
   ·apply o_alloc;rfl;intro _
    refine dk ?_
    refine dN 7 ?_
    refine oC ?_
    refine cf (l15Delay_f i (by omega)) fun _ _=>?_
    refine t_app ?_
    refine dk ?_
    refine dN 8 ?_
    refine oC ?_
    refine cf (l13Hear_f n.receivers[i] p (dly i) _ Gi hgr hp d0 d1_) fun s _=>?_
    refine t_app ?_
    refine dk ?_
    refine dt2 9 10 ?_
    refine dt 11 ?_
    refine dN 13 ?_
    refine oS ?_
    refine dk ?_
    refine dt 14 ?_
    refine dd ?_
    refine n_join (⟨_,s⟩:Nat × NwS) trivial
  obtain ⟨gr,s⟩:=w
  dsimp only
  refine goN ?_;intros
  refine unfF (E:=EC 5) (xs:=z.r.ys) [.bool (hearR n.receivers[i] p (dly i)).started,.int .i64 (hearR n.receivers[i] p (dly i)).clock,.int .i64 (hearR n.receivers[i] p (dly i)).window.next,.slice s.a1 (hearR n.receivers[i] p (dly i)).window.slots.length s.c1,.slice s.a2 (hearR n.receivers[i] p (dly i)).requests.length s.c2] hH (fun w=>⟨rfl,⟨rfl,by simp [Value.oneCell']⟩,rfl⟩) ?_
  refine sh_set (E:=EReceiver) (ys:=z.r.ys) (xs:=n.receivers) (x:=hearR n.receivers[i] p (dly i)) i rfl hm (by omega) fun G'=>?_
  refine t_read (E:=EStr) (xs:=hearE n.receivers[i] p) fun Fq=>?_
  refine go ?_;intros
  refine cf (l15Tell_f i (hearE n.receivers[i] p) _ _ Fq FT (by omega) (by omega) (hearE_size hgr hp)) fun u _=>?_
  refine t_app ?_
  refine go ?_;intros
  refine ret (⟨z.e,⟨z.r.ys.set i [.bool (hearR n.receivers[i] p (dly i)).started,.int .i64 (hearR n.receivers[i] p (dly i)).clock,.int .i64 (hearR n.receivers[i] p (dly i)).window.next,.slice s.a1 (hearR n.receivers[i] p (dly i)).window.slots.length s.c1,.slice s.a2 (hearR n.receivers[i] p (dly i)).requests.length s.c2],[g],G'⟩,z.d,z.u⟩,u) trivial rfl
 ·have hir:i < n.elements.length:=by omega
  have hge:goodElement n.elements[i]=true:=elAt_get hir▸he hlf
  have hel:=(goodE_iff.1 hge).2.1
  have hkl:=kids_len n.tree.parent ((i:Nat):Int)
  have hkx:∀x∈kids n.tree.parent ((i:Nat):Int),0≤x∧x.toNat < n.down.length:=fun x hx=>by have:=kids_behind h8 hx;omega
  have hri:=kids_rising h8 i
  refine go ?_;intros
  refine cf (l6Children_f n.tree ((i:Nat):Int) _ F1 (kids_zero h8.z (by omega)) ⟨by omega,by omega⟩) fun u _=>?_
  refine t_app ?_
  refine t_read (E:=EInt) (xs:=kids n.tree.parent ((i:Nat):Int)) fun Fk=>?_
  refine go ?_;intros
  refine c_if rfl (fun hk=>?_) (fun hk=>?_)
  ·rw [show delivN n i p=(⟨n.tree,n.source,n.elements.set i (repE n.elements[i] p.number),n.receivers,spread n.down (facE n.elements[i] p.number (kids n.tree.parent ((i:Nat):Int))) [p],n.up⟩,[]) by unfold delivN facN kidsN;rw [if_neg (by rw [hlf];decide),if_pos hk,if_pos hk,elAt_get hir]]
   rw [←facS_eq hge hri]
   refine go ?_;intros
   refine sh_len (ys:=z.e.ys) fun hm hlr=>?_
   refine sh_atv (E:=EElement) (ys:=z.e.ys) (xs:=n.elements) i hm (by omega) (by omega) fun h2 h3 v Gi ev=>?_
   refine openElement (v:=v) (x:=n.elements[i]) ?_
   rintro b1 d1 G1 rfl l1
   have e8:z.e.ys[i]=[.int .i64 n.elements[i].clock,.slice b1 n.elements[i].entries.length d1]:=by simpa using ev.symm
   refine focF (E:=EC 2) (xs:=z.e.ys) (m:=2) (scal_EC 2) i ?_ (by repeat (first|exact .here|apply Pick.there)) rfl h2
   rintro _ g A cs B rfl k2 k3 hH
   obtain ⟨k4, -, -⟩:=k3 w0
   rw [e8] at k4
   subst k4
   dsimp only [List.append]
   refine go ?_;intros
   refine c_joinS [1,3,5,6,9] [0,1,2,3,4,5,6,7,8,9,10,11,12,13,14,15] (fun w:JE=>[(10,ptr w.g 0 0),(11,.slice w.a (facS n.elements[i] p.number (kids n.tree.parent ((i:Nat):Int))).length w.c)]) (fun w=>[.row w.g 142 0 [] [.int .i64 (repE n.elements[i] p.number).clock,.slice w.b (repE n.elements[i] p.number).entries.length w.d] [],.isv EElement (.agg #[.int .i64 (repE n.elements[i] p.number).clock,.slice w.b (repE n.elements[i] p.number).entries.length w.d]) (repE n.elements[i] p.number) w.F,.ow EInt 3 (.slice w.a (facS n.elements[i] p.number (kids n.tree.parent ((i:Nat):Int))).length w.c) (facS n.elements[i] p.number (kids n.tree.parent ((i:Nat):Int))) w.G]) (fun _=>True) ?_ fun w _=>?_
   ·skip
    refine d_start [0,4,5] [] ?_
    refine dt4 0 1 2 3 ?_
    refine dt4 4 5 6 7 ?_
    refine dM 8 12 ?_ ?_
    ·refine oC ?_
     refine cf (l14Repair_f n.elements[i] p.number (kids n.tree.parent ((i:Nat):Int)) _ Gi u.a u.c Fk (by omega) (fun x hx=>by have:=faces_len hge hx;omega) (by omega)) fun s _=>?_
     refine t_app ?_
     refine openOElement ?_
     rintro b3 d3 G3 es l3
     rw [es]
     refine closeOElement (repE n.elements[i] p.number) ?_
     refine t_weakI weak_Element fun Fe=>?_
     refine dk ?_
     refine dt2 9 10 ?_
     refine dt 11 ?_
     refine dN 12 ?_
     apply o_alloc;rfl;intro _
     refine dk ?_
     refine dN 13 ?_
     refine oS ?_
     refine dk ?_
     refine dt 14 ?_
     refine dd ?_
     refine n_join (⟨_,b3,d3,Fe,s.a,s.c,s.G⟩:JE) trivial
    ·apply o_alloc;rfl;intro _
     refine dk ?_
     refine dN 8 ?_
     refine oC ?_
     refine cf (l14Repair_f n.elements[i] p.number (kids n.tree.parent ((i:Nat):Int)) _ Gi u.a u.c Fk (by omega) (fun x hx=>by have:=faces_len hge hx;omega) (by omega)) fun s _=>?_
     refine t_app ?_
     refine openOElement ?_
     rintro b3 d3 G3 es l3
     rw [es]
     refine closeOElement (repE n.elements[i] p.number) ?_
     refine t_weakI weak_Element fun Fe=>?_
     refine dk ?_
     refine dt2 9 10 ?_
     refine dt 11 ?_
     refine dN 13 ?_
     refine oS ?_
     refine dk ?_
     refine dt 14 ?_
     refine dd ?_
     refine n_join (⟨_,b3,d3,Fe,s.a,s.c,s.G⟩:JE) trivial
   refine goN ?_;intros
   refine unfF (E:=EC 2) (xs:=z.e.ys) [.int .i64 (repE n.elements[i] p.number).clock,.slice w.b (repE n.elements[i] p.number).entries.length w.d] hH (fun _=>⟨rfl,⟨rfl,by simp [Value.oneCell']⟩,rfl⟩) ?_
   refine sh_set (E:=EElement) (ys:=z.e.ys) (xs:=n.elements) (x:=repE n.elements[i] p.number) i rfl hm (by omega) fun G'=>?_
   refine t_read (E:=EInt) (xs:=facS n.elements[i] p.number (kids n.tree.parent ((i:Nat):Int))) fun Fk2=>?_
   refine t_row (E:=EPacket) (xs:=[p]) (flatPacket p hps) ?_ (by simp)
   refine t_read (E:=EPacket) (xs:=[p]) fun Fp=>?_
   refine go ?_;intros
   refine cf (l15Spread_f n.down (facS n.elements[i] p.number (kids n.tree.parent ((i:Nat):Int))) [p] _ _ _ _ _ _ _ _ _ _ _ _ _ _ _ _ _ _ _ _ _ _ _ _ _ z.d.ys z.d.F z.d.G _ _ Fk2 _ _ Fp (by rw [facS_eq hge hri];exact fun x hx=>hkx x (facE_sub x hx)) hd) fun y _=>?_
   refine t_app ?_
   refine go ?_;intros
   refine t_emp EStr ?_
   refine go ?_;intros
   refine ret (⟨⟨z.e.ys.set i [.int .i64 (repE n.elements[i] p.number).clock,.slice w.b (repE n.elements[i] p.number).entries.length w.d],[g],G'⟩,z.r,⟨y.ys,y.F,y.G⟩,z.u⟩,⟨0,_,_,_⟩) trivial rfl
  ·rw [show delivN n i p=(⟨n.tree,n.source,n.elements,n.receivers,spread n.down (kids n.tree.parent ((i:Nat):Int)) [p],n.up⟩,[]) by unfold delivN facN kidsN;rw [if_neg (by rw [hlf];decide),if_neg hk,if_neg hk]]
   refine goN ?_;intros
   refine t_row (E:=EPacket) (xs:=[p]) (flatPacket p hps) ?_ (by simp)
   refine t_read (E:=EPacket) (xs:=[p]) fun Fp=>?_
   refine go ?_;intros
   refine cf (l15Spread_f n.down (kids n.tree.parent ((i:Nat):Int)) [p] _ _ _ _ _ _ _ _ _ _ _ _ _ _ _ _ _ _ _ _ _ _ _ _ _ z.d.ys z.d.F z.d.G _ _ Fk _ _ Fp hkx hd) fun w _=>?_
   refine t_app ?_
   refine go ?_;intros
   refine t_emp EStr ?_
   refine go ?_;intros
   refine ret (⟨z.e,z.r,⟨w.ys,w.F,w.G⟩,z.u⟩,⟨0,_,_,_⟩) trivial rfl
end Go.Proofs.YtgmbfohkpfineaaGreatDoor
