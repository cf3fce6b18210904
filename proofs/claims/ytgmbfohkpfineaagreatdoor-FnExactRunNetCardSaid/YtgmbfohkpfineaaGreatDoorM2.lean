/- Part 2 of the proof: 17 texts, one behind the other. -/
import Derived.Lib.SliceRun
import Derived.WalkKit
import Derived.Deep.RegionHeld
import Derived.Deep.MidRow
import Derived.IntWalk
import Derived.Laws.Strings
import Derived.Test.YtgmbfohkpfineaaGreatDoorProg
import Derived.Test.YtgmbfohkpfineaaGreatDoorM1
set_option maxRecDepth 100000
set_option maxHeartbeats 8000000
set_option linter.all false
set_option linter.unusedVariables false
set_option linter.unusedSimpArgs false
namespace Go.Proofs.YtgmbfohkpfineaaGreatDoor
open Go.RowKit
structure Packet where
 kind:Int
 number:Int
 trail:Int
 lead:Int
 data:ByteArray
def EPacket:Elem Packet where
 sz:=5
 rep _ cs x F:=cs=[.int .i64 x.kind,.int .i64 x.number,.int .i64 x.trail,.int .i64 x.lead,.string x.data]∧x.data.size≤maxLen∧F=[]
 len h:=by obtain ⟨rfl,s1,rfl⟩:=h;rfl
 lt h:=by obtain ⟨rfl,s1,rfl⟩:=h;simp
 frame h _:=h
theorem one_EPacket:One EPacket:=fun h u hu=>by
 obtain ⟨rfl,s1,rfl⟩:=h
 simp only [List.mem_cons,List.not_mem_nil,or_false] at hu
 rcases hu with rfl|rfl|rfl|rfl|rfl
 ·rfl
 ·rfl
 ·rfl
 ·rfl
 ·rfl
theorem scal_EPacket:Scal EPacket:=fun h=>by obtain ⟨rfl,s1,rfl⟩:=h;rfl
theorem info_Packet:(Tryz.prog.info? 127).map (fun i=>(i.zero,i.size,i.bytes))=some (some (.agg #[.int .i64 0,.int .i64 0,.int .i64 0,.int .i64 0,.string ⟨#[]⟩]),5,48):=by kernel_rfl
def wtPacket (x:Packet):Nat:=x.data.size
def cntPacket (x:Packet):Nat:=cntI x.kind+cntI x.number+cntI x.trail+cntI x.lead+cntS x.data
def mkPacket (k:Int) (x:Packet):Packet:=⟨mkI (k) x.kind,mkI (k+cntI x.kind) x.number,mkI (k+cntI x.kind+cntI x.number) x.trail,mkI (k+cntI x.kind+cntI x.number+cntI x.trail) x.lead,mkS (k+cntI x.kind+cntI x.number+cntI x.trail+cntI x.lead) x.data⟩
theorem cntPacket_wt (x:Packet):cntPacket x≤5 * (1+wtPacket x):=by
 simp only [cntPacket,wtPacket,cntI,cntB,cntS]
 omega
theorem szPacket_c (v:Value) (x:Packet) (F:List Nat) (n:Int) (w:World) (h:IsV EPacket w v x F) (h0:0≤n) (h1:n≤1048576) :
  Calls Tryz.prog 145 #[v,.int .i64 n] w fun e w'=>e=.returned (.int .i64 (szr n (wtPacket x)))∧Below w.heap.size w w':=by
 obtain ⟨_,rfl,rfl,s1,rfl⟩:=h
 have hB0:∀A:Obj,Below w.heap.size w (w.alloc A):=fun A=>(Below.refl _ _).alloc (Nat.le_refl _) _
 unfold maxLen at s1
 unfold wtPacket
 go_enter Tryz.func145,Tryz.ntmps145
 go_wp2
 all_goals go_ret
 all_goals exact ⟨ret_int (by unfold szr;split <;> omega),hB0 _⟩
theorem szPacketS_c (v:Value) (xs:List Packet) (F:List Nat) (n:Int) (w:World) (h:Sl EPacket w v xs F) (h0:0≤n) (h1:n≤1048576) :
  Calls Tryz.prog 75 #[v,.int .i64 n] w fun e w'=>e=.returned (.int .i64 (szr n (wtL wtPacket xs)))∧Below w.heap.size w w':=by
 obtain ⟨a,cap,rfl⟩:=h.slice
 have hl:=h.len
 unfold maxLen at hl
 go_enter Tryz.func75,Tryz.ntmps75
 by_cases hn:n < xs.length
 ·go_wp2
  go_ret
  exact ⟨ret_int (szr_no (by have:=wtL_le wtPacket xs 0;omega)).symm,Below.refl _ _⟩
 go_wp2
 go_loopw [1,5] (fun l i wr=>∃k:Nat,k≤xs.length∧i=.int .i64 k∧l=.int .i64 (n - xs.length - psum wtPacket xs k)∧(psum wtPacket xs k:Int)+xs.length≤n∧Below w.heap.size w wr) (fun _ i _=>xs.length - (intOf i).toNat)
 case atStart=>exact ⟨0,Nat.zero_le _,rfl,by rw [psum_zero];simp,by rw [psum_zero];omega,Below.refl _ _⟩
 case round =>
  obtain ⟨k,hk,rfl,rfl,hle,hB⟩:=hrel
  by_cases hlt:k < xs.length
  ·have hsn:=psum_snoc wtPacket xs k hlt
   have hsl:=wtL_le wtPacket xs (k+1)
   obtain ⟨b,off,_,F1,rfl,hx, -,ja⟩:=(h.below (by decide) hB).at k hlt
   obtain ⟨rfl,s1,rfl⟩:=id hx
   have a0:=ja 0 (by decide)
   have a1:=ja 1 (by decide)
   have a2:=ja 2 (by decide)
   have a3:=ja 3 (by decide)
   have a4:=ja 4 (by decide)
   simp only [show EPacket.sz=5 from rfl,Nat.mul_one,Nat.add_zero,List.getElem?_cons_zero,List.getElem?_cons_succ] at a0 a1 a2 a3 a4
   clear ja
   have hS:=Lib.hid hsn;clear hsn
   go_wp2_with fail
   refine (szPacket_c _ xs[k] _ _ _ ⟨_,rfl,hx⟩ (by omega) (by omega)).mono ?_
   rintro e w1 ⟨rfl,hb1⟩
   have hB:=tr hB hb1 (Nat.le_refl _)
   rcases szr_or (n - xs.length - psum wtPacket xs k) (wtPacket xs[k]) with ⟨e1,l1⟩|⟨e1,l1⟩
   ·simp only [e1]
    have z1:=Lib.hid e1;clear e1
    go_wp2_with fail
    go_ret
    exact ⟨ret_int (szr_no (by have:=hS.out;omega)).symm,hB⟩
   ·simp only [e1]
    have z1:=Lib.hid e1;clear e1
    go_wp2_with fail
    exact ⟨⟨k+1,by omega,by go_num,congrArg (Value.int .i64) (by have:=hS.out;omega),by have:=hS.out;omega,hB⟩,by simp [intOf];omega⟩
  ·have hk:k=xs.length:=by omega
   subst hk
   go_wp2_with fail
   go_ret
   exact ⟨ret_int (by rw [szr_yes (by rw [wtL_eq];omega),wtL_eq];all_goals omega),hB⟩
theorem toPacket_c (v:Value) (x:Packet) (F:List Nat) (w:World) (h:IsV EPacket w v x F) (hl:wtPacket x≤1048576) :
  Calls Tryz.prog 171 #[v] w (RetV EPacket x w):=by
 obtain ⟨_,rfl,rfl,s1,rfl⟩:=h
 have hB0:∀A B C:Obj,Below w.heap.size w (((w.alloc A).alloc B).alloc C):=fun A B C=>(((Below.refl _ _).alloc (Nat.le_refl _) _).alloc (by simp) _).alloc (by simp <;> omega) _
 go_enter Tryz.func171,Tryz.ntmps171
 go_wp2_with fail
 refine bodyPost_ret (v:=.agg #[.int .i64 x.kind,.int .i64 x.number,.int .i64 x.trail,.int .i64 x.lead,.string x.data]) ?_ rfl ?_
 ·simp [results,Tryz.results171,go_sem]
 ·exact ⟨_,[],rfl,⟨_,rfl,rfl,s1,rfl⟩,by simp,by simp,by repeat (first|exact Below.refl _ _|refine Below.setCell ?_ (by simp <;> omega) _|refine Below.alloc ?_ (by simp <;> omega) _)⟩
theorem toPacketS_c (v:Value) (xs:List Packet) (F:List Nat) (w:World) (h:Sl EPacket w v xs F) (hl1:wtL wtPacket xs≤1048576) :
  Calls Tryz.prog 91 #[v] w (RetNew EPacket 127 xs w):=by
 obtain ⟨a,cap,rfl⟩:=h.slice
 have hl2:xs.length≤1048576:=by unfold wtL at hl1;omega
 have hmk:=fun w=>run_make_rows (P:=Tryz.prog) 132 127 (.agg #[.int .i64 0,.int .i64 0,.int .i64 0,.int .i64 0,.string ⟨#[]⟩]) 5 48 Tryz.underlying132 info_Packet xs.length (by omega) (by omega) w
 have hm:=Lib.hid (Ow.made (E:=EPacket) (t:=127) w #[.int .i64 0,.int .i64 0,.int .i64 0,.int .i64 0,.string ⟨#[]⟩] xs.length (⟨0,0,0,0,⟨#[]⟩⟩:Packet) rfl (fun _=>⟨rfl,(Nat.zero_le _),rfl⟩) (by unfold maxLen;omega))
 go_enter Tryz.func91,Tryz.ntmps91
 go_wp2
 clear hmk
 go_loopw [4] (fun i wr=>∃k:Nat,k≤xs.length∧i=.int .i64 k∧∃F,Ow EPacket 127 wr (.slice (some ⟨w.heap.size,0,none⟩) xs.length xs.length) (xs.take k++List.replicate (xs.length - k) (⟨0,0,0,0,⟨#[]⟩⟩:Packet)) F∧F.Nodup∧(∀b∈F,w.heap.size≤b)∧Below w.heap.size w wr) (fun i _=>xs.length - (intOf i).toNat)
 case atStart=>exact ⟨0,Nat.zero_le _,rfl,_,by simpa [show EPacket.sz=5 from rfl,Value.cells] using hm.out,by simp,by simp,(Below.refl _ _).alloc (Nat.le_refl _) _⟩
 case round =>
  obtain ⟨k,hk,rfl,F2,ho,hn,hF,hB⟩:=hrel
  by_cases hlt:k < xs.length
  ·obtain ⟨b,off,_,F1,rfl,hx, -,ja⟩:=(h.below (by decide) hB).at k hlt
   obtain ⟨rfl,s1,rfl⟩:=id hx
   have a0:=ja 0 (by decide)
   have a1:=ja 1 (by decide)
   have a2:=ja 2 (by decide)
   have a3:=ja 3 (by decide)
   have a4:=ja 4 (by decide)
   simp only [show EPacket.sz=5 from rfl,Nat.mul_one,Nat.add_zero,List.getElem?_cons_zero,List.getElem?_cons_succ] at a0 a1 a2 a3 a4
   clear ja
   have hst:=Lib.hid (set_take_rep xs (⟨0,0,0,0,⟨#[]⟩⟩:Packet) k xs.length rfl hlt xs[k] (by simp))
   have hws:wtPacket xs[k]≤1048576:=by have:=psum_snoc wtPacket xs k hlt;have:=wtL_le wtPacket xs (k+1);omega
   have HO0:=Lib.hid ho
   clear ho
   go_wp2_with fail
   refine (toPacket_c _ xs[k] _ _ ⟨_,rfl,hx⟩ hws).mono ?_
   rintro e w1 ⟨_,K,rfl,⟨cs1,rfl,oo⟩,nn,gg,hb1⟩
   have ho:=HO0.out.below hb1
   obtain ⟨hgF,hcell,hput⟩:=ho.put hn k (by simp;omega)
   have hlt2:=HO0.out.lt
   obtain ⟨F3,ho3,hn3,hs3⟩:=hput cs1 xs[k] K oo nn (fun b hb hc=>by have:=gg b hb;have:=hlt2 b hc;omega)
   obtain ⟨rfl, -,rfl⟩:=id oo
   rw [hst.out] at ho3
   simp only [show EPacket.sz=5 from rfl,Nat.mul_one,putCells] at ho3
   obtain ⟨⟨q0_,z0⟩,f0⟩:=hcell 0 (by decide)
   obtain ⟨⟨q1_,z1⟩,f1⟩:=hcell 1 (by decide)
   obtain ⟨⟨q2_,z2⟩,f2⟩:=hcell 2 (by decide)
   obtain ⟨⟨q3_,z3⟩,f3⟩:=hcell 3 (by decide)
   obtain ⟨⟨q4_,z4⟩,f4⟩:=hcell 4 (by decide)
   simp only [show EPacket.sz=5 from rfl,Nat.mul_one,Nat.add_zero] at z0 f0 z1 f1 z2 f2 z3 f3 z4 f4
   have HO:=Lib.hid ho3
   have hB1:=tr hB hb1 (Nat.le_refl _)
   have hF3:∀b∈F3,w.heap.size≤b:=fun b hb=>by
    rcases hs3 b hb with hb|hb
    ·exact hF b hb
    ·have:=gg b hb;have:=hB.size;omega
   clear ho ho3 hput hcell HO0 oo
   go_wp2_with fail
   exact ⟨⟨k+1,by omega,by go_num,F3,HO.out,hn3,hF3,by (repeat (refine Below.setCell ?_ (by simp) _));exact hB1⟩,by simp [intOf];omega⟩
  ·have hk:k=xs.length:=by omega
   subst hk
   have HO:=Lib.hid ho
   clear ho
   go_wp2_with fail
   go_ret
   exact ⟨_,F2,rfl,by simpa using HO.out,hn,hF,hB⟩
theorem eqPacket_c (va vb:Value) (x:Packet) (Fa Fb:List Nat) (w:World) (ha:IsV EPacket w va x Fa) (hb:IsV EPacket w vb x Fb) :
  Calls Tryz.prog 200 #[va,vb] w fun e w'=>e=.returned (.bool true)∧Below w.heap.size w w':=by
 obtain ⟨_,rfl,rfl,s1,rfl⟩:=ha
 obtain ⟨_,rfl,rfl,t1,rfl⟩:=hb
 have hB0:∀A B:Obj,Below w.heap.size w ((w.alloc A).alloc B):=fun A B=>((Below.refl _ _).alloc (Nat.le_refl _) _).alloc (by simp) _
 have hE:∀z:Int,(z != z)=false:=fun z=>by simp
 go_enter Tryz.func200,Tryz.ntmps200
 go_wp2_with fail
 go_ret
 exact ⟨rfl,hB0 _ _⟩
theorem eqPacketS_c (va vb:Value) (xs:List Packet) (Fa Fb:List Nat) (w:World) (ha:Sl EPacket w va xs Fa) (hb:Sl EPacket w vb xs Fb) :
  Calls Tryz.prog 111 #[va,vb] w fun e w'=>e=.returned (.bool true)∧Below w.heap.size w w':=by
 obtain ⟨a,ca,rfl⟩:=ha.slice
 obtain ⟨b,cb,rfl⟩:=hb.slice
 have hl:=ha.len
 unfold maxLen at hl
 go_enter Tryz.func111,Tryz.ntmps111
 go_wp2
 go_loopw [5] (fun i wr=>∃k:Nat,k≤xs.length∧i=.int .i64 k∧Below w.heap.size w wr) (fun i _=>xs.length - (intOf i).toNat)
 case atStart=>exact ⟨0,Nat.zero_le _,rfl,Below.refl _ _⟩
 case round =>
  obtain ⟨k,hk,rfl,hB⟩:=hrel
  by_cases hlt:k < xs.length
  ·obtain ⟨ba,oa,_,F_,rfl,hx, -,ja⟩:=(ha.below (by decide) hB).at k hlt
   obtain ⟨bb,ob,_,G_,rfl,hy, -,jb⟩:=(hb.below (by decide) hB).at k hlt
   obtain ⟨rfl,s1,rfl⟩:=id hx
   obtain ⟨rfl,t1,rfl⟩:=id hy
   have a0:=ja 0 (by decide);have b0:=jb 0 (by decide)
   have a1:=ja 1 (by decide);have b1:=jb 1 (by decide)
   have a2:=ja 2 (by decide);have b2:=jb 2 (by decide)
   have a3:=ja 3 (by decide);have b3:=jb 3 (by decide)
   have a4:=ja 4 (by decide);have b4:=jb 4 (by decide)
   simp only [show EPacket.sz=5 from rfl,Nat.mul_one,Nat.add_zero,List.getElem?_cons_zero,List.getElem?_cons_succ] at a0 b0 a1 b1 a2 b2 a3 b3 a4 b4
   clear ja jb
   go_wp2_with fail
   go_region_held3 (fun w'=>w'.cell? ⟨ba,oa+k * 5,none⟩=some (.int .i64 xs[k].kind)∧w'.cell? ⟨ba,oa+k * 5+1,none⟩=some (.int .i64 xs[k].number)∧w'.cell? ⟨ba,oa+k * 5+2,none⟩=some (.int .i64 xs[k].trail)∧w'.cell? ⟨ba,oa+k * 5+3,none⟩=some (.int .i64 xs[k].lead)∧w'.cell? ⟨ba,oa+k * 5+4,none⟩=some (.string xs[k].data)∧w'.cell? ⟨bb,ob+k * 5,none⟩=some (.int .i64 xs[k].kind)∧w'.cell? ⟨bb,ob+k * 5+1,none⟩=some (.int .i64 xs[k].number)∧w'.cell? ⟨bb,ob+k * 5+2,none⟩=some (.int .i64 xs[k].trail)∧w'.cell? ⟨bb,ob+k * 5+3,none⟩=some (.int .i64 xs[k].lead)∧w'.cell? ⟨bb,ob+k * 5+4,none⟩=some (.string xs[k].data))
    (first|go_keep|(exact ⟨kc hb1 (by simpa using a0),kc hb1 (by simpa using a1),kc hb1 (by simpa using a2),kc hb1 (by simpa using a3),kc hb1 (by simpa using a4),kc hb1 (by simpa using b0),kc hb1 (by simpa using b1),kc hb1 (by simpa using b2),kc hb1 (by simpa using b3),kc hb1 (by simpa using b4)⟩))
    (first|(go_at_call 200;refine (eqPacket_c _ _ xs[k] _ _ wr.drew ⟨_,rfl,EPacket.frame hx (fun _ _=>rfl)⟩ ⟨_,rfl,EPacket.frame hy (fun _ _=>rfl)⟩).mono ?_;rintro e w1 ⟨rfl,hb1⟩))
   go_wp2_with fail
   exact ⟨⟨k+1,by omega,by go_num,tr (belowDrewN hB 1) hb1 (Nat.le_refl _)⟩,by simp [intOf];omega⟩
  ·go_wp2_with fail
   go_ret
   exact ⟨rfl,hB⟩
theorem markPacketS_c (v:Value) (xs:List Packet) (F:List Nat) (k0:Int) (w:World) (h:Ow EPacket 127 w v xs F) (hn:F.Nodup) (h0:0≤k0) (h1:k0+cntL cntPacket xs≤1099511627776) :
  Calls Tryz.prog 118 #[v,.int .i64 k0] w (RetMark EPacket 127 v (k0+cntL cntPacket xs) (markL mkPacket cntPacket k0 xs) F w):=by
 obtain ⟨a,cap,rfl⟩:=h.slice
 have hl:=h.len
 unfold maxLen at hl
 go_enter Tryz.func118,Tryz.ntmps118
 go_wp2
 go_loopw [1,5] (fun kk i wr=>∃k:Nat,k≤xs.length∧i=.int .i64 k∧kk=.int .i64 (k0+psum cntPacket xs k)∧Ow EPacket 127 wr (.slice a xs.length cap) ((markL mkPacket cntPacket k0 xs).take k++xs.drop k) F∧Keep F w wr) (fun _ i _=>xs.length - (intOf i).toNat)
 case atStart=>exact ⟨0,Nat.zero_le _,rfl,by rw [psum_zero];simp,by simpa using h,Keep.refl _ _⟩
 case round =>
  obtain ⟨k,hk,rfl,rfl,ho,hK⟩:=hrel
  by_cases hlt:k < xs.length
  ·have hln:k < ((markL mkPacket cntPacket k0 xs).take k++xs.drop k).length:=by simp [markL_len];omega
   have hsn:=Lib.hid (psum_snoc cntPacket xs k hlt)
   have hsl:k0+psum cntPacket xs k+cntPacket xs[k]≤1099511627776:=by have:=hsn.out;have:=cntL_le cntPacket xs (k+1);omega
   obtain ⟨g,rfl⟩:=ho.head k hln
   obtain ⟨A,c,B,Fi,hrow,hA,hcl,hx,hnF,hgF,hgm,hsub,back⟩:=ho.inPlace hn k hln
   rw [mid_get _ _ _ (markL_len ..) hlt] at hx
   simp only [show EPacket.sz=5 from rfl] at hA
   have hst:=Lib.hid (markL_step mkPacket cntPacket xs k0 k hlt)
   simp only [cntI,cntPacket,cntS] at hsl
   obtain ⟨rfl,s1,rfl⟩:=hx
   have KK:=Keep.refl (g::[]) wr
   clear ho
   have z0:=hrow.cellMid (p:=k * 5) (j:=0) (by omega) (by simp)
   have z1:=hrow.cellMid (p:=k * 5+1) (j:=1) (by omega) (by simp)
   have z2:=hrow.cellMid (p:=k * 5+2) (j:=2) (by omega) (by simp)
   have z3:=hrow.cellMid (p:=k * 5+3) (j:=3) (by omega) (by simp)
   have z4:=hrow.cellMid (p:=k * 5+4) (j:=4) (by omega) (by simp)
   simp only [List.getElem?_cons_zero,List.getElem?_cons_succ] at z0 z1 z2 z3 z4
   have hfz:=hrow.frozens
   have HBk:=Lib.hid back;clear back
   go_wp2_with fail
   refine (markText_c (k0+psum cntPacket xs k+1+1+1+1) _ (by omega) (by omega)).mono ?_
   rintro e w1 ⟨rfl,hb1⟩
   have hrow:Row w1 g 127 (A++[.int .i64 (k0+psum cntPacket xs k),.int .i64 (k0+psum cntPacket xs k+1),.int .i64 (k0+psum cntPacket xs k+1+1),.int .i64 (k0+psum cntPacket xs k+1+1+1),.string xs[k].data]++B):=Row.keepK (by exact (Row.setMid (Row.setMid (Row.setMid (Row.setMid hrow (p:=k * 5) (j:=0) (by omega) (by simp) (.int .i64 (k0+psum cntPacket xs k))) (p:=k * 5+1) (j:=1) (by omega) (by simp) (.int .i64 (k0+psum cntPacket xs k+1))) (p:=k * 5+2) (j:=2) (by omega) (by simp) (.int .i64 (k0+psum cntPacket xs k+1+1))) (p:=k * 5+3) (j:=3) (by omega) (by simp) (.int .i64 (k0+psum cntPacket xs k+1+1+1)))) (Keep.ofBelow (F:=[]) hb1) (by simp)
   have KK:=Keep.trans (F:=g::[]) (a:=wr) (by (repeat (refine Keep.setCell ?_ (by simp) _));exact KK) (Keep.mono (Keep.ofBelow (F:=[]) hb1) (fun b hb _=>by simp at hb))
   clear hb1
   have z0:=hrow.cellMid (p:=k * 5) (j:=0) (by omega) (by simp)
   have z1:=hrow.cellMid (p:=k * 5+1) (j:=1) (by omega) (by simp)
   have z2:=hrow.cellMid (p:=k * 5+2) (j:=2) (by omega) (by simp)
   have z3:=hrow.cellMid (p:=k * 5+3) (j:=3) (by omega) (by simp)
   have z4:=hrow.cellMid (p:=k * 5+4) (j:=4) (by omega) (by simp)
   simp only [List.getElem?_cons_zero,List.getElem?_cons_succ] at z0 z1 z2 z3 z4
   have hfz:=hrow.frozens
   go_wp2_with fail
   have HB:=HBk.out _ [.int .i64 (k0+psum cntPacket xs k),.int .i64 (k0+psum cntPacket xs k+1),.int .i64 (k0+psum cntPacket xs k+1+1),.int .i64 (k0+psum cntPacket xs k+1+1+1),.string (mtext (k0+psum cntPacket xs k+1+1+1+1))] (mkPacket (k0+psum cntPacket xs k) xs[k]) (by exact (Row.setMid hrow (p:=k * 5+4) (j:=4) (by omega) (by simp) (.string (mtext (k0+psum cntPacket xs k+1+1+1+1))))) ⟨rfl,mtext_len _,rfl⟩ (by (repeat (refine Keep.setCell ?_ (by simp) _));exact KK)
   rw [hst.out] at HB
   exact ⟨⟨k+1,by omega,by go_num,congrArg (Value.int .i64) (by rw [hsn.out];simp only [cntI,cntPacket,cntS];omega),HB,by (repeat (refine Keep.setCell ?_ hgm _));exact hK.trans (KK.mono (fun b hb _=>by rcases List.mem_cons.1 hb with rfl|hb;exact hgm;exact hsub b hb))⟩,by simp [intOf];omega⟩
  ·have hk:k=xs.length:=by omega
   subst hk
   have HO:=Lib.hid ho
   clear ho
   go_wp2
   go_ret
   exact ⟨ret_int (by rw [cntL_eq]),by simpa [markL_len,List.take_of_length_le] using HO.out,hK⟩
theorem heldPacketS_c (v:Value) (xs:List Packet) (F:List Nat) (k0:Int) (w:World) (h:Sl EPacket w v (markL mkPacket cntPacket k0 xs) F) (h0:0≤k0) (h1:k0+cntL cntPacket xs≤1099511627776) :
  Calls Tryz.prog 125 #[v,.int .i64 k0] w fun e w'=>e=.returned (.int .i64 (k0+cntL cntPacket xs))∧Below w.heap.size w w':=by
 obtain ⟨a,cap,rfl⟩:=h.slice
 have hl:=h.len
 unfold maxLen at hl
 have hml:=Lib.hid (markL_len mkPacket cntPacket xs k0)
 rw [hml.out] at hl
 rw [hml.out]
 have hE:∀z:Int,(z != z)=false:=fun z=>by simp
 go_enter Tryz.func125,Tryz.ntmps125
 go_wp2
 go_loopw [1,5] (fun kk i wr=>∃k:Nat,k≤xs.length∧i=.int .i64 k∧kk=.int .i64 (k0+psum cntPacket xs k)∧Below w.heap.size w wr) (fun _ i _=>xs.length - (intOf i).toNat)
 case atStart=>exact ⟨0,Nat.zero_le _,rfl,by rw [psum_zero];simp,Below.refl _ _⟩
 case round =>
  obtain ⟨k,hk,rfl,rfl,hB⟩:=hrel
  by_cases hlt:k < xs.length
  ·have hsn:=Lib.hid (psum_snoc cntPacket xs k hlt)
   have hsl:k0+psum cntPacket xs k+cntPacket xs[k]≤1099511627776:=by have:=hsn.out;have:=cntL_le cntPacket xs (k+1);omega
   obtain ⟨b,off,_,F1,hab,hx, -,ja⟩:=(h.below (by decide) hB).at k (by rw [hml.out];exact hlt)
   rw [markL_get mkPacket cntPacket xs k0 k hlt] at hx
   rw [hml.out] at h
   subst hab
   simp only [cntI,cntPacket,cntS] at hsl
   obtain ⟨rfl,s1,rfl⟩:=hx
   have a0:wr.cell? ⟨b,off+k * 5,none⟩=some (.int .i64 (k0+psum cntPacket xs k)):=by have:=ja 0 (by decide);simp only [show EPacket.sz=5 from rfl,Nat.mul_one,Nat.add_zero,List.getElem?_cons_zero,List.getElem?_cons_succ] at this;exact this
   have a1:wr.cell? ⟨b,off+k * 5+1,none⟩=some (.int .i64 (k0+psum cntPacket xs k+1)):=by have:=ja 1 (by decide);simp only [show EPacket.sz=5 from rfl,Nat.mul_one,Nat.add_zero,List.getElem?_cons_zero,List.getElem?_cons_succ] at this;exact this
   have a2:wr.cell? ⟨b,off+k * 5+2,none⟩=some (.int .i64 (k0+psum cntPacket xs k+1+1)):=by have:=ja 2 (by decide);simp only [show EPacket.sz=5 from rfl,Nat.mul_one,Nat.add_zero,List.getElem?_cons_zero,List.getElem?_cons_succ] at this;exact this
   have a3:wr.cell? ⟨b,off+k * 5+3,none⟩=some (.int .i64 (k0+psum cntPacket xs k+1+1+1)):=by have:=ja 3 (by decide);simp only [show EPacket.sz=5 from rfl,Nat.mul_one,Nat.add_zero,List.getElem?_cons_zero,List.getElem?_cons_succ] at this;exact this
   have a4:wr.cell? ⟨b,off+k * 5+4,none⟩=some (.string (mtext (k0+psum cntPacket xs k+1+1+1+1))):=by have:=ja 4 (by decide);simp only [show EPacket.sz=5 from rfl,Nat.mul_one,Nat.add_zero,List.getElem?_cons_zero,List.getElem?_cons_succ] at this;exact this
   clear ja
   go_wp2_with fail
   go_region_held3 (fun w'=>w'.cell? ⟨b,off+k * 5+4,none⟩=some (.string (mtext (k0+psum cntPacket xs k+1+1+1+1)))) (first|go_keep|(exact kc hb1 a4)|(exact a4))
    (first|(go_at_call 56;refine (markText_c (k0+psum cntPacket xs k+1+1+1+1) wr.drew (by omega) (by omega)).mono ?_;rintro e w1 ⟨rfl,hb1⟩))
   have a0:=kc hb1 (show wr.drew.cell? _=_ from a0)
   have a1:=kc hb1 (show wr.drew.cell? _=_ from a1)
   have a2:=kc hb1 (show wr.drew.cell? _=_ from a2)
   have a3:=kc hb1 (show wr.drew.cell? _=_ from a3)
   have a4:=kc hb1 (show wr.drew.cell? _=_ from a4)
   have hB:=tr (belowDrewN hB 1) hb1 (Nat.le_refl _)
   clear hb1
   go_wp2_with fail
   exact ⟨⟨k+1,by omega,by go_num,congrArg (Value.int .i64) (by rw [hsn.out];simp only [cntI,cntPacket,cntS];omega),hB⟩,by simp [intOf];omega⟩
  ·have hk:k=xs.length:=by omega
   subst hk
   go_wp2
   go_ret
   exact ⟨ret_int (by rw [cntL_eq]),hB⟩
theorem szPacketSS_c (v:Value) (xs:List (List Packet)) (F:List Nat) (n:Int) (w:World) (h:Sl (ESl EPacket (by decide)) w v xs F) (h0:0≤n) (h1:n≤1048576) :
  Calls Tryz.prog 33 #[v,.int .i64 n] w fun e w'=>e=.returned (.int .i64 (szr n (wtL (wtL wtPacket) xs)))∧Below w.heap.size w w':=by
 obtain ⟨a,cap,rfl⟩:=h.slice
 have hl:=h.len
 unfold maxLen at hl
 go_enter Tryz.func33,Tryz.ntmps33
 by_cases hn:n < xs.length
 ·go_wp2
  go_ret
  exact ⟨ret_int (szr_no (by have:=wtL_le (wtL wtPacket) xs 0;omega)).symm,Below.refl _ _⟩
 go_wp2
 go_loopw [1,5] (fun l i wr=>∃k:Nat,k≤xs.length∧i=.int .i64 k∧l=.int .i64 (n - xs.length - psum (wtL wtPacket) xs k)∧(psum (wtL wtPacket) xs k:Int)+xs.length≤n∧Below w.heap.size w wr) (fun _ i _=>xs.length - (intOf i).toNat)
 case atStart=>exact ⟨0,Nat.zero_le _,rfl,by rw [psum_zero];simp,by rw [psum_zero];omega,Below.refl _ _⟩
 case round =>
  obtain ⟨k,hk,rfl,rfl,hle,hB⟩:=hrel
  by_cases hlt:k < xs.length
  ·have hsn:=psum_snoc (wtL wtPacket) xs k hlt
   have hsl:=wtL_le (wtL wtPacket) xs (k+1)
   obtain ⟨b,off,_,F1,rfl,⟨v1,rfl,k1⟩, -,ja⟩:=(h.below (by decide) hB).at k hlt
   have a0:=ja 0 (by decide)
   simp only [show (ESl EPacket (by decide)).sz=1 from rfl,Nat.mul_one,Nat.add_zero,List.getElem?_cons_zero,List.getElem?_cons_succ] at a0
   clear ja
   have hS:=Lib.hid hsn;clear hsn
   go_wp2_with fail
   refine (szPacketS_c v1 xs[k] F1 _ _ k1 (by omega) (by omega)).mono ?_
   rintro e w1 ⟨rfl,hb1⟩
   have hB:=tr hB hb1 (Nat.le_refl _)
   rcases szr_or (n - xs.length - psum (wtL wtPacket) xs k) (wtL wtPacket xs[k]) with ⟨e1,l1⟩|⟨e1,l1⟩
   ·simp only [e1]
    have z1:=Lib.hid e1;clear e1
    go_wp2_with fail
    go_ret
    exact ⟨ret_int (szr_no (by have:=hS.out;omega)).symm,hB⟩
   ·simp only [e1]
    have z1:=Lib.hid e1;clear e1
    go_wp2_with fail
    exact ⟨⟨k+1,by omega,by go_num,congrArg (Value.int .i64) (by have:=hS.out;omega),by have:=hS.out;omega,hB⟩,by simp [intOf];omega⟩
  ·have hk:k=xs.length:=by omega
   subst hk
   go_wp2_with fail
   go_ret
   exact ⟨ret_int (by rw [szr_yes (by rw [wtL_eq];omega),wtL_eq];all_goals omega),hB⟩
theorem info_PacketS:(Tryz.prog.info? 132).map (fun i=>(i.zero,i.size,i.bytes))=some (some (.slice none 0 0),1,24):=by kernel_rfl
theorem toPacketSS_c (v:Value) (xs:List (List Packet)) (F:List Nat) (w:World) (h:Sl (ESl EPacket (by decide)) w v xs F) (hl1:wtL (wtL wtPacket) xs≤1048576) :
  Calls Tryz.prog 41 #[v] w (RetNew (OSl EPacket 127) 132 xs w):=by
 obtain ⟨a,cap,rfl⟩:=h.slice
 have hl2:xs.length≤1048576:=by unfold wtL at hl1;omega
 have hmk:=fun w=>run_make_rows (P:=Tryz.prog) 47 132 (.slice none 0 0) 1 24 Tryz.underlying47 info_PacketS xs.length (by omega) (by omega) w
 have hm:=Lib.hid (Ow.made (E:=(OSl EPacket 127)) (t:=132) w #[.slice none 0 0] xs.length [] rfl (fun _=>⟨_,rfl,.inl ⟨rfl,rfl,rfl⟩⟩) (by unfold maxLen;omega))
 go_enter Tryz.func41,Tryz.ntmps41
 go_wp2
 clear hmk
 go_loopw [4] (fun i wr=>∃k:Nat,k≤xs.length∧i=.int .i64 k∧∃F,Ow (OSl EPacket 127) 132 wr (.slice (some ⟨w.heap.size,0,none⟩) xs.length xs.length) (xs.take k++List.replicate (xs.length - k) []) F∧F.Nodup∧(∀b∈F,w.heap.size≤b)∧Below w.heap.size w wr) (fun i _=>xs.length - (intOf i).toNat)
 case atStart=>exact ⟨0,Nat.zero_le _,rfl,_,by simpa [show (OSl EPacket 127).sz=1 from rfl,Value.cells] using hm.out,by simp,by simp,(Below.refl _ _).alloc (Nat.le_refl _) _⟩
 case round =>
  obtain ⟨k,hk,rfl,F2,ho,hn,hF,hB⟩:=hrel
  by_cases hlt:k < xs.length
  ·obtain ⟨b,off,_,F1,rfl,⟨v1,rfl,k1⟩, -,ja⟩:=(h.below (by decide) hB).at k hlt
   have a0:=ja 0 (by decide)
   simp only [show (ESl EPacket (by decide)).sz=1 from rfl,Nat.mul_one,Nat.add_zero,List.getElem?_cons_zero,List.getElem?_cons_succ] at a0
   clear ja
   have hst:=Lib.hid (set_take_rep xs [] k xs.length rfl hlt xs[k] (by simp))
   have hws:wtL wtPacket xs[k]≤1048576:=by have:=psum_snoc (wtL wtPacket) xs k hlt;have:=wtL_le (wtL wtPacket) xs (k+1);omega
   have HO0:=Lib.hid ho
   clear ho
   go_wp2_with fail
   refine (toPacketS_c v1 xs[k] F1 _ k1 hws).mono ?_
   rintro e w1 ⟨y1,K1,rfl,oo,nn,gg,hb1⟩
   have ho:=HO0.out.below hb1
   obtain ⟨hgF,hcell,hput⟩:=ho.put hn k (by simp;omega)
   have hlt2:=HO0.out.lt
   obtain ⟨F3,ho3,hn3,hs3⟩:=hput [y1] xs[k] K1 ⟨_,rfl,oo⟩ nn (fun b hb hc=>by have:=gg b hb;have:=hlt2 b hc;omega)
   obtain ⟨d1,p1,rfl⟩:=oo.slice
   rw [hst.out] at ho3
   simp only [show (OSl EPacket 127).sz=1 from rfl,Nat.mul_one,putCells] at ho3
   obtain ⟨⟨q0_,z0⟩,f0⟩:=hcell 0 (by decide)
   simp only [show (OSl EPacket 127).sz=1 from rfl,Nat.mul_one,Nat.add_zero] at z0 f0
   have HO:=Lib.hid ho3
   have hB1:=tr hB hb1 (Nat.le_refl _)
   have hF3:∀b∈F3,w.heap.size≤b:=fun b hb=>by
    rcases hs3 b hb with hb|hb
    ·exact hF b hb
    ·have:=gg b hb;have:=hB.size;omega
   clear ho ho3 hput hcell HO0 oo
   go_wp2_with fail
   exact ⟨⟨k+1,by omega,by go_num,F3,HO.out,hn3,hF3,by (repeat (refine Below.setCell ?_ (by simp) _));exact hB1⟩,by simp [intOf];omega⟩
  ·have hk:k=xs.length:=by omega
   subst hk
   have HO:=Lib.hid ho
   clear ho
   go_wp2_with fail
   go_ret
   exact ⟨_,F2,rfl,by simpa using HO.out,hn,hF,hB⟩
theorem eqPacketSS_c (va vb:Value) (xs:List (List Packet)) (Fa Fb:List Nat) (w:World) (ha:Sl (ESl EPacket (by decide)) w va xs Fa) (hb:Sl (ESl EPacket (by decide)) w vb xs Fb) :
  Calls Tryz.prog 50 #[va,vb] w fun e w'=>e=.returned (.bool true)∧Below w.heap.size w w':=by
 obtain ⟨a,ca,rfl⟩:=ha.slice
 obtain ⟨b,cb,rfl⟩:=hb.slice
 have hl:=ha.len
 unfold maxLen at hl
 go_enter Tryz.func50,Tryz.ntmps50
 go_wp2
 go_loopw [5] (fun i wr=>∃k:Nat,k≤xs.length∧i=.int .i64 k∧Below w.heap.size w wr) (fun i _=>xs.length - (intOf i).toNat)
 case atStart=>exact ⟨0,Nat.zero_le _,rfl,Below.refl _ _⟩
 case round =>
  obtain ⟨k,hk,rfl,hB⟩:=hrel
  by_cases hlt:k < xs.length
  ·obtain ⟨ba,oa,_,F1,rfl,⟨v1,rfl,h1⟩, -,ja⟩:=(ha.below (by decide) hB).at k hlt
   obtain ⟨bb,ob,_,F2,rfl,⟨u1,rfl,k1⟩, -,jb⟩:=(hb.below (by decide) hB).at k hlt
   have a0:=ja 0 (by decide);have b0:=jb 0 (by decide)
   simp only [show (ESl EPacket (by decide)).sz=1 from rfl,Nat.mul_one,Nat.add_zero,List.getElem?_cons_zero,List.getElem?_cons_succ] at a0 b0
   clear ja jb
   go_wp2_with fail
   go_region_held3 (fun w'=>w'.cell? ⟨ba,oa+k,none⟩=some (v1)∧w'.cell? ⟨bb,ob+k,none⟩=some (u1))
    (first|go_keep|(exact ⟨kc hb1 (by simpa using a0),kc hb1 (by simpa using b0)⟩))
    (first|(go_at_call 111;refine (eqPacketS_c _ _ xs[k] F1 F2 wr.drew (h1.frame (fun _ _=>rfl)) (k1.frame (fun _ _=>rfl))).mono ?_;rintro e w1 ⟨rfl,hb1⟩))
   go_wp2_with fail
   exact ⟨⟨k+1,by omega,by go_num,tr (belowDrewN hB 1) hb1 (Nat.le_refl _)⟩,by simp [intOf];omega⟩
  ·go_wp2_with fail
   go_ret
   exact ⟨rfl,hB⟩
theorem markPacketSS_c (v:Value) (xs:List (List Packet)) (F:List Nat) (k0:Int) (w:World) (h:Ow (OSl EPacket 127) 132 w v xs F) (hn:F.Nodup) (h0:0≤k0) (h1:k0+cntL (cntL cntPacket) xs≤1099511627776) :
  Calls Tryz.prog 55 #[v,.int .i64 k0] w (RetMark (OSl EPacket 127) 132 v (k0+cntL (cntL cntPacket) xs) (markL (markL mkPacket cntPacket) (cntL cntPacket) k0 xs) F w):=by
 obtain ⟨a,cap,rfl⟩:=h.slice
 have hl:=h.len
 unfold maxLen at hl
 go_enter Tryz.func55,Tryz.ntmps55
 go_wp2
 go_loopw [1,5] (fun kk i wr=>∃k:Nat,k≤xs.length∧i=.int .i64 k∧kk=.int .i64 (k0+psum (cntL cntPacket) xs k)∧Ow (OSl EPacket 127) 132 wr (.slice a xs.length cap) ((markL (markL mkPacket cntPacket) (cntL cntPacket) k0 xs).take k++xs.drop k) F∧Keep F w wr) (fun _ i _=>xs.length - (intOf i).toNat)
 case atStart=>exact ⟨0,Nat.zero_le _,rfl,by rw [psum_zero];simp,by simpa using h,Keep.refl _ _⟩
 case round =>
  obtain ⟨k,hk,rfl,rfl,ho,hK⟩:=hrel
  by_cases hlt:k < xs.length
  ·have hln:k < ((markL (markL mkPacket cntPacket) (cntL cntPacket) k0 xs).take k++xs.drop k).length:=by simp [markL_len];omega
   have hsn:=Lib.hid (psum_snoc (cntL cntPacket) xs k hlt)
   have hsl:k0+psum (cntL cntPacket) xs k+(cntL cntPacket) xs[k]≤1099511627776:=by have:=hsn.out;have:=cntL_le (cntL cntPacket) xs (k+1);omega
   obtain ⟨g,rfl⟩:=ho.head k hln
   obtain ⟨A,c,B,Fi,hrow,hA,hcl,hx,hnF,hgF,hgm,hsub,back⟩:=ho.inPlace hn k hln
   rw [mid_get _ _ _ (markL_len ..) hlt] at hx
   simp only [show (OSl EPacket 127).sz=1 from rfl,Nat.mul_one] at hA
   have hst:=Lib.hid (markL_step (markL mkPacket cntPacket) (cntL cntPacket) xs k0 k hlt)
   obtain ⟨v1,rfl,h1⟩:=hx
   have nF1:=hnF
   have gF1:=hgF
   have KK:=Keep.refl (g::Fi) wr
   clear ho
   have z0:=hrow.cellMid (p:=k) (j:=0) (by omega) (by simp)
   simp only [List.getElem?_cons_zero,List.getElem?_cons_succ] at z0
   have hfz:=hrow.frozens
   have HBk:=Lib.hid back;clear back
   go_wp2_with fail
   refine (markPacketS_c _ xs[k] _ (k0+psum (cntL cntPacket) xs k) _ (by (repeat (refine Ow.setFar ?_ gF1 _));exact h1) nF1 (by omega) (by omega)).mono ?_
   rintro e w1 ⟨rfl,o1,kp1⟩
   have hrow:Row w1 g 132 (A++[v1]++B):=Row.keepK (by exact hrow) kp1 gF1
   have KK:=Keep.trans (F:=g::Fi) (a:=wr) (by (repeat (refine Keep.setCell ?_ (by simp) _));exact KK) (Keep.mono kp1 (fun b hb _=>by simp [hb]))
   clear kp1
   have z0:=hrow.cellMid (p:=k) (j:=0) (by omega) (by simp)
   simp only [List.getElem?_cons_zero,List.getElem?_cons_succ] at z0
   have hfz:=hrow.frozens
   go_wp2_with fail
   have HB:=HBk.out _ [v1] ((markL mkPacket cntPacket) (k0+psum (cntL cntPacket) xs k) xs[k]) (by exact hrow) ⟨_,rfl,o1⟩ (by (repeat (refine Keep.setCell ?_ (by simp) _));exact KK)
   rw [hst.out] at HB
   exact ⟨⟨k+1,by omega,by go_num,congrArg (Value.int .i64) (by rw [hsn.out];omega),HB,by (repeat (refine Keep.setCell ?_ hgm _));exact hK.trans (KK.mono (fun b hb _=>by rcases List.mem_cons.1 hb with rfl|hb;exact hgm;exact hsub b hb))⟩,by simp [intOf];omega⟩
  ·have hk:k=xs.length:=by omega
   subst hk
   have HO:=Lib.hid ho
   clear ho
   go_wp2
   go_ret
   exact ⟨ret_int (by rw [cntL_eq]),by simpa [markL_len,List.take_of_length_le] using HO.out,hK⟩
theorem heldPacketSS_c (v:Value) (xs:List (List Packet)) (F:List Nat) (k0:Int) (w:World) (h:Sl (ESl EPacket (by decide)) w v (markL (markL mkPacket cntPacket) (cntL cntPacket) k0 xs) F) (h0:0≤k0) (h1:k0+cntL (cntL cntPacket) xs≤1099511627776) :
  Calls Tryz.prog 61 #[v,.int .i64 k0] w fun e w'=>e=.returned (.int .i64 (k0+cntL (cntL cntPacket) xs))∧Below w.heap.size w w':=by
 obtain ⟨a,cap,rfl⟩:=h.slice
 have hl:=h.len
 unfold maxLen at hl
 have hml:=Lib.hid (markL_len (markL mkPacket cntPacket) (cntL cntPacket) xs k0)
 rw [hml.out] at hl
 rw [hml.out]
 have hE:∀z:Int,(z != z)=false:=fun z=>by simp
 go_enter Tryz.func61,Tryz.ntmps61
 go_wp2
 go_loopw [1,5] (fun kk i wr=>∃k:Nat,k≤xs.length∧i=.int .i64 k∧kk=.int .i64 (k0+psum (cntL cntPacket) xs k)∧Below w.heap.size w wr) (fun _ i _=>xs.length - (intOf i).toNat)
 case atStart=>exact ⟨0,Nat.zero_le _,rfl,by rw [psum_zero];simp,Below.refl _ _⟩
 case round =>
  obtain ⟨k,hk,rfl,rfl,hB⟩:=hrel
  by_cases hlt:k < xs.length
  ·have hsn:=Lib.hid (psum_snoc (cntL cntPacket) xs k hlt)
   have hsl:k0+psum (cntL cntPacket) xs k+(cntL cntPacket) xs[k]≤1099511627776:=by have:=hsn.out;have:=cntL_le (cntL cntPacket) xs (k+1);omega
   obtain ⟨b,off,_,F1,hab,hx, -,ja⟩:=(h.below (by decide) hB).at k (by rw [hml.out];exact hlt)
   rw [markL_get (markL mkPacket cntPacket) (cntL cntPacket) xs k0 k hlt] at hx
   rw [hml.out] at h
   subst hab
   obtain ⟨v1,rfl,k1⟩:=hx
   have a0:wr.cell? ⟨b,off+k,none⟩=some (v1):=by have:=ja 0 (by decide);simp only [show (ESl EPacket (by decide)).sz=1 from rfl,Nat.mul_one,Nat.add_zero,List.getElem?_cons_zero,List.getElem?_cons_succ] at this;exact this
   clear ja
   go_wp2_with fail
   refine (heldPacketS_c _ xs[k] _ (k0+psum (cntL cntPacket) xs k) _ (k1.below (by decide) (Below.refl _ _)) (by omega) (by omega)).mono ?_
   rintro e w1 ⟨rfl,hb1⟩
   have a0:=kc hb1 a0
   have hB:=tr hB hb1 (Nat.le_refl _)
   have k1:=k1.below (by decide) hb1
   clear hb1
   go_wp2_with fail
   exact ⟨⟨k+1,by omega,by go_num,congrArg (Value.int .i64) (by rw [hsn.out];omega),hB⟩,by simp [intOf];omega⟩
  ·have hk:k=xs.length:=by omega
   subst hk
   go_wp2
   go_ret
   exact ⟨ret_int (by rw [cntL_eq]),hB⟩
structure Net where
 tree:Tree
 source:Source
 elements:List Element
 receivers:List Receiver
 down:List (List Packet)
 up:List (List Packet)
def ENet:Elem Net where
 sz:=11
 rep w cs x F:=∃v1 v2 v3 v4 v5 v6 v7 F1 F2 F3 F4 F5 F6 F7,cs=[v1,.int .i64 x.source.window.trail,.int .i64 x.source.window.size,v2,.int .i64 x.source.clock,.int .i64 x.source.quiet,v3,v4,v5,v6,v7]∧Sl EInt w v1 x.tree.parent F1∧Sl EStr w v2 x.source.window.items F2∧Sl EHold w v3 x.source.holds F3∧Sl EElement w v4 x.elements F4∧Sl EReceiver w v5 x.receivers F5∧Sl (ESl EPacket (by decide)) w v6 x.down F6∧Sl (ESl EPacket (by decide)) w v7 x.up F7∧F=F1++F2++F3++F4++F5++F6++F7
 len h:=by obtain ⟨v1,v2,v3,v4,v5,v6,v7,F1,F2,F3,F4,F5,F6,F7,rfl,h1,h2,h3,h4,h5,h6,h7,rfl⟩:=h;rfl
 lt h:=by
  obtain ⟨v1,v2,v3,v4,v5,v6,v7,F1,F2,F3,F4,F5,F6,F7,rfl,h1,h2,h3,h4,h5,h6,h7,rfl⟩:=h
  intro b hb
  simp only [List.mem_append] at hb
  rcases hb with (((((hb|hb)|hb)|hb)|hb)|hb)|hb
  ·exact h1.lt (by decide) b hb
  ·exact h2.lt (by decide) b hb
  ·exact h3.lt (by decide) b hb
  ·exact h4.lt (by decide) b hb
  ·exact h5.lt (by decide) b hb
  ·exact h6.lt (by decide) b hb
  ·exact h7.lt (by decide) b hb
 frame h hF:=by obtain ⟨v1,v2,v3,v4,v5,v6,v7,F1,F2,F3,F4,F5,F6,F7,rfl,h1,h2,h3,h4,h5,h6,h7,rfl⟩:=h;exact ⟨v1,v2,v3,v4,v5,v6,v7,F1,F2,F3,F4,F5,F6,F7,rfl,h1.frame fun b hb=>hF b (by simp [hb]),h2.frame fun b hb=>hF b (by simp [hb]),h3.frame fun b hb=>hF b (by simp [hb]),h4.frame fun b hb=>hF b (by simp [hb]),h5.frame fun b hb=>hF b (by simp [hb]),h6.frame fun b hb=>hF b (by simp [hb]),h7.frame fun b hb=>hF b (by simp [hb]),rfl⟩
theorem one_ENet:One ENet:=fun h u hu=>by
 obtain ⟨v1,v2,v3,v4,v5,v6,v7,F1,F2,F3,F4,F5,F6,F7,rfl,h1,h2,h3,h4,h5,h6,h7,rfl⟩:=h
 simp only [List.mem_cons,List.not_mem_nil,or_false] at hu
 rcases hu with rfl|rfl|rfl|rfl|rfl|rfl|rfl|rfl|rfl|rfl|rfl
 ·exact h1.one
 ·rfl
 ·rfl
 ·exact h2.one
 ·rfl
 ·rfl
 ·exact h3.one
 ·exact h4.one
 ·exact h5.one
 ·exact h6.one
 ·exact h7.one
def ONet:Elem Net where
 sz:=11
 rep w cs x F:=∃v1 v2 v3 v4 v5 v6 v7 F1 F2 F3 F4 F5 F6 F7,cs=[v1,.int .i64 x.source.window.trail,.int .i64 x.source.window.size,v2,.int .i64 x.source.clock,.int .i64 x.source.quiet,v3,v4,v5,v6,v7]∧Ow EInt 3 w v1 x.tree.parent F1∧Ow EStr 9 w v2 x.source.window.items F2∧Ow EHold 194 w v3 x.source.holds F3∧Ow OElement 142 w v4 x.elements F4∧Ow OReceiver 149 w v5 x.receivers F5∧Ow (OSl EPacket 127) 132 w v6 x.down F6∧Ow (OSl EPacket 127) 132 w v7 x.up F7∧F=F1++F2++F3++F4++F5++F6++F7
 len h:=by obtain ⟨v1,v2,v3,v4,v5,v6,v7,F1,F2,F3,F4,F5,F6,F7,rfl,h1,h2,h3,h4,h5,h6,h7,rfl⟩:=h;rfl
 lt h:=by
  obtain ⟨v1,v2,v3,v4,v5,v6,v7,F1,F2,F3,F4,F5,F6,F7,rfl,h1,h2,h3,h4,h5,h6,h7,rfl⟩:=h
  intro b hb
  simp only [List.mem_append] at hb
  rcases hb with (((((hb|hb)|hb)|hb)|hb)|hb)|hb
  ·exact h1.lt b hb
  ·exact h2.lt b hb
  ·exact h3.lt b hb
  ·exact h4.lt b hb
  ·exact h5.lt b hb
  ·exact h6.lt b hb
  ·exact h7.lt b hb
 frame h hF:=by obtain ⟨v1,v2,v3,v4,v5,v6,v7,F1,F2,F3,F4,F5,F6,F7,rfl,h1,h2,h3,h4,h5,h6,h7,rfl⟩:=h;exact ⟨v1,v2,v3,v4,v5,v6,v7,F1,F2,F3,F4,F5,F6,F7,rfl,h1.frame fun b hb=>hF b (by simp [hb]),h2.frame fun b hb=>hF b (by simp [hb]),h3.frame fun b hb=>hF b (by simp [hb]),h4.frame fun b hb=>hF b (by simp [hb]),h5.frame fun b hb=>hF b (by simp [hb]),h6.frame fun b hb=>hF b (by simp [hb]),h7.frame fun b hb=>hF b (by simp [hb]),rfl⟩
theorem one_ONet:One ONet:=fun h u hu=>by
 obtain ⟨v1,v2,v3,v4,v5,v6,v7,F1,F2,F3,F4,F5,F6,F7,rfl,h1,h2,h3,h4,h5,h6,h7,rfl⟩:=h
 simp only [List.mem_cons,List.not_mem_nil,or_false] at hu
 rcases hu with rfl|rfl|rfl|rfl|rfl|rfl|rfl|rfl|rfl|rfl|rfl
 ·exact h1.one
 ·rfl
 ·rfl
 ·exact h2.one
 ·rfl
 ·rfl
 ·exact h3.one
 ·exact h4.one
 ·exact h5.one
 ·exact h6.one
 ·exact h7.one
theorem weak_Net:Weak ONet ENet:=⟨rfl,fun h=>by
 obtain ⟨v1,v2,v3,v4,v5,v6,v7,F1,F2,F3,F4,F5,F6,F7,rfl,h1,h2,h3,h4,h5,h6,h7,rfl⟩:=h
 obtain ⟨G1,g1,k1⟩:=h1.sl (Weak.refl _)
 obtain ⟨G2,g2,k2⟩:=h2.sl (Weak.refl _)
 obtain ⟨G3,g3,k3⟩:=h3.sl (Weak.refl _)
 obtain ⟨G4,g4,k4⟩:=h4.sl weak_Element
 obtain ⟨G5,g5,k5⟩:=h5.sl weak_Receiver
 obtain ⟨G6,g6,k6⟩:=h6.sl (weak_OSl (Weak.refl _) (by decide) _)
 obtain ⟨G7,g7,k7⟩:=h7.sl (weak_OSl (Weak.refl _) (by decide) _)
 refine ⟨G1++G2++G3++G4++G5++G6++G7,?_,v1,v2,v3,v4,v5,v6,v7,G1,G2,G3,G4,G5,G6,G7,rfl,k1,k2,k3,k4,k5,k6,k7,rfl⟩
 intro b hb
 simp only [List.mem_append] at hb ⊢
 rcases hb with (((((hb|hb)|hb)|hb)|hb)|hb)|hb
 ·simp [g1 b hb]
 ·simp [g2 b hb]
 ·simp [g3 b hb]
 ·simp [g4 b hb]
 ·simp [g5 b hb]
 ·simp [g6 b hb]
 ·simp [g7 b hb]⟩
def wtNet (x:Net):Nat:=wtTree x.tree+wtSource x.source+wtL wtElement x.elements+wtL wtReceiver x.receivers+wtL (wtL wtPacket) x.down+wtL (wtL wtPacket) x.up
def cvNet (x:Net):Nat:=cvTree x.tree+cvSource x.source+(cntL cntElement) x.elements+(cntL cntReceiver) x.receivers+(cntL (cntL cntPacket)) x.down+(cntL (cntL cntPacket)) x.up
def mvNet (k:Int) (x:Net):Net:=⟨mvTree (k) x.tree,mvSource (k+cvTree x.tree) x.source,(markL mkElement cntElement) (k+cvTree x.tree+cvSource x.source) x.elements,(markL mkReceiver cntReceiver) (k+cvTree x.tree+cvSource x.source+(cntL cntElement) x.elements) x.receivers,(markL (markL mkPacket cntPacket) (cntL cntPacket)) (k+cvTree x.tree+cvSource x.source+(cntL cntElement) x.elements+(cntL cntReceiver) x.receivers) x.down,(markL (markL mkPacket cntPacket) (cntL cntPacket)) (k+cvTree x.tree+cvSource x.source+(cntL cntElement) x.elements+(cntL cntReceiver) x.receivers+(cntL (cntL cntPacket)) x.down) x.up⟩
theorem cvNet_wt (x:Net) (h:wtNet x≤1048576):cvNet x≤4294967296:=by
 have h0:=cntL_wt cntI (fun _=>0) 1 (fun x=>by simp [cntI]) x.tree.parent
 have h1:=cntL_wt cntS ByteArray.size 1 (fun x=>by simp [cntS]) x.source.window.items
 have h2:=cntL_wt cntHold (fun _=>0) 2 cntHold_wt x.source.holds
 have h3:=cntL_wt cntElement wtElement 2 cntElement_wt x.elements
 have h4:=cntL_wt cntReceiver wtReceiver 4 cntReceiver_wt x.receivers
 have h5:=cntL_wt (cntL cntPacket) (wtL wtPacket) 5 (fun x=>by have:=cntL_wt cntPacket wtPacket 5 cntPacket_wt x;omega) x.down
 have h6:=cntL_wt (cntL cntPacket) (wtL wtPacket) 5 (fun x=>by have:=cntL_wt cntPacket wtPacket 5 cntPacket_wt x;omega) x.up
 simp only [wtNet,wtTree,wtSendWindow,wtSource,cvNet,cvTree,cvSendWindow,cvSource] at h ⊢
 omega
theorem szNet_c (v:Value) (x:Net) (F:List Nat) (n:Int) (w:World) (h:IsV ENet w v x F) (h0:0≤n) (h1:n≤1048576) :
  Calls Tryz.prog 7 #[v,.int .i64 n] w fun e w'=>e=.returned (.int .i64 (szr n (wtNet x)))∧Below w.heap.size w w':=by
 obtain ⟨_,rfl,v1,v2,v3,v4,v5,v6,v7,F1,F2,F3,F4,F5,F6,F7,rfl,h1,h2,h3,h4,h5,h6,h7,rfl⟩:=h
 have hB0:∀A:Obj,Below w.heap.size w (w.alloc A):=fun A=>(Below.refl _ _).alloc (Nat.le_refl _) _
 unfold wtNet
 go_enter Tryz.func7,Tryz.ntmps7
 go_wp2_with fail
 refine (szTree_c _ x.tree _ _ _ ⟨_,rfl,_,rfl,h1.below (by decide) (hB0 _)⟩ (by omega) (by omega)).mono ?_
 rintro e w1 ⟨rfl,hb1⟩
 have r0:=Row.below (g:=w.heap.size) (t:=35) (cs:=[v1,.int .i64 x.source.window.trail,.int .i64 x.source.window.size,v2,.int .i64 x.source.clock,.int .i64 x.source.quiet,v3,v4,v5,v6,v7]) (by simp [row_alloc]) hb1
 have hB:=tr (hB0 _) hb1 (Nat.le_refl _)
 have c0:=r0.cells
 clear hb1
 rcases szr_or (n) (wtTree x.tree) with ⟨e1,l1⟩|⟨e1,l1⟩
 ·simp only [e1]
  have z1:=Lib.hid e1;clear e1
  go_wp2_with fail
  go_ret
  exact ⟨ret_int (szr_no (by omega)).symm,hB⟩
 simp only [e1]
 have z1:=Lib.hid e1;clear e1
 go_wp2_with fail
 refine (szSource_c _ x.source _ _ _ ⟨_,rfl,_,_,_,_,rfl,h2.below (by decide) hB,h3.below (by decide) hB,rfl⟩ (by omega) (by omega)).mono ?_
 rintro e w2 ⟨rfl,hb2⟩
 have r0:=r0.below hb2
 have hB:=tr hB hb2 (Nat.le_refl _)
 have c0:=r0.cells
 clear hb2
 rcases szr_or (n - (wtTree x.tree:Nat)) (wtSource x.source) with ⟨e2,l2⟩|⟨e2,l2⟩
 ·simp only [e2]
  have z2:=Lib.hid e2;clear e2
  go_wp2_with fail
  go_ret
  exact ⟨ret_int (szr_no (by omega)).symm,hB⟩
 simp only [e2]
 have z2:=Lib.hid e2;clear e2
 go_wp2_with fail
 refine (szElementS_c _ x.elements _ _ _ (h4.below (by decide) hB) (by omega) (by omega)).mono ?_
 rintro e w3 ⟨rfl,hb3⟩
 have r0:=r0.below hb3
 have hB:=tr hB hb3 (Nat.le_refl _)
 have c0:=r0.cells
 clear hb3
 rcases szr_or (n - (wtTree x.tree:Nat) - (wtSource x.source:Nat)) (wtL wtElement x.elements) with ⟨e3,l3⟩|⟨e3,l3⟩
 ·simp only [e3]
  have z3:=Lib.hid e3;clear e3
  go_wp2_with fail
  go_ret
  exact ⟨ret_int (szr_no (by omega)).symm,hB⟩
 simp only [e3]
 have z3:=Lib.hid e3;clear e3
 go_wp2_with fail
 refine (szReceiverS_c _ x.receivers _ _ _ (h5.below (by decide) hB) (by omega) (by omega)).mono ?_
 rintro e w4 ⟨rfl,hb4⟩
 have r0:=r0.below hb4
 have hB:=tr hB hb4 (Nat.le_refl _)
 have c0:=r0.cells
 clear hb4
 rcases szr_or (n - (wtTree x.tree:Nat) - (wtSource x.source:Nat) - (wtL wtElement x.elements:Nat)) (wtL wtReceiver x.receivers) with ⟨e4,l4⟩|⟨e4,l4⟩
 ·simp only [e4]
  have z4:=Lib.hid e4;clear e4
  go_wp2_with fail
  go_ret
  exact ⟨ret_int (szr_no (by omega)).symm,hB⟩
 simp only [e4]
 have z4:=Lib.hid e4;clear e4
 go_wp2_with fail
 refine (szPacketSS_c _ x.down _ _ _ (h6.below (by decide) hB) (by omega) (by omega)).mono ?_
 rintro e w5 ⟨rfl,hb5⟩
 have r0:=r0.below hb5
 have hB:=tr hB hb5 (Nat.le_refl _)
 have c0:=r0.cells
 clear hb5
 rcases szr_or (n - (wtTree x.tree:Nat) - (wtSource x.source:Nat) - (wtL wtElement x.elements:Nat) - (wtL wtReceiver x.receivers:Nat)) (wtL (wtL wtPacket) x.down) with ⟨e5,l5⟩|⟨e5,l5⟩
 ·simp only [e5]
  have z5:=Lib.hid e5;clear e5
  go_wp2_with fail
  go_ret
  exact ⟨ret_int (szr_no (by omega)).symm,hB⟩
 simp only [e5]
 have z5:=Lib.hid e5;clear e5
 go_wp2_with fail
 refine (szPacketSS_c _ x.up _ _ _ (h7.below (by decide) hB) (by omega) (by omega)).mono ?_
 rintro e w6 ⟨rfl,hb6⟩
 have r0:=r0.below hb6
 have hB:=tr hB hb6 (Nat.le_refl _)
 have c0:=r0.cells
 clear hb6
 rcases szr_or (n - (wtTree x.tree:Nat) - (wtSource x.source:Nat) - (wtL wtElement x.elements:Nat) - (wtL wtReceiver x.receivers:Nat) - (wtL (wtL wtPacket) x.down:Nat)) (wtL (wtL wtPacket) x.up) with ⟨e6,l6⟩|⟨e6,l6⟩
 ·simp only [e6]
  have z6:=Lib.hid e6;clear e6
  go_wp2_with fail
  go_ret
  exact ⟨ret_int (szr_no (by omega)).symm,hB⟩
 simp only [e6]
 have z6:=Lib.hid e6;clear e6
 go_wp2_with fail
 go_ret
 exact ⟨ret_int (by rw [szr_yes (by omega)];all_goals omega),hB⟩
theorem eqNet_c (va vb:Value) (x:Net) (Fa Fb:List Nat) (w:World) (ha:IsV ENet w va x Fa) (hb:IsV ENet w vb x Fb) :
  Calls Tryz.prog 13 #[va,vb] w fun e w'=>e=.returned (.bool true)∧Below w.heap.size w w':=by
 obtain ⟨_,rfl,v1,v2,v3,v4,v5,v6,v7,F1,F2,F3,F4,F5,F6,F7,rfl,h1,h2,h3,h4,h5,h6,h7,rfl⟩:=ha
 obtain ⟨_,rfl,u1,u2,u3,u4,u5,u6,u7,G1,G2,G3,G4,G5,G6,G7,rfl,k1,k2,k3,k4,k5,k6,k7,rfl⟩:=hb
 have hB0:∀A B:Obj,Below w.heap.size w ((w.alloc A).alloc B):=fun A B=>((Below.refl _ _).alloc (Nat.le_refl _) _).alloc (by simp) _
 have hE:∀z:Int,(z != z)=false:=fun z=>by simp
 go_enter Tryz.func13,Tryz.ntmps13
 go_wp2_with fail
 refine (eqTree_c _ _ x.tree _ _ _ ⟨_,rfl,_,rfl,h1.below (by decide) (hB0 _ _)⟩ ⟨_,rfl,_,rfl,k1.below (by decide) (hB0 _ _)⟩).mono ?_
 rintro e w1 ⟨rfl,hb1⟩
 have r0:=Row.below (g:=w.heap.size) (t:=49) (cs:=[v1,.int .i64 x.source.window.trail,.int .i64 x.source.window.size,v2,.int .i64 x.source.clock,.int .i64 x.source.quiet,v3,v4,v5,v6,v7]) (by simp [row_alloc] <;> omega) hb1
 have r1:=Row.below (g:=w.heap.size+1) (t:=49) (cs:=[u1,.int .i64 x.source.window.trail,.int .i64 x.source.window.size,u2,.int .i64 x.source.clock,.int .i64 x.source.quiet,u3,u4,u5,u6,u7]) (by simp [row_alloc] <;> omega) hb1
 have hB:=tr (hB0 _ _) hb1 (Nat.le_refl _)
 clear hb1
 have c0:=r0.cells;have c1:=r1.cells
 go_wp2_with fail
 refine (eqSource_c _ _ x.source _ _ _ ⟨_,rfl,_,_,_,_,rfl,h2.below (by decide) hB,h3.below (by decide) hB,rfl⟩ ⟨_,rfl,_,_,_,_,rfl,k2.below (by decide) hB,k3.below (by decide) hB,rfl⟩).mono ?_
 rintro e w2 ⟨rfl,hb2⟩
 have r0:=r0.below hb2;have r1:=r1.below hb2;have hB:=tr hB hb2 (Nat.le_refl _)
 clear hb2
 have c0:=r0.cells;have c1:=r1.cells
 go_wp2_with fail
 refine (eqElementS_c _ _ x.elements _ _ _ (h4.below (by decide) hB) (k4.below (by decide) hB)).mono ?_
 rintro e w3 ⟨rfl,hb3⟩
 have r0:=r0.below hb3;have r1:=r1.below hb3;have hB:=tr hB hb3 (Nat.le_refl _)
 clear hb3
 have c0:=r0.cells;have c1:=r1.cells
 go_wp2_with fail
 refine (eqReceiverS_c _ _ x.receivers _ _ _ (h5.below (by decide) hB) (k5.below (by decide) hB)).mono ?_
 rintro e w4 ⟨rfl,hb4⟩
 have r0:=r0.below hb4;have r1:=r1.below hb4;have hB:=tr hB hb4 (Nat.le_refl _)
 clear hb4
 have c0:=r0.cells;have c1:=r1.cells
 go_wp2_with fail
 refine (eqPacketSS_c _ _ x.down _ _ _ (h6.below (by decide) hB) (k6.below (by decide) hB)).mono ?_
 rintro e w5 ⟨rfl,hb5⟩
 have r0:=r0.below hb5;have r1:=r1.below hb5;have hB:=tr hB hb5 (Nat.le_refl _)
 clear hb5
 have c0:=r0.cells;have c1:=r1.cells
 go_wp2_with fail
 refine (eqPacketSS_c _ _ x.up _ _ _ (h7.below (by decide) hB) (k7.below (by decide) hB)).mono ?_
 rintro e w6 ⟨rfl,hb6⟩
 have r0:=r0.below hb6;have r1:=r1.below hb6;have hB:=tr hB hb6 (Nat.le_refl _)
 clear hb6
 have c0:=r0.cells;have c1:=r1.cells
 go_wp2_with fail
 go_ret
 exact ⟨rfl,hB⟩
-- markNet: a nested struct with several slices is not written here
theorem heldNet_c (v:Value) (x:Net) (F:List Nat) (k0:Int) (w:World) (h:IsV ENet w v (mvNet k0 x) F) (p0:0≤k0) (p1:k0+cvNet x≤1099511627776) :
  Calls Tryz.prog 17 #[v,.int .i64 k0] w fun e w'=>e=.returned (.int .i64 (k0+cvNet x))∧Below w.heap.size w w':=by
 obtain ⟨_,rfl,v1,v2,v3,v4,v5,v6,v7,F1,F2,F3,F4,F5,F6,F7,rfl,h1,h2,h3,h4,h5,h6,h7,rfl⟩:=h
 unfold cvNet at p1 ⊢
 have hB0:∀A:Obj,Below w.heap.size w (w.alloc A):=fun A=>(Below.refl _ _).alloc (Nat.le_refl _) _
 go_enter Tryz.func17,Tryz.ntmps17
 go_wp2_with fail
 refine (heldTree_c _ x.tree _ (k0) _ ⟨_,rfl,_,rfl,h1.below (by decide) (hB0 _)⟩ (by omega) (by omega)).mono ?_
 rintro e w1 ⟨rfl,hb1⟩
 have r0:=Row.below (g:=w.heap.size) (t:=49) (cs:=[v1,.int .i64 x.source.window.trail,.int .i64 x.source.window.size,v2,.int .i64 x.source.clock,.int .i64 x.source.quiet,v3,v4,v5,v6,v7]) (by simp [row_alloc,mvNet,mvTree,mvSource,mvSendWindow]) hb1
 have hB:=tr (hB0 _) hb1 (Nat.le_refl _)
 clear hb1
 have c0:=r0.cells
 go_wp2_with fail
 refine (heldSource_c _ x.source _ (k0+cvTree x.tree) _ ⟨_,rfl,_,_,_,_,rfl,h2.below (by decide) hB,h3.below (by decide) hB,rfl⟩ (by omega) (by omega)).mono ?_
 rintro e w2 ⟨rfl,hb2⟩
 have r0:=r0.below hb2;have hB:=tr hB hb2 (Nat.le_refl _)
 clear hb2
 have c0:=r0.cells
 go_wp2_with fail
 refine (heldElementS_c _ x.elements _ (k0+cvTree x.tree+cvSource x.source) _ (h4.below (by decide) hB) (by omega) (by omega)).mono ?_
 rintro e w3 ⟨rfl,hb3⟩
 have r0:=r0.below hb3;have hB:=tr hB hb3 (Nat.le_refl _)
 clear hb3
 have c0:=r0.cells
 go_wp2_with fail
 refine (heldReceiverS_c _ x.receivers _ (k0+cvTree x.tree+cvSource x.source+cntL cntElement x.elements) _ (h5.below (by decide) hB) (by omega) (by omega)).mono ?_
 rintro e w4 ⟨rfl,hb4⟩
 have r0:=r0.below hb4;have hB:=tr hB hb4 (Nat.le_refl _)
 clear hb4
 have c0:=r0.cells
 go_wp2_with fail
 refine (heldPacketSS_c _ x.down _ (k0+cvTree x.tree+cvSource x.source+cntL cntElement x.elements+cntL cntReceiver x.receivers) _ (h6.below (by decide) hB) (by omega) (by omega)).mono ?_
 rintro e w5 ⟨rfl,hb5⟩
 have r0:=r0.below hb5;have hB:=tr hB hb5 (Nat.le_refl _)
 clear hb5
 have c0:=r0.cells
 go_wp2_with fail
 refine (heldPacketSS_c _ x.up _ (k0+cvTree x.tree+cvSource x.source+cntL cntElement x.elements+cntL cntReceiver x.receivers+cntL (cntL cntPacket) x.down) _ (h7.below (by decide) hB) (by omega) (by omega)).mono ?_
 rintro e w6 ⟨rfl,hb6⟩
 have r0:=r0.below hb6;have hB:=tr hB hb6 (Nat.le_refl _)
 clear hb6
 have c0:=r0.cells
 go_wp2_with fail
 go_ret
 exact ⟨ret_int (by omega),hB⟩
def parAt (l:List Int) (i:Nat):Bool:=match l[i]? with
 | some p=>if i=0 then decide (p=-1) else btw 0 p ((i:Int) - 1)
 | none=>true
def goodTree (t:Tree):Bool:=btw 2 (t.parent.length:Int) 8 && allUpTo (parAt t.parent) t.parent.length
theorem parAt_zero {l:List Int} (h:0 < l.length):parAt l 0=decide (l[0]=-1):=by unfold parAt;rw [List.getElem?_eq_getElem h];rfl
theorem parAt_pos {l:List Int} {i:Nat} (h:i < l.length) (h0:0 < i):parAt l i=btw 0 l[i] ((i:Int) - 1):=by
 unfold parAt;rw [List.getElem?_eq_getElem h]
 show (if i=0 then _ else _)=_
 rw [if_neg (by omega)]
structure GoodT (l:List Int):Prop where
 n0:2≤l.length
 n1:l.length≤8
 z:∀h:0 < l.length,l[0]=-1
 p:∀i (h:i < l.length),0 < i→0≤l[i]∧l[i] < i
theorem goodT {t:Tree} (h:goodTree t=true):GoodT t.parent:=by
 unfold goodTree at h
 rw [Bool.and_eq_true] at h
 obtain ⟨h1,h2⟩:=h
 unfold btw at h1
 simp only [Bool.and_eq_true,decide_eq_true_eq] at h1
 refine ⟨by omega,by omega,fun h=>?_,fun i h h0=>?_⟩
 ·have:=allUpTo_get h2 0 h
  rw [parAt_zero h] at this
  exact of_decide_eq_true this
 ·have:=allUpTo_get h2 i h
  rw [parAt_pos h h0] at this
  unfold btw at this
  simp only [Bool.and_eq_true,decide_eq_true_eq] at this
  omega
theorem goodT_len {t:Tree} (h:btw 2 (t.parent.length:Int) 8=false):goodTree t=false:=by unfold goodTree;rw [h];rfl
theorem goodT_at {t:Tree} {i:Nat} (hi:i < t.parent.length) (h:parAt t.parent i=false):goodTree t=false:=by unfold goodTree;rw [allUpTo_no hi h,Bool.and_false]
def kidsTo (l:List Int) (node:Int) (k:Nat):List Int:=((List.range k).filter fun i=>decide (l[i]?=some node)).map fun (i:Nat)=>((i:Nat):Int)
def kids (l:List Int) (node:Int):List Int:=kidsTo l node l.length
theorem kidsTo_yes {l:List Int} {node:Int} {k:Nat} (h:k < l.length) (e:l[k]=node):kidsTo l node (k+1)=kidsTo l node k++[(k:Int)]:=by
 unfold kidsTo
 rw [List.range_succ,List.filter_append,List.map_append]
 simp [List.getElem?_eq_getElem h,e]
theorem kidsTo_no {l:List Int} {node:Int} {k:Nat} (h:k < l.length) (e:¬l[k]=node):kidsTo l node (k+1)=kidsTo l node k:=by
 unfold kidsTo
 rw [List.range_succ,List.filter_append,List.map_append]
 simp [List.getElem?_eq_getElem h,e]
theorem kidsTo_len (l:List Int) (node:Int) (k:Nat):(kidsTo l node k).length≤k:=by
 unfold kidsTo
 rw [List.length_map]
 exact Nat.le_trans (List.length_filter_le _ _) (by simp)
theorem kids_mem {l:List Int} {node x:Int} (h:x∈kids l node):∃i,∃hi:i < l.length,x=(i:Int)∧l[i]=node:=by
 unfold kids kidsTo at h
 obtain ⟨i,hi,rfl⟩:=List.mem_map.1 h
 obtain ⟨h1,h2⟩:=List.mem_filter.1 hi
 have h3:=List.mem_range.1 h1
 have h4:=of_decide_eq_true h2
 rw [List.getElem?_eq_getElem h3] at h4
 exact ⟨i,h3,rfl,Option.some.inj h4⟩
def leafT (l:List Int) (node:Int):Bool:=!decide (node∈l)
theorem leaf_kids (l:List Int) (node:Int):leafT l node=decide (kids l node=[]):=by
 unfold leafT
 by_cases h:node∈l
 ·obtain ⟨i,hi,rfl⟩:=List.getElem_of_mem h
  have:(i:Int)∈kids l l[i]:=by
   unfold kids kidsTo
   exact List.mem_map.2 ⟨i,List.mem_filter.2 ⟨List.mem_range.2 hi,by simp [List.getElem?_eq_getElem hi]⟩,rfl⟩
  rw [decide_eq_true h,decide_eq_false fun e=>by rw [e] at this;cases this];rfl
 ·have:kids l node=[]:=List.eq_nil_iff_forall_not_mem.2 fun x hx=>by
   obtain ⟨i,hi, -,e⟩:=kids_mem hx
   exact h (e▸List.getElem_mem hi)
  rw [decide_eq_false h,decide_eq_true this];rfl
def kids1 (l:List Int) (node:Int) (k:Nat):List Int:=((List.range k).filter fun i=>decide (l[i+1]?=some node)).map fun (i:Nat)=>((i+1:Nat):Int)
theorem kidsTo_succ (l:List Int) (node:Int) (k:Nat):kidsTo l node (k+1)=kidsTo l node k++if l[k]?=some node then [(k:Int)] else []:=by
 unfold kidsTo
 rw [List.range_succ,List.filter_append,List.map_append]
 split <;> simp_all
theorem kids1_succ (l:List Int) (node:Int) (k:Nat):kids1 l node (k+1)=kids1 l node k++if l[k+1]?=some node then [((k+1:Nat):Int)] else []:=by
 unfold kids1
 rw [List.range_succ,List.filter_append,List.map_append]
 split <;> simp_all
theorem kids1_eq {l:List Int} {node:Int} (hz:kidsTo l node 1=[]):∀k,kidsTo l node (k+1)=kids1 l node k
 | 0=>by rw [hz];rfl
 | k+1=>by rw [kidsTo_succ,kids1_eq hz k,kids1_succ]
theorem kids1_all {l:List Int} {node:Int} (hz:kidsTo l node 1=[]) {k:Nat} (hk:k+1=l.length):kids1 l node k=kids l node:=by
 rw [←kids1_eq hz];unfold kids;rw [hk]
theorem kids1_yes {l:List Int} {node:Int} {k:Nat} (h:k+1 < l.length) (e:l[k+1]=node):kids1 l node (k+1)=kids1 l node k++[((k+1:Nat):Int)]:=by
 rw [kids1_succ,List.getElem?_eq_getElem h,e,if_pos rfl]
theorem kids1_no {l:List Int} {node:Int} {k:Nat} (h:k+1 < l.length) (e:¬l[k+1]=node):kids1 l node (k+1)=kids1 l node k:=by
 rw [kids1_succ,List.getElem?_eq_getElem h,if_neg (by simpa using e),List.append_nil]
theorem kids1_len (l:List Int) (node:Int) (k:Nat):(kids1 l node k).length≤k:=by
 unfold kids1
 rw [List.length_map]
 exact Nat.le_trans (List.length_filter_le _ _) (by simp)
theorem kids_zero {l:List Int} {node:Int} (hz:∀h:0 < l.length,l[0]=-1) (h:0≤node):kidsTo l node 1=[]:=by
 rw [kidsTo_succ]
 by_cases h0:0 < l.length
 ·have:=hz h0
  rw [List.getElem?_eq_getElem h0,if_neg (by simp;omega)];rfl
 ·rw [List.getElem?_eq_none (by omega)];rfl
def isSer (x:Int):Bool:=btw 0 x 65535
def isClk (x:Int):Bool:=btw 0 x 9999
def isFac (x:Int):Bool:=btw 1 x 7
theorem IsSerial_c (x:Int) (w:World):Calls Tryz.prog 174 #[.int .i64 x] w fun e w'=>e=.returned (.bool (isSer x))∧w=w':=by
 go_enter Tryz.func174,Tryz.ntmps174
 go_wp2_with (go_at_call 64;refine (within_c _ _ _ _).mono ?_;rintro e w' ⟨rfl,rfl⟩)
 go_ret
 exact ⟨rfl,rfl⟩
theorem l2Good_c (x:Int) (w:World):Calls Tryz.prog 148 #[.int .i64 x] w fun e w'=>e=.returned (.bool (isSer x))∧w=w':=by
 go_enter Tryz.func148,Tryz.ntmps148
 go_wp2_with (go_at_call 63;refine (l1In_c _ _ _ _).mono ?_;rintro e w' ⟨rfl,rfl⟩)
 go_ret
 exact ⟨rfl,rfl⟩
theorem isClock_c (x:Int) (w:World):Calls Tryz.prog 173 #[.int .i64 x] w fun e w'=>e=.returned (.bool (isClk x))∧w=w':=by
 go_enter Tryz.func173,Tryz.ntmps173
 go_wp2_with (go_at_call 64;refine (within_c _ _ _ _).mono ?_;rintro e w' ⟨rfl,rfl⟩)
 go_ret
 exact ⟨rfl,rfl⟩
theorem l11Clock_c (x:Int) (w:World):Calls Tryz.prog 147 #[.int .i64 x] w fun e w'=>e=.returned (.bool (isClk x))∧w=w':=by
 go_enter Tryz.func147,Tryz.ntmps147
 go_wp2_with (go_at_call 63;refine (l1In_c _ _ _ _).mono ?_;rintro e w' ⟨rfl,rfl⟩)
 go_ret
 exact ⟨rfl,rfl⟩
theorem isFace_c (x:Int) (w:World):Calls Tryz.prog 96 #[.int .i64 x] w fun e w'=>e=.returned (.bool (isFac x))∧w=w':=by
 go_enter Tryz.func96,Tryz.ntmps96
 go_wp2_with (go_at_call 64;refine (within_c _ _ _ _).mono ?_;rintro e w' ⟨rfl,rfl⟩)
 go_ret
 exact ⟨rfl,rfl⟩
def risAt (lo hi:Int) (zs:List Int) (i:Nat):Bool:=btw lo (zs.getD i 0) hi && (i == 0 || decide (zs.getD (i - 1) 0 < zs.getD i 0))
def rising (lo hi:Int) (zs:List Int):Bool:=allUpTo (risAt lo hi zs) zs.length
theorem risAt_zero {lo hi:Int} {zs:List Int} (h:0 < zs.length):risAt lo hi zs 0=btw lo zs[0] hi:=by simp [risAt,h]
theorem risAt_succ {lo hi:Int} {zs:List Int} {m:Nat} (h:m+1 < zs.length):risAt lo hi zs (m+1)=(btw lo zs[m+1] hi && decide (zs[m]'(by omega) < zs[m+1])):=by
 simp [risAt,h,show m < zs.length by omega]
theorem areFaces_c (v:Value) (zs:List Int) (F:List Nat) (w:World) (h:Sl EInt w v zs F) :
  Calls Tryz.prog 247 #[v] w fun e w'=>e=.returned (.bool (rising 1 7 zs))∧w=w':=by
 obtain ⟨a,cap,rfl⟩:=h.slice
 obtain ⟨-,hl,hc⟩:=h.int
 unfold maxLen at hl
 go_enter Tryz.func247,Tryz.ntmps247
 go_wp2
 go_loop [3,4,7] (fun _ _ i=>∃k:Nat,k≤zs.length∧i=.int .i64 k∧Hid (∀j,j < k→risAt 1 7 zs j=true)) (fun _ _ i=>zs.length - (intOf i).toNat)
 case atStart=>exact ⟨0,Nat.zero_le _,rfl,fun j hj=>by omega⟩
 case round =>
  obtain ⟨k,hk,rfl,hz⟩:=hrel
  by_cases hlt:k < zs.length
  ·obtain ⟨b,off,rfl,c0⟩:=hc k hlt
   rcases k with _|m
   ·have hr:=Lib.hid (risAt_zero (lo:=1) (hi:=7) hlt)
    clear hc
    simp only [Nat.add_zero] at c0
    go_wp2_with (go_at_call 96;refine (isFace_c _ _).mono ?_;rintro e w' ⟨rfl,rfl⟩)
    ·have t:btw 1 zs[0] 7=true:=by assumption
     exact ⟨⟨1,by omega,by go_num,upto_snoc hz.out (by rw [hr.out,t])⟩,by simp [intOf];omega⟩
    ·have t:¬btw 1 zs[0] 7=true:=by assumption
     go_ret
     exact ⟨ret_bool (allUpTo_no hlt (by rw [hr.out];simpa using t)).symm,rfl⟩
   ·obtain ⟨b',off',hb',c1⟩:=hc m (by omega)
    cases hb'
    have hr:=Lib.hid (risAt_succ (lo:=1) (hi:=7) hlt)
    clear hc
    go_wp2_with (go_at_call 96;refine (isFace_c _ _).mono ?_;rintro e w' ⟨rfl,rfl⟩)
    ·have t:zs[m+1]≤zs[m]:=by assumption
     go_ret
     exact ⟨ret_bool (allUpTo_no hlt (by rw [hr.out];simp;omega)).symm,rfl⟩
    ·have t:btw 1 zs[m+1] 7=true:=by assumption
     have t2:zs[m] < zs[m+1]:=by assumption
     exact ⟨⟨m+2,by omega,by go_num,upto_snoc hz.out (by rw [hr.out,t];simp;omega)⟩,by simp [intOf];omega⟩
    ·have t:¬btw 1 zs[m+1] 7=true:=by assumption
     go_ret
     exact ⟨ret_bool (allUpTo_no hlt (by rw [hr.out];simp [t])).symm,rfl⟩
  ·go_wp2
   go_ret
   exact ⟨ret_bool (allUpTo_yes (fun i hi=>hz.out i (by omega))).symm,rfl⟩
theorem l1Rising_c (v:Value) (zs:List Int) (F:List Nat) (lo hi:Int) (w:World) (h:Sl EInt w v zs F) :
  Calls Tryz.prog 280 #[v,.int .i64 lo,.int .i64 hi] w fun e w'=>e=.returned (.bool (rising lo hi zs))∧Below w.heap.size w w':=by
 obtain ⟨a,cap,rfl⟩:=h.slice
 obtain ⟨-,hl, -⟩:=h.int
 unfold maxLen at hl
 go_enter Tryz.func280,Tryz.ntmps280
 go_wp2
 go_loopw [7] (fun i wr=>∃k:Nat,k≤zs.length∧i=.int .i64 k∧Hid (∀j,j < k→risAt lo hi zs j=true)∧Below w.heap.size w wr) (fun i _=>zs.length - (intOf i).toNat)
 case atStart=>exact ⟨0,Nat.zero_le _,rfl,fun j hj=>by omega,Below.refl _ _⟩
 case round =>
  obtain ⟨k,hk,rfl,hz,hB⟩:=hrel
  have hc:=(h.below (by decide) hB).int.2.2
  by_cases hlt:k < zs.length
  ·obtain ⟨b,off,rfl,c0⟩:=hc k hlt
   rcases k with _|m
   ·have hr:=Lib.hid (risAt_zero (lo:=lo) (hi:=hi) hlt)
    clear hc
    simp only [Nat.add_zero] at c0
    cases t:btw lo zs[0] hi
    ·go_wp2_with fail
     go_quiet ((go_at_call 63;exact quiet_eq (l1In_c _ _ _ _)))
     go_wp2_with fail
     go_ret
     exact ⟨ret_bool (allUpTo_no hlt (by rw [hr.out,t])).symm,belowDrewN hB _⟩
    ·go_wp2_with fail
     go_quiet ((go_at_call 63;exact quiet_eq (l1In_c _ _ _ _)))
     go_wp2_with fail
     exact ⟨⟨1,by omega,by go_num,upto_snoc hz.out (by rw [hr.out,t]),belowDrewN hB _⟩,by simp [intOf];omega⟩
   ·obtain ⟨b',off',hb',c1⟩:=hc m (by omega)
    cases hb'
    have hr:=Lib.hid (risAt_succ (lo:=lo) (hi:=hi) hlt)
    clear hc
    cases t:btw lo zs[m+1] hi
    ·go_wp2_with fail
     go_quiet ((go_at_call 63;exact quiet_eq (l1In_c _ _ _ _)))
     go_wp2_with fail
     go_ret
     exact ⟨ret_bool (allUpTo_no hlt (by rw [hr.out,t];rfl)).symm,belowDrewN hB _⟩
    ·by_cases t2:zs[m] < zs[m+1]
     ·go_wp2_with fail
      go_quiet ((go_at_call 63;exact quiet_eq (l1In_c _ _ _ _)))
      go_wp2_with fail
      exact ⟨⟨m+2,by omega,by go_num,upto_snoc hz.out (by rw [hr.out,t];simpa using t2),belowDrewN hB _⟩,by simp [intOf];omega⟩
     ·have t3:zs[m+1]≤zs[m]:=by omega
      go_wp2_with fail
      go_quiet ((go_at_call 63;exact quiet_eq (l1In_c _ _ _ _)))
      go_wp2_with fail
      go_ret
      exact ⟨ret_bool (allUpTo_no hlt (by rw [hr.out];simp;omega)).symm,belowDrewN hB _⟩
  ·go_wp2
   go_ret
   exact ⟨ret_bool (allUpTo_yes (fun i hi=>hz.out i (by omega))).symm,hB⟩
theorem l14Faces_c (v:Value) (zs:List Int) (F:List Nat) (w:World) (h:Sl EInt w v zs F) :
  Calls Tryz.prog 217 #[v] w fun e w'=>e=.returned (.bool (rising 1 7 zs))∧Below w.heap.size w w':=by
 go_enter Tryz.func217,Tryz.ntmps217
 go_wp2_with (go_at_call 280;refine (l1Rising_c _ zs F _ _ _ h).mono ?_;rintro e w' ⟨rfl,hb1⟩)
 go_ret
 exact ⟨rfl,hb1⟩
theorem putCells_eq (w:World) (g:Nat):∀(c:List Value) (w:World) (p:Nat),putCells w g p c=w.setCells g p c
 | [],_,_=>rfl
 | _::r,_,_=>putCells_eq w g r _ _
theorem zeroCells_len (z:Array Value) (n:Nat):(Builtin.zeroCells z n).toList.length=n * z.size:=by simp [Builtin.zeroCells]
theorem zeroCells_one (z:Array Value) (h:∀u∈z,u.oneCell'=true) (n:Nat):∀u∈(Builtin.zeroCells z n).toList,u.oneCell'=true:=by
 intro u hu
 simp only [Builtin.zeroCells,Array.toList_map,List.mem_map] at hu
 obtain ⟨i,hi,rfl⟩:=hu
 simp at hi
 have hz:0 < z.size:=Nat.pos_of_ne_zero fun e=>by rw [e,Nat.mul_zero] at hi;omega
 have hm:i % z.size < z.size:=Nat.mod_lt _ hz
 rw [getElem!_pos z _ hm]
 exact h _ (Array.getElem_mem _)
theorem run_clear_rows {P:Program} (w:World) (t e ty:TypeId) (z:Value) (ht:P.underlying t=some (.slice e)) (hv:∀w,(zeroValue e).run P w=.ok z w) (h1:∀u∈z.cells,u.oneCell'=true) (b o n c:Nat) (hn:0 < n)
  (hc:∀j,j < n * z.cells.size→(w.cell? ⟨b,o+j,none⟩).isSome=true) (hf:∀j,j < n * z.cells.size→w.frozen? ⟨b,o+j,none⟩=false) :
  (Builtin.clear_ #[t] ty #[.slice (some ⟨b,o,none⟩) n c]).run P w=.ok (.tuple #[]) (w.setCells b o (Builtin.zeroCells z.cells n).toList):=by
 have hst:=run_storeCells_cells (P:=P) b o (Builtin.zeroCells z.cells n).toList 0 w (by rw [zeroCells_len];simpa using hc) (by rw [zeroCells_len];simpa using hf) (zeroCells_one _ h1 _)
 simp only [Nat.add_zero] at hst
 obtain ⟨m,rfl⟩:∃m,n=m+1:=⟨n - 1,by omega⟩
 simp [Builtin.clear_,run_underlying ht,hv,hst]
theorem zeroValue_of {P:Program} {e:TypeId} {z:Value} {size bytes:Nat} (h:(P.info? e).map (fun i=>(i.zero,i.size,i.bytes))=some (some z,size,bytes)):∀w,(zeroValue e).run P w=.ok z w:=fun w=>by
 obtain ⟨i,hi,hzz⟩:=Option.map_eq_some_iff.1 h
 simp only [Prod.mk.injEq] at hzz
 obtain ⟨hz, -, -⟩:=hzz
 simp [zeroValue,typeInfo,hi,hz]
theorem fidx_some {α:Type} {p:α→Bool} {xs:List α} (h:xs.any p=true):∃k,∃hk:k < xs.length,fidx p xs=k∧p xs[k]=true∧(xs.take k).filter (fun x=>!p x)=xs.take k:=by
 have hk:xs.findIdx p < xs.length:=List.findIdx_lt_length_of_exists (by obtain ⟨x,hx,hp⟩:=List.any_eq_true.1 h;exact ⟨x,hx,hp⟩)
 refine ⟨_,hk,by unfold fidx;rw [if_pos h],List.findIdx_getElem (w:=hk),?_⟩
 rw [List.filter_eq_self]
 intro x hx
 obtain ⟨i,hi,rfl⟩:=List.mem_take_iff_getElem.1 hx
 have:=List.not_of_lt_findIdx (p:=p) (xs:=xs) (show i < xs.findIdx p by omega)
 simpa using this
theorem fidx_all {α:Type} {p:α→Bool} {xs:List α} (h:¬xs.any p=true):fidx p xs=-1∧xs.filter (fun x=>!p x)=xs:=by
 refine ⟨by unfold fidx;rw [if_neg h],?_⟩
 rw [List.filter_eq_self]
 intro x hx
 cases hp:p x
 ·rfl
 ·exact absurd (List.any_eq_true.2 ⟨x,hx,hp⟩) h
theorem filter_take_yes {α:Type} {q:α→Bool} {xs:List α} {j:Nat} (h:j < xs.length) (hq:q xs[j]=true):(xs.take (j+1)).filter q=(xs.take j).filter q++[xs[j]]:=by
 rw [List.take_succ_eq_append_getElem h,List.filter_append];simp [hq]
theorem filter_take_no {α:Type} {q:α→Bool} {xs:List α} {j:Nat} (h:j < xs.length) (hq:q xs[j]=false):(xs.take (j+1)).filter q=(xs.take j).filter q:=by
 rw [List.take_succ_eq_append_getElem h,List.filter_append];simp [hq]
theorem same_cells {w:World} {g off n:Nat} {c c':List Value} (h:c.length=n) (h':c'.length=n) (hc:∀j,j < n→w.cell? ⟨g,off+j,none⟩=c[j]?) (hc':∀j,j < n→w.cell? ⟨g,off+j,none⟩=c'[j]?):c=c':=by
 apply List.ext_getElem?
 intro j
 by_cases hj:j < n
 ·rw [←hc j hj,hc' j hj]
 ·rw [List.getElem?_eq_none (by omega),List.getElem?_eq_none (by omega)]
def Gap {α:Type} (O:Elem α) (t:TypeId) (w:World) (g n cap:Nat) (ys:List α) (m:Nat) (zs:List α) (F:List Nat):Prop :=
 ∃c1 jk c3 rest G1 G3,n=ys.length+m+zs.length∧Row w g t (c1++jk++c3++rest)∧n≤cap∧cap≤maxLen∧c1.length+jk.length+c3.length+rest.length=cap * O.sz∧jk.length=m * O.sz ∧
  Flat O w c1 ys G1∧Flat O w c3 zs G3∧F=g::(G1++G3)∧F.Nodup
section
variable {α:Type} {O:Elem α} {t:TypeId} {w:World} {g n cap m:Nat} {ys zs:List α} {F:List Nat}
theorem Gap.start {a:Option Addr} {n:Nat} {xs:List α} (h:Ow O t w (.slice a n cap) xs F) (hn:F.Nodup) (e:xs=ys++zs) (h0:0 < xs.length):∃g,a=some ⟨g,0,none⟩∧n=xs.length∧Gap O t w g n cap ys 0 zs F:=by
 subst e
 rcases h with ⟨_,h1,_⟩|⟨g,cap',cs,rest,G,hv,hr,h3,h4,h5,hf,rfl⟩
 ·rw [h1] at h0;simp at h0
 ·cases hv
  obtain ⟨c1,c2,G1,G2,rfl,rfl,f1,f2⟩:=hf.split
  refine ⟨g,rfl,rfl,c1,[],c2,rest,G1,G2,by simp,by simpa using hr,h3,h4,by simpa using h5,by simp,f1,f2,rfl,hn⟩
theorem Gap.skip {x:α} (h:Gap O t w g n cap ys m (x::zs) F):∃F',Gap O t w g n cap ys (m+1) zs F'∧∀b∈F',b∈F:=by
 obtain ⟨c1,jk,c3,rest,G1,G3,hn,hr,h1,h2,h3,h4,f1,⟨c,c4,Fx,G4,rfl,rfl,hx,f3⟩,rfl,hnd⟩:=h
 have hl:=O.len hx
 refine ⟨g::(G1++G4),⟨c1,jk++c,c4,rest,G1,G4,by simp at hn ⊢;omega,by simpa using hr,h1,h2,by simp at h3 ⊢;omega,by rw [List.length_append,h4,hl,Nat.add_mul];simp,f1,f3,rfl,?_⟩,by intro b hb;simp at hb ⊢;rcases hb with hb|hb|hb <;> simp [hb]⟩
 simp only [List.nodup_cons,List.nodup_append,List.mem_append,not_or] at hnd ⊢
 exact ⟨⟨hnd.1.1,hnd.1.2.2⟩,hnd.2.1,hnd.2.2.1.2.1,fun a ha b hb=>hnd.2.2.2 a ha b (.inr hb)⟩
theorem Gap.first {x:α} (h:Gap O t w g n cap ys m (x::zs) F):∃c Fx,O.rep w c x Fx∧(∀b∈Fx,b∈F)∧∀j,j < O.sz→w.cell? ⟨g,(ys.length+m) * O.sz+j,none⟩=c[j]?:=by
 obtain ⟨c1,jk,c3,rest,G1,G3,hn,hr,h1,h2,h3,h4,f1,⟨c,c4,Fx,G4,rfl,rfl,hx,f3⟩,rfl,hnd⟩:=h
 have hl:=O.len hx
 refine ⟨c,Fx,hx,fun b hb=>by simp [hb],fun j hj=>?_⟩
 have hr':Row w g t ((c1++jk)++c++(c4++rest)):=by simpa using hr
 exact hr'.cellMid (by rw [List.length_append,f1.len,h4,Nat.add_mul]) (by omega)
theorem Gap.move {x:α} (hm:0 < m) (h:Gap O t w g n cap ys m (x::zs) F) :
  (∀j,j < O.sz→(∃u,w.cell? ⟨g,ys.length * O.sz+j,none⟩=some u)∧w.frozen? ⟨g,ys.length * O.sz+j,none⟩=false) ∧
  ∃c Fx,O.rep w c x Fx∧(∀b∈Fx,b∈F)∧(∀j,j < O.sz→w.cell? ⟨g,(ys.length+m) * O.sz+j,none⟩=c[j]?)∧∀w',Below w.heap.size w w'→∃F',Gap O t (putCells w' g (ys.length * O.sz) c) g n cap (ys++[x]) m zs F'∧∀b∈F',b∈F:=by
 obtain ⟨c,Fx,hx0,hxF,hcell⟩:=h.first
 obtain ⟨c1,jk,c3,rest,G1,G3,hn,hr,h1,h2,h3,h4,f1,⟨c',c4,Fx',G4,rfl,rfl,hx,f3⟩,rfl,hnd⟩:=h
 have hl:=O.len hx
 have hl0:=O.len hx0
 obtain ⟨m',rfl⟩:∃m',m=m'+1:=⟨m - 1,by omega⟩
 have hjk:jk=jk.take O.sz++jk.drop O.sz:=by simp
 have hjl:(jk.take O.sz).length=O.sz:=by rw [List.length_take,h4,Nat.add_mul];omega
 have hA:=f1.len
 have hr':Row w g t (c1++jk.take O.sz++(jk.drop O.sz++c'++c4++rest)):=by
  have e:c1++jk.take O.sz++(jk.drop O.sz++c'++c4++rest)=c1++jk++(c'++c4)++rest:=by
   simp only [List.append_assoc]
   rw [←List.append_assoc (jk.take O.sz),List.take_append_drop]
  rw [e];exact hr
 have hcc:c=c':=by
  apply List.ext_getElem? 
  intro j
  by_cases hj:j < O.sz
  ·have hr2:Row w g t ((c1++jk)++c'++(c4++rest)):=by simpa using hr
   rw [←hcell j hj,hr2.cellMid (by rw [List.length_append,hA,h4,←Nat.add_mul]) (by omega)]
  ·rw [List.getElem?_eq_none (by omega),List.getElem?_eq_none (by omega)]
 refine ⟨fun j hj=>⟨⟨_,by rw [hr'.cellMid (j:=j) (by omega) (by omega),List.getElem?_eq_getElem (by omega)]⟩,hr'.frozen _⟩,c,Fx',hcc▸hx,fun b hb=>by simp [hb],hcell,fun w' hb=>?_⟩
 subst hcc
 have hgl:=hr.lt
 have hnd':=hnd
 simp only [List.nodup_cons,List.nodup_append,List.mem_append,not_or] at hnd'
 have hrow:=(hr'.below hb).put c (jk.take O.sz) (p:=ys.length * O.sz) hA.symm (by omega)
 have hfr:∀b,b < w.heap.size→b≠g→(putCells w' g (ys.length * O.sz) c).heap[b]?=w.heap[b]?:=fun b hb1 hb2=>(putCells_other c w' _ b hb2).trans (hb.block b hb1)
 have n1:∀b∈G1,b≠g:=fun b hb e=>hnd'.1.1 (e▸hb)
 have n2:∀b∈Fx',b≠g:=fun b hb e=>hnd'.1.2.1 (e▸hb)
 have n3:∀b∈G4,b≠g:=fun b hb e=>hnd'.1.2.2 (e▸hb)
 refine ⟨g::((G1++Fx')++G4),⟨c1++c,jk.drop O.sz++c,c4,rest,G1++Fx',G4,by simp at hn ⊢;omega,?_,h1,h2,?_,?_,?_,f3.frame fun b hb=>hfr b (f3.lt b hb) (n3 b hb),rfl,?_⟩,by intro b hb;simpa [or_assoc] using hb⟩
 ·simpa using hrow
 ·simp [h4,Nat.add_mul] at h3 ⊢;omega
 ·simp [h4,Nat.add_mul];omega
 ·exact (f1.frame fun b hb=>hfr b (f1.lt b hb) (n1 b hb)).append (Flat.one (O.frame hx fun b hb=>hfr b (O.lt hx b hb) (n2 b hb)))
 ·simpa using hnd
theorem Gap.below {w':World} (h:Gap O t w g n cap ys m zs F) (hb:Below w.heap.size w w'):Gap O t w' g n cap ys m zs F:=by
 obtain ⟨c1,jk,c3,rest,G1,G3,hn,hr,h1,h2,h3,h4,f1,f3,hF,hnd⟩:=h
 exact ⟨c1,jk,c3,rest,G1,G3,hn,hr.below hb,h1,h2,h3,h4,f1.frame fun b h=>hb.block b (f1.lt b h),f3.frame fun b h=>hb.block b (f3.lt b h),hF,hnd⟩
theorem Gap.caps (h:Gap O t w g n cap ys m zs F):n=ys.length+m+zs.length∧n≤cap∧cap≤maxLen∧g < w.heap.size∧g∈F∧F.Nodup:=by
 obtain ⟨c1,jk,c3,rest,G1,G3,hn,hr,h1,h2,h3,h4,f1,f3,rfl,hnd⟩:=h
 exact ⟨hn,h1,h2,hr.lt,by simp,hnd⟩
theorem Gap.done {z:Array Value} (hz:z.size=O.sz) (h:Gap O t w g n cap ys m [] F) :
  (∀j,j < m * O.sz→(w.cell? ⟨g,ys.length * O.sz+j,none⟩).isSome=true∧w.frozen? ⟨g,ys.length * O.sz+j,none⟩=false) ∧
  ∃F',Ow O t (w.setCells g (ys.length * O.sz) (Builtin.zeroCells z m).toList) (.slice (some ⟨g,0,none⟩) ys.length cap) ys F'∧F'.Nodup∧∀b∈F',b∈F:=by
 obtain ⟨c1,jk,c3,rest,G1,G3,hn,hr,h1,h2,h3,h4,f1,⟨rfl,rfl⟩,rfl,hnd⟩:=h
 have hA:=f1.len
 simp only [List.append_nil] at hr hnd
 have hr':Row w g t (c1++jk++rest):=hr
 refine ⟨fun j hj=>⟨?_,hr'.frozen _⟩,g::G1,?_,hnd,by simp⟩
 ·rw [hr'.cellMid (j:=j) (by omega) (by omega),List.getElem?_eq_getElem (by omega)];rfl
 ·rw [←putCells_eq w]
  have hrow:=hr'.put (Builtin.zeroCells z m).toList jk (p:=ys.length * O.sz) hA.symm (by rw [zeroCells_len,h4,hz])
  have hng:g ∉ G1:=by simp at hnd;exact hnd.1
  refine .inr ⟨g,cap,c1,(Builtin.zeroCells z m).toList++rest,G1,rfl,by simpa using hrow,by simp at hn;omega,h2,?_,f1.frame fun b hb=>putCells_other _ _ _ _ fun e=>hng (e▸hb),rfl⟩
  rw [List.length_append,zeroCells_len,hz,←h4];simp at h3;omega
end
theorem IndexFunc_Entry (fid:FuncId) (hbd:Body Tryz.prog fid) (caps:Array Value) (v:Value) (xs:List Entry) (F:List Nat) (p:Entry→Bool) (w:World) (h:Sl EEntry w v xs F)
  (hp:∀(k:Nat) (hk:k < xs.length) (wr:World) (u:Value) (G:List Nat),Below w.heap.size w wr→IsV EEntry wr u xs[k] G→Calls Tryz.prog fid (#[u]++caps) wr fun e w'=>e=.returned (.bool (p xs[k]))∧Below wr.heap.size wr w') :
  Calls Tryz.prog 272 #[v,.func (.func fid) #[] caps] w fun e w'=>e=.returned (.int .i64 (fidx p xs))∧Below w.heap.size w w':=by
 obtain ⟨a,cap,rfl⟩:=h.slice
 have hl:=h.len
 unfold maxLen at hl
 go_enter Tryz.func272,Tryz.ntmps272
 go_wp2
 go_loopw [5,8] (fun _ i wr=>∃k:Nat,k≤xs.length∧i=.int .i64 k∧Hid (∀j,j < k→∀hj:j < xs.length,p xs[j]=false)∧Below w.heap.size w wr) (fun _ i _=>xs.length - (intOf i).toNat)
 case atStart=>exact ⟨0,Nat.zero_le _,rfl,fun j hj=>by omega,Below.refl _ _⟩
 case round =>
  obtain ⟨k,hk,rfl,hz,hB⟩:=hrel
  by_cases hlt:k < xs.length
  ·have hz0:=hz;clear hz
   obtain ⟨b,off,_,F1,rfl,hx, -,ja⟩:=(h.below (by decide) hB).at k hlt
   obtain ⟨v1,rfl,h1⟩:=id hx
   have a0:=ja 0 (by decide)
   have a1:=ja 1 (by decide)
   have a2:=ja 2 (by decide)
   simp only [show EEntry.sz=3 from rfl,Nat.mul_one,Nat.add_zero,List.getElem?_cons_zero,List.getElem?_cons_succ] at a0 a1 a2
   clear ja
   have hr:=hp k hlt wr _ F1 hB ⟨_,rfl,hx⟩
   have hp:=Lib.hid hp
   cases hpk:p xs[k]
   all_goals
    rw [hpk] at hr
    have hpk:=Lib.hid hpk
    have hr:=Lib.hid hr
    go_wp2_with fail
    refine hbd.upon hr.out ?_
    rintro e w1 ⟨rfl,hb1⟩
    refine ⟨_,rfl,?_⟩
    have hB:=tr hB hb1 (Nat.le_refl _)
    clear hb1
    go_wp2_with fail
   ·exact ⟨⟨k+1,by omega,by go_num,fun j hj hl=>by rcases Nat.lt_or_eq_of_le (Nat.le_of_lt_succ hj) with h|h;exact hz0.out j h hl;subst h;exact hpk.out,hB⟩,by simp [intOf];omega⟩
   ·go_ret
    exact ⟨ret_int (fidx_hit hlt hz0.out hpk.out).symm,hB⟩
  ·go_wp2
   go_ret
   exact ⟨ret_int (fidx_none (fun j hj=>hz.out j (by omega) hj)).symm,hB⟩
theorem ContainsFunc_Entry (fid:FuncId) (hbd:Body Tryz.prog fid) (caps:Array Value) (v:Value) (xs:List Entry) (F:List Nat) (p:Entry→Bool) (w:World) (h:Sl EEntry w v xs F)
  (hp:∀(k:Nat) (hk:k < xs.length) (wr:World) (u:Value) (G:List Nat),Below w.heap.size w wr→IsV EEntry wr u xs[k] G→Calls Tryz.prog fid (#[u]++caps) wr fun e w'=>e=.returned (.bool (p xs[k]))∧Below wr.heap.size wr w') :
  Calls Tryz.prog 248 #[v,.func (.func fid) #[] caps] w fun e w'=>e=.returned (.bool (xs.any p))∧Below w.heap.size w w':=by
 have hp:=Lib.hid hp
 go_enter Tryz.func248,Tryz.ntmps248
 go_wp2_with fail
 refine (IndexFunc_Entry fid hbd caps v xs F p _ h hp.out).mono ?_
 rintro e w1 ⟨rfl,hb1⟩
 go_wp2_with fail
 go_ret
 exact ⟨ret_bool (fidx_any p xs),hb1⟩
theorem Clone_Entry (v:Value) (xs:List Entry) (F:List Nat) (w:World) (h:Sl EEntry w v xs F) (hm:xs.length≤4294967296) :
  Calls Tryz.prog 188 #[v] w fun e w'=>∃v' F',e=.returned v'∧Ow EEntry 231 w' v' xs F'∧Hd F'∧(∀b,v'.ownBlock=some b→w.heap.size≤b)∧(∀b∈F',v'.ownBlock=some b∨b∈F)∧Below w.heap.size w w':=by
 obtain ⟨ao,c,news,Fy,rfl,hl,hfy,hFy,hsrc⟩:=h.src
 have hFl:=hfy.lt
 have he:=fun w (a:Option Addr) (n c:Nat)=>Lib.run_eql_slice_nil (P:=Tryz.prog) w 140 _ a n c 0 0 Tryz.underlying140
 go_enter Tryz.func188,Tryz.ntmps188
 rcases hsrc with ⟨rfl,rfl,rfl⟩|⟨ad,rfl,hn⟩
 ·go_wp2
  go_ret
  exact ⟨.slice none 0 0,[],rfl,.inl ⟨rfl,rfl,rfl⟩,Hd.nil,(fun b e=>by simp [Value.ownBlock] at e),by simp,Below.refl _ _⟩
 ·go_wp2_with (at_builtin;refine wpList_apd one_EEntry (by decide) (by rfl) _ _ _ (by rfl) 231 (.agg #[.int .i64 0,.slice none 0 0,.int .i64 0]) 40 Tryz.underlying140 info_Entry rfl (.slice (some ⟨w.heap.size,0,none⟩) 0 0) [] [w.heap.size] (by rfl) (Ow.empty (Row.made _ _ _)) (Hd.one _) (some ad) xs c (by rfl) news Fy (hfy.frame fun b hb=>Below.heap_alloc _ _ _ (hFl b hb)) (.inr ⟨ad,rfl,fun j u hu=>kc ((Below.refl _ _).alloc (Nat.le_refl _) _) (hn j u hu)⟩) (fun b hb e=>by have:=hFl b hb;simp [Value.ownBlock] at e;omega) (by simpa using hl) (by unfold maxLen at hl;simp;omega) ?_)
  intro v2 w2 F2 hA
  go_wp2_with fail
  go_ret
  have hB:Below w.heap.size w w2:=((Below.refl _ _).alloc (Nat.le_refl _) _).trans (hA.keep.below (by simp) (by simp))
  have hs:∀b,v2.ownBlock=some b→w.heap.size≤b:=fun b hb=>by rcases hA.same with e|e <;> rw [e] at hb <;> simp [Value.ownBlock] at hb <;> omega
  refine ⟨v2,F2,rfl,by simpa using hA.ow,hA.hd,hs,fun b hb=>?_,hB⟩
  rw [hA.form [] (by simp [Value.ownBlock])] at hb
  simp at hb
  rcases hb with hb|hb
  ·exact .inl hb
  ·exact .inr (hFy b hb)
theorem DeleteFunc_Entry (fid:FuncId) (hbd:Body Tryz.prog fid) (caps:Array Value) (v:Value) (xs:List Entry) (F:List Nat) (p:Entry→Bool) (w:World) (h:Ow OEntry 231 w v xs F) (hn:F.Nodup)
  (hp:∀(k:Nat) (hk:k < xs.length) (wr:World) (u:Value) (G:List Nat),Keep F w wr→IsV EEntry wr u xs[k] G→Calls Tryz.prog fid (#[u]++caps) wr fun e w'=>e=.returned (.bool (p xs[k]))∧Below wr.heap.size wr w') :
  Calls Tryz.prog 205 #[v,.func (.func fid) #[] caps] w fun e w'=>∃v' F',e=.returned v'∧Ow OEntry 231 w' v' (xs.filter fun x=>!p x) F'∧F'.Nodup∧(∀b∈F',b∈F)∧Keep F w w':=by
 obtain ⟨F1,hF1,hs⟩:=h.sl weak_Entry
 obtain ⟨a,cap,rfl⟩:=h.slice
 have hl:=h.len
 unfold maxLen at hl
 have hp:=Lib.hid hp
 go_enter Tryz.func205,Tryz.ntmps205
 go_wp2_with fail
 refine (IndexFunc_Entry fid hbd caps _ xs F1 p _ hs (fun k hk wr u G hb hu=>hp.out k hk wr u G (Keep.ofBelow hb) hu)).mono ?_
 rintro e w1 ⟨rfl,hb1⟩
 have hK1:=Keep.ofBelow (F:=F) hb1
 by_cases hany:xs.any p=true
 ·obtain ⟨k0,hk0,hfx,hpk,hfl⟩:=fidx_some hany
  rw [hfx]
  obtain ⟨g,rfl, -,hg0⟩:=Gap.start (h.below hb1) hn (ys:=xs.take k0) (zs:=xs[k0]::xs.drop (k0+1)) (by simp) (by omega)
  obtain ⟨F0,hg0,hF0⟩:=hg0.skip
  have hG0:=Lib.hid hg0
  clear hg0
  have hk1:((k0:Int) == -1)=false:=by simp
  go_wp2_with fail
  go_loopw [5,6,7] (fun i j _ wr=>∃(q m:Nat) (F1:List Nat),q≤xs.length∧0 < m∧((xs.take q).filter fun x=>!p x).length+m=q∧i=.int .i64 ((xs.take q).filter fun x=>!p x).length∧j=.int .i64 q∧Hid (Gap OEntry 231 wr g xs.length cap ((xs.take q).filter fun x=>!p x) m (xs.drop q) F1)∧(∀b∈F1,b∈F)∧Keep F w wr) (fun _ j _ _=>xs.length - (intOf j).toNat)
  case atStart=>exact ⟨k0+1,1,F0,hk0,by omega,by rw [filter_take_no hk0 (by simp [hpk]),hfl];simp;omega,by rw [filter_take_no hk0 (by simp [hpk]),hfl];simp;omega,by go_num,by rw [filter_take_no hk0 (by simp [hpk]),hfl];exact hG0,hF0,hK1⟩
  case round =>
   obtain ⟨q,m,F1,hq,hm,hlen,rfl,rfl,hG,hF1,hK⟩:=hrel
   obtain ⟨-,hcap, -⟩:=hG.out.caps
   generalize hys:((xs.take q).filter fun x=>!p x)=ys at *
   by_cases hlt:q < xs.length
   ·rw [List.drop_eq_getElem_cons hlt] at hG
    obtain ⟨c,Fx,hx,hFx,hcell⟩:=hG.out.first
    obtain ⟨Fx2, -,hxe⟩:=weak_Entry.rep hx
    obtain ⟨v1,rfl,h1⟩:=id hx
    obtain ⟨d1,p1,rfl⟩:=h1.slice
    have a0:=hcell 0 (by decide)
    have a1:=hcell 1 (by decide)
    have a2:=hcell 2 (by decide)
    simp only [hlen,show OEntry.sz=3 from rfl,Nat.mul_one,Nat.add_zero,List.getElem?_cons_zero,List.getElem?_cons_succ] at a0 a1 a2
    have hr:=fun A=>hp.out q hlt (wr.alloc A) _ Fx2 (hK.alloc A) ⟨_,rfl,EEntry.below hxe ((Below.refl wr.heap.size wr).alloc (Nat.le_refl _) A)⟩
    cases hpq:p xs[q]
    ·obtain ⟨st,c2,Fx3,hx3, -,hcell2,back⟩:=hG.out.move hm
     simp only [hpq] at hr
     obtain rfl:=same_cells (OEntry.len hx) (OEntry.len hx3) hcell hcell2
     have st:=st
     obtain ⟨⟨x0,z0⟩,g0⟩:=st 0 (by decide)
     obtain ⟨⟨x1,z1⟩,g1⟩:=st 1 (by decide)
     obtain ⟨⟨x2,z2⟩,g2⟩:=st 2 (by decide)
     simp only [show OEntry.sz=3 from rfl,Nat.mul_one,Nat.add_zero] at z0 g0 z1 g1 z2 g2
     have hr:=Lib.hid hr;have hbk:=Lib.hid back;have hpq:=Lib.hid hpq;have hys:=Lib.hid hys;have hlen:=Lib.hid hlen
     have hyl:ys.length < xs.length:=by have:=hlen.out;omega
     clear hx hxe hcell hcell2 hx3 back st hfx hpk hfl
     go_wp2_with fail
     refine hbd.upon (hr.out _) ?_
     rintro e w2 ⟨rfl,hb2⟩
     refine ⟨_,rfl,?_⟩
     have b2:=(Row.below (g:=wr.heap.size) (t:=231) (cs:=[.int .i64 xs[q].number,.slice d1 xs[q].faces.length p1,.int .i64 xs[q].untl]) (by simp [row_alloc]) hb2).cells
     have hbb:=tr ((Below.refl wr.heap.size wr).alloc (Nat.le_refl _) _) hb2 (Nat.le_refl _)
     clear hb2
     have g0:=(kf hbb z0).trans g0;have z0:=kc hbb z0
     have g1:=(kf hbb z1).trans g1;have z1:=kc hbb z1
     have g2:=(kf hbb z2).trans g2;have z2:=kc hbb z2
     obtain ⟨F2,hg2,hF2⟩:=hbk.out w2 hbb
     simp only [putCells,show OEntry.sz=3 from rfl,Nat.mul_one] at hg2
     have hg2:=Lib.hid hg2
     have hgF:g∈F:=hF1 g hG.out.caps.2.2.2.2.1
     go_wp2_with fail
     exact ⟨⟨q+1,m,F2,by omega,hm,by rw [filter_take_yes hlt (by simp [hpq.out]),hys.out];have:=hlen.out;simp;omega,by rw [filter_take_yes hlt (by simp [hpq.out]),hys.out,List.length_append];go_num,by go_num,by rw [filter_take_yes hlt (by simp [hpq.out]),hys.out];exact hg2.out,fun b hb=>hF1 b (hF2 b hb),by (repeat (refine Keep.setCell ?_ hgF _));exact hK.trans (Keep.ofBelow hbb)⟩,by simp [intOf];omega⟩
    ·obtain ⟨F2,hg2,hF2⟩:=hG.out.skip
     simp only [hpq] at hr
     have hr:=Lib.hid hr;have hg2:=Lib.hid hg2;have hpq:=Lib.hid hpq;have hys:=Lib.hid hys;have hlen:=Lib.hid hlen
     clear hx hxe hcell hfx hpk hfl
     go_wp2_with fail
     refine hbd.upon (hr.out _) ?_
     rintro e w2 ⟨rfl,hb2⟩
     refine ⟨_,rfl,?_⟩
     have hbb:=tr ((Below.refl wr.heap.size wr).alloc (Nat.le_refl _) _) hb2 (Nat.le_refl _)
     clear hb2
     go_wp2_with fail
     exact ⟨⟨q+1,m+1,F2,by omega,by omega,by rw [filter_take_no hlt (by simp [hpq.out]),hys.out];have:=hlen.out;omega,by rw [filter_take_no hlt (by simp [hpq.out]),hys.out],by go_num,by rw [filter_take_no hlt (by simp [hpq.out]),hys.out];exact hg2.out.below hbb,fun b hb=>hF1 b (hF2 b hb),hK.trans (Keep.ofBelow hbb)⟩,by simp [intOf];omega⟩
   ·have hqe:q=xs.length:=by omega
    subst hqe
    simp only [List.drop_length,List.take_length] at hG hys
    obtain ⟨hc,F2,ho2,hn2,hF2⟩:=hG.out.done (z:=#[.int .i64 0,.slice none 0 0,.int .i64 0]) rfl
    have hmm:xs.length - ys.length=m:=by omega
    have hcl:=fun ty=>run_clear_rows (P:=Tryz.prog) wr 140 231 ty (.agg #[.int .i64 0,.slice none 0 0,.int .i64 0]) Tryz.underlying140 (zeroValue_of info_Entry) (by simp [Value.cells,Value.oneCell']) g (ys.length * 3) m (cap - ys.length) hm (fun j hj=>(hc j hj).1) (fun j hj=>(hc j hj).2)
    have hyl:ys.length < xs.length:=by omega
    have hgF:g∈F:=hF1 g hG.out.caps.2.2.2.2.1
    have hO:=Lib.hid ho2;have hlen:=Lib.hid hlen;have hys:=Lib.hid hys
    clear ho2 hc hfx hpk hfl
    go_wp2_with fail
    go_ret
    refine ⟨_,F2,rfl,by rw [hys.out];exact hO.out,hn2,fun b hb=>hF1 b (hF2 b hb),hK.trans ?_⟩
    rw [←putCells_eq wr];exact (putCells_keep _ _ _).mono (fun b hb _=>by simp at hb;subst hb;exact hgF)
 ·obtain ⟨hfx,hfl⟩:=fidx_all hany
  rw [hfx]
  go_wp2_with fail
  go_ret
  exact ⟨_,F,rfl,by rw [hfl];exact h.below hb1,hn,fun b hb=>hb,hK1⟩
def okEntry (c:Int) (x:Entry):Bool:=isSer x.number && (decide (0 < x.faces.length) && (rising 1 7 x.faces && btw (c+1) x.untl (c+6)))
def entAt (c:Int) (es:List Entry) (i:Nat):Bool:=match es[i]? with
 | none=>true
 | some x=>okEntry c x && !((es.take i).any fun o=>o.number == x.number)
theorem entAt_of {c:Int} {es:List Entry} {i:Nat} (h:i < es.length):entAt c es i=(okEntry c es[i] && !((es.take i).any fun o=>o.number == es[i].number)):=by
 simp [entAt,h]
def goodElement (e:Element):Bool:=isClk e.clock && decide (e.entries.length≤5) && allUpTo (entAt e.clock e.entries) e.entries.length
theorem isClk_iff {c:Int}:isClk c=true↔0≤c∧c≤9999:=by unfold isClk btw;simp
theorem any_take {es:List Entry} {m k:Nat} {p:Entry→Bool} (h:m < es.length) (hk:m < k) (hp:p es[m]=true):(es.take k).any p=true:=by
 rw [List.any_eq_true];exact ⟨es[m],List.mem_take_iff_getElem.2 ⟨m,by omega,rfl⟩,hp⟩
theorem any_take_no {es:List Entry} {k:Nat} {n:Int} (h:∀q,q < k→∀hq:q < es.length,es[q].number≠n):((es.take k).any fun o=>o.number == n)=false:=by
 rw [List.any_eq_false];intro x hx
 obtain ⟨i,hi,rfl⟩:=List.mem_take_iff_getElem.1 hx
 simpa using h i (by omega) (by omega)
theorem wrap_clk {c d:Int} (h:isClk c=true) (h1:0≤d) (h2:d≤100):wrap64 (c+d)=c+d:=by
 have:=isClk_iff.1 h;unfold wrap64;omega
theorem good_no {e:Element} {k:Nat} (hk:k < e.entries.length) (h:isClk e.clock=true→entAt e.clock e.entries k=false):goodElement e=false:=by
 unfold goodElement
 cases hc:isClk e.clock
 ·rfl
 ·rw [allUpTo_no hk (h hc)];simp
theorem IsValidElement_1_c (x:Entry) (num:Int) (b:Nat) (G:List Nat) (u:Value) (w:World) (h:IsV EEntry w u x G) (hc:w.cell? ⟨b,0,none⟩=some (.int .i64 num)) :
  Calls Tryz.prog 249 #[u,.pointer (some ⟨b,0,none⟩)] w fun e w'=>e=.returned (.bool (x.number == num))∧Below w.heap.size w w':=by
 obtain ⟨_,rfl,v1,rfl, -⟩:=h
 have hc1:=fun o:Obj=>kc ((Below.refl w.heap.size w).alloc (Nat.le_refl _) o) hc
 go_enter Tryz.func249,Tryz.ntmps249
 go_wp2
 go_ret
 exact ⟨ret_bool rfl,(Below.refl _ _).alloc (Nat.le_refl _) _⟩
theorem IsValidElement_c (v:Value) (e:Element) (F:List Nat) (w:World) (h:IsV EElement w v e F) :
  Calls Tryz.prog 183 #[v] w fun e' w'=>e'=.returned (.bool (goodElement e))∧Below w.heap.size w w':=by
 obtain ⟨_,rfl,v1,rfl,h1⟩:=h
 obtain ⟨a,cap,rfl⟩:=h1.slice
 have hl:=h1.len
 unfold maxLen at hl
 have hB0:∀A:Obj,Below w.heap.size w (w.alloc A):=fun A=>(Below.refl _ _).alloc (Nat.le_refl _) _
 go_enter Tryz.func183,Tryz.ntmps183
 go_wp2
 go_loopw [3,4,8] (fun _ _ i wr=>∃k:Nat,k≤e.entries.length∧i=.int .i64 k∧Hid (isClk e.clock=true→∀j,j < k→entAt e.clock e.entries j=true)∧Row wr w.heap.size 142 [.int .i64 e.clock,.slice a e.entries.length cap]∧Below w.heap.size w wr) (fun _ _ i _=>e.entries.length - (intOf i).toNat)
 case atStart=>exact ⟨0,Nat.zero_le _,rfl,fun _ j hj=>by omega,by simp [row_alloc],hB0 _⟩
 case round =>
  obtain ⟨k,hk,rfl,hz,hr,hB⟩:=hrel
  have c0:=hr.cells
  by_cases hlt:k < e.entries.length
  ·have hz0:=hz;clear hz
   obtain ⟨b,off,_,F1,rfl,hx, -,ja⟩:=(h1.below (by decide) hB).at k hlt
   obtain ⟨u1,rfl,hf⟩:=id hx
   obtain ⟨fa,fc,rfl⟩:=hf.slice
   have a0:=ja 0 (by decide)
   have a1:=ja 1 (by decide)
   have a2:=ja 2 (by decide)
   simp only [show EEntry.sz=3 from rfl,Nat.mul_one,Nat.add_zero,List.getElem?_cons_zero,List.getElem?_cons_succ] at a0 a1 a2
   clear ja
   have d0:=fun A=>(hr.alloc A).cells
   have hf1:=fun A:Obj=>hf.below (by decide) ((Below.refl wr.heap.size wr).alloc (Nat.le_refl _) A)
   have hB1:=fun A:Obj=>tr hB ((Below.refl wr.heap.size wr).alloc (Nat.le_refl _) A) (Nat.le_refl _)
   have hcp:=h1.caps
   by_cases hfe:e.entries[k].faces=[]
   ·have hE:((e.entries[k].faces.length:Int) == 0)=true:=by simp [hfe]
    have hno:=Lib.hid (good_no hlt (fun _=>by rw [entAt_of hlt];simp [okEntry,hfe]))
    go_wp2_with (first
     | (go_at_call 174;refine (IsSerial_c _ _).mono ?_;rintro e' w' ⟨rfl,rfl⟩)
     | (go_at_call 247;refine (areFaces_c _ _ _ _ (hf1 _)).mono ?_;rintro e' w' ⟨rfl,rfl⟩)
     | (go_at_call 64;refine (within_c _ _ _ _).mono ?_;rintro e' w' ⟨rfl,rfl⟩))
    all_goals go_ret
    all_goals exact ⟨ret_bool hno.out.symm,hB1 _⟩
   ·have hE:((e.entries[k].faces.length:Int) == 0)=false:=by simp [hfe]
    have hfe:=Lib.hid hfe
    go_wp2_with (first
     | (go_at_call 174;refine (IsSerial_c _ _).mono ?_;rintro e' w' ⟨rfl,rfl⟩)
     | (go_at_call 247;refine (areFaces_c _ _ _ _ (hf1 _)).mono ?_;rintro e' w' ⟨rfl,rfl⟩)
     | (go_at_call 64;refine (within_c _ _ _ _).mono ?_;rintro e' w' ⟨rfl,rfl⟩))
    ·have t:(!btw (wrap64 (e.clock+1)) e.entries[k].untl (wrap64 (e.clock+6)))=true:=by assumption
     go_ret
     refine ⟨ret_bool (good_no hlt fun hc=>?_).symm,hB1 _⟩
     rw [wrap_clk hc (by omega) (by omega),wrap_clk hc (by omega) (by omega)] at t
     rw [entAt_of hlt];simp only [okEntry];simp at t;simp [t]
    ·have t1:isSer e.entries[k].number=true:=by assumption
     have t2:rising 1 7 e.entries[k].faces=true:=by assumption
     have t:(!btw (wrap64 (e.clock+1)) e.entries[k].untl (wrap64 (e.clock+6)))=false:=by assumption
     obtain ⟨G, -,hs⟩:=h1.takeS k hk
     refine (ContainsFunc_Entry _ (.mk' Tryz.func249 rfl rfl) _ _ _ _ (fun o=>o.number == e.entries[k].number) _ (hs.below (by decide) (hB1 _)) ?_).mono ?_
     ·intro j hj w2 u G2 hb2 hu
      exact IsValidElement_1_c _ _ _ _ _ _ hu (kc hb2 (by simp))
     rintro e' w2 ⟨rfl,hb2⟩
     have hr2:=(hr.alloc _).below hb2
     have hB2:=tr (hB1 _) hb2 (Nat.le_refl _)
     have hc2:=hr2.cells
     have hAt:=Lib.hid (entAt_of (c:=e.clock) hlt)
     cases hany:(e.entries.take k).any fun o=>o.number == e.entries[k].number
     ·rw [hany] at hAt
      have hany:=Lib.hid hany
      go_wp2_with fail
      refine ⟨⟨k+1,by omega,by go_num,fun hc=>upto_snoc (hz0.out hc) ?_,hr2,hB2⟩,by simp [intOf];omega⟩
      rw [wrap_clk hc (by omega) (by omega),wrap_clk hc (by omega) (by omega)] at t
      rw [hAt.out];simp only [okEntry,t1,t2];simp at t;simp [t,List.length_pos_iff,hfe.out]
     ·rw [hany] at hAt
      have hany:=Lib.hid hany
      go_wp2_with fail
      go_ret
      exact ⟨ret_bool (good_no hlt fun _=>by rw [hAt.out];simp).symm,hB2⟩
    ·have t:¬rising 1 7 e.entries[k].faces=true:=by assumption
     go_ret
     refine ⟨ret_bool (good_no hlt fun hc=>?_).symm,hB1 _⟩
     rw [entAt_of hlt];simp [okEntry,t]
    ·have t:¬isSer e.entries[k].number=true:=by assumption
     go_ret
     refine ⟨ret_bool (good_no hlt fun hc=>?_).symm,hB1 _⟩
     rw [entAt_of hlt];simp [okEntry,t]
  ·have hk:k=e.entries.length:=by omega
   subst hk
   have hz0:=hz;clear hz
   cases hck:isClk e.clock
   ·have hn:=Lib.hid (show goodElement e=false by unfold goodElement;rw [hck];rfl)
    have hck:=Lib.hid hck
    go_wp2_with (go_at_call 173;refine (isClock_c _ _).mono ?_;rintro e' w' ⟨rfl,rfl⟩;rw [hck.out])
    go_ret
    exact ⟨ret_bool hn.out.symm,hB⟩
   ·have hn:=Lib.hid (show goodElement e=decide ((e.entries.length:Int)≤5) by unfold goodElement;rw [hck,allUpTo_yes (hz0.out hck)];simp;omega)
    have hck:=Lib.hid hck
    go_wp2_with (go_at_call 173;refine (isClock_c _ _).mono ?_;rintro e' w' ⟨rfl,rfl⟩;rw [hck.out])
    go_ret
    exact ⟨ret_bool hn.out.symm,hB⟩
theorem l14Good_c (v:Value) (e:Element) (F:List Nat) (w:World) (h:IsV EElement w v e F) :
  Calls Tryz.prog 151 #[v] w fun e' w'=>e'=.returned (.bool (goodElement e))∧Below w.heap.size w w':=by
 obtain ⟨_,rfl,v1,rfl,h1⟩:=h
 obtain ⟨a,cap,rfl⟩:=h1.slice
 have hl:=h1.len
 unfold maxLen at hl
 have hB0:∀A:Obj,Below w.heap.size w (w.alloc A):=fun A=>(Below.refl _ _).alloc (Nat.le_refl _) _
 go_enter Tryz.func151,Tryz.ntmps151
 cases hck:isClk e.clock
 ·have hn:=Lib.hid (show goodElement e=false by unfold goodElement;rw [hck];rfl)
  have hck:=Lib.hid hck
  go_wp2_with (go_at_call 147;refine (l11Clock_c _ _).mono ?_;rintro e' w' ⟨rfl,rfl⟩;rw [hck.out])
  go_ret
  exact ⟨ret_bool hn.out.symm,hB0 _⟩
 by_cases h5:¬(e.entries.length:Int)≤5
 ·have hn:=Lib.hid (show goodElement e=false by unfold goodElement;rw [hck,decide_eq_false (by omega)];rfl)
  have hck:=Lib.hid hck
  go_wp2_with (go_at_call 147;refine (l11Clock_c _ _).mono ?_;rintro e' w' ⟨rfl,rfl⟩;rw [hck.out])
  go_ret
  exact ⟨ret_bool hn.out.symm,hB0 _⟩
 have h5:(e.entries.length:Int)≤5:=by omega
 have hcb:=isClk_iff.1 hck
 have hgood:=Lib.hid (show goodElement e=allUpTo (entAt e.clock e.entries) e.entries.length by unfold goodElement;rw [hck,decide_eq_true (by omega)];rfl)
 have hck:=Lib.hid hck
 go_wp2_with (go_at_call 147;refine (l11Clock_c _ _).mono ?_;rintro e' w' ⟨rfl,rfl⟩;rw [hck.out])
 go_loopw [3,4,5] (fun i _ _ wr=>∃k:Nat,k≤e.entries.length∧i=.int .i64 k∧Hid (∀j,j < k→entAt e.clock e.entries j=true)∧Row wr w.heap.size 142 [.int .i64 e.clock,.slice a e.entries.length cap]∧Below w.heap.size w wr) (fun i _ _ _=>e.entries.length - (intOf i).toNat)
 case atStart=>exact ⟨0,Nat.zero_le _,rfl,fun j hj=>by omega,by simp [row_alloc],hB0 _⟩
 case round =>
  obtain ⟨k,hk,rfl,hz,hr,hB⟩:=hrel
  have c0:=hr.cells
  by_cases hlt:k < e.entries.length
  ·have hz0:=hz;clear hz
   obtain ⟨b,off,_,F1,rfl,hx, -,ja⟩:=(h1.below (by decide) hB).at k hlt
   obtain ⟨u1,rfl,hf⟩:=id hx
   obtain ⟨fa,fc,rfl⟩:=hf.slice
   have a0:=ja 0 (by decide)
   have a1:=ja 1 (by decide)
   have a2:=ja 2 (by decide)
   simp only [show EEntry.sz=3 from rfl,Nat.add_zero,List.getElem?_cons_zero,List.getElem?_cons_succ] at a0 a1 a2
   clear ja
   have d0:=fun A=>(hr.alloc A).cells
   have hf1:=fun A:Obj=>hf.below (by decide) ((Below.refl wr.heap.size wr).alloc (Nat.le_refl _) A)
   have hB1:=fun A:Obj=>tr hB ((Below.refl wr.heap.size wr).alloc (Nat.le_refl _) A) (Nat.le_refl _)
   by_cases hfe:e.entries[k].faces=[]
   ·have hE:((e.entries[k].faces.length:Int) == 0)=true:=by simp [hfe]
    have hno:=Lib.hid (good_no hlt (fun _=>by rw [entAt_of hlt];simp [okEntry,hfe]))
    go_wp2_with (go_at_call 148;refine (l2Good_c _ _).mono ?_;rintro e' w' ⟨rfl,rfl⟩)
    all_goals go_ret
    all_goals exact ⟨ret_bool hno.out.symm,hB1 _⟩
   ·have hE:((e.entries[k].faces.length:Int) == 0)=false:=by simp [hfe]
    have hfe:=Lib.hid hfe
    go_wp2_with (go_at_call 148;refine (l2Good_c _ _).mono ?_;rintro e' w' ⟨rfl,rfl⟩)
    ·have t1:isSer e.entries[k].number=true:=by assumption
     refine (l14Faces_c _ _ _ _ (hf1 _)).mono ?_
     rintro e' w2 ⟨rfl,hb2⟩
     have hr2:=(hr.alloc _).below hb2
     have q2:=Row.below (g:=wr.heap.size) (t:=231) (cs:=[.int .i64 e.entries[k].number,.slice fa e.entries[k].faces.length fc,.int .i64 e.entries[k].untl]) (by simp [row_alloc]) hb2
     have hB2:=tr (hB1 _) hb2 (Nat.le_refl _)
     have c2:=hr2.cells;have d2:=q2.cells
     clear hb2
     cases t2:rising 1 7 e.entries[k].faces
     ·have hno:=Lib.hid (good_no hlt (fun _=>by rw [entAt_of hlt];simp [okEntry,t2]))
      go_wp2_with fail
      go_ret
      exact ⟨ret_bool hno.out.symm,hB2⟩
     cases t3:btw (e.clock+1) e.entries[k].untl (e.clock+6)
     ·have hno:=Lib.hid (good_no hlt (fun _=>by rw [entAt_of hlt];simp [okEntry,t3]))
      have t3:=Lib.hid t3
      go_wp2_with (go_at_call 63;refine (l1In_c _ _ _ _).mono ?_;rintro e' w' ⟨rfl,rfl⟩;rw [t3.out])
      go_ret
      exact ⟨ret_bool hno.out.symm,hB2⟩
     have hAt:=Lib.hid (show entAt e.clock e.entries k = !((e.entries.take k).any fun o=>o.number == e.entries[k].number) by rw [entAt_of hlt];simp [okEntry,t1,t2,t3,List.length_pos_iff,hfe.out])
     have t3:=Lib.hid t3
     clear t1 t2 hE hf1 hx
     go_wp2_with (go_at_call 63;refine (l1In_c _ _ _ _).mono ?_;rintro e' w' ⟨rfl,rfl⟩;rw [t3.out])
     go_loopw [5] (fun j wr2=>∃m:Nat,m≤k∧j=.int .i64 m∧Hid (∀q,q < m→∀hq:q < e.entries.length,e.entries[q].number≠e.entries[k].number)∧Row wr2 w.heap.size 142 [.int .i64 e.clock,.slice (some ⟨b,off,none⟩) e.entries.length cap]∧Row wr2 wr.heap.size 231 [.int .i64 e.entries[k].number,.slice fa e.entries[k].faces.length fc,.int .i64 e.entries[k].untl]∧Below w.heap.size w wr2) (fun j _=>k - (intOf j).toNat)
     case atStart=>exact ⟨0,Nat.zero_le _,rfl,fun q hq=>by omega,hr2,q2,hB2⟩
     case round =>
      obtain ⟨m,hm,rfl,hy,hr3,q3,hB3⟩:=hrel
      rename_i wr2
      have c3:=hr3.cells;have d3:=q3.cells
      by_cases hlm:m < k
      ·have hy0:=hy;clear hy
       obtain ⟨bb,oo,_,F2,he,hx2, -,jb⟩:=(h1.below (by decide) hB3).at m (by omega)
       cases he
       obtain ⟨u2,rfl, -⟩:=hx2
       have b0:=jb 0 (by decide)
       simp only [show EEntry.sz=3 from rfl,Nat.add_zero,List.getElem?_cons_zero] at b0
       clear jb
       have hmi:m < e.entries.length:=by omega
       by_cases hnum:e.entries[m].number=e.entries[k].number
       ·have hno:=Lib.hid (good_no hlt fun _=>by rw [hAt.out,any_take hmi hlm (by simpa using hnum)];rfl)
        have hEq:(e.entries[m].number == e.entries[k].number)=true:=by simpa using hnum
        go_wp2_with fail
        go_quiet (fail)
        go_wp2_with fail
        go_ret
        exact ⟨ret_bool hno.out.symm,belowDrewN hB3 _⟩
       ·have hEq:(e.entries[m].number == e.entries[k].number)=false:=by simpa using hnum
        have hnum:=Lib.hid hnum
        go_wp2_with fail
        go_quiet (fail)
        go_wp2_with fail
        exact ⟨⟨m+1,by omega,by go_num,fun q hq hql=>by rcases Nat.lt_or_eq_of_le (Nat.le_of_lt_succ hq) with h|h;exact hy0.out q h hql;subst h;exact hnum.out,hr3,q3,belowDrewN hB3 _⟩,by simp [intOf];omega⟩
      ·have hmk:m=k:=by omega
       subst hmk
       have hat:entAt e.clock e.entries m=true:=by
        rw [hAt.out,any_take_no hy.out];rfl
       have hat:=Lib.hid hat
       have hy0:=hy;clear hy
       go_wp2_with fail
       exact ⟨⟨m+1,by omega,by go_num,upto_snoc hz0.out hat.out,hr3,hB3⟩,by simp [intOf];omega⟩
    ·have t:¬isSer e.entries[k].number=true:=by assumption
     go_ret
     refine ⟨ret_bool (good_no hlt fun hc=>?_).symm,hB1 _⟩
     rw [entAt_of hlt];simp [okEntry,t]
  ·have hk:k=e.entries.length:=by omega
   subst hk
   have hn:=Lib.hid (show goodElement e=true by rw [hgood.out,allUpTo_yes hz.out])
   have hz0:=hz;clear hz
   go_wp2_with fail
   go_ret
   exact ⟨ret_bool hn.out.symm,hB⟩
theorem IsV.keep {α:Type} {E:Elem α} {w w':World} {v x F K} (h:IsV E w v x F) (hk:Keep K w w') (hd:∀b∈F,b ∉ K):IsV E w' v x F:=by
 obtain ⟨cs,hv,h⟩:=h;exact ⟨cs,hv,E.frame h fun b hb=>hk.block b (E.lt h b hb) (hd b hb)⟩
theorem IsV.lt {α:Type} {E:Elem α} {w:World} {v x F} (h:IsV E w v x F):∀b∈F,b < w.heap.size:=by
 obtain ⟨cs,hv,h⟩:=h;exact E.lt h
theorem IsV.drewN {α:Type} {E:Elem α} {w:World} {v x F} (h:IsV E w v x F) (n:Nat):IsV E (w.drewN n) v x F:=by
 obtain ⟨cs,hv,h⟩:=h;exact ⟨cs,hv,E.frame h fun _ _=>rfl⟩
theorem Sl.drewN {α:Type} {E:Elem α} {w:World} {v} {xs:List α} {F} (h:Sl E w v xs F) (n:Nat):Sl E (w.drewN n) v xs F:=h.frame fun _ _=>rfl
theorem Sl.keep {α:Type} {E:Elem α} {w w':World} {v} {xs:List α} {F K} (h:Sl E w v xs F) (hk:Keep K w w') (hd:∀b∈F,b ∉ K) (hz:0 < E.sz:=by decide):Sl E w' v xs F :=
 h.frame fun b hb=>hk.block b (h.lt hz b hb) (hd b hb)
theorem Ow.drewN {α:Type} {E:Elem α} {t:TypeId} {w:World} {v} {xs:List α} {F} (h:Ow E t w v xs F) (n:Nat):Ow E t (w.drewN n) v xs F:=h.frame fun _ _=>rfl
theorem Row.drewN {w g t cs} (h:Row w g t cs) (n:Nat):Row (w.drewN n) g t cs:=h
section
variable {P:Program} {ops:Array Oper} {Q:Exit→Act→World→Prop} {md:Region.Mode} {S:World→Prop} {X:Nat→Bool}
def AnyX (P:Program) (md:Region.Mode) (ops:Array Oper) (Q:Exit→Act→World→Prop) (S:World→Prop) (X:Nat→Bool):Nat→Array Bool→Act→World→Prop
 | 0,listed,a,w=>Region.ready md ops listed=[]∧Q .normal a w
 | f+1,listed,a,w=>(Region.ready md ops listed=[]→Q .normal a w) ∧
  ∀i∈Region.ready md ops listed,wpOp P ops Q i (fun a' w'=>(X i=false→S w')∧AnyX P md ops Q S X f (listed.setIfInBounds i true) a' w') a w
theorem AnyX.any:∀(f:Nat) (listed:Array Bool) (a:Act) (w:World),AnyX P md ops Q S X f listed a w→wpAny P md ops Q f listed a w
 | 0,_,_,_,h=>h
 | f+1,_,_,_,h=>⟨h.1,fun i hi=>wpOp_mono (fun a' w' h'=>AnyX.any f _ a' w' h'.2) (h.2 i hi)⟩
def Closed (md:Region.Mode) (ops:Array Oper) (listed:Array Bool):Prop:=∀j oj,ops[j]?=some oj→listed.getD j false=true→∀e∈oj.after,Region.binds md e=true→listed.getD e.on false=true
def closedB (md:Region.Mode) (ops:Array Oper) (listed:Array Bool):Bool :=
 (List.range ops.size).all fun j=>!listed.getD j false || ((ops[j]?).map fun o=>o.after.all fun e=>!Region.binds md e || listed.getD e.on false).getD true
theorem closed_of {listed:Array Bool} (h:closedB md ops listed=true):Closed md ops listed:=fun j oj hj hl e he hb=>by
 have h1:=List.all_eq_true.1 h j (List.mem_range.2 (Array.getElem?_eq_some_iff.1 hj).1)
 rw [hl,hj] at h1
 simp only [Bool.not_true,Bool.false_or,Option.map_some,Option.getD_some] at h1
 have h2:=Array.all_eq_true'.1 h1 e he
 rw [hb] at h2;simpa using h2
theorem Closed.set {listed:Array Bool} {i:Nat} (h:Closed md ops listed) (hi:i∈Region.ready md ops listed):Closed md ops (listed.setIfInBounds i true):=fun j oj hj hl e he hb=>by
 obtain ⟨_,oi,hoi,hall⟩:=mem_ready.1 hi
 by_cases hij:i=j
 ·subst hij
  obtain rfl:=Option.some.inj (hj.symm.trans hoi)
  exact getD_set_true (hall e he hb)
 ·rw [getD_set_ne false hij] at hl
  exact getD_set_true (h j oj hj hl e he hb)
def waitsFor' (md:Region.Mode) (ops:Array Oper) (i:Nat):Nat→Nat→Bool
 | 0,_=>false
 | f+1,j=>((ops[j]?).map fun o=>o.after.any fun e=>Region.binds md e && (e.on == i || waitsFor' md ops i f e.on)).getD false
theorem waits_listed {listed:Array Bool} {i:Nat} (hc:Closed md ops listed):∀(f j:Nat),(∀oj,ops[j]?=some oj→∀e∈oj.after,Region.binds md e=true→listed.getD e.on false=true)→waitsFor' md ops i f j=true→listed.getD i false=true
 | 0,_,_,h=>by cases h
 | f+1,j,hd,h=>by
  unfold waitsFor' at h
  cases hj:ops[j]? with
  | none=>rw [hj] at h;cases h
  | some o =>
   rw [hj] at h
   simp only [Option.map_some,Option.getD_some] at h
   obtain ⟨e,he,hb⟩:=Array.any_eq_true'.1 h
   simp only [Bool.and_eq_true,Bool.or_eq_true,beq_iff_eq] at hb
   have h1:=hd o hj e he hb.1
   rcases hb.2 with h2|h2
   ·rw [←h2];exact h1
   ·exact waits_listed hc f e.on (fun oe ho=>hc e.on oe ho h1) h2
def waitsAll (md:Region.Mode) (ops:Array Oper) (X:Nat→Bool) (i:Nat):Bool:=(List.range ops.size).all fun j=>!X j || waitsFor' md ops i ops.size j
theorem unlisted {listed:Array Bool} {i:Nat} (h:listed.getD i true=false):listed.getD i false=false:=by
 rcases Nat.lt_or_ge i listed.size with h'|h'
 ·simp [h'] at h ⊢;exact h
 ·simp [Array.getElem?_eq_none h'] at h
theorem AnyX.first {i:Nat} {oi:Oper} {v:Value} (hi:ops[i]?=some oi) (hsel:∀(j:Nat) (o:Oper) cs b,ops[j]?=some o→o.op≠.select cs b)
  (hQ:∀c a w,Q (.panic c) (a.put oi.dst v) w→Q (.panic c) a w) (hX:waitsAll md ops X i=true) :
  ∀(f:Nat) (listed:Array Bool) (a:Act) (w:World),
   (∀j oj,ops[j]?=some oj→j≠i→listed.getD j true=false→(∀e∈oj.after,Region.binds md e=true→e.on≠i)→oi.apart ops oj=true) →
   Closed md ops listed→i∈Region.ready md ops listed→YieldsIf P ops S oi v a→S w→AnyX P md ops Q S X f (listed.setIfInBounds i true) (a.put oi.dst v) w→AnyX P md ops Q S X (f+1) listed a w:=by
 intro f
 induction f with
 | zero =>
  intro listed a w _ _ hr hy hS H
  refine ⟨fun h=>(by rw [h] at hr;cases hr),fun j hj=>?_⟩
  by_cases hji:j=i
  ·subst hji;exact hy.wpOp hi hS ⟨fun _=>hS,H⟩
  ·have:=ready_mono hj hji
   rw [H.1] at this;cases this
 | succ f ih =>
  intro listed a w hfree hcl hr hy hS H
  refine ⟨fun h=>(by rw [h] at hr;cases hr),fun j hj=>?_⟩
  by_cases hji:j=i
  ·subst hji;exact hy.wpOp hi hS ⟨fun _=>hS,H⟩
  ·obtain ⟨hju,oj,hoj,hall⟩:=mem_ready.1 hj
   have hiu:=unlisted (mem_ready.1 hr).1
   have hnot:∀e∈oj.after,Region.binds md e=true→e.on≠i:=fun e he hb heq=>by
    have h1:=hall e he hb
    rw [heq,hiu] at h1;cases h1
   have hXj:X j=false:=by
    cases hx:X j
    ·rfl
    ·have h1:=List.all_eq_true.1 hX j (List.mem_range.2 (Array.getElem?_eq_some_iff.1 hoj).1)
     rw [hx] at h1
     have h2:=waits_listed hcl ops.size j (fun o ho=>by obtain rfl:=Option.some.inj (ho.symm.trans hoj);exact hall) (by simpa using h1)
     rw [hiu] at h2;cases h2
   have h2:=wpOp_putIf hoj (hfree j oj hoj hji hju hnot) (fun cs b=>hsel i oi cs b hi) (fun cs b=>hsel j oj cs b hoj) hQ hy (H.2 j (ready_mono hj hji))
   refine wpOp_mono (fun a' w' h3=>⟨fun _=>h3.2.1 hXj,ih (listed.setIfInBounds j true) a' w' (fun k ok hk hki hun hno=>hfree k ok hk hki ?_ hno) (hcl.set hj) (ready_mono hr (Ne.symm hji)) h3.1 (h3.2.1 hXj) ?_⟩) h2
   ·by_cases hjk:j=k
    ·subst hjk;exact hju
    ·rw [getD_set_ne true hjk] at hun;exact hun
   ·rw [Array.setIfInBounds_comm _ _ hji];exact h3.2.2
theorem AnyX.take {i:Nat} {oi:Oper} {v:Value} {f:Nat} {listed:Array Bool} {a:Act} {w:World} (hi:ops[i]?=some oi)
  (hs:Region.noSelect ops=true) (hf:Region.free md ops listed i=true) (hr:(Region.ready md ops listed).contains i=true) (hX:waitsAll md ops X i=true) (hc:closedB md ops listed=true)
  (hQ:∀c a w,Q (.panic c) (a.put oi.dst v) w→Q (.panic c) a w) (hy:YieldsIf P ops S oi v a) (hS:S w)
  (h:AnyX P md ops Q S X f (listed.setIfInBounds i true) (a.put oi.dst v) w):AnyX P md ops Q S X (f+1) listed a w :=
 AnyX.first hi (Region.noSelect_spec hs) hQ hX f listed a w (Region.free_spec hi hf) (closed_of hc) (by simpa using hr) hy hS h
theorem AnyX.only {i:Nat} {o:Oper} {f:Nat} {listed:Array Bool} {a:Act} {w:World} (hr:Region.ready md ops listed=[i]) (ho:ops[i]?=some o)
  (h:∀K':Act→World→Prop,Shut (∀a w,(X i=false→S w)→AnyX P md ops Q S X f (listed.setIfInBounds i true) a w→K' a w)→if Region.wanted o (yielded ops a.tmps)=true then Oper.wp P o a w K' Q else K' (a.put o.dst undef) w) :
  AnyX P md ops Q S X (f+1) listed a w :=
 by
 refine ⟨fun h0=>(by rw [hr] at h0;cases h0),fun j hj=>?_⟩
 rw [hr] at hj
 obtain rfl:j=i:=by simpa using hj
 exact wpOp_step ho (fun K' hK=>h K' (fun a w hS hW=>hK a w ⟨hS,hW⟩))
theorem AnyX.two {i j:Nat} {oi oj:Oper} {f:Nat} {listed:Array Bool} {a:Act} {w:World} (hr:Region.ready md ops listed=[i,j]) (hoi:ops[i]?=some oi) (hoj:ops[j]?=some oj)
  (h:∀K':Act→World→Prop,Shut (∀a w,(X i=false→S w)→AnyX P md ops Q S X f (listed.setIfInBounds i true) a w→K' a w)→if Region.wanted oi (yielded ops a.tmps)=true then Oper.wp P oi a w K' Q else K' (a.put oi.dst undef) w)
  (h2:∀K':Act→World→Prop,Shut (∀a w,(X j=false→S w)→AnyX P md ops Q S X f (listed.setIfInBounds j true) a w→K' a w)→if Region.wanted oj (yielded ops a.tmps)=true then Oper.wp P oj a w K' Q else K' (a.put oj.dst undef) w) :
  AnyX P md ops Q S X (f+1) listed a w:=by
 refine ⟨fun h0=>(by rw [hr] at h0;cases h0),fun k hk=>?_⟩
 rw [hr] at hk
 simp only [List.mem_cons,List.not_mem_nil,or_false] at hk
 rcases hk with rfl|rfl
 ·exact wpOp_step hoi (fun K' hK=>h K' (fun a w hS hW=>hK a w ⟨hS,hW⟩))
 ·exact wpOp_step hoj (fun K' hK=>h2 K' (fun a w hS hW=>hK a w ⟨hS,hW⟩))
theorem AnyX.done {listed:Array Bool} {a:Act} {w:World} (hr:Region.ready md ops listed=[]) (h:Q .normal a w):∀f,AnyX P md ops Q S X f listed a w
 | 0=>⟨hr,h⟩
 | _+1=>⟨fun _=>h,by rw [hr];simp⟩
theorem AnyX.start {id:Nat} {a:Act} {w:World} (hm:P.follows .mixedOrders=true) (h:AnyX P .any ops Q S X ops.size (Array.replicate ops.size false) a w.drew):(Code.region id ops true).wp P Q a w :=
 wp_region_any hm (AnyX.any _ _ _ _ h)
end
inductive Pc:Type 1
 | row (g:Nat) (t:TypeId) (o:Nat) (A cs B:List Value)
 | sl {α:Type} (E:Elem α) (v:Value) (xs:List α) (F:List Nat)
 | ow {α:Type} (E:Elem α) (t:TypeId) (v:Value) (xs:List α) (F:List Nat)
 | isv {α:Type} (E:Elem α) (v:Value) (x:α) (F:List Nat)
 | own {α:Type} (E:Elem α) (v:Value) (x:α) (F:List Nat)
 | cel (b o:Nat) (cs:List Value)
 | flat {α:Type} (E:Elem α) (cs:List Value) (xs:List α) (F:List Nat)
def Pc.P:Pc→World→Prop
 | .row g t o A cs B,w=>A.length=o∧Row w g t (A++cs++B)
 | .sl E v xs F,w=>0 < E.sz∧Sl E w v xs F
 | .ow E t v xs F,w=>F.Nodup∧Ow E t w v xs F
 | .isv E v x F,w=>IsV E w v x F
 | .own E v x F,w=>F.Nodup∧IsV E w v x F
 | .cel b o cs,w=>cs≠[]∧w.rangeAt b o cs
 | .flat E cs xs F,w=>F.Nodup∧Flat E w cs xs F
def Pc.F:Pc→List Nat
 | .row g ..=>[g]
 | .sl _ _ _ F|.ow _ _ _ _ F|.isv _ _ _ F|.own _ _ _ F|.flat _ _ _ F=>F
 | .cel b ..=>[b]
def Pc.mu:Pc→Bool
 | .row .. | .ow .. | .own .. | .flat ..=>true
 | _=>false
theorem Pc.st (p:Pc) {w w':World} (h:p.P w) (hF:∀b∈p.F,w'.heap[b]?=w.heap[b]?):p.P w':=by
 cases p with
 | row g t o A cs B=>exact ⟨h.1,h.2.keep (hF g (by simp [Pc.F]))⟩
 | sl E v xs F=>exact ⟨h.1,h.2.frame hF⟩
 | ow E t v xs F=>exact ⟨h.1,h.2.frame hF⟩
 | isv E v x F=>obtain ⟨cs,hv,h⟩:=h;exact ⟨cs,hv,E.frame h hF⟩
 | own E v x F=>obtain ⟨hn,cs,hv,h⟩:=h;exact ⟨hn,cs,hv,E.frame h hF⟩
 | cel b o cs=>exact ⟨h.1,fun j v hv=>(World.cell?_of_block (w:=w) (hF b (by simp [Pc.F]))).trans (h.2 j v hv)⟩
 | flat E cs xs F=>exact ⟨h.1,h.2.frame hF⟩
theorem Pc.lt (p:Pc) {w:World} (h:p.P w):∀b∈p.F,b < w.heap.size:=by
 cases p with
 | row g t o A cs B=>intro b hb;simp [Pc.F] at hb;subst hb;exact h.2.lt
 | sl E v xs F=>exact h.2.lt h.1
 | ow E t v xs F=>exact h.2.lt
 | isv E v x F=>obtain ⟨cs,hv,h⟩:=h;exact E.lt h
 | own E v x F=>obtain ⟨_,cs,hv,h⟩:=h;exact E.lt h
 | cel b o cs =>
  intro c hc
  simp [Pc.F] at hc;subst hc
  cases cs with
  | nil=>exact absurd rfl h.1
  | cons v r=>exact World.block_lt_of_cell? w _ (h.2 0 v rfl)
 | flat E cs xs F=>exact h.2.lt
def Apart (p q:Pc):Prop:=(p.mu || q.mu)=true→∀b∈p.F,b ∉ q.F
theorem Apart.symm {p q:Pc} (h:Apart p q):Apart q p:=fun hm b hb hp=>h (by rw [Bool.or_comm];exact hm) b hp hb
def Sep:List Pc→Prop
 | []=>True
 | p::R=>(∀q∈R,Apart p q)∧Sep R
def Hol (H:List Pc) (w:World):Prop:=∀p∈H,p.P w
theorem hol1 {p:Pc} {w:World} (h:p.P w):Hol [p] w:=fun q hq=>by simp at hq;subst hq;exact h
def fp:List Pc→List Nat
 | []=>[]
 | p::R=>p.F++fp R
theorem mem_fp {b:Nat}:∀{H:List Pc},b∈fp H↔∃p∈H,b∈p.F
 | []=>by simp [fp]
 | p::R=>by simp [fp,mem_fp (H:=R)]
theorem Hol.st {H:List Pc} {w w':World} (h:Hol H w) (hF:∀p∈H,∀b∈p.F,w'.heap[b]?=w.heap[b]?):Hol H w':=fun p hp=>p.st (h p hp) (hF p hp)
theorem Hol.below {H:List Pc} {w w':World} (h:Hol H w) (hb:Below w.heap.size w w'):Hol H w':=h.st fun p hp b hm=>hb.block b (p.lt (h p hp) b hm)
structure St (G D:List Nat) (w0:World) (H:List Pc) (w:World):Prop where
 keep:Keep G w0 w
 on:Hol H w
 sep:Sep H
 mine:∀p∈H,∀b∈p.F,b∈G∨w0.heap.size≤b∨(p.mu=false∧b∈D)
section
variable {G D:List Nat} {w0:World}
theorem Sep.perm2 {p q:Pc} {R:List Pc} (h:Sep (p::q::R)):Sep (q::p::R) :=
 ⟨fun x hx=>by
  rcases List.mem_cons.1 hx with rfl|hx
  ·exact (h.1 q (by simp)).symm
  ·exact h.2.1 x hx,fun x hx=>h.1 x (by simp [hx]),h.2.2⟩
inductive Pick:List Pc→Pc→List Pc→Prop
 | here {p R}:Pick (p::R) p R
 | there {x p R R'}:Pick R p R'→Pick (x::R) p (x::R')
theorem Pick.mem {H p R} (h:Pick H p R):p∈H:=by
 induction h with
 | here=>simp
 | there _ ih=>simp [ih]
theorem Pick.sub {H p R} (h:Pick H p R):∀q∈R,q∈H:=by
 induction h with
 | here=>intro q hq;simp [hq]
 | there _ ih =>
  intro q hq
  rcases List.mem_cons.1 hq with rfl|hq
  ·simp
  ·simp [ih q hq]
theorem Pick.sep {H p R} (h:Pick H p R) (hs:Sep H):Sep (p::R):=by
 induction h with
 | here=>exact hs
 | @there x p R R' h ih =>
  have h2:=ih hs.2
  exact Sep.perm2 ⟨fun q hq=>by
   rcases List.mem_cons.1 hq with rfl|hq
   ·exact hs.1 _ h.mem
   ·exact hs.1 _ (h.sub q hq),h2⟩
theorem St.pick {H p R w} (s:St G D w0 H w) (h:Pick H p R):St G D w0 (p::R) w :=
 ⟨s.keep,fun q hq=>by
  rcases List.mem_cons.1 hq with rfl|hq
  ·exact s.on _ h.mem
  ·exact s.on _ (h.sub q hq),h.sep s.sep,fun q hq=>by
  rcases List.mem_cons.1 hq with rfl|hq
  ·exact s.mine _ h.mem
  ·exact s.mine _ (h.sub q hq)⟩
theorem St.tail {p R w} (s:St G D w0 (p::R) w):St G D w0 R w:=⟨s.keep,fun q hq=>s.on q (by simp [hq]),s.sep.2,fun q hq=>s.mine q (by simp [hq])⟩
theorem St.get {H p w} (s:St G D w0 H w) (h:p∈H):p.P w:=s.on p h
theorem St.turn {M R N:List Pc} {w w':World} (s:St G D w0 (M++R) w) (hk:Keep (fp (M.filter (·.mu))) w w') (hN:Hol N w') (hs:Sep N)
  (hF:∀p∈N,∀b∈p.F,w.heap.size≤b∨(∃q∈M,q.mu=true∧b∈q.F)∨(p.mu=false∧∃q∈M++R,q.mu=false∧b∈q.F)):St G D w0 (N++R) w':=by
 have hsep:∀(A B:List Pc),Sep (A++B)→Sep A∧Sep B∧∀p∈A,∀q∈B,Apart p q:=by
  intro A
  induction A with
  | nil=>intro B h;exact ⟨trivial,h,by simp⟩
  | cons p A ih =>
   intro B h
   obtain ⟨h1,h2,h3⟩:=ih B h.2
   exact ⟨⟨fun q hq=>h.1 q (by simp [hq]),h1⟩,h2,fun x hx q hq=>by
    rcases List.mem_cons.1 hx with rfl|hx
    ·exact h.1 q (by simp [hq])
    ·exact h3 x hx q hq⟩
 have hjoin:∀(A B:List Pc),Sep A→Sep B→(∀p∈A,∀q∈B,Apart p q)→Sep (A++B):=by
  intro A
  induction A with
  | nil=>intro B _ h _;exact h
  | cons p A ih =>
   intro B hA hB h
   exact ⟨fun q hq=>by
    rcases List.mem_append.1 hq with hq|hq
    ·exact hA.1 q hq
    ·exact h p (by simp) q hq,ih B hA.2 hB fun x hx q hq=>h x (by simp [hx]) q hq⟩
 obtain ⟨sM,sR,sMR⟩:=hsep M R s.sep
 have hRlt:∀q∈R,∀b∈q.F,b < w.heap.size:=fun q hq=>q.lt (s.on q (by simp [hq]))
 have hMR:∀q∈R,∀b∈q.F,b ∉ fp (M.filter (·.mu)):=fun q hq b hb hm=>by
  obtain ⟨p,hp,hpb⟩:=mem_fp.1 hm
  obtain ⟨hp,hmu⟩:=List.mem_filter.1 hp
  exact sMR p hp q hq (by simp [hmu]) b hpb hb
 have hG:∀b∈fp (M.filter (·.mu)),b∈G∨w0.heap.size≤b:=fun b hb=>by
  obtain ⟨p,hp,hpb⟩:=mem_fp.1 hb
  obtain ⟨hp,hmu⟩:=List.mem_filter.1 hp
  rcases s.mine p (by simp [hp]) b hpb with h|h|⟨h,_⟩
  ·exact .inl h
  ·exact .inr h
  ·rw [hmu] at h;cases h
 refine ⟨⟨hk.os.trans s.keep.os,hk.tape.trans s.keep.tape,hk.output.trans s.keep.output,Nat.le_trans s.keep.size hk.size,fun k hlt hn=>(hk.block k (Nat.lt_of_lt_of_le hlt s.keep.size) fun hm=>?_).trans (s.keep.block k hlt hn)⟩,fun p hp=>?_,hjoin N R hs sR fun p hp q hq hmu b hb hqb=>?_,fun p hp b hb=>?_⟩
 ·rcases hG k hm with h|h
  ·exact hn h
  ·omega
 ·rcases List.mem_append.1 hp with hp|hp
  ·exact hN p hp
  ·exact p.st (s.on p (by simp [hp])) fun b hb=>hk.block b (hRlt p hp b hb) (hMR p hp b hb)
 ·rcases hF p hp b hb with h|⟨m,hm,hmm,hmb⟩|⟨hpm,m,hm,hmm,hmb⟩
  ·have:=hRlt q hq b hqb;omega
  ·exact sMR m hm q hq (by simp [hmm]) b hmb hqb
  ·have hqm:q.mu=true:=by simpa [hpm] using hmu
   rcases List.mem_append.1 hm with hm|hm
   ·exact sMR m hm q hq (by simp [hqm]) b hmb hqb
   ·-- two pieces of R
    have:∀(R:List Pc),Sep R→∀m∈R,∀q∈R,m.mu=false→q.mu=true→∀b∈m.F,b ∉ q.F:=by
     intro R
     induction R with
     | nil=>intro _ m hm;simp at hm
     | cons x R ih =>
      intro hs m hm q hq h1 h2 b hb hqb
      rcases List.mem_cons.1 hm with e|hm2
      ·subst e
       rcases List.mem_cons.1 hq with e|hq2
       ·subst e;rw [h1] at h2;cases h2
       ·exact hs.1 q hq2 (by simp [h2]) b hb hqb
      ·rcases List.mem_cons.1 hq with e|hq2
       ·subst e;exact hs.1 m hm2 (by simp [h2]) b hqb hb
       ·exact ih hs.2 m hm2 q hq2 h1 h2 b hb hqb
    exact this R sR m hm q hq hmm hqm b hmb hqb
 ·rcases List.mem_append.1 hp with hp|hp
  ·rcases hF p hp b hb with h|⟨m,hm,hmm,hmb⟩|⟨hpm,m,hm,hmm,hmb⟩
   ·right;left;exact Nat.le_trans s.keep.size h
   ·rcases s.mine m (by simp [hm]) b hmb with h|h|⟨h,_⟩
    ·exact .inl h
    ·exact .inr (.inl h)
    ·rw [hmm] at h;cases h
   ·rcases s.mine m hm b hmb with h|h|⟨_,h⟩
    ·exact .inl h
    ·exact .inr (.inl h)
    ·exact .inr (.inr ⟨hpm,h⟩)
  ·exact s.mine p (by simp [hp]) b hb
end
abbrev Fr:=List (Nat × Value)
def look:Fr→Nat→Option Value
 | [],_=>none
 | (k,v)::r,t=>bif Nat.beq k t then some v else look r t
def ev (fr:Fr):Operand→Option Value
 | .tmp t=>look fr t
 | .const v=>some v
 | .global g=>some (.pointer (some ⟨g,0,none⟩))
 | .func f=>some (.func (.func f) #[] #[])
inductive Evs (fr:Fr):List Operand→List Value→Prop
 | nil:Evs fr [] []
 | cons {x v xs vs}:ev fr x=some v→Evs fr xs vs→Evs fr (x::xs) (v::vs)
structure Ag (n:Nat) (fr:Fr) (a:Act):Prop where
 df:a.defers=[]
 sz:a.tmps.size=n
 at_:∀t v,look fr t=some v→a.tmps[t]?=some v
theorem Ag.ev {n fr a x v} (h:Ag n fr a) (hx:ev fr x=some v):a.eval x=v:=by
 cases x with
 | tmp t=>have:=h.at_ t v hx;simp [Act.eval,Array.getD_eq_getD_getElem?,this]
 | const u=>simp [Go.Proofs.YtgmbfohkpfineaaGreatDoor.ev] at hx;subst hx;rfl
 | global g=>simp [Go.Proofs.YtgmbfohkpfineaaGreatDoor.ev] at hx;subst hx;rfl
 | func f=>simp [Go.Proofs.YtgmbfohkpfineaaGreatDoor.ev] at hx;subst hx;rfl
theorem Ag.evs {n fr a xs vs} (h:Ag n fr a) (hx:Evs fr xs vs):xs.map a.eval=vs:=by
 induction hx with
 | nil=>rfl
 | cons hx _ ih=>simp [h.ev hx,ih]
theorem look_cons (k:Nat) (v:Value) (r:Fr) (t:Nat):look ((k,v)::r) t=if k=t then some v else look r t:=by
 show (bif Nat.beq k t then some v else look r t)=_
 by_cases h:k=t
 ·subst h;simp
 ·have:Nat.beq k t=false:=by
   cases hb:Nat.beq k t
   ·rfl
   ·exact absurd (Nat.eq_of_beq_eq_true hb) h
  rw [this,if_neg h];rfl
theorem Ag.put {n fr a d v} (h:Ag n fr a) (hd:Nat.blt d n=true):Ag n ((d,v)::fr) (a.put (some d) v):=by
 have hd':d < n:=by simpa using hd
 refine ⟨h.df,by simp [Act.put,h.sz],fun t u hu=>?_⟩
 rw [look_cons] at hu
 show (a.tmps.setIfInBounds d v)[t]?=_
 rw [Array.getElem?_setIfInBounds]
 split at hu
 ·rename_i e;subst e;simp at hu;subst hu;rw [if_pos rfl,if_pos (by rw [h.sz];exact hd')]
 ·rename_i e;rw [if_neg e];exact h.at_ t u hu
inductive FrSub (fr:Fr):Fr→Prop
 | nil:FrSub fr []
 | cons {t v r}:look fr t=some v→FrSub fr r→FrSub fr ((t,v)::r)
theorem FrSub.look {fr fr':Fr} (h:FrSub fr fr'):∀t v,look fr' t=some v→look fr t=some v:=by
 induction h with
 | nil=>intro t v hv;cases hv
 | cons h1 _ ih =>
  intro t v hv
  rw [look_cons] at hv
  split at hv
  ·rename_i e;subst e;rw [←hv];exact h1
  ·exact ih t v hv
theorem Ag.sub {n fr fr' a} (h:Ag n fr a) (hs:FrSub fr fr'):Ag n fr' a:=⟨h.df,h.sz,fun t v hv=>h.at_ t v (hs.look t v hv)⟩
structure Cx where
 P:Program
 G:List Nat
 D:List Nat
 w0:World
 n:Nat
 R:Exit→Act→World→Prop
inductive It
 | cd (c:Code)
 | blk (id:Nat)
 | lp (I:Act→World→Prop)
def run (c:Cx):List It→Exit→Act→World→Prop
 | []=>c.R
 | .cd y::k=>Exit.then (fun a w=>y.wp c.P (run c k) a w) (run c k)
 | .blk id::k=>Exit.inBlock id (run c k)
 | .lp I::k=>Exit.then I (run c k)
inductive Gl
 | code (k:List It) (x:Code)
 | list (k:List It) (ops:Array Oper) (l:List Oper)
 | norm (k:List It)
 | exit (k:List It) (id:Nat)
 | fin (e:Exit)
 | dx (k:List It) (H0:List Pc) (X:List Nat) (ops:Array Oper) (f:Nat) (listed:Array Bool)
 | dk (i:Nat) (k:List It) (H0:List Pc) (X:List Nat) (ops:Array Oper) (f:Nat) (listed:Array Bool)
def Gl.sem (c:Cx):Gl→Act→World→Prop
 | .code k x,a,w=>x.wp c.P (run c k) a w
 | .list k ops l,a,w=>wpList c.P ops (run c k) l a w
 | .norm k,a,w=>run c k .normal a w
 | .exit k id,a,w=>run c k (.exit id) a w
 | .fin e,a,w=>c.R e a w
 | .dx k H0 X ops f listed,a,w=>AnyX c.P .any ops (run c k) (Hol H0) (fun i=>X.contains i) f listed a w
 | .dk i k H0 X ops f listed,a,w=>(X.contains i=false→Hol H0 w)∧AnyX c.P .any ops (run c k) (Hol H0) (fun i=>X.contains i) f listed a w
structure T (c:Cx) (fr:Fr) (H:List Pc) (Φ:Gl):Prop where
 h:∀a w,St c.G c.D c.w0 H w→Ag c.n fr a→Φ.sem c a w
theorem run_ret (c:Cx):∀(k:List It),run c k .ret=c.R .ret
 | []=>rfl
 | .cd _::k=>run_ret c k
 | .blk _::k=>run_ret c k
 | .lp _::k=>run_ret c k
theorem run_panic (c:Cx) (ch:List PanicEntry):∀(k:List It),run c k (.panic ch)=c.R (.panic ch)
 | []=>rfl
 | .cd _::k=>run_panic c ch k
 | .blk _::k=>run_panic c ch k
 | .lp _::k=>run_panic c ch k
inductive HSub:List Pc→List Pc→Prop
 | nil {A}:HSub A []
 | cons {A p R B}:Pick A p R→HSub R B→HSub A (p::B)
section
variable {c:Cx} {fr:Fr} {H:List Pc} {k:List It} {Φ:Gl}
theorem HSub.st {G D w0 w} {H H':List Pc} (h:HSub H H'):∀{X:List Pc},St G D w0 H w→Sep X→(∀p∈X,∀q∈H,Apart p q)→(∀p∈X,p.P w∧∀b∈p.F,b∈G∨w0.heap.size≤b∨(p.mu=false∧b∈D)) →
  (∀q∈H',q∈H)∧Sep H':=by
 induction h with
 | nil=>intro X _ _ _ _;exact ⟨by simp,trivial⟩
 | @cons A p R B hp hs ih =>
  intro X s hX hXa hXp
  have s1:=s.pick hp
  have ⟨h1,h2⟩:=ih (X:=[]) s1.tail trivial (by simp) (by simp)
  exact ⟨fun q hq=>by
   rcases List.mem_cons.1 hq with rfl|hq
   ·exact hp.mem
   ·exact hp.sub q (h1 q hq),fun q hq=>s1.sep.1 q (h1 q hq),h2⟩
theorem St.sub {G D w0 w} {H H':List Pc} (s:St G D w0 H w) (h:HSub H H'):St G D w0 H' w :=
 have ⟨h1,h2⟩:=h.st (X:=[]) s trivial (by simp) (by simp)
 ⟨s.keep,fun p hp=>s.on p (h1 p hp),h2,fun p hp=>s.mine p (h1 p hp)⟩
theorem t_sub (H':List Pc) (h:T c fr H' Φ) (hs:HSub H H':=by repeat (first|exact HSub.nil|refine HSub.cons (by (repeat (first|exact .here|apply Pick.there));first|done|fail) ?_)):T c fr H Φ:=.mk fun a w s g=>h.h a w (s.sub hs) g
theorem t_drop {p:Pc} (h:T c fr H Φ):T c fr (p::H) Φ:=.mk fun a w s g=>h.h a w s.tail g
/-! the rules of control -/
theorem c_seq {x y:Code} (h:T c fr H (.code (.cd y::k) x)):T c fr H (.code k (Code.seq x y)):=.mk fun a w s g=>wp_seq (h.h a w s g)
theorem c_skip (h:T c fr H (.norm k)):T c fr H (.code k Code.skip):=.mk fun a w s g=>wp_skip (h.h a w s g)
theorem c_ret (h:T c fr H (.fin .ret)):T c fr H (.code k Code.ret):=.mk fun a w s g=>wp_ret (by rw [run_ret];exact h.h a w s g)
theorem c_exit {id:Nat} (h:T c fr H (.exit k id)):T c fr H (.code k (Code.exit id)):=.mk fun a w s g=>wp_exit (h.h a w s g)
theorem c_block {id:Nat} {x:Code} (h:T c fr H (.code (.blk id::k) x)):T c fr H (.code k (Code.block id x)):=.mk fun a w s g=>wp_block (h.h a w s g)
theorem c_reg {id:Nat} {l:List Oper} (h:T c fr H (.list k l.toArray l)):T c fr H (.code k (Code.region id l.toArray false)):=.mk fun a w s g=>wp_region_lit (h.h a w s g)
theorem c_t {x:Operand} {y z:Code} (hc:ev fr x=some (.bool true)) (h:T c fr H (.code k y)):T c fr H (.code k (Code.cond x y z)):=.mk fun a w s g=>wp_cond_true (g.ev hc) (h.h a w s g)
theorem c_f {x:Operand} {y z:Code} (hc:ev fr x=some (.bool false)) (h:T c fr H (.code k z)):T c fr H (.code k (Code.cond x y z)):=.mk fun a w s g=>wp_cond_false (g.ev hc) (h.h a w s g)
theorem c_if {x:Operand} {y z:Code} {p:Prop} {_:Decidable p} (hc:ev fr x=some (.bool (decide p))) (h1:p→T c fr H (.code k y)) (h2:¬p→T c fr H (.code k z)) :
  T c fr H (.code k (Code.cond x y z)):=.mk fun a w s g=>by
 by_cases hp:p
 ·exact wp_cond_true (by rw [g.ev hc,decide_eq_true hp]) ((h1 hp).h a w s g)
 ·exact wp_cond_false (by rw [g.ev hc,decide_eq_false hp]) ((h2 hp).h a w s g)
theorem n_cd {y:Code} (h:T c fr H (.code k y)):T c fr H (.norm (.cd y::k)):=⟨h.h⟩
theorem n_blk {id:Nat} (h:T c fr H (.norm k)):T c fr H (.norm (.blk id::k)):=⟨h.h⟩
theorem n_end (h:T c fr H (.fin .normal)):T c fr H (.norm []):=⟨h.h⟩
theorem e_cd {y:Code} {id:Nat} (h:T c fr H (.exit k id)):T c fr H (.exit (.cd y::k) id):=⟨h.h⟩
theorem e_lp {I:Act→World→Prop} {id:Nat} (h:T c fr H (.exit k id)):T c fr H (.exit (.lp I::k) id):=⟨h.h⟩
theorem e_hit {id:Nat} (h:T c fr H (.norm k)):T c fr H (.exit (.blk id::k) id):=.mk fun a w s g=>by
 show (if id=id then run c k .normal a w else run c k (.exit id) a w)
 rw [if_pos rfl];exact h.h a w s g
theorem e_miss {id id':Nat} (hne:Nat.beq id' id=false) (h:T c fr H (.exit k id')):T c fr H (.exit (.blk id::k) id'):=.mk fun a w s g=>by
 show (if id'=id then run c k .normal a w else run c k (.exit id') a w)
 rw [if_neg (fun e=>by rw [e] at hne;simp at hne)];exact h.h a w s g
theorem w_nil {ops:Array Oper} (h:T c fr H (.norm k)):T c fr H (.list k ops []):=⟨h.h⟩
/-! loops -/
theorem least_ex {p:Nat→Prop}:∀n,p n→∃m,p m∧∀j,p j→m≤j:=fun n=>by
 induction n using Nat.strongRecOn with
 | _ n ih =>
  intro hn
  by_cases h:∃j,j < n∧p j
  ·obtain ⟨j,hj,hp⟩:=h;exact ih j hj hp
  ·exact ⟨n,hn,fun j hj=>Nat.le_of_not_lt fun hl=>h ⟨j,hl,hj⟩⟩
theorem wp_loop_m {P:Program} {Q:Exit→Act→World→Prop} {x:Code} {a:Act} {w:World} (I:Nat→Act→World→Prop) (m:Nat) (h0:I m a w)
  (round:∀m a w,I m a w→x.wp P (Exit.then (fun a' w'=>∃m',m' < m∧I m' a' w') Q) a w):(Code.loop x).wp P Q a w:=by
 classical
 refine wp_loop (fun a w=>∃m,I m a w) (fun a w=>if h:∃m,I m a w then Classical.choose (least_ex (p:=fun m=>I m a w) h.choose h.choose_spec) else 0) ⟨m,h0⟩ fun a w hI=>?_
 have hl:=Classical.choose_spec (least_ex (p:=fun m=>I m a w) hI.choose hI.choose_spec)
 refine wp_mono (round _ a w hl.1) fun e a' w' he=>?_
 cases e with
 | normal =>
  obtain ⟨m',hm,hi⟩:=he
  have hex:∃m,I m a' w':=⟨m',hi⟩
  refine ⟨hex,?_⟩
  simp only [dif_pos hI,dif_pos hex]
  exact Nat.lt_of_le_of_lt ((Classical.choose_spec (least_ex (p:=fun m=>I m a' w') hex.choose hex.choose_spec)).2 m' hi) hm
 | _=>exact he
def LpI {σ:Type} (c:Cx) (fr':σ→Fr) (H':σ→List Pc) (C:σ→Prop) (μ:σ→Nat) (m:Nat) (a:Act) (w:World):Prop:=∃s,C s∧μ s=m∧St c.G c.D c.w0 (H' s) w∧Ag c.n (fr' s) a
def LpN {σ:Type} (c:Cx) (fr':σ→Fr) (H':σ→List Pc) (C:σ→Prop) (μ:σ→Nat) (m:Nat) (a:Act) (w:World):Prop:=∃m',m' < m∧LpI c fr' H' C μ m' a w
theorem c_loop {x:Code} {σ:Type} (fr':σ→Fr) (H':σ→List Pc) (C:σ→Prop) (μ:σ→Nat) (s0:σ) (h0:C s0)
  (round:∀s,C s→T c (fr' s) (H' s) (.code (.lp (LpN c fr' H' C μ (μ s))::k) x)) (hf:FrSub fr (fr' s0):=by repeat (first|exact FrSub.nil|refine FrSub.cons (by rfl) ?_)) (hH:HSub H (H' s0):=by repeat (first|exact HSub.nil|refine HSub.cons (by (repeat (first|exact .here|apply Pick.there));first|done|fail) ?_)):T c fr H (.code k (Code.loop x)):=.mk fun a w st g=>by
 refine wp_loop_m (LpI c fr' H' C μ) (μ s0) ⟨s0,h0,rfl,st.sub hH,g.sub hf⟩ fun m a w hI=>?_
 obtain ⟨s,hC,rfl,hst,hg⟩:=hI
 exact (round s hC).h a w hst hg
theorem n_lp {σ:Type} {fr':σ→Fr} {H':σ→List Pc} {C:σ→Prop} {μ:σ→Nat} {m:Nat} (s:σ) (hC:C s) (hm:μ s < m) (hf:FrSub fr (fr' s):=by repeat (first|exact FrSub.nil|refine FrSub.cons (by rfl) ?_)) (hH:HSub H (H' s):=by repeat (first|exact HSub.nil|refine HSub.cons (by (repeat (first|exact .here|apply Pick.there));first|done|fail) ?_)) :
  T c fr H (.norm (.lp (LpN c fr' H' C μ m)::k)):=.mk fun _ _ st g=>⟨μ s,hm,s,hC,rfl,st.sub hH,g.sub hf⟩
end
class OneC (P:Program) (t:TypeId):Prop where
 d:∃d,P.underlying t=some d∧d.isRow=false
 s:(P.info? t).map (·.size)=some 1
class AggC (P:Program) (t:TypeId) (n:outParam Nat):Prop where
 d:∃d,P.underlying t=some d∧d.isRow=true
 s:(P.info? t).map (·.size)=some n
class FldC (P:Program) (t:TypeId) (i:Nat) (off:outParam Nat) (ft:outParam TypeId) (n:outParam Nat):Prop where
 f:∃fs f,P.underlying t=some (.struct fs)∧fs[i]?=some f∧f.offset=off∧f.type=ft
 s:(P.info? ft).map (·.size)=some n
 p:n≠0
class SlC (P:Program) (t:TypeId) (e:outParam TypeId) (n:outParam Nat):Prop where
 u:P.underlying t=some (.slice e)
 s:(P.info? e).map (·.size)=some n
class IntC (P:Program) (t:TypeId) (k:outParam IntKind):Prop where
 u:P.underlying t=some (.int k)
class StrC (P:Program) (t:TypeId):Prop where
 u:P.underlying t=some .string
class BoolC (P:Program) (t:TypeId):Prop where
 u:P.underlying t=some .bool
def ptr (g o j:Nat):Value:=.pointer (some ⟨g,o+j,none⟩)
structure Yd (P:Program) (n:Nat) (fr:Fr) (H:List Pc) (o:Op) (ty:TypeId) (v:Value):Prop where
 h:∀(a:Act) (w:World) (d:Option Tmp) (pos:String) (aft:Array Edge) (g:Option (Nat × Bool)),Ag n fr a→Hol H w→(execOp a.eval ⟨d,o,ty,pos,aft,g⟩).run P w=.ok (.value v) w
theorem list_eq_iff (a b:ByteArray):(a.toList == b.toList)=decide (a=b):=by
 rw [Bool.eq_iff_iff]
 simp only [beq_iff_eq,decide_eq_true_eq,ByteArray.toList_eq]
 exact ⟨fun h=>ByteArray.ext (Array.ext' h),fun h=>by rw [h]⟩
section
variable {P:Program} {n:Nat} {fr:Fr} {H:List Pc} {ty:TypeId} {v u:Value} {x y z:Operand}
theorem size_of {t:TypeId} {n:Nat} (h:(P.info? t).map (·.size)=some n) (w:World):(sizeOf t).run P w=.ok n w:=by
 obtain ⟨i,hi,hn⟩:=Option.map_eq_some_iff.1 h
 simp [sizeOf,typeInfo,hi,hn]
theorem isAgg_no {t:TypeId} (h:∃d,P.underlying t=some d∧d.isRow=false) (w:World):(isAgg t).run P w=.ok false w:=by
 obtain ⟨d,hu,hd⟩:=h
 unfold isAgg
 rw [Sem.run_bind,run_underlying hu w]
 cases d <;> simp_all
theorem isAgg_yes {t:TypeId} (h:∃d,P.underlying t=some d∧d.isRow=true) (w:World):(isAgg t).run P w=.ok true w:=by
 obtain ⟨d,hu,hd⟩:=h
 unfold isAgg
 rw [Sem.run_bind,run_underlying hu w]
 cases d <;> simp_all
theorem yd_move (hx:ev fr x=some v):Yd P n fr H (.move x) ty v:=.mk fun a w d pos aft g hA _=>by
 simp [execOp,hA.ev hx]
theorem yd_assign (hx:ev fr x=some v):Yd P n fr H (.assign x) ty v:=.mk fun a w d pos aft g hA _=>by
 simp [execOp,hA.ev hx]
theorem yd_pick_t (hc:ev fr x=some (.bool true)) (hy:ev fr y=some v):Yd P n fr H (.pick x y z) ty v:=.mk fun a w d pos aft g hA _=>by
 simp [execOp,hA.ev hc,hA.ev hy,asBool]
theorem yd_pick_f (hc:ev fr x=some (.bool false)) (hz:ev fr z=some v):Yd P n fr H (.pick x y z) ty v:=.mk fun a w d pos aft g hA _=>by
 simp [execOp,hA.ev hc,hA.ev hz,asBool]
theorem row_cell {w:World} {g t o j:Nat} {A cs B:List Value} (h:(Pc.row g t o A cs B).P w) (hv:cs[j]?=some v):w.cell? ⟨g,o+j,none⟩=some v:=by
 obtain ⟨rfl,h⟩:=h
 rw [h.cellMid rfl (List.getElem?_eq_some_iff.1 hv).1];exact hv
theorem row_range {w:World} {g t o:Nat} {A cs B:List Value} (h:(Pc.row g t o A cs B).P w):w.rangeAt g o cs:=fun _ _ hv=>row_cell h hv
theorem row_there {w:World} {g t o:Nat} {A cs B:List Value} (h:(Pc.row g t o A cs B).P w):w.there g o cs.length:=fun j hj =>
 ⟨by rw [row_cell h (List.getElem?_eq_getElem hj)];rfl,h.2.frozen _⟩
theorem load_one {t:TypeId} [hT:OneC P t] {w:World} {a:Addr} (h:w.cell? a=some v):(Instr.loadAt t (.pointer (some a))).run P w=.ok v w:=by
 simp [Instr.loadAt,Instr.sureAddr,loadVar,isAgg_no hT.d,h]
theorem yd_ld {t g o j tt:Nat} {A cs B:List Value} [OneC P t] (hx:ev fr x=some (ptr g o j)) (hm:Pc.row g tt o A cs B∈H) (hv:cs[j]?=some v):Yd P n fr H (.load t x) ty v:=.mk fun a w d pos aft gd hA hH=>by
 simp [execOp,hA.ev hx,ptr,load_one (row_cell (hH _ hm) hv)]
theorem yd_ldc {t b o j:Nat} {cs:List Value} [OneC P t] (hx:ev fr x=some (ptr b o j)) (hm:Pc.cel b o cs∈H) (hv:cs[j]?=some v):Yd P n fr H (.load t x) ty v:=.mk fun a w d pos aft gd hA hH=>by
 simp [execOp,hA.ev hx,ptr,load_one ((hH _ hm).2 j v hv)]
inductive Cut:List Value→Nat→Nat→List Value→Prop
 | zero {l}:Cut l 0 0 []
 | one {x l m r}:Cut l 0 m r→Cut (x::l) 0 (m+1) (x::r)
 | skip {x l j m r}:Cut l j m r→Cut (x::l) (j+1) m r
theorem Cut.get {l j m r} (h:Cut l j m r):r.length=m∧∀(i:Nat) u,r[i]?=some u→l[j+i]?=some u:=by
 induction h with
 | zero=>exact ⟨rfl,fun i u h=>by simp at h⟩
 | one _ ih =>
  refine ⟨by simp [ih.1],fun i u h=>?_⟩
  cases i with
  | zero=>simpa using h
  | succ i=>have:=ih.2 i u (by simpa using h);simpa [Nat.add_assoc] using this
 | skip _ ih =>
  refine ⟨ih.1,fun i u h=>?_⟩
  have:=ih.2 i u h
  rwa [show ∀a b:Nat,a+1+b=a+b+1 by omega,List.getElem?_cons_succ]
theorem load_agg {t m:Nat} [hT:AggC P t m] {w:World} {b o j:Nat} {cs r:List Value} (h:w.rangeAt b o cs) (hc:Cut cs j m r):(Instr.loadAt t (.pointer (some ⟨b,o+j,none⟩))).run P w=.ok (.agg r.toArray) w:=by
 obtain ⟨d,hu,hd⟩:=hT.d
 exact run_loadAt_mid w b (o+j) t r d (fun i u hu=>by rw [Nat.add_assoc];exact h _ _ (hc.get.2 i u hu)) hu hd (by rw [hT.s,hc.get.1])
theorem yd_lda {t g o j tt m:Nat} {A cs B r:List Value} [AggC P t m] (hx:ev fr x=some (ptr g o j)) (hm:Pc.row g tt o A cs B∈H) (hc:Cut cs j m r):Yd P n fr H (.load t x) ty (.agg r.toArray):=.mk fun a w d pos aft gd hA hH=>by
 simp [execOp,hA.ev hx,ptr,load_agg (row_range (hH _ hm)) hc]
theorem yd_ldac {t b o j m:Nat} {cs r:List Value} [AggC P t m] (hx:ev fr x=some (ptr b o j)) (hm:Pc.cel b o cs∈H) (hc:Cut cs j m r):Yd P n fr H (.load t x) ty (.agg r.toArray):=.mk fun a w d pos aft gd hA hH=>by
 simp [execOp,hA.ev hx,ptr,load_agg (hH _ hm).2 hc]
theorem yd_fa {t i g o j off ft m:Nat} [hF:FldC P t i off ft m] (hx:ev fr x=some (ptr g o j)):Yd P n fr H (.fieldAddr t x i) ty (ptr g o (j+off)):=.mk fun a w d pos aft gd hA _=>by
 obtain ⟨fs,f,hu,hf,rfl,rfl⟩:=hF.f
 simp [execOp,hA.ev hx,ptr,Instr.fieldAt,run_underlying hu,hf,Instr.sureAddr,fieldPlace,size_of hF.s,hF.p,Addr.add_lit,Nat.add_assoc]
theorem yd_fld {t i off ft m:Nat} {l:List Value} [hF:FldC P t i off ft m] [hT:OneC P ft] (hx:ev fr x=some (.agg l.toArray)) (hv:l[off]?=some v):Yd P n fr H (.field t x i) ty v:=.mk fun a w d pos aft gd hA _=>by
 obtain ⟨fs,f,hu,hf,rfl,rfl⟩:=hF.f
 simp [execOp,hA.ev hx,Instr.field,run_underlying hu,hf,asAgg,part,isAgg_no hT.d,hv]
theorem yd_flda {t i off ft m m':Nat} {l r:List Value} [hF:FldC P t i off ft m] [hT:AggC P ft m'] (hx:ev fr x=some (.agg l.toArray)) (hc:Cut l off m' r):Yd P n fr H (.field t x i) ty (.agg r.toArray):=.mk fun a w d pos aft gd hA _=>by
 obtain ⟨fs,f,hu,hf,rfl,rfl⟩:=hF.f
 have e:l.toArray.extract f.offset (f.offset+m')=r.toArray:=by
  obtain ⟨h1,h2⟩:=hc.get
  apply Array.ext'
  simp only [List.extract_toArray,List.extract_eq_take_drop,Nat.add_sub_cancel_left]
  apply List.ext_getElem?
  intro i
  rw [List.getElem?_take]
  split
  ·rename_i hi
   have hr:r[i]?=some (r[i]'(by omega)):=List.getElem?_eq_getElem (by omega)
   rw [List.getElem?_drop,hr];exact h2 i _ hr
  ·rw [List.getElem?_eq_none (by omega)]
 simp [execOp,hA.ev hx,Instr.field,run_underlying hu,hf,asAgg,part,isAgg_yes hT.d,size_of hT.s,←e]
theorem yd_nil {g o j:Nat} (hx:ev fr x=some (ptr g o j)):Yd P n fr H (.nilCheck x) ty (ptr g o j):=.mk fun a w d pos aft gd hA _=>by
 simp [execOp,hA.ev hx,ptr]
theorem yd_nilf {f:Nat} {l:Array Value} (hx:ev fr x=some (.func (.func f) #[] l)):Yd P n fr H (.nilCheck x) ty (.func (.func f) #[] l):=.mk fun a w d pos aft gd hA _=>by
 simp [execOp,hA.ev hx]
theorem yd_ix {t e m b o len cp:Nat} {kd:IntKind} {i:Int} [hS:SlC P t e m] (hx:ev fr x=some (.slice (some ⟨b,o,none⟩) len cp)) (hy:ev fr y=some (.int kd i)) (h0:0≤i) (h1:i < len) :
  Yd P n fr H (.indexAddr t x y) ty (ptr b (o+i.toNat * m) 0):=.mk fun a w d pos aft gd hA _=>by
 simp [execOp,hA.ev hx,hA.ev hy,Instr.indexAt,run_underlying hS.u,asIntOf,h0,h1,size_of hS.s,Addr.add_lit,ptr]
theorem yd_ixs {t:Nat} {kd:IntKind} {i:Int} {s:ByteArray} [hS:StrC P t] (hx:ev fr x=some (.string s)) (hy:ev fr y=some (.int kd i)) (h0:0≤i) (h1:i.toNat < s.size) :
  Yd P n fr H (.index t x y) ty (.int .u8 (s[i.toNat]'h1).toNat):=.mk fun a w d pos aft gd hA _=>by
 simp [execOp,hA.ev hx,hA.ev hy,Instr.index,run_underlying hS.u,asIntOf,h0,h1]
theorem yd_ex {i:Nat} {l:List Value} (hx:ev fr x=some (.tuple l.toArray)) (hv:l[i]?=some v):Yd P n fr H (.extract x i) ty v:=.mk fun a w d pos aft gd hA _=>by
 simp [execOp,hA.ev hx,Instr.extract,hv]
theorem yd_not {b:Bool} {t:Nat} (hx:ev fr x=some (.bool b)):Yd P n fr H (.unOp .not t x) ty (.bool (!b)):=.mk fun a w d pos aft gd hA _=>by
 simp [execOp,hA.ev hx,Op.unary]
theorem yd_notd {p:Prop} {_:Decidable p} {t:Nat} (hx:ev fr x=some (.bool (decide p))):Yd P n fr H (.unOp .not t x) ty (.bool (decide (¬p))):=.mk fun a w d pos aft gd hA _=>by
 simp [execOp,hA.ev hx,Op.unary]
theorem yd_neg {a:Int} {t:Nat} (hx:ev fr x=some (.int .i64 a)) (h0:-9223372036854775808≤-a) (h1:-a≤9223372036854775807):Yd P n fr H (.unOp .neg t x) ty (.int .i64 (-a)):=.mk fun a w d pos aft gd hA _=>by
 simp [execOp,hA.ev hx,Op.unary,Op.intArith,IntWalk.i64_in _ ⟨h0,h1⟩]
section
variable {a b:Int} {t t':TypeId} (hx:ev fr x=some (.int .i64 a)) (hy:ev fr y=some (.int .i64 b))
include hx hy
theorem yd_add (h0:-9223372036854775808≤a+b) (h1:a+b≤9223372036854775807):Yd P n fr H (.binOp .add t x y t') ty (.int .i64 (a+b)):=.mk fun a w d pos aft gd hA _=>by
 simp [execOp,hA.ev hx,hA.ev hy,eqGuard_add,binOp_add,Op.intArith,IntWalk.i64_in _ ⟨h0,h1⟩]
theorem yd_sub (h0:-9223372036854775808≤a - b) (h1:a - b≤9223372036854775807):Yd P n fr H (.binOp .sub t x y t') ty (.int .i64 (a - b)):=.mk fun a w d pos aft gd hA _=>by
 simp [execOp,hA.ev hx,hA.ev hy,eqGuard_sub,binOp_sub,Op.intArith,IntWalk.i64_in _ ⟨h0,h1⟩]
theorem yd_mul (h0:-9223372036854775808≤a * b) (h1:a * b≤9223372036854775807):Yd P n fr H (.binOp .mul t x y t') ty (.int .i64 (a * b)):=.mk fun a w d pos aft gd hA _=>by
 simp [execOp,hA.ev hx,hA.ev hy,eqGuard_mul,binOp_mul,Op.intArith,IntWalk.i64_in _ ⟨h0,h1⟩]
theorem yd_quo (h0:0≤a) (h2:a≤9223372036854775807) (h1:0 < b):Yd P n fr H (.binOp .quo t x y t') ty (.int .i64 (a / b)):=.mk fun c w d pos aft gd hA _=>by
 have hle:a / b≤a:=Int.ediv_le_self _ h0
 have hge:0≤a / b:=Int.ediv_nonneg h0 (by omega)
 have hb:b≠0:=by omega
 simp [execOp,hA.ev hx,hA.ev hy,eqGuard_quo,binOp_quo,Op.intDiv,hb,Int.tdiv_eq_ediv_of_nonneg h0,IntWalk.i64_in _ ⟨(by omega:-9223372036854775808≤a / b),(by omega:a / b≤9223372036854775807)⟩]
theorem yd_rem (h0:0≤a) (h1:0 < b):Yd P n fr H (.binOp .rem t x y t') ty (.int .i64 (a % b)):=.mk fun c w d pos aft gd hA _=>by
 have hb:b≠0:=by omega
 simp [execOp,hA.ev hx,hA.ev hy,eqGuard_rem,binOp_rem,Op.intDiv,hb,Int.tmod_eq_emod_of_nonneg h0]
end
section
variable {a b:Int} {k:IntKind} {t t':TypeId} (hx:ev fr x=some (.int k a)) (hy:ev fr y=some (.int k b))
include hx hy
theorem yd_min {ts:Array TypeId}:Yd P n fr H (.call { callee:=.builtin .min,args:=#[x,y],argTypes:=ts }) ty (.int k (min a b)):=.mk fun c w d pos aft gd hA _=>by
 have e:(if b < a then b else a)=min a b:=by split <;> omega
 simp [execOp,hA.ev hx,hA.ev hy,resolve,invoke,builtin,run_min_int2,e]
theorem yd_max {ts:Array TypeId}:Yd P n fr H (.call { callee:=.builtin .max,args:=#[x,y],argTypes:=ts }) ty (.int k (max a b)):=.mk fun c w d pos aft gd hA _=>by
 have e:(if a < b then b else a)=max a b:=by split <;> omega
 simp [execOp,hA.ev hx,hA.ev hy,resolve,invoke,builtin,run_max_int2,e]
theorem yd_lt:Yd P n fr H (.binOp .lss t x y t') ty (.bool (decide (a < b))):=.mk fun a w d pos aft gd hA _=>by
 simp [execOp,hA.ev hx,hA.ev hy,eqGuard_lss,binOp_lss]
theorem yd_le:Yd P n fr H (.binOp .leq t x y t') ty (.bool (decide (a≤b))):=.mk fun a w d pos aft gd hA _=>by
 simp [execOp,hA.ev hx,hA.ev hy,eqGuard_leq,binOp_leq]
theorem yd_gt:Yd P n fr H (.binOp .gtr t x y t') ty (.bool (decide (b < a))):=.mk fun a w d pos aft gd hA _=>by
 simp [execOp,hA.ev hx,hA.ev hy,eqGuard_gtr,binOp_gtr]
theorem yd_ge:Yd P n fr H (.binOp .geq t x y t') ty (.bool (decide (b≤a))):=.mk fun a w d pos aft gd hA _=>by
 simp [execOp,hA.ev hx,hA.ev hy,eqGuard_geq,binOp_geq]
theorem yd_eq:Yd P n fr H (.binOp .eql t x y t') ty (.bool (decide (a=b))):=.mk fun a w d pos aft gd hA _=>by
 simp [execOp,hA.ev hx,hA.ev hy,eqGuard_at_int,binOp_eql];rfl
theorem yd_ne:Yd P n fr H (.binOp .neq t x y t') ty (.bool (decide (¬a=b))):=.mk fun a w d pos aft gd hA _=>by
 simp [execOp,hA.ev hx,hA.ev hy,eqGuard_at_int,binOp_neq,bne];rfl
end
section
variable {a b:ByteArray} {t t':TypeId} (hx:ev fr x=some (.string a)) (hy:ev fr y=some (.string b))
include hx hy
theorem yd_cat (h:a.size+b.size≤9223372036854775807):Yd P n fr H (.binOp .add t x y t') ty (.string (a++b)):=.mk fun c w d pos aft gd hA _=>by
 have:¬((a.size:Int)+b.size > 9223372036854775807):=by omega
 simp [execOp,hA.ev hx,hA.ev hy,eqGuard_add,binOp,Op.stringOp,this]
theorem yd_eqs:Yd P n fr H (.binOp .eql t x y t') ty (.bool (decide (a=b))):=.mk fun c w d pos aft gd hA _=>by
 simp [execOp,hA.ev hx,hA.ev hy,eqGuard_at_string,binOp,Op.stringOp,list_eq_iff a b]
theorem yd_nes:Yd P n fr H (.binOp .neq t x y t') ty (.bool (decide (¬a=b))):=.mk fun c w d pos aft gd hA _=>by
 simp [execOp,hA.ev hx,hA.ev hy,eqGuard_at_string,binOp,Op.stringOp,list_eq_iff a b]
end
theorem equal_bool {t:TypeId} [hB:BoolC P t] (a b:Bool) (w:World):(Op.equal t (.bool a) (.bool b)).run P w=.ok (a == b) w:=by
 unfold Op.equal
 rw [show Op.maxDepth=9999+1 from rfl]
 unfold Op.equalIn
 rw [Sem.run_bind,run_underlying hB.u w]
 rfl
theorem yd_eqb {a b:Bool} {t t':TypeId} [hB:BoolC P t] (hx:ev fr x=some (.bool a)) (hy:ev fr y=some (.bool b)):Yd P n fr H (.binOp .eql t x y t') ty (.bool (decide (a=b))):=.mk fun c w d pos aft gd hA _=>by
 have e:binOp .eql t (.bool a) (.bool b)=(do pure (.bool (←Op.equal t (.bool a) (.bool b)))):=rfl
 simp only [execOp,hA.ev hx,hA.ev hy,eqGuard_at_bool,e,Sem.run_bind,Sem.run_pure,Result.andThen_ok,equal_bool];cases a <;> cases b <;> rfl
theorem yd_neb {a b:Bool} {t t':TypeId} [hB:BoolC P t] (hx:ev fr x=some (.bool a)) (hy:ev fr y=some (.bool b)):Yd P n fr H (.binOp .neq t x y t') ty (.bool (decide (¬a=b))):=.mk fun c w d pos aft gd hA _=>by
 have e:binOp .neq t (.bool a) (.bool b)=(do pure (.bool (!(←Op.equal t (.bool a) (.bool b))))):=rfl
 simp only [execOp,hA.ev hx,hA.ev hy,eqGuard_at_bool,e,Sem.run_bind,Sem.run_pure,Result.andThen_ok,equal_bool];cases a <;> cases b <;> rfl
theorem yd_cv {k k':IntKind} {a:Int} {s t:TypeId} [hS:IntC P s k'] [hD:IntC P t .i64] (hx:ev fr x=some (.int k a)) (h0:-9223372036854775808≤a) (h1:a≤9223372036854775807):Yd P n fr H (.convert s t x) ty (.int .i64 a):=.mk fun c w d pos aft gd hA _=>by
 simp [execOp,hA.ev hx,convert,run_underlying hS.u,run_underlying hD.u,Conv.intToInt,IntWalk.i64_in _ ⟨h0,h1⟩]
theorem yd_len {a:Option Addr} {len cp t e m:Nat} [hS:SlC P t e m] (hx:ev fr x=some (.slice a len cp)):Yd P n fr H (.call { callee:=.builtin .len,args:=#[x],argTypes:=#[t] }) ty (.int .i64 len):=.mk fun c w d pos aft gd hA _=>by
 simp [execOp,hA.ev hx,resolve,invoke,builtin,Builtin.len_,run_underlying hS.u,goInt]
theorem yd_lens {s:ByteArray} {t:Nat} [hS:StrC P t] (hx:ev fr x=some (.string s)):Yd P n fr H (.call { callee:=.builtin .len,args:=#[x],argTypes:=#[t] }) ty (.int .i64 s.size):=.mk fun c w d pos aft gd hA _=>by
 simp [execOp,hA.ev hx,resolve,invoke,builtin,run_len_string (h:=hS.u),goInt]
theorem yd_slt {t e m i:Nat} {a:Option Addr} {len cp:Nat} {z:Int} [hS:SlC P t e m] (hx:ev fr x=some (.slice a len cp)) (hy:ev fr y=some (.int .i64 z)) (hz:z=(i:Int)) (hi:i≤cp) (hc:cp≤9223372036854775807):Yd P n fr H (.slice t x none (some y) none) ty (.slice a i cp):=.mk fun ac w d pos aft gd hA _=>by
 subst hz
 have he2:P.elem t=e:=by simp [Program.elem,hS.u]
 have h3:(Instr.sliceAt t (.slice a len cp) none (some (.int .i64 (i:Int))) none).run P w=.ok (.slice a i cp) w:=by
  rw [run_sliceAt_slice (h:=by rw [he2];exact hS.u),run_slice_h (ht:=by rw [he2];exact hS.u) (h0:=by omega) (h2:=by omega),he2,size_of hS.s]
  have h0:a.map (fun b=>b.add 0)=a:=by cases a <;> simp [Addr.add]
  simp [Result.andThen,sliced,h0]
 simp only [execOp,Option.map_none,Option.map_some,hA.ev hx,hA.ev hy,Sem.run_bind,h3,Result.andThen_ok,Sem.run_pure]
theorem yd_fn {f:Nat} {caps:List Operand} {vs:List Value} (hc:Evs fr caps vs):Yd P n fr H (.makeFunc (.func f) #[] caps.toArray) ty (.func (.func f) #[] vs.toArray):=.mk fun c w d pos aft gd hA _=>by
 simp [execOp,Instr.makeFunc,hA.evs hc]
end
class ZC (P:Program) (t:TypeId) (zs:outParam (List Value)):Prop where
 z:∃v,(P.info? t).map (·.zero)=some (some v)∧v.cells=zs.toArray
class ElT (P:Program) (e:TypeId) (z:outParam Value) (n:outParam Nat) (by_:outParam Nat):Prop where
 i:(P.info? e).map (fun i=>(i.zero,i.size,i.bytes))=some (some z,n,by_)
 s:z.cells.size=n
class BldC (P:Program) (t:TypeId) (pl:outParam (List (Nat × Nat))) (zs:outParam (List Value)):Prop where
 b:∀parts,P.built t parts=Instr.fill (pl.toArray[·]?) zs.toArray parts
def bodyB (P:Program) (f:FuncId):Bool:=match P.funcs[f]? with
 | some fn=>!(fn.name == "runtime.NumGoroutine") && !fn.body.isNone
 | none=>false
theorem body_of {P:Program} {f:FuncId} (h:bodyB P f=true):Body P f:=by
 unfold bodyB at h
 split at h
 ·rename_i fn hf
  simp only [Bool.and_eq_true,Bool.not_eq_true'] at h
  exact .mk' hf h.1 h.2
 ·cases h
structure Ef (c:Cx) (fr:Fr) (H:List Pc) (o:Oper) (Φ:Gl):Prop where
 h:∀Q a w,St c.G c.D c.w0 H w→Ag c.n fr a→o.wp c.P a w (Φ.sem c) Q
structure Cl (c:Cx) (fr:Fr) (H:List Pc) (d:Nat) (f:FuncId) (vs:List Value) (Φ:Gl):Prop where
 h:∀w,St c.G c.D c.w0 H w→∃R:Ending→World→Prop,Calls c.P f vs.toArray w R∧∀e w',R e w'→∃v,e=.returned v∧∀a,Ag c.n ((d,v)::fr) a→Φ.sem c a w'
theorem ef_of {c:Cx} {fr:Fr} {H:List Pc} {o:Oper} {Φ:Gl} (h:∀Q a w,St c.G c.D c.w0 H w→Ag c.n fr a→Oper.upon c.P o a (Φ.sem c) Q ((execOp a.eval o).run c.P w)):Ef c fr H o Φ:=⟨h⟩
inductive Rpl:List Pc→Pc→Pc→List Pc→Prop
 | here {p q R}:Rpl (p::R) p q (q::R)
 | there {x p q R S}:Rpl R p q S→Rpl (x::R) p q (x::S)
theorem Rpl.picks {H p q S} (h:Rpl H p q S):∃R,Pick H p R∧Pick S q R:=by
 induction h with
 | here=>exact ⟨_,.here,.here⟩
 | there _ ih=>obtain ⟨R,h1,h2⟩:=ih;exact ⟨_,.there h1,.there h2⟩
theorem Pick.unsep {H p R} (h:Pick H p R) (hs:Sep (p::R)):Sep H:=by
 induction h with
 | here=>exact hs
 | @there x p R R' h ih =>
  have h2:=Sep.perm2 hs
  have h3:=ih h2.2
  refine ⟨fun q hq=>?_,h3⟩
  have:∀{A:List Pc} {p B},Pick A p B→∀q∈A,q=p∨q∈B:=by
   intro A p B h
   induction h with
   | here=>intro q hq;simpa using hq
   | there _ ih =>
    intro q hq
    rcases List.mem_cons.1 hq with rfl|hq
    ·simp
    ·rcases ih q hq with h|h <;> simp [h]
  rcases this h q hq with rfl|hq
  ·exact h2.1 _ (by simp)
  ·exact h2.1 _ (by simp [hq])
theorem Pick.or {A:List Pc} {p B} (h:Pick A p B):∀q∈A,q=p∨q∈B:=by
 induction h with
 | here=>intro q hq;simpa using hq
 | there _ ih =>
  intro q hq
  rcases List.mem_cons.1 hq with rfl|hq
  ·simp
  ·rcases ih q hq with h|h <;> simp [h]
theorem St.unpick {G D w0 H p R w} (s:St G D w0 (p::R) w) (h:Pick H p R):St G D w0 H w :=
 ⟨s.keep,fun q hq=>by rcases h.or q hq with rfl|hq;exact s.on _ (by simp);exact s.on _ (by simp [hq]),h.unsep s.sep,fun q hq=>by rcases h.or q hq with rfl|hq;exact s.mine _ (by simp);exact s.mine _ (by simp [hq])⟩
theorem St.rpl {G D w0 H p q S} {w w':World} (s:St G D w0 H w) (h:Rpl H p q S) (hm:p.mu=true) (hF:∀b∈q.F,b∈p.F∨w.heap.size≤b) (hk:Keep p.F w w') (hq:q.P w'):St G D w0 S w':=by
 obtain ⟨R,h1,h2⟩:=h.picks
 refine St.unpick (R:=R) ?_ h2
 refine St.turn (M:=[p]) (R:=R) (N:=[q]) (s.pick h1) (by simpa [List.filter,hm,fp] using hk) (by intro x hx;simp at hx;subst hx;exact hq) ⟨by simp,trivial⟩ fun x hx b hb=>?_
 simp at hx;subst hx
 rcases hF b hb with h|h
 ·exact .inr (.inl ⟨p,by simp,hm,h⟩)
 ·exact .inl h
theorem St.add {G D w0 H} {w w':World} {N:List Pc} (s:St G D w0 H w) (hb:Below w.heap.size w w') (hN:Hol N w') (hs:Sep N) (hF:∀p∈N,∀b∈p.F,w.heap.size≤b∨(p.mu=false∧∃q∈H,q.mu=false∧b∈q.F)):St G D w0 (N++H) w' :=
 St.turn (M:=[]) (R:=H) (N:=N) s (by simpa [fp] using Keep.ofBelow hb) hN hs fun p hp b hb=>by
  rcases hF p hp b hb with h|h
  ·exact .inl h
  ·exact .inr (.inr (by simpa using h))
theorem St.below {G D w0 H} {w w':World} (s:St G D w0 H w) (hb:Below w.heap.size w w'):St G D w0 H w':=s.add (N:=[]) hb (by intro p hp;simp at hp) trivial (by simp)
theorem below_alloc (w:World) (o:Obj):Below w.heap.size w (w.alloc o):=(Below.refl _ _).alloc (Nat.le_refl _) o
theorem St.new {G D w0 H} {w:World} (s:St G D w0 H w) (t:TypeId) (cs:List Value):St G D w0 (.row w.heap.size t 0 [] cs []::H) (w.alloc (.cells cs.toArray t)) :=
 s.add (N:=[.row w.heap.size t 0 [] cs []]) (below_alloc _ _) (by intro p hp;simp at hp;subst hp;exact ⟨rfl,by simpa using Row.made w t cs⟩) ⟨by simp,trivial⟩ (by intro p hp b hb;simp at hp;subst hp;simp [Pc.F] at hb;subst hb;exact .inl (Nat.le_refl _))
inductive Put:List Value→Nat→List Value→List Value→Prop
 | zero {cs}:Put cs 0 [] cs
 | one {x cs u l r}:Put cs 0 l r→Put (x::cs) 0 (u::l) (u::r)
 | skip {x cs j l r}:Put cs j l r→Put (x::cs) (j+1) l (x::r)
theorem Put.parts {cs j l r} (h:Put cs j l r):∃A o B,cs=A++o++B∧r=A++l++B∧A.length=j∧o.length=l.length:=by
 induction h with
 | @zero cs=>exact ⟨[],[],cs,by simp,by simp,rfl,rfl⟩
 | @one x cs u l r _ ih =>
  obtain ⟨A,o,B,rfl,rfl,hA,ho⟩:=ih
  have:A=[]:=List.eq_nil_of_length_eq_zero hA
  subst this
  exact ⟨[],x::o,B,by simp,by simp,rfl,by simp [ho]⟩
 | @skip x cs j l r _ ih =>
  obtain ⟨A,o,B,rfl,rfl,hA,ho⟩:=ih
  exact ⟨x::A,o,B,by simp,by simp,by simp [hA],ho⟩
theorem storeAt_cells {P:Program} {t:TypeId} {n:Nat} (hs:(P.info? t).map (·.size)=some n) {w:World} {b o:Nat} {v:Value} {l:List Value} (hv:v.cells=l.toArray) (hl:l.length=n) (ht:w.there b o n) (h1:l.all (·.oneCell')=true) :
  (Instr.storeAt t (.pointer (some ⟨b,o,none⟩)) v).run P w=.ok () (w.setCells b o l):=by
 subst hl
 have:=run_storeCells_cells (P:=P) b o l 0 w (fun j hj=>by simpa using (ht j hj).1) (fun j hj=>by simpa using (ht j hj).2) (fun v hv=>List.all_eq_true.1 h1 v hv)
 simp only [Nat.add_zero] at this
 simp [Instr.storeAt,Instr.sureAddr,storeVar,size_of hs,hv,this]
theorem row_set {w:World} {g t o j:Nat} {A cs B l r:List Value} (h:(Pc.row g t o A cs B).P w) (hp:Put cs j l r):(Pc.row g t o A r B).P (w.setCells g (o+j) l)∧Keep [g] w (w.setCells g (o+j) l):=by
 obtain ⟨rfl,h⟩:=h
 obtain ⟨X,y,Y,rfl,rfl,rfl,hy⟩:=hp.parts
 have h2:Row w g t ((A++X)++y++(Y++B)):=by simpa using h
 have h3:=Row.put l y h2 (p:=A.length+X.length) (by simp) hy.symm
 have hk:=putCells_keep (g:=g) l w (A.length+X.length)
 rw [putCells_eq w g l w] at h3 hk
 exact ⟨⟨rfl,by simpa using h3⟩,hk⟩
def Fn (P:Program) (f:FuncId) (args:List Value) (A M:List Pc) {σ:Type} (C:σ→Prop) (v:σ→Value) (N:σ→List Pc):Prop :=
 ∀w,Hol (M++A) w→Sep (M++A)→Calls P f args.toArray w fun e w'=>∃s,C s∧e=.returned (v s)∧Hol (N s) w'∧Sep (N s)∧Keep (fp M) w w' ∧
  ∀p∈N s,∀b∈p.F,w.heap.size≤b∨(∃q∈M,b∈q.F)∨(p.mu=false∧∃q∈A,b∈q.F)
inductive Picks:List Pc→List Pc→List Pc→Prop
 | nil {H}:Picks H [] H
 | cons {H p R M S}:Pick H p R→Picks R M S→Picks H (p::M) S
theorem Picks.st {G D w0 H M R w} (h:Picks H M R):∀{X:List Pc},St G D w0 (X++H) w→St G D w0 (X++(M++R)) w:=by
 induction h with
 | nil=>intro X s;simpa using s
 | @cons H p R M S hp _ ih =>
  intro X s
  have h1:∀(X:List Pc),Pick (X++H) p (X++R):=by
   intro X;induction X with
   | nil=>exact hp
   | cons x X ih=>exact .there ih
  have h2:∀(X:List Pc),Pick (X++(p::(M++S))) p (X++(M++S)):=by
   intro X;induction X with
   | nil=>exact .here
   | cons x X ih=>exact .there ih
  have s1:=s.pick (h1 X)
  have s2:=ih (X:=p::X) (by simpa using s1)
  exact St.unpick (by simpa using s2) (h2 X)
inductive Mems:List Pc→List Pc→Prop
 | nil {H}:Mems [] H
 | cons {p A H}:p∈H→Mems A H→Mems (p::A) H
theorem Mems.all {A H} (h:Mems A H):∀p∈A,p∈H:=by
 induction h with
 | nil=>simp
 | cons h _ ih=>intro q hq;rcases List.mem_cons.1 hq with rfl|hq;exact h;exact ih q hq
section
variable {c:Cx} {fr:Fr} {H:List Pc} {k:List It} {Φ:Gl} {ops:Array Oper} {rest:List Oper} {d:Nat} {o:Op} {ty:TypeId} {pos:String} {aft:Array Edge} {v u:Value} {x y:Operand}
theorem w_ef {o:Oper} (h:Ef c fr H o (.list k ops rest)) (hg:o.guard=none:=by rfl):T c fr H (.list k ops (o::rest)):=.mk fun a w s g =>
 wpList_plain hg fun K hK=>Oper.wp_mono hK (h.h _ a w s g)
theorem ef_yd {gd:Option (Nat × Bool)} (hy:Yd c.P c.n fr H o ty v) (hd:Nat.blt d c.n=true) (h:T c ((d,v)::fr) H Φ):Ef c fr H ⟨some d,o,ty,pos,aft,gd⟩ Φ:=ef_of fun Q a w s g=>by
 rw [hy.h a w (some d) pos aft gd g s.on]
 exact h.h _ _ s (g.put hd)
structure On (c:Cx) (fr:Fr) (H:List Pc) (od:Option Tmp) (o:Op) (ty:TypeId) (Φ:Gl):Prop where
 h:∀pos aft gd,Ef c fr H ⟨od,o,ty,pos,aft,gd⟩ Φ
theorem wO {od:Option Tmp} (h:On c fr H od o ty (.list k ops rest)):T c fr H (.list k ops (⟨od,o,ty,pos,aft,none⟩::rest)):=w_ef (h.h pos aft none)
theorem oc (hd:Nat.blt d c.n=true) (hy:Yd c.P c.n fr H o ty v) (h:T c ((d,v)::fr) H Φ):On c fr H (some d) o ty Φ:=⟨fun _ _ _=>ef_yd hy hd h⟩
/-! guards of a plain region -/
theorem wanted_eq {a:Act} {j t:Nat} {b b':Bool} {od:Option Tmp} (ht:(ops[j]?).bind (·.dst)=some t) (hl:look fr t=some (.bool b')) (g:Ag c.n fr a):Region.wanted ⟨od,o,ty,pos,aft,some (j,b)⟩ (yielded ops a.tmps)=(b' == b):=by
 simp only [Region.wanted,yielded,ht,Option.bind_some,g.at_ t _ hl]
 cases b <;> cases b' <;> rfl
theorem wg_t {j t:Nat} {b:Bool} {od:Option Tmp} (ht:(ops[j]?).bind (·.dst)=some t) (hl:look fr t=some (.bool b)) (h:T c fr H (.list k ops (⟨od,o,ty,pos,aft,none⟩::rest))) :
  T c fr H (.list k ops (⟨od,o,ty,pos,aft,some (j,b)⟩::rest)):=.mk fun a w s g=>by
 have h1:=h.h a w s g
 simp only [Gl.sem] at h1 ⊢
 unfold wpList at h1 ⊢
 rw [wanted_eq (c:=c) ht hl g]
 simp only [Region.wanted,if_true,beq_self_eq_true] at h1 ⊢
 exact h1
theorem wg_f {j t:Nat} {b b':Bool} (ht:(ops[j]?).bind (·.dst)=some t) (hl:look fr t=some (.bool b')) (hb:(b' == b)=false) (hd:Nat.blt d c.n=true) (h:T c ((d,undef)::fr) H (.list k ops rest)) :
  T c fr H (.list k ops (⟨some d,o,ty,pos,aft,some (j,b)⟩::rest)):=.mk fun a w s g=>by
 simp only [Gl.sem]
 unfold wpList
 rw [wanted_eq (c:=c) ht hl g,hb]
 simp only [Bool.false_eq_true,if_false]
 exact h.h _ _ s (g.put hd)
theorem wg_u {j t:Nat} {b:Bool} (ht:(ops[j]?).bind (·.dst)=some t) (hl:look fr t=some undef) (hd:Nat.blt d c.n=true) (h:T c ((d,undef)::fr) H (.list k ops rest)) :
  T c fr H (.list k ops (⟨some d,o,ty,pos,aft,some (j,b)⟩::rest)):=.mk fun a w s g=>by
 have hw:Region.wanted ⟨some d,o,ty,pos,aft,some (j,b)⟩ (yielded ops a.tmps)=false:=by
  simp only [Region.wanted,yielded,ht,Option.bind_some,g.at_ t _ hl];rfl
 simp only [Gl.sem]
 unfold wpList
 rw [hw]
 simp only [Bool.false_eq_true,if_false]
 exact h.h _ _ s (g.put hd)
theorem wg_if {j t:Nat} {b:Bool} {od:Option Tmp} {p:Prop} {_:Decidable p} (ht:(ops[j]?).bind (·.dst)=some t) (hl:look fr t=some (.bool (decide p))) (h1:p→T c ((t,.bool true)::fr) H (.list k ops (⟨od,o,ty,pos,aft,some (j,b)⟩::rest))) (h2:¬p→T c ((t,.bool false)::fr) H (.list k ops (⟨od,o,ty,pos,aft,some (j,b)⟩::rest))) :
  T c fr H (.list k ops (⟨od,o,ty,pos,aft,some (j,b)⟩::rest)):=.mk fun a w s g=>by
 by_cases hp:p
 ·rw [decide_eq_true hp] at hl
  exact (h1 hp).h a w s ⟨g.df,g.sz,fun i z hz=>by rw [look_cons] at hz;split at hz;(rename_i e;subst e;rw [←hz,g.at_ _ _ hl]);exact g.at_ i z hz⟩
 ·rw [decide_eq_false hp] at hl
  exact (h2 hp).h a w s ⟨g.df,g.sz,fun i z hz=>by rw [look_cons] at hz;split at hz;(rename_i e;subst e;rw [←hz,g.at_ _ _ hl]);exact g.at_ i z hz⟩
/-! memory -/
theorem ef_alloc {t:TypeId} {zs:List Value} {gd:Option (Nat × Bool)} [hZ:ZC c.P t zs] (h:∀g,T c ((d,ptr g 0 0)::fr) (.row g t 0 [] zs []::H) Φ) (hd:Nat.blt d c.n=true:=by rfl):Ef c fr H ⟨some d,.alloc t,ty,pos,aft,gd⟩ Φ:=ef_of fun Q a w s g=>by
 obtain ⟨z,hz,hzc⟩:=hZ.z
 obtain ⟨i,hi,hiz⟩:=Option.map_eq_some_iff.1 hz
 have e:(execOp a.eval ⟨some d,.alloc t,ty,pos,aft,gd⟩).run c.P w=.ok (.value (ptr w.heap.size 0 0)) (w.alloc (.cells zs.toArray t)):=by
  simp [execOp,Instr.alloc,zeroValue,typeInfo,hi,hiz,newVar,newRow,hzc,ptr]
 rw [e]
 exact (h _).h _ _ (s.new t zs) (g.put hd)
theorem ef_box {t:TypeId} {l:List Value} {gd:Option (Nat × Bool)} (hx:ev fr x=some v) (hv:v.cells=l.toArray) (h:∀g,T c ((d,ptr g 0 0)::fr) (.row g t 0 [] l []::H) Φ) (hd:Nat.blt d c.n=true:=by rfl):Ef c fr H ⟨some d,.box t x,ty,pos,aft,gd⟩ Φ:=ef_of fun Q a w s g=>by
 have e:(execOp a.eval ⟨some d,.box t x,ty,pos,aft,gd⟩).run c.P w=.ok (.value (ptr w.heap.size 0 0)) (w.alloc (.cells l.toArray t)):=by
  simp [execOp,Instr.box,g.ev hx,newVar,newRow,hv,ptr]
 rw [e]
 exact (h _).h _ _ (s.new t l) (g.put hd)
theorem ef_store {t g tt o' j m:Nat} {A cs B l r:List Value} {S:List Pc} {gd:Option (Nat × Bool)} (hs:(c.P.info? t).map (·.size)=some m) (hx:ev fr x=some (ptr g o' j)) (hy:ev fr y=some v) (hv:v.cells=l.toArray) (hl:l.length=m) (h1:l.all (·.oneCell')=true)
  (hp:Put cs j l r) (hr:Rpl H (.row g tt o' A cs B) (.row g tt o' A r B) S) (h:T c fr S Φ):Ef c fr H ⟨none,.store t x y,ty,pos,aft,gd⟩ Φ:=ef_of fun Q a w s ag=>by
 have hP:(Pc.row g tt o' A cs B).P w:=by obtain ⟨R,h1,_⟩:=hr.picks;exact s.on _ h1.mem
 have ht:w.there g (o'+j) m:=fun i hi=>by
  obtain ⟨X,z,Y,rfl, -,rfl,hz⟩:=hp.parts
  have:=row_there hP (X.length+i) (by simp;omega)
  rwa [←Nat.add_assoc] at this
 have e:(execOp a.eval ⟨none,.store t x y,ty,pos,aft,gd⟩).run c.P w=.ok .skip (w.setCells g (o'+j) l):=by
  simp [execOp,ag.ev hx,ag.ev hy,ptr,storeAt_cells hs hv hl ht h1]
 rw [e]
 have ⟨h2,h3⟩:=row_set hP hp
 exact h.h _ _ (s.rpl hr rfl (fun b hb=>.inl hb) h3 h2) ag
theorem o_alloc {t:TypeId} {zs:List Value} [hZ:ZC c.P t zs] (hd:Nat.blt d c.n=true) (h:∀g,T c ((d,ptr g 0 0)::fr) (.row g t 0 [] zs []::H) Φ):On c fr H (some d) (.alloc t) ty Φ:=⟨fun _ _ _=>ef_alloc h hd⟩
theorem o_box {t:TypeId} {l:List Value} (hd:Nat.blt d c.n=true) (hx:ev fr x=some v) (hv:v.cells=l.toArray) (h:∀g,T c ((d,ptr g 0 0)::fr) (.row g t 0 [] l []::H) Φ):On c fr H (some d) (.box t x) ty Φ:=⟨fun _ _ _=>ef_box hx hv h hd⟩
theorem o_st {t g tt o' j m:Nat} {A cs B l r:List Value} {S:List Pc} (hx:ev fr x=some (ptr g o' j)) (hy:ev fr y=some v) (hv:v.cells=l.toArray) (hs:(c.P.info? t).map (·.size)=some m) (hl:l.length=m) (hr:Rpl H (.row g tt o' A cs B) (.row g tt o' A r B) S) (hp:Put cs j l r) (h1:l.all (·.oneCell')=true) (h:T c fr S Φ):On c fr H none (.store t x y) ty Φ :=
 ⟨fun _ _ _=>ef_store hs hx hy hv hl h1 hp hr h⟩
/-! calls -/
theorem cl_ef {f:Nat} {aS:List Operand} {ts:Array TypeId} {vs:List Value} {gd:Option (Nat × Bool)} (h:Cl c fr H d f vs Φ) (ha:Evs fr aS vs) (hb:bodyB c.P f=true) (hd:Nat.blt d c.n=true):Ef c fr H ⟨some d,.call { callee:=.value (.func f),args:=aS.toArray,argTypes:=ts },ty,pos,aft,gd⟩ Φ:=ef_of fun Q a w s g=>by
 have e:(execOp a.eval ⟨some d,.call { callee:=.value (.func f),args:=aS.toArray,argTypes:=ts },ty,pos,aft,gd⟩).run c.P w=(callFunc f vs.toArray).run c.P w:=by
  simp [execOp,resolve,Deferred.ofValue,Act.eval,invoke,g.evs ha]
 rw [e]
 obtain ⟨R,hc,hk⟩:=h.h w s
 refine (body_of hb).upon hc fun e w' hR=>?_
 obtain ⟨v,he,hv⟩:=hk e w' hR
 exact ⟨v,he,hv _ (g.put hd)⟩
theorem cl_of {f:Nat} {vs:List Value} {R:World→Ending→World→Prop} (hc:∀w,St c.G c.D c.w0 H w→Calls c.P f vs.toArray w (R w))
  (hk:∀w e w',St c.G c.D c.w0 H w→R w e w'→∃v,e=.returned v∧∀a,Ag c.n ((d,v)::fr) a→Φ.sem c a w'):Cl c fr H d f vs Φ:=⟨fun w s=>⟨R w,hc w s,fun e w' hR=>hk w e w' s hR⟩⟩
theorem cb {f:Nat} {vs:List Value} (hc:∀w,St c.G c.D c.w0 H w→Calls c.P f vs.toArray w fun e w'=>e=.returned v∧Below w.heap.size w w') (h:T c ((d,v)::fr) H Φ):Cl c fr H d f vs Φ :=
 cl_of hc fun w e w' s ⟨he,hB⟩=>⟨v,he,fun a g=>h.h a w' (s.below hB) g⟩
theorem ce {f:Nat} {vs:List Value} (hc:∀w,St c.G c.D c.w0 H w→Calls c.P f vs.toArray w fun e w'=>e=.returned v∧w=w') (h:T c ((d,v)::fr) H Φ):Cl c fr H d f vs Φ :=
 cl_of hc fun w e w' s ⟨he,hB⟩=>⟨v,he,fun a g=>h.h a w' (hB▸s) g⟩
theorem cf_ {f:Nat} {vs:List Value} {A M R:List Pc} {σ:Type} {C:σ→Prop} {vv:σ→Value} {N:σ→List Pc} (hf:Fn c.P f vs A M C vv N) (h:∀s,C s→T c ((d,vv s)::fr) (N s++R) Φ)
  (hM:Picks H M R) (hA:Mems A R) (hmM:M.all (·.mu)=true) (hmA:A.all (fun p=>!p.mu)=true):Cl c fr H d f vs Φ :=
 have hMR:∀w,St c.G c.D c.w0 H w→St c.G c.D c.w0 (M++R) w:=fun w s=>by simpa using hM.st (X:=[]) (by simpa using s)
 have hmu:∀p∈M,p.mu=true:=fun p hp=>List.all_eq_true.1 hmM p hp
 have hro:∀p∈A,p.mu=false:=fun p hp=>by simpa using List.all_eq_true.1 hmA p hp
 have hpre:∀w,St c.G c.D c.w0 H w→Hol (M++A) w∧Sep (M++A):=fun w s=>by
  have s2:=hMR w s
  have hAR:=hA.all
  refine ⟨fun p hp=>?_,?_⟩
  ·rcases List.mem_append.1 hp with hp|hp
   ·exact s2.on p (by simp [hp])
   ·exact s2.on p (by simp [hAR p hp])
  ·have:∀(M:List Pc),Sep (M++R)→Sep (M++A):=by
    intro M
    induction M with
    | nil =>
     intro _
     have:∀(A:List Pc),(∀p∈A,p.mu=false)→Sep A:=by
      intro A
      induction A with
      | nil=>intro _;trivial
      | cons p A ih=>intro h;exact ⟨fun q hq hm=>by rw [h p (by simp),h q (by simp [hq])] at hm;simp at hm,ih fun q hq=>h q (by simp [hq])⟩
     exact this A hro
    | cons p M ih =>
     intro hs
     exact ⟨fun q hq=>hs.1 q (by rcases List.mem_append.1 hq with h|h;simp [h];simp [hAR q h]),ih hs.2⟩
   exact this M s2.sep
 cl_of (R:=fun w e w'=>∃s,C s∧e=.returned (vv s)∧Hol (N s) w'∧Sep (N s)∧Keep (fp M) w w'∧∀p∈N s,∀b∈p.F,w.heap.size≤b∨(∃q∈M,b∈q.F)∨(p.mu=false∧∃q∈A,b∈q.F))
  (fun w s=>hf w (hpre w s).1 (hpre w s).2)
  (fun w e w' s ⟨z,hz,he,hN,hS,hK,hF⟩=>⟨_,he,fun a g=>(h z hz).h a w' (St.turn (hMR w s) (by rwa [List.filter_eq_self.2 hmu]) hN hS fun p hp b hb=>by
   rcases hF p hp b hb with h|⟨q,hq,hqb⟩|⟨hp,q,hq,hqb⟩
   ·exact .inl h
   ·exact .inr (.inl ⟨q,hq,hmu q hq,hqb⟩)
   ·exact .inr (.inr ⟨hp,q,by simp [hA.all q hq],hro q hq,hqb⟩)) g⟩)
theorem o_call {f:Nat} {aS:List Operand} {ts:Array TypeId} {vs:List Value} (hd:Nat.blt d c.n=true) (hb:bodyB c.P f=true) (ha:Evs fr aS vs) (h:Cl c fr H d f vs Φ):On c fr H (some d) (.call { callee:=.value (.func f),args:=aS.toArray,argTypes:=ts }) ty Φ:=⟨fun _ _ _=>cl_ef h ha hb hd⟩
/-! a function's beginning and end -/
end
def FnPost (P:Program) (w:World) (A M:List Pc) {σ:Type} (C:σ→Prop) (v:σ→Value) (N:σ→List Pc) (e:Ending) (w':World):Prop:=∃s,C s∧e=.returned (v s)∧Hol (N s) w'∧Sep (N s)∧Keep (fp M) w w' ∧
  ∀p∈N s,∀b∈p.F,w.heap.size≤b∨(∃q∈M,b∈q.F)∨(p.mu=false∧∃q∈A,b∈q.F)
def args0:Nat→List Value→Fr
 | _,[]=>[]
 | i,v::r=>(i,v)::args0 (i+1) r
theorem look_args (vs:List Value):∀i t v,look (args0 i vs) t=some v→i≤t∧vs[t - i]?=some v:=by
 induction vs with
 | nil=>intro i t v h;cases h
 | cons x r ih =>
  intro i t v h
  unfold args0 at h
  rw [look_cons] at h
  split at h
  ·rename_i e;subst e;exact ⟨Nat.le_refl _,by simpa using h⟩
  ·have ⟨h1,h2⟩:=ih (i+1) t v h
   refine ⟨by omega,?_⟩
   rw [show t - i=(t - (i+1))+1 by omega,List.getElem?_cons_succ];exact h2
theorem fn_enter {P:Program} {f:FuncId} {fn:Func} {cd:Code} {args:List Value} {A M:List Pc} {σ:Type} {C:σ→Prop} {v:σ→Value} {N:σ→List Pc} (hf:P.funcs[f]?=some fn) (hb:fn.body=some cd)
  (h:∀w,T ⟨P,fp M,fp A,w,fn.ntmps,bodyPost P fn (FnPost P w A M C v N)⟩ (args0 0 args) (M++A) (.code [] cd))
  (hn:args.length≤fn.ntmps) (hmA:A.all (fun p=>!p.mu)=true):Fn P f args A M C v N:=fun w hH hS=>by
 refine calls_of_wp hf hb ?_
 have hro:∀p∈A,p.mu=false:=fun p hp=>by simpa using List.all_eq_true.1 hmA p hp
 refine (h w).h _ _ ⟨Keep.refl _ _,hH,hS,fun p hp b hb=>?_⟩ ⟨rfl,by simp;omega,fun t u hu=>?_⟩
 ·rcases List.mem_append.1 hp with hp|hp
  ·exact .inl (mem_fp.2 ⟨p,hp,hb⟩)
  ·exact .inr (.inr ⟨hro p hp,mem_fp.2 ⟨p,hp,hb⟩⟩)
 ·obtain ⟨-,h2⟩:=look_args args 0 t u hu
  simp only [Nat.sub_zero] at h2
  show (args.toArray++Array.replicate (fn.ntmps - args.toArray.size) undef)[t]?=_
  have ht:t < args.length:=(List.getElem?_eq_some_iff.1 h2).1
  rw [Array.getElem?_append_left (by simpa using ht)]
  simpa using h2
inductive Res (P:Program) (fr:Fr) (H:List Pc):List ResultVar→List Value→Prop
 | nil:Res P fr H [] []
 | tmp {t v r vs}:look fr t=some v→Res P fr H r vs→Res P fr H (.tmp t::r) (v::vs)
 | agg {t ty m g o tt A cs B r vs}:AggC P ty m→look fr t=some (ptr g o 0)→Pc.row g tt o A cs B∈H→cs.length=m→Res P fr H r vs→Res P fr H (.cell t ty::r) (.agg cs.toArray::vs)
 | one {t ty g o tt A v B r vs}:OneC P ty→look fr t=some (ptr g o 0)→Pc.row g tt o A [v] B∈H→Res P fr H r vs→Res P fr H (.cell t ty::r) (v::vs)
theorem Cut.whole:∀(l:List Value),Cut l 0 l.length l
 | []=>.zero
 | _::r=>.one (Cut.whole r)
theorem asAddr_ptr (x:Addr):asAddr (.pointer (some x))=pure x:=rfl
theorem res_run {P:Program} {fr:Fr} {H:List Pc} {n:Nat} {rs vs} (f:ResultVar→Sem Value) {a:Act} (f1:∀t,f (.tmp t)=pure (a.tmps.getD t undef)) (f2:∀p t,f (.cell p t)=do loadVar t (←asAddr (a.tmps.getD p undef)))
  (h:Res P fr H rs vs) {w:World} (g:Ag n fr a) (hH:Hol H w):(rs.mapM f).run P w=.ok vs w:=by
 simp only [Array.getD_eq_getD_getElem?] at f1 f2
 induction h with
 | nil=>simp
 | tmp hl _ ih=>simp [List.mapM_cons,f1,g.at_ _ _ hl,ih]
 | @agg t ty m gg o tt A cs B r vs hT hl hm hc _ ih =>
  have h1:=load_agg (hT:=hT) (j:=0) (row_range (hH _ hm)) (by rw [←hc];exact Cut.whole cs)
  simp only [Instr.loadAt,Instr.sureAddr,Sem.run_bind,Sem.run_pure,Result.andThen_ok,Nat.add_zero] at h1
  simp [List.mapM_cons,f2,g.at_ _ _ hl,ptr,asAddr_ptr,h1,ih]
 | @one t ty gg o tt A v B r vs hT hl hm _ ih =>
  have h1:=load_one (hT:=hT) (row_cell (j:=0) (hH _ hm) rfl)
  simp only [Instr.loadAt,Instr.sureAddr,Sem.run_bind,Sem.run_pure,Result.andThen_ok,Nat.add_zero] at h1
  simp [List.mapM_cons,f2,g.at_ _ _ hl,ptr,asAddr_ptr,h1,ih]
def tup:List Value→Value
 | [v]=>v
 | vs=>.tuple vs.toArray
theorem results_run {P:Program} {fr:Fr} {H:List Pc} {n:Nat} {fn:Func} {rs vs} (hr:fn.results=rs.toArray) (h:Res P fr H rs vs) {a:Act} {w:World} (g:Ag n fr a) (hH:Hol H w):(results fn a.tmps).run P w=.ok (tup vs) w:=by
 unfold results
 rw [hr]
 simp only [Sem.run_bind,Array.mapM_eq_mapM_toList]
 have:∀(f:ResultVar→Sem Value),(rs.mapM f).run P w=.ok vs w→((List.toArray <$> rs.mapM f:Sem (Array Value))).run P w=.ok vs.toArray w:=fun f hf=>by
  simp [hf]
 refine (congrArg (fun x=>Result.andThen x _) (this _ (res_run _ ?_ ?_ h g hH))).trans ?_
 ·intro t;rfl
 ·intro p t;rfl
 simp only [Result.andThen_ok,Sem.run_pure]
 congr 1
 match vs with
 | []=>rfl
 | [v]=>rfl
 | v::u::r=>simp [tup]
theorem fn_ret {P:Program} {fn:Func} {G D:List Nat} {w0:World} {n:Nat} {A M:List Pc} {σ:Type} {C:σ→Prop} {v:σ→Value} {N:σ→List Pc} {fr:Fr} {H:List Pc} {rs:List ResultVar} {vs:List Value} (s:σ) (hC:C s)
  (hr:fn.results=rs.toArray) (h:Res P fr H rs vs) (hv:tup vs=v s) (hN:HSub H (N s)) (hG:G=fp M) (hD:D=fp A):T ⟨P,G,D,w0,n,bodyPost P fn (FnPost P w0 A M C v N)⟩ fr H (.fin .ret):=.mk fun a w st g=>by
 subst hG hD
 refine ⟨g.df,_,results_run hr h g st.on,s,hC,by rw [hv],?_⟩
 have s2:=st.sub hN
 refine ⟨s2.on,s2.sep,s2.keep,fun p hp b hb=>?_⟩
 rcases s2.mine p hp b hb with h|h|⟨h1,h⟩
 ·exact .inr (.inl (mem_fp.1 h))
 ·exact .inl h
 ·exact .inr (.inr ⟨h1,mem_fp.1 h⟩)
instance:OneC Tryz.prog 3:=⟨⟨_,Tryz.underlying3,rfl⟩,by kernel_rfl⟩
instance:IntC Tryz.prog 3 .i64:=⟨Tryz.underlying3⟩
instance:ZC Tryz.prog 3 [.int .i64 0]:=⟨⟨.int .i64 0,by kernel_rfl,rfl⟩⟩
instance:ElT Tryz.prog 3 (.int .i64 0) 1 8:=⟨by kernel_rfl,rfl⟩
instance:IntC Tryz.prog 351 .u64:=⟨Tryz.underlying351⟩
instance:OneC Tryz.prog 4:=⟨⟨_,Tryz.underlying4,rfl⟩,by kernel_rfl⟩
instance:BoolC Tryz.prog 4:=⟨Tryz.underlying4⟩
instance:OneC Tryz.prog 9:=⟨⟨_,Tryz.underlying9,rfl⟩,by kernel_rfl⟩
instance:ZC Tryz.prog 9 [.string ⟨#[]⟩]:=⟨⟨.string ⟨#[]⟩,by kernel_rfl,rfl⟩⟩
instance:ElT Tryz.prog 9 (.string ⟨#[]⟩) 1 16:=⟨by kernel_rfl,rfl⟩
instance:AggC Tryz.prog 24 1:=⟨⟨_,Tryz.underlying24,rfl⟩,by kernel_rfl⟩
instance:AggC Tryz.prog 30 6:=⟨⟨_,Tryz.underlying30,rfl⟩,by kernel_rfl⟩
instance:AggC Tryz.prog 35 11:=⟨⟨_,Tryz.underlying35,rfl⟩,by kernel_rfl⟩
instance:FldC Tryz.prog 35 0 0 24 1:=⟨⟨_,_,Tryz.underlying35,rfl,rfl,rfl⟩,by kernel_rfl,by decide⟩
instance:FldC Tryz.prog 35 1 1 30 6:=⟨⟨_,_,Tryz.underlying35,rfl,rfl,rfl⟩,by kernel_rfl,by decide⟩
instance:FldC Tryz.prog 35 2 7 31 1:=⟨⟨_,_,Tryz.underlying35,rfl,rfl,rfl⟩,by kernel_rfl,by decide⟩
instance:FldC Tryz.prog 35 3 8 32 1:=⟨⟨_,_,Tryz.underlying35,rfl,rfl,rfl⟩,by kernel_rfl,by decide⟩
instance:FldC Tryz.prog 35 4 9 33 1:=⟨⟨_,_,Tryz.underlying35,rfl,rfl,rfl⟩,by kernel_rfl,by decide⟩
instance:FldC Tryz.prog 35 5 10 33 1:=⟨⟨_,_,Tryz.underlying35,rfl,rfl,rfl⟩,by kernel_rfl,by decide⟩
instance:AggC Tryz.prog 40 1:=⟨⟨_,Tryz.underlying40,rfl⟩,by kernel_rfl⟩
instance:FldC Tryz.prog 40 0 0 22 1:=⟨⟨_,_,Tryz.underlying40,rfl,rfl,rfl⟩,by kernel_rfl,by decide⟩
instance:BldC Tryz.prog 40 [(0,1)] [.slice none 0 0]:=⟨fun parts=>by kernel_rfl⟩
instance:AggC Tryz.prog 41 3:=⟨⟨_,Tryz.underlying41,rfl⟩,by kernel_rfl⟩
instance:FldC Tryz.prog 41 0 0 3 1:=⟨⟨_,_,Tryz.underlying41,rfl,rfl,rfl⟩,by kernel_rfl,by decide⟩
instance:FldC Tryz.prog 41 1 1 3 1:=⟨⟨_,_,Tryz.underlying41,rfl,rfl,rfl⟩,by kernel_rfl,by decide⟩
instance:FldC Tryz.prog 41 2 2 25 1:=⟨⟨_,_,Tryz.underlying41,rfl,rfl,rfl⟩,by kernel_rfl,by decide⟩
instance:ZC Tryz.prog 41 [.int .i64 0,.int .i64 0,.slice none 0 0]:=⟨⟨.agg #[.int .i64 0,.int .i64 0,.slice none 0 0],by kernel_rfl,rfl⟩⟩
instance:BldC Tryz.prog 41 [(0,1),(1,1),(2,1)] [.int .i64 0,.int .i64 0,.slice none 0 0]:=⟨fun parts=>by kernel_rfl⟩
instance:AggC Tryz.prog 44 6:=⟨⟨_,Tryz.underlying44,rfl⟩,by kernel_rfl⟩
instance:FldC Tryz.prog 44 0 0 41 3:=⟨⟨_,_,Tryz.underlying44,rfl,rfl,rfl⟩,by kernel_rfl,by decide⟩
instance:FldC Tryz.prog 44 1 3 3 1:=⟨⟨_,_,Tryz.underlying44,rfl,rfl,rfl⟩,by kernel_rfl,by decide⟩
instance:FldC Tryz.prog 44 2 4 3 1:=⟨⟨_,_,Tryz.underlying44,rfl,rfl,rfl⟩,by kernel_rfl,by decide⟩
instance:FldC Tryz.prog 44 3 5 42 1:=⟨⟨_,_,Tryz.underlying44,rfl,rfl,rfl⟩,by kernel_rfl,by decide⟩
instance:ZC Tryz.prog 44 [.int .i64 0,.int .i64 0,.slice none 0 0,.int .i64 0,.int .i64 0,.slice none 0 0]:=⟨⟨.agg #[.int .i64 0,.int .i64 0,.slice none 0 0,.int .i64 0,.int .i64 0,.slice none 0 0],by kernel_rfl,rfl⟩⟩
instance:BldC Tryz.prog 44 [(0,3),(3,1),(4,1),(5,1)] [.int .i64 0,.int .i64 0,.slice none 0 0,.int .i64 0,.int .i64 0,.slice none 0 0]:=⟨fun parts=>by kernel_rfl⟩
instance:AggC Tryz.prog 49 11:=⟨⟨_,Tryz.underlying49,rfl⟩,by kernel_rfl⟩
instance:FldC Tryz.prog 49 0 0 40 1:=⟨⟨_,_,Tryz.underlying49,rfl,rfl,rfl⟩,by kernel_rfl,by decide⟩
instance:FldC Tryz.prog 49 1 1 44 6:=⟨⟨_,_,Tryz.underlying49,rfl,rfl,rfl⟩,by kernel_rfl,by decide⟩
instance:FldC Tryz.prog 49 2 7 45 1:=⟨⟨_,_,Tryz.underlying49,rfl,rfl,rfl⟩,by kernel_rfl,by decide⟩
instance:FldC Tryz.prog 49 3 8 46 1:=⟨⟨_,_,Tryz.underlying49,rfl,rfl,rfl⟩,by kernel_rfl,by decide⟩
instance:FldC Tryz.prog 49 4 9 47 1:=⟨⟨_,_,Tryz.underlying49,rfl,rfl,rfl⟩,by kernel_rfl,by decide⟩
instance:FldC Tryz.prog 49 5 10 47 1:=⟨⟨_,_,Tryz.underlying49,rfl,rfl,rfl⟩,by kernel_rfl,by decide⟩
instance:ZC Tryz.prog 49 [.slice none 0 0,.int .i64 0,.int .i64 0,.slice none 0 0,.int .i64 0,.int .i64 0,.slice none 0 0,.slice none 0 0,.slice none 0 0,.slice none 0 0,.slice none 0 0]:=⟨⟨.agg #[.slice none 0 0,.int .i64 0,.int .i64 0,.slice none 0 0,.int .i64 0,.int .i64 0,.slice none 0 0,.slice none 0 0,.slice none 0 0,.slice none 0 0,.slice none 0 0],by kernel_rfl,rfl⟩⟩
instance:BldC Tryz.prog 49 [(0,1),(1,6),(7,1),(8,1),(9,1),(10,1)] [.slice none 0 0,.int .i64 0,.int .i64 0,.slice none 0 0,.int .i64 0,.int .i64 0,.slice none 0 0,.slice none 0 0,.slice none 0 0,.slice none 0 0,.slice none 0 0]:=⟨fun parts=>by kernel_rfl⟩
instance:AggC Tryz.prog 53 3:=⟨⟨_,Tryz.underlying53,rfl⟩,by kernel_rfl⟩
instance:FldC Tryz.prog 53 0 0 3 1:=⟨⟨_,_,Tryz.underlying53,rfl,rfl,rfl⟩,by kernel_rfl,by decide⟩
instance:FldC Tryz.prog 53 1 1 3 1:=⟨⟨_,_,Tryz.underlying53,rfl,rfl,rfl⟩,by kernel_rfl,by decide⟩
instance:FldC Tryz.prog 53 2 2 9 1:=⟨⟨_,_,Tryz.underlying53,rfl,rfl,rfl⟩,by kernel_rfl,by decide⟩
instance:ZC Tryz.prog 53 [.int .i64 0,.int .i64 0,.string ⟨#[]⟩]:=⟨⟨.agg #[.int .i64 0,.int .i64 0,.string ⟨#[]⟩],by kernel_rfl,rfl⟩⟩
instance:AggC Tryz.prog 127 5:=⟨⟨_,Tryz.underlying127,rfl⟩,by kernel_rfl⟩
instance:FldC Tryz.prog 127 0 0 3 1:=⟨⟨_,_,Tryz.underlying127,rfl,rfl,rfl⟩,by kernel_rfl,by decide⟩
instance:FldC Tryz.prog 127 1 1 3 1:=⟨⟨_,_,Tryz.underlying127,rfl,rfl,rfl⟩,by kernel_rfl,by decide⟩
instance:FldC Tryz.prog 127 2 2 3 1:=⟨⟨_,_,Tryz.underlying127,rfl,rfl,rfl⟩,by kernel_rfl,by decide⟩
instance:FldC Tryz.prog 127 3 3 3 1:=⟨⟨_,_,Tryz.underlying127,rfl,rfl,rfl⟩,by kernel_rfl,by decide⟩
instance:FldC Tryz.prog 127 4 4 9 1:=⟨⟨_,_,Tryz.underlying127,rfl,rfl,rfl⟩,by kernel_rfl,by decide⟩
instance:ZC Tryz.prog 127 [.int .i64 0,.int .i64 0,.int .i64 0,.int .i64 0,.string ⟨#[]⟩]:=⟨⟨.agg #[.int .i64 0,.int .i64 0,.int .i64 0,.int .i64 0,.string ⟨#[]⟩],by kernel_rfl,rfl⟩⟩
instance:ElT Tryz.prog 127 (.agg #[.int .i64 0,.int .i64 0,.int .i64 0,.int .i64 0,.string ⟨#[]⟩]) 5 48:=⟨by kernel_rfl,rfl⟩
instance:BldC Tryz.prog 127 [(0,1),(1,1),(2,1),(3,1),(4,1)] [.int .i64 0,.int .i64 0,.int .i64 0,.int .i64 0,.string ⟨#[]⟩]:=⟨fun parts=>by kernel_rfl⟩
instance:AggC Tryz.prog 142 2:=⟨⟨_,Tryz.underlying142,rfl⟩,by kernel_rfl⟩
instance:FldC Tryz.prog 142 0 0 3 1:=⟨⟨_,_,Tryz.underlying142,rfl,rfl,rfl⟩,by kernel_rfl,by decide⟩
instance:FldC Tryz.prog 142 1 1 140 1:=⟨⟨_,_,Tryz.underlying142,rfl,rfl,rfl⟩,by kernel_rfl,by decide⟩
instance:ZC Tryz.prog 142 [.int .i64 0,.slice none 0 0]:=⟨⟨.agg #[.int .i64 0,.slice none 0 0],by kernel_rfl,rfl⟩⟩
instance:ElT Tryz.prog 142 (.agg #[.int .i64 0,.slice none 0 0]) 2 32:=⟨by kernel_rfl,rfl⟩
instance:BldC Tryz.prog 142 [(0,1),(1,1)] [.int .i64 0,.slice none 0 0]:=⟨fun parts=>by kernel_rfl⟩
instance:AggC Tryz.prog 146 2:=⟨⟨_,Tryz.underlying146,rfl⟩,by kernel_rfl⟩
instance:FldC Tryz.prog 146 0 0 3 1:=⟨⟨_,_,Tryz.underlying146,rfl,rfl,rfl⟩,by kernel_rfl,by decide⟩
instance:FldC Tryz.prog 146 1 1 144 1:=⟨⟨_,_,Tryz.underlying146,rfl,rfl,rfl⟩,by kernel_rfl,by decide⟩
instance:ZC Tryz.prog 146 [.int .i64 0,.slice none 0 0]:=⟨⟨.agg #[.int .i64 0,.slice none 0 0],by kernel_rfl,rfl⟩⟩
instance:BldC Tryz.prog 146 [(0,1),(1,1)] [.int .i64 0,.slice none 0 0]:=⟨fun parts=>by kernel_rfl⟩
instance:AggC Tryz.prog 149 5:=⟨⟨_,Tryz.underlying149,rfl⟩,by kernel_rfl⟩
instance:FldC Tryz.prog 149 0 0 4 1:=⟨⟨_,_,Tryz.underlying149,rfl,rfl,rfl⟩,by kernel_rfl,by decide⟩
instance:FldC Tryz.prog 149 1 1 3 1:=⟨⟨_,_,Tryz.underlying149,rfl,rfl,rfl⟩,by kernel_rfl,by decide⟩
instance:FldC Tryz.prog 149 2 2 146 2:=⟨⟨_,_,Tryz.underlying149,rfl,rfl,rfl⟩,by kernel_rfl,by decide⟩
instance:FldC Tryz.prog 149 3 4 147 1:=⟨⟨_,_,Tryz.underlying149,rfl,rfl,rfl⟩,by kernel_rfl,by decide⟩
instance:ZC Tryz.prog 149 [.bool false,.int .i64 0,.int .i64 0,.slice none 0 0,.slice none 0 0]:=⟨⟨.agg #[.bool false,.int .i64 0,.int .i64 0,.slice none 0 0,.slice none 0 0],by kernel_rfl,rfl⟩⟩
instance:ElT Tryz.prog 149 (.agg #[.bool false,.int .i64 0,.int .i64 0,.slice none 0 0,.slice none 0 0]) 5 72:=⟨by kernel_rfl,rfl⟩
instance:BldC Tryz.prog 149 [(0,1),(1,1),(2,2),(4,1)] [.bool false,.int .i64 0,.int .i64 0,.slice none 0 0,.slice none 0 0]:=⟨fun parts=>by kernel_rfl⟩
instance:AggC Tryz.prog 194 2:=⟨⟨_,Tryz.underlying194,rfl⟩,by kernel_rfl⟩
instance:FldC Tryz.prog 194 0 0 3 1:=⟨⟨_,_,Tryz.underlying194,rfl,rfl,rfl⟩,by kernel_rfl,by decide⟩
instance:FldC Tryz.prog 194 1 1 3 1:=⟨⟨_,_,Tryz.underlying194,rfl,rfl,rfl⟩,by kernel_rfl,by decide⟩
instance:ZC Tryz.prog 194 [.int .i64 0,.int .i64 0]:=⟨⟨.agg #[.int .i64 0,.int .i64 0],by kernel_rfl,rfl⟩⟩
instance:ElT Tryz.prog 194 (.agg #[.int .i64 0,.int .i64 0]) 2 16:=⟨by kernel_rfl,rfl⟩
instance:BldC Tryz.prog 194 [(0,1),(1,1)] [.int .i64 0,.int .i64 0]:=⟨fun parts=>by kernel_rfl⟩
instance:AggC Tryz.prog 231 3:=⟨⟨_,Tryz.underlying231,rfl⟩,by kernel_rfl⟩
instance:FldC Tryz.prog 231 0 0 3 1:=⟨⟨_,_,Tryz.underlying231,rfl,rfl,rfl⟩,by kernel_rfl,by decide⟩
instance:FldC Tryz.prog 231 1 1 22 1:=⟨⟨_,_,Tryz.underlying231,rfl,rfl,rfl⟩,by kernel_rfl,by decide⟩
instance:FldC Tryz.prog 231 2 2 3 1:=⟨⟨_,_,Tryz.underlying231,rfl,rfl,rfl⟩,by kernel_rfl,by decide⟩
instance:ZC Tryz.prog 231 [.int .i64 0,.slice none 0 0,.int .i64 0]:=⟨⟨.agg #[.int .i64 0,.slice none 0 0,.int .i64 0],by kernel_rfl,rfl⟩⟩
instance:ElT Tryz.prog 231 (.agg #[.int .i64 0,.slice none 0 0,.int .i64 0]) 3 40:=⟨by kernel_rfl,rfl⟩
instance:BldC Tryz.prog 231 [(0,1),(1,1),(2,1)] [.int .i64 0,.slice none 0 0,.int .i64 0]:=⟨fun parts=>by kernel_rfl⟩
instance:AggC Tryz.prog 235 4:=⟨⟨_,Tryz.underlying235,rfl⟩,by kernel_rfl⟩
instance:FldC Tryz.prog 235 0 0 3 1:=⟨⟨_,_,Tryz.underlying235,rfl,rfl,rfl⟩,by kernel_rfl,by decide⟩
instance:FldC Tryz.prog 235 1 1 3 1:=⟨⟨_,_,Tryz.underlying235,rfl,rfl,rfl⟩,by kernel_rfl,by decide⟩
instance:FldC Tryz.prog 235 2 2 3 1:=⟨⟨_,_,Tryz.underlying235,rfl,rfl,rfl⟩,by kernel_rfl,by decide⟩
instance:FldC Tryz.prog 235 3 3 3 1:=⟨⟨_,_,Tryz.underlying235,rfl,rfl,rfl⟩,by kernel_rfl,by decide⟩
instance:ZC Tryz.prog 235 [.int .i64 0,.int .i64 0,.int .i64 0,.int .i64 0]:=⟨⟨.agg #[.int .i64 0,.int .i64 0,.int .i64 0,.int .i64 0],by kernel_rfl,rfl⟩⟩
instance:ElT Tryz.prog 235 (.agg #[.int .i64 0,.int .i64 0,.int .i64 0,.int .i64 0]) 4 32:=⟨by kernel_rfl,rfl⟩
instance:BldC Tryz.prog 235 [(0,1),(1,1),(2,1),(3,1)] [.int .i64 0,.int .i64 0,.int .i64 0,.int .i64 0]:=⟨fun parts=>by kernel_rfl⟩
instance:AggC Tryz.prog 247 2:=⟨⟨_,Tryz.underlying247,rfl⟩,by kernel_rfl⟩
instance:FldC Tryz.prog 247 0 0 4 1:=⟨⟨_,_,Tryz.underlying247,rfl,rfl,rfl⟩,by kernel_rfl,by decide⟩
instance:FldC Tryz.prog 247 1 1 9 1:=⟨⟨_,_,Tryz.underlying247,rfl,rfl,rfl⟩,by kernel_rfl,by decide⟩
instance:ZC Tryz.prog 247 [.bool false,.string ⟨#[]⟩]:=⟨⟨.agg #[.bool false,.string ⟨#[]⟩],by kernel_rfl,rfl⟩⟩
instance:ElT Tryz.prog 247 (.agg #[.bool false,.string ⟨#[]⟩]) 2 24:=⟨by kernel_rfl,rfl⟩
instance:BldC Tryz.prog 247 [(0,1),(1,1)] [.bool false,.string ⟨#[]⟩]:=⟨fun parts=>by kernel_rfl⟩
instance:OneC Tryz.prog 22:=⟨⟨_,Tryz.underlying22,rfl⟩,by kernel_rfl⟩
instance:SlC Tryz.prog 22 3 1:=⟨Tryz.underlying22,by kernel_rfl⟩
instance:OneC Tryz.prog 25:=⟨⟨_,Tryz.underlying25,rfl⟩,by kernel_rfl⟩
instance:SlC Tryz.prog 25 9 1:=⟨Tryz.underlying25,by kernel_rfl⟩
instance:OneC Tryz.prog 31:=⟨⟨_,Tryz.underlying31,rfl⟩,by kernel_rfl⟩
instance:OneC Tryz.prog 32:=⟨⟨_,Tryz.underlying32,rfl⟩,by kernel_rfl⟩
instance:OneC Tryz.prog 33:=⟨⟨_,Tryz.underlying33,rfl⟩,by kernel_rfl⟩
instance:OneC Tryz.prog 42:=⟨⟨_,Tryz.underlying42,rfl⟩,by kernel_rfl⟩
instance:SlC Tryz.prog 42 194 2:=⟨Tryz.underlying42,by kernel_rfl⟩
instance:OneC Tryz.prog 45:=⟨⟨_,Tryz.underlying45,rfl⟩,by kernel_rfl⟩
instance:SlC Tryz.prog 45 142 2:=⟨Tryz.underlying45,by kernel_rfl⟩
instance:OneC Tryz.prog 46:=⟨⟨_,Tryz.underlying46,rfl⟩,by kernel_rfl⟩
instance:SlC Tryz.prog 46 149 5:=⟨Tryz.underlying46,by kernel_rfl⟩
instance:OneC Tryz.prog 47:=⟨⟨_,Tryz.underlying47,rfl⟩,by kernel_rfl⟩
instance:SlC Tryz.prog 47 132 1:=⟨Tryz.underlying47,by kernel_rfl⟩
instance:SlC Tryz.prog 68 53 3:=⟨Tryz.underlying68,by kernel_rfl⟩
instance:OneC Tryz.prog 132:=⟨⟨_,Tryz.underlying132,rfl⟩,by kernel_rfl⟩
instance:SlC Tryz.prog 132 127 5:=⟨Tryz.underlying132,by kernel_rfl⟩
instance:ZC Tryz.prog 132 [.slice none 0 0]:=⟨⟨.slice none 0 0,by kernel_rfl,rfl⟩⟩
instance:ElT Tryz.prog 132 (.slice none 0 0) 1 24:=⟨by kernel_rfl,rfl⟩
instance:OneC Tryz.prog 140:=⟨⟨_,Tryz.underlying140,rfl⟩,by kernel_rfl⟩
instance:SlC Tryz.prog 140 231 3:=⟨Tryz.underlying140,by kernel_rfl⟩
instance:OneC Tryz.prog 144:=⟨⟨_,Tryz.underlying144,rfl⟩,by kernel_rfl⟩
instance:SlC Tryz.prog 144 247 2:=⟨Tryz.underlying144,by kernel_rfl⟩
instance:OneC Tryz.prog 147:=⟨⟨_,Tryz.underlying147,rfl⟩,by kernel_rfl⟩
instance:SlC Tryz.prog 147 235 4:=⟨Tryz.underlying147,by kernel_rfl⟩
instance:OneC Tryz.prog 236:=⟨⟨_,Tryz.underlying236,rfl⟩,by kernel_rfl⟩
instance:OneC Tryz.prog 252:=⟨⟨_,Tryz.underlying252,rfl⟩,by kernel_rfl⟩
instance:OneC Tryz.prog 255:=⟨⟨_,Tryz.underlying255,rfl⟩,by kernel_rfl⟩
theorem Sl.dropS {P:Program} {α:Type} {E:Elem α} {w:World} {a:Option Addr} {n cap:Nat} {xs:List α} {F} (h:Sl E w (.slice a n cap) xs F) (t:TypeId) (ht:P.underlying t=some (.slice (P.elem t))) (k:Nat) (hk:k≤xs.length)
  (hs:∀W,(sizeOf (P.elem t)).run P W=.ok E.sz W):∃a2 c2 F',(∀W,(Instr.sliceAt t (.slice a n cap) (some (.int .i64 (k:Int))) none none).run P W=.ok (.slice a2 (xs.length - k) c2) W)∧(∀b∈F',b∈F)∧Sl E w (.slice a2 (xs.length - k) c2) (xs.drop k) F':=by
 obtain ⟨a',cap',hv,hl,h⟩:=h
 cases hv
 have hrun:∀W,(Instr.sliceAt t (.slice a xs.length cap) (some (.int .i64 (k:Int))) none none).run P W=.ok (.slice (if cap=k then a else a.map (·.add (k * E.sz))) (xs.length - k) (cap - k)) W:=fun W=>by
  rw [run_sliceAt_slice (h:=ht),run_slice_l (ht:=ht) (h0:=by omega) (h1:=by omega),hs];simp [Result.andThen,sliced]
 refine ⟨if cap=k then a else a.map (·.add (k * E.sz)),cap - k,?_⟩
 rcases h with ⟨rfl,rfl,h0⟩|⟨b,off,F',rfl,hne,rfl,hc⟩
 ·refine ⟨[],hrun,by simp,if cap=k then a else a.map (·.add (k * E.sz)),cap - k,by simp,⟨by simp,by omega⟩,.inl ⟨by simp,rfl,fun e=>?_⟩⟩
  cases a with
  | none=>rw [h0 rfl];simp
  | some ad=>split at e <;> simp at e
 ·by_cases hkn:k=xs.length
  ·subst hkn
   refine ⟨[],hrun,by simp,if cap=xs.length then some ⟨b,off,none⟩ else (some (⟨b,off,none⟩:Addr)).map (·.add (xs.length * E.sz)),cap - xs.length,by simp,⟨by simp,by omega⟩,.inl ⟨by simp,rfl,fun e=>?_⟩⟩
   split at e <;> simp at e
  ·obtain ⟨cs,hf,hcs⟩:=hc.flat
   have e:xs=xs.take k++xs.drop k:=by simp
   rw [e] at hf
   obtain ⟨c1,c2,G1,G2,rfl,rfl,h1,h2⟩:=hf.split
   have hl1:=h1.len
   have hck:¬cap=k:=by omega
   rw [List.length_take,Nat.min_eq_left (by omega)] at hl1
   refine ⟨b::G2,hrun,by intro x hx;simp at hx ⊢;rcases hx with hx|hx <;> simp [hx],some ⟨b,off+k * E.sz,none⟩,cap - k,?_,⟨by simp;omega,by omega⟩,.inr ⟨b,off+k * E.sz,G2,rfl,fun e=>?_,rfl,h2.cells fun j u hu=>?_⟩⟩
   ·rw [if_neg hck];simp only [Option.map_some,Addr.add,List.length_drop,Value.slice.injEq,Option.some.injEq,and_true,true_and]
    by_cases h0:k * E.sz=0 <;> simp [h0]
   ·have:=congrArg List.length e;simp at this;omega
   ·have:=hcs (c1.length+j) u (by rw [List.getElem?_append_right (by omega),show c1.length+j - c1.length=j by omega];exact hu)
    rw [←this,hl1];congr 2;omega
theorem memE {p:Pc} {H:List Pc} (h:p∈H:=by (repeat (first|exact .head _|apply List.Mem.tail));first|done|fail):p∈H:=h
theorem cutE {l:List Value} {j m:Nat} {r:List Value} (h:Cut l j m r:=by repeat constructor):Cut l j m r:=h
theorem putE {l r s:List Value} {j:Nat} (h:Put l j r s:=by first|exact .one .zero|repeat constructor):Put l j r s:=h
theorem evsE {fr:Fr} {aS:List Operand} {vs:List Value} (h:Evs fr aS vs:=by repeat (first|exact Evs.nil|apply Evs.cons (by rfl))):Evs fr aS vs:=h
theorem rplE {H S:List Pc} {p q:Pc} (h:Rpl H p q S:=by (repeat (first|exact .here|apply Rpl.there));first|done|fail):Rpl H p q S:=h
theorem picksE {H M R:List Pc} (h:Picks H M R:=by repeat (first|exact Picks.nil|apply Picks.cons (by (repeat (first|exact .here|apply Pick.there));first|done|fail))):Picks H M R:=h
theorem hsE {A H:List Pc} (h:HSub A H:=by repeat (first|exact HSub.nil|refine HSub.cons (by (repeat (first|exact .here|apply Pick.there));first|done|fail) ?_)):HSub A H:=h
theorem frE {a b:Fr} (h:FrSub a b:=by repeat (first|exact FrSub.nil|refine FrSub.cons (by rfl) ?_)):FrSub a b:=h
theorem foldl_put (l:List Value):∀(k off:Nat) (A o B:List Value),A.length=off+k→o.length=l.length→(l.zipIdx k).foldl (fun (cs:Array Value) (x:Value × Nat)=>cs.setIfInBounds (off+x.2) x.1) (A++o++B).toArray=(A++l++B).toArray:=by
 induction l with
 | nil=>intro k off A o B _ ho;simp at ho;subst ho;simp
 | cons u r ih =>
  intro k off A o B hA ho
  cases o with
  | nil=>simp at ho
  | cons z o =>
   rw [List.zipIdx_cons,List.foldl_cons]
   have h4:(A++(z::o)++B).toArray.setIfInBounds (off+k) u=((A++[u])++o++B).toArray:=by
    rw [←hA];simp [List.set_append]
   show List.foldl _ ((A++(z::o)++B).toArray.setIfInBounds (off+k) u) _=_
   rw [h4,ih (k+1) off (A++[u]) o B (by simp;omega) (by simpa using ho)];simp
inductive Fil (pl:Nat→Option (Nat × Nat)) (fr:Fr):List Value→List (Nat × Operand)→List Value→Prop
 | nil {cs}:Fil pl fr cs [] cs
 | cons {cs i x ps v l off r q}:ev fr x=some v→v.cells=l.toArray→pl i=some (off,l.length)→Put cs off l r→Fil pl fr r ps q→Fil pl fr cs ((i,x)::ps) q
theorem Fil.run {pl:Nat→Option (Nat × Nat)} {fr:Fr} {n:Nat} {cs q:List Value} {ps:List (Nat × Operand)} (h:Fil pl fr cs ps q) {a:Act} (g:Ag n fr a):Instr.fill pl cs.toArray (ps.map fun (i,x)=>(i,a.eval x))=some q.toArray:=by
 induction h with
 | nil=>rfl
 | @cons cs i x ps v l off r q hx hv hp hput _ ih =>
  obtain ⟨A,o,B,rfl,rfl,rfl,ho⟩:=hput.parts
  rw [List.map_cons]
  unfold Instr.fill
  simp only [hp,g.ev hx,hv]
  have h1:¬((l.toArray.size≠l.length)∨(A.length+l.toArray.size > (A++o++B).toArray.size)):=by simp;omega
  rw [if_neg (by simpa using h1)]
  have h2:l.toArray.zipIdx.foldl (fun (cs:Array Value) (x:Value × Nat)=>cs.setIfInBounds (A.length+x.2) x.1) (A++o++B).toArray=(A++l++B).toArray:=by
   rw [←Array.foldl_toList]
   have:=foldl_put l 0 A.length A o B rfl ho
   simpa using this
  rw [h2];exact ih
theorem filE {pl:Nat→Option (Nat × Nat)} {fr:Fr} {cs q:List Value} {ps:List (Nat × Operand)} (h:Fil pl fr cs ps q:=by repeat (first|exact Fil.nil|apply Fil.cons (by rfl) (by rfl) (by rfl) (by repeat constructor))):Fil pl fr cs ps q:=h
theorem yd_bd {P:Program} {n:Nat} {fr:Fr} {H:List Pc} {ty:TypeId} {t:Nat} {pl:List (Nat × Nat)} {zs q:List Value} {ps:List (Nat × Operand)} [hB:BldC P t pl zs] (hf:Fil (pl.toArray[·]?) fr zs ps q):Yd P n fr H (.build t ps.toArray) ty (.agg q.toArray):=.mk fun a w d pos aft gd g _=>by
 have h3:=hf.run g
 have h4:=run_build (P:=P) w t (ps.map fun (i,x)=>(i,a.eval x)).toArray q.toArray (by rw [hB.b];exact h3)
 simp only [List.map_toArray] at h4
 simp [execOp,h4]
theorem ydE {P:Program} {n:Nat} {fr:Fr} {H:List Pc} {o:Op} {ty:TypeId} {v:Value} (h:Yd P n fr H o ty v:=by first|(apply yd_move;rfl)|(apply yd_assign;rfl)|(apply yd_nil;rfl)|(apply yd_fa;rfl)|(apply yd_ld;rfl;exact memE;rfl)|(apply yd_ldc;rfl;exact memE;rfl)|(apply yd_lda;rfl;exact memE;exact cutE)|(apply yd_ldac;rfl;exact memE;exact cutE)|(apply yd_pick_t;rfl;rfl)|(apply yd_pick_f;rfl;rfl)|(apply yd_len;rfl)|(apply yd_lens;rfl)|(apply yd_ex;rfl;rfl)|(apply yd_fld;rfl;rfl)|(apply yd_flda;rfl;exact cutE)|(apply yd_lt;rfl;rfl)|(apply yd_le;rfl;rfl)|(apply yd_gt;rfl;rfl)|(apply yd_ge;rfl;rfl)|(apply yd_eq;rfl;rfl)|(apply yd_ne;rfl;rfl)|(apply yd_add;rfl;rfl;omega;omega)|(apply yd_sub;rfl;rfl;omega;omega)|(apply yd_eqs;rfl;rfl)|(apply yd_nes;rfl;rfl)|(apply yd_cat;rfl;rfl;omega)|(apply yd_notd;rfl)|(apply yd_not;rfl)|(apply yd_neg;rfl;omega;omega)|(apply yd_ix;rfl;rfl;omega;omega)|(apply yd_ixs;rfl;rfl;omega;omega)|(apply yd_quo;rfl;rfl;omega;omega;omega)|(apply yd_rem;rfl;rfl;omega;omega)|(apply yd_mul;rfl;rfl;omega;omega)|(apply yd_cv;rfl;omega;omega)|(apply yd_eqb;rfl;rfl)|(apply yd_neb;rfl;rfl)|(apply yd_fn;exact evsE)|(apply yd_nilf;rfl)|(apply yd_min;rfl;rfl)|(apply yd_max;rfl;rfl)|(apply yd_bd;exact filE)):Yd P n fr H o ty v:=h
section
variable {c:Cx} {fr:Fr} {H:List Pc} {k:List It} {Φ:Gl} {ops:Array Oper} {rest:List Oper} {d:Nat} {o:Op} {ty:TypeId} {pos:String} {aft:Array Edge} {v u:Value} {x y:Operand}
theorem st {t g tt o' j m:Nat} {A cs B l r:List Value} {S:List Pc} {gd:Option (Nat × Bool)} (h:T c fr S Φ) (hx:ev fr x=some (ptr g o' j):=by rfl) (hy:ev fr y=some v:=by rfl) (hv:v.cells=l.toArray:=by rfl) (hs:(c.P.info? t).map (·.size)=some m:=by first|exact AggC.s|exact OneC.s) (hl:l.length=m:=by rfl)
  (hr:Rpl H (.row g tt o' A cs B) (.row g tt o' A r B) S:=by (repeat (first|exact .here|apply Rpl.there));first|done|fail) (hp:Put cs j l r:=by first|exact .one .zero|repeat constructor) (h1:l.all (·.oneCell')=true:=by rfl):Ef c fr H ⟨none,.store t x y,ty,pos,aft,gd⟩ Φ:=ef_store hs hx hy hv hl h1 hp hr h
theorem ca {f:Nat} {aS:List Operand} {ts:Array TypeId} {vs:List Value} {gd:Option (Nat × Bool)} (h:Cl c fr H d f vs Φ) (ha:Evs fr aS vs:=by repeat (first|exact Evs.nil|apply Evs.cons (by rfl))) (hb:bodyB c.P f=true:=by kernel_rfl) (hd:Nat.blt d c.n=true:=by rfl):Ef c fr H ⟨some d,.call { callee:=.value (.func f),args:=aS.toArray,argTypes:=ts },ty,pos,aft,gd⟩ Φ:=cl_ef h ha hb hd
theorem cf {f:Nat} {vs:List Value} {A M R:List Pc} {σ:Type} {C:σ→Prop} {vv:σ→Value} {N:σ→List Pc} (hf:Fn c.P f vs A M C vv N) (h:∀s,C s→T c ((d,vv s)::fr) (N s++R) Φ)
  (hM:Picks H M R:=by repeat (first|exact Picks.nil|apply Picks.cons (by (repeat (first|exact .here|apply Pick.there));first|done|fail))) (hA:Mems A R:=by repeat (first|exact Mems.nil|refine Mems.cons (by (repeat (first|exact .head _|apply List.Mem.tail));first|done|fail) ?_)) (hmM:M.all (·.mu)=true:=by rfl) (hmA:A.all (fun p=>!p.mu)=true:=by rfl):Cl c fr H d f vs Φ:=cf_ hf h hM hA hmM hmA
inductive AppL:List Pc→List Pc→List Pc→Prop
 | nil {R}:AppL [] R R
 | cons {p N R X}:AppL N R X→AppL (p::N) R (p::X)
theorem AppL.eq {N R X} (h:AppL N R X):N++R=X:=by
 induction h with
 | nil=>rfl
 | cons _ ih=>simp [ih]
theorem t_app {N R X:List Pc} (h:T c fr X Φ) (hX:AppL N R X:=by repeat constructor):T c fr (N++R) Φ:=by rw [hX.eq];exact h
theorem St.ro {G D w0 w} {p q:Pc} (s:St G D w0 H w) (hq:q∈H) (hm:q.mu=false) (hpm:p.mu=false) (hp:p.P w) (hF:∀b∈p.F,b∈q.F):St G D w0 (p::H) w :=
 s.add (N:=[p]) (Below.refl _ _) (by intro x hx;simp at hx;subst hx;exact hp) ⟨by simp,trivial⟩ (by intro x hx b hb;simp at hx;subst hx;exact .inr ⟨hpm,q,hq,hm,hF b hb⟩)
theorem St.conv {G D w0 w} {p q:Pc} {S:List Pc} (s:St G D w0 (p::S) w) (hm:p.mu=true) (hq:q.P w) (hF:∀b∈q.F,b∈p.F):St G D w0 (q::S) w :=
 St.turn (M:=[p]) (N:=[q]) s (Keep.refl _ w) (by intro x hx;simp at hx;subst hx;exact hq) ⟨by simp,trivial⟩ (by intro x hx b hb;simp at hx;subst hx;exact .inr (.inl ⟨p,by simp,hm,hF b hb⟩))
/-! elements, parts of slices that read -/
theorem sl_at {α:Type} {E:Elem α} {w:World} {a:Option Addr} {n cp:Nat} {xs:List α} {F:List Nat} (h:(Pc.sl E (.slice a n cp) xs F).P w) (i:Nat) (hi:i < xs.length) :
  ∃b o cs G,a=some ⟨b,o,none⟩∧E.rep w cs xs[i] G∧(∀x∈G,x∈F)∧b∈F∧cs≠[]∧w.rangeAt b (o+i * E.sz) cs:=by
 obtain ⟨hz,a',cap,hv,hl,h|⟨b,o,F',rfl,hne,rfl,hc⟩⟩:=h
 ·rw [h.1] at hi;simp at hi
 ·simp only [Value.slice.injEq] at hv
  obtain ⟨rfl, -, -⟩:=hv
  obtain ⟨cs,F1,h1,h2,h3⟩:=hc.get i hi
  have hl:=E.len h1
  refine ⟨b,o,cs,F1,rfl,h1,fun x hx=>by simp [h3 x hx],by simp,fun e=>by subst e;simp at hl;omega,fun j u hu=>?_⟩
  have hj:j < E.sz:=by have:=(List.getElem?_eq_some_iff.1 hu).1;omega
  rw [h2 j hj];exact hu
theorem at_int {a:Option Addr} {n cp:Nat} {xs:List Int} {F:List Nat} (i:Nat) (h:∀(hi:i < xs.length) b o,a=some ⟨b,o,none⟩→T c fr (.cel b (o+i * 1) [.int .i64 xs[i]]::H) Φ) (hm:.sl EInt (.slice a n cp) xs F∈H:=by (repeat (first|exact .head _|apply List.Mem.tail));first|done|fail) (hi:i < xs.length:=by omega):T c fr H Φ:=.mk fun ac w s g=>by
 obtain ⟨b,o,cs,G,ha,⟨rfl,rfl⟩, -,hb,hne,hr⟩:=sl_at (s.get hm) i hi
 exact (h hi b o ha).h ac w (s.ro hm rfl rfl ⟨hne,hr⟩ (by intro x hx;simp [Pc.F] at hx;subst hx;exact hb)) g
theorem at_str {a:Option Addr} {n cp:Nat} {xs:List ByteArray} {F:List Nat} (i:Nat) (h:∀(hi:i < xs.length) b o,a=some ⟨b,o,none⟩→xs[i].size≤maxLen→T c fr (.cel b (o+i * 1) [.string xs[i]]::H) Φ) (hm:.sl EStr (.slice a n cp) xs F∈H:=by (repeat (first|exact .head _|apply List.Mem.tail));first|done|fail) (hi:i < xs.length:=by omega):T c fr H Φ:=.mk fun ac w s g=>by
 obtain ⟨b,o,cs,G,ha,⟨rfl,hs,rfl⟩, -,hb,hne,hr⟩:=sl_at (s.get hm) i hi
 exact (h hi b o ha hs).h ac w (s.ro hm rfl rfl ⟨hne,hr⟩ (by intro x hx;simp [Pc.F] at hx;subst hx;exact hb)) g
theorem t_read {α:Type} {E:Elem α} {t:TypeId} {v:Value} {xs:List α} {F:List Nat} {S:List Pc} (h:∀F',T c fr (.sl E v xs F'::S) Φ) (hp:Pick H (.ow E t v xs F) S:=by (repeat (first|exact .here|apply Pick.there));first|done|fail) (hz:0 < E.sz:=by decide):T c fr H Φ:=.mk fun a w s g=>by
 have s1:=s.pick hp
 obtain ⟨-,ho⟩:=s1.on (.ow E t v xs F) (by simp)
 obtain ⟨F',hF,hs⟩:=ho.read
 exact (h F').h a w (s1.conv rfl ⟨hz,hs⟩ hF) g
theorem Ow.takeO {α:Type} {E:Elem α} {t:TypeId} {w:World} {a:Option Addr} {n cp:Nat} {xs:List α} {F:List Nat} (h:Ow E t w (.slice a n cp) xs F) (k:Nat) (hk:k≤xs.length):∃F',F'.Sublist F∧Ow E t w (.slice a k cp) (xs.take k) F':=by
 rcases h with ⟨h1,rfl,rfl⟩|⟨g,cap,cs,rest,G,h1,h2,h3,h4,h5,h6,rfl⟩
 ·cases h1
  have:k=0:=by simpa using hk
  subst this
  exact ⟨[],.slnil,.inl ⟨rfl,rfl,rfl⟩⟩
 ·cases h1
  rw [←List.take_append_drop k xs] at h6
  obtain ⟨c1,c2,G1,G2,rfl,rfl,f1,f2⟩:=h6.split
  have hl:(xs.take k).length=k:=by simp [Nat.min_eq_left hk]
  refine ⟨g::G1,(List.sublist_append_left G1 G2).cons_cons g,.inr ⟨g,cp,c1,c2++rest,G1,by rw [hl],by rw [←List.append_assoc];exact h2,by omega,h4,by simp only [List.length_append] at h5 ⊢;omega,f1,rfl⟩⟩
theorem t_take {α:Type} {E:Elem α} {t:TypeId} {a:Option Addr} {n cp:Nat} {xs:List α} {F:List Nat} {S:List Pc} (k:Nat) (h:∀F',T c fr (.ow E t (.slice a k cp) (xs.take k) F'::S) Φ) (hk:k≤xs.length:=by omega) (hp:Pick H (.ow E t (.slice a n cp) xs F) S:=by (repeat (first|exact .here|apply Pick.there));first|done|fail):T c fr H Φ:=.mk fun ac w s g=>by
 have s1:=s.pick hp
 obtain ⟨hn,ho⟩:=s1.on (.ow E t (.slice a n cp) xs F) (by simp)
 obtain ⟨F',hF,hs⟩:=ho.takeO k hk
 exact (h F').h ac w (s1.conv rfl ⟨hn.sublist hF,hs⟩ hF.subset) g
theorem t_cap {α:Type} {E:Elem α} {t:TypeId} {a:Option Addr} {n cp:Nat} {xs:List α} {F:List Nat} (h:n≤cp→cp≤9223372036854775807→T c fr H Φ) (hm:.ow E t (.slice a n cp) xs F∈H:=by (repeat (first|exact .head _|apply List.Mem.tail));first|done|fail):T c fr H Φ:=.mk fun ac w s g=>by
 obtain ⟨-,h'|⟨g',cap,cs,rest,G,h1,h2,h3,h4, -⟩⟩:=s.get hm
 ·obtain ⟨h1,h2, -⟩:=h'
  cases h1
  exact (h (by simp) (by decide)).h ac w s g
 ·cases h1
  exact (h h3 (by unfold maxLen at h4;omega)).h ac w s g
theorem t_nilow {α:Type} (E:Elem α) (t:TypeId) (h:T c fr (.ow E t (.slice none 0 0) [] []::H) Φ):T c fr H Φ:=.mk fun a w s g =>
 h.h a w (s.add (N:=[.ow E t (.slice none 0 0) [] []]) (Below.refl _ _) (by intro p hp;simp at hp;subst hp;exact ⟨by simp,.inl ⟨rfl,rfl,rfl⟩⟩) ⟨by simp,trivial⟩ (by intro p hp b hb;simp at hp;subst hp;simp [Pc.F] at hb)) g
theorem t_nilsl {α:Type} (E:Elem α) (hz:0 < E.sz) (h:T c fr (.sl E (.slice none 0 0) [] []::H) Φ):T c fr H Φ:=.mk fun a w s g =>
 h.h a w (s.add (N:=[.sl E (.slice none 0 0) [] []]) (Below.refl _ _) (by intro p hp;simp at hp;subst hp;exact ⟨hz,none,0,rfl,⟨Nat.le_refl _,by unfold maxLen;omega⟩,.inl ⟨rfl,rfl,fun _=>rfl⟩⟩) ⟨by simp,trivial⟩ (by intro p hp b hb;simp at hp;subst hp;simp [Pc.F] at hb)) g
theorem t_emp {α:Type} (E:Elem α) {t g:Nat} {S:List Pc} (h:T c fr (.ow E t (.slice (some ⟨g,0,none⟩) 0 0) [] [g]::S) Φ) (hp:Pick H (.row g t 0 [] [] []) S:=by (repeat (first|exact .here|apply Pick.there));first|done|fail):T c fr H Φ:=.mk fun a w s ag=>by
 have s1:=s.pick hp
 obtain ⟨-,hr⟩:=s1.on (.row g t 0 [] [] []) (by simp)
 exact h.h a w (s1.conv rfl ⟨by simp,Ow.empty (by simpa using hr)⟩ (fun b hb=>hb)) ag
theorem bs0 {t e m:Nat} {gd:Option (Nat × Bool)} [hS:SlC c.P t e m] (h:∀g,T c ((d,.slice (some ⟨g,0,none⟩) 0 0)::fr) (.row g e 0 [] [] []::H) Φ) (hd:Nat.blt d c.n=true:=by rfl):Ef c fr H ⟨some d,.buildSlice t 0 #[],ty,pos,aft,gd⟩ Φ:=ef_of fun Q a w s g=>by
 have e1:(execOp a.eval ⟨some d,.buildSlice t 0 #[],ty,pos,aft,gd⟩).run c.P w=.ok (.value (.slice (some ⟨w.heap.size,0,none⟩) 0 0)) (w.alloc (.cells #[] e)):=by
  simp [execOp,Instr.buildSlice,run_underlying hS.u,size_of hS.s,Instr.fill,newRow,Array.range_zero']
 rw [e1]
 exact (h _).h _ _ (s.new e []) (g.put hd)
inductive AppV:List Value→List Value→List Value→Prop
 | nil {r}:AppV [] r r
 | cons {u l r q}:AppV l r q→AppV (u::l) r (u::q)
theorem AppV.eq {l r q} (h:AppV l r q):l++r=q:=by
 induction h with
 | nil=>rfl
 | cons _ ih=>simp [ih]
inductive Rpt (zs:List Value):Nat→List Value→Prop
 | zero:Rpt zs 0 []
 | succ {n r q}:Rpt zs n r→AppV zs r q→Rpt zs (n+1) q
theorem Rpt.eq {zs:List Value} {n q} (h:Rpt zs n q):q=(List.replicate n zs).flatten:=by
 induction h with
 | zero=>rfl
 | succ _ h2 ih=>rw [←h2.eq,ih,List.replicate_succ,List.flatten_cons]
theorem bs {t e m b len:Nat} {z:Value} {zs cs q:List Value} {ps:List (Nat × Operand)} {gd:Option (Nat × Bool)} [hS:SlC c.P t e m] [hE:ElT c.P e z m b] [hZ:ZC c.P e zs] (h:∀g,T c ((d,.slice (some ⟨g,0,none⟩) len len)::fr) (.row g e 0 [] q []::H) Φ)
  (hc:Rpt zs len cs:=by repeat constructor) (hf:Fil (fun i=>some (i * m,m)) fr cs ps q:=by repeat (first|exact Fil.nil|apply Fil.cons (by rfl) (by rfl) (by rfl) (by repeat constructor))) (hl:Nat.ble (len * m) 1000=true:=by rfl) (hm:Nat.blt 0 m=true:=by rfl) (hlen:Nat.blt 0 len=true:=by rfl) (hd:Nat.blt d c.n=true:=by rfl) :
  Ef c fr H ⟨some d,.buildSlice t len ps.toArray,ty,pos,aft,gd⟩ Φ:=ef_of fun Q a w s g=>by
 have hm0:m≠0:=by have:0 < m:=by simpa using hm
                  omega
 have hlen0:len≠0:=by have:0 < len:=by simpa using hlen
                      omega
 have hl2:len * m≤1000:=by simpa using hl
 obtain ⟨i,hi,hz⟩:=Option.map_eq_some_iff.1 hE.i
 simp only [Prod.mk.injEq] at hz
 obtain ⟨hz,hs, -⟩:=hz
 obtain ⟨z',hz',hzc⟩:=hZ.z
 obtain rfl:z'=z:=by rw [hi] at hz';simp [hz] at hz';exact hz'.symm
 have hzl:zs.length=m:=by have:=hE.s;rw [hzc] at this;simpa using this
 have e2:((Array.range (len * m)).map (zs.toArray[· % zs.toArray.size]!))=cs.toArray:=by
  have:=madeCells_flat zs.toArray len
  rw [hc.eq]
  apply Array.ext'
  rw [show zs.toArray.size=m from by simp [hzl]] at this
  simpa [madeCells] using this
 have e1:(execOp a.eval ⟨some d,.buildSlice t len ps.toArray,ty,pos,aft,gd⟩).run c.P w=.ok (.value (.slice (some ⟨w.heap.size,0,none⟩) len len)) (w.alloc (.cells q.toArray e)):=by
  have h3:=hf.run g
  have hne:¬(len * m=0):=Nat.mul_ne_zero hlen0 hm0
  have hns:¬(len * m > 2 ^ 24):=by omega
  have hzv:(zeroValue e).run c.P w=.ok z' w:=by simp [zeroValue,typeInfo,hi,hz]
  simp only [execOp,Instr.buildSlice,Sem.run_bind,run_underlying hS.u,size_of hS.s,Result.andThen_ok,if_neg hns,if_neg hne,hzv,hzc,Sem.run_pure,Sem.run_ite,e2]
  simp only [List.map_toArray,h3,newRow,Sem.run_bind,run_newObj_alloc,Result.andThen_ok,Sem.run_pure]
 rw [e1]
 exact (h _).h _ _ (s.new e q) (g.put hd)
theorem o_bs0 {t e m:Nat} [SlC c.P t e m] (hd:Nat.blt d c.n=true) (h:∀g,T c ((d,.slice (some ⟨g,0,none⟩) 0 0)::fr) (.row g e 0 [] [] []::H) Φ):On c fr H (some d) (.buildSlice t 0 #[]) ty Φ:=⟨fun _ _ _=>bs0 h hd⟩
theorem rptE {zs:List Value} {n:Nat} {q:List Value} (h:Rpt zs n q:=by repeat constructor):Rpt zs n q:=h
theorem o_bs {t e m b len:Nat} {z:Value} {zs cs q:List Value} {ps:List (Nat × Operand)} [SlC c.P t e m] [ElT c.P e z m b] [ZC c.P e zs] (hd:Nat.blt d c.n=true) (hlen:Nat.blt 0 len=true) (hm:Nat.blt 0 m=true) (hl:Nat.ble (len * m) 1000=true) (hc:Rpt zs len cs) (hf:Fil (fun i=>some (i * m,m)) fr cs ps q) (h:∀g,T c ((d,.slice (some ⟨g,0,none⟩) len len)::fr) (.row g e 0 [] q []::H) Φ) :
  On c fr H (some d) (.buildSlice t len ps.toArray) ty Φ:=⟨fun _ _ _=>bs h hc hf hl hm hlen hd⟩
end
end Go.Proofs.YtgmbfohkpfineaaGreatDoor
