/- Part 7 of the proof: 13 texts, one behind the other. -/
import Derived.ProofKit
import Derived.OpenShut
import Derived.Test.YtgmbfohkpfineaaGreatDoorRows
import Derived.MakeChecks
import Derived.Stop.LaidErr
import Derived.Test.YtgmbfohkpfineaaGreatDoorCards
import Derived.Test.YtgmbfohkpfineaaGreatDoorTie
import Derived.LaidMore
import Derived.Lay
import Derived.SevenTiedAt
import Derived.Stop.Joined
import Derived.Test.YtgmbfohkpfineaaGreatDoorM6
set_option maxRecDepth 100000
set_option maxHeartbeats 8000000
set_option linter.all false
set_option linter.unusedVariables false
set_option linter.unusedSimpArgs false
namespace Go.Proofs.YtgmbfohkpfineaaGreatDoor
open Go.RowKit
structure FnS where
 k:Nat
 z:NV
 a:Option Addr
 c:Nat
 F:List Nat
theorem fin_facts {n:Net} {r:Int} (hok:okFin n r=true) {k:Nat} (hk:(k:Int)≤r):goodNet (finTo n k).1=true∧(finTo n k).1.source.clock=n.source.clock+(k:Int)∧(finTo n k).2.length≤420000000000:=by
 unfold okFin btw at hok
 simp only [Bool.and_eq_true,decide_eq_true_eq] at hok
 obtain ⟨⟨g,h1,h2⟩,h3⟩:=hok
 obtain ⟨a, -,b,c⟩:=fin_good g k (by omega)
 exact ⟨a,b,by omega⟩
theorem fin_next (n:Net) (k:Nat):finTo n (k+1)=((drN (tickN (finTo n k).1).1).1,(finTo n k).2++(tickN (finTo n k).1).2++(drN (tickN (finTo n k).1).1).2):=rfl
theorem fin_tick {n:Net} (h1:goodNet n=true) (hc:n.source.clock < 9999):goodNet (tickN n).1=true∧(tickN n).2.length≤320000∧(drN (tickN n).1).2.length≤6720000000:=by
 have t1:=tickN_good h1 hc
 have hn8:=(goodT (goodNet_GN.1 h1).t).n1
 have hn2:=(goodT (goodNet_GN.1 h1).t).n0
 have t4:(tickN n).2.length≤40000 * (n.tree.parent.length - 1):=tick_few h1 hc _ (by omega)
 exact ⟨t1,by omega,drN_few t1⟩
theorem FinishNet_f (n:Net) (r:Int) (v:Value) (F FT:List Nat):Fn Tryz.prog 22 [v,.int .i64 r] [.isv ENet v n F,EnvP FT] [] (fun (_:StZ)=>True) (fun z=>.tuple #[.agg z.cs.toArray,.slice z.a (resFinishNet n r).2.1.length z.c,.bool (resFinishNet n r).2.2]) (fun z=>[.own ONet (.agg z.cs.toArray) (resFinishNet n r).1 z.F,.ow EStr 9 (.slice z.a (resFinishNet n r).2.1.length z.c) (resFinishNet n r).2.1 z.Fe]):=by
 refine enter Tryz.func22 rfl Tryz.ntmps22 fun w0=>?_
 refine openNet ?_
 rintro a1 c1 F1 a2 c2 F2 a3 c3 F3 a4 c4 F4 a5 c5 F5 a6 c6 F6 a7 c7 F7 rfl l1 l2 l3 l4 l5 l6 l7
 refine t_nilow EInt 3 ?_
 refine t_nilow EStr 9 ?_
 refine t_nilow EHold 194 ?_
 refine t_nilow OElement 142 ?_
 refine t_nilow OReceiver 149 ?_
 refine t_nilow (OSl EPacket 127) 132 ?_
 refine t_nilow (OSl EPacket 127) 132 ?_
 refine closeONet zNet ?_
 refine t_nilow EStr 9 ?_
 refine go ?_;intros
 refine cf (IsValidNet_f n _ F) fun _ _=>?_
 refine t_app ?_
 cases g1:goodNet n
 ·rw [show resFinishNet n r=(zNet,[],false) by unfold resFinishNet okFin;rw [g1];rfl]
  refine go ?_;intros
  refine ret (⟨[.slice none 0 0,.int .i64 0,.int .i64 0,.slice none 0 0,.int .i64 0,.int .i64 0,.slice none 0 0,.slice none 0 0,.slice none 0 0,.slice none 0 0,.slice none 0 0],_,none,0,[]⟩:StZ) trivial rfl
 refine go ?_;intros
 refine ce (fun w st=>within_c r 0 60 w) ?_
 cases g2:btw 0 r 60
 ·rw [show resFinishNet n r=(zNet,[],false) by unfold resFinishNet okFin;rw [g1,g2];rfl]
  refine go ?_;intros
  refine ret (⟨[.slice none 0 0,.int .i64 0,.int .i64 0,.slice none 0 0,.int .i64 0,.int .i64 0,.slice none 0 0,.slice none 0 0,.slice none 0 0,.slice none 0 0,.slice none 0 0],_,none,0,[]⟩:StZ) trivial rfl
 have hr:0≤r∧r≤60:=by unfold btw at g2;simpa using g2
 have hck:=src_clkN (goodNet_GN.1 g1).s
 refine go ?_;intros
 refine c_if rfl (fun h3=>?_) (fun h3=>?_)
 ·rw [show resFinishNet n r=(zNet,[],false) by unfold resFinishNet okFin;rw [g1,g2,decide_eq_false (show ¬n.source.clock+r≤9999 by omega)];rfl]
  refine go ?_;intros
  refine ret (⟨[.slice none 0 0,.int .i64 0,.int .i64 0,.slice none 0 0,.int .i64 0,.int .i64 0,.slice none 0 0,.slice none 0 0,.slice none 0 0,.slice none 0 0,.slice none 0 0],_,none,0,[]⟩:StZ) trivial rfl
 have hok:okFin n r=true:=by unfold okFin;rw [g1,g2,decide_eq_true (show n.source.clock+r≤9999 by omega)];rfl
 have hres:resFinishNet n r=((finTo n r.toNat).1,(finTo n r.toNat).2,true):=by unfold resFinishNet;rw [hok,if_pos rfl]
 rw [hres]
 refine go ?_;intros
 refine cf (Nclone_f n _ F (small_of_good g1)) fun z _=>?_
 refine t_app ?_
 refine go ?_;intros
 rename_i g
 refine cf (Ndrain_f n g z.a1 z.c1 z.F1 z.a2 z.c2 z.F2 z.a3 z.c3 z.F3 z.a4 z.c4 z.F4 z.a5 z.c5 z.F5 z.a6 z.c6 z.F6 z.a7 z.c7 z.F7 FT g1) fun y _=>?_
 refine t_app ?_
 refine go ?_;intros
 refine c_loopS [1,4,7,29] (fun s:FnS=>[(8,.slice s.a (finTo n s.k).2.length s.c),(30,.int .i64 (s.k:Nat))]) (fun s=>[.row g 49 0 [] [.slice s.z.a1 (finTo n s.k).1.tree.parent.length s.z.c1,.int .i64 (finTo n s.k).1.source.window.trail,.int .i64 (finTo n s.k).1.source.window.size,.slice s.z.a2 (finTo n s.k).1.source.window.items.length s.z.c2,.int .i64 (finTo n s.k).1.source.clock,.int .i64 (finTo n s.k).1.source.quiet,.slice s.z.a3 (finTo n s.k).1.source.holds.length s.z.c3,.slice s.z.a4 (finTo n s.k).1.elements.length s.z.c4,.slice s.z.a5 (finTo n s.k).1.receivers.length s.z.c5,.slice s.z.a6 (finTo n s.k).1.down.length s.z.c6,.slice s.z.a7 (finTo n s.k).1.up.length s.z.c7] [],.ow EInt 3 (.slice s.z.a1 (finTo n s.k).1.tree.parent.length s.z.c1) (finTo n s.k).1.tree.parent s.z.F1,.ow EStr 9 (.slice s.z.a2 (finTo n s.k).1.source.window.items.length s.z.c2) (finTo n s.k).1.source.window.items s.z.F2,.ow EHold 194 (.slice s.z.a3 (finTo n s.k).1.source.holds.length s.z.c3) (finTo n s.k).1.source.holds s.z.F3,.ow OElement 142 (.slice s.z.a4 (finTo n s.k).1.elements.length s.z.c4) (finTo n s.k).1.elements s.z.F4,.ow OReceiver 149 (.slice s.z.a5 (finTo n s.k).1.receivers.length s.z.c5) (finTo n s.k).1.receivers s.z.F5,.ow (OSl EPacket 127) 132 (.slice s.z.a6 (finTo n s.k).1.down.length s.z.c6) (finTo n s.k).1.down s.z.F6,.ow (OSl EPacket 127) 132 (.slice s.z.a7 (finTo n s.k).1.up.length s.z.c7) (finTo n s.k).1.up s.z.F7,.ow EStr 9 (.slice s.a (finTo n s.k).2.length s.c) (finTo n s.k).2 s.F]) (fun s=>(s.k:Int)≤r) (fun s=>r.toNat - s.k) ⟨0,y.1,y.2.a,y.2.c,y.2.F⟩ (by show ((0:Nat):Int)≤r;omega) fun s hs0=>?_
 obtain ⟨k,⟨x1,w1,K1,x2,w2,K2,x3,w3,K3,x4,w4,K4,x5,w5,K5,x6,w6,K6,x7,w7,K7⟩,ea,ec,eF⟩:=s
 dsimp only at hs0 ⊢
 obtain ⟨gk,ck,lk⟩:=fin_facts hok hs0
 refine go ?_;intros
 refine c_if rfl (fun h4=>?_) (fun h4=>?_)
 ·obtain ⟨gt,lt,ld⟩:=fin_tick gk (by omega)
  refine go ?_;intros
  refine cf (tick_g (finTo n k).1 g x1 w1 K1 x2 w2 K2 x3 w3 K3 x4 w4 K4 x5 w5 K5 x6 w6 K6 x7 w7 K7 FT gk (by omega)) fun u _=>?_
  refine t_app ?_
  refine t_read (E:=EStr) (xs:=(tickN (finTo n k).1).2) fun F8=>?_
  refine go ?_;intros
  apply wO
  refine aps (E:=EStr) (xs:=(finTo n k).2) (ys:=(tickN (finTo n k).1).2) one_EStr scal_EStr fun a9 c9 F9=>?_
  refine go ?_;intros
  refine cf (Ndrain_f (tickN (finTo n k).1).1 g u.1.a1 u.1.c1 u.1.F1 u.1.a2 u.1.c2 u.1.F2 u.1.a3 u.1.c3 u.1.F3 u.1.a4 u.1.c4 u.1.F4 u.1.a5 u.1.c5 u.1.F5 u.1.a6 u.1.c6 u.1.F6 u.1.a7 u.1.c7 u.1.F7 FT gt) fun y _=>?_
  refine t_app ?_
  refine t_read (E:=EStr) (xs:=(drN (tickN (finTo n k).1).1).2) fun F7=>?_
  refine go ?_;intros
  apply wO
  have hl:((finTo n k).2++(tickN (finTo n k).1).2).length=(finTo n k).2.length+(tickN (finTo n k).1).2.length:=List.length_append
  refine aps (E:=EStr) (xs:=(finTo n k).2++(tickN (finTo n k).1).2) (ys:=(drN (tickN (finTo n k).1).1).2) one_EStr scal_EStr fun a8 c8 F6=>?_
  refine go ?_;intros
  refine n_lp ⟨k+1,y.1,a8,c8,F6⟩ (by show ((k+1:Nat):Int)≤r;omega) (by show r.toNat - (k+1) < r.toNat - k;omega) (by dsimp only;rw [fin_next];exact frE) (by dsimp only;rw [fin_next];exact hsE)
 ·rw [show r.toNat=k by omega]
  refine go ?_;intros
  refine closeONet (finTo n k).1 ?_
  refine ret (⟨[.slice x1 (finTo n k).1.tree.parent.length w1,.int .i64 (finTo n k).1.source.window.trail,.int .i64 (finTo n k).1.source.window.size,.slice x2 (finTo n k).1.source.window.items.length w2,.int .i64 (finTo n k).1.source.clock,.int .i64 (finTo n k).1.source.quiet,.slice x3 (finTo n k).1.source.holds.length w3,.slice x4 (finTo n k).1.elements.length w4,.slice x5 (finTo n k).1.receivers.length w5,.slice x6 (finTo n k).1.down.length w6,.slice x7 (finTo n k).1.up.length w7],_,_,_,_⟩:StZ) trivial rfl
structure FqS where
 k:Nat
 cs:List Value
 F:List Nat
 a:Option Addr
 c:Nat
 Fe:List Nat
theorem specFinishNet_f (n:Net) (r:Int) (v:Value) (F FT:List Nat):Fn Tryz.prog 21 [v,.int .i64 r] [.isv ENet v n F,EnvP FT] [] (fun (_:StZ)=>True) (fun z=>.tuple #[.agg z.cs.toArray,.slice z.a (resFinishNet n r).2.1.length z.c,.bool (resFinishNet n r).2.2]) (fun z=>[.isv ENet (.agg z.cs.toArray) (resFinishNet n r).1 z.F,.ow EStr 9 (.slice z.a (resFinishNet n r).2.1.length z.c) (resFinishNet n r).2.1 z.Fe]):=by
 refine enter Tryz.func21 rfl Tryz.ntmps21 fun w0=>?_
 refine openNet ?_
 rintro a1 c1 F1 a2 c2 F2 a3 c3 F3 a4 c4 F4 a5 c5 F5 a6 c6 F6 a7 c7 F7 rfl l1 l2 l3 l4 l5 l6 l7
 refine go ?_;intros
 refine cf (l15Good_f n _ F) fun _ _=>?_
 refine t_app ?_
 cases g1:goodNet n
 ·rw [show resFinishNet n r=(zNet,[],false) by unfold resFinishNet okFin;rw [g1];rfl]
  refine t_nilsl EInt (by decide) ?_
  refine t_nilsl EStr (by decide) ?_
  refine t_nilsl EHold (by decide) ?_
  refine t_nilsl EElement (by decide) ?_
  refine t_nilsl EReceiver (by decide) ?_
  refine t_nilsl (ESl EPacket (by decide)) (by decide) ?_
  refine t_nilsl (ESl EPacket (by decide)) (by decide) ?_
  refine closeNet zNet (a1:=none) (c1:=0) (a2:=none) (c2:=0) (a3:=none) (c3:=0) (a4:=none) (c4:=0) (a5:=none) (c5:=0) (a6:=none) (c6:=0) (a7:=none) (c7:=0) ?_
  refine go ?_;intros
  refine t_emp EStr ?_
  refine go ?_;intros
  refine ret (⟨[.slice none 0 0,.int .i64 0,.int .i64 0,.slice none 0 0,.int .i64 0,.int .i64 0,.slice none 0 0,.slice none 0 0,.slice none 0 0,.slice none 0 0,.slice none 0 0],_,_,_,_⟩:StZ) trivial rfl
 refine go ?_;intros
 refine ce (fun w st=>l1In_c r 0 60 w) ?_
 cases g2:btw 0 r 60
 ·rw [show resFinishNet n r=(zNet,[],false) by unfold resFinishNet okFin;rw [g1,g2];rfl]
  refine t_nilsl EInt (by decide) ?_
  refine t_nilsl EStr (by decide) ?_
  refine t_nilsl EHold (by decide) ?_
  refine t_nilsl EElement (by decide) ?_
  refine t_nilsl EReceiver (by decide) ?_
  refine t_nilsl (ESl EPacket (by decide)) (by decide) ?_
  refine t_nilsl (ESl EPacket (by decide)) (by decide) ?_
  refine closeNet zNet (a1:=none) (c1:=0) (a2:=none) (c2:=0) (a3:=none) (c3:=0) (a4:=none) (c4:=0) (a5:=none) (c5:=0) (a6:=none) (c6:=0) (a7:=none) (c7:=0) ?_
  refine go ?_;intros
  refine t_emp EStr ?_
  refine go ?_;intros
  refine ret (⟨[.slice none 0 0,.int .i64 0,.int .i64 0,.slice none 0 0,.int .i64 0,.int .i64 0,.slice none 0 0,.slice none 0 0,.slice none 0 0,.slice none 0 0,.slice none 0 0],_,_,_,_⟩:StZ) trivial rfl
 have hr:0≤r∧r≤60:=by unfold btw at g2;simpa using g2
 have hck:=src_clkN (goodNet_GN.1 g1).s
 refine go ?_;intros
 refine c_if rfl (fun h3=>?_) (fun h3=>?_)
 ·rw [show resFinishNet n r=(zNet,[],false) by unfold resFinishNet okFin;rw [g1,g2,decide_eq_false (show ¬n.source.clock+r≤9999 by omega)];rfl]
  refine t_nilsl EInt (by decide) ?_
  refine t_nilsl EStr (by decide) ?_
  refine t_nilsl EHold (by decide) ?_
  refine t_nilsl EElement (by decide) ?_
  refine t_nilsl EReceiver (by decide) ?_
  refine t_nilsl (ESl EPacket (by decide)) (by decide) ?_
  refine t_nilsl (ESl EPacket (by decide)) (by decide) ?_
  refine closeNet zNet (a1:=none) (c1:=0) (a2:=none) (c2:=0) (a3:=none) (c3:=0) (a4:=none) (c4:=0) (a5:=none) (c5:=0) (a6:=none) (c6:=0) (a7:=none) (c7:=0) ?_
  refine go ?_;intros
  refine t_emp EStr ?_
  refine go ?_;intros
  refine ret (⟨[.slice none 0 0,.int .i64 0,.int .i64 0,.slice none 0 0,.int .i64 0,.int .i64 0,.slice none 0 0,.slice none 0 0,.slice none 0 0,.slice none 0 0,.slice none 0 0],_,_,_,_⟩:StZ) trivial rfl
 have hok:okFin n r=true:=by unfold okFin;rw [g1,g2,decide_eq_true (show n.source.clock+r≤9999 by omega)];rfl
 have hres:resFinishNet n r=((finTo n r.toNat).1,(finTo n r.toNat).2,true):=by unfold resFinishNet;rw [hok,if_pos rfl]
 rw [hres]
 refine go ?_;intros
 refine cf (l15Drain_f n _ F FT g1) fun z _=>?_
 refine t_app ?_
 refine openNet (x:=(drN n).1) ?_
 rintro f1 t1 G1 f2 t2 G2 f3 t3 G3 f4 t4 G4 f5 t5 G5 f6 t6 G6 f7 t7 G7 ez - - - - - - -
 rw [ez]
 refine go ?_;intros
 rename_i g
 refine c_loopS [1,4,7] (fun s:FqS=>[(8,.slice s.a (finTo n s.k).2.length s.c),(9,.int .i64 (s.k:Nat))]) (fun s=>[.row g 49 0 [] s.cs [],.isv ENet (.agg s.cs.toArray) (finTo n s.k).1 s.F,.ow EStr 9 (.slice s.a (finTo n s.k).2.length s.c) (finTo n s.k).2 s.Fe]) (fun s=>(s.k:Int)≤r) (fun s=>r.toNat - s.k) ⟨0,_,z.F,z.a,z.c,z.Fe⟩ (by show ((0:Nat):Int)≤r;omega) fun s hs0=>?_
 obtain ⟨k,cs,Fx,ea,ec,eF⟩:=s
 dsimp only at hs0 ⊢
 obtain ⟨gk,ck,lk⟩:=fin_facts hok hs0
 refine openNet (x:=(finTo n k).1) ?_
 rintro b1 d1 G1 b2 d2 G2 b3 d3 G3 b4 d4 G4 b5 d5 G5 b6 d6 G6 b7 d7 G7 ev - - - - - - -
 obtain rfl:cs=[.slice b1 (finTo n k).1.tree.parent.length d1,.int .i64 (finTo n k).1.source.window.trail,.int .i64 (finTo n k).1.source.window.size,.slice b2 (finTo n k).1.source.window.items.length d2,.int .i64 (finTo n k).1.source.clock,.int .i64 (finTo n k).1.source.quiet,.slice b3 (finTo n k).1.source.holds.length d3,.slice b4 (finTo n k).1.elements.length d4,.slice b5 (finTo n k).1.receivers.length d5,.slice b6 (finTo n k).1.down.length d6,.slice b7 (finTo n k).1.up.length d7]:=by simpa using ev
 clear ev
 refine go ?_;intros
 refine c_if rfl (fun h4=>?_) (fun h4=>?_)
 ·obtain ⟨gt,lt,ld⟩:=fin_tick gk (by omega)
  have e4:stepN (finTo n k).1 tStep=some (tickN (finTo n k).1):=by
   unfold stepN
   rw [if_neg (by decide),if_pos (show tStep.kind=4 from rfl),if_neg (by omega)]
  refine go ?_;intros
  refine cf (l15Make_f (finTo n k).1 tStep _ _ FT (by decide) gk (by decide)) fun z _=>?_
  refine t_app ?_
  rw [res_some gk (by decide) e4]
  refine openNet (x:=(tickN (finTo n k).1).1) ?_
  rintro f1 t1 G1 f2 t2 G2 f3 t3 G3 f4 t4 G4 f5 t5 G5 f6 t6 G6 f7 t7 G7 ez - - - - - - -
  rw [ez]
  refine t_read (E:=EStr) (xs:=(tickN (finTo n k).1).2) fun F8=>?_
  refine go ?_;intros
  apply wO
  refine aps (E:=EStr) (xs:=(finTo n k).2) (ys:=(tickN (finTo n k).1).2) one_EStr scal_EStr fun a9 c9 F9=>?_
  refine go ?_;intros
  refine cf (l15Drain_f (tickN (finTo n k).1).1 _ z.F FT gt) fun y _=>?_
  refine t_app ?_
  refine openNet (x:=(drN (tickN (finTo n k).1).1).1) ?_
  rintro f1 t1 G1 f2 t2 G2 f3 t3 G3 f4 t4 G4 f5 t5 G5 f6 t6 G6 f7 t7 G7 ez2 - - - - - - -
  rw [ez2]
  refine t_read (E:=EStr) (xs:=(drN (tickN (finTo n k).1).1).2) fun F7=>?_
  refine go ?_;intros
  apply wO
  have hl:((finTo n k).2++(tickN (finTo n k).1).2).length=(finTo n k).2.length+(tickN (finTo n k).1).2.length:=List.length_append
  refine aps (E:=EStr) (xs:=(finTo n k).2++(tickN (finTo n k).1).2) (ys:=(drN (tickN (finTo n k).1).1).2) one_EStr scal_EStr fun a8 c8 F6=>?_
  refine go ?_;intros
  refine n_lp ⟨k+1,_,y.F,a8,c8,F6⟩ (by show ((k+1:Nat):Int)≤r;omega) (by show r.toNat - (k+1) < r.toNat - k;omega) (by dsimp only;rw [fin_next];exact frE) (by dsimp only;rw [fin_next];exact hsE)
 ·rw [show r.toNat=k by omega]
  refine go ?_;intros
  refine ret (⟨_,Fx,_,_,_⟩:StZ) trivial rfl
end Go.Proofs.YtgmbfohkpfineaaGreatDoor
namespace Go.Proofs.YtgmbfohkpfineaaGreatDoor
open Go.ChangeShapes Go.WideShapes Go.ChangeAt Go.RowKit
theorem trodAll_below {H:Type} {enc:TypeId × Value→H} {P:Program} (hl:laidOutB P=true) {W W':World} (hb:Below W.heap.size W W') :
  ∀(ts:List TypeId) (vs:List Value) (ds:List (DataW H)) (ps:List MemPlace),(∀t∈ts,P.readableRec t=true∧t < P.types.size) →
   DataW.TrodAll enc P W 0 (fun _=>true) true ts vs ds ps→(∀x∈ps,x.block < W.heap.size)→DataW.TrodAll enc P W' 0 (fun b=>decide (b < W.heap.size)) true ts vs ds ps
 | [],vs,ds,ps,_,h,_=>by obtain ⟨rfl,rfl,rfl⟩:=trodAll_nil h;exact rfl
 | t::ts,vs,ds,ps,ht,h,hlt=>by
  obtain ⟨v,vs',d,ds',p,q,rfl,rfl,rfl,h1,h2⟩:=trodAll_cons h
  have ⟨a,b⟩:=ht t (by simp)
  exact ⟨p,q,Below.trod hl a b h1 hb fun x hx=>hlt x (by simp [hx]),trodAll_below hl hb ts vs' ds' q (fun t h=>ht t (by simp [h])) h2 fun x hx=>hlt x (by simp [hx]),rfl⟩
theorem law_post {H:Type} {enc:TypeId × Value→H} {P:Program} {f:Func} {s:ChangeSpec} {tb:TypeId} (hl:laidOutB P=true) (hr:∀t∈f.params.toList,P.readableRec t=true∧t < P.types.size)
  (hb:P.underlying tb=some .bool) (hres:f.resultTypes = #[tb]) (hv:s.vars=[]) {W W':World} {args:Array Value} {ds gs:List (DataW H)} {before:List MemPlace}
  (hs:s.fn H ds={ results:=[.lit (.bool true)],args:=ds }) (hW:DataW.Whole enc P f.params.toList s.vars false W args.toList ds gs before) (hB:Below W.heap.size W W') :
  s.post enc P f false true false false W args (.bool true) W':=by
 have hlt:=hW.lt
 have hW0:=hW
 obtain ⟨p,q,hA,hV,rfl,_,_⟩:=hW0
 rw [hv] at hV
 obtain ⟨rfl,rfl⟩:=trodVars_none hV
 refine ⟨ds,[],p++[],[],p,[],hW,?_,?_,?_,hB.frame _,fun h=>by cases h⟩
 ·rw [List.append_nil,hs,hres]
  exact trodAll_mk1 (shut_bool hb true)
 ·rw [List.append_nil,hs]
  exact trodAll_below hl hB _ _ _ _ hr hA fun x hx=>hlt x (by simpa using hx)
 ·rw [hv,List.append_nil,hs];exact rfl
def Reads (P:Program) {α:Type} (E:Elem α) (t:TypeId):Prop :=
 ∀{H:Type} {enc:TypeId × Value→H} {w:World} {fuel:Nat} {cs:List Value} {x:DataW H × List MemPlace},DataW.trod enc P w 0 (fun _=>true) true fuel t cs=some x→∃y F,E.rep w cs y F
section
variable {P:Program}
theorem reads_int {t:TypeId} (ht:P.underlying t=some (.int .i64)):Reads P EInt t:=fun h=>by
 obtain ⟨n,rfl,_,_⟩:=DataW.trod_int ht h;exact ⟨n,[],rfl,rfl⟩
theorem reads_str {t:TypeId} (ht:P.underlying t=some .string):Reads P EStr t:=fun h=>by
 obtain ⟨s,rfl,_,hs⟩:=DataW.trod_string ht h;exact ⟨s,[],rfl,hs,rfl⟩
theorem reads_bool {t:TypeId} (ht:P.underlying t=some .bool):Reads P EBool t:=fun {_ _ _ fuel _ _} h=>by
 cases fuel with
 | zero=>simp [DataW.trod] at h
 | succ n =>
  unfold DataW.trod at h
  rw [ht] at h
  split at h <;> simp_all
  all_goals simp [EBool]
theorem reads_cells {α:Type} {E:Elem α} {e:TypeId} (hsz:P.cellsOf e=E.sz) (he:Reads P E e) {H:Type} {enc:TypeId × Value→H} {w:World} {n b off:Nat} :
  ∀(els:List (DataW H × List MemPlace)) (k:Nat),(∀i,i < els.length→(w.cells? 0 ((⟨b,off,none⟩:Addr).add ((k+i) * P.cellsOf e)) (P.cellsOf e)).bind (DataW.trod enc P w 0 (fun _=>true) true n e)=els[i]?) →
   ∃ys F,ys.length=els.length∧Cells E w b (off+k * E.sz) ys F
 | [],_,_=>⟨[],[],rfl,rfl⟩
 | x::r,k,h=>by
  have h0:=h 0 (by simp)
  simp only [Nat.add_zero,List.getElem?_cons_zero,Option.bind_eq_some_iff] at h0
  obtain ⟨cs,hc,hx⟩:=h0
  obtain ⟨y,F1,hy⟩:=he hx
  obtain ⟨ys,F2,hl,hys⟩:=reads_cells hsz he r (k+1) fun i hi=>by
   have:=h (i+1) (by simpa using hi)
   rw [show k+1+i=k+(i+1) by omega]
   simpa using this
  refine ⟨y::ys,F1++F2,by simp [hl],cs,F1,F2,rfl,hy,fun j hj=>?_,by rwa [show off+k * E.sz+E.sz=off+(k+1) * E.sz by rw [Nat.add_mul];omega]⟩
  obtain ⟨_,hlen,hcell⟩:=World.cells?_some hc
  rw [←hcell j (by rw [hsz];exact hj)]
  congr 1
  simp only [Addr.add,hsz]
  split <;> split <;> simp_all <;> omega
theorem reads_slice {α:Type} {E:Elem α} {t e:TypeId} (ht:P.underlying t=some (.slice e)) (hsz:P.cellsOf e=E.sz) (hz:0 < E.sz) (he:Reads P E e):Reads P (ESl E hz) t:=fun h=>by
 rcases DataW.trod_slice ht h with ⟨rfl,_⟩|⟨a,len,cap,elems,rest,n,rfl,rfl,_,_,hlc,hcm,hlen,hel,_,_⟩
 ·exact ⟨[],[],_,rfl,none,0,rfl,⟨by simp,by simp⟩,.inl ⟨rfl,rfl,fun _=>rfl⟩⟩
 ·by_cases h0:len=0
  ·subst h0
   exact ⟨[],[],_,rfl,some a,cap,rfl,⟨by simp,by omega⟩,.inl ⟨rfl,rfl,fun e=>by cases e⟩⟩
  ·have hs:a=⟨a.block,a.off,none⟩:=by
    have:=hel 0 (by omega)
    rw [List.getElem?_eq_getElem (by omega)] at this
    simp only [Option.bind_eq_some_iff] at this
    obtain ⟨cs,hc,_⟩:=this
    obtain ⟨_,hl2,hcell⟩:=World.cells?_some hc
    have h1:=hcell 0 (by omega)
    rw [List.getElem?_eq_getElem (by omega)] at h1
    simp [Addr.add,World.cell?] at h1
    split at h1 <;> simp_all
    cases a;simp_all
   obtain ⟨ys,F,hyl,hys⟩:=reads_cells hsz he elems 0 (n:=n) (b:=a.block) (off:=a.off) (enc:=_) (w:=_) (by
    rw [←hs];intro i hi;rw [Nat.zero_add];exact hel i (by omega))
   refine ⟨ys,a.block::F,_,rfl,some a,cap,by rw [hyl,hlen],⟨by omega,by omega⟩,.inr ⟨a.block,a.off,F,by rw [←hs],?_,rfl,by simpa using hys⟩⟩
   intro e;rw [e] at hyl;simp at hyl;omega
end
inductive FieldsOk (P:Program):List Field→Nat→(α:Type)→Elem α→Prop
 | nil (off:Nat):FieldsOk P [] off Unit EUnit
 | cons {f:Field} {r:List Field} {off:Nat} {α β:Type} {A:Elem α} {B:Elem β} (ho:f.offset=off) (hc:P.cellsOf f.type=A.sz) (hA:Reads P A f.type) (h:FieldsOk P r (off+A.sz) β B):FieldsOk P (f::r) off (α × β) (EProd A B)
theorem fields_read {P:Program} {H:Type} {enc:TypeId × Value→H} {w:World} {n:Nat} {cs:List Value} {fs:List Field} {off:Nat} {α:Type} {E:Elem α} (h:FieldsOk P fs off α E) :
  (∀f∈fs,∃x,DataW.trod enc P w 0 (fun _=>true) true n f.type ((cs.drop f.offset).take (P.cellsOf f.type))=some x)→off+E.sz=cs.length→∃y F,E.rep w (cs.drop off) y F:=by
 induction h with
 | nil off=>intro _ hl;exact ⟨(),[],List.drop_of_length_le (by simp [EUnit] at hl;omega),rfl⟩
 | @cons f r off α β A B ho hc hA _ ih =>
  intro hf hl
  obtain ⟨x,hx⟩:=hf f (by simp)
  obtain ⟨y,F1,hy⟩:=hA hx
  obtain ⟨y2,F2,hy2⟩:=ih (fun f h=>hf f (by simp [h])) (by simp only [EProd] at hl;omega)
  subst ho
  exact ⟨(y,y2),F1++F2,_,_,F1,F2,by rw [hc,←List.drop_drop,List.take_append_drop],rfl,hy,hy2⟩
theorem reads_struct {P:Program} {t:TypeId} {fs:Array Field} {α:Type} {E:Elem α} (ht:P.underlying t=some (.struct fs)) (hC:P.cellsOf t=E.sz) (h:FieldsOk P fs.toList 0 α E):Reads P E t:=fun hh=>by
 obtain ⟨xs,n,rfl,_,hcl,hxl,hx⟩:=DataW.trod_struct ht hh
 have:=fields_read (enc:=_) (w:=_) (n:=n) h (fun f hf=>by
  obtain ⟨i,hi,rfl⟩:=List.getElem_of_mem hf
  have:=hx i fs.toList[i] (by simp)
  rw [List.getElem?_eq_getElem (by simpa [hxl] using hi)] at this
  exact ⟨_,this⟩) (by rw [hcl,hC];simp)
 simpa using this
end Go.Proofs.YtgmbfohkpfineaaGreatDoor
namespace Go.Proofs.YtgmbfohkpfineaaGreatDoor
open Go.RowKit
theorem goL {X:Prop} {c:Cx} {fr:Fr} {H:List Pc} {Φ:Gl} (h:X) (hs:Kp X→T c fr H Φ:=by intro hX;(repeat (first|apply c_seq|apply c_reg|(apply wO;apply oc;rfl;exact ydE)|(apply wO;apply oc;rfl;apply yd_ldw;rfl;exact memE;assumption)|apply w_nil|apply n_cd|(apply wg_t;rfl;rfl)|(apply wg_f;rfl;rfl;rfl;rfl)|(apply wg_u;rfl;rfl;rfl)|(apply c_t;rfl)|(apply c_f;rfl)|apply c_skip|apply c_block|apply n_blk|apply c_exit|apply e_hit|apply e_cd|apply e_lp|(apply e_miss;rfl)|apply c_ret|(apply wO;apply o_boxX;rfl;rfl;rfl;exact hX;clear hX;intro _ hX)|(apply wO;apply o_allocX;rfl;exact hX;clear hX;intro _ hX)|(apply wO;apply o_st;rfl;rfl;rfl;(first|exact AggC.s|exact OneC.s);rfl;exact rplE;exact putE;rfl)|(apply wO;apply o_stw;rfl;rfl;exact AggC.s;exact rplE;assumption;rfl;assumption)|(apply wO;apply o_call;rfl;kernel_rfl;exact evsE)|(refine c_if rfl (fun h=>absurd h (by first|omega|simp)) (fun h=>?_);clear h)|(refine wg_if rfl rfl (fun h=>absurd h (by first|omega|simp)) (fun h=>?_);clear h)));exact hX.h):T c fr H Φ:=hs ⟨h⟩
structure Log where
 durable:ByteArray
 pending:ByteArray
 count:Int
structure Console where
 net:Net
 log:Log
-- markConsole: a nested struct with several slices is not written here
section
variable {c:Cx} {fr:Fr} {H:List Pc} {Φ:Gl}
end
theorem markNet_f (v:Value) (x:Net) (F:List Nat) (k:Int) (p0:0≤k) (p1:k+cvNet x≤1099511627776):Fn Tryz.prog 15 [v,.int .i64 k] [] [.own ONet v x F] (fun (_:List Nat)=>True) (fun _=>.int .i64 (k+cvNet x)) (fun G=>[.own ONet v (mvNet k x) G]):=by
 have hcv:(cvNet x:Int)=cvTree x.tree+cvSource x.source+(cntL cntElement) x.elements+(cntL cntReceiver) x.receivers+(cntL (cntL cntPacket)) x.down+(cntL (cntL cntPacket)) x.up:=by unfold cvNet;push_cast;rfl
 refine enter Tryz.func15 rfl Tryz.ntmps15 fun w0=>?_
 refine openONet ?_
 rintro a1 c1 F1 a2 c2 F2 a3 c3 F3 a4 c4 F4 a5 c5 F5 a6 c6 F6 a7 c7 F7 rfl l1 l2 l3 l4 l5 l6 l7
 refine closeOTree x.tree ?_
 refine closeOSource x.source ?_
 refine go ?_;intros
 refine cf (fn_markV (fun w h hn=>markTree_c _ x.tree _ (k) w h hn (by omega) (by omega))) fun _ _=>?_
 refine t_app ?_
 refine go ?_;intros
 refine cf (fn_markV (fun w h hn=>markSource_c _ x.source _ (k+cvTree x.tree) w h hn (by omega) (by omega))) fun _ _=>?_
 refine t_app ?_
 refine go ?_;intros
 refine cf (fn_markL (fun w h hn=>markElementS_c _ x.elements _ (k+cvTree x.tree+cvSource x.source) w h hn (by omega) (by omega))) fun _ _=>?_
 refine t_app ?_
 refine go ?_;intros
 refine cf (fn_markL (fun w h hn=>markReceiverS_c _ x.receivers _ (k+cvTree x.tree+cvSource x.source+(cntL cntElement) x.elements) w h hn (by omega) (by omega))) fun _ _=>?_
 refine t_app ?_
 refine go ?_;intros
 refine cf (fn_markL (fun w h hn=>markPacketSS_c _ x.down _ (k+cvTree x.tree+cvSource x.source+(cntL cntElement) x.elements+(cntL cntReceiver) x.receivers) w h hn (by omega) (by omega))) fun _ _=>?_
 refine t_app ?_
 refine go ?_;intros
 refine cf (fn_markL (fun w h hn=>markPacketSS_c _ x.up _ (k+cvTree x.tree+cvSource x.source+(cntL cntElement) x.elements+(cntL cntReceiver) x.receivers+(cntL (cntL cntPacket)) x.down) w h hn (by omega) (by omega))) fun _ _=>?_
 refine t_app ?_
 refine go ?_;intros
 have h1:x.tree.parent.length=(mvNet k x).tree.parent.length:=(markL_len ..).symm
 have h2:x.source.window.items.length=(mvNet k x).source.window.items.length:=(markL_len ..).symm
 have h3:x.source.holds.length=(mvNet k x).source.holds.length:=(markL_len ..).symm
 have h4:x.elements.length=(mvNet k x).elements.length:=(markL_len ..).symm
 have h5:x.receivers.length=(mvNet k x).receivers.length:=(markL_len ..).symm
 have h6:x.down.length=(mvNet k x).down.length:=(markL_len ..).symm
 have h7:x.up.length=(mvNet k x).up.length:=(markL_len ..).symm
 rw [h1,h2,h3,h4,h5,h6,h7]
 refine openOTree (x:=mvTree k x.tree) ?_
 rintro b1 d1 G1 e1 -
 simp at e1
 obtain ⟨rfl, -,rfl⟩:=e1
 refine openOSource (x:=mvSource (k+cvTree x.tree) x.source) ?_
 rintro b2 d2 G2 b3 d3 G3 e2 - -
 simp at e2
 obtain ⟨-, -,⟨rfl, -,rfl⟩, -, -,rfl, -,rfl⟩:=e2
 refine closeONet (mvNet k x) (a6:=a6) (a7:=a7) ?_
 rw [show k+cvTree x.tree+cvSource x.source+(cntL cntElement) x.elements+(cntL cntReceiver) x.receivers+(cntL (cntL cntPacket)) x.down+(cntL (cntL cntPacket)) x.up=k+cvNet x by omega]
 refine ret _ trivial rfl
def filX {α:Type} (z:α) (l:List α) (k:Nat):List α:=l.take k++List.replicate (l.length - k) z
theorem filX_len {α:Type} (z:α) {l:List α} {k:Nat} (h:k≤l.length):(filX z l k).length=l.length:=by unfold filX;simp;omega
theorem filX_0 {α:Type} (z:α) (l:List α):List.replicate l.length z=filX z l 0:=by unfold filX;simp
theorem filX_all {α:Type} (z:α) (l:List α):filX z l l.length=l:=by unfold filX;simp
theorem filX_set {α:Type} (z:α) {l:List α} {k:Nat} (h:k < l.length):(filX z l k).set k l[k]=filX z l (k+1):=by
 unfold filX
 have e:List.replicate (l.length - k) z=z::List.replicate (l.length - (k+1)) z:=by rw [show l.length - k=(l.length - (k+1))+1 by omega,List.replicate_succ]
 have hl:(l.take k).length=k:=by rw [List.length_take];omega
 rw [e,List.set_append_right _ _ (by omega),hl,Nat.sub_self,List.set_cons_zero,List.take_succ_eq_append_getElem h,List.append_assoc];rfl
theorem t_rowL {c:Cx} {fr:Fr} {H:List Pc} {Φ:Gl} {α:Type} {E:Elem α} {t g:Nat} {cs:List Value} {xs:List α} {S:List Pc} (hfl:∀w,Flat E w cs xs []) (h:T c fr (.ow E t (.slice (some ⟨g,0,none⟩) xs.length xs.length) xs [g]::S) Φ) (hl:xs.length≤1048576) (hp:Pick H (.row g t 0 [] cs []) S:=by (repeat (first|exact .here|apply Pick.there));first|done|fail):T c fr H Φ:=.mk fun a w s g'=>by
 have s1:=s.pick hp
 have hr:=(s1.on (.row g t 0 [] cs []) (by simp)).2
 have hlen:=(hfl w).len
 refine h.h a w (s1.conv rfl ⟨by simp,.inr ⟨g,xs.length,cs,[],[],rfl,by simpa using hr,Nat.le_refl _,by unfold maxLen;omega,by simpa using hlen,hfl w,rfl⟩⟩ (by simp [Pc.F])) g'
theorem retN_of {α:Type} {O:Elem α} {t:TypeId} {P:Program} {f:FuncId} {args:List Value} {xs:List α} {A:List Pc} (h:Fn P f args A [] (fun (_:Value × List Nat)=>True) (fun z=>z.1) (fun z=>[.ow O t z.1 xs z.2])) (hA:A.all (fun p=>!p.mu)=true) {w:World} (hH:Hol A w):Calls P f args.toArray w (RetNew O t xs w):=by
 refine (h.made w hH (fun _=>rfl) hA).mono ?_
 rintro e w' ⟨z, -,he,hh,hn,hF,hB⟩
 obtain ⟨h1,h2⟩:=hh (.ow O t z.1 xs z.2) (by simp)
 exact ⟨z.1,z.2,he,h2,h1,fun b hb=>hF b (by simpa [fp,Pc.F,Pc.mu] using hb),hB⟩
theorem wt_at {α:Type} {f:α→Nat} {xs:List α} {N:Nat} (h:wtL f xs≤N) (k:Nat) (hk:k < xs.length):f xs[k]≤N:=by
 have:=psum_snoc f xs k hk
 have:=wtL_le f xs (k+1)
 omega
section
variable {c:Cx} {fr:Fr} {H:List Pc} {Φ:Gl}
theorem at_el {α:Type} {E:Elem α} {a:Option Addr} {n cp:Nat} {xs:List α} {F:List Nat} (i:Nat) (hi:i < xs.length) (h:∀(b o:Nat) (cs:List Value) (G:List Nat),a=some ⟨b,o,none⟩→cs.length=E.sz→T c fr (.cel b (o+i * E.sz) cs::.isv E (.agg cs.toArray) xs[i] G::H) Φ) (hm:.sl E (.slice a n cp) xs F∈H:=by exact memE):T c fr H Φ:=.mk fun ac w s g=>by
 obtain ⟨b,o,cs,G,ha,hrep,hG,hb,hne,hr⟩:=sl_at (s.get hm) i hi
 have t1:=s.ro (p:=.isv E (.agg cs.toArray) xs[i] G) hm rfl rfl ⟨cs,rfl,hrep⟩ (by intro b hb;simp only [Pc.F] at hb ⊢;exact hG b (by simp [hb]))
 exact (h b o cs G ha (E.len hrep)).h ac w (t1.ro (List.mem_cons_of_mem _ hm) rfl rfl ⟨hne,hr⟩ (by intro x hx;simp [Pc.F] at hx;subst hx;exact hb)) g
theorem c_fill {α:Type} {E:Elem α} {t:TypeId} {z:α} {xs:List α} {g:Nat} {F:List Nat} {k:List It} {x:Code} {rest:List Pc} {cst:Fr} (ks:List Nat) (d:Nat)
  (round:∀i G,i≤xs.length→T c ([(d,.int .i64 (i:Nat))]++cst) ([.ow E t (.slice (some ⟨g,0,none⟩) xs.length xs.length) (filX z xs i) G]++rest) (.code (.lp (LpN c (fun s:Nat × List Nat=>[(d,.int .i64 (s.1:Nat))]++cst) (fun s=>[.ow E t (.slice (some ⟨g,0,none⟩) xs.length xs.length) (filX z xs s.1) s.2]++rest) (fun s=>s.1≤xs.length) (fun s=>xs.length - s.1) (xs.length - i))::k) x))
  (hp:Picks H [.ow E t (.slice (some ⟨g,0,none⟩) xs.length xs.length) (filX z xs 0) F] rest:=by exact picksE) (hk:Kf fr ks cst:=by repeat (first|exact Kf.nil|apply Kf.cons (by rfl))) (hf:FrSub fr [(d,.int .i64 ((0:Nat):Int))]:=by exact frE):T c fr H (.code k (Code.loop x)) :=
 c_loopS ks (fun s:Nat × List Nat=>[(d,.int .i64 (s.1:Nat))]) (fun s=>[.ow E t (.slice (some ⟨g,0,none⟩) xs.length xs.length) (filX z xs s.1) s.2]) (fun s=>s.1≤xs.length) (fun s=>xs.length - s.1) (0,F) (Nat.zero_le _) (fun s hs=>round s.1 s.2 hs) hk hf hp
end
theorem byToS {p:Prop} (h:p:=by
 refine enter hfn rfl hnt fun w0=>?_
 refine t_sl (xs:=xs) ?_
 rintro a c rfl h1 h2
 refine go ?_;intros
 apply wO
 refine o_ms xs.length rfl rfl rfl (by exact made_z _ _) (by omega) (by omega) fun g=>?_
 refine t_rowL (fun w=>Flat.rep0 (hrep w) _) ?_ (by rw [List.length_replicate];exact hl2)
 rw [List.length_replicate,filX_0]
 refine go ?_;intros
 refine c_fill (xs:=xs) [0,3] 4 fun k G hz0=>?_
 have hfl:=filX_len z0 hz0
 refine go ?_;intros
 refine c_if rfl (fun h3=>?_) (fun h3=>?_)
 ·have hk:k < xs.length:=by omega
  refine at_el (xs:=xs) k hk ?_
  rintro b o cs G1 rfl hcl
  refine go ?_;intros
  apply wO;apply oc;rfl;exact yd_ldac rfl (by exact memE) (hcl▸Cut.whole cs)
  refine go ?_;intros
  refine cv (fun w st=>hto _ xs[k] G1 w (st.get (p:=.isv _ (.agg cs.toArray) xs[k] G1) (by exact memE)) (wt_at hl1 k hk)) fun y K=>?_
  refine t_aggO hone (x:=xs[k]) (F:=K) ?_
  rintro cs2 rfl hl3 ho2
  refine focO (xs:=filX z0 xs k) k ?_ rfl (by omega)
  rintro _ g2 A cs3 B k1 k2 H1 Hi H2 e2 - hc hH
  cases e2
  refine t_aggO hone (x:=(filX z0 xs k)[k]) (F:=Hi) ?_
  rintro cs4 e4 hl4 -
  obtain rfl:cs3=cs4:=by simpa using e4
  refine go ?_;intros
  apply wO
  refine o_st rfl rfl rfl (by first|exact AggC.s|exact OneC.s) hl3 (by exact rplE) (Put.all (by omega)) ho2 ?_
  refine unfO xs[k] hH rfl fun F6=>?_
  rw [filX_set _ hk]
  refine go ?_;intros
  refine n_lp (k+1,F6) hk (by show xs.length - (k+1) < xs.length - k;omega)
 ·rw [show k=xs.length by omega,filX_all]
  refine go ?_;intros
  refine ret (_,_) trivial rfl):p:=h
theorem toIntS_e (v:Value) (xs:List Int) (F:List Nat) (w:World) (h:Sl EInt w v xs F) (hl1:wtL (fun _=>0) xs≤1048576):Calls Tryz.prog 86 #[v] w (RetNew EInt 3 xs w):=by
 have hl2:xs.length≤1048576:=by unfold wtL at hl1;omega
 refine retN_of (A:=[.sl EInt v xs F]) ?_ rfl (hol1 ⟨by decide,h⟩)
 clear h w
 refine enter Tryz.func86 rfl Tryz.ntmps86 fun w0=>?_
 refine t_sl (E:=EInt) (xs:=xs) ?_
 rintro a c rfl h1 h2
 refine go ?_;intros
 apply wO
 refine o_ms xs.length (cs:=(List.replicate xs.length ([.int .i64 0]:List Value)).flatten) rfl rfl rfl (made_z _ _) (by omega) (by omega) fun g=>?_
 refine t_rowL (E:=EInt) (xs:=List.replicate xs.length 0) (fun w=>Flat.rep0 (E:=EInt) (w:=w) (zs:=[.int .i64 0]) (z:=0) ⟨rfl,rfl⟩ _) ?_ (by rw [List.length_replicate];exact hl2)
 rw [List.length_replicate,filX_0]
 refine go ?_;intros
 refine c_loopS [0,3] (fun z:Nat × List Nat=>[(4,.int .i64 (z.1:Nat))]) (fun z=>[.ow EInt 3 (.slice (some ⟨g,0,none⟩) xs.length xs.length) (filX 0 xs z.1) z.2]) (fun z=>z.1≤xs.length) (fun z=>xs.length - z.1) (0,_) (Nat.zero_le _) fun z hz0=>?_
 obtain ⟨k,G⟩:=z
 dsimp only at hz0 ⊢
 have hfl:=filX_len 0 hz0
 refine go ?_;intros
 refine c_if rfl (fun h3=>?_) (fun h3=>?_)
 ·have hk:k < xs.length:=by omega
  refine at_int (xs:=xs) k ?_
  rintro hi b o e
  rw [e]
  refine focF (xs:=filX 0 xs k) (m:=1) scal_EInt k ?_ (by repeat (first|exact .here|apply Pick.there)) rfl (by omega)
  rintro _ g2 A cs B e1 e2 hc hH
  cases e1
  obtain ⟨rfl, -⟩:=hc w0
  refine go ?_;intros
  refine unfF xs[k] hH (fun w=>⟨rfl,rfl⟩) ?_
  rw [filX_set _ hk]
  refine go ?_;intros
  refine n_lp (k+1,_) hk (by show xs.length - (k+1) < xs.length - k;omega)
 ·rw [show k=xs.length by omega,filX_all]
  refine go ?_;intros
  refine ret (_,_) trivial rfl
theorem toStringS_e (v:Value) (xs:List ByteArray) (F:List Nat) (w:World) (h:Sl EStr w v xs F) (hl1:wtL ByteArray.size xs≤1048576):Calls Tryz.prog 166 #[v] w (RetNew EStr 9 xs w):=by
 have hl2:xs.length≤1048576:=by unfold wtL at hl1;omega
 refine retN_of (A:=[.sl EStr v xs F]) ?_ rfl (hol1 ⟨by decide,h⟩)
 clear h w
 refine enter Tryz.func166 rfl Tryz.ntmps166 fun w0=>?_
 refine t_sl (E:=EStr) (xs:=xs) ?_
 rintro a c rfl h1 h2
 refine go ?_;intros
 apply wO
 refine o_ms xs.length (cs:=(List.replicate xs.length ([.string ⟨#[]⟩]:List Value)).flatten) rfl rfl rfl (made_z _ _) (by omega) (by omega) fun g=>?_
 refine t_rowL (E:=EStr) (xs:=List.replicate xs.length (⟨#[]⟩:ByteArray)) (fun w=>Flat.rep0 (E:=EStr) (w:=w) (zs:=[.string ⟨#[]⟩]) (z:=(⟨#[]⟩:ByteArray)) ⟨rfl,Nat.zero_le _,rfl⟩ _) ?_ (by rw [List.length_replicate];exact hl2)
 rw [List.length_replicate,filX_0]
 refine go ?_;intros
 refine c_loopS [0,3] (fun z:Nat × List Nat=>[(4,.int .i64 (z.1:Nat))]) (fun z=>[.ow EStr 9 (.slice (some ⟨g,0,none⟩) xs.length xs.length) (filX (⟨#[]⟩:ByteArray) xs z.1) z.2]) (fun z=>z.1≤xs.length) (fun z=>xs.length - z.1) (0,_) (Nat.zero_le _) fun z hz0=>?_
 obtain ⟨k,G⟩:=z
 dsimp only at hz0 ⊢
 have hfl:=filX_len (⟨#[]⟩:ByteArray) hz0
 refine go ?_;intros
 refine c_if rfl (fun h3=>?_) (fun h3=>?_)
 ·have hk:k < xs.length:=by omega
  have hw:xs[k].size≤1048576:=by have:=psum_snoc ByteArray.size xs k hk;have:=wtL_le ByteArray.size xs (k+1);omega
  refine at_str (xs:=xs) k ?_
  rintro hi b o e sz
  rw [e]
  refine focF (xs:=filX (⟨#[]⟩:ByteArray) xs k) (m:=1) scal_EStr k ?_ (by repeat (first|exact .here|apply Pick.there)) rfl (by omega)
  rintro _ g2 A cs B e1 e2 hc hH
  cases e1
  obtain ⟨rfl, -⟩:=hc w0
  refine go ?_;intros
  refine unfF xs[k] hH (fun w=>⟨rfl,sz,rfl⟩) ?_
  rw [filX_set _ hk]
  refine go ?_;intros
  refine n_lp (k+1,_) hk (by show xs.length - (k+1) < xs.length - k;omega)
 ·rw [show k=xs.length by omega,filX_all]
  refine go ?_;intros
  refine ret (_,_) trivial rfl
theorem toHoldS_e (v:Value) (xs:List Hold) (F:List Nat) (w:World) (h:Sl EHold w v xs F) (hl1:wtL (fun _=>0) xs≤1048576):Calls Tryz.prog 88 #[v] w (RetNew EHold 194 xs w):=by
 have hl2:xs.length≤1048576:=by unfold wtL at hl1;omega
 refine retN_of (A:=[.sl EHold v xs F]) ?_ rfl (hol1 ⟨by decide,h⟩)
 clear h w
 have hfn:=Tryz.func88;have hnt:=Tryz.ntmps88
 have hto:=fun v x F w h (_:0≤1048576)=>toHold_c v x F w h
 have hone:One EHold:=one_EHold
 obtain ⟨z0,hz0⟩:∃z:Hold,z=((⟨0,0⟩:Hold):Hold):=⟨_,rfl⟩
 have hrep:∀w,EHold.rep w [.int .i64 0,.int .i64 0] z0 []:=fun w=>hz0▸⟨rfl,rfl⟩
 exact byToS
theorem toSlotS_e (v:Value) (xs:List Slot) (F:List Nat) (w:World) (h:Sl ESlot w v xs F) (hl1:wtL wtSlot xs≤1048576):Calls Tryz.prog 236 #[v] w (RetNew ESlot 247 xs w):=by
 have hl2:xs.length≤1048576:=by unfold wtL at hl1;omega
 refine retN_of (A:=[.sl ESlot v xs F]) ?_ rfl (hol1 ⟨by decide,h⟩)
 clear h w
 have hfn:=Tryz.func236;have hnt:=Tryz.ntmps236
 have hto:=toSlot_c
 have hone:One ESlot:=one_ESlot
 obtain ⟨z0,hz0⟩:∃z:Slot,z=((⟨false,⟨#[]⟩⟩:Slot):Slot):=⟨_,rfl⟩
 have hrep:∀w,ESlot.rep w [.bool false,.string ⟨#[]⟩] z0 []:=fun w=>hz0▸⟨rfl,Nat.zero_le _,rfl⟩
 exact byToS
theorem toRequestS_e (v:Value) (xs:List Request) (F:List Nat) (w:World) (h:Sl ERequest w v xs F) (hl1:wtL (fun _=>0) xs≤1048576):Calls Tryz.prog 170 #[v] w (RetNew ERequest 235 xs w):=by
 have hl2:xs.length≤1048576:=by unfold wtL at hl1;omega
 refine retN_of (A:=[.sl ERequest v xs F]) ?_ rfl (hol1 ⟨by decide,h⟩)
 clear h w
 have hfn:=Tryz.func170;have hnt:=Tryz.ntmps170
 have hto:=fun v x F w h (_:0≤1048576)=>toRequest_c v x F w h
 have hone:One ERequest:=one_ERequest
 obtain ⟨z0,hz0⟩:∃z:Request,z=((⟨0,0,0,0⟩:Request):Request):=⟨_,rfl⟩
 have hrep:∀w,ERequest.rep w [.int .i64 0,.int .i64 0,.int .i64 0,.int .i64 0] z0 []:=fun w=>hz0▸⟨rfl,rfl⟩
 exact byToS
theorem toPacketS_e (v:Value) (xs:List Packet) (F:List Nat) (w:World) (h:Sl EPacket w v xs F) (hl1:wtL wtPacket xs≤1048576):Calls Tryz.prog 91 #[v] w (RetNew EPacket 127 xs w):=by
 have hl2:xs.length≤1048576:=by unfold wtL at hl1;omega
 refine retN_of (A:=[.sl EPacket v xs F]) ?_ rfl (hol1 ⟨by decide,h⟩)
 clear h w
 have hfn:=Tryz.func91;have hnt:=Tryz.ntmps91
 have hto:=toPacket_c
 have hone:One EPacket:=one_EPacket
 obtain ⟨z0,hz0⟩:∃z:Packet,z=((⟨0,0,0,0,⟨#[]⟩⟩:Packet):Packet):=⟨_,rfl⟩
 have hrep:∀w,EPacket.rep w [.int .i64 0,.int .i64 0,.int .i64 0,.int .i64 0,.string ⟨#[]⟩] z0 []:=fun w=>hz0▸⟨rfl,Nat.zero_le _,rfl⟩
 exact byToS
theorem toTree_e (v:Value) (x:Tree) (F:List Nat) (w:World) (h:IsV ETree w v x F) (hl:wtTree x≤1048576):Calls Tryz.prog 37 #[v] w (RetV OTree x w):=by
 unfold wtTree at hl
 refine retV_of (A:=[.isv ETree v x F]) ?_ rfl (hol1 h)
 clear h w
 refine enter Tryz.func37 rfl Tryz.ntmps37 fun w0=>?_
 refine openTree ?_
 rintro a1 c1 F1 rfl -
 refine go ?_;intros
 refine cn (fun w st=>toIntS_e _ x.parent F1 w (st.get (p:=.sl EInt (.slice a1 x.parent.length c1) x.parent F1) (by exact memE)).2 (by omega)) fun b1 d1 G1=>?_
 refine go ?_;intros
 refine closeOTree x ?_
 refine ret (_,_) trivial rfl
theorem toSendWindow_e (v:Value) (x:SendWindow) (F:List Nat) (w:World) (h:IsV ESendWindow w v x F) (hl:wtSendWindow x≤1048576):Calls Tryz.prog 87 #[v] w (RetV OSendWindow x w):=by
 unfold wtSendWindow at hl
 refine retV_of (A:=[.isv ESendWindow v x F]) ?_ rfl (hol1 h)
 clear h w
 refine enter Tryz.func87 rfl Tryz.ntmps87 fun w0=>?_
 refine openSendWindow ?_
 rintro a1 c1 F1 rfl -
 refine go ?_;intros
 refine cn (fun w st=>toStringS_e _ x.items F1 w (st.get (p:=.sl EStr (.slice a1 x.items.length c1) x.items F1) (by exact memE)).2 (by omega)) fun b1 d1 G1=>?_
 refine go ?_;intros
 refine closeOSendWindow x ?_
 refine ret (_,_) trivial rfl
theorem toSource_e (v:Value) (x:Source) (F:List Nat) (w:World) (h:IsV ESource w v x F) (hl:wtSource x≤1048576):Calls Tryz.prog 38 #[v] w (RetV OSource x w):=by
 unfold wtSource at hl
 refine retV_of (A:=[.isv ESource v x F]) ?_ rfl (hol1 h)
 clear h w
 refine enter Tryz.func38 rfl Tryz.ntmps38 fun w0=>?_
 refine openSource ?_
 rintro a1 c1 F1 a2 c2 F2 rfl - -
 refine closeSendWindow x.window (a1:=a1) ?_
 refine go ?_;intros
 refine cv (fun w st=>toSendWindow_e _ x.window (F1) w (st.get (p:=.isv ESendWindow (.agg #[.int .i64 x.window.trail,.int .i64 x.window.size,.slice a1 x.window.items.length c1]) x.window (F1)) (by exact memE)) (by omega)) fun y K=>?_
 refine openOSendWindow (v:=y) (x:=x.window) (F:=K) ?_
 rintro b1 d1 G1 e1 -
 rw [e1]
 refine go ?_;intros
 refine cn (fun w st=>toHoldS_e _ x.holds F2 w (st.get (p:=.sl EHold (.slice a2 x.holds.length c2) x.holds F2) (by exact memE)).2 (by omega)) fun b2 d2 G2=>?_
 refine go ?_;intros
 refine closeOSource x ?_
 refine ret (_,_) trivial rfl
theorem toEntry_e (v:Value) (x:Entry) (F:List Nat) (w:World) (h:IsV EEntry w v x F) (hl:wtEntry x≤1048576):Calls Tryz.prog 235 #[v] w (RetV OEntry x w):=by
 unfold wtEntry at hl
 refine retV_of (A:=[.isv EEntry v x F]) ?_ rfl (hol1 h)
 clear h w
 refine enter Tryz.func235 rfl Tryz.ntmps235 fun w0=>?_
 refine openEntry ?_
 rintro a1 c1 F1 rfl -
 refine go ?_;intros
 refine cn (fun w st=>toIntS_e _ x.faces F1 w (st.get (p:=.sl EInt (.slice a1 x.faces.length c1) x.faces F1) (by exact memE)).2 (by omega)) fun b1 d1 G1=>?_
 refine go ?_;intros
 refine closeOEntry x ?_
 refine ret (_,_) trivial rfl
theorem toEntryS_e (v:Value) (xs:List Entry) (F:List Nat) (w:World) (h:Sl EEntry w v xs F) (hl1:wtL wtEntry xs≤1048576):Calls Tryz.prog 168 #[v] w (RetNew OEntry 231 xs w):=by
 have hl2:xs.length≤1048576:=by unfold wtL at hl1;omega
 refine retN_of (A:=[.sl EEntry v xs F]) ?_ rfl (hol1 ⟨by decide,h⟩)
 clear h w
 have hfn:=Tryz.func168;have hnt:=Tryz.ntmps168
 have hto:=toEntry_e
 have hone:One OEntry:=one_OEntry
 obtain ⟨z0,hz0⟩:∃z:Entry,z=((⟨0,[],0⟩:Entry):Entry):=⟨_,rfl⟩
 have hrep:∀w,OEntry.rep w [.int .i64 0,.slice none 0 0,.int .i64 0] z0 []:=fun w=>hz0▸⟨_,rfl,.inl ⟨rfl,rfl,rfl⟩⟩
 exact byToS
theorem toElement_e (v:Value) (x:Element) (F:List Nat) (w:World) (h:IsV EElement w v x F) (hl:wtElement x≤1048576):Calls Tryz.prog 89 #[v] w (RetV OElement x w):=by
 unfold wtElement at hl
 refine retV_of (A:=[.isv EElement v x F]) ?_ rfl (hol1 h)
 clear h w
 refine enter Tryz.func89 rfl Tryz.ntmps89 fun w0=>?_
 refine openElement ?_
 rintro a1 c1 F1 rfl -
 refine go ?_;intros
 refine cn (fun w st=>toEntryS_e _ x.entries F1 w (st.get (p:=.sl EEntry (.slice a1 x.entries.length c1) x.entries F1) (by exact memE)).2 (by omega)) fun b1 d1 G1=>?_
 refine go ?_;intros
 refine closeOElement x ?_
 refine ret (_,_) trivial rfl
theorem toElementS_e (v:Value) (xs:List Element) (F:List Nat) (w:World) (h:Sl EElement w v xs F) (hl1:wtL wtElement xs≤1048576):Calls Tryz.prog 39 #[v] w (RetNew OElement 142 xs w):=by
 have hl2:xs.length≤1048576:=by unfold wtL at hl1;omega
 refine retN_of (A:=[.sl EElement v xs F]) ?_ rfl (hol1 ⟨by decide,h⟩)
 clear h w
 have hfn:=Tryz.func39;have hnt:=Tryz.ntmps39
 have hto:=toElement_e
 have hone:One OElement:=one_OElement
 obtain ⟨z0,hz0⟩:∃z:Element,z=((⟨0,[]⟩:Element):Element):=⟨_,rfl⟩
 have hrep:∀w,OElement.rep w [.int .i64 0,.slice none 0 0] z0 []:=fun w=>hz0▸⟨_,rfl,.inl ⟨rfl,rfl,rfl⟩⟩
 exact byToS
theorem toReceiveWindow_e (v:Value) (x:ReceiveWindow) (F:List Nat) (w:World) (h:IsV EReceiveWindow w v x F) (hl:wtReceiveWindow x≤1048576):Calls Tryz.prog 169 #[v] w (RetV OReceiveWindow x w):=by
 unfold wtReceiveWindow at hl
 refine retV_of (A:=[.isv EReceiveWindow v x F]) ?_ rfl (hol1 h)
 clear h w
 refine enter Tryz.func169 rfl Tryz.ntmps169 fun w0=>?_
 refine openReceiveWindow ?_
 rintro a1 c1 F1 rfl -
 refine go ?_;intros
 refine cn (fun w st=>toSlotS_e _ x.slots F1 w (st.get (p:=.sl ESlot (.slice a1 x.slots.length c1) x.slots F1) (by exact memE)).2 (by omega)) fun b1 d1 G1=>?_
 refine go ?_;intros
 refine closeOReceiveWindow x ?_
 refine ret (_,_) trivial rfl
theorem toReceiver_e (v:Value) (x:Receiver) (F:List Nat) (w:World) (h:IsV EReceiver w v x F) (hl:wtReceiver x≤1048576):Calls Tryz.prog 90 #[v] w (RetV OReceiver x w):=by
 unfold wtReceiver at hl
 refine retV_of (A:=[.isv EReceiver v x F]) ?_ rfl (hol1 h)
 clear h w
 refine enter Tryz.func90 rfl Tryz.ntmps90 fun w0=>?_
 refine openReceiver ?_
 rintro a1 c1 F1 a2 c2 F2 rfl - -
 refine closeReceiveWindow x.window (a1:=a1) ?_
 refine go ?_;intros
 refine cv (fun w st=>toReceiveWindow_e _ x.window (F1) w (st.get (p:=.isv EReceiveWindow (.agg #[.int .i64 x.window.next,.slice a1 x.window.slots.length c1]) x.window (F1)) (by exact memE)) (by omega)) fun y K=>?_
 refine openOReceiveWindow (v:=y) (x:=x.window) (F:=K) ?_
 rintro b1 d1 G1 e1 -
 rw [e1]
 refine go ?_;intros
 refine cn (fun w st=>toRequestS_e _ x.requests F2 w (st.get (p:=.sl ERequest (.slice a2 x.requests.length c2) x.requests F2) (by exact memE)).2 (by omega)) fun b2 d2 G2=>?_
 refine go ?_;intros
 refine closeOReceiver x ?_
 refine ret (_,_) trivial rfl
theorem toReceiverS_e (v:Value) (xs:List Receiver) (F:List Nat) (w:World) (h:Sl EReceiver w v xs F) (hl1:wtL wtReceiver xs≤1048576):Calls Tryz.prog 40 #[v] w (RetNew OReceiver 149 xs w):=by
 have hl2:xs.length≤1048576:=by unfold wtL at hl1;omega
 refine retN_of (A:=[.sl EReceiver v xs F]) ?_ rfl (hol1 ⟨by decide,h⟩)
 clear h w
 have hfn:=Tryz.func40;have hnt:=Tryz.ntmps40
 have hto:=toReceiver_e
 have hone:One OReceiver:=one_OReceiver
 obtain ⟨z0,hz0⟩:∃z:Receiver,z=((⟨false,0,(⟨0,[]⟩:ReceiveWindow),[]⟩:Receiver):Receiver):=⟨_,rfl⟩
 have hrep:∀w,OReceiver.rep w [.bool false,.int .i64 0,.int .i64 0,.slice none 0 0,.slice none 0 0] z0 []:=fun w=>hz0▸⟨_,_,[],[],rfl,.inl ⟨rfl,rfl,rfl⟩,.inl ⟨rfl,rfl,rfl⟩,rfl⟩
 exact byToS
theorem toPacketSS_e (v:Value) (xs:List (List Packet)) (F:List Nat) (w:World) (h:Sl (ESl EPacket (by decide)) w v xs F) (hl1:wtL (wtL wtPacket) xs≤1048576):Calls Tryz.prog 41 #[v] w (RetNew (OSl EPacket 127) 132 xs w):=by
 have hl2:xs.length≤1048576:=by unfold wtL at hl1;omega
 refine retN_of (A:=[.sl (ESl EPacket (by decide)) v xs F]) ?_ rfl (hol1 ⟨by decide,h⟩)
 clear h w
 refine enter Tryz.func41 rfl Tryz.ntmps41 fun w0=>?_
 refine t_sl (E:=(ESl EPacket (by decide))) (xs:=xs) ?_
 rintro a c rfl h1 h2
 refine go ?_;intros
 apply wO
 refine o_ms xs.length (cs:=(List.replicate xs.length ([.slice none 0 0]:List Value)).flatten) rfl rfl rfl (made_z _ _) (by omega) (by omega) fun g=>?_
 refine t_rowL (E:=(OSl EPacket 127)) (xs:=List.replicate xs.length ([]:List Packet)) (fun w=>Flat.rep0 (E:=(OSl EPacket 127)) (w:=w) (zs:=[.slice none 0 0]) (z:=([]:List Packet)) ⟨_,rfl,.inl ⟨rfl,rfl,rfl⟩⟩ _) ?_ (by rw [List.length_replicate];exact hl2)
 rw [List.length_replicate,filX_0]
 refine go ?_;intros
 refine c_loopS [0,3] (fun z:Nat × List Nat=>[(4,.int .i64 (z.1:Nat))]) (fun z=>[.ow (OSl EPacket 127) 132 (.slice (some ⟨g,0,none⟩) xs.length xs.length) (filX ([]:List Packet) xs z.1) z.2]) (fun z=>z.1≤xs.length) (fun z=>xs.length - z.1) (0,_) (Nat.zero_le _) fun z hz0=>?_
 obtain ⟨k,G⟩:=z
 dsimp only at hz0 ⊢
 have hfl:=filX_len ([]:List Packet) hz0
 refine go ?_;intros
 refine c_if rfl (fun h3=>?_) (fun h3=>?_)
 ·have hk:k < xs.length:=by omega
  have hw:wtL wtPacket xs[k]≤1048576:=by have:=psum_snoc ((wtL wtPacket)) xs k hk;have:=wtL_le ((wtL wtPacket)) xs (k+1);omega
  refine at_ESl (E:=EPacket) (hz:=by decide) (xs:=xs) k ?_
  rintro hi b o a1 c1 F1 e l1
  rw [e]
  refine go ?_;intros
  refine cn (fun w st=>toPacketS_e _ xs[k] F1 w (st.get (p:=.sl EPacket (.slice a1 xs[k].length c1) xs[k] F1) (by exact memE)).2 hw) fun b1 d1 G1=>?_
  refine focO (xs:=filX ([]:List Packet) xs k) (m:=1) k ?_ rfl (by omega)
  rintro _ g2 A cs B k1 k2 H1 Hi H2 e2 - hc hH
  cases e2
  refine openOSl ?_
  rintro a5 c5 ev l5
  obtain rfl:cs=[.slice a5 (filX ([]:List Packet) xs k)[k].length c5]:=by simpa using ev
  refine go ?_;intros
  refine closeOSl xs[k] ?_
  refine unfO _ hH rfl fun F6=>?_
  rw [filX_set _ hk]
  refine go ?_;intros
  refine n_lp (k+1,F6) hk (by show xs.length - (k+1) < xs.length - k;omega)
 ·rw [show k=xs.length by omega,filX_all]
  refine go ?_;intros
  refine ret (_,_) trivial rfl
theorem toNet_e (v:Value) (x:Net) (F:List Nat) (w:World) (h:IsV ENet w v x F) (hl:wtNet x≤1048576):Calls Tryz.prog 10 #[v] w (RetV ONet x w):=by
 unfold wtNet at hl
 refine retV_of (A:=[.isv ENet v x F]) ?_ rfl (hol1 h)
 clear h w
 refine enter Tryz.func10 rfl Tryz.ntmps10 fun w0=>?_
 refine openNet ?_
 rintro a1 c1 F1 a2 c2 F2 a3 c3 F3 a4 c4 F4 a5 c5 F5 a6 c6 F6 a7 c7 F7 rfl - - - - - - -
 refine closeTree x.tree (a1:=a1) ?_
 refine closeSource x.source (a1:=a2) (a2:=a3) ?_
 refine go ?_;intros
 refine cv (fun w st=>toTree_e _ x.tree (F1) w (st.get (p:=.isv ETree (.agg #[.slice a1 x.tree.parent.length c1]) x.tree (F1)) (by exact memE)) (by omega)) fun y K=>?_
 refine openOTree (v:=y) (x:=x.tree) (F:=K) ?_
 rintro b1 d1 G1 e1 -
 rw [e1]
 refine go ?_;intros
 refine cv (fun w st=>toSource_e _ x.source (F2++F3) w (st.get (p:=.isv ESource (.agg #[.int .i64 x.source.window.trail,.int .i64 x.source.window.size,.slice a2 x.source.window.items.length c2,.int .i64 x.source.clock,.int .i64 x.source.quiet,.slice a3 x.source.holds.length c3]) x.source (F2++F3)) (by exact memE)) (by omega)) fun y K=>?_
 refine openOSource (v:=y) (x:=x.source) (F:=K) ?_
 rintro b2 d2 G2 b3 d3 G3 e1 - -
 rw [e1]
 refine go ?_;intros
 refine cn (fun w st=>toElementS_e _ x.elements F4 w (st.get (p:=.sl EElement (.slice a4 x.elements.length c4) x.elements F4) (by exact memE)).2 (by omega)) fun b4 d4 G4=>?_
 refine go ?_;intros
 refine cn (fun w st=>toReceiverS_e _ x.receivers F5 w (st.get (p:=.sl EReceiver (.slice a5 x.receivers.length c5) x.receivers F5) (by exact memE)).2 (by omega)) fun b5 d5 G5=>?_
 refine go ?_;intros
 refine cn (fun w st=>toPacketSS_e _ x.down F6 w (st.get (p:=.sl (ESl EPacket (by decide)) (.slice a6 x.down.length c6) x.down F6) (by exact memE)).2 (by omega)) fun b6 d6 G6=>?_
 refine go ?_;intros
 refine cn (fun w st=>toPacketSS_e _ x.up F7 w (st.get (p:=.sl (ESl EPacket (by decide)) (.slice a7 x.up.length c7) x.up F7) (by exact memE)).2 (by omega)) fun b7 d7 G7=>?_
 refine go ?_;intros
 refine closeONet x ?_
 refine ret (_,_) trivial rfl
theorem valT_of {P:Program} {f:FuncId} {args:List Value} {A:List Pc} {v:Value} (h:Fn P f args A [] (fun (_:Unit)=>True) (fun _=>v) (fun _=>[])) (hA:A.all (fun p=>!p.mu)=true) {w:World} (hH:Hol A w):Calls P f args.toArray w fun e w'=>e=.returned v∧Below w.heap.size w w':=h.val w hH hA
theorem byEqS {p:Prop} (h:p:=by
 refine enter hfn rfl hnt fun w0=>?_
 refine t_sl (v:=va) (xs:=xs) (F:=Fa) ?_
 rintro a c rfl h1 h2
 refine t_sl (v:=vb) (xs:=xs) (F:=Fb) ?_
 rintro a' c' rfl h1' h2'
 refine go ?_;intros
 refine c_if rfl (fun h=>absurd rfl h) (fun _=>?_)
 refine go ?_;intros
 refine c_loopR [0,1] (fun k:Nat=>[(5,.int .i64 (k:Nat))]) (fun k=>k≤xs.length) (fun k=>xs.length - k) 0 (Nat.zero_le _) fun k hk0=>?_
 refine go ?_;intros
 refine c_if rfl (fun h3=>?_) (fun h3=>?_)
 ·have hk:k < xs.length:=by omega
  refine at_el (a:=a) (F:=Fa) (xs:=xs) k hk ?_
  rintro b o cs G1 ea hcl
  refine at_el (a:=a') (F:=Fb) (xs:=xs) k hk ?_
  rintro b' o' cs' G2 eb hcl'
  subst ea eb
  refine go ?_;intros
  refine d_startA [] ?_
  refine dt2 0 1 ?_
  refine dt 2 ?_
  refine dt 3 ?_ (hy:=by exact yd_ldac rfl (by exact memE) (hcl▸Cut.whole cs))
  refine dt2 4 5 ?_
  refine dt 6 ?_
  refine dt 7 ?_ (hy:=by exact yd_ldac rfl (by exact memE) (hcl'▸Cut.whole cs'))
  refine dN 8 ?_
  refine oC ?_
  refine cb (fun w st=>heq _ _ xs[k] G1 G2 w (st.get (p:=.isv _ (.agg cs.toArray) xs[k] G1) (by exact memE)) (st.get (p:=.isv _ (.agg cs'.toArray) xs[k] G2) (by exact memE))) ?_
  refine dk ?_
  refine dt 9 ?_
  refine dd ?_
  refine go ?_;intros
  refine n_lp (k+1) hk (by show xs.length - (k+1) < xs.length - k;omega)
 ·refine go ?_;intros
  refine ret () trivial rfl):p:=h
theorem eqHoldS_e (va vb:Value) (xs:List Hold) (Fa Fb:List Nat) (w:World) (ha:Sl EHold w va xs Fa) (hb:Sl EHold w vb xs Fb):Calls Tryz.prog 108 #[va,vb] w fun e w'=>e=.returned (.bool true)∧Below w.heap.size w w':=by
 refine valT_of (A:=[.sl EHold va xs Fa,.sl EHold vb xs Fb]) ?_ rfl (hol2 ⟨by decide,ha⟩ ⟨by decide,hb⟩)
 clear ha hb w
 have hfn:=Tryz.func108;have hnt:=Tryz.ntmps108
 have heq:=eqHold_c
 exact byEqS
theorem eqSlotS_e (va vb:Value) (xs:List Slot) (Fa Fb:List Nat) (w:World) (ha:Sl ESlot w va xs Fa) (hb:Sl ESlot w vb xs Fb):Calls Tryz.prog 268 #[va,vb] w fun e w'=>e=.returned (.bool true)∧Below w.heap.size w w':=by
 refine valT_of (A:=[.sl ESlot va xs Fa,.sl ESlot vb xs Fb]) ?_ rfl (hol2 ⟨by decide,ha⟩ ⟨by decide,hb⟩)
 clear ha hb w
 have hfn:=Tryz.func268;have hnt:=Tryz.ntmps268
 have heq:=eqSlot_c
 exact byEqS
theorem eqRequestS_e (va vb:Value) (xs:List Request) (Fa Fb:List Nat) (w:World) (ha:Sl ERequest w va xs Fa) (hb:Sl ERequest w vb xs Fb):Calls Tryz.prog 199 #[va,vb] w fun e w'=>e=.returned (.bool true)∧Below w.heap.size w w':=by
 refine valT_of (A:=[.sl ERequest va xs Fa,.sl ERequest vb xs Fb]) ?_ rfl (hol2 ⟨by decide,ha⟩ ⟨by decide,hb⟩)
 clear ha hb w
 have hfn:=Tryz.func199;have hnt:=Tryz.ntmps199
 have heq:=eqRequest_c
 exact byEqS
theorem eqPacketS_e (va vb:Value) (xs:List Packet) (Fa Fb:List Nat) (w:World) (ha:Sl EPacket w va xs Fa) (hb:Sl EPacket w vb xs Fb):Calls Tryz.prog 111 #[va,vb] w fun e w'=>e=.returned (.bool true)∧Below w.heap.size w w':=by
 refine valT_of (A:=[.sl EPacket va xs Fa,.sl EPacket vb xs Fb]) ?_ rfl (hol2 ⟨by decide,ha⟩ ⟨by decide,hb⟩)
 clear ha hb w
 have hfn:=Tryz.func111;have hnt:=Tryz.ntmps111
 have heq:=eqPacket_c
 exact byEqS
theorem eqTree_e (va vb:Value) (x:Tree) (Fa Fb:List Nat) (w:World) (ha:IsV ETree w va x Fa) (hb:IsV ETree w vb x Fb):Calls Tryz.prog 46 #[va,vb] w fun e w'=>e=.returned (.bool true)∧Below w.heap.size w w':=by
 refine valT_of (A:=[.isv ETree va x Fa,.isv ETree vb x Fb]) ?_ rfl (hol2 ha hb)
 clear ha hb w
 refine enter Tryz.func46 rfl Tryz.ntmps46 fun w0=>?_
 refine openTree (v:=va) (x:=x) (F:=Fa) ?_
 rintro a1 c1 F1 rfl -
 refine openTree (v:=vb) (x:=x) (F:=Fb) ?_
 rintro b1 d1 G1 rfl -
 refine go ?_;intros
 refine cb (fun w st=>eqIntS_c _ _ x.parent F1 G1 w (st.get (p:=.sl EInt (.slice a1 x.parent.length c1) x.parent F1) (by exact memE)).2 (st.get (p:=.sl EInt (.slice b1 x.parent.length d1) x.parent G1) (by exact memE)).2) ?_
 refine go ?_;intros
 refine ret () trivial rfl
theorem eqSendWindow_e (va vb:Value) (x:SendWindow) (Fa Fb:List Nat) (w:World) (ha:IsV ESendWindow w va x Fa) (hb:IsV ESendWindow w vb x Fb):Calls Tryz.prog 107 #[va,vb] w fun e w'=>e=.returned (.bool true)∧Below w.heap.size w w':=by
 refine valT_of (A:=[.isv ESendWindow va x Fa,.isv ESendWindow vb x Fb]) ?_ rfl (hol2 ha hb)
 clear ha hb w
 refine enter Tryz.func107 rfl Tryz.ntmps107 fun w0=>?_
 refine openSendWindow (v:=va) (x:=x) (F:=Fa) ?_
 rintro a1 c1 F1 rfl -
 refine openSendWindow (v:=vb) (x:=x) (F:=Fb) ?_
 rintro b1 d1 G1 rfl -
 refine go ?_;intros
 refine c_if rfl (fun h=>absurd rfl h) (fun _=>?_)
 refine go ?_;intros
 refine c_if rfl (fun h=>absurd rfl h) (fun _=>?_)
 refine go ?_;intros
 refine cb (fun w st=>eqStringS_c _ _ x.items F1 G1 w (st.get (p:=.sl EStr (.slice a1 x.items.length c1) x.items F1) (by exact memE)).2 (st.get (p:=.sl EStr (.slice b1 x.items.length d1) x.items G1) (by exact memE)).2) ?_
 refine go ?_;intros
 refine ret () trivial rfl
theorem eqSource_e (va vb:Value) (x:Source) (Fa Fb:List Nat) (w:World) (ha:IsV ESource w va x Fa) (hb:IsV ESource w vb x Fb):Calls Tryz.prog 47 #[va,vb] w fun e w'=>e=.returned (.bool true)∧Below w.heap.size w w':=by
 refine valT_of (A:=[.isv ESource va x Fa,.isv ESource vb x Fb]) ?_ rfl (hol2 ha hb)
 clear ha hb w
 refine enter Tryz.func47 rfl Tryz.ntmps47 fun w0=>?_
 refine openSource (v:=va) (x:=x) (F:=Fa) ?_
 rintro a1 c1 F1 a2 c2 F2 rfl - -
 refine openSource (v:=vb) (x:=x) (F:=Fb) ?_
 rintro b1 d1 G1 b2 d2 G2 rfl - -
 refine closeSendWindow x.window (a1:=a1) (F1:=F1) ?_
 refine closeSendWindow x.window (a1:=b1) (F1:=G1) ?_
 refine go ?_;intros
 refine cb (fun w st=>eqSendWindow_e _ _ x.window _ _ w (st.get (p:=.isv ESendWindow (.agg #[.int .i64 x.window.trail,.int .i64 x.window.size,.slice a1 x.window.items.length c1]) x.window (F1)) (by exact memE)) (st.get (p:=.isv ESendWindow (.agg #[.int .i64 x.window.trail,.int .i64 x.window.size,.slice b1 x.window.items.length d1]) x.window (G1)) (by exact memE))) ?_
 refine go ?_;intros
 refine c_if rfl (fun h=>absurd rfl h) (fun _=>?_)
 refine go ?_;intros
 refine c_if rfl (fun h=>absurd rfl h) (fun _=>?_)
 refine go ?_;intros
 refine cb (fun w st=>eqHoldS_e _ _ x.holds F2 G2 w (st.get (p:=.sl EHold (.slice a2 x.holds.length c2) x.holds F2) (by exact memE)).2 (st.get (p:=.sl EHold (.slice b2 x.holds.length d2) x.holds G2) (by exact memE)).2) ?_
 refine go ?_;intros
 refine ret () trivial rfl
theorem eqEntry_e (va vb:Value) (x:Entry) (Fa Fb:List Nat) (w:World) (ha:IsV EEntry w va x Fa) (hb:IsV EEntry w vb x Fb):Calls Tryz.prog 267 #[va,vb] w fun e w'=>e=.returned (.bool true)∧Below w.heap.size w w':=by
 refine valT_of (A:=[.isv EEntry va x Fa,.isv EEntry vb x Fb]) ?_ rfl (hol2 ha hb)
 clear ha hb w
 refine enter Tryz.func267 rfl Tryz.ntmps267 fun w0=>?_
 refine openEntry (v:=va) (x:=x) (F:=Fa) ?_
 rintro a1 c1 F1 rfl -
 refine openEntry (v:=vb) (x:=x) (F:=Fb) ?_
 rintro b1 d1 G1 rfl -
 refine go ?_;intros
 refine c_if rfl (fun h=>absurd rfl h) (fun _=>?_)
 refine go ?_;intros
 refine cb (fun w st=>eqIntS_c _ _ x.faces F1 G1 w (st.get (p:=.sl EInt (.slice a1 x.faces.length c1) x.faces F1) (by exact memE)).2 (st.get (p:=.sl EInt (.slice b1 x.faces.length d1) x.faces G1) (by exact memE)).2) ?_
 refine go ?_;intros
 refine c_if rfl (fun h=>absurd rfl h) (fun _=>?_)
 refine go ?_;intros
 refine ret () trivial rfl
theorem eqEntryS_e (va vb:Value) (xs:List Entry) (Fa Fb:List Nat) (w:World) (ha:Sl EEntry w va xs Fa) (hb:Sl EEntry w vb xs Fb):Calls Tryz.prog 197 #[va,vb] w fun e w'=>e=.returned (.bool true)∧Below w.heap.size w w':=by
 refine valT_of (A:=[.sl EEntry va xs Fa,.sl EEntry vb xs Fb]) ?_ rfl (hol2 ⟨by decide,ha⟩ ⟨by decide,hb⟩)
 clear ha hb w
 have hfn:=Tryz.func197;have hnt:=Tryz.ntmps197
 have heq:=eqEntry_e
 exact byEqS
theorem eqElement_e (va vb:Value) (x:Element) (Fa Fb:List Nat) (w:World) (ha:IsV EElement w va x Fa) (hb:IsV EElement w vb x Fb):Calls Tryz.prog 109 #[va,vb] w fun e w'=>e=.returned (.bool true)∧Below w.heap.size w w':=by
 refine valT_of (A:=[.isv EElement va x Fa,.isv EElement vb x Fb]) ?_ rfl (hol2 ha hb)
 clear ha hb w
 refine enter Tryz.func109 rfl Tryz.ntmps109 fun w0=>?_
 refine openElement (v:=va) (x:=x) (F:=Fa) ?_
 rintro a1 c1 F1 rfl -
 refine openElement (v:=vb) (x:=x) (F:=Fb) ?_
 rintro b1 d1 G1 rfl -
 refine go ?_;intros
 refine c_if rfl (fun h=>absurd rfl h) (fun _=>?_)
 refine go ?_;intros
 refine cb (fun w st=>eqEntryS_e _ _ x.entries F1 G1 w (st.get (p:=.sl EEntry (.slice a1 x.entries.length c1) x.entries F1) (by exact memE)).2 (st.get (p:=.sl EEntry (.slice b1 x.entries.length d1) x.entries G1) (by exact memE)).2) ?_
 refine go ?_;intros
 refine ret () trivial rfl
theorem eqElementS_e (va vb:Value) (xs:List Element) (Fa Fb:List Nat) (w:World) (ha:Sl EElement w va xs Fa) (hb:Sl EElement w vb xs Fb):Calls Tryz.prog 48 #[va,vb] w fun e w'=>e=.returned (.bool true)∧Below w.heap.size w w':=by
 refine valT_of (A:=[.sl EElement va xs Fa,.sl EElement vb xs Fb]) ?_ rfl (hol2 ⟨by decide,ha⟩ ⟨by decide,hb⟩)
 clear ha hb w
 have hfn:=Tryz.func48;have hnt:=Tryz.ntmps48
 have heq:=eqElement_e
 exact byEqS
theorem eqReceiveWindow_e (va vb:Value) (x:ReceiveWindow) (Fa Fb:List Nat) (w:World) (ha:IsV EReceiveWindow w va x Fa) (hb:IsV EReceiveWindow w vb x Fb):Calls Tryz.prog 198 #[va,vb] w fun e w'=>e=.returned (.bool true)∧Below w.heap.size w w':=by
 refine valT_of (A:=[.isv EReceiveWindow va x Fa,.isv EReceiveWindow vb x Fb]) ?_ rfl (hol2 ha hb)
 clear ha hb w
 refine enter Tryz.func198 rfl Tryz.ntmps198 fun w0=>?_
 refine openReceiveWindow (v:=va) (x:=x) (F:=Fa) ?_
 rintro a1 c1 F1 rfl -
 refine openReceiveWindow (v:=vb) (x:=x) (F:=Fb) ?_
 rintro b1 d1 G1 rfl -
 refine go ?_;intros
 refine c_if rfl (fun h=>absurd rfl h) (fun _=>?_)
 refine go ?_;intros
 refine cb (fun w st=>eqSlotS_e _ _ x.slots F1 G1 w (st.get (p:=.sl ESlot (.slice a1 x.slots.length c1) x.slots F1) (by exact memE)).2 (st.get (p:=.sl ESlot (.slice b1 x.slots.length d1) x.slots G1) (by exact memE)).2) ?_
 refine go ?_;intros
 refine ret () trivial rfl
theorem eqReceiver_e (va vb:Value) (x:Receiver) (Fa Fb:List Nat) (w:World) (ha:IsV EReceiver w va x Fa) (hb:IsV EReceiver w vb x Fb):Calls Tryz.prog 110 #[va,vb] w fun e w'=>e=.returned (.bool true)∧Below w.heap.size w w':=by
 refine valT_of (A:=[.isv EReceiver va x Fa,.isv EReceiver vb x Fb]) ?_ rfl (hol2 ha hb)
 clear ha hb w
 refine enter Tryz.func110 rfl Tryz.ntmps110 fun w0=>?_
 refine openReceiver (v:=va) (x:=x) (F:=Fa) ?_
 rintro a1 c1 F1 a2 c2 F2 rfl - -
 refine openReceiver (v:=vb) (x:=x) (F:=Fb) ?_
 rintro b1 d1 G1 b2 d2 G2 rfl - -
 refine closeReceiveWindow x.window (a1:=a1) (F1:=F1) ?_
 refine closeReceiveWindow x.window (a1:=b1) (F1:=G1) ?_
 refine go ?_;intros
 refine c_if rfl (fun h=>absurd rfl h) (fun _=>?_)
 refine go ?_;intros
 refine c_if rfl (fun h=>absurd rfl h) (fun _=>?_)
 refine go ?_;intros
 refine cb (fun w st=>eqReceiveWindow_e _ _ x.window _ _ w (st.get (p:=.isv EReceiveWindow (.agg #[.int .i64 x.window.next,.slice a1 x.window.slots.length c1]) x.window (F1)) (by exact memE)) (st.get (p:=.isv EReceiveWindow (.agg #[.int .i64 x.window.next,.slice b1 x.window.slots.length d1]) x.window (G1)) (by exact memE))) ?_
 refine go ?_;intros
 refine cb (fun w st=>eqRequestS_e _ _ x.requests F2 G2 w (st.get (p:=.sl ERequest (.slice a2 x.requests.length c2) x.requests F2) (by exact memE)).2 (st.get (p:=.sl ERequest (.slice b2 x.requests.length d2) x.requests G2) (by exact memE)).2) ?_
 refine go ?_;intros
 refine ret () trivial rfl
theorem eqReceiverS_e (va vb:Value) (xs:List Receiver) (Fa Fb:List Nat) (w:World) (ha:Sl EReceiver w va xs Fa) (hb:Sl EReceiver w vb xs Fb):Calls Tryz.prog 49 #[va,vb] w fun e w'=>e=.returned (.bool true)∧Below w.heap.size w w':=by
 refine valT_of (A:=[.sl EReceiver va xs Fa,.sl EReceiver vb xs Fb]) ?_ rfl (hol2 ⟨by decide,ha⟩ ⟨by decide,hb⟩)
 clear ha hb w
 have hfn:=Tryz.func49;have hnt:=Tryz.ntmps49
 have heq:=eqReceiver_e
 exact byEqS
theorem eqPacketSS_e (va vb:Value) (xs:List (List Packet)) (Fa Fb:List Nat) (w:World) (ha:Sl (ESl EPacket (by decide)) w va xs Fa) (hb:Sl (ESl EPacket (by decide)) w vb xs Fb):Calls Tryz.prog 50 #[va,vb] w fun e w'=>e=.returned (.bool true)∧Below w.heap.size w w':=by
 refine valT_of (A:=[.sl (ESl EPacket (by decide)) va xs Fa,.sl (ESl EPacket (by decide)) vb xs Fb]) ?_ rfl (hol2 ⟨by decide,ha⟩ ⟨by decide,hb⟩)
 clear ha hb w
 refine enter Tryz.func50 rfl Tryz.ntmps50 fun w0=>?_
 refine t_sl (v:=va) (xs:=xs) (F:=Fa) ?_
 rintro a c rfl h1 h2
 refine t_sl (v:=vb) (xs:=xs) (F:=Fb) ?_
 rintro a' c' rfl h1' h2'
 refine go ?_;intros
 refine c_if rfl (fun h=>absurd rfl h) (fun _=>?_)
 refine go ?_;intros
 refine c_loopR [0,1] (fun k:Nat=>[(5,.int .i64 (k:Nat))]) (fun k=>k≤xs.length) (fun k=>xs.length - k) 0 (Nat.zero_le _) fun k hk0=>?_
 refine go ?_;intros
 refine c_if rfl (fun h3=>?_) (fun h3=>?_)
 ·have hk:k < xs.length:=by omega
  refine at_ESl (E:=EPacket) (hz:=by decide) (a:=a) (F:=Fa) (xs:=xs) k ?_
  rintro hi b o a1 c1 F1 ea l1
  refine at_ESl (E:=EPacket) (hz:=by decide) (a:=a') (F:=Fb) (xs:=xs) k ?_
  rintro hi' b' o' b1 d1 G1 eb l1'
  subst ea eb
  refine go ?_;intros
  refine d_startA [] ?_
  refine dt4 0 1 2 3 ?_
  refine dt4 4 5 6 7 ?_
  refine dN 8 ?_
  refine oC ?_
  refine cb (fun w st=>eqPacketS_e _ _ xs[k] F1 G1 w (st.get (p:=.sl EPacket (.slice a1 xs[k].length c1) xs[k] F1) (by exact memE)).2 (st.get (p:=.sl EPacket (.slice b1 xs[k].length d1) xs[k] G1) (by exact memE)).2) ?_
  refine dk ?_
  refine dt 9 ?_
  refine dd ?_
  refine go ?_;intros
  refine n_lp (k+1) hk (by show xs.length - (k+1) < xs.length - k;omega)
 ·refine go ?_;intros
  refine ret () trivial rfl
theorem eqNet_e (va vb:Value) (x:Net) (Fa Fb:List Nat) (w:World) (ha:IsV ENet w va x Fa) (hb:IsV ENet w vb x Fb):Calls Tryz.prog 13 #[va,vb] w fun e w'=>e=.returned (.bool true)∧Below w.heap.size w w':=by
 refine valT_of (A:=[.isv ENet va x Fa,.isv ENet vb x Fb]) ?_ rfl (hol2 ha hb)
 clear ha hb w
 refine enter Tryz.func13 rfl Tryz.ntmps13 fun w0=>?_
 refine openNet (v:=va) (x:=x) (F:=Fa) ?_
 rintro a1 c1 F1 a2 c2 F2 a3 c3 F3 a4 c4 F4 a5 c5 F5 a6 c6 F6 a7 c7 F7 rfl - - - - - - -
 refine openNet (v:=vb) (x:=x) (F:=Fb) ?_
 rintro b1 d1 G1 b2 d2 G2 b3 d3 G3 b4 d4 G4 b5 d5 G5 b6 d6 G6 b7 d7 G7 rfl - - - - - - -
 refine closeTree x.tree (a1:=a1) (F1:=F1) ?_
 refine closeSource x.source (a1:=a2) (F1:=F2) (a2:=a3) (F2:=F3) ?_
 refine closeTree x.tree (a1:=b1) (F1:=G1) ?_
 refine closeSource x.source (a1:=b2) (F1:=G2) (a2:=b3) (F2:=G3) ?_
 refine go ?_;intros
 refine cb (fun w st=>eqTree_e _ _ x.tree _ _ w (st.get (p:=.isv ETree (.agg #[.slice a1 x.tree.parent.length c1]) x.tree (F1)) (by exact memE)) (st.get (p:=.isv ETree (.agg #[.slice b1 x.tree.parent.length d1]) x.tree (G1)) (by exact memE))) ?_
 refine go ?_;intros
 refine cb (fun w st=>eqSource_e _ _ x.source _ _ w (st.get (p:=.isv ESource (.agg #[.int .i64 x.source.window.trail,.int .i64 x.source.window.size,.slice a2 x.source.window.items.length c2,.int .i64 x.source.clock,.int .i64 x.source.quiet,.slice a3 x.source.holds.length c3]) x.source (F2++F3)) (by exact memE)) (st.get (p:=.isv ESource (.agg #[.int .i64 x.source.window.trail,.int .i64 x.source.window.size,.slice b2 x.source.window.items.length d2,.int .i64 x.source.clock,.int .i64 x.source.quiet,.slice b3 x.source.holds.length d3]) x.source (G2++G3)) (by exact memE))) ?_
 refine go ?_;intros
 refine cb (fun w st=>eqElementS_e _ _ x.elements F4 G4 w (st.get (p:=.sl EElement (.slice a4 x.elements.length c4) x.elements F4) (by exact memE)).2 (st.get (p:=.sl EElement (.slice b4 x.elements.length d4) x.elements G4) (by exact memE)).2) ?_
 refine go ?_;intros
 refine cb (fun w st=>eqReceiverS_e _ _ x.receivers F5 G5 w (st.get (p:=.sl EReceiver (.slice a5 x.receivers.length c5) x.receivers F5) (by exact memE)).2 (st.get (p:=.sl EReceiver (.slice b5 x.receivers.length d5) x.receivers G5) (by exact memE)).2) ?_
 refine go ?_;intros
 refine cb (fun w st=>eqPacketSS_e _ _ x.down F6 G6 w (st.get (p:=.sl (ESl EPacket (by decide)) (.slice a6 x.down.length c6) x.down F6) (by exact memE)).2 (st.get (p:=.sl (ESl EPacket (by decide)) (.slice b6 x.down.length d6) x.down G6) (by exact memE)).2) ?_
 refine go ?_;intros
 refine cb (fun w st=>eqPacketSS_e _ _ x.up F7 G7 w (st.get (p:=.sl (ESl EPacket (by decide)) (.slice a7 x.up.length c7) x.up F7) (by exact memE)).2 (st.get (p:=.sl (ESl EPacket (by decide)) (.slice b7 x.up.length d7) x.up G7) (by exact memE)).2) ?_
 refine go ?_;intros
 refine ret () trivial rfl
theorem bySzS {p:Prop} (h:p:=by
 refine enter hfn rfl hnt fun w0=>?_
 refine t_sl (xs:=xs) ?_
 rintro a c rfl hc1 hc2
 refine go ?_;intros
 refine c_if rfl (fun h2=>?_) (fun h2=>?_)
 ·refine go ?_;intros
  refine ret () trivial ?_
  rw [szr_no (by have:=wtL_le wf xs 0;omega)];rfl
 refine go ?_;intros
 rw [show n - (xs.length:Int)=n - xs.length - ((psum wf xs 0:Nat):Int) by rw [psum_zero];omega]
 refine c_loopR [0] (fun k:Nat=>[(1,.int .i64 (n - xs.length - ((psum wf xs k:Nat):Int))),(5,.int .i64 (k:Nat))]) (fun k=>k≤xs.length∧((psum wf xs k:Nat):Int)+xs.length≤n) (fun k=>xs.length - k) 0 ⟨Nat.zero_le _,by rw [psum_zero];omega⟩ fun k hk0=>?_
 obtain ⟨hk0,hle⟩:=hk0
 refine go ?_;intros
 refine c_if rfl (fun h3=>?_) (fun h3=>?_)
 ·have hk:k < xs.length:=by omega
  have hps:=psum_snoc wf xs k hk
  have hpl:=wtL_le wf xs (k+1)
  refine at_el (xs:=xs) k hk ?_
  rintro b o cs G1 rfl hcl
  refine go ?_;intros
  apply wO;apply oc;rfl;exact yd_ldac rfl (by exact memE) (hcl▸Cut.whole cs)
  refine go ?_;intros
  refine cb (fun w st=>hsz _ xs[k] G1 (n - xs.length - ((psum wf xs k:Nat):Int)) w (st.get (p:=.isv _ (.agg cs.toArray) xs[k] G1) (by exact memE)) (by omega) (by omega)) ?_
  rcases szr_or (n - xs.length - ((psum wf xs k:Nat):Int)) (wf xs[k]) with ⟨e1,l1⟩|⟨e1,l1⟩
  ·rw [e1]
   refine go ?_;intros
   refine ret () trivial ?_
   rw [szr_no (by omega)];rfl
  ·rw [e1]
   refine go ?_;intros
   refine c_if rfl (fun h=>absurd h (by omega)) (fun _=>?_)
   refine go ?_;intros
   rw [show n - xs.length - ((psum wf xs k:Nat):Int) - (wf xs[k]:Int)=n - xs.length - ((psum wf xs (k+1):Nat):Int) by omega]
   refine n_lp (k+1) ⟨hk,by omega⟩ (by show xs.length - (k+1) < xs.length - k;omega)
 ·obtain rfl:k=xs.length:=by omega
  refine go ?_;intros
  refine ret () trivial ?_
  rw [szr_yes (by rw [wtL_eq];omega),wtL_eq,show n - (xs.length:Int) - ((psum wf xs xs.length:Nat):Int)=n - ((xs.length+psum wf xs xs.length:Nat):Int) by omega];rfl):p:=h
theorem szSlotS_e (v:Value) (xs:List Slot) (F:List Nat) (n:Int) (w:World) (h:Sl ESlot w v xs F) (h0:0≤n) (h1:n≤1048576):Calls Tryz.prog 216 #[v,.int .i64 n] w fun e w'=>e=.returned (.int .i64 (szr n (wtL wtSlot xs)))∧Below w.heap.size w w':=by
 refine valT_of (A:=[.sl ESlot v xs F]) ?_ rfl (hol1 ⟨by decide,h⟩)
 clear h w
 have hfn:=Tryz.func216;have hnt:=Tryz.ntmps216
 have hsz:=szSlot_c
 obtain ⟨wf,hwf⟩:∃f,f=wtSlot:=⟨_,rfl⟩
 rw [←hwf] at hsz ⊢
 exact bySzS
theorem szPacketS_e (v:Value) (xs:List Packet) (F:List Nat) (n:Int) (w:World) (h:Sl EPacket w v xs F) (h0:0≤n) (h1:n≤1048576):Calls Tryz.prog 75 #[v,.int .i64 n] w fun e w'=>e=.returned (.int .i64 (szr n (wtL wtPacket xs)))∧Below w.heap.size w w':=by
 refine valT_of (A:=[.sl EPacket v xs F]) ?_ rfl (hol1 ⟨by decide,h⟩)
 clear h w
 have hfn:=Tryz.func75;have hnt:=Tryz.ntmps75
 have hsz:=szPacket_c
 obtain ⟨wf,hwf⟩:∃f,f=wtPacket:=⟨_,rfl⟩
 rw [←hwf] at hsz ⊢
 exact bySzS
theorem szTree_e (v:Value) (x:Tree) (F:List Nat) (n:Int) (w:World) (h:IsV ETree w v x F) (h0:0≤n) (h1:n≤1048576):Calls Tryz.prog 29 #[v,.int .i64 n] w fun e w'=>e=.returned (.int .i64 (szr n (wtTree x)))∧Below w.heap.size w w':=by
 refine valT_of (A:=[.isv ETree v x F]) ?_ rfl (hol1 h)
 clear h w
 unfold wtTree
 refine enter Tryz.func29 rfl Tryz.ntmps29 fun w0=>?_
 refine openTree ?_
 rintro a1 c1 F1 rfl -
 refine go ?_;intros
 refine cb (fun w st=>szIntS_c _ x.parent F1 (n) w (st.get (p:=.sl EInt (.slice a1 x.parent.length c1) x.parent F1) (by exact memE)).2 (by omega) (by omega)) ?_
 rcases szr_or (n) (wtL (fun _=>0) x.parent) with ⟨e1,l1⟩|⟨e1,l1⟩
 ·rw [e1]
  refine go ?_;intros
  refine ret () trivial ?_
  first|rfl|(rw [szr_no (by omega)];rfl)
 rw [e1]
 clear e1
 refine go ?_;intros
 refine c_if rfl (fun h=>absurd h (by omega)) (fun _=>?_)
 refine go ?_;intros
 refine ret () trivial ?_
 first|rfl|(rw [szr_yes (by omega)];exact congrArg (Value.int .i64) (by omega))
theorem szSendWindow_e (v:Value) (x:SendWindow) (F:List Nat) (n:Int) (w:World) (h:IsV ESendWindow w v x F) (h0:0≤n) (h1:n≤1048576):Calls Tryz.prog 71 #[v,.int .i64 n] w fun e w'=>e=.returned (.int .i64 (szr n (wtSendWindow x)))∧Below w.heap.size w w':=by
 refine valT_of (A:=[.isv ESendWindow v x F]) ?_ rfl (hol1 h)
 clear h w
 unfold wtSendWindow
 refine enter Tryz.func71 rfl Tryz.ntmps71 fun w0=>?_
 refine openSendWindow ?_
 rintro a1 c1 F1 rfl -
 refine go ?_;intros
 refine cb (fun w st=>szStringS_c _ x.items F1 (n) w (st.get (p:=.sl EStr (.slice a1 x.items.length c1) x.items F1) (by exact memE)).2 (by omega) (by omega)) ?_
 rcases szr_or (n) (wtL ByteArray.size x.items) with ⟨e1,l1⟩|⟨e1,l1⟩
 ·rw [e1]
  refine go ?_;intros
  refine ret () trivial ?_
  first|rfl|(rw [szr_no (by omega)];rfl)
 rw [e1]
 clear e1
 refine go ?_;intros
 refine c_if rfl (fun h=>absurd h (by omega)) (fun _=>?_)
 refine go ?_;intros
 refine ret () trivial ?_
 first|rfl|(rw [szr_yes (by omega)];exact congrArg (Value.int .i64) (by omega))
theorem szSource_e (v:Value) (x:Source) (F:List Nat) (n:Int) (w:World) (h:IsV ESource w v x F) (h0:0≤n) (h1:n≤1048576):Calls Tryz.prog 30 #[v,.int .i64 n] w fun e w'=>e=.returned (.int .i64 (szr n (wtSource x)))∧Below w.heap.size w w':=by
 refine valT_of (A:=[.isv ESource v x F]) ?_ rfl (hol1 h)
 clear h w
 unfold wtSource
 refine enter Tryz.func30 rfl Tryz.ntmps30 fun w0=>?_
 refine openSource ?_
 rintro a1 c1 F1 a2 c2 F2 rfl - -
 refine closeSendWindow x.window (a1:=a1) (F1:=F1) ?_
 refine go ?_;intros
 refine cb (fun w st=>szSendWindow_e _ x.window (F1) (n) w (st.get (p:=.isv ESendWindow (.agg #[.int .i64 x.window.trail,.int .i64 x.window.size,.slice a1 x.window.items.length c1]) x.window (F1)) (by exact memE)) (by omega) (by omega)) ?_
 rcases szr_or (n) (wtSendWindow x.window) with ⟨e1,l1⟩|⟨e1,l1⟩
 ·rw [e1]
  refine go ?_;intros
  refine ret () trivial ?_
  first|rfl|(rw [szr_no (by omega)];rfl)
 rw [e1]
 clear e1
 refine go ?_;intros
 refine c_if rfl (fun h=>absurd h (by omega)) (fun _=>?_)
 refine go ?_;intros
 refine cb (fun w st=>szHoldS_c _ x.holds F2 (n - ((wtSendWindow x.window:Nat):Int)) w (st.get (p:=.sl EHold (.slice a2 x.holds.length c2) x.holds F2) (by exact memE)).2 (by omega) (by omega)) ?_
 rcases szr_or (n - ((wtSendWindow x.window:Nat):Int)) (wtL (fun _=>0) x.holds) with ⟨e1,l1⟩|⟨e1,l1⟩
 ·rw [e1]
  refine go ?_;intros
  refine ret () trivial ?_
  first|rfl|(rw [szr_no (by omega)];rfl)
 rw [e1]
 clear e1
 refine go ?_;intros
 refine c_if rfl (fun h=>absurd h (by omega)) (fun _=>?_)
 refine go ?_;intros
 refine ret () trivial ?_
 first|rfl|(rw [szr_yes (by omega)];exact congrArg (Value.int .i64) (by omega))
theorem szEntry_e (v:Value) (x:Entry) (F:List Nat) (n:Int) (w:World) (h:IsV EEntry w v x F) (h0:0≤n) (h1:n≤1048576):Calls Tryz.prog 215 #[v,.int .i64 n] w fun e w'=>e=.returned (.int .i64 (szr n (wtEntry x)))∧Below w.heap.size w w':=by
 refine valT_of (A:=[.isv EEntry v x F]) ?_ rfl (hol1 h)
 clear h w
 unfold wtEntry
 refine enter Tryz.func215 rfl Tryz.ntmps215 fun w0=>?_
 refine openEntry ?_
 rintro a1 c1 F1 rfl -
 refine go ?_;intros
 refine cb (fun w st=>szIntS_c _ x.faces F1 (n) w (st.get (p:=.sl EInt (.slice a1 x.faces.length c1) x.faces F1) (by exact memE)).2 (by omega) (by omega)) ?_
 rcases szr_or (n) (wtL (fun _=>0) x.faces) with ⟨e1,l1⟩|⟨e1,l1⟩
 ·rw [e1]
  refine go ?_;intros
  refine ret () trivial ?_
  first|rfl|(rw [szr_no (by omega)];rfl)
 rw [e1]
 clear e1
 refine go ?_;intros
 refine c_if rfl (fun h=>absurd h (by omega)) (fun _=>?_)
 refine go ?_;intros
 refine ret () trivial ?_
 first|rfl|(rw [szr_yes (by omega)];exact congrArg (Value.int .i64) (by omega))
theorem szEntryS_e (v:Value) (xs:List Entry) (F:List Nat) (n:Int) (w:World) (h:Sl EEntry w v xs F) (h0:0≤n) (h1:n≤1048576):Calls Tryz.prog 142 #[v,.int .i64 n] w fun e w'=>e=.returned (.int .i64 (szr n (wtL wtEntry xs)))∧Below w.heap.size w w':=by
 refine valT_of (A:=[.sl EEntry v xs F]) ?_ rfl (hol1 ⟨by decide,h⟩)
 clear h w
 have hfn:=Tryz.func142;have hnt:=Tryz.ntmps142
 have hsz:=szEntry_e
 obtain ⟨wf,hwf⟩:∃f,f=wtEntry:=⟨_,rfl⟩
 rw [←hwf] at hsz ⊢
 exact bySzS
theorem szElement_e (v:Value) (x:Element) (F:List Nat) (n:Int) (w:World) (h:IsV EElement w v x F) (h0:0≤n) (h1:n≤1048576):Calls Tryz.prog 73 #[v,.int .i64 n] w fun e w'=>e=.returned (.int .i64 (szr n (wtElement x)))∧Below w.heap.size w w':=by
 refine valT_of (A:=[.isv EElement v x F]) ?_ rfl (hol1 h)
 clear h w
 unfold wtElement
 refine enter Tryz.func73 rfl Tryz.ntmps73 fun w0=>?_
 refine openElement ?_
 rintro a1 c1 F1 rfl -
 refine go ?_;intros
 refine cb (fun w st=>szEntryS_e _ x.entries F1 (n) w (st.get (p:=.sl EEntry (.slice a1 x.entries.length c1) x.entries F1) (by exact memE)).2 (by omega) (by omega)) ?_
 rcases szr_or (n) (wtL wtEntry x.entries) with ⟨e1,l1⟩|⟨e1,l1⟩
 ·rw [e1]
  refine go ?_;intros
  refine ret () trivial ?_
  first|rfl|(rw [szr_no (by omega)];rfl)
 rw [e1]
 clear e1
 refine go ?_;intros
 refine c_if rfl (fun h=>absurd h (by omega)) (fun _=>?_)
 refine go ?_;intros
 refine ret () trivial ?_
 first|rfl|(rw [szr_yes (by omega)];exact congrArg (Value.int .i64) (by omega))
theorem szElementS_e (v:Value) (xs:List Element) (F:List Nat) (n:Int) (w:World) (h:Sl EElement w v xs F) (h0:0≤n) (h1:n≤1048576):Calls Tryz.prog 31 #[v,.int .i64 n] w fun e w'=>e=.returned (.int .i64 (szr n (wtL wtElement xs)))∧Below w.heap.size w w':=by
 refine valT_of (A:=[.sl EElement v xs F]) ?_ rfl (hol1 ⟨by decide,h⟩)
 clear h w
 have hfn:=Tryz.func31;have hnt:=Tryz.ntmps31
 have hsz:=szElement_e
 obtain ⟨wf,hwf⟩:∃f,f=wtElement:=⟨_,rfl⟩
 rw [←hwf] at hsz ⊢
 exact bySzS
theorem szReceiveWindow_e (v:Value) (x:ReceiveWindow) (F:List Nat) (n:Int) (w:World) (h:IsV EReceiveWindow w v x F) (h0:0≤n) (h1:n≤1048576):Calls Tryz.prog 143 #[v,.int .i64 n] w fun e w'=>e=.returned (.int .i64 (szr n (wtReceiveWindow x)))∧Below w.heap.size w w':=by
 refine valT_of (A:=[.isv EReceiveWindow v x F]) ?_ rfl (hol1 h)
 clear h w
 unfold wtReceiveWindow
 refine enter Tryz.func143 rfl Tryz.ntmps143 fun w0=>?_
 refine openReceiveWindow ?_
 rintro a1 c1 F1 rfl -
 refine go ?_;intros
 refine cb (fun w st=>szSlotS_e _ x.slots F1 (n) w (st.get (p:=.sl ESlot (.slice a1 x.slots.length c1) x.slots F1) (by exact memE)).2 (by omega) (by omega)) ?_
 rcases szr_or (n) (wtL wtSlot x.slots) with ⟨e1,l1⟩|⟨e1,l1⟩
 ·rw [e1]
  refine go ?_;intros
  refine ret () trivial ?_
  first|rfl|(rw [szr_no (by omega)];rfl)
 rw [e1]
 clear e1
 refine go ?_;intros
 refine c_if rfl (fun h=>absurd h (by omega)) (fun _=>?_)
 refine go ?_;intros
 refine ret () trivial ?_
 first|rfl|(rw [szr_yes (by omega)];exact congrArg (Value.int .i64) (by omega))
theorem szReceiver_e (v:Value) (x:Receiver) (F:List Nat) (n:Int) (w:World) (h:IsV EReceiver w v x F) (h0:0≤n) (h1:n≤1048576):Calls Tryz.prog 74 #[v,.int .i64 n] w fun e w'=>e=.returned (.int .i64 (szr n (wtReceiver x)))∧Below w.heap.size w w':=by
 refine valT_of (A:=[.isv EReceiver v x F]) ?_ rfl (hol1 h)
 clear h w
 unfold wtReceiver
 refine enter Tryz.func74 rfl Tryz.ntmps74 fun w0=>?_
 refine openReceiver ?_
 rintro a1 c1 F1 a2 c2 F2 rfl - -
 refine closeReceiveWindow x.window (a1:=a1) (F1:=F1) ?_
 refine go ?_;intros
 refine cb (fun w st=>szReceiveWindow_e _ x.window (F1) (n) w (st.get (p:=.isv EReceiveWindow (.agg #[.int .i64 x.window.next,.slice a1 x.window.slots.length c1]) x.window (F1)) (by exact memE)) (by omega) (by omega)) ?_
 rcases szr_or (n) (wtReceiveWindow x.window) with ⟨e1,l1⟩|⟨e1,l1⟩
 ·rw [e1]
  refine go ?_;intros
  refine ret () trivial ?_
  first|rfl|(rw [szr_no (by omega)];rfl)
 rw [e1]
 clear e1
 refine go ?_;intros
 refine c_if rfl (fun h=>absurd h (by omega)) (fun _=>?_)
 refine go ?_;intros
 refine cb (fun w st=>szRequestS_c _ x.requests F2 (n - ((wtReceiveWindow x.window:Nat):Int)) w (st.get (p:=.sl ERequest (.slice a2 x.requests.length c2) x.requests F2) (by exact memE)).2 (by omega) (by omega)) ?_
 rcases szr_or (n - ((wtReceiveWindow x.window:Nat):Int)) (wtL (fun _=>0) x.requests) with ⟨e1,l1⟩|⟨e1,l1⟩
 ·rw [e1]
  refine go ?_;intros
  refine ret () trivial ?_
  first|rfl|(rw [szr_no (by omega)];rfl)
 rw [e1]
 clear e1
 refine go ?_;intros
 refine c_if rfl (fun h=>absurd h (by omega)) (fun _=>?_)
 refine go ?_;intros
 refine ret () trivial ?_
 first|rfl|(rw [szr_yes (by omega)];exact congrArg (Value.int .i64) (by omega))
theorem szReceiverS_e (v:Value) (xs:List Receiver) (F:List Nat) (n:Int) (w:World) (h:Sl EReceiver w v xs F) (h0:0≤n) (h1:n≤1048576):Calls Tryz.prog 32 #[v,.int .i64 n] w fun e w'=>e=.returned (.int .i64 (szr n (wtL wtReceiver xs)))∧Below w.heap.size w w':=by
 refine valT_of (A:=[.sl EReceiver v xs F]) ?_ rfl (hol1 ⟨by decide,h⟩)
 clear h w
 have hfn:=Tryz.func32;have hnt:=Tryz.ntmps32
 have hsz:=szReceiver_e
 obtain ⟨wf,hwf⟩:∃f,f=wtReceiver:=⟨_,rfl⟩
 rw [←hwf] at hsz ⊢
 exact bySzS
theorem szPacketSS_e (v:Value) (xs:List (List Packet)) (F:List Nat) (n:Int) (w:World) (h:Sl (ESl EPacket (by decide)) w v xs F) (h0:0≤n) (h1:n≤1048576):Calls Tryz.prog 33 #[v,.int .i64 n] w fun e w'=>e=.returned (.int .i64 (szr n (wtL (wtL wtPacket) xs)))∧Below w.heap.size w w':=by
 refine valT_of (A:=[.sl (ESl EPacket (by decide)) v xs F]) ?_ rfl (hol1 ⟨by decide,h⟩)
 clear h w
 have hfn:=Tryz.func33;have hnt:=Tryz.ntmps33
 obtain ⟨wf,hwf⟩:∃f,f=(wtL wtPacket):=⟨_,rfl⟩
 rw [←hwf]
 refine enter hfn rfl hnt fun w0=>?_
 refine t_sl (xs:=xs) ?_
 rintro a c rfl hc1 hc2
 refine go ?_;intros
 refine c_if rfl (fun h2=>?_) (fun h2=>?_)
 ·refine go ?_;intros
  refine ret () trivial ?_
  rw [szr_no (by have:=wtL_le wf xs 0;omega)];rfl
 refine go ?_;intros
 rw [show n - (xs.length:Int)=n - xs.length - ((psum wf xs 0:Nat):Int) by rw [psum_zero];omega]
 refine c_loopR [0] (fun k:Nat=>[(1,.int .i64 (n - xs.length - ((psum wf xs k:Nat):Int))),(5,.int .i64 (k:Nat))]) (fun k=>k≤xs.length∧((psum wf xs k:Nat):Int)+xs.length≤n) (fun k=>xs.length - k) 0 ⟨Nat.zero_le _,by rw [psum_zero];omega⟩ fun k hk0=>?_
 obtain ⟨hk0,hle⟩:=hk0
 refine go ?_;intros
 refine c_if rfl (fun h3=>?_) (fun h3=>?_)
 ·have hk:k < xs.length:=by omega
  have hps:=psum_snoc wf xs k hk
  have hpl:=wtL_le wf xs (k+1)
  refine at_ESl (E:=EPacket) (hz:=by decide) (xs:=xs) k ?_
  rintro hi b o a1 c1 F1 rfl l1
  refine go ?_;intros
  refine cb (fun w st=>szPacketS_e _ xs[k] F1 (n - xs.length - ((psum wf xs k:Nat):Int)) w (st.get (p:=.sl EPacket (.slice a1 xs[k].length c1) xs[k] F1) (by exact memE)).2 (by omega) (by omega)) ?_
  rw [←hwf]
  rcases szr_or (n - xs.length - ((psum wf xs k:Nat):Int)) (wf xs[k]) with ⟨e1,l1⟩|⟨e1,l1⟩
  ·rw [e1]
   refine go ?_;intros
   refine ret () trivial ?_
   rw [szr_no (by omega)];rfl
  ·rw [e1]
   refine go ?_;intros
   refine c_if rfl (fun h=>absurd h (by omega)) (fun _=>?_)
   refine go ?_;intros
   rw [show n - xs.length - ((psum wf xs k:Nat):Int) - (wf xs[k]:Int)=n - xs.length - ((psum wf xs (k+1):Nat):Int) by omega]
   refine n_lp (k+1) ⟨hk,by omega⟩ (by show xs.length - (k+1) < xs.length - k;omega)
 ·obtain rfl:k=xs.length:=by omega
  refine go ?_;intros
  refine ret () trivial ?_
  rw [szr_yes (by rw [wtL_eq];omega),wtL_eq,show n - (xs.length:Int) - ((psum wf xs xs.length:Nat):Int)=n - ((xs.length+psum wf xs xs.length:Nat):Int) by omega];rfl
theorem szNet_e (v:Value) (x:Net) (F:List Nat) (n:Int) (w:World) (h:IsV ENet w v x F) (h0:0≤n) (h1:n≤1048576):Calls Tryz.prog 7 #[v,.int .i64 n] w fun e w'=>e=.returned (.int .i64 (szr n (wtNet x)))∧Below w.heap.size w w':=by
 refine valT_of (A:=[.isv ENet v x F]) ?_ rfl (hol1 h)
 clear h w
 unfold wtNet
 refine enter Tryz.func7 rfl Tryz.ntmps7 fun w0=>?_
 refine openNet ?_
 rintro a1 c1 F1 a2 c2 F2 a3 c3 F3 a4 c4 F4 a5 c5 F5 a6 c6 F6 a7 c7 F7 rfl - - - - - - -
 refine closeTree x.tree (a1:=a1) (F1:=F1) ?_
 refine closeSource x.source (a1:=a2) (F1:=F2) (a2:=a3) (F2:=F3) ?_
 refine go ?_;intros
 refine cb (fun w st=>szTree_e _ x.tree (F1) (n) w (st.get (p:=.isv ETree (.agg #[.slice a1 x.tree.parent.length c1]) x.tree (F1)) (by exact memE)) (by omega) (by omega)) ?_
 rcases szr_or (n) (wtTree x.tree) with ⟨e1,l1⟩|⟨e1,l1⟩
 ·rw [e1]
  refine go ?_;intros
  refine ret () trivial ?_
  first|rfl|(rw [szr_no (by omega)];rfl)
 rw [e1]
 clear e1
 refine go ?_;intros
 refine c_if rfl (fun h=>absurd h (by omega)) (fun _=>?_)
 refine go ?_;intros
 refine cb (fun w st=>szSource_e _ x.source (F2++F3) (n - ((wtTree x.tree:Nat):Int)) w (st.get (p:=.isv ESource (.agg #[.int .i64 x.source.window.trail,.int .i64 x.source.window.size,.slice a2 x.source.window.items.length c2,.int .i64 x.source.clock,.int .i64 x.source.quiet,.slice a3 x.source.holds.length c3]) x.source (F2++F3)) (by exact memE)) (by omega) (by omega)) ?_
 rcases szr_or (n - ((wtTree x.tree:Nat):Int)) (wtSource x.source) with ⟨e1,l1⟩|⟨e1,l1⟩
 ·rw [e1]
  refine go ?_;intros
  refine ret () trivial ?_
  first|rfl|(rw [szr_no (by omega)];rfl)
 rw [e1]
 clear e1
 refine go ?_;intros
 refine c_if rfl (fun h=>absurd h (by omega)) (fun _=>?_)
 refine go ?_;intros
 refine cb (fun w st=>szElementS_e _ x.elements F4 (n - ((wtTree x.tree:Nat):Int) - ((wtSource x.source:Nat):Int)) w (st.get (p:=.sl EElement (.slice a4 x.elements.length c4) x.elements F4) (by exact memE)).2 (by omega) (by omega)) ?_
 rcases szr_or (n - ((wtTree x.tree:Nat):Int) - ((wtSource x.source:Nat):Int)) (wtL wtElement x.elements) with ⟨e1,l1⟩|⟨e1,l1⟩
 ·rw [e1]
  refine go ?_;intros
  refine ret () trivial ?_
  first|rfl|(rw [szr_no (by omega)];rfl)
 rw [e1]
 clear e1
 refine go ?_;intros
 refine c_if rfl (fun h=>absurd h (by omega)) (fun _=>?_)
 refine go ?_;intros
 refine cb (fun w st=>szReceiverS_e _ x.receivers F5 (n - ((wtTree x.tree:Nat):Int) - ((wtSource x.source:Nat):Int) - ((wtL wtElement x.elements:Nat):Int)) w (st.get (p:=.sl EReceiver (.slice a5 x.receivers.length c5) x.receivers F5) (by exact memE)).2 (by omega) (by omega)) ?_
 rcases szr_or (n - ((wtTree x.tree:Nat):Int) - ((wtSource x.source:Nat):Int) - ((wtL wtElement x.elements:Nat):Int)) (wtL wtReceiver x.receivers) with ⟨e1,l1⟩|⟨e1,l1⟩
 ·rw [e1]
  refine go ?_;intros
  refine ret () trivial ?_
  first|rfl|(rw [szr_no (by omega)];rfl)
 rw [e1]
 clear e1
 refine go ?_;intros
 refine c_if rfl (fun h=>absurd h (by omega)) (fun _=>?_)
 refine go ?_;intros
 refine cb (fun w st=>szPacketSS_e _ x.down F6 (n - ((wtTree x.tree:Nat):Int) - ((wtSource x.source:Nat):Int) - ((wtL wtElement x.elements:Nat):Int) - ((wtL wtReceiver x.receivers:Nat):Int)) w (st.get (p:=.sl (ESl EPacket (by decide)) (.slice a6 x.down.length c6) x.down F6) (by exact memE)).2 (by omega) (by omega)) ?_
 rcases szr_or (n - ((wtTree x.tree:Nat):Int) - ((wtSource x.source:Nat):Int) - ((wtL wtElement x.elements:Nat):Int) - ((wtL wtReceiver x.receivers:Nat):Int)) (wtL (wtL wtPacket) x.down) with ⟨e1,l1⟩|⟨e1,l1⟩
 ·rw [e1]
  refine go ?_;intros
  refine ret () trivial ?_
  first|rfl|(rw [szr_no (by omega)];rfl)
 rw [e1]
 clear e1
 refine go ?_;intros
 refine c_if rfl (fun h=>absurd h (by omega)) (fun _=>?_)
 refine go ?_;intros
 refine cb (fun w st=>szPacketSS_e _ x.up F7 (n - ((wtTree x.tree:Nat):Int) - ((wtSource x.source:Nat):Int) - ((wtL wtElement x.elements:Nat):Int) - ((wtL wtReceiver x.receivers:Nat):Int) - ((wtL (wtL wtPacket) x.down:Nat):Int)) w (st.get (p:=.sl (ESl EPacket (by decide)) (.slice a7 x.up.length c7) x.up F7) (by exact memE)).2 (by omega) (by omega)) ?_
 rcases szr_or (n - ((wtTree x.tree:Nat):Int) - ((wtSource x.source:Nat):Int) - ((wtL wtElement x.elements:Nat):Int) - ((wtL wtReceiver x.receivers:Nat):Int) - ((wtL (wtL wtPacket) x.down:Nat):Int)) (wtL (wtL wtPacket) x.up) with ⟨e1,l1⟩|⟨e1,l1⟩
 ·rw [e1]
  refine go ?_;intros
  refine ret () trivial ?_
  first|rfl|(rw [szr_no (by omega)];rfl)
 rw [e1]
 clear e1
 refine go ?_;intros
 refine c_if rfl (fun h=>absurd h (by omega)) (fun _=>?_)
 refine go ?_;intros
 refine ret () trivial ?_
 first|rfl|(rw [szr_yes (by omega)];exact congrArg (Value.int .i64) (by omega))
structure JFinishNet where
 g0:Nat
 L0:List Value
 F0:List Nat
 u1:Value
 F1:List Nat
theorem law_FinishNet_f (v0:Value) (x0:Net) (F0:List Nat) (x1:Int) (FT:List Nat):Fn Tryz.prog 5 [v0,.int .i64 x1] [.isv ENet v0 x0 F0,EnvP FT] [] (fun (_:Unit)=>True) (fun _=>.bool true) (fun _=>[]):=by
 refine enter Tryz.func5 rfl Tryz.ntmps5 fun w0=>?_
 refine t_aggI (E:=ENet) (v:=v0) (x:=x0) (F:=F0) one_ENet ?_
 rintro ca0 rfl hla0 hoa0
 have hI:=fun V0 F0=>FinishNet_f x0 x1 V0 F0 FT
 have hS:=fun V0 F0=>specFinishNet_f x0 x1 V0 F0 FT
 have hV:=resFinishNet_cv x0 x1
 obtain ⟨r0,r1,r2,er⟩:∃r0 r1 r2,resFinishNet x0 x1=(r0,r1,r2):=⟨_,_,_,rfl⟩
 rw [er] at hI hS hV
 dsimp only at hI hS hV
 refine goL ?_;intros
 refine cb (fun w st=>ex1 (fun F h=>szNet_e _ x0 F (1048576) w h (by omega) (by omega)) st.rI) ?_
 rcases szr_or (1048576) (wtNet x0) with ⟨e1,l1⟩|⟨e1,l1⟩
 ·rw [e1]
  refine goL ?_;intros
  refine ret () trivial rfl
 rw [e1]
 clear e1
 have hw0:wtNet x0≤1048576:=by omega
 have hc0:=cvNet_wt x0 hw0
 obtain ⟨hV0,hV1⟩:=hV hw0
 refine goL ?_;intros
 refine cv (fun w st=>ex1 (fun F h=>toNet_e _ x0 F w h hw0) st.rI) fun y0 K0=>?_
 refine t_weakV weak_Net fun K0=>?_
 refine goL ?_;intros
 refine cf (hS _ _) fun z hz=>?_
 refine t_app ?_
 refine openNet ?_
 rintro b1 d1 G1 b2 d2 G2 b3 d3 G3 b4 d4 G4 b5 d5 G5 b6 d6 G6 b7 d7 G7 ez - - - - - - -
 rw [ez]
 refine t_weakL (Weak.refl _) (xs:=r1) fun Z1=>?_
 refine goL ?_;intros
 refine cv (fun w st=>ex1 (fun F h=>toNet_e _ x0 F w h hw0) st.rI) fun yv0 KX0=>?_
 refine t_aggO (E:=ONet) (x:=x0) (F:=KX0) one_ONet ?_
 rintro cx0 rfl hlx0 hox0
 refine goL ?_;intros
 refine cm (fun w st=>ex1 (fun F h=>(hI _ F).made w (hol2 h (st.get (p:=EnvP FT) (by exact memE))) (fun _=>rfl)) (st.rO weak_Net)) fun z hz=>?_
 refine t_app ?_
 refine openONet ?_
 rintro b1 d1 G1 b2 d2 G2 b3 d3 G3 b4 d4 G4 b5 d5 G5 b6 d6 G6 b7 d7 G7 ez - - - - - - -
 rw [ez]
 refine closeONet r0 ?_
 refine goL ?_;intros
 refine cb (fun w st=>ex2 (fun Fa Fb ha hb=>eqNet_e _ _ r0 Fa Fb w ha hb) (st.rO weak_Net) st.rI) ?_
 refine goL ?_;intros
 refine cb (fun w st=>ex2 (fun Fa Fb ha hb=>eqStringS_c _ _ r1 Fa Fb w ha hb) (st.rL ((Weak.refl _))) st.rS) ?_
 refine goL ?_;intros
 refine d_startA [] ?_
 refine dt 0 ?_ (hy:=(by first|exact ydE|exact yd_ldw rfl (by exact memE) (by assumption)))
 refine dt 1 ?_ (hy:=(by first|exact ydE|exact yd_ldw rfl (by exact memE) (by assumption)))
 refine dN 2 ?_
 refine oC ?_
 refine cv (fun w st=>ex1 (fun F h=>toNet_e _ x0 F w h hw0) st.rI) fun y0 K0=>?_
 refine t_weakV weak_Net fun K0=>?_
 refine dk ?_
 refine dN 3 ?_
 refine oC ?_
 refine cb (fun w st=>ex2 (fun Fa Fb ha hb=>eqNet_e _ _ x0 Fa Fb w ha hb) (st.rO weak_Net) st.rI) ?_
 refine dk ?_
 refine dt 4 ?_
 refine dd ?_
 refine goL ?_;intros
 refine cf (markNet_f _ x0 _ (1) (by omega) (by omega)) fun _ _=>?_
 refine t_app ?_
 refine goL ?_;intros
 refine cb (fun w st=>ex2 (fun Fa Fb ha hb=>eqNet_e _ _ r0 Fa Fb w ha hb) (st.rO weak_Net) st.rI) ?_
 refine goL ?_;intros
 refine cb (fun w st=>ex2 (fun Fa Fb ha hb=>eqStringS_c _ _ r1 Fa Fb w ha hb) (st.rL ((Weak.refl _))) st.rS) ?_
 refine goL ?_;intros
 refine cf (markNet_f _ r0 _ (1) (by omega) (by omega)) fun _ _=>?_
 refine t_app ?_
 refine goL ?_;intros
 refine cf (fn_markL (fun w h hn=>markStringS_c _ r1 _ (1+cvNet r0) w h hn (by omega) (by omega))) fun _ _=>?_
 refine t_app ?_
 refine goL ?_;intros
 refine cb (fun w st=>ex1 (fun F h=>heldNet_c _ r0 F (1) w h (by omega) (by omega)) (st.rO weak_Net)) ?_
 refine goL ?_;intros
 refine cb (fun w st=>ex1 (fun F h=>heldStringS_c _ r1 F (1+cvNet r0) w h (by omega) (by omega)) (st.rL ((Weak.refl _)))) ?_
 refine goL ?_;intros
 refine cv (fun w st=>ex1 (fun F h=>toNet_e _ x0 F w h hw0) st.rI) fun y0 K0=>?_
 refine t_weakV weak_Net fun K0=>?_
 refine goL ?_;intros
 refine cm (fun w st=>ex1 (fun F h=>(hI _ F).made w (hol2 h (st.get (p:=EnvP FT) (by exact memE))) (fun _=>rfl)) (st.rI)) fun z hz=>?_
 refine t_app ?_
 refine openONet ?_
 rintro b1 d1 G1 b2 d2 G2 b3 d3 G3 b4 d4 G4 b5 d5 G5 b6 d6 G6 b7 d7 G7 ez - - - - - - -
 rw [ez]
 refine closeONet r0 ?_
 refine goL ?_;intros
 refine cb (fun w st=>ex2 (fun Fa Fb ha hb=>eqNet_e _ _ r0 Fa Fb w ha hb) (st.rO weak_Net) st.rI) ?_
 refine goL ?_;intros
 refine cb (fun w st=>ex2 (fun Fa Fb ha hb=>eqStringS_c _ _ r1 Fa Fb w ha hb) (st.rL ((Weak.refl _))) st.rS) ?_
 refine goL ?_;intros
 refine cb (fun w st=>ex1 (fun F h=>heldNet_c _ r0 F (1) w h (by omega) (by omega)) (st.rO weak_Net)) ?_
 refine goL ?_;intros
 refine cb (fun w st=>ex1 (fun F h=>heldStringS_c _ r1 F (1+cvNet r0) w h (by omega) (by omega)) (st.rL ((Weak.refl _)))) ?_
 refine goL ?_;intros
 refine ret () trivial rfl
theorem law_FinishNet (v0:Value) (x0:Net) (F0:List Nat) (x1:Int) (FT:List Nat) (w:World) (h0:IsV ENet w v0 x0 F0) (hT:(EnvP FT).P w) :
  Calls Tryz.prog 5 #[v0,.int .i64 x1] w fun e' w'=>e'=.returned (.bool true)∧Below w.heap.size w w':=(law_FinishNet_f v0 x0 F0 x1 FT).val w (fun p hp=>by
   simp only [List.mem_cons,List.not_mem_nil,or_false] at hp
   rcases hp with rfl|rfl
   ·exact h0
   ·exact hT)
theorem env_FinishNet {W:World} (h:laidMetH Tryz.prog Rows.fnExactFinishNetRow.laid W):(EnvP [2]).P W:=by
 rw [MakeChecks.laidMetH_plain _ _ _ (by kernel_rfl)] at h
 have h3:=h.tail.tail
 have e:(Rows.laid_internal_strconv_uint64pow10:DataW Unit)=Lib.tabData .u64 Lib.pow10Tab:=by kernel_rfl
 rw [e] at h3
 have ht:Lib.TabIs Tryz.prog W "internal/strconv.uint64pow10" .u64 Lib.pow10Tab:=Lib.tabIs_of_head (g:=2) (t:=370) (e:=354) (n:=20) (by kernel_rfl) (by kernel_rfl) Tryz.underlying370 Tryz.underlying354 (by kernel_rfl) (by kernel_rfl) h3
 have hc:=Lib.TabIs.cell ht (g:=2) (by kernel_rfl) 0 (by rw [Lib.pow10Tab_length];omega)
 refine ⟨[],rfl,rfl,ht,rfl,fun b hb=>?_⟩
 simp only [List.mem_cons,List.not_mem_nil,or_false] at hb
 subst hb
 exact World.block_lt_of_cell? W ⟨2,0,none⟩ hc
end Go.Proofs.YtgmbfohkpfineaaGreatDoor
namespace Go.Proofs.YtgmbfohkpfineaaGreatDoor
open Go.RowKit Go.ChangeShapes Go.WideShapes Go.ChangeAt
theorem reads_Tree:Reads Tryz.prog ETree 24:=fun hh=>by
 obtain ⟨y,F,hy⟩:=reads_struct (E:=(EProd (ESl EInt (by decide)) EUnit)) Tryz.underlying24 (by kernel_rfl) (.cons rfl (by kernel_rfl) (reads_slice Tryz.underlying22 (by kernel_rfl) (by decide) (reads_int Tryz.underlying3)) (.nil _)) hh
 obtain ⟨_,_,_,_,rfl,rfl,⟨u0,rfl,hs0⟩,⟨rfl,rfl⟩⟩:=hy
 exact ⟨⟨y.1⟩,_,u0,rfl,by simpa using hs0⟩
theorem reads_SendWindow:Reads Tryz.prog ESendWindow 27:=fun hh=>by
 obtain ⟨y,F,hy⟩:=reads_struct (E:=(EProd EInt (EProd EInt (EProd (ESl EStr (by decide)) EUnit)))) Tryz.underlying27 (by kernel_rfl) (.cons rfl (by kernel_rfl) (reads_int Tryz.underlying3) (.cons rfl (by kernel_rfl) (reads_int Tryz.underlying3) (.cons rfl (by kernel_rfl) (reads_slice Tryz.underlying25 (by kernel_rfl) (by decide) (reads_str Tryz.underlying9)) (.nil _)))) hh
 obtain ⟨_,_,_,_,rfl,rfl,⟨rfl,rfl⟩,⟨_,_,_,_,rfl,rfl,⟨rfl,rfl⟩,⟨_,_,_,_,rfl,rfl,⟨u2,rfl,hs2⟩,⟨rfl,rfl⟩⟩⟩⟩:=hy
 exact ⟨⟨y.1,y.2.1,y.2.2.1⟩,_,u2,rfl,by simpa using hs2⟩
theorem reads_Hold:Reads Tryz.prog EHold 217:=fun hh=>by
 obtain ⟨y,F,hy⟩:=reads_struct (E:=(EProd EInt (EProd EInt EUnit))) Tryz.underlying217 (by kernel_rfl) (.cons rfl (by kernel_rfl) (reads_int Tryz.underlying3) (.cons rfl (by kernel_rfl) (reads_int Tryz.underlying3) (.nil _))) hh
 obtain ⟨_,_,_,_,rfl,rfl,⟨rfl,rfl⟩,⟨_,_,_,_,rfl,rfl,⟨rfl,rfl⟩,⟨rfl,rfl⟩⟩⟩:=hy
 exact ⟨⟨y.1,y.2.1⟩,[],rfl,rfl⟩
theorem reads_Source:Reads Tryz.prog ESource 30:=fun hh=>by
 obtain ⟨y,F,hy⟩:=reads_struct (E:=(EProd ESendWindow (EProd EInt (EProd EInt (EProd (ESl EHold (by decide)) EUnit))))) Tryz.underlying30 (by kernel_rfl) (.cons rfl (by kernel_rfl) reads_SendWindow (.cons rfl (by kernel_rfl) (reads_int Tryz.underlying3) (.cons rfl (by kernel_rfl) (reads_int Tryz.underlying3) (.cons rfl (by kernel_rfl) (reads_slice Tryz.underlying28 (by kernel_rfl) (by decide) reads_Hold) (.nil _))))) hh
 obtain ⟨_,_,_,_,rfl,rfl,⟨u0_0,rfl,hs0_0⟩,⟨_,_,_,_,rfl,rfl,⟨rfl,rfl⟩,⟨_,_,_,_,rfl,rfl,⟨rfl,rfl⟩,⟨_,_,_,_,rfl,rfl,⟨u3,rfl,hs3⟩,⟨rfl,rfl⟩⟩⟩⟩⟩:=hy
 exact ⟨⟨y.1,y.2.1,y.2.2.1,y.2.2.2.1⟩,_,u0_0,u3,_,_,rfl,hs0_0,hs3,rfl⟩
theorem reads_Entry:Reads Tryz.prog EEntry 263:=fun hh=>by
 obtain ⟨y,F,hy⟩:=reads_struct (E:=(EProd EInt (EProd (ESl EInt (by decide)) (EProd EInt EUnit)))) Tryz.underlying263 (by kernel_rfl) (.cons rfl (by kernel_rfl) (reads_int Tryz.underlying3) (.cons rfl (by kernel_rfl) (reads_slice Tryz.underlying22 (by kernel_rfl) (by decide) (reads_int Tryz.underlying3)) (.cons rfl (by kernel_rfl) (reads_int Tryz.underlying3) (.nil _)))) hh
 obtain ⟨_,_,_,_,rfl,rfl,⟨rfl,rfl⟩,⟨_,_,_,_,rfl,rfl,⟨u1,rfl,hs1⟩,⟨_,_,_,_,rfl,rfl,⟨rfl,rfl⟩,⟨rfl,rfl⟩⟩⟩⟩:=hy
 exact ⟨⟨y.1,y.2.1,y.2.2.1⟩,_,u1,rfl,by simpa using hs1⟩
theorem reads_Element:Reads Tryz.prog EElement 112:=fun hh=>by
 obtain ⟨y,F,hy⟩:=reads_struct (E:=(EProd EInt (EProd (ESl EEntry (by decide)) EUnit))) Tryz.underlying112 (by kernel_rfl) (.cons rfl (by kernel_rfl) (reads_int Tryz.underlying3) (.cons rfl (by kernel_rfl) (reads_slice Tryz.underlying110 (by kernel_rfl) (by decide) reads_Entry) (.nil _))) hh
 obtain ⟨_,_,_,_,rfl,rfl,⟨rfl,rfl⟩,⟨_,_,_,_,rfl,rfl,⟨u1,rfl,hs1⟩,⟨rfl,rfl⟩⟩⟩:=hy
 exact ⟨⟨y.1,y.2.1⟩,_,u1,rfl,by simpa using hs1⟩
theorem reads_Slot:Reads Tryz.prog ESlot 314:=fun hh=>by
 obtain ⟨y,F,hy⟩:=reads_struct (E:=(EProd EBool (EProd EStr EUnit))) Tryz.underlying314 (by kernel_rfl) (.cons rfl (by kernel_rfl) (reads_bool Tryz.underlying4) (.cons rfl (by kernel_rfl) (reads_str Tryz.underlying9) (.nil _))) hh
 obtain ⟨_,_,_,_,rfl,rfl,⟨rfl,rfl⟩,⟨_,_,_,_,rfl,rfl,⟨rfl,s1,rfl⟩,⟨rfl,rfl⟩⟩⟩:=hy
 exact ⟨⟨y.1,y.2.1⟩,[],rfl,s1,rfl⟩
theorem reads_ReceiveWindow:Reads Tryz.prog EReceiveWindow 116:=fun hh=>by
 obtain ⟨y,F,hy⟩:=reads_struct (E:=(EProd EInt (EProd (ESl ESlot (by decide)) EUnit))) Tryz.underlying116 (by kernel_rfl) (.cons rfl (by kernel_rfl) (reads_int Tryz.underlying3) (.cons rfl (by kernel_rfl) (reads_slice Tryz.underlying114 (by kernel_rfl) (by decide) reads_Slot) (.nil _))) hh
 obtain ⟨_,_,_,_,rfl,rfl,⟨rfl,rfl⟩,⟨_,_,_,_,rfl,rfl,⟨u1,rfl,hs1⟩,⟨rfl,rfl⟩⟩⟩:=hy
 exact ⟨⟨y.1,y.2.1⟩,_,u1,rfl,by simpa using hs1⟩
theorem reads_Request:Reads Tryz.prog ERequest 283:=fun hh=>by
 obtain ⟨y,F,hy⟩:=reads_struct (E:=(EProd EInt (EProd EInt (EProd EInt (EProd EInt EUnit))))) Tryz.underlying283 (by kernel_rfl) (.cons rfl (by kernel_rfl) (reads_int Tryz.underlying3) (.cons rfl (by kernel_rfl) (reads_int Tryz.underlying3) (.cons rfl (by kernel_rfl) (reads_int Tryz.underlying3) (.cons rfl (by kernel_rfl) (reads_int Tryz.underlying3) (.nil _))))) hh
 obtain ⟨_,_,_,_,rfl,rfl,⟨rfl,rfl⟩,⟨_,_,_,_,rfl,rfl,⟨rfl,rfl⟩,⟨_,_,_,_,rfl,rfl,⟨rfl,rfl⟩,⟨_,_,_,_,rfl,rfl,⟨rfl,rfl⟩,⟨rfl,rfl⟩⟩⟩⟩⟩:=hy
 exact ⟨⟨y.1,y.2.1,y.2.2.1,y.2.2.2.1⟩,[],rfl,rfl⟩
theorem reads_Receiver:Reads Tryz.prog EReceiver 119:=fun hh=>by
 obtain ⟨y,F,hy⟩:=reads_struct (E:=(EProd EBool (EProd EInt (EProd EReceiveWindow (EProd (ESl ERequest (by decide)) EUnit))))) Tryz.underlying119 (by kernel_rfl) (.cons rfl (by kernel_rfl) (reads_bool Tryz.underlying4) (.cons rfl (by kernel_rfl) (reads_int Tryz.underlying3) (.cons rfl (by kernel_rfl) reads_ReceiveWindow (.cons rfl (by kernel_rfl) (reads_slice Tryz.underlying117 (by kernel_rfl) (by decide) reads_Request) (.nil _))))) hh
 obtain ⟨_,_,_,_,rfl,rfl,⟨rfl,rfl⟩,⟨_,_,_,_,rfl,rfl,⟨rfl,rfl⟩,⟨_,_,_,_,rfl,rfl,⟨u2_0,rfl,hs2_0⟩,⟨_,_,_,_,rfl,rfl,⟨u3,rfl,hs3⟩,⟨rfl,rfl⟩⟩⟩⟩⟩:=hy
 exact ⟨⟨y.1,y.2.1,y.2.2.1,y.2.2.2.1⟩,_,u2_0,u3,_,_,rfl,hs2_0,hs3,rfl⟩
theorem reads_Packet:Reads Tryz.prog EPacket 191:=fun hh=>by
 obtain ⟨y,F,hy⟩:=reads_struct (E:=(EProd EInt (EProd EInt (EProd EInt (EProd EInt (EProd EStr EUnit)))))) Tryz.underlying191 (by kernel_rfl) (.cons rfl (by kernel_rfl) (reads_int Tryz.underlying3) (.cons rfl (by kernel_rfl) (reads_int Tryz.underlying3) (.cons rfl (by kernel_rfl) (reads_int Tryz.underlying3) (.cons rfl (by kernel_rfl) (reads_int Tryz.underlying3) (.cons rfl (by kernel_rfl) (reads_str Tryz.underlying9) (.nil _)))))) hh
 obtain ⟨_,_,_,_,rfl,rfl,⟨rfl,rfl⟩,⟨_,_,_,_,rfl,rfl,⟨rfl,rfl⟩,⟨_,_,_,_,rfl,rfl,⟨rfl,rfl⟩,⟨_,_,_,_,rfl,rfl,⟨rfl,rfl⟩,⟨_,_,_,_,rfl,rfl,⟨rfl,s4,rfl⟩,⟨rfl,rfl⟩⟩⟩⟩⟩⟩:=hy
 exact ⟨⟨y.1,y.2.1,y.2.2.1,y.2.2.2.1,y.2.2.2.2.1⟩,[],rfl,s4,rfl⟩
theorem reads_Net:Reads Tryz.prog ENet 35:=fun hh=>by
 obtain ⟨y,F,hy⟩:=reads_struct (E:=(EProd ETree (EProd ESource (EProd (ESl EElement (by decide)) (EProd (ESl EReceiver (by decide)) (EProd (ESl (ESl EPacket (by decide)) (by decide)) (EProd (ESl (ESl EPacket (by decide)) (by decide)) EUnit))))))) Tryz.underlying35 (by kernel_rfl) (.cons rfl (by kernel_rfl) reads_Tree (.cons rfl (by kernel_rfl) reads_Source (.cons rfl (by kernel_rfl) (reads_slice Tryz.underlying31 (by kernel_rfl) (by decide) reads_Element) (.cons rfl (by kernel_rfl) (reads_slice Tryz.underlying32 (by kernel_rfl) (by decide) reads_Receiver) (.cons rfl (by kernel_rfl) (reads_slice Tryz.underlying33 (by kernel_rfl) (by decide) (reads_slice Tryz.underlying121 (by kernel_rfl) (by decide) reads_Packet)) (.cons rfl (by kernel_rfl) (reads_slice Tryz.underlying33 (by kernel_rfl) (by decide) (reads_slice Tryz.underlying121 (by kernel_rfl) (by decide) reads_Packet)) (.nil _))))))) hh
 obtain ⟨_,_,_,_,rfl,rfl,⟨u0_0,rfl,hs0_0⟩,⟨_,_,_,_,rfl,rfl,⟨u1_0,u1_1,G1_0,G1_1,rfl,hs1_0,hs1_1,rfl⟩,⟨_,_,_,_,rfl,rfl,⟨u2,rfl,hs2⟩,⟨_,_,_,_,rfl,rfl,⟨u3,rfl,hs3⟩,⟨_,_,_,_,rfl,rfl,⟨u4,rfl,hs4⟩,⟨_,_,_,_,rfl,rfl,⟨u5,rfl,hs5⟩,⟨rfl,rfl⟩⟩⟩⟩⟩⟩⟩:=hy
 exact ⟨⟨y.1,y.2.1,y.2.2.1,y.2.2.2.1,y.2.2.2.2.1,y.2.2.2.2.2.1⟩,_,u0_0,u1_0,u1_1,u2,u3,u4,u5,_,_,_,_,_,_,_,rfl,hs0_0,hs1_0,hs1_1,hs2,hs3,hs4,hs5,rfl⟩
theorem lifted_FinishNet (os:Os) (started:os.Started) (H:Type) (enc:TypeId × Value→H) :
  ReturnsInHanded {} Tryz.checked os 5 .any (fun w args=>(Rows.fnExactFinishNetSpec.pre enc Tryz.prog Tryz.f5 Rows.fnExactFinishNetRow.domain false w args∧laidMetH Tryz.prog Rows.fnExactFinishNetRow.laid w)∧sizedMet enc Tryz.prog Tryz.f5 (OpenSpec.ofChange Rows.fnExactFinishNetSpec) false w args)
   (Rows.fnExactFinishNetSpec.post enc Tryz.prog Tryz.f5 false true false false):=by
 refine returnsInHanded_of_change_and (C:=Tryz.checked) (X:=fun w _=>laidMetH Tryz.prog Rows.fnExactFinishNetRow.laid w) (fun _ _ _ hh h=>h.of_heap hh) (by kernel_rfl) started (by kernel_rfl) Tryz.func5
  (ChangeSpec.witness_shaped (enc:=enc) (C:=Tryz.checked) (os:=os) (X:=fun w _=>laidMetH Tryz.prog Rows.fnExactFinishNetRow.laid w) false (World.laidAll Tryz.prog os Rows.fnExactFinishNetRow.laid) #[.agg #[.slice none 0 0,.int .i64 0,.int .i64 0,.slice none 0 0,.int .i64 0,.int .i64 0,.slice none 0 0,.slice none 0 0,.slice none 0 0,.slice none 0 0,.slice none 0 0],.int .i64 0] 8 (World.laidAll_os _ _ _)
   (World.shaped_of_ZipB (by kernel_rfl) (by kernel_rfl)) (by kernel_rfl) (by kernel_rfl) (by kernel_rfl)
   (by rw [MakeChecks.laidMetH_plain _ _ _ (by kernel_rfl)];exact laidMet_laidAll _ (by kernel_rfl) (by kernel_rfl))) ?_
 intro W base args ds gs before hval0 hW hc_ _ hL _
 have hval:∀(j:Nat) t v,Tryz.f5.params[j]?=some t→args[j]?=some v→Value.okWide Tryz.prog W .any base t v:=hval0
 have hW':=hW
 obtain ⟨p,q,hA0,hV,rfl,hfz,hnd⟩:=hW
 have hA:DataW.TrodAll enc Tryz.prog W 0 (fun _=>true) true Tryz.f5.params.toList args.toList ds p:=hA0
 rw [Tryz.params5] at hA hval
 obtain ⟨v0,v1,d0,d1,p0,p1,rfl,rfl,rfl,h0,h1⟩:=trodAll_two hA
 obtain ⟨cs0,rfl,hsz0⟩:=okWide_struct Tryz.underlying35 (hval 0 35 v0 rfl rfl)
 obtain ⟨fuel0,hf0⟩:=h0
 obtain ⟨x0,F0,hx0⟩:=reads_Net hf0
 obtain ⟨c1,rfl⟩:=okWide_int Tryz.underlying3 (hval 1 3 v1 rfl rfl)
 refine (law_FinishNet _ x0 F0 c1 _ W ⟨cs0.toList,by simp,by simpa [Value.cells] using hx0⟩ (env_FinishNet hL)).mono fun e W' ⟨he,hB⟩=>⟨_,he,law_post (tb:=4) (by kernel_rfl) ?_ Tryz.underlying4 (by kernel_rfl) rfl rfl hW' hB⟩
 rw [Tryz.params5]
 intro t ht
 simp only [List.mem_cons,List.not_mem_nil,or_false] at ht
 rcases ht with rfl|rfl <;> exact ⟨by kernel_rfl,of_decide_eq_true (by kernel_rfl)⟩
end Go.Proofs.YtgmbfohkpfineaaGreatDoor
