/- Part 7 of the proof: 22 texts, one behind the other. -/
import Derived.ProofKit
import Derived.OpenShut
import Derived.Test.YtgmbfohkpfineaaGreatDoorRows
import Derived.MakeChecks
import Derived.Stop.LaidErr
import Derived.Test.YtgmbfohkpfineaaGreatDoorCards
import Derived.Test.YtgmbfohkpfineaaGreatDoorTie
import Derived.LaidMore
import Derived.Lay
import Derived.SevenTiedAt
import Derived.Stop.Joined
import Derived.Test.YtgmbfohkpfineaaGreatDoorM6
set_option maxRecDepth 100000
set_option maxHeartbeats 8000000
set_option linter.all false
set_option linter.unusedVariables false
set_option linter.unusedSimpArgs false
namespace Go.Proofs.YtgmbfohkpfineaaGreatDoor
open Go.RowKit
structure RjS where
 g:Nat
 a:Option Addr
 c:Nat
 a2:Option Addr
 c2:Nat
 F:List Nat
structure CpS3 where
 a:Option Addr
 c:Nat
 F:List Nat
theorem l11Hold_f (x:Source) (n:Int) (v:Value) (F:List Nat) (t0:0≤x.window.trail) (t1:x.window.trail≤65535) (hm:x.holds.length≤1000) (hn:wideH x.holds) (n0:-1≤n) (n1:n≤65536) :
  Fn Tryz.prog 232 [v,.int .i64 n] [.isv ESource v x F] [] (fun (_:Unit)=>True) (fun _=>.tuple #[.int .i64 (holdAt x.window.trail x.holds n:Nat),.bool (thereB x.window.trail x.holds n)]) (fun _=>[]):=by
 refine enter Tryz.func232 rfl Tryz.ntmps232 fun w0=>?_
 refine openSource ?_
 rintro a1 c1 F1 a2 c2 F2 rfl l1 l2
 refine go ?_;intros
 refine c_loopR [1,2,4,5] (fun k:Nat=>[(6,.int .i64 (k:Nat))]) (fun k=>k≤x.holds.length∧∀j (_:j < k) (h:j < x.holds.length),gp x.window.trail x.holds[j].number < gp x.window.trail n) (fun k=>x.holds.length - k) 0 ⟨Nat.zero_le _,fun j h=>by omega⟩ fun k hk=>?_
 obtain ⟨hk1,hk2⟩:=hk
 by_cases hlt:k < x.holds.length
 ·obtain ⟨m0,m1⟩:=hn x.holds[k] (List.getElem_mem hlt)
  refine atHold (xs:=x.holds) k ?_
  rintro hi b o e
  rw [e]
  refine go ?_;intros
  refine d_start [0,1] [] ?_
  refine dt4 0 1 2 3 ?_
  refine dt 4 ?_
  rw [decide_eq_true (show (k:Int) < x.holds.length by omega)]
  refine dt 5 ?_
  refine dtg 6 ?_
  refine dtg 7 ?_
  refine dtg 8 ?_
  refine dtg 9 ?_
  refine dtg 10 ?_
  refine dtg 11 ?_
  refine dtg 12 ?_
  refine dtg 13 ?_
  refine dtg 14 ?_
  refine dtg 16 ?_
  refine dtg 17 ?_
  refine dtg 18 ?_
  refine dtg 19 ?_
  refine d1g 15 ?_
  apply On.h
  refine oC ?_
  refine ce (fun w s=>l2Gap_c _ _ _ (by omega) (by omega)) ?_
  refine dk ?_
  refine d1g 20 ?_
  apply On.h
  refine oC ?_
  refine ce (fun w s=>l2Gap_c _ _ _ (by omega) (by omega)) ?_
  refine dk ?_
  refine dtg 21 ?_
  refine dt 22 ?_
  refine dd ?_
  refine go ?_;intros
  refine c_if rfl (fun h=>?_) (fun h=>?_)
  ·refine go ?_;intros
   refine n_lp (k+1) ⟨hlt,fun j hj hh=>?_⟩ (by omega)
   rcases Nat.lt_or_eq_of_le (Nat.lt_succ_iff.1 hj) with h2|rfl
   ·exact hk2 j h2 hh
   ·exact h
  ·have hh:holdAt x.window.trail x.holds n=k:=tw_len hk1 (fun j hj h=>decide_eq_true (hk2 j hj h)) (fun _=>decide_eq_false h)
   have ht:thereB x.window.trail x.holds n=decide (x.holds[k].number=n):=by unfold thereB;rw [hh,List.getElem?_eq_getElem hlt]
   rw [ht,hh]
   refine go ?_;intros
   refine d_start [0,1] [] ?_
   refine dt4 0 1 2 3 ?_
   refine dt2 4 5 ?_
   rw [decide_eq_true (show (k:Int) < x.holds.length by omega)]
   refine dt 6 ?_
   refine dtg 7 ?_
   refine dtg 8 ?_
   refine dtg 9 ?_
   refine dtg 10 ?_
   refine dtg 11 ?_
   refine dtg 12 ?_
   refine dtg 13 ?_
   refine dtg 14 ?_
   refine dt2 15 16 ?_
   refine dt 17 ?_
   refine dd ?_
   refine go ?_;intros
   refine ret () trivial rfl
 ·have hh:holdAt x.window.trail x.holds n=k:=tw_len hk1 (fun j hj h=>decide_eq_true (hk2 j hj h)) (fun h=>absurd h hlt)
  have ht:thereB x.window.trail x.holds n=false:=by unfold thereB;rw [hh,List.getElem?_eq_none (by omega)]
  rw [ht,hh]
  refine go ?_;intros
  refine d_start [0] [] ?_
  refine dt4 0 1 2 3 ?_
  refine dt 4 ?_
  rw [decide_eq_false (show ¬(k:Int) < x.holds.length by omega)]
  refine dt 5 ?_
  refine ds 6 ?_
  refine ds 7 ?_
  refine ds 8 ?_
  refine ds 9 ?_
  refine ds 10 ?_
  refine ds 11 ?_
  refine ds 12 ?_
  refine ds 13 ?_
  refine ds 14 ?_
  refine ds 15 ?_
  refine ds 16 ?_
  refine ds 17 ?_
  refine ds 18 ?_
  refine ds 19 ?_
  refine ds 20 ?_
  refine ds 21 ?_
  refine dt 22 ?_
  refine dd ?_
  refine go ?_;intros
  refine d_start [0] [] ?_
  refine dt4 0 1 2 3 ?_
  refine dt2 4 5 ?_
  rw [decide_eq_false (show ¬(k:Int) < x.holds.length by omega)]
  refine dt 6 ?_
  refine ds 7 ?_
  refine ds 8 ?_
  refine ds 9 ?_
  refine ds 10 ?_
  refine ds 11 ?_
  refine ds 12 ?_
  refine ds 13 ?_
  refine ds 14 ?_
  refine dt2 15 16 ?_
  refine dt 17 ?_
  refine dd ?_
  refine go ?_;intros
  refine ret () trivial rfl
theorem l11RequestU_f (x:Source) (p:Packet) (v:Value) (F:List Nat) (t0:0≤x.window.trail) (t1:x.window.trail≤65535) (hl:x.window.items.length≤6) (k0:0≤x.clock) (k1:x.clock≤99999) (hm:x.holds.length≤900) (hn:wideH x.holds) (n0:-1≤p.number) (n1:p.number≤65536) (hps:p.data.size≤maxLen) (hans:(resAnswer x.window p).1.data.size≤maxLen) :
  Fn Tryz.prog 164 [v,.agg #[.int .i64 p.kind,.int .i64 p.number,.int .i64 p.trail,.int .i64 p.lead,.string p.data]] [.isv ESource v x F] [] (fun (_:TiS)=>True) (fun s=>.tuple #[.agg #[.int .i64 (reqSU x p.number).window.trail,.int .i64 (reqSU x p.number).window.size,.slice s.a (reqSU x p.number).window.items.length s.c,.int .i64 (reqSU x p.number).clock,.int .i64 (reqSU x p.number).quiet,.slice s.a2 (reqSU x p.number).holds.length s.c2],.slice s.ae (reqP x p).length s.ce])
   (fun s=>[.isv ESource (.agg #[.int .i64 (reqSU x p.number).window.trail,.int .i64 (reqSU x p.number).window.size,.slice s.a (reqSU x p.number).window.items.length s.c,.int .i64 (reqSU x p.number).clock,.int .i64 (reqSU x p.number).quiet,.slice s.a2 (reqSU x p.number).holds.length s.c2]) (reqSU x p.number) s.F,.ow EPacket 127 (.slice s.ae (reqP x p).length s.ce) (reqP x p) s.Fe]):=by
 refine enter Tryz.func164 rfl Tryz.ntmps164 fun w0=>?_
 refine openSource ?_
 rintro a1 c1 F1 a2 c2 F2 rfl l1 l2
 refine closeSendWindow x.window (a1:=a1) ?_
 generalize F1=F3
 refine go ?_;intros
 refine c_joinS [2,3,4,5] [0,1,2,3,4,5,6] (fun s:RjS=>[(6,ptr s.g 0 0)]) (fun s=>[.row s.g 44 0 [] [.int .i64 x.window.trail,.int .i64 x.window.size,.slice s.a x.window.items.length s.c,.int .i64 x.clock,.int .i64 x.quiet,.slice s.a2 (keepU x.window x.clock x.holds).length s.c2] [],.isv ESource (.agg #[.int .i64 x.window.trail,.int .i64 x.window.size,.slice s.a x.window.items.length s.c,.int .i64 x.clock,.int .i64 x.quiet,.slice s.a2 (keepU x.window x.clock x.holds).length s.c2]) (withU x x.window) s.F]) (fun _=>True) ?_ fun s _=>?_
 ·refine goN ?_;intros
  refine d_start [1,2] [] ?_
  refine dt2 0 1 ?_
  refine dt 2 ?_
  refine dM 3 5 ?_ ?_
  ·refine oC ?_
   refine cf (l9Drop0_f x.window _ F3 t0 t1 (by omega)) fun y _=>?_
   refine t_app ?_
   refine openOSendWindow ?_
   rintro a5 c5 F5 e5 l5
   rw [e5]
   refine t_read (xs:=x.window.items) fun F8=>?_
   refine closeSendWindow x.window (a1:=a5) ?_
   refine dk ?_
   refine dM 4 5 ?_ ?_
   ·refine oC ?_
    refine cf (l11WithU_f x x.window _ _ F _ t0 t1 (by omega) hn) fun z _=>?_
    refine t_app ?_
    refine dk ?_
    refine dN 5 ?_
    apply o_alloc;rfl;intro _
    refine dk ?_
    refine dN 6 ?_
    refine oS ?_
    refine dk ?_
    refine dd ?_
    refine go ?_;intros
    refine n_join (⟨_,z.a,z.c,z.a2,z.c2,z.F⟩:RjS) trivial
   ·apply o_alloc;rfl;intro _
    refine dk ?_
    refine dN 4 ?_
    refine oC ?_
    refine cf (l11WithU_f x x.window _ _ F _ t0 t1 (by omega) hn) fun z _=>?_
    refine t_app ?_
    refine dk ?_
    refine dN 6 ?_
    refine oS ?_
    refine dk ?_
    refine dd ?_
    refine go ?_;intros
    refine n_join (⟨_,z.a,z.c,z.a2,z.c2,z.F⟩:RjS) trivial
  ·apply o_alloc;rfl;intro _
   refine dk ?_
   refine dN 3 ?_
   refine oC ?_
   refine cf (l9Drop0_f x.window _ F3 t0 t1 (by omega)) fun y _=>?_
   refine t_app ?_
   refine openOSendWindow ?_
   rintro a5 c5 F5 e5 l5
   rw [e5]
   refine t_read (xs:=x.window.items) fun F8=>?_
   refine closeSendWindow x.window (a1:=a5) ?_
   refine dk ?_
   refine dN 4 ?_
   refine oC ?_
   refine cf (l11WithU_f x x.window _ _ F _ t0 t1 (by omega) hn) fun z _=>?_
   refine t_app ?_
   refine dk ?_
   refine dN 6 ?_
   refine oS ?_
   refine dk ?_
   refine dd ?_
   refine go ?_;intros
   refine n_join (⟨_,z.a,z.c,z.a2,z.c2,z.F⟩:RjS) trivial
 refine go ?_;intros
 refine cb (fun w st=>(l9HeldW_f x.window p.number _ F3 t0 t1 n0 n1).val w (hol1 (st.get (p:=.isv ESendWindow (.agg #[.int .i64 x.window.trail,.int .i64 x.window.size,.slice a1 x.window.items.length c1]) x.window F3) (by simp)))) ?_
 cases hb:heldB x.window p.number
 ·have e1:reqSU x p.number=withU x x.window:=by unfold reqSU;rw [hb];rfl
  have e2:reqP x p=[statP x.window]:=by unfold reqP;rw [hb];rfl
  rw [e1,e2]
  refine go ?_;intros
  refine d_start [0,4] [] ?_
  refine dt2 0 1 ?_
  refine dt 2 ?_
  refine dN 3 ?_
  refine oC ?_
  refine cf (l9Status_f x.window.trail x.window.size _ x.window.items.length _ t0 t1 (by omega)) fun _ _=>?_
  refine t_app ?_
  refine dk ?_
  refine dM 4 5 ?_ ?_
  ·apply o_bs;rfl;rfl;rfl;rfl;exact rptE;exact filE;intro _
   refine dk ?_
   refine dN 5 ?_
   refine oS ?_
   refine dk ?_
   refine dt 6 ?_
   refine dd ?_
   refine go ?_;intros
   refine t_row (xs:=[statP x.window]) (flatPacket _ (by show (⟨#[]⟩:ByteArray).size≤maxLen;decide)) ?_ (by simp)
   refine ret ⟨s.a,s.c,s.a2,s.c2,s.F,_,_,_⟩ trivial rfl
  ·refine oS ?_
   refine dk ?_
   refine dN 4 ?_
   apply o_bs;rfl;rfl;rfl;rfl;exact rptE;exact filE;intro _
   refine dk ?_
   refine dt 6 ?_
   refine dd ?_
   refine go ?_;intros
   refine t_row (xs:=[statP x.window]) (flatPacket _ (by show (⟨#[]⟩:ByteArray).size≤maxLen;decide)) ?_ (by simp)
   refine ret ⟨s.a,s.c,s.a2,s.c2,s.F,_,_,_⟩ trivial rfl
 refine go ?_;intros
 refine d_start [3,4] [] ?_
 refine dt4 0 1 2 3 ?_
 refine dt2 4 5 ?_
 refine dt 6 ?_
 refine dN 7 ?_
 refine oC ?_
 refine cb (fun w _=>l9Lead_c _ _ _ _ _ w t0 t1 (by omega)) ?_
 refine dk ?_
 refine dt 8 ?_
 refine dN 9 ?_
 apply o_bs;rfl;rfl;rfl;rfl;exact rptE;exact filE;intro _
 refine dk ?_
 refine dt 10 ?_
 refine dd ?_
 refine goN ?_;intros
 refine t_row (xs:=[confP x.window p.number]) (flatPacket _ (by show (⟨#[]⟩:ByteArray).size≤maxLen;decide)) ?_ (by simp)
 refine go ?_;intros
 refine cf (l11Hold_f x p.number _ F t0 t1 (by omega) hn n0 n1) fun _ _=>?_
 refine t_app ?_
 cases ht:thereB x.window.trail x.holds p.number
 ·have e1:reqSU x p.number=⟨x.window,x.clock,x.quiet,(addHold x.holds (holdAt x.window.trail x.holds p.number) ⟨p.number,x.clock+3⟩)⟩:=by unfold reqSU;rw [hb,ht];rfl
  have e2:reqP x p=[confP x.window p.number]++[(resAnswer x.window p).1]:=by unfold reqP;rw [hb,ht];rfl
  rw [e1,e2]
  have hkk:=holdAt_le x.window.trail x.holds p.number
  refine t_sl (E:=EHold) (xs:=x.holds) ?_
  rintro _ _ e8 q1 q2
  cases e8
  refine go ?_;intros
  refine cb (fun w st=>(specAnswerTo_f x.window p _ F3 hps).val w (hol1 (st.get (p:=.isv ESendWindow (.agg #[.int .i64 x.window.trail,.int .i64 x.window.size,.slice a1 x.window.items.length c1]) x.window F3) (by simp)))) ?_
  refine go ?_;intros
  refine t_rtake (E:=EHold) (xs:=x.holds) (holdAt x.window.trail x.holds p.number) (fun FT=>?_) hkk
  obtain ⟨T1,hT1⟩:∃T1,T1=x.holds.take (holdAt x.window.trail x.holds p.number):=⟨_,rfl⟩
  have hT1l:T1.length=holdAt x.window.trail x.holds p.number:=by rw [hT1,List.length_take];omega
  rw [←hT1]
  have hAdd:T1++[⟨p.number,x.clock+3⟩]++x.holds.drop (holdAt x.window.trail x.holds p.number)=(addHold x.holds (holdAt x.window.trail x.holds p.number) ⟨p.number,x.clock+3⟩):=by rw [hT1];unfold addHold;simp
  refine c_joinS [4,5,6,7,10] [0,1,2,3,5,6,7,8,9,10,11,12] (fun _:CpS3=>[]) (fun z=>[.row s.g 44 0 [] [.int .i64 x.window.trail,.int .i64 x.window.size,.slice s.a x.window.items.length s.c,.int .i64 x.clock,.int .i64 x.quiet,.slice z.a (addHold x.holds (holdAt x.window.trail x.holds p.number) ⟨p.number,x.clock+3⟩).length z.c] [],.ow EHold 194 (.slice z.a (addHold x.holds (holdAt x.window.trail x.holds p.number) ⟨p.number,x.clock+3⟩).length z.c) (addHold x.holds (holdAt x.window.trail x.holds p.number) ⟨p.number,x.clock+3⟩) z.F]) (fun _=>True) ?_ fun z _=>?_
  ·refine goN ?_;intros
   refine d_start [1,8] [] ?_
   refine dt2 1 2 ?_
   refine dt 3 ?_
   refine dt 4 ?_ (hy:=yd_slt (i:=T1.length) rfl rfl (by rw [hT1l]) (by omega) (by omega))
   refine dt4 6 9 10 11 ?_
   refine dsld 12 (holdAt x.window.trail x.holds p.number) (fun a6 c6 F6=>?_)
   refine dM 0 7 ?_ ?_
   ·apply o_bs0;rfl;intro _
    refine t_emp EHold ?_
    refine dk ?_
    refine dM 5 7 ?_ ?_
    ·refine aps (ys:=T1) one_EHold scal_EHold fun a7 c7 F7=>?_
     rw [List.nil_append]
     refine dk ?_
     refine dN 7 ?_
     apply o_bs;rfl;rfl;rfl;rfl;exact rptE;exact filE;intro _
     refine dk ?_
     refine dN 8 ?_
     refine ap1 (rep1_Hold ⟨p.number,x.clock+3⟩) one_EHold fun a8 c8 F8=>?_
     refine dk ?_
     refine dN 13 ?_
     refine aps (ys:=x.holds.drop (holdAt x.window.trail x.holds p.number)) one_EHold scal_EHold (h63:=by simp;omega) (hby:=by simp;omega) fun a9 c9 F9=>?_
     refine dk ?_
     refine dt 14 ?_
     refine dN 15 ?_
     refine oS ?_
     refine dk ?_
     refine dd ?_
     refine go ?_;intros
     rw [hAdd]
     refine n_join (⟨a9,c9,F9⟩:CpS3) trivial
    ·apply o_bs;rfl;rfl;rfl;rfl;exact rptE;exact filE;intro _
     refine dk ?_
     refine dN 5 ?_
     refine aps (ys:=T1) one_EHold scal_EHold fun a7 c7 F7=>?_
     rw [List.nil_append]
     refine dk ?_
     refine dN 8 ?_
     refine ap1 (rep1_Hold ⟨p.number,x.clock+3⟩) one_EHold fun a8 c8 F8=>?_
     refine dk ?_
     refine dN 13 ?_
     refine aps (ys:=x.holds.drop (holdAt x.window.trail x.holds p.number)) one_EHold scal_EHold (h63:=by simp;omega) (hby:=by simp;omega) fun a9 c9 F9=>?_
     refine dk ?_
     refine dt 14 ?_
     refine dN 15 ?_
     refine oS ?_
     refine dk ?_
     refine dd ?_
     refine go ?_;intros
     rw [hAdd]
     refine n_join (⟨a9,c9,F9⟩:CpS3) trivial
   ·apply o_bs;rfl;rfl;rfl;rfl;exact rptE;exact filE;intro _
    refine dk ?_
    refine dN 0 ?_
    apply o_bs0;rfl;intro _
    refine t_emp EHold ?_
    refine dk ?_
    refine dN 5 ?_
    refine aps (ys:=T1) one_EHold scal_EHold fun a7 c7 F7=>?_
    rw [List.nil_append]
    refine dk ?_
    refine dN 8 ?_
    refine ap1 (rep1_Hold ⟨p.number,x.clock+3⟩) one_EHold fun a8 c8 F8=>?_
    refine dk ?_
    refine dN 13 ?_
    refine aps (ys:=x.holds.drop (holdAt x.window.trail x.holds p.number)) one_EHold scal_EHold (h63:=by simp;omega) (hby:=by simp;omega) fun a9 c9 F9=>?_
    refine dk ?_
    refine dt 14 ?_
    refine dN 15 ?_
    refine oS ?_
    refine dk ?_
    refine dd ?_
    refine go ?_;intros
    rw [hAdd]
    refine n_join (⟨a9,c9,F9⟩:CpS3) trivial
  refine openSource (x:=withU x x.window) ?_
  rintro b1 d1 G1 b2 d2 G2 e5 m1 m2
  simp only [Value.agg.injEq,Array.mk.injEq,List.cons.injEq,Value.slice.injEq,Value.int.injEq,true_and,and_true] at e5
  obtain ⟨-, -,⟨rfl, -,rfl⟩, -⟩:=e5
  refine t_read (E:=EHold) fun F9=>?_
  refine closeSource ⟨x.window,x.clock,x.quiet,(addHold x.holds (holdAt x.window.trail x.holds p.number) ⟨p.number,x.clock+3⟩)⟩ (a1:=s.a) ?_
  refine go ?_;intros
  refine d_start [4,7] [] ?_
  refine dt2 0 1 ?_
  refine dt 2 ?_
  refine dN 3 ?_
  apply o_bs;rfl;rfl;rfl;rfl;exact rptE;exact filE;intro _
  refine dk ?_
  refine dN 4 ?_
  refine ap1 (flatPacket (resAnswer x.window p).1 hans) one_EPacket fun a9 c9 F9=>?_
  refine dk ?_
  refine dN 5 ?_
  refine oS ?_
  refine dk ?_
  refine dt 6 ?_
  refine dd ?_
  refine go ?_;intros
  refine ret ⟨s.a,s.c,z.a,z.c,_,a9,c9,F9⟩ trivial rfl
 ·have e1:reqSU x p.number=withU x x.window:=by unfold reqSU;rw [hb,ht];rfl
  have e2:reqP x p=[confP x.window p.number]:=by unfold reqP;rw [hb,ht];rfl
  rw [e1,e2]
  refine go ?_;intros
  refine ret ⟨s.a,s.c,s.a2,s.c2,s.F,_,_,_⟩ trivial rfl
theorem l11Request_f (x:Source) (p:Packet) (v:Value) (F:List Nat) (hg:goodSrc x=true) (n0:0≤p.number) (n1:p.number≤65535) (hps:p.data.size≤maxLen) :
  Fn Tryz.prog 164 [v,.agg #[.int .i64 p.kind,.int .i64 p.number,.int .i64 p.trail,.int .i64 p.lead,.string p.data]] [.isv ESource v x F] [] (fun (_:TiS)=>True) (fun s=>.tuple #[.agg #[.int .i64 (reqS x p.number).window.trail,.int .i64 (reqS x p.number).window.size,.slice s.a (reqS x p.number).window.items.length s.c,.int .i64 (reqS x p.number).clock,.int .i64 (reqS x p.number).quiet,.slice s.a2 (reqS x p.number).holds.length s.c2],.slice s.ae (reqP x p).length s.ce])
   (fun s=>[.isv ESource (.agg #[.int .i64 (reqS x p.number).window.trail,.int .i64 (reqS x p.number).window.size,.slice s.a (reqS x p.number).window.items.length s.c,.int .i64 (reqS x p.number).clock,.int .i64 (reqS x p.number).quiet,.slice s.a2 (reqS x p.number).holds.length s.c2]) (reqS x p.number) s.F,.ow EPacket 127 (.slice s.ae (reqP x p).length s.ce) (reqP x p) s.Fe]):=by
 obtain ⟨gw,hl,t0,t1,k0,k1,hm,hn,hu,hb⟩:=goodS_of hg
 have h:=l11RequestU_f x p v F t0 t1 hl k0 (by omega) (by omega) (wide_of hn) (by omega) (by omega) hps (ans_size gw)
 rw [reqSU_eq hg] at h
 exact h
structure JU where
 g:Nat
 b:Option Addr
 d:Nat
 F:List Nat
theorem l15Up_f (n:Net) (i:Nat) (p:Packet) (a1:Option Addr) (c1:Nat) (a4:Option Addr) (c4:Nat) (a5:Option Addr) (c5:Nat) (a6:Option Addr) (c6:Nat) (a7:Option Addr) (c7:Nat) (a2 a3:Option Addr) (c2 c3:Nat) (F1 FS:List Nat) (z:SZ) (hl:lensN n=true) (h0:i≠0) (hi:i < n.tree.parent.length) (h8:GoodT n.tree.parent) (hsrc:goodSrc n.source=true) (he:∀k,k≠0→k < n.tree.parent.length→leafT n.tree.parent (k:Nat)=false→goodElement (elAt n k)=true) (hp:goodPk p=true) (hps:p.data.size≤maxLen) (hd:∀q∈n.down,q.length≤6) (hu:∀q∈n.up,q.length≤6) :
  Fn Tryz.prog 85 [.agg #[.slice a1 n.tree.parent.length c1,.int .i64 n.source.window.trail,.int .i64 n.source.window.size,.slice a2 n.source.window.items.length c2,.int .i64 n.source.clock,.int .i64 n.source.quiet,.slice a3 n.source.holds.length c3,.slice a4 n.tree.parent.length c4,.slice a5 n.tree.parent.length c5,.slice a6 n.tree.parent.length c6,.slice a7 n.tree.parent.length c7],.int .i64 (i:Nat),.agg #[.int .i64 (p).kind,.int .i64 (p).number,.int .i64 (p).trail,.int .i64 (p).lead,.string (p).data]] [.sl EInt (.slice a1 n.tree.parent.length c1) n.tree.parent F1,.isv ESource (.agg #[.int .i64 n.source.window.trail,.int .i64 n.source.window.size,.slice a2 n.source.window.items.length c2,.int .i64 n.source.clock,.int .i64 n.source.quiet,.slice a3 n.source.holds.length c3]) n.source FS,.isv (EA EElement n.tree.parent.length) (.agg z.e.ys.flatten.toArray) n.elements z.e.G,.isv (EA EReceiver n.tree.parent.length) (.agg z.r.ys.flatten.toArray) n.receivers z.r.G,.isv (EA (ESl EPacket (by decide)) n.tree.parent.length) (.agg z.d.ys.flatten.toArray) n.down z.d.G,.isv (EA (ESl EPacket (by decide)) n.tree.parent.length) (.agg z.u.ys.flatten.toArray) n.up z.u.G] [.ow (EC 2) 142 (.slice a4 n.tree.parent.length c4) z.e.ys z.e.F,.ow (EC 5) 149 (.slice a5 n.tree.parent.length c5) z.r.ys z.r.F,.ow (EC 1) 132 (.slice a6 n.tree.parent.length c6) z.d.ys z.d.F,.ow (EC 1) 132 (.slice a7 n.tree.parent.length c7) z.u.ys z.u.F] (fun (_:SZ × SrcS)=>True) (fun y=>.agg #[.int .i64 ((upN n i p).source).window.trail,.int .i64 ((upN n i p).source).window.size,.slice y.2.a ((upN n i p).source).window.items.length y.2.c,.int .i64 ((upN n i p).source).clock,.int .i64 ((upN n i p).source).quiet,.slice y.2.a2 ((upN n i p).source).holds.length y.2.c2]) (fun y=>[.ow (EC 2) 142 (.slice a4 n.tree.parent.length c4) y.1.e.ys y.1.e.F,.ow (EC 5) 149 (.slice a5 n.tree.parent.length c5) y.1.r.ys y.1.r.F,.ow (EC 1) 132 (.slice a6 n.tree.parent.length c6) y.1.d.ys y.1.d.F,.ow (EC 1) 132 (.slice a7 n.tree.parent.length c7) y.1.u.ys y.1.u.F,.isv (EA EElement n.tree.parent.length) (.agg y.1.e.ys.flatten.toArray) (upN n i p).elements y.1.e.G,.isv (EA EReceiver n.tree.parent.length) (.agg y.1.r.ys.flatten.toArray) (upN n i p).receivers y.1.r.G,.isv (EA (ESl EPacket (by decide)) n.tree.parent.length) (.agg y.1.d.ys.flatten.toArray) (upN n i p).down y.1.d.G,.isv (EA (ESl EPacket (by decide)) n.tree.parent.length) (.agg y.1.u.ys.flatten.toArray) (upN n i p).up y.1.u.G,.isv ESource (.agg #[.int .i64 ((upN n i p).source).window.trail,.int .i64 ((upN n i p).source).window.size,.slice y.2.a ((upN n i p).source).window.items.length y.2.c,.int .i64 ((upN n i p).source).clock,.int .i64 ((upN n i p).source).quiet,.slice y.2.a2 ((upN n i p).source).holds.length y.2.c2]) (upN n i p).source y.2.F]):=by
 obtain ⟨q1,q2,q3,q4⟩:=lensN_iff.1 hl
 have hn8:=h8.n1
 obtain ⟨n0,n1⟩:=goodPk_num hp
 have hone:∀x∈[((i:Nat):Int)],0≤x∧x.toNat < n.down.length:=fun x hx=>by
  rw [List.mem_singleton] at hx;subst hx;omega
 obtain ⟨k,hk⟩:∃k,parN n i=k:=⟨_,rfl⟩
 obtain ⟨e1,e2,e3⟩:=par_get h8 hi h0 hk
 refine enter Tryz.func85 rfl Tryz.ntmps85 fun w0=>?_
 refine at_int (xs:=n.tree.parent) i ?_
 rintro hi2 b o e4
 rw [e4,e1]
 refine go ?_;intros
 refine c_if rfl (fun h5=>?_) (fun h5=>?_)
 ·obtain rfl:k=0:=by omega
  rw [show upN n i p=⟨n.tree,reqS n.source p.number,n.elements,n.receivers,spread n.down [((i:Nat):Int)] (reqP n.source p),n.up⟩ by unfold upN;rw [if_pos hk]]
  refine go ?_;intros
  refine cf (l11Request_f n.source p _ FS hsrc n0 n1 hps) fun u _=>?_
  refine t_app ?_
  refine goN ?_;intros
  refine t_row (E:=EInt) (xs:=[((i:Nat):Int)]) (rep_i _) ?_ (by simp)
  refine t_read (E:=EInt) (xs:=[((i:Nat):Int)]) fun Fo=>?_
  refine t_read (E:=EPacket) (xs:=reqP n.source p) fun Fq=>?_
  refine go ?_;intros
  refine cf (l15Spread_f n.down [((i:Nat):Int)] (reqP n.source p) _ _ _ _ _ _ _ _ _ _ _ _ _ _ _ _ _ _ _ _ _ _ _ _ _ z.d.ys z.d.F z.d.G _ _ Fo _ _ Fq hone hd) fun y _=>?_
  refine t_app ?_
  refine go ?_;intros
  refine ret (⟨⟨z.e,z.r,⟨y.ys,y.F,y.G⟩,z.u⟩,⟨u.a,u.c,u.a2,u.c2,u.F⟩⟩:SZ × SrcS) trivial rfl
 have h6:k≠0:=by omega
 have hkl:k < n.elements.length:=by omega
 have hku:k < n.up.length:=by omega
 have hge:goodElement n.elements[k]=true:=elAt_get hkl▸he k h6 (by omega) e3
 have hel:=(goodE_iff.1 hge).2.1
 obtain ⟨hc0,hc1⟩:=isClk_iff.1 (goodE_iff.1 hge).1
 rw [show upN n i p=⟨n.tree,n.source,n.elements.set k (reqE n.elements[k] p.number ((i:Nat):Int)),n.receivers,spread n.down [((i:Nat):Int)] [cnfP p],if fwdE n.elements[k] p.number then n.up.modify k fun q=>putQ q [p] else n.up⟩ by unfold upN;rw [if_neg (by omega),hk,elAt_get hkl]]
 refine go ?_;intros
 refine sh_len (ys:=z.e.ys) fun hm hlr=>?_
 refine sh_atv (E:=EElement) (ys:=z.e.ys) (xs:=n.elements) k hm (by omega) (by omega) fun h2 h3 v Gi ev=>?_
 refine openElement (v:=v) (x:=n.elements[k]) ?_
 rintro b1 d1 G1 rfl l1
 have e8:z.e.ys[k]=[.int .i64 n.elements[k].clock,.slice b1 n.elements[k].entries.length d1]:=by simpa using ev.symm
 refine focF (E:=EC 2) (xs:=z.e.ys) (m:=2) (scal_EC 2) k ?_ (by repeat (first|exact .here|apply Pick.there)) rfl h2
 rintro _ g A cs B rfl k2 k3 hH
 obtain ⟨k4, -, -⟩:=k3 w0
 rw [e8] at k4
 subst k4
 dsimp only [List.append]
 refine go ?_;intros
 refine c_joinS [1,3,5,6,7] [0,1,2,3,4,5,6,7,8,9,10,11,12,13,14,15] (fun w:JU=>[(10,ptr w.g 0 0),(11,.bool (fwdE n.elements[k] p.number))]) (fun w=>[.row w.g 142 0 [] [.int .i64 (reqE n.elements[k] p.number ((i:Nat):Int)).clock,.slice w.b (reqE n.elements[k] p.number ((i:Nat):Int)).entries.length w.d] [],.isv EElement (.agg #[.int .i64 (reqE n.elements[k] p.number ((i:Nat):Int)).clock,.slice w.b (reqE n.elements[k] p.number ((i:Nat):Int)).entries.length w.d]) (reqE n.elements[k] p.number ((i:Nat):Int)) w.F]) (fun _=>True) ?_ fun w _=>?_
 ·skip
  refine d_start [0,4,5] [] ?_
  refine dt4 0 1 2 3 ?_
  refine dt4 4 5 6 7 ?_
  refine dM 8 12 ?_ ?_
  ·refine oC ?_
   refine cf (l14Request_f n.elements[k] p.number ((i:Nat):Int) _ Gi (by omega) (fun x hx=>by have:=faces_len hge hx;omega) (by omega) (by omega)) fun s _=>?_
   refine t_app ?_
   refine openOElement ?_
   rintro b3 d3 G3 es l3
   rw [es]
   refine closeOElement (reqE n.elements[k] p.number ((i:Nat):Int)) ?_
   refine t_weakI weak_Element fun Fe=>?_
   refine dk ?_
   refine dt2 9 10 ?_
   refine dt 11 ?_
   refine dN 12 ?_
   apply o_alloc;rfl;intro _
   refine dk ?_
   refine dN 13 ?_
   refine oS ?_
   refine dk ?_
   refine dt 14 ?_
   refine dd ?_
   refine n_join (⟨_,b3,d3,Fe⟩:JU) trivial
  ·apply o_alloc;rfl;intro _
   refine dk ?_
   refine dN 8 ?_
   refine oC ?_
   refine cf (l14Request_f n.elements[k] p.number ((i:Nat):Int) _ Gi (by omega) (fun x hx=>by have:=faces_len hge hx;omega) (by omega) (by omega)) fun s _=>?_
   refine t_app ?_
   refine openOElement ?_
   rintro b3 d3 G3 es l3
   rw [es]
   refine closeOElement (reqE n.elements[k] p.number ((i:Nat):Int)) ?_
   refine t_weakI weak_Element fun Fe=>?_
   refine dk ?_
   refine dt2 9 10 ?_
   refine dt 11 ?_
   refine dN 13 ?_
   refine oS ?_
   refine dk ?_
   refine dt 14 ?_
   refine dd ?_
   refine n_join (⟨_,b3,d3,Fe⟩:JU) trivial
 refine goN ?_;intros
 refine unfF (E:=EC 2) (xs:=z.e.ys) [.int .i64 (reqE n.elements[k] p.number ((i:Nat):Int)).clock,.slice w.b (reqE n.elements[k] p.number ((i:Nat):Int)).entries.length w.d] hH (fun _=>⟨rfl,⟨rfl,by simp [Value.oneCell']⟩,rfl⟩) ?_
 refine sh_set (E:=EElement) (ys:=z.e.ys) (xs:=n.elements) (x:=reqE n.elements[k] p.number ((i:Nat):Int)) k rfl hm (by omega) fun G'=>?_
 refine t_row (E:=EInt) (xs:=[((i:Nat):Int)]) (rep_i _) ?_ (by simp)
 refine t_read (E:=EInt) (xs:=[((i:Nat):Int)]) fun Fo=>?_
 refine t_row (E:=EPacket) (xs:=[cnfP p]) (flatPacket (cnfP p) (Nat.zero_le _)) ?_ (by simp)
 refine t_read (E:=EPacket) (xs:=[cnfP p]) fun Fp=>?_
 refine go ?_;intros
 refine cf (l15Spread_f n.down [((i:Nat):Int)] [cnfP p] _ _ _ _ _ _ _ _ _ _ _ _ _ _ _ _ _ _ _ _ _ _ _ _ _ z.d.ys z.d.F z.d.G _ _ Fo _ _ Fp hone hd) fun y _=>?_
 refine t_app ?_
 cases hf:fwdE n.elements[k] p.number
 ·rw [if_neg (by decide)]
  refine go ?_;intros
  refine ret (⟨⟨⟨z.e.ys.set k [.int .i64 (reqE n.elements[k] p.number ((i:Nat):Int)).clock,.slice w.b (reqE n.elements[k] p.number ((i:Nat):Int)).entries.length w.d],[g],G'⟩,z.r,⟨y.ys,y.F,y.G⟩,z.u⟩,⟨a2,c2,a3,c3,FS⟩⟩:SZ × SrcS) trivial rfl
 ·rw [if_pos rfl,modify_set hku]
  have hu6:=hu _ (List.getElem_mem hku)
  refine go ?_;intros
  refine sh_len (ys:=z.u.ys) fun hmu hlu=>?_
  refine sh_at (ys:=z.u.ys) (xs:=n.up) k hmu (by omega) (by omega) fun h9 _ Gu=>?_
  refine isv_sl (x:=n.up[k]) fun a9 c9 e9 l9=>?_
  have e10:z.u.ys[k]=[.slice a9 n.up[k].length c9]:=by simpa using e9
  refine focF (E:=EC 1) (xs:=z.u.ys) (m:=1) (scal_EC 1) k ?_ (by repeat (first|exact .here|apply Pick.there)) rfl h9
  rintro _ gu Au cs Bu rfl j2 j3 hHu
  obtain ⟨j4, -, -⟩:=j3 w0
  rw [e10] at j4
  subst j4
  refine go ?_;intros
  refine d_start [0,14,15] [12] ?_
  refine dt4 0 1 2 3 ?_
  refine dt4 4 5 6 7 ?_
  refine dt 8 ?_
  refine dN 9 ?_
  apply o_bs;rfl;rfl;rfl;rfl;exact rptE;exact filE;intro _
  refine t_row (E:=EPacket) (xs:=[p]) (flatPacket p hps) ?_ (by simp)
  refine t_read (E:=EPacket) (xs:=[p]) fun Fp2=>?_
  refine dk ?_
  refine dN 10 ?_
  refine oC ?_
  refine cf (l15Put_f n.up[k] [p] a9 c9 _ _ _ Fp2 (by omega)) fun r _=>?_
  refine t_app ?_
  refine dk ?_
  refine dt 11 ?_
  refine dN 12 ?_
  refine oS ?_
  refine dkx ?_
  refine dd ?_
  refine unfF (E:=EC 1) (xs:=z.u.ys) [.slice r.a (putQ n.up[k] [p]).length r.c] hHu (fun w=>⟨rfl,⟨rfl,by simp [Value.oneCell']⟩,rfl⟩) ?_
  refine t_read (E:=EPacket) (xs:=putQ n.up[k] [p]) fun Fu=>?_
  refine sl_isv (E:=EPacket) (x:=putQ n.up[k] [p]) (by decide) ?_
  refine sh_set (E:=ESl EPacket (by decide)) (ys:=z.u.ys) (xs:=n.up) (x:=putQ n.up[k] [p]) k rfl hmu (by omega) fun Gv=>?_
  refine go ?_;intros
  refine ret (⟨⟨⟨z.e.ys.set k [.int .i64 (reqE n.elements[k] p.number ((i:Nat):Int)).clock,.slice w.b (reqE n.elements[k] p.number ((i:Nat):Int)).entries.length w.d],[g],G'⟩,z.r,⟨y.ys,y.F,y.G⟩,⟨z.u.ys.set k [.slice r.a (putQ n.up[k] [p]).length r.c],[gu],Gv⟩⟩,⟨a2,c2,a3,c3,FS⟩⟩:SZ × SrcS) trivial rfl
structure TkZ where
 k:Nat
 z:SZ
 a:Option Addr
 c:Nat
 F:List Nat
theorem l15Tick_f (n:Net) (a1:Option Addr) (c1:Nat) (a4:Option Addr) (c4:Nat) (a5:Option Addr) (c5:Nat) (a6:Option Addr) (c6:Nat) (a7:Option Addr) (c7:Nat) (a2 a3:Option Addr) (c2 c3:Nat) (F1 FS FT:List Nat) (z:SZ) (hg:goodNet n=true) (hc:n.source.clock < 9999) :
  Fn Tryz.prog 83 [.agg #[.slice a1 n.tree.parent.length c1,.int .i64 n.source.window.trail,.int .i64 n.source.window.size,.slice a2 n.source.window.items.length c2,.int .i64 n.source.clock,.int .i64 n.source.quiet,.slice a3 n.source.holds.length c3,.slice a4 n.tree.parent.length c4,.slice a5 n.tree.parent.length c5,.slice a6 n.tree.parent.length c6,.slice a7 n.tree.parent.length c7]] [EnvP FT,.sl EInt (.slice a1 n.tree.parent.length c1) n.tree.parent F1,.isv ESource (.agg #[.int .i64 n.source.window.trail,.int .i64 n.source.window.size,.slice a2 n.source.window.items.length c2,.int .i64 n.source.clock,.int .i64 n.source.quiet,.slice a3 n.source.holds.length c3]) n.source FS,.isv (EA EElement n.tree.parent.length) (.agg z.e.ys.flatten.toArray) n.elements z.e.G,.isv (EA EReceiver n.tree.parent.length) (.agg z.r.ys.flatten.toArray) n.receivers z.r.G,.isv (EA (ESl EPacket (by decide)) n.tree.parent.length) (.agg z.d.ys.flatten.toArray) n.down z.d.G,.isv (EA (ESl EPacket (by decide)) n.tree.parent.length) (.agg z.u.ys.flatten.toArray) n.up z.u.G] [.ow (EC 2) 142 (.slice a4 n.tree.parent.length c4) z.e.ys z.e.F,.ow (EC 5) 149 (.slice a5 n.tree.parent.length c5) z.r.ys z.r.F,.ow (EC 1) 132 (.slice a6 n.tree.parent.length c6) z.d.ys z.d.F,.ow (EC 1) 132 (.slice a7 n.tree.parent.length c7) z.u.ys z.u.F] (fun (_:SZ × TiS × KA)=>True) (fun y=>.tuple #[.agg #[.int .i64 ((tickN n).1.source).window.trail,.int .i64 ((tickN n).1.source).window.size,.slice y.2.1.a ((tickN n).1.source).window.items.length y.2.1.c,.int .i64 ((tickN n).1.source).clock,.int .i64 ((tickN n).1.source).quiet,.slice y.2.1.a2 ((tickN n).1.source).holds.length y.2.1.c2],.slice y.2.2.a (tickN n).2.length y.2.2.c]) (fun y=>[.ow (EC 2) 142 (.slice a4 n.tree.parent.length c4) y.1.e.ys y.1.e.F,.ow (EC 5) 149 (.slice a5 n.tree.parent.length c5) y.1.r.ys y.1.r.F,.ow (EC 1) 132 (.slice a6 n.tree.parent.length c6) y.1.d.ys y.1.d.F,.ow (EC 1) 132 (.slice a7 n.tree.parent.length c7) y.1.u.ys y.1.u.F,.isv (EA EElement n.tree.parent.length) (.agg y.1.e.ys.flatten.toArray) (tickN n).1.elements y.1.e.G,.isv (EA EReceiver n.tree.parent.length) (.agg y.1.r.ys.flatten.toArray) (tickN n).1.receivers y.1.r.G,.isv (EA (ESl EPacket (by decide)) n.tree.parent.length) (.agg y.1.d.ys.flatten.toArray) (tickN n).1.down y.1.d.G,.isv (EA (ESl EPacket (by decide)) n.tree.parent.length) (.agg y.1.u.ys.flatten.toArray) (tickN n).1.up y.1.u.G,.isv ESource (.agg #[.int .i64 ((tickN n).1.source).window.trail,.int .i64 ((tickN n).1.source).window.size,.slice y.2.1.a ((tickN n).1.source).window.items.length y.2.1.c,.int .i64 ((tickN n).1.source).clock,.int .i64 ((tickN n).1.source).quiet,.slice y.2.1.a2 ((tickN n).1.source).holds.length y.2.1.c2]) (tickN n).1.source y.2.1.F,.ow EStr 9 (.slice y.2.2.a (tickN n).2.length y.2.2.c) (tickN n).2 y.2.2.F]):=by
 have hG:=goodNet_GN.1 hg
 have h8:=goodT hG.t
 have hn8:=h8.n1
 have hn2:=h8.n0
 obtain ⟨q1,q2,q3,q4⟩:=lensN_iff.1 hG.l
 have hkl:=kids_len n.tree.parent 0
 have hkx:∀x∈kids n.tree.parent 0,0≤x∧x.toNat < n.down.length:=fun x hx=>by have:=kids_behind (i:=0) h8 hx;omega
 have hd:∀q∈n.down,q.length≤6:=fun q hq=>(goodQ_len ((good_els hg).2.2.1 q hq)).1
 refine enter Tryz.func83 rfl Tryz.ntmps83 fun w0=>?_
 refine closeTree n.tree ?_
 refine go ?_;intros
 refine cf (l11Tick_f n.source _ FS hG.s) fun u _=>?_
 refine t_app ?_
 refine t_read (E:=EPacket) (xs:=tickP n.source.window n.source.quiet) fun Fp=>?_
 refine go ?_;intros
 refine d_start [4] [] ?_
 refine dt4 0 1 2 4 ?_
 refine dN 3 ?_
 refine oC ?_
 refine cf (l6Children_f n.tree 0 _ F1 (kids_zero h8.z (Int.le_refl _)) ⟨by omega,by omega⟩) fun v _=>?_
 refine t_app ?_
 refine t_read (E:=EInt) (xs:=kids n.tree.parent 0) fun Fk=>?_
 refine dk ?_
 refine dN 5 ?_
 refine oC ?_
 refine cf (l15Spread_f n.down (kids n.tree.parent 0) (tickP n.source.window n.source.quiet) _ _ _ _ _ _ _ _ _ _ _ _ _ _ _ _ _ _ _ _ _ _ _ _ _ z.d.ys z.d.F z.d.G _ _ Fk _ _ Fp hkx hd) fun y _=>?_
 refine t_app ?_
 refine dk ?_
 refine dd ?_
 rw [show spread n.down (kids n.tree.parent 0) (tickP n.source.window n.source.quiet)=(tickTo n 0).1.down from rfl]
 refine go ?_;intros
 refine t_emp EStr ?_
 refine go ?_;intros
 refine c_loopS [1,2,3,4] (fun s:TkZ=>[(6,.slice s.a (tickTo n s.k).2.length s.c),(7,.int .i64 ((s.k+1:Nat):Int))]) (fun s=>[.ow (EC 2) 142 (.slice a4 n.tree.parent.length c4) s.z.e.ys s.z.e.F,.ow (EC 5) 149 (.slice a5 n.tree.parent.length c5) s.z.r.ys s.z.r.F,.ow (EC 1) 132 (.slice a6 n.tree.parent.length c6) s.z.d.ys s.z.d.F,.ow (EC 1) 132 (.slice a7 n.tree.parent.length c7) s.z.u.ys s.z.u.F,.isv (EA EElement n.tree.parent.length) (.agg s.z.e.ys.flatten.toArray) (tickTo n s.k).1.elements s.z.e.G,.isv (EA EReceiver n.tree.parent.length) (.agg s.z.r.ys.flatten.toArray) (tickTo n s.k).1.receivers s.z.r.G,.isv (EA (ESl EPacket (by decide)) n.tree.parent.length) (.agg s.z.d.ys.flatten.toArray) (tickTo n s.k).1.down s.z.d.G,.isv (EA (ESl EPacket (by decide)) n.tree.parent.length) (.agg s.z.u.ys.flatten.toArray) (tickTo n s.k).1.up s.z.u.G,.ow EStr 9 (.slice s.a (tickTo n s.k).2.length s.c) (tickTo n s.k).2 s.F]) (fun s=>s.k+1≤n.tree.parent.length∧(tickTo n s.k).2.length≤40000 * s.k) (fun s=>n.tree.parent.length - s.k) ⟨0,⟨z.e,z.r,⟨y.ys,y.F,y.G⟩,z.u⟩,_,_,_⟩ ⟨by show 0+1≤_;omega,Nat.le_refl _⟩ fun s hs0=>?_
 obtain ⟨k,⟨⟨ye,Fe,Ge⟩,⟨yr,Fr,Gr⟩,⟨yd,Fd,Gd⟩,⟨yu,Fu,Gu⟩⟩,ea,ec,eF⟩:=s
 obtain ⟨hk,hel⟩:=hs0
 dsimp only at hk hel ⊢
 obtain ⟨hGN,hT,hSrc⟩:=tickTo_good hg hc k (by omega)
 obtain ⟨r1,r2,r3,r4⟩:=lensN_iff.1 hGN.l
 rw [hT] at r1 r2 r3 r4
 refine go ?_;intros
 refine c_if rfl (fun h1=>?_) (fun h1=>?_)
 ·have hj:k+1 < n.tree.parent.length:=by omega
  obtain ⟨i1,i2,i3,i4,hrn⟩:=hGN.rn (i:=k+1) (by rw [hT];exact hj)
  rw [hT] at hrn
  obtain ⟨d0,d1_⟩:=dly_bd (i:=k+1)
  refine go ?_;intros
  refine cf (l15Leaf_f n.tree ((k+1:Nat):Int) _ F1 h8 (by omega)) fun _ _=>?_
  refine t_app ?_
  cases hlf:leafT n.tree.parent ((k+1:Nat):Int)
  ·obtain ⟨hge,hck, -⟩:=hrn.hn (by omega) hlf
   obtain ⟨hgc,hel5, -⟩:=goodE_iff.1 hge
   have hnx:tickTo n (k+1)=(⟨n.tree,tickS n.source,(tickTo n k).1.elements.set (k+1) (tickElement (tickTo n k).1.elements[k+1]),(tickTo n k).1.receivers,(tickTo n k).1.down,(tickTo n k).1.up⟩,(tickTo n k).2++[]):=by
    show ((tick1 (tickTo n k).1 (k+1)).1,(tickTo n k).2++(tick1 (tickTo n k).1 (k+1)).2)=_
    unfold tick1
    rw [hT,hlf,if_neg (by decide),elAt_get i1,hSrc]
   rw [List.append_nil] at hnx
   refine go ?_;intros
   refine sh_len (ys:=ye) fun hm hlr=>?_
   refine sh_atv (E:=EElement) (ys:=ye) (xs:=(tickTo n k).1.elements) (k+1) hm (by omega) (by omega) fun h2 h3 v Gi ev=>?_
   generalize hE:(tickTo n k).1.elements[k+1]=E at *
   refine openElement (v:=v) (x:=E) ?_
   rintro b1 d1 G1 rfl l1
   have e8:ye[k+1]=[.int .i64 E.clock,.slice b1 E.entries.length d1]:=by simpa using ev.symm
   refine focF (E:=EC 2) (xs:=ye) (m:=2) (scal_EC 2) (k+1) ?_ (by repeat (first|exact .here|apply Pick.there)) rfl h2
   rintro _ g A cs B rfl k2 k3 hH
   obtain ⟨k4, -, -⟩:=k3 w0
   rw [e8] at k4
   subst k4
   dsimp only [List.append]
   refine go ?_;intros
   refine d_start [0,16] [10] ?_
   refine dt4 0 1 2 3 ?_
   refine dt4 4 5 6 7 ?_
   refine dN 8 ?_
   refine oC ?_
   refine cr (fun w st=>l14Tick_c _ E Gi w (st.get (p:=.isv EElement (.agg #[.int .i64 E.clock,.slice b1 E.entries.length d1]) E Gi) (by exact memE)) hgc (by omega) (fun x hx=>by have:=faces_len hge hx;omega)) fun v3 FU=>?_
   refine openElement (v:=v3) ?_
   rintro b3 d3 G3 rfl l3
   refine dk ?_
   refine dt 9 ?_
   refine dN 10 ?_
   refine oS ?_
   refine dkx ?_
   refine dd ?_
   refine unfF (E:=EC 2) (xs:=ye) [.int .i64 (tickElement E).clock,.slice b3 (tickElement E).entries.length d3] hH (fun _=>⟨rfl,⟨rfl,by simp [Value.oneCell']⟩,rfl⟩) ?_
   refine sh_set (E:=EElement) (ys:=ye) (xs:=(tickTo n k).1.elements) (x:=tickElement E) (k+1) rfl hm (by omega) fun G'=>?_
   refine go ?_;intros
   refine n_lp ⟨k+1,⟨⟨ye.set (k+1) [.int .i64 (tickElement E).clock,.slice b3 (tickElement E).entries.length d3],[g],G'⟩,⟨yr,Fr,Gr⟩,⟨yd,Fd,Gd⟩,⟨yu,Fu,Gu⟩⟩,ea,ec,eF⟩ ⟨by show k+1+1≤_;omega,by rw [hnx];dsimp only;omega⟩ (by show n.tree.parent.length - (k+1) < n.tree.parent.length - k;omega) (by dsimp only;rw [hnx];exact frE) (by dsimp only;rw [hnx];exact hsE)
  ·obtain ⟨-,hgr0,hck⟩:=hrn.hf (by omega) hlf
   have hgr:=goodR_iff.1 hgr0
   obtain ⟨hsm,hfew⟩:=tickEv_sm hgr
   have hnx:tickTo n (k+1)=(⟨n.tree,tickS n.source,(tickTo n k).1.elements,(tickTo n k).1.receivers.set (k+1) (tickRec (tickTo n k).1.receivers[k+1] (dly (k+1))),(tickTo n k).1.down,(tickTo n k).1.up.set (k+1) (putQ (tickTo n k).1.up[k+1] (tickPk (tickTo n k).1.receivers[k+1]))⟩,(tickTo n k).2++tell (k+1) (tickEv (tickTo n k).1.receivers[k+1])):=by
    show ((tick1 (tickTo n k).1 (k+1)).1,(tickTo n k).2++(tick1 (tickTo n k).1 (k+1)).2)=_
    unfold tick1
    rw [hT,hlf,if_pos rfl,rcAt_get i2,hSrc,modify_set i4]
   have htl:(tell (k+1) (tickEv (tickTo n k).1.receivers[k+1])).length=(tickEv (tickTo n k).1.receivers[k+1]).length:=List.length_map ..
   have hu6:=(goodQ_len hrn.hu).1
   generalize hR:(tickTo n k).1.receivers[k+1]=R at *
   generalize hQ:(tickTo n k).1.up[k+1]=Q at *
   refine go ?_;intros
   refine sh_len (ys:=yr) fun hm hlr=>?_
   refine sh_atv (E:=EReceiver) (ys:=yr) (xs:=(tickTo n k).1.receivers) (k+1) hm (by omega) (by omega) fun h2 h3 v Gi ev=>?_
   rw [hR]
   refine openReceiver (v:=v) (x:=R) ?_
   rintro b1 d1 G1 b2 d2 G2 rfl l1 l2
   have e8:yr[k+1]=[.bool (R).started,.int .i64 (R).clock,.int .i64 (R).window.next,.slice b1 (R).window.slots.length d1,.slice b2 (R).requests.length d2]:=by simpa using ev.symm
   refine focF (E:=EC 5) (xs:=yr) (m:=5) (scal_EC 5) (k+1) ?_ (by repeat (first|exact .here|apply Pick.there)) rfl h2
   rintro _ g A cs B rfl k2 k3 hH
   obtain ⟨k4, -, -⟩:=k3 w0
   rw [e8] at k4
   subst k4
   dsimp only [List.append]
   refine go ?_;intros
   refine c_joinS [1,2,3,4,6,7] [0,1,2,3,4,5,6,7,8,9,10,11,12,13,14,15,16,17,18,19,20,21,22] (fun w:Nat × TkR=>[(8,ptr w.1 0 0),(9,.slice w.2.a3 (tickPk R).length w.2.c3),(10,.slice w.2.a4 (tickEv R).length w.2.c4)]) (fun w=>[.row w.1 149 0 [] [.bool (tickRec R (dly (k+1))).started,.int .i64 (tickRec R (dly (k+1))).clock,.int .i64 (tickRec R (dly (k+1))).window.next,.slice w.2.a1 (tickRec R (dly (k+1))).window.slots.length w.2.c1,.slice w.2.a2 (tickRec R (dly (k+1))).requests.length w.2.c2] [],.isv EReceiver (.agg #[.bool (tickRec R (dly (k+1))).started,.int .i64 (tickRec R (dly (k+1))).clock,.int .i64 (tickRec R (dly (k+1))).window.next,.slice w.2.a1 (tickRec R (dly (k+1))).window.slots.length w.2.c1,.slice w.2.a2 (tickRec R (dly (k+1))).requests.length w.2.c2]) (tickRec R (dly (k+1))) w.2.F1,.ow EPacket 127 (.slice w.2.a3 (tickPk R).length w.2.c3) (tickPk R) w.2.F3,.ow EStr 9 (.slice w.2.a4 (tickEv R).length w.2.c4) (tickEv R) w.2.F4]) (fun _=>True) ?_ fun w _=>?_
   ·skip
    refine d_start [0,17] [] ?_
    refine dt4 0 1 2 3 ?_
    refine dt2 4 5 ?_
    refine dM 6 12 ?_ ?_
    ·refine oC ?_
     refine cf (l15Delay_f (k+1) (by omega)) fun _ _=>?_
     refine t_app ?_
     refine dk ?_
     refine dM 7 12 ?_ ?_
     ·refine oC ?_
      refine cf (l13Tick_f R (dly (k+1)) _ Gi hgr (by omega) (by omega) (by have:=hgr.k1;omega)) fun s _=>?_
      refine t_app ?_
      refine dk ?_
      refine dt4 8 9 10 11 ?_
      refine dN 12 ?_
      apply o_alloc;rfl;intro _
      refine dk ?_
      refine dN 13 ?_
      refine oS ?_
      refine dk ?_
      refine dt2 14 15 ?_
      refine dd ?_
      refine n_join (⟨_,s⟩:Nat × TkR) trivial
     ·apply o_alloc;rfl;intro _
      refine dk ?_
      refine dN 7 ?_
      refine oC ?_
      refine cf (l13Tick_f R (dly (k+1)) _ Gi hgr (by omega) (by omega) (by have:=hgr.k1;omega)) fun s _=>?_
      refine t_app ?_
      refine dk ?_
      refine dt4 8 9 10 11 ?_
      refine dN 13 ?_
      refine oS ?_
      refine dk ?_
      refine dt2 14 15 ?_
      refine dd ?_
      refine n_join (⟨_,s⟩:Nat × TkR) trivial
    ·apply o_alloc;rfl;intro _
     refine dk ?_
     refine dN 6 ?_
     refine oC ?_
     refine cf (l15Delay_f (k+1) (by omega)) fun _ _=>?_
     refine t_app ?_
     refine dk ?_
     refine dN 7 ?_
     refine oC ?_
     refine cf (l13Tick_f R (dly (k+1)) _ Gi hgr (by omega) (by omega) (by have:=hgr.k1;omega)) fun s _=>?_
     refine t_app ?_
     refine dk ?_
     refine dt4 8 9 10 11 ?_
     refine dN 13 ?_
     refine oS ?_
     refine dk ?_
     refine dt2 14 15 ?_
     refine dd ?_
     refine n_join (⟨_,s⟩:Nat × TkR) trivial
   obtain ⟨gr,s⟩:=w
   dsimp only
   refine goN ?_;intros
   refine unfF (E:=EC 5) (xs:=yr) [.bool (tickRec R (dly (k+1))).started,.int .i64 (tickRec R (dly (k+1))).clock,.int .i64 (tickRec R (dly (k+1))).window.next,.slice s.a1 (tickRec R (dly (k+1))).window.slots.length s.c1,.slice s.a2 (tickRec R (dly (k+1))).requests.length s.c2] hH (fun _=>⟨rfl,⟨rfl,by simp [Value.oneCell']⟩,rfl⟩) ?_
   refine sh_set (E:=EReceiver) (ys:=yr) (xs:=(tickTo n k).1.receivers) (x:=tickRec R (dly (k+1))) (k+1) rfl hm (by omega) fun G'=>?_
   refine t_read (E:=EPacket) (xs:=tickPk R) fun Fp9=>?_
   refine sh_len (ys:=yu) fun hmu hlu=>?_
   refine sh_at (ys:=yu) (xs:=(tickTo n k).1.up) (k+1) hmu (by omega) (by omega) fun h9 _ Gq=>?_
   rw [hQ]
   refine isv_sl (x:=Q) fun a9 c9 e9 l9=>?_
   have e10:yu[k+1]=[.slice a9 Q.length c9]:=by simpa using e9
   refine focF (E:=EC 1) (xs:=yu) (m:=1) (scal_EC 1) (k+1) ?_ (by repeat (first|exact .here|apply Pick.there)) rfl h9
   rintro _ gu Au cs Bu rfl j2 j3 hHu
   obtain ⟨j4, -, -⟩:=j3 w0
   rw [e10] at j4
   subst j4
   refine go ?_;intros
   refine d_start [0,24] [11] ?_
   refine dt4 0 1 2 3 ?_
   refine dt4 4 5 6 7 ?_
   refine dt 8 ?_
   refine dN 9 ?_
   refine oC ?_
   refine cf (l15Put_f Q (tickPk R) a9 c9 _ _ _ Fp9 (by omega)) fun r _=>?_
   refine t_app ?_
   refine dk ?_
   refine dt 10 ?_
   refine dN 11 ?_
   refine oS ?_
   refine dkx ?_
   refine dd ?_
   refine unfF (E:=EC 1) (xs:=yu) [.slice r.a (putQ Q (tickPk R)).length r.c] hHu (fun _=>⟨rfl,⟨rfl,by simp [Value.oneCell']⟩,rfl⟩) ?_
   refine t_read (E:=EPacket) (xs:=putQ Q (tickPk R)) fun Fu=>?_
   refine sl_isv (E:=EPacket) (x:=putQ Q (tickPk R)) (by decide) ?_
   refine sh_set (E:=ESl EPacket (by decide)) (ys:=yu) (xs:=(tickTo n k).1.up) (x:=putQ Q (tickPk R)) (k+1) rfl hmu (by omega) fun Gv=>?_
   refine t_read (E:=EStr) (xs:=tickEv R) fun F7=>?_
   refine go ?_;intros
   refine cf (l15Tell_f (k+1) (tickEv R) _ _ F7 FT (by omega) (by omega) hsm) fun u9 _=>?_
   refine t_app ?_
   refine t_read (E:=EStr) (xs:=tell (k+1) (tickEv R)) fun F8=>?_
   apply wO
   refine aps (E:=EStr) (xs:=(tickTo n k).2) (ys:=tell (k+1) (tickEv R)) one_EStr scal_EStr fun ax cx Fx=>?_
   refine go ?_;intros
   refine n_lp ⟨k+1,⟨⟨ye,Fe,Ge⟩,⟨yr.set (k+1) [.bool (tickRec R (dly (k+1))).started,.int .i64 (tickRec R (dly (k+1))).clock,.int .i64 (tickRec R (dly (k+1))).window.next,.slice s.a1 (tickRec R (dly (k+1))).window.slots.length s.c1,.slice s.a2 (tickRec R (dly (k+1))).requests.length s.c2],[g],G'⟩,⟨yd,Fd,Gd⟩,⟨yu.set (k+1) [.slice r.a (putQ Q (tickPk R)).length r.c],[gu],Gv⟩⟩,ax,cx,Fx⟩ ⟨by show k+1+1≤_;omega,by rw [hnx];dsimp only;rw [List.length_append,htl];omega⟩ (by show n.tree.parent.length - (k+1) < n.tree.parent.length - k;omega) (by dsimp only;rw [hnx];exact frE) (by dsimp only;rw [hnx];exact hsE)
 ·have hke:n.tree.parent.length - 1=k:=by omega
  rw [show tickN n=tickTo n k by unfold tickN;rw [hke],hSrc]
  refine go ?_;intros
  refine ret (⟨⟨⟨ye,Fe,Ge⟩,⟨yr,Fr,Gr⟩,⟨yd,Fd,Gd⟩,⟨yu,Fu,Gu⟩⟩,u,⟨0,ea,ec,eF⟩⟩:SZ × TiS × KA) trivial rfl
structure OwN where
 g:Nat
 a1:Option Addr
 c1:Nat
 F1:List Nat
 s:SrcS
structure OwK where
 k:Nat
 a4:Option Addr
 c4:Nat
 F4:List Nat
 a5:Option Addr
 c5:Nat
 F5:List Nat
 a6:Option Addr
 c6:Nat
 F6:List Nat
 a7:Option Addr
 c7:Nat
 F7:List Nat
theorem one_OSlP:One (OSl EPacket 127):=fun h u hu=>by
 obtain ⟨v,rfl,h⟩:=h
 obtain rfl:=List.mem_singleton.1 hu
 rcases h with ⟨rfl, -, -⟩|⟨b,cap,cs,rest,G,rfl, -⟩ <;> rfl
theorem withW_same {x:Source} (hg:goodSrc x=true):withW x x.window=x:=by
 obtain ⟨gw,hl,t0,t1,k0,k1,hm,hn,hu,hb⟩:=goodS_of hg
 unfold withW
 rw [←keepU_eq hu,keepU_same hg]
theorem l15Own_f (n:Net) (v:Value) (F:List Nat) (hg:goodNet n=true):Fn Tryz.prog 67 [v] [.isv ENet v n F] [] (fun (_:OwN × OwK)=>True) (fun z=>.agg #[.slice z.1.a1 n.tree.parent.length z.1.c1,.int .i64 (n.source).window.trail,.int .i64 (n.source).window.size,.slice z.1.s.a (n.source).window.items.length z.1.s.c,.int .i64 (n.source).clock,.int .i64 (n.source).quiet,.slice z.1.s.a2 (n.source).holds.length z.1.s.c2,.slice z.2.a4 (n.elements).length z.2.c4,.slice z.2.a5 (n.receivers).length z.2.c5,.slice z.2.a6 (n.down).length z.2.c6,.slice z.2.a7 (n.up).length z.2.c7]) (fun z=>[.ow EInt 3 (.slice z.1.a1 n.tree.parent.length z.1.c1) n.tree.parent z.1.F1,.isv ESource (.agg #[.int .i64 (n.source).window.trail,.int .i64 (n.source).window.size,.slice z.1.s.a (n.source).window.items.length z.1.s.c,.int .i64 (n.source).clock,.int .i64 (n.source).quiet,.slice z.1.s.a2 (n.source).holds.length z.1.s.c2]) n.source z.1.s.F,.ow OElement 142 (.slice z.2.a4 (n.elements).length z.2.c4) (n.elements) z.2.F4,.ow OReceiver 149 (.slice z.2.a5 (n.receivers).length z.2.c5) (n.receivers) z.2.F5,.ow (OSl EPacket 127) 132 (.slice z.2.a6 (n.down).length z.2.c6) (n.down) z.2.F6,.ow (OSl EPacket 127) 132 (.slice z.2.a7 (n.up).length z.2.c7) (n.up) z.2.F7]):=by
 have hG:=goodNet_GN.1 hg
 have h8:=(goodT hG.t).n1
 have hS:=goodS_of hG.s
 have hSl:=hS.l
 have hSm:=hS.m
 obtain ⟨q1,q2,q3,q4⟩:=lensN_iff.1 hG.l
 obtain ⟨g1,g2,g3,g4⟩:=good_els hg
 refine enter Tryz.func67 rfl Tryz.ntmps67 fun w0=>?_
 refine openNet ?_
 rintro a1 c1 F1 a2 c2 F2 a3 c3 F3 a4 c4 F4 a5 c5 F5 a6 c6 F6 a7 c7 F7 rfl l1 l2 l3 l4 l5 l6 l7
 refine closeSource n.source ?_
 refine closeSendWindow n.source.window (a1:=a2) ?_
 have hW:=fun vw Fw=>l11With_f n.source n.source.window (.agg #[.int .i64 n.source.window.trail,.int .i64 n.source.window.size,.slice a2 n.source.window.items.length c2,.int .i64 n.source.clock,.int .i64 n.source.quiet,.slice a3 n.source.holds.length c3]) vw (F2++F3) Fw hS.t0 hS.t1 (by omega) hS.n hS.u
 rw [withW_same hG.s,show keepH n.source.window n.source.holds=n.source.holds by rw [←keepU_eq hS.u,keepU_same hG.s]] at hW
 refine go ?_;intros
 refine c_joinS [1,2] [0,1,2,3,4,5,6,7,8,9,10,11] (fun w:OwN=>[(3,ptr w.g 0 0)]) (fun w=>[.row w.g 49 0 [] [.slice w.a1 n.tree.parent.length w.c1,.int .i64 (n.source).window.trail,.int .i64 (n.source).window.size,.slice w.s.a (n.source).window.items.length w.s.c,.int .i64 (n.source).clock,.int .i64 (n.source).quiet,.slice w.s.a2 (n.source).holds.length w.s.c2,.slice none 0 0,.slice none 0 0,.slice none 0 0,.slice none 0 0] [],.ow EInt 3 (.slice w.a1 n.tree.parent.length w.c1) n.tree.parent w.F1,.isv ESource (.agg #[.int .i64 (n.source).window.trail,.int .i64 (n.source).window.size,.slice w.s.a (n.source).window.items.length w.s.c,.int .i64 (n.source).clock,.int .i64 (n.source).quiet,.slice w.s.a2 (n.source).holds.length w.s.c2]) n.source w.s.F]) (fun _=>True) ?_ fun w _=>?_
 ·skip
  refine d_start [1] [] ?_
  refine dt4 0 1 2 5 ?_
  refine dt4 6 7 8 9 ?_
  refine dM 3 13 ?_ ?_
  ·refine oC ?_
   refine cn (fun w st=>l1Own_c _ n.tree.parent F1 w (st.get (p:=.sl EInt (.slice a1 n.tree.parent.length c1) n.tree.parent F1) (by exact memE)).2 (by omega)) fun b1 d1 G1=>?_
   refine dk ?_
   refine dt 4 ?_
   refine dM 10 13 ?_ ?_
   ·refine oC ?_
    refine cf (l9Drop0_f n.source.window _ F2 hS.t0 hS.t1 (by omega)) fun y _=>?_
    refine t_app ?_
    refine openOSendWindow ?_
    rintro a9 c9 F9 e9 l9
    rw [e9]
    refine t_read (xs:=n.source.window.items) fun F8=>?_
    refine closeSendWindow n.source.window (a1:=a9) ?_
    refine dk ?_
    refine dM 11 13 ?_ ?_
    ·refine oC ?_
     refine cf (hW _ F8) fun s _=>?_
     refine t_app ?_
     refine dk ?_
     refine dt 12 ?_
     refine dN 13 ?_
     apply o_alloc;rfl;intro _
     refine dk ?_
     refine dN 14 ?_
     refine oS ?_
     refine dk ?_
     refine dd ?_
     refine n_join (⟨_,b1,d1,G1,s⟩:OwN) trivial
    ·apply o_alloc;rfl;intro _
     refine dk ?_
     refine dN 11 ?_
     refine oC ?_
     refine cf (hW _ F8) fun s _=>?_
     refine t_app ?_
     refine dk ?_
     refine dt 12 ?_
     refine dN 14 ?_
     refine oS ?_
     refine dk ?_
     refine dd ?_
     refine n_join (⟨_,b1,d1,G1,s⟩:OwN) trivial
   ·apply o_alloc;rfl;intro _
    refine dk ?_
    refine dN 10 ?_
    refine oC ?_
    refine cf (l9Drop0_f n.source.window _ F2 hS.t0 hS.t1 (by omega)) fun y _=>?_
    refine t_app ?_
    refine openOSendWindow ?_
    rintro a9 c9 F9 e9 l9
    rw [e9]
    refine t_read (xs:=n.source.window.items) fun F8=>?_
    refine closeSendWindow n.source.window (a1:=a9) ?_
    refine dk ?_
    refine dN 11 ?_
    refine oC ?_
    refine cf (hW _ F8) fun s _=>?_
    refine t_app ?_
    refine dk ?_
    refine dt 12 ?_
    refine dN 14 ?_
    refine oS ?_
    refine dk ?_
    refine dd ?_
    refine n_join (⟨_,b1,d1,G1,s⟩:OwN) trivial
  ·apply o_alloc;rfl;intro _
   refine dk ?_
   refine dN 3 ?_
   refine oC ?_
   refine cn (fun w st=>l1Own_c _ n.tree.parent F1 w (st.get (p:=.sl EInt (.slice a1 n.tree.parent.length c1) n.tree.parent F1) (by exact memE)).2 (by omega)) fun b1 d1 G1=>?_
   refine dk ?_
   refine dt 4 ?_
   refine dN 10 ?_
   refine oC ?_
   refine cf (l9Drop0_f n.source.window _ F2 hS.t0 hS.t1 (by omega)) fun y _=>?_
   refine t_app ?_
   refine openOSendWindow ?_
   rintro a9 c9 F9 e9 l9
   rw [e9]
   refine t_read (xs:=n.source.window.items) fun F8=>?_
   refine closeSendWindow n.source.window (a1:=a9) ?_
   refine dk ?_
   refine dN 11 ?_
   refine oC ?_
   refine cf (hW _ F8) fun s _=>?_
   refine t_app ?_
   refine dk ?_
   refine dt 12 ?_
   refine dN 14 ?_
   refine oS ?_
   refine dk ?_
   refine dd ?_
   refine n_join (⟨_,b1,d1,G1,s⟩:OwN) trivial
 refine t_nilow OElement 142 ?_
 refine t_nilow OReceiver 149 ?_
 refine t_nilow (OSl EPacket 127) 132 ?_
 refine t_nilow (OSl EPacket 127) 132 ?_
 refine go ?_;intros
 refine c_loopS [1,2,3] (fun y:OwK=>[(4,.int .i64 (y.k:Nat))]) (fun y=>[.row w.g 49 0 [] [.slice w.a1 n.tree.parent.length w.c1,.int .i64 (n.source).window.trail,.int .i64 (n.source).window.size,.slice w.s.a (n.source).window.items.length w.s.c,.int .i64 (n.source).clock,.int .i64 (n.source).quiet,.slice w.s.a2 (n.source).holds.length w.s.c2,.slice y.a4 (n.elements.take y.k).length y.c4,.slice y.a5 (n.receivers.take y.k).length y.c5,.slice y.a6 (n.down.take y.k).length y.c6,.slice y.a7 (n.up.take y.k).length y.c7] [],.ow OElement 142 (.slice y.a4 (n.elements.take y.k).length y.c4) (n.elements.take y.k) y.F4,.ow OReceiver 149 (.slice y.a5 (n.receivers.take y.k).length y.c5) (n.receivers.take y.k) y.F5,.ow (OSl EPacket 127) 132 (.slice y.a6 (n.down.take y.k).length y.c6) (n.down.take y.k) y.F6,.ow (OSl EPacket 127) 132 (.slice y.a7 (n.up.take y.k).length y.c7) (n.up.take y.k) y.F7]) (fun y=>y.k≤n.elements.length) (fun y=>n.elements.length - y.k) ⟨0,none,0,[],none,0,[],none,0,[],none,0,[]⟩ (Nat.zero_le _) fun y hy=>?_
 refine go ?_;intros
 refine c_if rfl (fun h1=>?_) (fun h1=>?_)
 ·have hk:y.k < n.elements.length:=by omega
  have hk5:y.k < n.receivers.length:=by omega
  have hk6:y.k < n.down.length:=by omega
  have hk7:y.k < n.up.length:=by omega
  have t4:(n.elements.take y.k).length≤8:=by rw [List.length_take];omega
  have t5:(n.receivers.take y.k).length≤8:=by rw [List.length_take];omega
  have t6:(n.down.take y.k).length≤8:=by rw [List.length_take];omega
  have t7:(n.up.take y.k).length≤8:=by rw [List.length_take];omega
  have hge:=g1 _ (List.getElem_mem hk)
  have hel:=(goodE_iff.1 hge).2.1
  have hgr:=goodR_iff.1 (g2 _ (List.getElem_mem hk5))
  have hrs:=(good_items hgr.w).1
  have hrq:=(areQ_iff.1 hgr.q).2.1
  have hd6:=(goodQ_len (g3 _ (List.getElem_mem hk6))).1
  have hu6:=(goodQ_len (g4 _ (List.getElem_mem hk7))).1
  refine atElement (xs:=n.elements) y.k ?_
  rintro hi4 b4 o4 a8 c8 F8 e4 l8
  rw [e4]
  refine closeElement n.elements[y.k] ?_
  dsimp only [List.append]
  refine go ?_;intros
  refine d_start [1,3,11] [11] ?_
  refine dt4 0 1 2 3 ?_
  refine dt2 4 5 ?_
  refine dt 6 ?_
  refine dN 7 ?_
  refine oC ?_
  refine cv (fun w2 st=>l14Own_c _ n.elements[y.k] F8 w2 (st.get (p:=.isv EElement (.agg #[.int .i64 n.elements[y.k].clock,.slice a8 n.elements[y.k].entries.length c8]) n.elements[y.k] F8) (by exact memE)) (by omega) (fun x hx=>by have:=faces_len hge hx;omega)) fun v9 F9=>?_
  refine openOElement (x:=n.elements[y.k]) ?_
  rintro a9 c9 F10 rfl l9
  refine closeOElement n.elements[y.k] ?_
  refine dk ?_
  refine dN 8 ?_
  apply o_bs;rfl;rfl;rfl;rfl;exact rptE;exact filE;intro _
  refine dk ?_
  refine dN 9 ?_
  refine ap1o one_OElement n.elements[y.k] rfl fun x4 d4 G4=>?_
  refine dk ?_
  refine dt 10 ?_
  refine dN 11 ?_
  refine oS ?_
  refine dkx ?_
  refine dd ?_
  rw [←List.take_succ_eq_append_getElem hk]
  refine atReceiver (xs:=n.receivers) y.k ?_
  rintro hi5 b5 o5 a11 c11 F11 a12 c12 F12 e5 l11 l12
  rw [e5]
  refine closeReceiver n.receivers[y.k] ?_
  dsimp only [List.append]
  refine go ?_;intros
  refine d_start [1,8,15] [11] ?_
  refine dt4 0 1 2 3 ?_
  refine dt2 4 5 ?_
  refine dt 6 ?_
  refine dN 7 ?_
  refine oC ?_
  refine cf (l13Own_f n.receivers[y.k] _ _ (by omega) (by omega)) fun s9 _=>?_
  refine t_app ?_
  refine openOReceiver (x:=n.receivers[y.k]) ?_
  rintro a9 c9 G9 a10 c10 G10 e9 l9 l10
  rw [e9]
  refine closeOReceiver n.receivers[y.k] ?_
  refine dk ?_
  refine dN 8 ?_
  apply o_bs;rfl;rfl;rfl;rfl;exact rptE;exact filE;intro _
  refine dk ?_
  refine dN 9 ?_
  refine ap1o one_OReceiver n.receivers[y.k] rfl fun x5 d5 G5=>?_
  refine dk ?_
  refine dt 10 ?_
  refine dN 11 ?_
  refine oS ?_
  refine dkx ?_
  refine dd ?_
  rw [←List.take_succ_eq_append_getElem hk5]
  refine at_ESl (E:=EPacket) (hz:=by decide) (xs:=n.down) y.k ?_
  rintro hi6 b6 o6 a13 c13 F13 e6 l13
  rw [e6]
  refine go ?_;intros
  refine d_start [0,11,17] [12] ?_
  refine dt4 0 1 3 4 ?_
  refine dt2 5 6 ?_
  refine dt 7 ?_
  refine dN 2 ?_
  apply o_bs0;rfl;intro _
  refine t_emp EPacket ?_
  refine dk ?_
  refine dN 8 ?_
  refine aps one_EPacket scal_EPacket fun a9 c9 F9=>?_
  rw [List.nil_append]
  refine closeOSl n.down[y.k] ?_
  refine dk ?_
  refine dN 9 ?_
  apply o_bs;rfl;rfl;rfl;rfl;exact rptE;exact filE;intro _
  refine dk ?_
  refine dN 10 ?_
  refine ap1o (one_OSlP) n.down[y.k] rfl fun x6 d6 G6=>?_
  refine dk ?_
  refine dt 11 ?_
  refine dN 12 ?_
  refine oS ?_
  refine dkx ?_
  refine dd ?_
  rw [←List.take_succ_eq_append_getElem hk6]
  refine at_ESl (E:=EPacket) (hz:=by decide) (xs:=n.up) y.k ?_
  rintro hi7 b7 o7 a14 c14 F14 e7 l14
  rw [e7]
  refine go ?_;intros
  refine d_start [0,14,19] [12] ?_
  refine dt4 0 1 3 4 ?_
  refine dt2 5 6 ?_
  refine dt 7 ?_
  refine dN 2 ?_
  apply o_bs0;rfl;intro _
  refine t_emp EPacket ?_
  refine dk ?_
  refine dN 8 ?_
  refine aps one_EPacket scal_EPacket fun a9 c9 F9=>?_
  rw [List.nil_append]
  refine closeOSl n.up[y.k] ?_
  refine dk ?_
  refine dN 9 ?_
  apply o_bs;rfl;rfl;rfl;rfl;exact rptE;exact filE;intro _
  refine dk ?_
  refine dN 10 ?_
  refine ap1o (one_OSlP) n.up[y.k] rfl fun x7 d7 G7=>?_
  refine dk ?_
  refine dt 11 ?_
  refine dN 12 ?_
  refine oS ?_
  refine dkx ?_
  refine dd ?_
  rw [←List.take_succ_eq_append_getElem hk7]
  refine go ?_;intros
  refine n_lp ⟨y.k+1,x4,d4,G4,x5,d5,G5,x6,d6,G6,x7,d7,G7⟩ hk (by show n.elements.length - (y.k+1) < n.elements.length - y.k;omega)
 ·rw [show n.elements.take y.k=n.elements from List.take_of_length_le (by omega),show n.receivers.take y.k=n.receivers from List.take_of_length_le (by omega),show n.down.take y.k=n.down from List.take_of_length_le (by omega),show n.up.take y.k=n.up from List.take_of_length_le (by omega)]
  refine go ?_;intros
  refine ret (⟨w,y⟩:OwN × OwK) trivial rfl
end Go.Proofs.YtgmbfohkpfineaaGreatDoor
namespace Go.Proofs.YtgmbfohkpfineaaGreatDoor
open Go.RowKit
open Go.RowKit
theorem flat_weak {α:Type} {O R:Elem α} (hW:Weak O R) {w:World}:∀{xs:List α} {cs:List Value} {G:List Nat},Flat O w cs xs G→∃G',(∀b∈G',b∈G)∧Flat R w cs xs G'
 | [],_,_,h=>⟨[],by simp,h.1,rfl⟩
 | x::r,_,_,h=>by
  obtain ⟨c1,c2,F1,F2,rfl,rfl,h1,h2⟩:=h
  obtain ⟨G1,s1,r1⟩:=hW.rep h1
  obtain ⟨G2,s2,r2⟩:=flat_weak hW h2
  exact ⟨G1++G2,fun b hb=>by rcases List.mem_append.1 hb with hb|hb;simp [s1 b hb];simp [s2 b hb],c1,c2,G1,G2,rfl,rfl,r1,r2⟩
theorem HSub.skip {x:Pc}:∀{B A:List Pc},HSub A B→HSub (x::A) B
 | _,_,.nil=>.nil
 | _,_,.cons hp hr=>.cons (.there hp) hr.skip
theorem HSub.all:∀A:List Pc,HSub A A
 | []=>.nil
 | _::A=>.cons .here (HSub.all A)
section
variable {c:Cx} {fr:Fr} {H:List Pc} {Φ:Gl}
theorem t_flatI {α:Type} {O R:Elem α} (hW:Weak O R) {cs:List Value} {xs:List α} {G:List Nat} {S:List Pc} (h:∀G',T c fr (.isv (EA R xs.length) (.agg cs.toArray) xs G'::S) Φ) (hp:Pick H (.flat O cs xs G) S:=by (repeat (first|exact .here|apply Pick.there));first|done|fail):T c fr H Φ:=.mk fun a w s g=>by
 have s1:=s.pick hp
 obtain ⟨-,ho⟩:=s1.on (.flat O cs xs G) (by simp)
 obtain ⟨G',hG,hf⟩:=flat_weak hW ho
 exact (h G').h a w (s1.conv rfl ⟨_,rfl,rfl,hf⟩ hG) g
theorem endNet (m:Net) {l:List Int} {N:Nat} (hT:m.tree.parent=l) (hN:N=l.length) (hl:lensN m=true) {a1 a2 a3 a4 a5 a6 a7:Option Addr} {c1 c2 c3 c4 c5 c6 c7:Nat} {F1 FS F4 G4 F5 G5 F6 G6 F7 G7:List Nat} {ys4 ys5 ys6 ys7:List (List Value)} (h4:ys4.length=N) (h5:ys5.length=N) (h6:ys6.length=N) (h7:ys7.length=N)
  (h:∀F,T c fr (.isv ENet (.agg #[.slice a1 N c1,.int .i64 m.source.window.trail,.int .i64 m.source.window.size,.slice a2 m.source.window.items.length c2,.int .i64 m.source.clock,.int .i64 m.source.quiet,.slice a3 m.source.holds.length c3,.slice a4 N c4,.slice a5 N c5,.slice a6 N c6,.slice a7 N c7]) m F::H) Φ) (p1:.sl EInt (.slice a1 N c1) l F1∈H:=by (repeat (first|exact .head _|apply List.Mem.tail));first|done|fail) (p2:.isv ESource (.agg #[.int .i64 m.source.window.trail,.int .i64 m.source.window.size,.slice a2 m.source.window.items.length c2,.int .i64 m.source.clock,.int .i64 m.source.quiet,.slice a3 m.source.holds.length c3]) m.source FS∈H:=by (repeat (first|exact .head _|apply List.Mem.tail));first|done|fail) (p4:.sl (EC 2) (.slice a4 N c4) ys4 F4∈H:=by (repeat (first|exact .head _|apply List.Mem.tail));first|done|fail) (q4:.isv (EA (EElement) N) (.agg ys4.flatten.toArray) m.elements G4∈H:=by (repeat (first|exact .head _|apply List.Mem.tail));first|done|fail) (p5:.sl (EC 5) (.slice a5 N c5) ys5 F5∈H:=by (repeat (first|exact .head _|apply List.Mem.tail));first|done|fail) (q5:.isv (EA (EReceiver) N) (.agg ys5.flatten.toArray) m.receivers G5∈H:=by (repeat (first|exact .head _|apply List.Mem.tail));first|done|fail) (p6:.sl (EC 1) (.slice a6 N c6) ys6 F6∈H:=by (repeat (first|exact .head _|apply List.Mem.tail));first|done|fail) (q6:.isv (EA (ESl EPacket (by decide)) N) (.agg ys6.flatten.toArray) m.down G6∈H:=by (repeat (first|exact .head _|apply List.Mem.tail));first|done|fail) (p7:.sl (EC 1) (.slice a7 N c7) ys7 F7∈H:=by (repeat (first|exact .head _|apply List.Mem.tail));first|done|fail) (q7:.isv (EA (ESl EPacket (by decide)) N) (.agg ys7.flatten.toArray) m.up G7∈H:=by (repeat (first|exact .head _|apply List.Mem.tail));first|done|fail):T c fr H Φ:=by
 obtain ⟨e1,e2,e3,e4⟩:=lensN_iff.1 hl
 subst hT hN
 refine openSource (hm:=p2) ?_
 rintro b2 d2 F2 b3 d3 F3 ev - -
 have ev2:=ev
 simp only [Value.agg.injEq,Array.mk.injEq,List.cons.injEq,Value.slice.injEq,true_and,and_true] at ev2
 obtain ⟨⟨rfl,rfl⟩,rfl,rfl⟩:=ev2
 refine t_deepR (E:=EElement) (xs:=m.elements) rfl (by omega) rfl (fun F8=>?_) (.tail _ (.tail _ p4)) (.tail _ (.tail _ q4))
 refine t_deepR (E:=EReceiver) (xs:=m.receivers) rfl (by omega) rfl (fun F9=>?_) (.tail _ (.tail _ (.tail _ p5))) (.tail _ (.tail _ (.tail _ q5)))
 refine t_deepR (E:=ESl EPacket (by decide)) (xs:=m.down) rfl (by omega) rfl (fun F10=>?_) (.tail _ (.tail _ (.tail _ (.tail _ p6)))) (.tail _ (.tail _ (.tail _ (.tail _ q6))))
 refine t_deepR (E:=ESl EPacket (by decide)) (xs:=m.up) rfl (by omega) rfl (fun F11=>?_) (.tail _ (.tail _ (.tail _ (.tail _ (.tail _ p7))))) (.tail _ (.tail _ (.tail _ (.tail _ (.tail _ q7)))))
 refine closeNet m (a1:=a1) (c1:=c1) (F1:=F1) (a2:=a2) (c2:=c2) (F2:=F2) (a3:=a3) (c3:=c3) (F3:=F3) (a4:=a4) (c4:=c4) (F4:=F8) (a5:=a5) (c5:=c5) (F5:=F9) (a6:=a6) (c6:=c6) (F6:=F10) (a7:=a7) (c7:=c7) (F7:=F11) ?_ (.tail _ (.tail _ (.tail _ (.tail _ (.tail _ (.tail _ p1)))))) (.tail _ (.tail _ (.tail _ (.tail _ (.head _))))) (.tail _ (.tail _ (.tail _ (.tail _ (.tail _ (.head _)))))) (by rw [e1];exact .tail _ (.tail _ (.tail _ (.head _)))) (by rw [e2];exact .tail _ (.tail _ (.head _))) (by rw [e3];exact .tail _ (.head _)) (by rw [e4];exact .head _)
 rw [e1,e2,e3,e4]
 exact t_sub _ (h _) (.cons .here (HSub.skip (HSub.skip (HSub.skip (HSub.skip (HSub.skip (HSub.skip (HSub.all H))))))))
end
end Go.Proofs.YtgmbfohkpfineaaGreatDoor
namespace Go.Proofs.YtgmbfohkpfineaaGreatDoor
open Go.RowKit
def sentU (x:Source) (s:ByteArray):Source:=⟨pushedW x.window s,x.clock,0,keepU (pushedW x.window s) x.clock x.holds⟩
theorem sentU_eq {x:Source} {s:ByteArray} (h:∀z∈x.holds,x.clock+1≤z.untl):sentU x s=sentS x s:=by unfold sentU sentS;rw [keepU_eq h]
theorem l11SendU_f (x:Source) (s:ByteArray) (v:Value) (F:List Nat) (t0:0≤x.window.trail) (t1:x.window.trail≤65535) (hl:x.window.items.length≤6) (z1:1≤x.window.size) (hm:x.holds.length≤1000) (hn:wideH x.holds) (hs:s.size≤maxLen) :
  Fn Tryz.prog 80 [v,.string s] [.isv ESource v x F] [] (fun (_:SrcS)=>True) (fun z=>.tuple #[.agg #[.int .i64 (sentU x s).window.trail,.int .i64 (sentU x s).window.size,.slice z.a (sentU x s).window.items.length z.c,.int .i64 (sentU x s).clock,.int .i64 (sentU x s).quiet,.slice z.a2 (sentU x s).holds.length z.c2],.agg #[.int .i64 1,.int .i64 (pushedP x.window s).number,.int .i64 (pushedP x.window s).trail,.int .i64 (pushedP x.window s).lead,.string s]]) (fun z=>[.isv ESource (.agg #[.int .i64 (sentU x s).window.trail,.int .i64 (sentU x s).window.size,.slice z.a (sentU x s).window.items.length z.c,.int .i64 (sentU x s).clock,.int .i64 (sentU x s).quiet,.slice z.a2 (sentU x s).holds.length z.c2]) (sentU x s) z.F]):=by
 have hb:=roomed_bd t0 t1
 refine enter Tryz.func80 rfl Tryz.ntmps80 fun w0=>?_
 refine openSource ?_
 rintro a1 c1 F1 a2 c2 F2 rfl l1 l2
 refine closeSendWindow x.window ?_
 generalize F1=F3
 refine go ?_;intros
 refine cf (l9Push_f x.window s _ F3 hl t0 t1 hs z1) fun y _=>?_
 refine t_app ?_
 refine openSendWindow (x:=pushedW x.window s) ?_
 rintro a5 c5 F5 e5 l5
 rw [e5]
 refine go ?_;intros
 refine cf (l11WithU_f x (pushedW x.window s) _ _ F y.2 hb.1 hb.2 (by omega) hn) fun q _=>?_
 refine t_app ?_
 refine openSource (x:=withU x (pushedW x.window s)) ?_
 rintro a6 c6 F6 a7 c7 F7 e6 l6 l7
 rw [e6]
 refine go ?_;intros
 refine d_start [0,4] [] ?_
 refine dt2 0 1 ?_
 refine dN 2 ?_
 refine oS ?_
 refine dk ?_
 refine dN 3 ?_
 refine oS ?_
 refine dk ?_
 refine dd ?_
 refine closeSource (sentU x s) ?_
 refine go ?_;intros
 refine ret ⟨_,_,_,_,_⟩ trivial rfl
theorem l11Send_f (x:Source) (s:ByteArray) (v:Value) (F:List Nat) (hg:goodSrc x=true) (hs:s.size≤maxLen) :
  Fn Tryz.prog 80 [v,.string s] [.isv ESource v x F] [] (fun (_:SrcS)=>True) (fun z=>.tuple #[.agg #[.int .i64 (sentS x s).window.trail,.int .i64 (sentS x s).window.size,.slice z.a (sentS x s).window.items.length z.c,.int .i64 (sentS x s).clock,.int .i64 (sentS x s).quiet,.slice z.a2 (sentS x s).holds.length z.c2],.agg #[.int .i64 1,.int .i64 (pushedP x.window s).number,.int .i64 (pushedP x.window s).trail,.int .i64 (pushedP x.window s).lead,.string s]]) (fun z=>[.isv ESource (.agg #[.int .i64 (sentS x s).window.trail,.int .i64 (sentS x s).window.size,.slice z.a (sentS x s).window.items.length z.c,.int .i64 (sentS x s).clock,.int .i64 (sentS x s).quiet,.slice z.a2 (sentS x s).holds.length z.c2]) (sentS x s) z.F]):=by
 obtain ⟨gw,hl,t0,t1,k0,k1,hm,hn,hu,hb⟩:=goodS_of hg
 obtain ⟨-,⟨z1, -⟩, -⟩:=goodWin_iff.1 gw
 have h:=l11SendU_f x s v F t0 t1 hl z1 (by omega) (wide_of hn) hs
 rw [sentU_eq hu] at h
 exact h
theorem l15Make_f (n:Net) (s:Step) (v:Value) (F FT:List Nat) (hss:s.data.size≤maxLen) (g1:goodNet n=true) (g2:okStep s=true):Fn Tryz.prog 36 [v,.agg #[.int .i64 s.kind,.int .i64 s.node,.string s.data]] [.isv ENet v n F,EnvP FT] [] (fun (_:StZ)=>True) (fun z=>.tuple #[.agg z.cs.toArray,.slice z.a (resStepNet n s).2.1.length z.c,.bool (resStepNet n s).2.2]) (fun z=>[.isv ENet (.agg z.cs.toArray) (resStepNet n s).1 z.F,.ow EStr 9 (.slice z.a (resStepNet n s).2.1.length z.c) (resStepNet n s).2.1 z.Fe]):=by
 have hG:=goodNet_GN.1 g1
 have h8:=goodT hG.t
 have hn8:=h8.n1
 have hn2:=h8.n0
 obtain ⟨q1,q2,q3,q4⟩:=lensN_iff.1 hG.l
 have hkl:=kids_len n.tree.parent 0
 have hkx:∀x∈kids n.tree.parent 0,0≤x∧x.toNat < n.down.length:=fun x hx=>by have:=kids_behind (i:=0) h8 hx;omega
 have hd6:∀q∈n.down,q.length≤6:=fun q hq=>(goodQ_len ((good_els g1).2.2.1 q hq)).1
 have hck:=src_clkN hG.s
 refine enter Tryz.func36 rfl Tryz.ntmps36 fun w0=>?_
 refine openNet ?_
 rintro a1 c1 F1 a2 c2 F2 a3 c3 F3 a4 c4 F4 a5 c5 F5 a6 c6 F6 a7 c7 F7 rfl l1 l2 l3 l4 l5 l6 l7
 refine go ?_;intros
 refine cf (l15Own_f n _ F g1) fun z _=>?_
 refine t_app ?_
 obtain ⟨w,y⟩:=z
 dsimp only
 refine t_read (E:=EInt) (xs:=n.tree.parent) fun Ft=>?_
 refine t_shal (E:=OElement) (xs:=n.elements) one_OElement (m:=2) rfl fun ye Fe Ge he1 he2=>?_
 refine t_flatI (R:=EElement) (xs:=n.elements) weak_Element fun He=>?_
 refine t_shal (E:=OReceiver) (xs:=n.receivers) one_OReceiver (m:=5) rfl fun yr Fr Gr hr1 hr2=>?_
 refine t_flatI (R:=EReceiver) (xs:=n.receivers) weak_Receiver fun Hr=>?_
 refine t_shal (E:=OSl EPacket 127) (xs:=n.down) one_OSlP (m:=1) rfl fun yd Fd Gd hd1 hd2=>?_
 refine t_flatI (R:=ESl EPacket (by decide)) (xs:=n.down) (weak_OSl (Weak.refl EPacket) (by decide) _) fun Hd=>?_
 refine t_shal (E:=OSl EPacket 127) (xs:=n.up) one_OSlP (m:=1) rfl fun yu Fu Gu hu1 hu2=>?_
 refine t_flatI (R:=ESl EPacket (by decide)) (xs:=n.up) (weak_OSl (Weak.refl EPacket) (by decide) _) fun Hu=>?_
 rw [q1,q2,q3,q4]
 refine closeTree n.tree (a1:=w.a1) ?_
 refine go ?_;intros
 refine c_if rfl (fun h1=>?_) (fun h1=>?_)
 ·have e1:stepN n s=some (sendN n s.data,[]):=by unfold stepN;rw [if_pos h1]
  have hgm:=step_good g1 g2 e1
  rw [show resStepNet n s=(sendN n s.data,[],true) by unfold resStepNet;rw [g1,g2,e1];rfl]
  refine go ?_;intros
  refine cf (l11Send_f n.source s.data _ _ hG.s hss) fun u _=>?_
  refine t_app ?_
  refine go ?_;intros
  refine d_start [0,3] [] ?_
  refine dt4 0 1 2 4 ?_
  refine dM 3 5 ?_ ?_
  ·refine oC ?_
   refine cf (l6Children_f n.tree 0 _ Ft (kids_zero h8.z (Int.le_refl _)) ⟨by omega,by omega⟩) fun v _=>?_
   refine t_app ?_
   refine t_read (E:=EInt) (xs:=kids n.tree.parent 0) fun Fk=>?_
   refine dk ?_
   refine dN 5 ?_
   apply o_bs;rfl;rfl;rfl;rfl;exact rptE;exact filE;intro _
   refine t_row (E:=EPacket) (xs:=[pushedP n.source.window s.data]) (flatPacket (pushedP n.source.window s.data) hss) ?_ (by simp)
   refine t_read (E:=EPacket) (xs:=[pushedP n.source.window s.data]) fun Fp=>?_
   refine dk ?_
   refine dN 6 ?_
   refine oC ?_
   refine cf (l15Spread_f n.down (kids n.tree.parent 0) [pushedP n.source.window s.data] _ _ _ _ _ _ _ _ _ _ _ _ _ _ _ _ _ _ _ _ _ _ _ _ _ yd Fd Hd _ _ Fk _ _ Fp hkx hd6) fun x _=>?_
   refine t_app ?_
   refine dk ?_
   refine dd ?_
   refine go ?_;intros
   refine t_emp EStr ?_
   refine go ?_;intros
   refine sh_len (ys:=ye) fun _ w4=>?_
   refine sh_len (ys:=yr) fun _ w5=>?_
   refine sh_len (ys:=x.ys) fun _ w6=>?_
   refine sh_len (ys:=yu) fun _ w7=>?_
   refine t_read (E:=EC 2) (xs:=ye) fun _=>?_
   refine t_read (E:=EC 5) (xs:=yr) fun _=>?_
   refine t_read (E:=EC 1) (xs:=x.ys) fun _=>?_
   refine t_read (E:=EC 1) (xs:=yu) fun _=>?_
   refine endNet (sendN n s.data) (l:=n.tree.parent) (N:=n.tree.parent.length) rfl rfl (goodNet_GN.1 hgm).l w4 w5 w6 w7 (a1:=w.a1) (c1:=w.c1) (a2:=u.a) (c2:=u.c) (a3:=u.a2) (c3:=u.c2) (a4:=y.a4) (c4:=y.c4) (a5:=y.a5) (c5:=y.c5) (a6:=y.a6) (c6:=y.c6) (a7:=y.a7) (c7:=y.c7) fun FN=>?_
   refine ret (⟨[.slice w.a1 n.tree.parent.length w.c1,.int .i64 ((sendN n s.data).source).window.trail,.int .i64 ((sendN n s.data).source).window.size,.slice u.a ((sendN n s.data).source).window.items.length u.c,.int .i64 ((sendN n s.data).source).clock,.int .i64 ((sendN n s.data).source).quiet,.slice u.a2 ((sendN n s.data).source).holds.length u.c2,.slice y.a4 n.tree.parent.length y.c4,.slice y.a5 n.tree.parent.length y.c5,.slice y.a6 n.tree.parent.length y.c6,.slice y.a7 n.tree.parent.length y.c7],FN,_,_,_⟩:StZ) trivial rfl
  ·apply o_bs;rfl;rfl;rfl;rfl;exact rptE;exact filE;intro _
   refine t_row (E:=EPacket) (xs:=[pushedP n.source.window s.data]) (flatPacket (pushedP n.source.window s.data) hss) ?_ (by simp)
   refine t_read (E:=EPacket) (xs:=[pushedP n.source.window s.data]) fun Fp=>?_
   refine dk ?_
   refine dN 3 ?_
   refine oC ?_
   refine cf (l6Children_f n.tree 0 _ Ft (kids_zero h8.z (Int.le_refl _)) ⟨by omega,by omega⟩) fun v _=>?_
   refine t_app ?_
   refine t_read (E:=EInt) (xs:=kids n.tree.parent 0) fun Fk=>?_
   refine dk ?_
   refine dN 6 ?_
   refine oC ?_
   refine cf (l15Spread_f n.down (kids n.tree.parent 0) [pushedP n.source.window s.data] _ _ _ _ _ _ _ _ _ _ _ _ _ _ _ _ _ _ _ _ _ _ _ _ _ yd Fd Hd _ _ Fk _ _ Fp hkx hd6) fun x _=>?_
   refine t_app ?_
   refine dk ?_
   refine dd ?_
   refine go ?_;intros
   refine t_emp EStr ?_
   refine go ?_;intros
   refine sh_len (ys:=ye) fun _ w4=>?_
   refine sh_len (ys:=yr) fun _ w5=>?_
   refine sh_len (ys:=x.ys) fun _ w6=>?_
   refine sh_len (ys:=yu) fun _ w7=>?_
   refine t_read (E:=EC 2) (xs:=ye) fun _=>?_
   refine t_read (E:=EC 5) (xs:=yr) fun _=>?_
   refine t_read (E:=EC 1) (xs:=x.ys) fun _=>?_
   refine t_read (E:=EC 1) (xs:=yu) fun _=>?_
   refine endNet (sendN n s.data) (l:=n.tree.parent) (N:=n.tree.parent.length) rfl rfl (goodNet_GN.1 hgm).l w4 w5 w6 w7 (a1:=w.a1) (c1:=w.c1) (a2:=u.a) (c2:=u.c) (a3:=u.a2) (c3:=u.c2) (a4:=y.a4) (c4:=y.c4) (a5:=y.a5) (c5:=y.c5) (a6:=y.a6) (c6:=y.c6) (a7:=y.a7) (c7:=y.c7) fun FN=>?_
   refine ret (⟨[.slice w.a1 n.tree.parent.length w.c1,.int .i64 ((sendN n s.data).source).window.trail,.int .i64 ((sendN n s.data).source).window.size,.slice u.a ((sendN n s.data).source).window.items.length u.c,.int .i64 ((sendN n s.data).source).clock,.int .i64 ((sendN n s.data).source).quiet,.slice u.a2 ((sendN n s.data).source).holds.length u.c2,.slice y.a4 n.tree.parent.length y.c4,.slice y.a5 n.tree.parent.length y.c5,.slice y.a6 n.tree.parent.length y.c6,.slice y.a7 n.tree.parent.length y.c7],FN,_,_,_⟩:StZ) trivial rfl
 refine go ?_;intros
 refine c_if rfl (fun h4=>?_) (fun h4=>?_)
 ·refine go ?_;intros
  refine c_if rfl (fun hc=>?_) (fun hc=>?_)
  ·have e1:stepN n s=none:=by unfold stepN;rw [if_neg h1,if_pos h4,if_pos hc]
   rw [show resStepNet n s=(zNet,[],false) by unfold resStepNet;rw [g1,g2,e1];rfl]
   refine t_nilsl EInt (by decide) ?_
   refine t_nilsl EStr (by decide) ?_
   refine t_nilsl EHold (by decide) ?_
   refine t_nilsl EElement (by decide) ?_
   refine t_nilsl EReceiver (by decide) ?_
   refine t_nilsl (ESl EPacket (by decide)) (by decide) ?_
   refine t_nilsl (ESl EPacket (by decide)) (by decide) ?_
   refine closeNet zNet (a1:=none) (c1:=0) (a2:=none) (c2:=0) (a3:=none) (c3:=0) (a4:=none) (c4:=0) (a5:=none) (c5:=0) (a6:=none) (c6:=0) (a7:=none) (c7:=0) ?_
   refine go ?_;intros
   refine t_emp EStr ?_
   refine go ?_;intros
   refine ret (⟨[.slice none 0 0,.int .i64 0,.int .i64 0,.slice none 0 0,.int .i64 0,.int .i64 0,.slice none 0 0,.slice none 0 0,.slice none 0 0,.slice none 0 0,.slice none 0 0],_,_,_,_⟩:StZ) trivial rfl
  ·have e1:stepN n s=some (tickN n):=by unfold stepN;rw [if_neg h1,if_pos h4,if_neg hc]
   have hgm:=step_good g1 g2 e1
   rw [show resStepNet n s=((tickN n).1,(tickN n).2,true) by unfold resStepNet;rw [g1,g2,e1];rfl]
   refine go ?_;intros
   refine cf (l15Tick_f n w.a1 w.c1 y.a4 y.c4 y.a5 y.c5 y.a6 y.c6 y.a7 y.c7 w.s.a w.s.a2 w.s.c w.s.c2 Ft w.s.F FT ⟨⟨ye,Fe,He⟩,⟨yr,Fr,Hr⟩,⟨yd,Fd,Hd⟩,⟨yu,Fu,Hu⟩⟩ g1 (by omega)) fun x _=>?_
   refine t_app ?_
   refine go ?_;intros
   refine sh_len (ys:=x.1.e.ys) fun _ w4=>?_
   refine sh_len (ys:=x.1.r.ys) fun _ w5=>?_
   refine sh_len (ys:=x.1.d.ys) fun _ w6=>?_
   refine sh_len (ys:=x.1.u.ys) fun _ w7=>?_
   refine t_read (E:=EC 2) (xs:=x.1.e.ys) fun _=>?_
   refine t_read (E:=EC 5) (xs:=x.1.r.ys) fun _=>?_
   refine t_read (E:=EC 1) (xs:=x.1.d.ys) fun _=>?_
   refine t_read (E:=EC 1) (xs:=x.1.u.ys) fun _=>?_
   refine endNet ((tickN n).1) (l:=n.tree.parent) (N:=n.tree.parent.length) (congrArg Tree.parent (step_tree e1)) rfl (goodNet_GN.1 hgm).l w4 w5 w6 w7 (a1:=w.a1) (c1:=w.c1) (a2:=x.2.1.a) (c2:=x.2.1.c) (a3:=x.2.1.a2) (c3:=x.2.1.c2) (a4:=y.a4) (c4:=y.c4) (a5:=y.a5) (c5:=y.c5) (a6:=y.a6) (c6:=y.c6) (a7:=y.a7) (c7:=y.c7) fun FN=>?_
   refine ret (⟨[.slice w.a1 n.tree.parent.length w.c1,.int .i64 (((tickN n).1).source).window.trail,.int .i64 (((tickN n).1).source).window.size,.slice x.2.1.a (((tickN n).1).source).window.items.length x.2.1.c,.int .i64 (((tickN n).1).source).clock,.int .i64 (((tickN n).1).source).quiet,.slice x.2.1.a2 (((tickN n).1).source).holds.length x.2.1.c2,.slice y.a4 n.tree.parent.length y.c4,.slice y.a5 n.tree.parent.length y.c5,.slice y.a6 n.tree.parent.length y.c6,.slice y.a7 n.tree.parent.length y.c7],FN,_,_,_⟩:StZ) trivial rfl
 have htk0:stepN n s=takenN n s:=by unfold stepN;rw [if_neg h1,if_neg h4]
 have hf:isFac s.node=true:=by
  have:=g2
  unfold okStep at this
  rw [if_neg h1,if_neg h4] at this
  simp only [Bool.and_eq_true] at this
  exact this.1.2
 obtain ⟨f1,f2⟩:=isFac_iff.1 hf
 obtain ⟨i,hi⟩:∃i:Nat,s.node=((i:Nat):Int):=⟨s.node.toNat,by omega⟩
 have i0:i≠0:=by omega
 rw [hi]
 by_cases k5:s.kind=5
 ·have hu:isUp s=true:=by unfold isUp;rw [decide_eq_true k5];rfl
  have hq:∀h:i < n.up.length,queN n s=n.up[i]:=fun h=>by unfold queN;rw [hu,if_pos rfl,hi,Int.toNat_natCast];exact getN h []
  have hpo:poppedN n s=popU n i:=by unfold poppedN;rw [hu,if_pos rfl,hi,Int.toNat_natCast]
  refine go ?_;intros
  refine wg_if rfl rfl (fun g5=>?_) (fun g5=>?_)
  rotate_left
  ·exact absurd k5 g5
  refine go ?_;intros
  refine wg_if rfl rfl (fun h6=>?_) (fun h6=>?_)
  ·have e1:takenN n s=none:=by unfold takenN;rw [if_pos (by omega)]
   rw [show resStepNet n s=(zNet,[],false) by unfold resStepNet;rw [g1,g2,htk0,e1];rfl]
   refine t_nilsl EInt (by decide) ?_
   refine t_nilsl EStr (by decide) ?_
   refine t_nilsl EHold (by decide) ?_
   refine t_nilsl EElement (by decide) ?_
   refine t_nilsl EReceiver (by decide) ?_
   refine t_nilsl (ESl EPacket (by decide)) (by decide) ?_
   refine t_nilsl (ESl EPacket (by decide)) (by decide) ?_
   refine closeNet zNet (a1:=none) (c1:=0) (a2:=none) (c2:=0) (a3:=none) (c3:=0) (a4:=none) (c4:=0) (a5:=none) (c5:=0) (a6:=none) (c6:=0) (a7:=none) (c7:=0) ?_
   refine go ?_;intros
   refine t_emp EStr ?_
   refine go ?_;intros
   refine ret (⟨[.slice none 0 0,.int .i64 0,.int .i64 0,.slice none 0 0,.int .i64 0,.int .i64 0,.slice none 0 0,.slice none 0 0,.slice none 0 0,.slice none 0 0,.slice none 0 0],_,_,_,_⟩:StZ) trivial rfl
  have hil:i < n.up.length:=by omega
  have hq:=hq hil
  refine sh_len (ys:=yu) fun hm hlr=>?_
  refine sh_at (ys:=yu) (xs:=n.up) i hm (by omega) (by omega) fun h9 _ Gq=>?_
  refine isv_sl (x:=n.up[i]) fun a9 c9 e9 l9=>?_
  have e10:yu[i]=[.slice a9 n.up[i].length c9]:=by simpa using e9
  refine focF (E:=EC 1) (xs:=yu) (m:=1) (scal_EC 1) i ?_ (by repeat (first|exact .here|apply Pick.there)) rfl h9
  rintro _ gq Aq cs Bq ea j2 j3 hHq
  rw [ea]
  obtain ⟨j4, -, -⟩:=j3 w0
  rw [e10] at j4
  subst j4
  refine go ?_;intros
  refine c_if rfl (fun h7=>?_) (fun h7=>?_)
  ·have e1:takenN n s=none:=by unfold takenN;rw [if_neg (by omega),hq,if_pos (by omega)]
   rw [show resStepNet n s=(zNet,[],false) by unfold resStepNet;rw [g1,g2,htk0,e1];rfl]
   refine t_nilsl EInt (by decide) ?_
   refine t_nilsl EStr (by decide) ?_
   refine t_nilsl EHold (by decide) ?_
   refine t_nilsl EElement (by decide) ?_
   refine t_nilsl EReceiver (by decide) ?_
   refine t_nilsl (ESl EPacket (by decide)) (by decide) ?_
   refine t_nilsl (ESl EPacket (by decide)) (by decide) ?_
   refine closeNet zNet (a1:=none) (c1:=0) (a2:=none) (c2:=0) (a3:=none) (c3:=0) (a4:=none) (c4:=0) (a5:=none) (c5:=0) (a6:=none) (c6:=0) (a7:=none) (c7:=0) ?_
   refine go ?_;intros
   refine t_emp EStr ?_
   refine go ?_;intros
   refine ret (⟨[.slice none 0 0,.int .i64 0,.int .i64 0,.slice none 0 0,.int .i64 0,.int .i64 0,.slice none 0 0,.slice none 0 0,.slice none 0 0,.slice none 0 0,.slice none 0 0],_,_,_,_⟩:StZ) trivial rfl
  have h0:0 < n.up[i].length:=by omega
  refine atPacket (xs:=n.up[i]) 0 ?_
  rintro hi3 b3 o3 e3 s3
  rw [e3]
  refine go ?_;intros
  refine d_start [2,17] [10] ?_
  refine dt4 0 1 2 3 ?_
  refine dt4 4 5 6 7 ?_
  refine dN 8 ?_
  refine sld 1 fun a8 c8 F8=>?_
  refine dk ?_
  refine dt 9 ?_
  refine dN 10 ?_
  refine oS ?_
  refine dkx ?_
  refine dd ?_
  refine unfF (E:=EC 1) (xs:=yu) [.slice a8 (n.up[i].drop 1).length c8] hHq (fun _=>⟨rfl,⟨rfl,by simp [Value.oneCell']⟩,rfl⟩) ?_
  refine sl_isv (E:=EPacket) (x:=n.up[i].drop 1) (by decide) ?_
  refine sh_set (E:=ESl EPacket (by decide)) (ys:=yu) (xs:=n.up) (x:=n.up[i].drop 1) i rfl hm (by omega) fun Gv=>?_
  rw [←ea,show n.up.set i (n.up[i].drop 1)=(popU n i).up from (modify_set (by omega)).symm]
  have hmem:=popP_mem h0
  have hpk:goodPk (popP n.up[i])=true:=goodQ_mem (hq▸(que_good (s:=s) g1).1) hmem
  have hpz:(popP n.up[i]).data.size≤maxLen:=by
   have h9:=hpk
   unfold goodPk itm at h9
   simp only [Bool.and_eq_true,decide_eq_true_eq] at h9
   unfold maxLen;omega
  have hgp:goodNet (popU n i)=true:=hpo▸popped_good g1
  have hGp:=goodNet_GN.1 hgp
  have hPg:=popP_get h0
  rw [←hPg]
  generalize hP:popP n.up[i]=P at *
  have htk:takenN n s=some (upN (popU n i) i P,[]):=by
   unfold takenN
   rw [if_neg (by omega),hq,if_neg (by omega),hpo,hP,hi,Int.toNat_natCast]
   rw [if_neg (by omega),if_pos k5]
  have hgm:=step_good g1 g2 (htk0.trans htk)
  rw [show resStepNet n s=(upN (popU n i) i P,[],true) by unfold resStepNet;rw [g1,g2,htk0,htk];rfl]
  refine go ?_;intros
  refine c_if rfl (fun k2=>?_) (fun k2=>?_)
  ·exact absurd k2 (by omega)
  refine go ?_;intros
  refine c_if rfl (fun m5=>?_) (fun m5=>?_)
  rotate_left
  ·exact absurd k5 m5
  have hdp:∀q∈(popU n i).down,q.length≤6:=fun q hq=>(goodQ_len ((good_els hgp).2.2.1 q hq)).1
  have hup:∀q∈(popU n i).up,q.length≤6:=fun q hq=>(goodQ_len ((good_els hgp).2.2.2 q hq)).1
  refine go ?_;intros
  refine cf (l15Up_f (popU n i) i P w.a1 w.c1 y.a4 y.c4 y.a5 y.c5 y.a6 y.c6 y.a7 y.c7 w.s.a w.s.a2 w.s.c w.s.c2 Ft w.s.F ⟨⟨ye,Fe,He⟩,⟨yr,Fr,Hr⟩,⟨yd,Fd,Hd⟩,⟨yu.set i [.slice a8 (n.up[i].drop 1).length c8],[gq],Gv⟩⟩ hGp.l i0 (by show i < n.tree.parent.length;omega) (goodT hGp.t) hGp.s (fun k hk hkl hl=>by obtain ⟨x1,x2,x3,x4,r⟩:=hGp.rn (i:=k) hkl;rw [elAt_get x1];exact (r.hn hk hl).1) hpk hpz hdp hup) fun x _=>?_
  refine t_app ?_
  refine go ?_;intros
  refine t_emp EStr ?_
  refine go ?_;intros
  refine sh_len (ys:=x.1.e.ys) fun _ w4=>?_
  refine sh_len (ys:=x.1.r.ys) fun _ w5=>?_
  refine sh_len (ys:=x.1.d.ys) fun _ w6=>?_
  refine sh_len (ys:=x.1.u.ys) fun _ w7=>?_
  refine t_read (E:=EC 2) (xs:=x.1.e.ys) fun _=>?_
  refine t_read (E:=EC 5) (xs:=x.1.r.ys) fun _=>?_
  refine t_read (E:=EC 1) (xs:=x.1.d.ys) fun _=>?_
  refine t_read (E:=EC 1) (xs:=x.1.u.ys) fun _=>?_
  refine endNet (upN (popU n i) i P) (l:=n.tree.parent) (N:=n.tree.parent.length) (congrArg Tree.parent (step_tree (htk0.trans htk))) rfl (goodNet_GN.1 hgm).l w4 w5 w6 w7 (a1:=w.a1) (c1:=w.c1) (a2:=x.2.a) (c2:=x.2.c) (a3:=x.2.a2) (c3:=x.2.c2) (a4:=y.a4) (c4:=y.c4) (a5:=y.a5) (c5:=y.c5) (a6:=y.a6) (c6:=y.c6) (a7:=y.a7) (c7:=y.c7) fun FN=>?_
  refine ret (⟨[.slice w.a1 n.tree.parent.length w.c1,.int .i64 ((upN (popU n i) i P).source).window.trail,.int .i64 ((upN (popU n i) i P).source).window.size,.slice x.2.a ((upN (popU n i) i P).source).window.items.length x.2.c,.int .i64 ((upN (popU n i) i P).source).clock,.int .i64 ((upN (popU n i) i P).source).quiet,.slice x.2.a2 ((upN (popU n i) i P).source).holds.length x.2.c2,.slice y.a4 n.tree.parent.length y.c4,.slice y.a5 n.tree.parent.length y.c5,.slice y.a6 n.tree.parent.length y.c6,.slice y.a7 n.tree.parent.length y.c7],FN,_,_,_⟩:StZ) trivial rfl
 by_cases k6:s.kind=6
 ·have hu:isUp s=true:=by unfold isUp;rw [decide_eq_true k6,Bool.or_true]
  have hq:∀h:i < n.up.length,queN n s=n.up[i]:=fun h=>by unfold queN;rw [hu,if_pos rfl,hi,Int.toNat_natCast];exact getN h []
  have hpo:poppedN n s=popU n i:=by unfold poppedN;rw [hu,if_pos rfl,hi,Int.toNat_natCast]
  refine go ?_;intros
  refine wg_if rfl rfl (fun g5=>?_) (fun g5=>?_)
  ·exact absurd g5 (by omega)
  refine go ?_;intros
  refine c_if rfl (fun g6=>?_) (fun g6=>?_)
  rotate_left
  ·exact absurd k6 g6
  refine go ?_;intros
  refine wg_if rfl rfl (fun h6=>?_) (fun h6=>?_)
  ·have e1:takenN n s=none:=by unfold takenN;rw [if_pos (by omega)]
   rw [show resStepNet n s=(zNet,[],false) by unfold resStepNet;rw [g1,g2,htk0,e1];rfl]
   refine t_nilsl EInt (by decide) ?_
   refine t_nilsl EStr (by decide) ?_
   refine t_nilsl EHold (by decide) ?_
   refine t_nilsl EElement (by decide) ?_
   refine t_nilsl EReceiver (by decide) ?_
   refine t_nilsl (ESl EPacket (by decide)) (by decide) ?_
   refine t_nilsl (ESl EPacket (by decide)) (by decide) ?_
   refine closeNet zNet (a1:=none) (c1:=0) (a2:=none) (c2:=0) (a3:=none) (c3:=0) (a4:=none) (c4:=0) (a5:=none) (c5:=0) (a6:=none) (c6:=0) (a7:=none) (c7:=0) ?_
   refine go ?_;intros
   refine t_emp EStr ?_
   refine go ?_;intros
   refine ret (⟨[.slice none 0 0,.int .i64 0,.int .i64 0,.slice none 0 0,.int .i64 0,.int .i64 0,.slice none 0 0,.slice none 0 0,.slice none 0 0,.slice none 0 0,.slice none 0 0],_,_,_,_⟩:StZ) trivial rfl
  have hil:i < n.up.length:=by omega
  have hq:=hq hil
  refine sh_len (ys:=yu) fun hm hlr=>?_
  refine sh_at (ys:=yu) (xs:=n.up) i hm (by omega) (by omega) fun h9 _ Gq=>?_
  refine isv_sl (x:=n.up[i]) fun a9 c9 e9 l9=>?_
  have e10:yu[i]=[.slice a9 n.up[i].length c9]:=by simpa using e9
  refine focF (E:=EC 1) (xs:=yu) (m:=1) (scal_EC 1) i ?_ (by repeat (first|exact .here|apply Pick.there)) rfl h9
  rintro _ gq Aq cs Bq ea j2 j3 hHq
  rw [ea]
  obtain ⟨j4, -, -⟩:=j3 w0
  rw [e10] at j4
  subst j4
  refine go ?_;intros
  refine c_if rfl (fun h7=>?_) (fun h7=>?_)
  ·have e1:takenN n s=none:=by unfold takenN;rw [if_neg (by omega),hq,if_pos (by omega)]
   rw [show resStepNet n s=(zNet,[],false) by unfold resStepNet;rw [g1,g2,htk0,e1];rfl]
   refine t_nilsl EInt (by decide) ?_
   refine t_nilsl EStr (by decide) ?_
   refine t_nilsl EHold (by decide) ?_
   refine t_nilsl EElement (by decide) ?_
   refine t_nilsl EReceiver (by decide) ?_
   refine t_nilsl (ESl EPacket (by decide)) (by decide) ?_
   refine t_nilsl (ESl EPacket (by decide)) (by decide) ?_
   refine closeNet zNet (a1:=none) (c1:=0) (a2:=none) (c2:=0) (a3:=none) (c3:=0) (a4:=none) (c4:=0) (a5:=none) (c5:=0) (a6:=none) (c6:=0) (a7:=none) (c7:=0) ?_
   refine go ?_;intros
   refine t_emp EStr ?_
   refine go ?_;intros
   refine ret (⟨[.slice none 0 0,.int .i64 0,.int .i64 0,.slice none 0 0,.int .i64 0,.int .i64 0,.slice none 0 0,.slice none 0 0,.slice none 0 0,.slice none 0 0,.slice none 0 0],_,_,_,_⟩:StZ) trivial rfl
  have h0:0 < n.up[i].length:=by omega
  refine atPacket (xs:=n.up[i]) 0 ?_
  rintro hi3 b3 o3 e3 s3
  rw [e3]
  refine go ?_;intros
  refine d_start [2,17] [10] ?_
  refine dt4 0 1 2 3 ?_
  refine dt4 4 5 6 7 ?_
  refine dN 8 ?_
  refine sld 1 fun a8 c8 F8=>?_
  refine dk ?_
  refine dt 9 ?_
  refine dN 10 ?_
  refine oS ?_
  refine dkx ?_
  refine dd ?_
  refine unfF (E:=EC 1) (xs:=yu) [.slice a8 (n.up[i].drop 1).length c8] hHq (fun _=>⟨rfl,⟨rfl,by simp [Value.oneCell']⟩,rfl⟩) ?_
  refine sl_isv (E:=EPacket) (x:=n.up[i].drop 1) (by decide) ?_
  refine sh_set (E:=ESl EPacket (by decide)) (ys:=yu) (xs:=n.up) (x:=n.up[i].drop 1) i rfl hm (by omega) fun Gv=>?_
  rw [←ea,show n.up.set i (n.up[i].drop 1)=(popU n i).up from (modify_set (by omega)).symm]
  have hmem:=popP_mem h0
  have hpk:goodPk (popP n.up[i])=true:=goodQ_mem (hq▸(que_good (s:=s) g1).1) hmem
  have hpz:(popP n.up[i]).data.size≤maxLen:=by
   have h9:=hpk
   unfold goodPk itm at h9
   simp only [Bool.and_eq_true,decide_eq_true_eq] at h9
   unfold maxLen;omega
  have hgp:goodNet (popU n i)=true:=hpo▸popped_good g1
  have hGp:=goodNet_GN.1 hgp
  have hPg:=popP_get h0
  rw [←hPg]
  generalize hP:popP n.up[i]=P at *
  have htk:takenN n s=some (popU n i,[]):=by
   unfold takenN
   rw [if_neg (by omega),hq,if_neg (by omega),hpo,hP,hi,Int.toNat_natCast]
   rw [if_neg (by omega),if_neg (by omega)]
  have hgm:=step_good g1 g2 (htk0.trans htk)
  rw [show resStepNet n s=(popU n i,[],true) by unfold resStepNet;rw [g1,g2,htk0,htk];rfl]
  refine go ?_;intros
  refine c_if rfl (fun k2=>?_) (fun k2=>?_)
  ·exact absurd k2 (by omega)
  refine go ?_;intros
  refine c_if rfl (fun m5=>?_) (fun m5=>?_)
  ·exact absurd m5 (by omega)
  refine go ?_;intros
  refine t_emp EStr ?_
  refine go ?_;intros
  refine sh_len (ys:=ye) fun _ w4=>?_
  refine sh_len (ys:=yr) fun _ w5=>?_
  refine sh_len (ys:=yd) fun _ w6=>?_
  refine sh_len (ys:=(yu.set i [.slice a8 (n.up[i].drop 1).length c8])) fun _ w7=>?_
  refine t_read (E:=EC 2) (xs:=ye) fun _=>?_
  refine t_read (E:=EC 5) (xs:=yr) fun _=>?_
  refine t_read (E:=EC 1) (xs:=yd) fun _=>?_
  refine t_read (E:=EC 1) (xs:=(yu.set i [.slice a8 (n.up[i].drop 1).length c8])) fun _=>?_
  refine endNet (popU n i) (l:=n.tree.parent) (N:=n.tree.parent.length) rfl rfl (goodNet_GN.1 hgm).l w4 w5 w6 w7 (a1:=w.a1) (c1:=w.c1) (a2:=w.s.a) (c2:=w.s.c) (a3:=w.s.a2) (c3:=w.s.c2) (a4:=y.a4) (c4:=y.c4) (a5:=y.a5) (c5:=y.c5) (a6:=y.a6) (c6:=y.c6) (a7:=y.a7) (c7:=y.c7) fun FN=>?_
  refine ret (⟨[.slice w.a1 n.tree.parent.length w.c1,.int .i64 ((popU n i).source).window.trail,.int .i64 ((popU n i).source).window.size,.slice w.s.a ((popU n i).source).window.items.length w.s.c,.int .i64 ((popU n i).source).clock,.int .i64 ((popU n i).source).quiet,.slice w.s.a2 ((popU n i).source).holds.length w.s.c2,.slice y.a4 n.tree.parent.length y.c4,.slice y.a5 n.tree.parent.length y.c5,.slice y.a6 n.tree.parent.length y.c6,.slice y.a7 n.tree.parent.length y.c7],FN,_,_,_⟩:StZ) trivial rfl
 have hu:isUp s=false:=by unfold isUp;rw [decide_eq_false k5,decide_eq_false k6];rfl
 have hq:∀h:i < n.down.length,queN n s=n.down[i]:=fun h=>by unfold queN;rw [hu,if_neg (by decide),hi,Int.toNat_natCast];exact getN h []
 have hpo:poppedN n s=popD n i:=by unfold poppedN;rw [hu,if_neg (by decide),hi,Int.toNat_natCast]
 refine go ?_;intros
 refine wg_if rfl rfl (fun g5=>?_) (fun g5=>?_)
 ·exact absurd g5 k5
 refine go ?_;intros
 refine c_if rfl (fun g6=>?_) (fun g6=>?_)
 ·exact absurd g6 k6
 refine go ?_;intros
 refine wg_if rfl rfl (fun h6=>?_) (fun h6=>?_)
 ·have e1:takenN n s=none:=by unfold takenN;rw [if_pos (by omega)]
  rw [show resStepNet n s=(zNet,[],false) by unfold resStepNet;rw [g1,g2,htk0,e1];rfl]
  refine t_nilsl EInt (by decide) ?_
  refine t_nilsl EStr (by decide) ?_
  refine t_nilsl EHold (by decide) ?_
  refine t_nilsl EElement (by decide) ?_
  refine t_nilsl EReceiver (by decide) ?_
  refine t_nilsl (ESl EPacket (by decide)) (by decide) ?_
  refine t_nilsl (ESl EPacket (by decide)) (by decide) ?_
  refine closeNet zNet (a1:=none) (c1:=0) (a2:=none) (c2:=0) (a3:=none) (c3:=0) (a4:=none) (c4:=0) (a5:=none) (c5:=0) (a6:=none) (c6:=0) (a7:=none) (c7:=0) ?_
  refine go ?_;intros
  refine t_emp EStr ?_
  refine go ?_;intros
  refine ret (⟨[.slice none 0 0,.int .i64 0,.int .i64 0,.slice none 0 0,.int .i64 0,.int .i64 0,.slice none 0 0,.slice none 0 0,.slice none 0 0,.slice none 0 0,.slice none 0 0],_,_,_,_⟩:StZ) trivial rfl
 have hil:i < n.down.length:=by omega
 have hq:=hq hil
 refine sh_len (ys:=yd) fun hm hlr=>?_
 refine sh_at (ys:=yd) (xs:=n.down) i hm (by omega) (by omega) fun h9 _ Gq=>?_
 refine isv_sl (x:=n.down[i]) fun a9 c9 e9 l9=>?_
 have e10:yd[i]=[.slice a9 n.down[i].length c9]:=by simpa using e9
 refine focF (E:=EC 1) (xs:=yd) (m:=1) (scal_EC 1) i ?_ (by repeat (first|exact .here|apply Pick.there)) rfl h9
 rintro _ gq Aq cs Bq ea j2 j3 hHq
 rw [ea]
 obtain ⟨j4, -, -⟩:=j3 w0
 rw [e10] at j4
 subst j4
 refine go ?_;intros
 refine c_if rfl (fun h7=>?_) (fun h7=>?_)
 ·have e1:takenN n s=none:=by unfold takenN;rw [if_neg (by omega),hq,if_pos (by omega)]
  rw [show resStepNet n s=(zNet,[],false) by unfold resStepNet;rw [g1,g2,htk0,e1];rfl]
  refine t_nilsl EInt (by decide) ?_
  refine t_nilsl EStr (by decide) ?_
  refine t_nilsl EHold (by decide) ?_
  refine t_nilsl EElement (by decide) ?_
  refine t_nilsl EReceiver (by decide) ?_
  refine t_nilsl (ESl EPacket (by decide)) (by decide) ?_
  refine t_nilsl (ESl EPacket (by decide)) (by decide) ?_
  refine closeNet zNet (a1:=none) (c1:=0) (a2:=none) (c2:=0) (a3:=none) (c3:=0) (a4:=none) (c4:=0) (a5:=none) (c5:=0) (a6:=none) (c6:=0) (a7:=none) (c7:=0) ?_
  refine go ?_;intros
  refine t_emp EStr ?_
  refine go ?_;intros
  refine ret (⟨[.slice none 0 0,.int .i64 0,.int .i64 0,.slice none 0 0,.int .i64 0,.int .i64 0,.slice none 0 0,.slice none 0 0,.slice none 0 0,.slice none 0 0,.slice none 0 0],_,_,_,_⟩:StZ) trivial rfl
 have h0:0 < n.down[i].length:=by omega
 refine atPacket (xs:=n.down[i]) 0 ?_
 rintro hi3 b3 o3 e3 s3
 rw [e3]
 refine go ?_;intros
 refine d_start [2,17] [10] ?_
 refine dt4 0 1 2 3 ?_
 refine dt4 4 5 6 7 ?_
 refine dN 8 ?_
 refine sld 1 fun a8 c8 F8=>?_
 refine dk ?_
 refine dt 9 ?_
 refine dN 10 ?_
 refine oS ?_
 refine dkx ?_
 refine dd ?_
 refine unfF (E:=EC 1) (xs:=yd) [.slice a8 (n.down[i].drop 1).length c8] hHq (fun _=>⟨rfl,⟨rfl,by simp [Value.oneCell']⟩,rfl⟩) ?_
 refine sl_isv (E:=EPacket) (x:=n.down[i].drop 1) (by decide) ?_
 refine sh_set (E:=ESl EPacket (by decide)) (ys:=yd) (xs:=n.down) (x:=n.down[i].drop 1) i rfl hm (by omega) fun Gv=>?_
 rw [←ea,show n.down.set i (n.down[i].drop 1)=(popD n i).down from (modify_set (by omega)).symm]
 have hmem:=popP_mem h0
 have hpk:goodPk (popP n.down[i])=true:=goodQ_mem (hq▸(que_good (s:=s) g1).1) hmem
 have hpz:(popP n.down[i]).data.size≤maxLen:=by
  have h9:=hpk
  unfold goodPk itm at h9
  simp only [Bool.and_eq_true,decide_eq_true_eq] at h9
  unfold maxLen;omega
 have hgp:goodNet (popD n i)=true:=hpo▸popped_good g1
 have hGp:=goodNet_GN.1 hgp
 have hPg:=popP_get h0
 rw [←hPg]
 generalize hP:popP n.down[i]=P at *
 have htk:takenN n s=if s.kind=2 then some (delivN (popD n i) i P) else some (popD n i,[]):=by
  unfold takenN
  rw [if_neg (by omega),hq,if_neg (by omega),hpo,hP,hi,Int.toNat_natCast]
  split
  ·rfl
  ·first|rfl|rw [if_neg k5]
 have hdp:∀q∈(popD n i).down,q.length≤6:=fun q hq=>(goodQ_len ((good_els hgp).2.2.1 q hq)).1
 refine go ?_;intros
 refine c_if rfl (fun k2=>?_) (fun k2=>?_)
 ·rw [if_pos k2] at htk
  have hgm:=step_good g1 g2 (htk0.trans htk)
  rw [show resStepNet n s=((delivN (popD n i) i P).1,(delivN (popD n i) i P).2,true) by unfold resStepNet;rw [g1,g2,htk0,htk];rfl]
  refine go ?_;intros
  have hls:(delivN (popD n i) i P).1.source=n.source:=by unfold delivN;split <;> rfl
  refine d_start [4,8,20] [] ?_
  refine dt4 0 1 2 3 ?_
  refine dt 4 ?_
  refine dN 5 ?_
  refine oC ?_
  refine cf (l15Deliver_f (popD n i) i P w.a1 w.c1 y.a4 y.c4 y.a5 y.c5 y.a6 y.c6 y.a7 y.c7 w.s.a w.s.a2 n.source.window.items.length w.s.c n.source.holds.length w.s.c2 _ _ _ _ Ft ⟨⟨ye,Fe,He⟩,⟨yr,Fr,Hr⟩,⟨yd.set i [.slice a8 (n.down[i].drop 1).length c8],[gq],Gv⟩,⟨yu,Fu,Hu⟩⟩ FT hGp.l (by show i < n.tree.parent.length;omega) (by omega) (goodT hGp.t) (fun hl=>by obtain ⟨x1,x2,x3,x4,r⟩:=hGp.rn (i:=i) (by show i < n.tree.parent.length;omega);rw [rcAt_get x2];exact (r.hf i0 hl).2.1) (fun hl=>by obtain ⟨x1,x2,x3,x4,r⟩:=hGp.rn (i:=i) (by show i < n.tree.parent.length;omega);rw [elAt_get x1];exact (r.hn i0 hl).1) hpk hpz hdp) fun x _=>?_
  refine t_app ?_
  refine dk ?_
  refine dN 6 ?_
  refine oS ?_
  refine dk ?_
  refine dt2 7 8 ?_
  refine dd ?_
  refine go ?_;intros
  rw [←hls]
  refine sh_len (ys:=x.1.e.ys) fun _ w4=>?_
  refine sh_len (ys:=x.1.r.ys) fun _ w5=>?_
  refine sh_len (ys:=x.1.d.ys) fun _ w6=>?_
  refine sh_len (ys:=x.1.u.ys) fun _ w7=>?_
  refine t_read (E:=EC 2) (xs:=x.1.e.ys) fun _=>?_
  refine t_read (E:=EC 5) (xs:=x.1.r.ys) fun _=>?_
  refine t_read (E:=EC 1) (xs:=x.1.d.ys) fun _=>?_
  refine t_read (E:=EC 1) (xs:=x.1.u.ys) fun _=>?_
  refine endNet ((delivN (popD n i) i P).1) (l:=n.tree.parent) (N:=n.tree.parent.length) (congrArg Tree.parent (step_tree (htk0.trans htk))) rfl (goodNet_GN.1 hgm).l w4 w5 w6 w7 (a1:=w.a1) (c1:=w.c1) (a2:=w.s.a) (c2:=w.s.c) (a3:=w.s.a2) (c3:=w.s.c2) (a4:=y.a4) (c4:=y.c4) (a5:=y.a5) (c5:=y.c5) (a6:=y.a6) (c6:=y.c6) (a7:=y.a7) (c7:=y.c7) fun FN=>?_
  refine ret (⟨[.slice w.a1 n.tree.parent.length w.c1,.int .i64 (((delivN (popD n i) i P).1).source).window.trail,.int .i64 (((delivN (popD n i) i P).1).source).window.size,.slice w.s.a (((delivN (popD n i) i P).1).source).window.items.length w.s.c,.int .i64 (((delivN (popD n i) i P).1).source).clock,.int .i64 (((delivN (popD n i) i P).1).source).quiet,.slice w.s.a2 (((delivN (popD n i) i P).1).source).holds.length w.s.c2,.slice y.a4 n.tree.parent.length y.c4,.slice y.a5 n.tree.parent.length y.c5,.slice y.a6 n.tree.parent.length y.c6,.slice y.a7 n.tree.parent.length y.c7],FN,x.2.a,x.2.c,x.2.F⟩:StZ) trivial rfl
 ·rw [if_neg k2] at htk
  have hgm:=step_good g1 g2 (htk0.trans htk)
  rw [show resStepNet n s=(popD n i,[],true) by unfold resStepNet;rw [g1,g2,htk0,htk];rfl]
  refine go ?_;intros
  refine c_if rfl (fun m5=>?_) (fun m5=>?_)
  ·exact absurd m5 k5
  refine go ?_;intros
  refine t_emp EStr ?_
  refine go ?_;intros
  refine sh_len (ys:=ye) fun _ w4=>?_
  refine sh_len (ys:=yr) fun _ w5=>?_
  refine sh_len (ys:=(yd.set i [.slice a8 (n.down[i].drop 1).length c8])) fun _ w6=>?_
  refine sh_len (ys:=yu) fun _ w7=>?_
  refine t_read (E:=EC 2) (xs:=ye) fun _=>?_
  refine t_read (E:=EC 5) (xs:=yr) fun _=>?_
  refine t_read (E:=EC 1) (xs:=(yd.set i [.slice a8 (n.down[i].drop 1).length c8])) fun _=>?_
  refine t_read (E:=EC 1) (xs:=yu) fun _=>?_
  refine endNet (popD n i) (l:=n.tree.parent) (N:=n.tree.parent.length) rfl rfl (goodNet_GN.1 hgm).l w4 w5 w6 w7 (a1:=w.a1) (c1:=w.c1) (a2:=w.s.a) (c2:=w.s.c) (a3:=w.s.a2) (c3:=w.s.c2) (a4:=y.a4) (c4:=y.c4) (a5:=y.a5) (c5:=y.c5) (a6:=y.a6) (c6:=y.c6) (a7:=y.a7) (c7:=y.c7) fun FN=>?_
  refine ret (⟨[.slice w.a1 n.tree.parent.length w.c1,.int .i64 ((popD n i).source).window.trail,.int .i64 ((popD n i).source).window.size,.slice w.s.a ((popD n i).source).window.items.length w.s.c,.int .i64 ((popD n i).source).clock,.int .i64 ((popD n i).source).quiet,.slice w.s.a2 ((popD n i).source).holds.length w.s.c2,.slice y.a4 n.tree.parent.length y.c4,.slice y.a5 n.tree.parent.length y.c5,.slice y.a6 n.tree.parent.length y.c6,.slice y.a7 n.tree.parent.length y.c7],FN,_,_,_⟩:StZ) trivial rfl
end Go.Proofs.YtgmbfohkpfineaaGreatDoor
namespace Go.Proofs.YtgmbfohkpfineaaGreatDoor

open Go.RowKit
end Go.Proofs.YtgmbfohkpfineaaGreatDoor
namespace Go.Proofs.YtgmbfohkpfineaaGreatDoor
open Go.RowKit
structure DqS where
 x:NE
 b:Bool
 cs:List Value
 F:List Nat
 a:Option Addr
 c:Nat
 Fe:List Nat
structure DqK where
 k:Nat
 cs:List Value
 F:List Nat
 a:Option Addr
 c:Nat
 Fe:List Nat
theorem res_none {n:Net} {s:Step} (e:stepN n s=none):resStepNet n s=(zNet,[],false):=by
 unfold resStepNet
 split
 ·rw [e]
 ·rfl
theorem res_some {n:Net} {s:Step} {r:NE} (g1:goodNet n=true) (g2:okStep s=true) (e:stepN n s=some r):resStepNet n s=(r.1,r.2,true):=by unfold resStepNet;rw [g1,g2,e];rfl
structure FnS where
 k:Nat
 z:NV
 a:Option Addr
 c:Nat
 F:List Nat
structure FqS where
 k:Nat
 cs:List Value
 F:List Nat
 a:Option Addr
 c:Nat
 Fe:List Nat
theorem IdxSt_f (fid:FuncId) (bd caps:List Value) (A:List Pc) (hA:A.all (fun p=>!p.mu)=true) (xs:List Step) (a:Option Addr) (c:Nat) (F:List Nat) (p:Step→Bool) (hb:bodyB Tryz.prog fid=true) (hl:xs.length≤1000000000)
  (hp:∀x∈xs,∀w,Hol A w→Calls Tryz.prog fid (bd++[(.agg #[.int .i64 (x).kind,.int .i64 (x).node,.string (x).data]:Value)]++caps).toArray w fun e w'=>e=.returned (.bool (p x))∧Below w.heap.size w w') :
  Fn Tryz.prog 214 [.slice a xs.length c,.func (.func fid) bd.toArray caps.toArray] (.sl EStep (.slice a xs.length c) xs F::A) [] (fun (_:Unit)=>True) (fun _=>.int .i64 (fidx p xs)) (fun _=>[]):=by
 refine enter Tryz.func214 rfl Tryz.ntmps214 (fun w0=>?_) rfl (by simpa [Pc.mu] using hA) .nil
 refine go ?_;intros
 refine c_loopR [0,1,4,7] (fun k:Nat=>[(8,.int .i64 (k:Nat))]) (fun k=>k≤xs.length∧∀j (_:j < k) (hj:j < xs.length),p xs[j]=false) (fun k=>xs.length - k) 0 ⟨Nat.zero_le _,fun j h=>by omega⟩ fun k hk=>?_
 obtain ⟨hk1,hk2⟩:=hk
 refine go ?_;intros
 refine c_if rfl (fun h5=>?_) (fun h5=>?_)
 ·have hh:k < xs.length:=by omega
  refine go ?_;intros
  refine atStep (xs:=xs) k ?_
  rintro hi b o e sz
  rw [e]
  refine go ?_;intros
  apply wO
  refine o_callb rfl rfl hb evsE ?_
  refine cb (fun w st=>hp xs[k] (List.getElem_mem hh) w (fun q hq=>st.on q (by simp [hq]))) ?_
  cases hpk:p xs[k]
  ·refine go ?_;intros
   refine t_drop ?_
   refine n_lp (hH:=hsub_refl _) (k+1) ⟨hh,fun j hj h=>?_⟩ (by omega)
   rcases Nat.lt_or_eq_of_le (Nat.lt_succ_iff.1 hj) with h2|rfl
   ·exact hk2 j h2 h
   ·exact hpk
  ·refine go ?_;intros
   refine ret () trivial ?_
   rw [fidx_hit hh hk2 hpk];rfl
 ·obtain rfl:k=xs.length:=by omega
  refine go ?_;intros
  refine ret () trivial ?_
  rw [fidx_none (fun j hj=>hk2 j hj hj)];rfl
theorem ConSt_f (fid:FuncId) (bd caps:List Value) (A:List Pc) (hA:A.all (fun p=>!p.mu)=true) (xs:List Step) (a:Option Addr) (c:Nat) (F:List Nat) (p:Step→Bool) (hb:bodyB Tryz.prog fid=true) (hl:xs.length≤1000000000)
  (hp:∀x∈xs,∀w,Hol A w→Calls Tryz.prog fid (bd++[(.agg #[.int .i64 (x).kind,.int .i64 (x).node,.string (x).data]:Value)]++caps).toArray w fun e w'=>e=.returned (.bool (p x))∧Below w.heap.size w w') :
  Fn Tryz.prog 139 [.slice a xs.length c,.func (.func fid) bd.toArray caps.toArray] (.sl EStep (.slice a xs.length c) xs F::A) [] (fun (_:Unit)=>True) (fun _=>.bool (xs.any p)) (fun _=>[]):=by
 refine enter Tryz.func139 rfl Tryz.ntmps139 (fun w0=>?_) rfl (by simpa [Pc.mu] using hA) .nil
 refine go ?_;intros
 refine cb (fun w st=>(IdxSt_f fid bd caps A hA xs a c F p hb hl hp).val w (fun q hq=>st.on q (by simpa using hq)) (by simpa [Pc.mu] using hA)) ?_
 refine go ?_;intros
 refine ret () trivial ?_
 rw [fidx_any];rfl
theorem run_no {n:Net} {l:List Step} (h:okRun n l=false):resRunNet n l=(zNet,[],0,false):=by unfold resRunNet;rw [h];rfl
theorem run_yes {n:Net} {l:List Step} (h:okRun n l=true) {q:NE × Nat} (e:runL (n,[]) l 0=q):resRunNet n l=(q.1.1,q.1.2,(q.2:Int),true):=by unfold resRunNet;rw [h,e];rfl
theorem okRun_iff {n:Net} {l:List Step}:okRun n l=true↔goodNet n=true∧l.length≤30∧∀s∈l,okStep s=true:=by
 unfold okRun
 simp only [Bool.and_eq_true,decide_eq_true_eq,List.all_eq_true]
 exact ⟨fun ⟨⟨a,b⟩,c⟩=>⟨a,b,c⟩,fun ⟨a,b,c⟩=>⟨⟨a,b⟩,c⟩⟩
theorem run_at {l:List Step} {i:Nat} (hi:i < l.length) (x:NE):runL x (l.drop i) i=match stepN x.1 l[i] with
  | none=>(x,i)
  | some y=>runL (y.1,x.2++y.2) (l.drop (i+1)) (i+1):=by
 rw [List.drop_eq_getElem_cons hi];rfl
structure RnS where
 i:Nat
 x:NE
 z:NV
 a:Option Addr
 c:Nat
 F:List Nat
structure RqS where
 i:Nat
 x:NE
 cs:List Value
 F:List Nat
 a:Option Addr
 c:Nat
 Fe:List Nat
theorem ars1_f (s:Step) (hs:s.data.size≤maxLen):Fn Tryz.prog 140 [.agg #[.int .i64 (s).kind,.int .i64 (s).node,.string (s).data]] [] [] (fun (_:Unit)=>True) (fun _=>.bool (!okStep s)) (fun _=>[]):=by
 refine enter Tryz.func140 rfl Tryz.ntmps140 fun w0=>?_
 refine go ?_;intros
 refine cf (IsValidStep_f s hs) fun _ _=>?_
 refine t_app ?_
 refine go ?_;intros
 refine ret () trivial rfl
theorem areSteps_f (l:List Step) (a:Option Addr) (c:Nat) (F:List Nat) (hl:l.length≤9223372036854775807):Fn Tryz.prog 68 [.slice a l.length c,.int .i64 30] [.sl EStep (.slice a l.length c) l F] [] (fun (_:Unit)=>True) (fun _=>.bool (decide (l.length≤30) && l.all okStep)) (fun _=>[]):=by
 refine enter Tryz.func68 rfl Tryz.ntmps68 fun w0=>?_
 refine t_each (E:=EStep) (xs:=l) (fun s:Step=>s.data.size≤maxLen) (fun w cs x F h=>by obtain ⟨_,h,_⟩:=h;exact h) ?_
 intro hz
 refine go ?_;intros
 refine wg_if rfl rfl (fun h1=>?_) (fun h1=>?_)
 ·refine go ?_;intros
  refine cb (fun w st=>(ConSt_f 140 [] [] [] rfl l a c F (fun s=>!okStep s) (by kernel_rfl) (by omega) (fun s hs w _=>(ars1_f s (hz s hs)).val w (by intro q hq;cases hq))).val w (hol1 (st.get (p:=.sl EStep (.slice a l.length c) l F) (by exact memE)))) ?_
  refine go ?_;intros
  refine ret () trivial ?_
  rw [decide_eq_true (show l.length≤30 by omega),List.not_any_eq_all_not];simp;rfl
 ·refine go ?_;intros
  refine ret () trivial ?_
  rw [decide_eq_false (show ¬l.length≤30 by omega)];rfl
theorem RunNet_f (n:Net) (l:List Step) (v:Value) (F:List Nat) (a:Option Addr) (c:Nat) (Fl FT:List Nat):Fn Tryz.prog 26 [v,.slice a l.length c] [.isv ENet v n F,.sl EStep (.slice a l.length c) l Fl,EnvP FT] [] (fun (_:StZ)=>True) (fun z=>.tuple #[.agg z.cs.toArray,.slice z.a (resRunNet n l).2.1.length z.c,.int .i64 (resRunNet n l).2.2.1,.bool (resRunNet n l).2.2.2]) (fun z=>[.own ONet (.agg z.cs.toArray) (resRunNet n l).1 z.F,.ow EStr 9 (.slice z.a (resRunNet n l).2.1.length z.c) (resRunNet n l).2.1 z.Fe]):=by
 refine enter Tryz.func26 rfl Tryz.ntmps26 fun w0=>?_
 refine t_each (E:=EStep) (xs:=l) (fun s:Step=>s.data.size≤maxLen) (fun w cs x F h=>by obtain ⟨_,h,_⟩:=h;exact h) ?_
 intro hz
 refine t_sl (E:=EStep) (xs:=l) ?_
 rintro a0 c0 e0 hl1 hl2
 simp only [Value.slice.injEq,true_and] at e0
 obtain ⟨rfl,rfl⟩:=e0
 refine openNet ?_
 rintro a1 c1 F1 a2 c2 F2 a3 c3 F3 a4 c4 F4 a5 c5 F5 a6 c6 F6 a7 c7 F7 rfl l1 l2 l3 l4 l5 l6 l7
 refine t_nilow EInt 3 ?_
 refine t_nilow EStr 9 ?_
 refine t_nilow EHold 194 ?_
 refine t_nilow OElement 142 ?_
 refine t_nilow OReceiver 149 ?_
 refine t_nilow (OSl EPacket 127) 132 ?_
 refine t_nilow (OSl EPacket 127) 132 ?_
 refine closeONet zNet ?_
 refine t_nilow EStr 9 ?_
 refine go ?_;intros
 refine cf (IsValidNet_f n _ F) fun _ _=>?_
 refine t_app ?_
 cases g1:goodNet n
 ·rw [run_no (n:=n) (l:=l) (by unfold okRun;rw [g1];rfl)]
  refine go ?_;intros
  refine ret (⟨[.slice none 0 0,.int .i64 0,.int .i64 0,.slice none 0 0,.int .i64 0,.int .i64 0,.slice none 0 0,.slice none 0 0,.slice none 0 0,.slice none 0 0,.slice none 0 0],_,none,0,[]⟩:StZ) trivial rfl
 refine go ?_;intros
 refine cf (areSteps_f l a c Fl (by omega)) fun _ _=>?_
 refine t_app ?_
 cases g2:(decide (l.length≤30) && l.all okStep)
 ·rw [run_no (n:=n) (l:=l) (by unfold okRun;rw [Bool.and_assoc,g1,g2];rfl)]
  refine go ?_;intros
  refine ret (⟨[.slice none 0 0,.int .i64 0,.int .i64 0,.slice none 0 0,.int .i64 0,.int .i64 0,.slice none 0 0,.slice none 0 0,.slice none 0 0,.slice none 0 0,.slice none 0 0],_,none,0,[]⟩:StZ) trivial rfl
 have hok:okRun n l=true:=by unfold okRun;rw [Bool.and_assoc,g1,g2];rfl
 obtain ⟨-,h30,hall⟩:=okRun_iff.1 hok
 refine go ?_;intros
 refine cf (Nclone_f n _ F (small_of_good g1)) fun z _=>?_
 refine t_app ?_
 refine go ?_;intros
 rename_i g
 refine t_nilow EStr 9 ?_
 refine go ?_;intros
 refine c_loopS [1,4,8,25,26] (fun s:RnS=>[(9,.slice s.a s.x.2.length s.c),(27,.int .i64 (s.i:Nat))]) (fun s=>[.row g 49 0 [] [.slice s.z.a1 s.x.1.tree.parent.length s.z.c1,.int .i64 s.x.1.source.window.trail,.int .i64 s.x.1.source.window.size,.slice s.z.a2 s.x.1.source.window.items.length s.z.c2,.int .i64 s.x.1.source.clock,.int .i64 s.x.1.source.quiet,.slice s.z.a3 s.x.1.source.holds.length s.z.c3,.slice s.z.a4 s.x.1.elements.length s.z.c4,.slice s.z.a5 s.x.1.receivers.length s.z.c5,.slice s.z.a6 s.x.1.down.length s.z.c6,.slice s.z.a7 s.x.1.up.length s.z.c7] [],.ow EInt 3 (.slice s.z.a1 s.x.1.tree.parent.length s.z.c1) s.x.1.tree.parent s.z.F1,.ow EStr 9 (.slice s.z.a2 s.x.1.source.window.items.length s.z.c2) s.x.1.source.window.items s.z.F2,.ow EHold 194 (.slice s.z.a3 s.x.1.source.holds.length s.z.c3) s.x.1.source.holds s.z.F3,.ow OElement 142 (.slice s.z.a4 s.x.1.elements.length s.z.c4) s.x.1.elements s.z.F4,.ow OReceiver 149 (.slice s.z.a5 s.x.1.receivers.length s.z.c5) s.x.1.receivers s.z.F5,.ow (OSl EPacket 127) 132 (.slice s.z.a6 s.x.1.down.length s.z.c6) s.x.1.down s.z.F6,.ow (OSl EPacket 127) 132 (.slice s.z.a7 s.x.1.up.length s.z.c7) s.x.1.up s.z.F7,.ow EStr 9 (.slice s.a s.x.2.length s.c) s.x.2 s.F]) (fun s=>s.i≤l.length∧goodNet s.x.1=true∧s.x.2.length≤400000 * s.i∧runL s.x (l.drop s.i) s.i=runL (n,[]) l 0) (fun s=>l.length - s.i) ⟨0,(n,[]),z,none,0,[]⟩ ⟨Nat.zero_le _,g1,Nat.le_refl _,rfl⟩ fun s hs0=>?_
 obtain ⟨i,x,⟨x1,w1,K1,x2,w2,K2,x3,w3,K3,x4,w4,K4,x5,w5,K5,x6,w6,K6,x7,w7,K7⟩,ea,ec,eF⟩:=s
 obtain ⟨hi,gx,hx,hR⟩:=hs0
 dsimp only at hi gx hx hR ⊢
 refine go ?_;intros
 refine c_if rfl (fun h4=>?_) (fun h4=>?_)
 ·have hil:i < l.length:=by omega
  have hok1:=hall l[i] (List.getElem_mem hil)
  rw [run_at hil] at hR
  refine atStep (xs:=l) i ?_
  rintro hi2 b9 o9 e9 s9
  rw [e9]
  refine go ?_;intros
  refine cf (step_g x.1 l[i] g x1 w1 K1 x2 w2 K2 x3 w3 K3 x4 w4 K4 x5 w5 K5 x6 w6 K6 x7 w7 K7 FT gx hok1 s9) fun y _=>?_
  refine t_app ?_
  cases e:stepN x.1 l[i] with
  | none =>
   rw [e] at hR
   rw [run_yes hok hR.symm]
   refine go ?_;intros
   refine closeONet x.1 ?_
   refine ret (⟨[.slice y.1.a1 x.1.tree.parent.length y.1.c1,.int .i64 x.1.source.window.trail,.int .i64 x.1.source.window.size,.slice y.1.a2 x.1.source.window.items.length y.1.c2,.int .i64 x.1.source.clock,.int .i64 x.1.source.quiet,.slice y.1.a3 x.1.source.holds.length y.1.c3,.slice y.1.a4 x.1.elements.length y.1.c4,.slice y.1.a5 x.1.receivers.length y.1.c5,.slice y.1.a6 x.1.down.length y.1.c6,.slice y.1.a7 x.1.up.length y.1.c7],_,_,_,_⟩:StZ) trivial rfl
  | some r =>
   rw [e] at hR
   have hr:=step_good gx hok1 e
   have hf:=step_few gx hok1 e
   have hl9:(x.2++r.2).length=x.2.length+r.2.length:=List.length_append
   change T _ _ (.row g 49 0 [] [.slice y.1.a1 r.1.tree.parent.length y.1.c1,.int .i64 r.1.source.window.trail,.int .i64 r.1.source.window.size,.slice y.1.a2 r.1.source.window.items.length y.1.c2,.int .i64 r.1.source.clock,.int .i64 r.1.source.quiet,.slice y.1.a3 r.1.source.holds.length y.1.c3,.slice y.1.a4 r.1.elements.length y.1.c4,.slice y.1.a5 r.1.receivers.length y.1.c5,.slice y.1.a6 r.1.down.length y.1.c6,.slice y.1.a7 r.1.up.length y.1.c7] []::.ow EInt 3 (.slice y.1.a1 r.1.tree.parent.length y.1.c1) r.1.tree.parent y.1.F1::.ow EStr 9 (.slice y.1.a2 r.1.source.window.items.length y.1.c2) r.1.source.window.items y.1.F2::.ow EHold 194 (.slice y.1.a3 r.1.source.holds.length y.1.c3) r.1.source.holds y.1.F3::.ow OElement 142 (.slice y.1.a4 r.1.elements.length y.1.c4) r.1.elements y.1.F4::.ow OReceiver 149 (.slice y.1.a5 r.1.receivers.length y.1.c5) r.1.receivers y.1.F5::.ow (OSl EPacket 127) 132 (.slice y.1.a6 r.1.down.length y.1.c6) r.1.down y.1.F6::.ow (OSl EPacket 127) 132 (.slice y.1.a7 r.1.up.length y.1.c7) r.1.up y.1.F7::.ow EStr 9 (.slice y.2.a r.2.length y.2.c) r.2 y.2.F::_) _
   refine t_read (E:=EStr) (xs:=r.2) fun F8=>?_
   refine go ?_;intros
   apply wO
   refine aps (E:=EStr) (xs:=x.2) (ys:=r.2) one_EStr scal_EStr fun a9 c9 F9=>?_
   refine go ?_;intros
   refine n_lp ⟨i+1,(r.1,x.2++r.2),y.1,a9,c9,F9⟩ ⟨hil,hr,by show (x.2++r.2).length≤400000 * (i+1);omega,hR⟩ (by show l.length - (i+1) < l.length - i;omega)
 ·obtain rfl:i=l.length:=by omega
  rw [List.drop_length] at hR
  rw [run_yes hok hR.symm]
  refine go ?_;intros
  refine closeONet x.1 ?_
  refine ret (⟨[.slice x1 x.1.tree.parent.length w1,.int .i64 x.1.source.window.trail,.int .i64 x.1.source.window.size,.slice x2 x.1.source.window.items.length w2,.int .i64 x.1.source.clock,.int .i64 x.1.source.quiet,.slice x3 x.1.source.holds.length w3,.slice x4 x.1.elements.length w4,.slice x5 x.1.receivers.length w5,.slice x6 x.1.down.length w6,.slice x7 x.1.up.length w7],_,_,_,_⟩:StZ) trivial rfl
theorem specRunNet_f (n:Net) (l:List Step) (v:Value) (F:List Nat) (a:Option Addr) (c:Nat) (Fl FT:List Nat):Fn Tryz.prog 24 [v,.slice a l.length c] [.isv ENet v n F,.sl EStep (.slice a l.length c) l Fl,EnvP FT] [] (fun (_:StZ)=>True) (fun z=>.tuple #[.agg z.cs.toArray,.slice z.a (resRunNet n l).2.1.length z.c,.int .i64 (resRunNet n l).2.2.1,.bool (resRunNet n l).2.2.2]) (fun z=>[.isv ENet (.agg z.cs.toArray) (resRunNet n l).1 z.F,.ow EStr 9 (.slice z.a (resRunNet n l).2.1.length z.c) (resRunNet n l).2.1 z.Fe]):=by
 refine enter Tryz.func24 rfl Tryz.ntmps24 fun w0=>?_
 refine t_each (E:=EStep) (xs:=l) (fun s:Step=>s.data.size≤maxLen) (fun w cs x F h=>by obtain ⟨_,h,_⟩:=h;exact h) ?_
 intro hz
 refine t_sl (E:=EStep) (xs:=l) ?_
 rintro a0 c0 e0 hl1 hl2
 simp only [Value.slice.injEq,true_and] at e0
 obtain ⟨rfl,rfl⟩:=e0
 refine openNet ?_
 rintro a1 c1 F1 a2 c2 F2 a3 c3 F3 a4 c4 F4 a5 c5 F5 a6 c6 F6 a7 c7 F7 rfl l1 l2 l3 l4 l5 l6 l7
 refine go ?_;intros
 refine cf (l15Good_f n _ F) fun _ _=>?_
 refine t_app ?_
 refine t_emp EStr ?_
 cases g1:goodNet n
 ·rw [run_no (n:=n) (l:=l) (by unfold okRun;rw [g1];rfl)]
  refine t_nilsl EInt (by decide) ?_
  refine t_nilsl EStr (by decide) ?_
  refine t_nilsl EHold (by decide) ?_
  refine t_nilsl EElement (by decide) ?_
  refine t_nilsl EReceiver (by decide) ?_
  refine t_nilsl (ESl EPacket (by decide)) (by decide) ?_
  refine t_nilsl (ESl EPacket (by decide)) (by decide) ?_
  refine closeNet zNet (a1:=none) (c1:=0) (a2:=none) (c2:=0) (a3:=none) (c3:=0) (a4:=none) (c4:=0) (a5:=none) (c5:=0) (a6:=none) (c6:=0) (a7:=none) (c7:=0) ?_
  refine go ?_;intros
  refine ret (⟨[.slice none 0 0,.int .i64 0,.int .i64 0,.slice none 0 0,.int .i64 0,.int .i64 0,.slice none 0 0,.slice none 0 0,.slice none 0 0,.slice none 0 0,.slice none 0 0],_,_,_,_⟩:StZ) trivial rfl
 refine go ?_;intros
 refine c_if rfl (fun h3=>?_) (fun h3=>?_)
 ·rw [run_no (n:=n) (l:=l) (by unfold okRun;rw [decide_eq_false (show ¬l.length≤30 by omega)];simp)]
  refine t_nilsl EInt (by decide) ?_
  refine t_nilsl EStr (by decide) ?_
  refine t_nilsl EHold (by decide) ?_
  refine t_nilsl EElement (by decide) ?_
  refine t_nilsl EReceiver (by decide) ?_
  refine t_nilsl (ESl EPacket (by decide)) (by decide) ?_
  refine t_nilsl (ESl EPacket (by decide)) (by decide) ?_
  refine closeNet zNet (a1:=none) (c1:=0) (a2:=none) (c2:=0) (a3:=none) (c3:=0) (a4:=none) (c4:=0) (a5:=none) (c5:=0) (a6:=none) (c6:=0) (a7:=none) (c7:=0) ?_
  refine go ?_;intros
  refine ret (⟨[.slice none 0 0,.int .i64 0,.int .i64 0,.slice none 0 0,.int .i64 0,.int .i64 0,.slice none 0 0,.slice none 0 0,.slice none 0 0,.slice none 0 0,.slice none 0 0],_,_,_,_⟩:StZ) trivial rfl
 have h30:l.length≤30:=by omega
 refine go ?_;intros
 refine c_loopR [0,1,2,4,8] (fun k:Nat=>[(9,.int .i64 (k:Nat))]) (fun k=>k≤l.length∧∀j,j < k→∀h:j < l.length,okStep l[j]=true) (fun k=>l.length - k) 0 ⟨Nat.zero_le _,fun j h=>by omega⟩ fun k hk=>?_
 obtain ⟨hk1,hk2⟩:=hk
 refine go ?_;intros
 refine c_if rfl (fun h5=>?_) (fun h5=>?_)
 ·have hkl:k < l.length:=by omega
  refine atStep (xs:=l) k ?_
  rintro hi2 b9 o9 e9 s9
  rw [e9]
  refine go ?_;intros
  refine cf (l15Step_f l[k] s9) fun _ _=>?_
  refine t_app ?_
  cases g2:okStep l[k]
  ·rw [run_no (n:=n) (l:=l) (by unfold okRun;rw [show l.all okStep=false from List.all_eq_false.2 ⟨l[k],List.getElem_mem hkl,by simp [g2]⟩];simp)]
   refine t_nilsl EInt (by decide) ?_
   refine t_nilsl EStr (by decide) ?_
   refine t_nilsl EHold (by decide) ?_
   refine t_nilsl EElement (by decide) ?_
   refine t_nilsl EReceiver (by decide) ?_
   refine t_nilsl (ESl EPacket (by decide)) (by decide) ?_
   refine t_nilsl (ESl EPacket (by decide)) (by decide) ?_
   refine closeNet zNet (a1:=none) (c1:=0) (a2:=none) (c2:=0) (a3:=none) (c3:=0) (a4:=none) (c4:=0) (a5:=none) (c5:=0) (a6:=none) (c6:=0) (a7:=none) (c7:=0) ?_
   refine go ?_;intros
   refine ret (⟨[.slice none 0 0,.int .i64 0,.int .i64 0,.slice none 0 0,.int .i64 0,.int .i64 0,.slice none 0 0,.slice none 0 0,.slice none 0 0,.slice none 0 0,.slice none 0 0],_,_,_,_⟩:StZ) trivial rfl
  ·refine go ?_;intros
   refine n_lp (k+1) ⟨hkl,fun j hj h=>?_⟩ (by show l.length - (k+1) < l.length - k;omega)
   rcases Nat.lt_or_eq_of_le (Nat.lt_succ_iff.1 hj) with h'|rfl
   ·exact hk2 j h' h
   ·exact g2
 obtain rfl:k=l.length:=by omega
 have hall:∀s∈l,okStep s=true:=fun s hs=>by obtain ⟨j,hj,rfl⟩:=List.getElem_of_mem hs;exact hk2 j hj hj
 have hok:okRun n l=true:=okRun_iff.2 ⟨g1,h30,hall⟩
 refine go ?_;intros
 refine cf (l15Own_f n _ F g1) fun z _=>?_
 refine t_app ?_
 obtain ⟨w,y⟩:=z
 dsimp only
 refine t_read (E:=EInt) (xs:=n.tree.parent) fun Ft=>?_
 refine t_weakL weak_Element (xs:=n.elements) fun He=>?_
 refine t_weakL weak_Receiver (xs:=n.receivers) fun Hr=>?_
 refine t_weakL (weak_OSl (Weak.refl EPacket) (by decide) _) (xs:=n.down) fun Hd=>?_
 refine t_weakL (weak_OSl (Weak.refl EPacket) (by decide) _) (xs:=n.up) fun Hu=>?_
 refine openSource (x:=n.source) ?_
 rintro b2 d2 G2 b3 d3 G3 ev - -
 simp only [Value.agg.injEq,Array.mk.injEq,List.cons.injEq,Value.slice.injEq,true_and,and_true] at ev
 obtain ⟨⟨rfl,rfl⟩,rfl,rfl⟩:=ev
 refine closeNet n (a1:=w.a1) (c1:=w.c1) (a2:=w.s.a) (c2:=w.s.c) (a3:=w.s.a2) (c3:=w.s.c2) (a4:=y.a4) (c4:=y.c4) (a5:=y.a5) (c5:=y.c5) (a6:=y.a6) (c6:=y.c6) (a7:=y.a7) (c7:=y.c7) ?_
 refine go ?_;intros
 rename_i g4
 refine c_loopS [1,4,10] (fun s:RqS=>[(8,.slice s.a s.x.2.length s.c),(11,.int .i64 (s.i:Nat))]) (fun s=>[.row g4 49 0 [] s.cs [],.isv ENet (.agg s.cs.toArray) s.x.1 s.F,.ow EStr 9 (.slice s.a s.x.2.length s.c) s.x.2 s.Fe]) (fun s=>s.i≤l.length∧goodNet s.x.1=true∧s.x.2.length≤400000 * s.i∧runL s.x (l.drop s.i) s.i=runL (n,[]) l 0) (fun s=>l.length - s.i) ⟨0,(n,[]),_,_,_,_,_⟩ ⟨Nat.zero_le _,g1,Nat.le_refl _,rfl⟩ fun s hs0=>?_
 obtain ⟨i,x,cs,Fx,ea,ec,eF⟩:=s
 obtain ⟨hi,gx,hx,hR⟩:=hs0
 dsimp only at hi gx hx hR ⊢
 refine openNet (x:=x.1) ?_
 rintro b1 d1 G1 b2 d2 G2 b3 d3 G3 b4 d4 G4 b5 d5 G5 b6 d6 G6 b7 d7 G7 ev - - - - - - -
 obtain rfl:cs=[.slice b1 x.1.tree.parent.length d1,.int .i64 x.1.source.window.trail,.int .i64 x.1.source.window.size,.slice b2 x.1.source.window.items.length d2,.int .i64 x.1.source.clock,.int .i64 x.1.source.quiet,.slice b3 x.1.source.holds.length d3,.slice b4 x.1.elements.length d4,.slice b5 x.1.receivers.length d5,.slice b6 x.1.down.length d6,.slice b7 x.1.up.length d7]:=by simpa using ev
 clear ev
 refine go ?_;intros
 refine c_if rfl (fun h4=>?_) (fun h4=>?_)
 ·have hil:i < l.length:=by omega
  have hok1:=hall l[i] (List.getElem_mem hil)
  rw [run_at hil] at hR
  refine atStep (xs:=l) i ?_
  rintro hi2 b9 o9 e9 s9
  rw [e9]
  cases e:stepN x.1 l[i] with
  | none =>
   rw [e] at hR
   rw [run_yes hok hR.symm]
   refine go ?_;intros
   refine d_start [0,8] [] ?_
   refine dt4 0 1 2 3 ?_
   refine dt 4 ?_
   refine dM 5 10 ?_ ?_
   ·refine oC ?_
    refine cf (l15Make_f x.1 l[i] _ _ FT s9 gx hok1) fun z _=>?_
    refine t_app ?_
    rw [res_none e]
    refine openNet (x:=zNet) ?_
    rintro f1 t1 G1 f2 t2 G2 f3 t3 G3 f4 t4 G4 f5 t5 G5 f6 t6 G6 f7 t7 G7 ez - - - - - - -
    rw [ez]
    refine dk ?_
    refine dt4 6 7 8 9 ?_
    refine dN 10 ?_
    apply o_alloc;rfl;intro _
    refine dk ?_
    refine dN 11 ?_
    refine oS ?_
    refine dk ?_
    refine dt2 12 13 ?_
    refine dd ?_
    refine go ?_;intros
    refine ret (⟨_,Fx,ea,ec,eF⟩:StZ) trivial rfl
   ·apply o_alloc;rfl;intro _
    refine dk ?_
    refine dN 5 ?_
    refine oC ?_
    refine cf (l15Make_f x.1 l[i] _ _ FT s9 gx hok1) fun z _=>?_
    refine t_app ?_
    rw [res_none e]
    refine openNet (x:=zNet) ?_
    rintro f1 t1 G1 f2 t2 G2 f3 t3 G3 f4 t4 G4 f5 t5 G5 f6 t6 G6 f7 t7 G7 ez - - - - - - -
    rw [ez]
    refine dk ?_
    refine dt4 6 7 8 9 ?_
    refine dN 11 ?_
    refine oS ?_
    refine dk ?_
    refine dt2 12 13 ?_
    refine dd ?_
    refine go ?_;intros
    refine ret (⟨_,Fx,ea,ec,eF⟩:StZ) trivial rfl
  | some r =>
   rw [e] at hR
   have hr:=step_good gx hok1 e
   have hf:=step_few gx hok1 e
   have hl9:(x.2++r.2).length=x.2.length+r.2.length:=List.length_append
   refine go ?_;intros
   refine d_start [0,8] [] ?_
   refine dt4 0 1 2 3 ?_
   refine dt 4 ?_
   refine dM 5 10 ?_ ?_
   ·refine oC ?_
    refine cf (l15Make_f x.1 l[i] _ _ FT s9 gx hok1) fun z _=>?_
    refine t_app ?_
    rw [res_some gx hok1 e]
    refine openNet (x:=r.1) ?_
    rintro f1 t1 G1 f2 t2 G2 f3 t3 G3 f4 t4 G4 f5 t5 G5 f6 t6 G6 f7 t7 G7 ez - - - - - - -
    rw [ez]
    refine dk ?_
    refine dt4 6 7 8 9 ?_
    refine dN 10 ?_
    apply o_alloc;rfl;intro _
    refine dk ?_
    refine dN 11 ?_
    refine oS ?_
    refine dk ?_
    refine dt2 12 13 ?_
    refine dd ?_
    refine t_read (E:=EStr) (xs:=r.2) fun F8=>?_
    refine go ?_;intros
    apply wO
    refine aps (E:=EStr) (xs:=x.2) (ys:=r.2) one_EStr scal_EStr fun a9 c9 F9=>?_
    refine go ?_;intros
    refine n_lp ⟨i+1,(r.1,x.2++r.2),_,z.F,a9,c9,F9⟩ ⟨hil,hr,by show (x.2++r.2).length≤400000 * (i+1);omega,hR⟩ (by show l.length - (i+1) < l.length - i;omega)
   ·apply o_alloc;rfl;intro _
    refine dk ?_
    refine dN 5 ?_
    refine oC ?_
    refine cf (l15Make_f x.1 l[i] _ _ FT s9 gx hok1) fun z _=>?_
    refine t_app ?_
    rw [res_some gx hok1 e]
    refine openNet (x:=r.1) ?_
    rintro f1 t1 G1 f2 t2 G2 f3 t3 G3 f4 t4 G4 f5 t5 G5 f6 t6 G6 f7 t7 G7 ez - - - - - - -
    rw [ez]
    refine dk ?_
    refine dt4 6 7 8 9 ?_
    refine dN 11 ?_
    refine oS ?_
    refine dk ?_
    refine dt2 12 13 ?_
    refine dd ?_
    refine t_read (E:=EStr) (xs:=r.2) fun F8=>?_
    refine go ?_;intros
    apply wO
    refine aps (E:=EStr) (xs:=x.2) (ys:=r.2) one_EStr scal_EStr fun a9 c9 F9=>?_
    refine go ?_;intros
    refine n_lp ⟨i+1,(r.1,x.2++r.2),_,z.F,a9,c9,F9⟩ ⟨hil,hr,by show (x.2++r.2).length≤400000 * (i+1);omega,hR⟩ (by show l.length - (i+1) < l.length - i;omega)
 ·obtain rfl:i=l.length:=by omega
  rw [List.drop_length] at hR
  rw [run_yes hok hR.symm]
  refine go ?_;intros
  refine ret (⟨_,Fx,_,_,_⟩:StZ) trivial rfl
theorem fn_slV {P:Program} {f:FuncId} {α:Type} (E:Elem α) (V:Value) (l:List α) (Fl:List Nat) {A M:List Pc} {args:List Value} {σ:Type} {C:σ→Prop} {v:σ→Value} {N:σ→List Pc} (hm:.sl E V l Fl∈M++A) (h:∀a c,V=.slice a l.length c→Fn P f args A M C v N):Fn P f args A M C v N:=fun w hH hS=>by
 obtain ⟨-,hs⟩:=hH (.sl E V l Fl) hm
 obtain ⟨a,c,e⟩:=hs.slice
 exact h a c e w hH hS
theorem RunNetV_f (n:Net) (l:List Step) (v:Value) (F:List Nat) (V:Value) (Fl FT:List Nat):Fn Tryz.prog 26 [v,V] [.isv ENet v n F,.sl EStep V l Fl,EnvP FT] [] (fun (_:StZ)=>True) (fun z=>.tuple #[.agg z.cs.toArray,.slice z.a (resRunNet n l).2.1.length z.c,.int .i64 (resRunNet n l).2.2.1,.bool (resRunNet n l).2.2.2]) (fun z=>[.own ONet (.agg z.cs.toArray) (resRunNet n l).1 z.F,.ow EStr 9 (.slice z.a (resRunNet n l).2.1.length z.c) (resRunNet n l).2.1 z.Fe]) :=
 fn_slV EStep V l Fl (by simp) fun a c e=>by subst e;exact RunNet_f n l v F a c Fl FT
theorem specRunNetV_f (n:Net) (l:List Step) (v:Value) (F:List Nat) (V:Value) (Fl FT:List Nat):Fn Tryz.prog 24 [v,V] [.isv ENet v n F,.sl EStep V l Fl,EnvP FT] [] (fun (_:StZ)=>True) (fun z=>.tuple #[.agg z.cs.toArray,.slice z.a (resRunNet n l).2.1.length z.c,.int .i64 (resRunNet n l).2.2.1,.bool (resRunNet n l).2.2.2]) (fun z=>[.isv ENet (.agg z.cs.toArray) (resRunNet n l).1 z.F,.ow EStr 9 (.slice z.a (resRunNet n l).2.1.length z.c) (resRunNet n l).2.1 z.Fe]) :=
 fn_slV EStep V l Fl (by simp) fun a c e=>by subst e;exact specRunNet_f n l v F a c Fl FT
end Go.Proofs.YtgmbfohkpfineaaGreatDoor
namespace Go.Proofs.YtgmbfohkpfineaaGreatDoor
open Go.ChangeShapes Go.WideShapes Go.ChangeAt Go.RowKit
theorem trodAll_below {H:Type} {enc:TypeId × Value→H} {P:Program} (hl:laidOutB P=true) {W W':World} (hb:Below W.heap.size W W') :
  ∀(ts:List TypeId) (vs:List Value) (ds:List (DataW H)) (ps:List MemPlace),(∀t∈ts,P.readableRec t=true∧t < P.types.size) →
   DataW.TrodAll enc P W 0 (fun _=>true) true ts vs ds ps→(∀x∈ps,x.block < W.heap.size)→DataW.TrodAll enc P W' 0 (fun b=>decide (b < W.heap.size)) true ts vs ds ps
 | [],vs,ds,ps,_,h,_=>by obtain ⟨rfl,rfl,rfl⟩:=trodAll_nil h;exact rfl
 | t::ts,vs,ds,ps,ht,h,hlt=>by
  obtain ⟨v,vs',d,ds',p,q,rfl,rfl,rfl,h1,h2⟩:=trodAll_cons h
  have ⟨a,b⟩:=ht t (by simp)
  exact ⟨p,q,Below.trod hl a b h1 hb fun x hx=>hlt x (by simp [hx]),trodAll_below hl hb ts vs' ds' q (fun t h=>ht t (by simp [h])) h2 fun x hx=>hlt x (by simp [hx]),rfl⟩
theorem law_post {H:Type} {enc:TypeId × Value→H} {P:Program} {f:Func} {s:ChangeSpec} {tb:TypeId} (hl:laidOutB P=true) (hr:∀t∈f.params.toList,P.readableRec t=true∧t < P.types.size)
  (hb:P.underlying tb=some .bool) (hres:f.resultTypes = #[tb]) (hv:s.vars=[]) {W W':World} {args:Array Value} {ds gs:List (DataW H)} {before:List MemPlace}
  (hs:s.fn H ds={ results:=[.lit (.bool true)],args:=ds }) (hW:DataW.Whole enc P f.params.toList s.vars false W args.toList ds gs before) (hB:Below W.heap.size W W') :
  s.post enc P f false true false false W args (.bool true) W':=by
 have hlt:=hW.lt
 have hW0:=hW
 obtain ⟨p,q,hA,hV,rfl,_,_⟩:=hW0
 rw [hv] at hV
 obtain ⟨rfl,rfl⟩:=trodVars_none hV
 refine ⟨ds,[],p++[],[],p,[],hW,?_,?_,?_,hB.frame _,fun h=>by cases h⟩
 ·rw [List.append_nil,hs,hres]
  exact trodAll_mk1 (shut_bool hb true)
 ·rw [List.append_nil,hs]
  exact trodAll_below hl hB _ _ _ _ hr hA fun x hx=>hlt x (by simpa using hx)
 ·rw [hv,List.append_nil,hs];exact rfl
def Reads (P:Program) {α:Type} (E:Elem α) (t:TypeId):Prop :=
 ∀{H:Type} {enc:TypeId × Value→H} {w:World} {fuel:Nat} {cs:List Value} {x:DataW H × List MemPlace},DataW.trod enc P w 0 (fun _=>true) true fuel t cs=some x→∃y F,E.rep w cs y F
section
variable {P:Program}
theorem reads_int {t:TypeId} (ht:P.underlying t=some (.int .i64)):Reads P EInt t:=fun h=>by
 obtain ⟨n,rfl,_,_⟩:=DataW.trod_int ht h;exact ⟨n,[],rfl,rfl⟩
theorem reads_str {t:TypeId} (ht:P.underlying t=some .string):Reads P EStr t:=fun h=>by
 obtain ⟨s,rfl,_,hs⟩:=DataW.trod_string ht h;exact ⟨s,[],rfl,hs,rfl⟩
theorem reads_bool {t:TypeId} (ht:P.underlying t=some .bool):Reads P EBool t:=fun {_ _ _ fuel _ _} h=>by
 cases fuel with
 | zero=>simp [DataW.trod] at h
 | succ n =>
  unfold DataW.trod at h
  rw [ht] at h
  split at h <;> simp_all
  all_goals simp [EBool]
theorem reads_cells {α:Type} {E:Elem α} {e:TypeId} (hsz:P.cellsOf e=E.sz) (he:Reads P E e) {H:Type} {enc:TypeId × Value→H} {w:World} {n b off:Nat} :
  ∀(els:List (DataW H × List MemPlace)) (k:Nat),(∀i,i < els.length→(w.cells? 0 ((⟨b,off,none⟩:Addr).add ((k+i) * P.cellsOf e)) (P.cellsOf e)).bind (DataW.trod enc P w 0 (fun _=>true) true n e)=els[i]?) →
   ∃ys F,ys.length=els.length∧Cells E w b (off+k * E.sz) ys F
 | [],_,_=>⟨[],[],rfl,rfl⟩
 | x::r,k,h=>by
  have h0:=h 0 (by simp)
  simp only [Nat.add_zero,List.getElem?_cons_zero,Option.bind_eq_some_iff] at h0
  obtain ⟨cs,hc,hx⟩:=h0
  obtain ⟨y,F1,hy⟩:=he hx
  obtain ⟨ys,F2,hl,hys⟩:=reads_cells hsz he r (k+1) fun i hi=>by
   have:=h (i+1) (by simpa using hi)
   rw [show k+1+i=k+(i+1) by omega]
   simpa using this
  refine ⟨y::ys,F1++F2,by simp [hl],cs,F1,F2,rfl,hy,fun j hj=>?_,by rwa [show off+k * E.sz+E.sz=off+(k+1) * E.sz by rw [Nat.add_mul];omega]⟩
  obtain ⟨_,hlen,hcell⟩:=World.cells?_some hc
  rw [←hcell j (by rw [hsz];exact hj)]
  congr 1
  simp only [Addr.add,hsz]
  split <;> split <;> simp_all <;> omega
theorem reads_slice {α:Type} {E:Elem α} {t e:TypeId} (ht:P.underlying t=some (.slice e)) (hsz:P.cellsOf e=E.sz) (hz:0 < E.sz) (he:Reads P E e):Reads P (ESl E hz) t:=fun h=>by
 rcases DataW.trod_slice ht h with ⟨rfl,_⟩|⟨a,len,cap,elems,rest,n,rfl,rfl,_,_,hlc,hcm,hlen,hel,_,_⟩
 ·exact ⟨[],[],_,rfl,none,0,rfl,⟨by simp,by simp⟩,.inl ⟨rfl,rfl,fun _=>rfl⟩⟩
 ·by_cases h0:len=0
  ·subst h0
   exact ⟨[],[],_,rfl,some a,cap,rfl,⟨by simp,by omega⟩,.inl ⟨rfl,rfl,fun e=>by cases e⟩⟩
  ·have hs:a=⟨a.block,a.off,none⟩:=by
    have:=hel 0 (by omega)
    rw [List.getElem?_eq_getElem (by omega)] at this
    simp only [Option.bind_eq_some_iff] at this
    obtain ⟨cs,hc,_⟩:=this
    obtain ⟨_,hl2,hcell⟩:=World.cells?_some hc
    have h1:=hcell 0 (by omega)
    rw [List.getElem?_eq_getElem (by omega)] at h1
    simp [Addr.add,World.cell?] at h1
    split at h1 <;> simp_all
    cases a;simp_all
   obtain ⟨ys,F,hyl,hys⟩:=reads_cells hsz he elems 0 (n:=n) (b:=a.block) (off:=a.off) (enc:=_) (w:=_) (by
    rw [←hs];intro i hi;rw [Nat.zero_add];exact hel i (by omega))
   refine ⟨ys,a.block::F,_,rfl,some a,cap,by rw [hyl,hlen],⟨by omega,by omega⟩,.inr ⟨a.block,a.off,F,by rw [←hs],?_,rfl,by simpa using hys⟩⟩
   intro e;rw [e] at hyl;simp at hyl;omega
end
inductive FieldsOk (P:Program):List Field→Nat→(α:Type)→Elem α→Prop
 | nil (off:Nat):FieldsOk P [] off Unit EUnit
 | cons {f:Field} {r:List Field} {off:Nat} {α β:Type} {A:Elem α} {B:Elem β} (ho:f.offset=off) (hc:P.cellsOf f.type=A.sz) (hA:Reads P A f.type) (h:FieldsOk P r (off+A.sz) β B):FieldsOk P (f::r) off (α × β) (EProd A B)
theorem fields_read {P:Program} {H:Type} {enc:TypeId × Value→H} {w:World} {n:Nat} {cs:List Value} {fs:List Field} {off:Nat} {α:Type} {E:Elem α} (h:FieldsOk P fs off α E) :
  (∀f∈fs,∃x,DataW.trod enc P w 0 (fun _=>true) true n f.type ((cs.drop f.offset).take (P.cellsOf f.type))=some x)→off+E.sz=cs.length→∃y F,E.rep w (cs.drop off) y F:=by
 induction h with
 | nil off=>intro _ hl;exact ⟨(),[],List.drop_of_length_le (by simp [EUnit] at hl;omega),rfl⟩
 | @cons f r off α β A B ho hc hA _ ih =>
  intro hf hl
  obtain ⟨x,hx⟩:=hf f (by simp)
  obtain ⟨y,F1,hy⟩:=hA hx
  obtain ⟨y2,F2,hy2⟩:=ih (fun f h=>hf f (by simp [h])) (by simp only [EProd] at hl;omega)
  subst ho
  exact ⟨(y,y2),F1++F2,_,_,F1,F2,by rw [hc,←List.drop_drop,List.take_append_drop],rfl,hy,hy2⟩
theorem reads_struct {P:Program} {t:TypeId} {fs:Array Field} {α:Type} {E:Elem α} (ht:P.underlying t=some (.struct fs)) (hC:P.cellsOf t=E.sz) (h:FieldsOk P fs.toList 0 α E):Reads P E t:=fun hh=>by
 obtain ⟨xs,n,rfl,_,hcl,hxl,hx⟩:=DataW.trod_struct ht hh
 have:=fields_read (enc:=_) (w:=_) (n:=n) h (fun f hf=>by
  obtain ⟨i,hi,rfl⟩:=List.getElem_of_mem hf
  have:=hx i fs.toList[i] (by simp)
  rw [List.getElem?_eq_getElem (by simpa [hxl] using hi)] at this
  exact ⟨_,this⟩) (by rw [hcl,hC];simp)
 simpa using this
end Go.Proofs.YtgmbfohkpfineaaGreatDoor
namespace Go.Proofs.YtgmbfohkpfineaaGreatDoor
open Go.RowKit
theorem goL {X:Prop} {c:Cx} {fr:Fr} {H:List Pc} {Φ:Gl} (h:X) (hs:Kp X→T c fr H Φ:=by intro hX;(repeat (first|apply c_seq|apply c_reg|(apply wO;apply oc;rfl;exact ydE)|(apply wO;apply oc;rfl;apply yd_ldw;rfl;exact memE;assumption)|apply w_nil|apply n_cd|(apply wg_t;rfl;rfl)|(apply wg_f;rfl;rfl;rfl;rfl)|(apply wg_u;rfl;rfl;rfl)|(apply c_t;rfl)|(apply c_f;rfl)|apply c_skip|apply c_block|apply n_blk|apply c_exit|apply e_hit|apply e_cd|apply e_lp|(apply e_miss;rfl)|apply c_ret|(apply wO;apply o_boxX;rfl;rfl;rfl;exact hX;clear hX;intro _ hX)|(apply wO;apply o_allocX;rfl;exact hX;clear hX;intro _ hX)|(apply wO;apply o_st;rfl;rfl;rfl;(first|exact AggC.s|exact OneC.s);rfl;exact rplE;exact putE;rfl)|(apply wO;apply o_stw;rfl;rfl;exact AggC.s;exact rplE;assumption;rfl;assumption)|(apply wO;apply o_call;rfl;kernel_rfl;exact evsE)|(refine c_if rfl (fun h=>absurd h (by first|omega|simp)) (fun h=>?_);clear h)|(refine wg_if rfl rfl (fun h=>absurd h (by first|omega|simp)) (fun h=>?_);clear h)));exact hX.h):T c fr H Φ:=hs ⟨h⟩
structure Log where
 durable:ByteArray
 pending:ByteArray
 count:Int
structure Console where
 net:Net
 log:Log
-- markConsole: a nested struct with several slices is not written here
section
variable {c:Cx} {fr:Fr} {H:List Pc} {Φ:Gl}
end
theorem markNet_f (v:Value) (x:Net) (F:List Nat) (k:Int) (p0:0≤k) (p1:k+cvNet x≤1099511627776):Fn Tryz.prog 15 [v,.int .i64 k] [] [.own ONet v x F] (fun (_:List Nat)=>True) (fun _=>.int .i64 (k+cvNet x)) (fun G=>[.own ONet v (mvNet k x) G]):=by
 have hcv:(cvNet x:Int)=cvTree x.tree+cvSource x.source+(cntL cntElement) x.elements+(cntL cntReceiver) x.receivers+(cntL (cntL cntPacket)) x.down+(cntL (cntL cntPacket)) x.up:=by unfold cvNet;push_cast;rfl
 refine enter Tryz.func15 rfl Tryz.ntmps15 fun w0=>?_
 refine openONet ?_
 rintro a1 c1 F1 a2 c2 F2 a3 c3 F3 a4 c4 F4 a5 c5 F5 a6 c6 F6 a7 c7 F7 rfl l1 l2 l3 l4 l5 l6 l7
 refine closeOTree x.tree ?_
 refine closeOSource x.source ?_
 refine go ?_;intros
 refine cf (fn_markV (fun w h hn=>markTree_c _ x.tree _ (k) w h hn (by omega) (by omega))) fun _ _=>?_
 refine t_app ?_
 refine go ?_;intros
 refine cf (fn_markV (fun w h hn=>markSource_c _ x.source _ (k+cvTree x.tree) w h hn (by omega) (by omega))) fun _ _=>?_
 refine t_app ?_
 refine go ?_;intros
 refine cf (fn_markL (fun w h hn=>markElementS_c _ x.elements _ (k+cvTree x.tree+cvSource x.source) w h hn (by omega) (by omega))) fun _ _=>?_
 refine t_app ?_
 refine go ?_;intros
 refine cf (fn_markL (fun w h hn=>markReceiverS_c _ x.receivers _ (k+cvTree x.tree+cvSource x.source+(cntL cntElement) x.elements) w h hn (by omega) (by omega))) fun _ _=>?_
 refine t_app ?_
 refine go ?_;intros
 refine cf (fn_markL (fun w h hn=>markPacketSS_c _ x.down _ (k+cvTree x.tree+cvSource x.source+(cntL cntElement) x.elements+(cntL cntReceiver) x.receivers) w h hn (by omega) (by omega))) fun _ _=>?_
 refine t_app ?_
 refine go ?_;intros
 refine cf (fn_markL (fun w h hn=>markPacketSS_c _ x.up _ (k+cvTree x.tree+cvSource x.source+(cntL cntElement) x.elements+(cntL cntReceiver) x.receivers+(cntL (cntL cntPacket)) x.down) w h hn (by omega) (by omega))) fun _ _=>?_
 refine t_app ?_
 refine go ?_;intros
 have h1:x.tree.parent.length=(mvNet k x).tree.parent.length:=(markL_len ..).symm
 have h2:x.source.window.items.length=(mvNet k x).source.window.items.length:=(markL_len ..).symm
 have h3:x.source.holds.length=(mvNet k x).source.holds.length:=(markL_len ..).symm
 have h4:x.elements.length=(mvNet k x).elements.length:=(markL_len ..).symm
 have h5:x.receivers.length=(mvNet k x).receivers.length:=(markL_len ..).symm
 have h6:x.down.length=(mvNet k x).down.length:=(markL_len ..).symm
 have h7:x.up.length=(mvNet k x).up.length:=(markL_len ..).symm
 rw [h1,h2,h3,h4,h5,h6,h7]
 refine openOTree (x:=mvTree k x.tree) ?_
 rintro b1 d1 G1 e1 -
 simp at e1
 obtain ⟨rfl, -,rfl⟩:=e1
 refine openOSource (x:=mvSource (k+cvTree x.tree) x.source) ?_
 rintro b2 d2 G2 b3 d3 G3 e2 - -
 simp at e2
 obtain ⟨-, -,⟨rfl, -,rfl⟩, -, -,rfl, -,rfl⟩:=e2
 refine closeONet (mvNet k x) (a6:=a6) (a7:=a7) ?_
 rw [show k+cvTree x.tree+cvSource x.source+(cntL cntElement) x.elements+(cntL cntReceiver) x.receivers+(cntL (cntL cntPacket)) x.down+(cntL (cntL cntPacket)) x.up=k+cvNet x by omega]
 refine ret _ trivial rfl
theorem toNetE_f (x:Net) (v:Value) (F:List Nat) (hl:wtNet x≤1048576):Fn Tryz.prog 10 [v] [.isv ENet v x F] [] (fun (_:Value × List Nat)=>True) (fun z=>z.1) (fun z=>[.own ONet z.1 x z.2]):=by
 unfold wtNet at hl
 refine enter Tryz.func10 rfl Tryz.ntmps10 fun w0=>?_
 refine openNet ?_
 rintro a1 c1 F1 a2 c2 F2 a3 c3 F3 a4 c4 F4 a5 c5 F5 a6 c6 F6 a7 c7 F7 rfl l1 l2 l3 l4 l5 l6 l7
 refine closeTree x.tree (a1:=a1) ?_
 refine closeSource x.source (a1:=a2) (a2:=a3) ?_
 refine go ?_;intros
 refine cv (fun w st=>toTree_c _ x.tree F1 w (st.get (p:=.isv ETree (.agg #[.slice a1 x.tree.parent.length c1]) x.tree F1) (by exact memE)) (by omega)) fun y1 K1=>?_
 refine openOTree (x:=x.tree) ?_
 rintro b1 d1 G1 e1 -
 rw [e1]
 refine go ?_;intros
 refine cv (fun w st=>toSource_c _ x.source (F2++F3) w (st.get (p:=.isv ESource (.agg #[.int .i64 x.source.window.trail,.int .i64 x.source.window.size,.slice a2 x.source.window.items.length c2,.int .i64 x.source.clock,.int .i64 x.source.quiet,.slice a3 x.source.holds.length c3]) x.source (F2++F3)) (by exact memE)) (by omega)) fun y1 K1=>?_
 refine openOSource (x:=x.source) ?_
 rintro b2 d2 G2 b3 d3 G3 e2 - -
 rw [e2]
 refine go ?_;intros
 refine cn (fun w st=>toElementS_c _ x.elements F4 w (st.get (p:=.sl EElement (.slice a4 x.elements.length c4) x.elements F4) (by exact memE)).2 (by omega)) fun b4 d4 G4=>?_
 refine go ?_;intros
 refine cn (fun w st=>toReceiverS_c _ x.receivers F5 w (st.get (p:=.sl EReceiver (.slice a5 x.receivers.length c5) x.receivers F5) (by exact memE)).2 (by omega)) fun b5 d5 G5=>?_
 refine go ?_;intros
 refine cn (fun w st=>toPacketSS_c _ x.down F6 w (st.get (p:=.sl (ESl EPacket (by decide)) (.slice a6 x.down.length c6) x.down F6) (by exact memE)).2 (by omega)) fun b6 d6 G6=>?_
 refine go ?_;intros
 refine cn (fun w st=>toPacketSS_c _ x.up F7 w (st.get (p:=.sl (ESl EPacket (by decide)) (.slice a7 x.up.length c7) x.up F7) (by exact memE)).2 (by omega)) fun b7 d7 G7=>?_
 refine go ?_;intros
 refine closeONet x ?_
 refine ret (_,_) trivial rfl
theorem toNetE_c (v:Value) (x:Net) (F:List Nat) (w:World) (h:IsV ENet w v x F) (hl:wtNet x≤1048576):Calls Tryz.prog 10 #[v] w (RetV ONet x w):=retV_of (toNetE_f x v F hl) rfl (hol1 h)
theorem slP {α:Type} {E:Elem α} {w:World} {v:Value} {xs:List α} (hz:0 < E.sz) (h:∃F',Sl E w v xs F'):∃b,(Pc.sl E v xs b).P w:=by
 obtain ⟨F',h⟩:=h
 exact ⟨F',hz,h⟩
theorem hol3 {p q r:Pc} {w:World} (h:p.P w) (h2:q.P w) (h3:r.P w):Hol [p,q,r] w:=fun x hx=>by
 simp only [List.mem_cons,List.not_mem_nil,or_false] at hx
 rcases hx with rfl|rfl|rfl
 ·exact h
 ·exact h2
 ·exact h3
structure JRunNet where
 g0:Nat
 L0:List Value
 F0:List Nat
 u1:Value
 F1:List Nat
theorem law_RunNet_f (v0:Value) (x0:Net) (F0:List Nat) (v1:Value) (x1:List Step) (F1 FT:List Nat):Fn Tryz.prog 6 [v0,v1] [.isv ENet v0 x0 F0,.sl EStep v1 x1 F1,EnvP FT] [] (fun (_:Unit)=>True) (fun _=>.bool true) (fun _=>[]):=by
 refine enter Tryz.func6 rfl Tryz.ntmps6 fun w0=>?_
 refine t_aggI (E:=ENet) (v:=v0) (x:=x0) (F:=F0) one_ENet ?_
 rintro ca0 rfl hla0 hoa0
 refine t_sl (E:=EStep) (v:=v1) (xs:=x1) (F:=F1) ?_
 rintro pa1 pc1 rfl hpl1 hpm1
 have hI:=fun V0 F0 V1 F1=>RunNetV_f x0 x1 V0 F0 V1 F1 FT
 have hS:=fun V0 F0 V1 F1=>specRunNetV_f x0 x1 V0 F0 V1 F1 FT
 have hV:=resRunNet_cv x0 x1
 obtain ⟨r0,r1,r2,r3,er⟩:∃r0 r1 r2 r3,resRunNet x0 x1=(r0,r1,r2,r3):=⟨_,_,_,_,rfl⟩
 rw [er] at hI hS hV
 dsimp only at hI hS hV
 refine goL ?_;intros
 refine cb (fun w st=>ex1 (fun F h=>szNet_c _ x0 F (1048576) w h (by omega) (by omega)) st.rI) ?_
 rcases szr_or (1048576) (wtNet x0) with ⟨e1,l1⟩|⟨e1,l1⟩
 ·rw [e1]
  refine goL ?_;intros
  refine ret () trivial rfl
 rw [e1]
 clear e1
 have hw0:wtNet x0≤1048576:=by omega
 refine goL ?_;intros
 refine cb (fun w st=>ex1 (fun F h=>szStepS_c _ x1 F (1048576 - (wtNet x0)) w h (by omega) (by omega)) st.rS) ?_
 rcases szr_or (1048576 - (wtNet x0)) (wtL wtStep x1) with ⟨e1,l1⟩|⟨e1,l1⟩
 ·rw [e1]
  refine goL ?_;intros
  refine ret () trivial rfl
 rw [e1]
 clear e1
 have hw1:wtL wtStep x1≤1048576:=by omega
 have hc0:=cvNet_wt x0 hw0
 have hc1:=cntStepS_wt x1 hw1
 obtain ⟨hV0,hV1⟩:=hV hw0 hw1
 refine goL ?_;intros
 refine cv (fun w st=>ex1 (fun F h=>toNetE_c _ x0 F w h hw0) st.rI) fun y0 K0=>?_
 refine t_weakV weak_Net fun K0=>?_
 refine goL ?_;intros
 refine cn (fun w st=>ex1 (fun F h=>toStepS_c _ x1 F w h hw1) st.rS) fun ya1 yc1 K1=>?_
 refine t_weakL ((Weak.refl _)) fun K1=>?_
 refine goL ?_;intros
 refine cf (hS _ _ _ _) fun z hz=>?_
 refine t_app ?_
 refine openNet ?_
 rintro b1 d1 G1 b2 d2 G2 b3 d3 G3 b4 d4 G4 b5 d5 G5 b6 d6 G6 b7 d7 G7 ez - - - - - - -
 rw [ez]
 refine t_weakL (Weak.refl _) (xs:=r1) fun Z1=>?_
 refine goL ?_;intros
 refine cv (fun w st=>ex1 (fun F h=>toNetE_c _ x0 F w h hw0) st.rI) fun yv0 KX0=>?_
 refine t_aggO (E:=ONet) (x:=x0) (F:=KX0) one_ONet ?_
 rintro cx0 rfl hlx0 hox0
 refine goL ?_;intros
 refine cn (fun w st=>ex1 (fun F h=>toStepS_c _ x1 F w h hw1) st.rS) fun yv1 yc1 KX1=>?_
 refine goL ?_;intros
 refine cm (fun w st=>ex2 (fun F F2 h h2=>(hI _ F _ F2).made w (hol3 h h2 (st.get (p:=EnvP FT) (by exact memE))) (fun _=>rfl)) (st.rO weak_Net) ((slP (by decide) (st.rL ((Weak.refl _)))))) fun z hz=>?_
 refine t_app ?_
 refine openONet ?_
 rintro b1 d1 G1 b2 d2 G2 b3 d3 G3 b4 d4 G4 b5 d5 G5 b6 d6 G6 b7 d7 G7 ez - - - - - - -
 rw [ez]
 refine closeONet r0 ?_
 refine goL ?_;intros
 refine cb (fun w st=>ex2 (fun Fa Fb ha hb=>eqNet_c _ _ r0 Fa Fb w ha hb) (st.rO weak_Net) st.rI) ?_
 refine goL ?_;intros
 refine cb (fun w st=>ex2 (fun Fa Fb ha hb=>eqStringS_c _ _ r1 Fa Fb w ha hb) (st.rL ((Weak.refl _))) st.rS) ?_
 refine goL ?_;intros
 refine d_startA [] ?_
 refine dt 0 ?_ (hy:=(by first|exact ydE|exact yd_ldw rfl (by exact memE) (by assumption)))
 refine dt 1 ?_ (hy:=(by first|exact ydE|exact yd_ldw rfl (by exact memE) (by assumption)))
 refine dN 2 ?_
 refine oC ?_
 refine cv (fun w st=>ex1 (fun F h=>toNetE_c _ x0 F w h hw0) st.rI) fun y0 K0=>?_
 refine t_weakV weak_Net fun K0=>?_
 refine dk ?_
 refine dN 3 ?_
 refine oC ?_
 refine cb (fun w st=>ex2 (fun Fa Fb ha hb=>eqNet_c _ _ x0 Fa Fb w ha hb) (st.rO weak_Net) st.rI) ?_
 refine dk ?_
 refine dt 4 ?_
 refine dd ?_
 refine goL ?_;intros
 refine cn (fun w st=>ex1 (fun F h=>toStepS_c _ x1 F w h hw1) st.rS) fun ya1 yc1 K1=>?_
 refine t_weakL ((Weak.refl _)) (xs:=x1) fun K1=>?_
 refine goL ?_;intros
 refine cb (fun w st=>ex2 (fun Fa Fb ha hb=>eqStepS_c _ _ x1 Fa Fb w ha hb) (st.rL ((Weak.refl _))) st.rS) ?_
 refine goL ?_;intros
 refine cf (markNet_f _ x0 _ (1) (by omega) (by omega)) fun _ _=>?_
 refine t_app ?_
 refine goL ?_;intros
 refine cf (fn_markL (fun w h hn=>markStepS_c _ x1 _ (1+cvNet x0) w h hn (by omega) (by omega))) fun _ _=>?_
 refine t_app ?_
 refine goL ?_;intros
 refine cb (fun w st=>ex2 (fun Fa Fb ha hb=>eqNet_c _ _ r0 Fa Fb w ha hb) (st.rO weak_Net) st.rI) ?_
 refine goL ?_;intros
 refine cb (fun w st=>ex2 (fun Fa Fb ha hb=>eqStringS_c _ _ r1 Fa Fb w ha hb) (st.rL ((Weak.refl _))) st.rS) ?_
 refine goL ?_;intros
 refine cf (markNet_f _ r0 _ (1) (by omega) (by omega)) fun _ _=>?_
 refine t_app ?_
 refine goL ?_;intros
 refine cf (fn_markL (fun w h hn=>markStringS_c _ r1 _ (1+cvNet r0) w h hn (by omega) (by omega))) fun _ _=>?_
 refine t_app ?_
 refine goL ?_;intros
 refine cb (fun w st=>ex1 (fun F h=>heldNet_c _ r0 F (1) w h (by omega) (by omega)) (st.rO weak_Net)) ?_
 refine goL ?_;intros
 refine cb (fun w st=>ex1 (fun F h=>heldStringS_c _ r1 F (1+cvNet r0) w h (by omega) (by omega)) (st.rL ((Weak.refl _)))) ?_
 refine goL ?_;intros
 refine cv (fun w st=>ex1 (fun F h=>toNetE_c _ x0 F w h hw0) st.rI) fun y0 K0=>?_
 refine t_weakV weak_Net fun K0=>?_
 refine goL ?_;intros
 refine cn (fun w st=>ex1 (fun F h=>toStepS_c _ x1 F w h hw1) st.rS) fun ya1 yc1 K1=>?_
 refine t_weakL ((Weak.refl _)) fun K1=>?_
 refine goL ?_;intros
 refine cm (fun w st=>ex2 (fun F F2 h h2=>(hI _ F _ F2).made w (hol3 h h2 (st.get (p:=EnvP FT) (by exact memE))) (fun _=>rfl)) (st.rI) ((slP (by decide) st.rS))) fun z hz=>?_
 refine t_app ?_
 refine openONet ?_
 rintro b1 d1 G1 b2 d2 G2 b3 d3 G3 b4 d4 G4 b5 d5 G5 b6 d6 G6 b7 d7 G7 ez - - - - - - -
 rw [ez]
 refine closeONet r0 ?_
 refine goL ?_;intros
 refine cb (fun w st=>ex2 (fun Fa Fb ha hb=>eqNet_c _ _ r0 Fa Fb w ha hb) (st.rO weak_Net) st.rI) ?_
 refine goL ?_;intros
 refine cb (fun w st=>ex2 (fun Fa Fb ha hb=>eqStringS_c _ _ r1 Fa Fb w ha hb) (st.rL ((Weak.refl _))) st.rS) ?_
 refine goL ?_;intros
 refine cb (fun w st=>ex1 (fun F h=>heldNet_c _ r0 F (1) w h (by omega) (by omega)) (st.rO weak_Net)) ?_
 refine goL ?_;intros
 refine cb (fun w st=>ex1 (fun F h=>heldStringS_c _ r1 F (1+cvNet r0) w h (by omega) (by omega)) (st.rL ((Weak.refl _)))) ?_
 refine goL ?_;intros
 refine ret () trivial rfl
theorem law_RunNet (v0:Value) (x0:Net) (F0:List Nat) (v1:Value) (x1:List Step) (F1 FT:List Nat) (w:World) (h0:IsV ENet w v0 x0 F0) (h1:Sl EStep w v1 x1 F1) (hT:(EnvP FT).P w) :
  Calls Tryz.prog 6 #[v0,v1] w fun e' w'=>e'=.returned (.bool true)∧Below w.heap.size w w':=(law_RunNet_f v0 x0 F0 v1 x1 F1 FT).val w (fun p hp=>by
   simp only [List.mem_cons,List.not_mem_nil,or_false] at hp
   rcases hp with rfl|rfl|rfl
   ·exact h0
   ·exact ⟨by decide,h1⟩
   ·exact hT)
theorem env_RunNet {W:World} (h:laidMetH Tryz.prog Rows.fnExactRunNetRow.laid W):(EnvP [2]).P W:=by
 rw [MakeChecks.laidMetH_plain _ _ _ (by kernel_rfl)] at h
 have h3:=h.tail.tail
 have e:(Rows.laid_internal_strconv_uint64pow10:DataW Unit)=Lib.tabData .u64 Lib.pow10Tab:=by kernel_rfl
 rw [e] at h3
 have ht:Lib.TabIs Tryz.prog W "internal/strconv.uint64pow10" .u64 Lib.pow10Tab:=Lib.tabIs_of_head (g:=2) (t:=370) (e:=354) (n:=20) (by kernel_rfl) (by kernel_rfl) Tryz.underlying370 Tryz.underlying354 (by kernel_rfl) (by kernel_rfl) h3
 have hc:=Lib.TabIs.cell ht (g:=2) (by kernel_rfl) 0 (by rw [Lib.pow10Tab_length];omega)
 refine ⟨[],rfl,rfl,ht,rfl,fun b hb=>?_⟩
 simp only [List.mem_cons,List.not_mem_nil,or_false] at hb
 subst hb
 exact World.block_lt_of_cell? W ⟨2,0,none⟩ hc
end Go.Proofs.YtgmbfohkpfineaaGreatDoor
namespace Go.Proofs.YtgmbfohkpfineaaGreatDoor
open Go.RowKit Go.ChangeShapes Go.WideShapes Go.ChangeAt
theorem reads_Tree:Reads Tryz.prog ETree 24:=fun hh=>by
 obtain ⟨y,F,hy⟩:=reads_struct (E:=(EProd (ESl EInt (by decide)) EUnit)) Tryz.underlying24 (by kernel_rfl) (.cons rfl (by kernel_rfl) (reads_slice Tryz.underlying22 (by kernel_rfl) (by decide) (reads_int Tryz.underlying3)) (.nil _)) hh
 obtain ⟨_,_,_,_,rfl,rfl,⟨u0,rfl,hs0⟩,⟨rfl,rfl⟩⟩:=hy
 exact ⟨⟨y.1⟩,_,u0,rfl,by simpa using hs0⟩
theorem reads_SendWindow:Reads Tryz.prog ESendWindow 27:=fun hh=>by
 obtain ⟨y,F,hy⟩:=reads_struct (E:=(EProd EInt (EProd EInt (EProd (ESl EStr (by decide)) EUnit)))) Tryz.underlying27 (by kernel_rfl) (.cons rfl (by kernel_rfl) (reads_int Tryz.underlying3) (.cons rfl (by kernel_rfl) (reads_int Tryz.underlying3) (.cons rfl (by kernel_rfl) (reads_slice Tryz.underlying25 (by kernel_rfl) (by decide) (reads_str Tryz.underlying9)) (.nil _)))) hh
 obtain ⟨_,_,_,_,rfl,rfl,⟨rfl,rfl⟩,⟨_,_,_,_,rfl,rfl,⟨rfl,rfl⟩,⟨_,_,_,_,rfl,rfl,⟨u2,rfl,hs2⟩,⟨rfl,rfl⟩⟩⟩⟩:=hy
 exact ⟨⟨y.1,y.2.1,y.2.2.1⟩,_,u2,rfl,by simpa using hs2⟩
theorem reads_Hold:Reads Tryz.prog EHold 217:=fun hh=>by
 obtain ⟨y,F,hy⟩:=reads_struct (E:=(EProd EInt (EProd EInt EUnit))) Tryz.underlying217 (by kernel_rfl) (.cons rfl (by kernel_rfl) (reads_int Tryz.underlying3) (.cons rfl (by kernel_rfl) (reads_int Tryz.underlying3) (.nil _))) hh
 obtain ⟨_,_,_,_,rfl,rfl,⟨rfl,rfl⟩,⟨_,_,_,_,rfl,rfl,⟨rfl,rfl⟩,⟨rfl,rfl⟩⟩⟩:=hy
 exact ⟨⟨y.1,y.2.1⟩,[],rfl,rfl⟩
theorem reads_Source:Reads Tryz.prog ESource 30:=fun hh=>by
 obtain ⟨y,F,hy⟩:=reads_struct (E:=(EProd ESendWindow (EProd EInt (EProd EInt (EProd (ESl EHold (by decide)) EUnit))))) Tryz.underlying30 (by kernel_rfl) (.cons rfl (by kernel_rfl) reads_SendWindow (.cons rfl (by kernel_rfl) (reads_int Tryz.underlying3) (.cons rfl (by kernel_rfl) (reads_int Tryz.underlying3) (.cons rfl (by kernel_rfl) (reads_slice Tryz.underlying28 (by kernel_rfl) (by decide) reads_Hold) (.nil _))))) hh
 obtain ⟨_,_,_,_,rfl,rfl,⟨u0_0,rfl,hs0_0⟩,⟨_,_,_,_,rfl,rfl,⟨rfl,rfl⟩,⟨_,_,_,_,rfl,rfl,⟨rfl,rfl⟩,⟨_,_,_,_,rfl,rfl,⟨u3,rfl,hs3⟩,⟨rfl,rfl⟩⟩⟩⟩⟩:=hy
 exact ⟨⟨y.1,y.2.1,y.2.2.1,y.2.2.2.1⟩,_,u0_0,u3,_,_,rfl,hs0_0,hs3,rfl⟩
theorem reads_Entry:Reads Tryz.prog EEntry 263:=fun hh=>by
 obtain ⟨y,F,hy⟩:=reads_struct (E:=(EProd EInt (EProd (ESl EInt (by decide)) (EProd EInt EUnit)))) Tryz.underlying263 (by kernel_rfl) (.cons rfl (by kernel_rfl) (reads_int Tryz.underlying3) (.cons rfl (by kernel_rfl) (reads_slice Tryz.underlying22 (by kernel_rfl) (by decide) (reads_int Tryz.underlying3)) (.cons rfl (by kernel_rfl) (reads_int Tryz.underlying3) (.nil _)))) hh
 obtain ⟨_,_,_,_,rfl,rfl,⟨rfl,rfl⟩,⟨_,_,_,_,rfl,rfl,⟨u1,rfl,hs1⟩,⟨_,_,_,_,rfl,rfl,⟨rfl,rfl⟩,⟨rfl,rfl⟩⟩⟩⟩:=hy
 exact ⟨⟨y.1,y.2.1,y.2.2.1⟩,_,u1,rfl,by simpa using hs1⟩
theorem reads_Element:Reads Tryz.prog EElement 112:=fun hh=>by
 obtain ⟨y,F,hy⟩:=reads_struct (E:=(EProd EInt (EProd (ESl EEntry (by decide)) EUnit))) Tryz.underlying112 (by kernel_rfl) (.cons rfl (by kernel_rfl) (reads_int Tryz.underlying3) (.cons rfl (by kernel_rfl) (reads_slice Tryz.underlying110 (by kernel_rfl) (by decide) reads_Entry) (.nil _))) hh
 obtain ⟨_,_,_,_,rfl,rfl,⟨rfl,rfl⟩,⟨_,_,_,_,rfl,rfl,⟨u1,rfl,hs1⟩,⟨rfl,rfl⟩⟩⟩:=hy
 exact ⟨⟨y.1,y.2.1⟩,_,u1,rfl,by simpa using hs1⟩
theorem reads_Slot:Reads Tryz.prog ESlot 314:=fun hh=>by
 obtain ⟨y,F,hy⟩:=reads_struct (E:=(EProd EBool (EProd EStr EUnit))) Tryz.underlying314 (by kernel_rfl) (.cons rfl (by kernel_rfl) (reads_bool Tryz.underlying4) (.cons rfl (by kernel_rfl) (reads_str Tryz.underlying9) (.nil _))) hh
 obtain ⟨_,_,_,_,rfl,rfl,⟨rfl,rfl⟩,⟨_,_,_,_,rfl,rfl,⟨rfl,s1,rfl⟩,⟨rfl,rfl⟩⟩⟩:=hy
 exact ⟨⟨y.1,y.2.1⟩,[],rfl,s1,rfl⟩
theorem reads_ReceiveWindow:Reads Tryz.prog EReceiveWindow 116:=fun hh=>by
 obtain ⟨y,F,hy⟩:=reads_struct (E:=(EProd EInt (EProd (ESl ESlot (by decide)) EUnit))) Tryz.underlying116 (by kernel_rfl) (.cons rfl (by kernel_rfl) (reads_int Tryz.underlying3) (.cons rfl (by kernel_rfl) (reads_slice Tryz.underlying114 (by kernel_rfl) (by decide) reads_Slot) (.nil _))) hh
 obtain ⟨_,_,_,_,rfl,rfl,⟨rfl,rfl⟩,⟨_,_,_,_,rfl,rfl,⟨u1,rfl,hs1⟩,⟨rfl,rfl⟩⟩⟩:=hy
 exact ⟨⟨y.1,y.2.1⟩,_,u1,rfl,by simpa using hs1⟩
theorem reads_Request:Reads Tryz.prog ERequest 283:=fun hh=>by
 obtain ⟨y,F,hy⟩:=reads_struct (E:=(EProd EInt (EProd EInt (EProd EInt (EProd EInt EUnit))))) Tryz.underlying283 (by kernel_rfl) (.cons rfl (by kernel_rfl) (reads_int Tryz.underlying3) (.cons rfl (by kernel_rfl) (reads_int Tryz.underlying3) (.cons rfl (by kernel_rfl) (reads_int Tryz.underlying3) (.cons rfl (by kernel_rfl) (reads_int Tryz.underlying3) (.nil _))))) hh
 obtain ⟨_,_,_,_,rfl,rfl,⟨rfl,rfl⟩,⟨_,_,_,_,rfl,rfl,⟨rfl,rfl⟩,⟨_,_,_,_,rfl,rfl,⟨rfl,rfl⟩,⟨_,_,_,_,rfl,rfl,⟨rfl,rfl⟩,⟨rfl,rfl⟩⟩⟩⟩⟩:=hy
 exact ⟨⟨y.1,y.2.1,y.2.2.1,y.2.2.2.1⟩,[],rfl,rfl⟩
theorem reads_Receiver:Reads Tryz.prog EReceiver 119:=fun hh=>by
 obtain ⟨y,F,hy⟩:=reads_struct (E:=(EProd EBool (EProd EInt (EProd EReceiveWindow (EProd (ESl ERequest (by decide)) EUnit))))) Tryz.underlying119 (by kernel_rfl) (.cons rfl (by kernel_rfl) (reads_bool Tryz.underlying4) (.cons rfl (by kernel_rfl) (reads_int Tryz.underlying3) (.cons rfl (by kernel_rfl) reads_ReceiveWindow (.cons rfl (by kernel_rfl) (reads_slice Tryz.underlying117 (by kernel_rfl) (by decide) reads_Request) (.nil _))))) hh
 obtain ⟨_,_,_,_,rfl,rfl,⟨rfl,rfl⟩,⟨_,_,_,_,rfl,rfl,⟨rfl,rfl⟩,⟨_,_,_,_,rfl,rfl,⟨u2_0,rfl,hs2_0⟩,⟨_,_,_,_,rfl,rfl,⟨u3,rfl,hs3⟩,⟨rfl,rfl⟩⟩⟩⟩⟩:=hy
 exact ⟨⟨y.1,y.2.1,y.2.2.1,y.2.2.2.1⟩,_,u2_0,u3,_,_,rfl,hs2_0,hs3,rfl⟩
theorem reads_Packet:Reads Tryz.prog EPacket 191:=fun hh=>by
 obtain ⟨y,F,hy⟩:=reads_struct (E:=(EProd EInt (EProd EInt (EProd EInt (EProd EInt (EProd EStr EUnit)))))) Tryz.underlying191 (by kernel_rfl) (.cons rfl (by kernel_rfl) (reads_int Tryz.underlying3) (.cons rfl (by kernel_rfl) (reads_int Tryz.underlying3) (.cons rfl (by kernel_rfl) (reads_int Tryz.underlying3) (.cons rfl (by kernel_rfl) (reads_int Tryz.underlying3) (.cons rfl (by kernel_rfl) (reads_str Tryz.underlying9) (.nil _)))))) hh
 obtain ⟨_,_,_,_,rfl,rfl,⟨rfl,rfl⟩,⟨_,_,_,_,rfl,rfl,⟨rfl,rfl⟩,⟨_,_,_,_,rfl,rfl,⟨rfl,rfl⟩,⟨_,_,_,_,rfl,rfl,⟨rfl,rfl⟩,⟨_,_,_,_,rfl,rfl,⟨rfl,s4,rfl⟩,⟨rfl,rfl⟩⟩⟩⟩⟩⟩:=hy
 exact ⟨⟨y.1,y.2.1,y.2.2.1,y.2.2.2.1,y.2.2.2.2.1⟩,[],rfl,s4,rfl⟩
theorem reads_Net:Reads Tryz.prog ENet 35:=fun hh=>by
 obtain ⟨y,F,hy⟩:=reads_struct (E:=(EProd ETree (EProd ESource (EProd (ESl EElement (by decide)) (EProd (ESl EReceiver (by decide)) (EProd (ESl (ESl EPacket (by decide)) (by decide)) (EProd (ESl (ESl EPacket (by decide)) (by decide)) EUnit))))))) Tryz.underlying35 (by kernel_rfl) (.cons rfl (by kernel_rfl) reads_Tree (.cons rfl (by kernel_rfl) reads_Source (.cons rfl (by kernel_rfl) (reads_slice Tryz.underlying31 (by kernel_rfl) (by decide) reads_Element) (.cons rfl (by kernel_rfl) (reads_slice Tryz.underlying32 (by kernel_rfl) (by decide) reads_Receiver) (.cons rfl (by kernel_rfl) (reads_slice Tryz.underlying33 (by kernel_rfl) (by decide) (reads_slice Tryz.underlying121 (by kernel_rfl) (by decide) reads_Packet)) (.cons rfl (by kernel_rfl) (reads_slice Tryz.underlying33 (by kernel_rfl) (by decide) (reads_slice Tryz.underlying121 (by kernel_rfl) (by decide) reads_Packet)) (.nil _))))))) hh
 obtain ⟨_,_,_,_,rfl,rfl,⟨u0_0,rfl,hs0_0⟩,⟨_,_,_,_,rfl,rfl,⟨u1_0,u1_1,G1_0,G1_1,rfl,hs1_0,hs1_1,rfl⟩,⟨_,_,_,_,rfl,rfl,⟨u2,rfl,hs2⟩,⟨_,_,_,_,rfl,rfl,⟨u3,rfl,hs3⟩,⟨_,_,_,_,rfl,rfl,⟨u4,rfl,hs4⟩,⟨_,_,_,_,rfl,rfl,⟨u5,rfl,hs5⟩,⟨rfl,rfl⟩⟩⟩⟩⟩⟩⟩:=hy
 exact ⟨⟨y.1,y.2.1,y.2.2.1,y.2.2.2.1,y.2.2.2.2.1,y.2.2.2.2.2.1⟩,_,u0_0,u1_0,u1_1,u2,u3,u4,u5,_,_,_,_,_,_,_,rfl,hs0_0,hs1_0,hs1_1,hs2,hs3,hs4,hs5,rfl⟩
theorem reads_Step:Reads Tryz.prog EStep 37:=fun hh=>by
 obtain ⟨y,F,hy⟩:=reads_struct (E:=(EProd EInt (EProd EInt (EProd EStr EUnit)))) Tryz.underlying37 (by kernel_rfl) (.cons rfl (by kernel_rfl) (reads_int Tryz.underlying3) (.cons rfl (by kernel_rfl) (reads_int Tryz.underlying3) (.cons rfl (by kernel_rfl) (reads_str Tryz.underlying9) (.nil _)))) hh
 obtain ⟨_,_,_,_,rfl,rfl,⟨rfl,rfl⟩,⟨_,_,_,_,rfl,rfl,⟨rfl,rfl⟩,⟨_,_,_,_,rfl,rfl,⟨rfl,s2,rfl⟩,⟨rfl,rfl⟩⟩⟩⟩:=hy
 exact ⟨⟨y.1,y.2.1,y.2.2.1⟩,[],rfl,s2,rfl⟩
theorem lifted_RunNet (os:Os) (started:os.Started) (H:Type) (enc:TypeId × Value→H) :
  ReturnsInHanded {} Tryz.checked os 6 .any (fun w args=>(Rows.fnExactRunNetSpec.pre enc Tryz.prog Tryz.f6 Rows.fnExactRunNetRow.domain false w args∧laidMetH Tryz.prog Rows.fnExactRunNetRow.laid w)∧sizedMet enc Tryz.prog Tryz.f6 (OpenSpec.ofChange Rows.fnExactRunNetSpec) false w args)
   (Rows.fnExactRunNetSpec.post enc Tryz.prog Tryz.f6 false true false false):=by
 refine returnsInHanded_of_change_and (C:=Tryz.checked) (X:=fun w _=>laidMetH Tryz.prog Rows.fnExactRunNetRow.laid w) (fun _ _ _ hh h=>h.of_heap hh) (by kernel_rfl) started (by kernel_rfl) Tryz.func6
  (ChangeSpec.witness_shaped (enc:=enc) (C:=Tryz.checked) (os:=os) (X:=fun w _=>laidMetH Tryz.prog Rows.fnExactRunNetRow.laid w) false (World.laidAll Tryz.prog os Rows.fnExactRunNetRow.laid) #[.agg #[.slice none 0 0,.int .i64 0,.int .i64 0,.slice none 0 0,.int .i64 0,.int .i64 0,.slice none 0 0,.slice none 0 0,.slice none 0 0,.slice none 0 0,.slice none 0 0],.slice none 0 0] 8 (World.laidAll_os _ _ _)
   (World.shaped_of_ZipB (by kernel_rfl) (by kernel_rfl)) (by kernel_rfl) (by kernel_rfl) (by kernel_rfl)
   (by rw [MakeChecks.laidMetH_plain _ _ _ (by kernel_rfl)];exact laidMet_laidAll _ (by kernel_rfl) (by kernel_rfl))) ?_
 intro W base args ds gs before hval0 hW hc_ _ hL _
 have hval:∀(j:Nat) t v,Tryz.f6.params[j]?=some t→args[j]?=some v→Value.okWide Tryz.prog W .any base t v:=hval0
 have hW':=hW
 obtain ⟨p,q,hA0,hV,rfl,hfz,hnd⟩:=hW
 have hA:DataW.TrodAll enc Tryz.prog W 0 (fun _=>true) true Tryz.f6.params.toList args.toList ds p:=hA0
 rw [Tryz.params6] at hA hval
 obtain ⟨v0,v1,d0,d1,p0,p1,rfl,rfl,rfl,h0,h1⟩:=trodAll_two hA
 obtain ⟨cs0,rfl,hsz0⟩:=okWide_struct Tryz.underlying35 (hval 0 35 v0 rfl rfl)
 obtain ⟨fuel0,hf0⟩:=h0
 obtain ⟨x0,F0,hx0⟩:=reads_Net hf0
 obtain ⟨a1,l1,c1,rfl⟩:=okWide_slice Tryz.underlying64 (hval 1 64 v1 rfl rfl)
 obtain ⟨fuel1,hf1⟩:=h1
 obtain ⟨x1,F1,u1,hu1,hs1⟩:=(reads_slice Tryz.underlying64 (by kernel_rfl) (by decide) reads_Step) hf1
 obtain rfl:Value.slice a1 l1 c1=u1:=by simpa [Value.cells] using hu1
 refine (law_RunNet _ x0 F0 _ x1 F1 _ W ⟨cs0.toList,by simp,by simpa [Value.cells] using hx0⟩ hs1 (env_RunNet hL)).mono fun e W' ⟨he,hB⟩=>⟨_,he,law_post (tb:=4) (by kernel_rfl) ?_ Tryz.underlying4 (by kernel_rfl) rfl rfl hW' hB⟩
 rw [Tryz.params6]
 intro t ht
 simp only [List.mem_cons,List.not_mem_nil,or_false] at ht
 rcases ht with rfl|rfl <;> exact ⟨by kernel_rfl,of_decide_eq_true (by kernel_rfl)⟩
end Go.Proofs.YtgmbfohkpfineaaGreatDoor
